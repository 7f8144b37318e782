/-
  A part of what LawC rests on: the logic, walks and plain laws. No condition.
-/
import Derived.Test.YtpkijiejccngcaaGreatDoorPC6
import Derived.LaidMore
import Derived.Lay
import Derived.SevenTiedAt
import Derived.Stop.Joined
import Derived.Test.YtpkijiejccngcaaGreatDoorCards
import Derived.Test.YtpkijiejccngcaaGreatDoorTie
import Derived.Deep.DeepHandedRow
namespace Go.Proofs.YtpkijiejccngcaaGreatDoor
open _root_.Go.Proofs.Tryz
open Go.RowKit
set_option linter.unusedVariables false
set_option linter.unusedSimpArgs false
set_option linter.unusedSectionVars false
set_option maxRecDepth 100000
theorem sI_mem {α:Type}{f:α→Int}:∀ {l:List α},(∀ x∈l,0≤f x)→∀ x∈l,f x≤sI l f
 |y::l,h,x,hx=>by
  have h0:=h y (by simp);have h1:=sI_nonneg (f:=f) (l:=l) fun z hz=>h z (by simp[hz])
  rcases List.mem_cons.1 hx with rfl|hx
  ·show f x≤f x+sI l f;omega
  ·have:=sI_mem (f:=f) (l:=l) (fun z hz=>h z (by simp[hz])) x hx;show f x≤f y+sI l f;omega
theorem sI_len {α:Type}{f:α→Int}:∀ {l:List α},(∀ x∈l,1≤f x)→(l.length:Int)≤sI l f
 |[],_=>by simp[sI]
 |y::l,h=>by
  have h0:=h y (by simp);have h1:=sI_len (f:=f) (l:=l) fun z hz=>h z (by simp[hz])
  simp only[List.length_cons,sI];omega
theorem rounds_inv {n:Nn}{f:Flr}{o:Odr}{P:List Sha→Prop}(hP:∀ {own:List Sha} {l:List Nat} {ld ld2:List Int},P own→partF n f o ld=some (l,ld2)→P (putS l own)):∀ {k:Nat} {ld ld2:List Int} {own own2:List Sha} {b:Bool},roundsF n f o k ld own=(b,ld2,own2)→P own→P own2
 |0,ld,ld2,own,own2,b,e,h=>by
  rw[roundsF] at e;obtain⟨_,e2⟩:=Prod.mk.inj e;obtain⟨_,rfl⟩:=Prod.mk.inj e2;exact h
 |k+1,ld,ld2,own,own2,b,e,h=>by
  cases hp:partF n f o ld with
  |none=>
   rw[rounds_no hp] at e;obtain⟨_,e2⟩:=Prod.mk.inj e;obtain⟨_,rfl⟩:=Prod.mk.inj e2;exact h
  |some x=>
   obtain⟨l,ld3⟩:=x;rw[rounds_yes hp] at e;exact rounds_inv hP e (hP h hp)
theorem goR_inv {n:Nn}{f:Flr}{P:List Sha→Prop}(h0:P []):∀ {os:List Odr} {ld:List Int} {out sh:List (List Sha)} {r:Option (List Int × Odr)},(∀ o∈os,∀ {own:List Sha} {l:List Nat} {ld ld2:List Int},P own→partF n f o ld=some (l,ld2)→P (putS l own))→goR n f os ld out=(sh,r)→(∀ x∈out,P x)→∀ x∈sh,P x
 |[],ld,out,sh,r,_,e,h=>by
  obtain⟨rfl,_⟩:=Prod.mk.inj (show (out,none)=(sh,r) from e);exact h
 |o::os,ld,out,sh,r,hP,e,h=>by
  cases hr:roundsF n f o 16 ld [] with
  |mk b x=>
   obtain⟨ld2,own⟩:=x;cases b with
   |false=>
    rw[goR_no hr] at e;obtain⟨rfl,_⟩:=Prod.mk.inj e;exact h
   |true=>
    rw[goR_yes hr] at e;refine goR_inv h0 (fun o ho=>hP o (by simp[ho])) e fun x hx=> ?_
    rcases List.mem_append.1 hx with hx|hx
    ·exact h x hx
    ·simp at hx;subst hx;exact rounds_inv (hP o (by simp)) hr h0
def Rg (r:List Sha):Prop:=SrtS r∧∀ s∈r,s.l.length≤2400
theorem part_len {n:Nn}(hok:NnOk n){f:Flr}{o:Odr}(ho:OdrOk n o){l:List Nat}{ld ld2:List Int}(h:partF n f o ld=some (l,ld2)):l.length≤2400:=by
 unfold partF at h
 split at h
 ·obtain⟨x,_,h2⟩:=Option.map_eq_some_iff.1 h;obtain⟨rfl,_⟩:=Prod.mk.inj h2;exact find_few hok ho.mce.ok ho.x
 ·cases h
theorem route_rg {n:Nn}(hok:NnOk n){f:Flr}{os:List Odr}(ho:∀ o∈os,OdrOk n o){sh:List (List Sha)}{r:Option (List Int × Odr)}(e:routeF n f os=(sh,r)):∀ x∈sh,Rg x:=
 goR_inv ⟨List.Pairwise.nil,fun s hs=>by cases hs⟩ (fun o h own l ld ld2 hg hp=>⟨Jf l hg.1,fun s hs=>by
  rcases putS_mem hs with h1|h1
  ·rw[h1];exact part_len hok (ho o h) hp
  ·exact hg.2 s h1⟩) e (fun x hx=>by cases hx)
theorem fits_row {n:Nn}{f:Flr}{os:List Odr}{a:List Lr}(h:FitsP n f os (shOf a)){i:Nat}(hi:i<a.length):(gd os i,rowOf (gd a i))∈os.zip (shOf a):=by
 have hl:=h.len;rw[List.length_map] at hl;exact List.mem_of_getElem? (i:=i) (by rw[← J8 hi];exact gd_zip qom (by rw[List.length_map];exact hi))
theorem route_fitC {n:Nn}(hok:NnOk n)(hc:∀ x∈n.links,0≤x.cap){f:Flr}{os:List Odr}{sh:List (List Sha)}(ho:∀ o∈os,OdrOk n o)(e:routeF n f os=(sh,none)){a:List Lr}(ha:shOf a=sh.map (List.map Sha.lan)):FitC n f os a 0:=by
 have hf:=route_fits hok hc (fun o h=>⟨ho o h,(ho o h).mce⟩) e;rw[← ha] at hf;have hrg:=route_rg hok ho e;have hl:a.length=os.length:=by have:=hf.len;rwa [List.length_map] at this
 have hls:sh.length=a.length:=by have:=congrArg List.length ha;simpa using this.symm
 have hrow:∀ i,i<a.length→rowOf (gd a i)=(gd sh i).map Sha.lan:=fun i hi=>by
  rw[← J8 hi,ha,Bw qom]
 have hpos:∀ i,i<a.length→∀ s∈(gd a i).l,1≤s.p:=fun i hi s hs=>hf.pos _ (fits_row hf hi) s.lan (List.mem_map.2 ⟨s,hs,rfl⟩)
 have hsum:∀ i,i<a.length→sI (gd a i).l Lm.p=16:=fun i hi=>by rw[row_sum];exact hf.sum _ (fits_row hf hi)
 refine .of ⟨hl,fun i hi=>⟨fun k hk=>⟨hpos i hi _ (Ag hk),?_,fun h0=> ?_⟩,hsum i hi⟩⟩ (fun i hi k hk=>hf.holds _ (fits_row hf hi) (gd (gd a i).l k).lan (List.mem_map.2 ⟨_,Ag hk,rfl⟩)) hf.cap
 ·have:=sI_mem (f:=Lm.p) (l:=(gd a i).l) (fun s hs=>by have:=hpos i hi s hs;omega) _ (Ag hk);have:=hsum i hi;omega
 ·have hrl:(gd sh i).length=(gd a i).l.length:=by have:=congrArg List.length (hrow i hi);simpa using this.symm
  have hk2:∀ j,j<(gd a i).l.length→(gd (gd a i).l j).l=toInts (gd (gd sh i) j).l:=fun j hj=>by
   have h9:gd (rowOf (gd a i)) j=gd ((gd sh i).map Sha.lan) j:=by rw[hrow i hi]
   rw[Bw hj,Bw qom] at h9;exact congrArg Lan.l h9
  rw[hk2 _ qom,hk2 _ hk];have hs:=(hrg _ (Ag (l:=sh) (i:=i) qom)).1;have:=List.pairwise_iff_getElem.1 hs (k - 1) k qom qom qom;rw[← Au (l:=gd sh i) (i:=k - 1) qom,← Au (l:=gd sh i) (i:=k) qom] at this;exact lxB_cmp.1 this
theorem route_shf {n:Nn}(hok:NnOk n)(hc:∀ x∈n.links,0≤x.cap){f:Flr}{os:List Odr}{sh:List (List Sha)}(ho:∀ o∈os,OdrOk n o)(hl:os.length≤100)(e:routeF n f os=(sh,none)){a:List Lr}(ha:shOf a=sh.map (List.map Sha.lan)):ShF a:=by
 have hfc:=(route_fitC hok hc ho e ha).ok.1;have hrg:=route_rg hok ho e;have hla:=hfc.1;have hls:sh.length=a.length:=by have:=congrArg List.length ha;simpa using this.symm
 refine⟨by omega,fun r hr=> ?_⟩;obtain⟨i,hi,rfl⟩:=List.getElem_of_mem hr;have h1:=hfc.2 i hi;rw[Au hi] at h1;refine⟨?_,fun s hs=> ?_⟩
 ·have:=sI_len (f:=Lm.p) (l:=a[i].l) fun s hs=>by
   obtain⟨k,hk,rfl⟩:=List.getElem_of_mem hs;have:=(h1.1 k hk).1
   rwa [Au hk] at this
  have:=h1.2;omega
 ·have h9:rowOf a[i]=(gd sh i).map Sha.lan:=by rw[← Au hi,← J8 hi,ha,Bw qom]
  have h8:s.lan∈(gd sh i).map Sha.lan:=by rw[← h9];exact List.mem_map.2 ⟨s,hs,rfl⟩
  obtain⟨u,hu,e2⟩:=List.mem_map.1 h8;have h7:s.l=toInts u.l:=(congrArg Lan.l e2).symm;rw[h7,List.length_map];have:=(hrg _ (Ag (l:=sh) (i:=i) qom)).2 u hu;omega
theorem rte_ok {w0:World}{K:List (Nat × Obj)}{n:Nn}{f:Flr}{os:List Odr}{v:Value}(h:RteV w0 K n f os v){sh:List (List Sha)}(e:routeF n f os=(sh,none)):∃ (q:Option Addr) (c:Nat) (a:List Lr),v= .tuple #[.slice q a.length c, .slice none 0 0, .int .i64 0]∧ShM w0 K q a∧shOf a=sh.map (List.map Sha.lan):=by
 rcases h with ⟨sh2,q,c,a,⟨e2,hv⟩,hs,ha⟩|⟨sh2,ld,o,q,c,⟨e2,hv⟩,_⟩
 ·rw[e] at e2;obtain⟨rfl,_⟩:=Prod.mk.inj e2;exact⟨q,c,a,hv,hs,ha⟩
 ·rw[e] at e2;cases (Prod.mk.inj e2).2
theorem rte_no {w0:World}{K:List (Nat × Obj)}{n:Nn}{f:Flr}{os:List Odr}{v:Value}(h:RteV w0 K n f os v){sh:List (List Sha)}{ld:List Int}{o:Odr}(e:routeF n f os=(sh,some (ld,o))):∃ (q:Option Addr) (c:Nat),v= .tuple #[.slice none 0 0, .slice q (stuckF n f os o ld).1.length c, .int .i64 (stuckF n f os o ld).2]∧Arr w0 K q 1 encI (stuckF n f os o ld).1∧(stuckF n f os o ld).1.length≤1000:=by
 rcases h with ⟨sh2,q,c,a,⟨e2,hv⟩,hs,ha⟩|⟨sh2,ld2,o2,q,c,⟨e2,hv⟩,hA,hl⟩
 ·rw[e] at e2;cases (Prod.mk.inj e2).2
 ·rw[e] at e2;obtain⟨_,e3⟩:=Prod.mk.inj e2;obtain⟨rfl,rfl⟩:=Prod.mk.inj (Option.some.inj e3);exact⟨q,c,hv,hA,hl⟩
def stkOf (n:Nn) (f:Flr) (os:List Odr):Option (List Int × Int):=(routeF n f os).2.map fun x=>stuckF n f os x.2 x.1
theorem rte_stk {w0:World}{K:List (Nat × Obj)}{n:Nn}{f:Flr}{os:List Odr}{v:Value}(h:RteV w0 K n f os v){pr:List Int}{c:Int}(e:stkOf n f os=some (pr,c)):∃ (q:Option Addr) (cp:Nat),v= .tuple #[.slice none 0 0, .slice q pr.length cp, .int .i64 c]∧Arr w0 K q 1 encI pr:=by
 unfold stkOf at e;obtain⟨⟨ld,o⟩,h1,h2⟩:=Option.map_eq_some_iff.1 e;obtain⟨q,cp,hv,hA,_⟩:=rte_no h (show routeF n f os=((routeF n f os).1,some (ld,o)) by rw[← h1]);have h2':stuckF n f os o ld=(pr,c):=h2;rw[h2'] at hv hA;exact⟨q,cp,hv,hA⟩
abbrev noF:Flr:=⟨none,0,[], -1⟩
abbrev oSn (a:Int) (e:Re):Odr:=⟨0,3,a,e⟩
def baE:Re:= .seq (.nod ⟨#[98]⟩) (.nod ⟨#[97]⟩)
section
variable (n1 n2 n3:Nat)
theorem sr1:routeF (exN n1 n2 n3) noF [oSn 10 anE]=([[⟨[0,1],16⟩]],none):=by kernel_rfl
theorem sr2:routeF (exN n1 n2 n3) noF [oSn 20 anE]=([[⟨[0,1],8⟩,⟨[2,3],8⟩]],none):=by kernel_rfl
theorem sr3:stkOf (exN n1 n2 n3) noF [oSn 21 anE]=some ([1,1,1,1,0,0],19):=by kernel_rfl
theorem sr4:routeF (exN n1 n2 n3) noF [oSn 10 (thE ⟨#[99]⟩),oSn 10 anE]=([[⟨[2,3],16⟩],[⟨[0,1],16⟩]],none):=by kernel_rfl
theorem sr5:stkOf (exN n1 n2 n3) noF [oSn 10 anE,oSn 10 (thE ⟨#[98]⟩)]=some ([1,1,0,0,0,0],27):=by kernel_rfl
theorem sr6:stkOf (exN n1 n2 n3) noF [⟨1,0,5,baE⟩]=some ([],18):=by
 have hm:mOf baE=(buildC baE).1:=congrArg Prod.fst (buildF_eq baE);have h1:findF (exN n1 n2 n3) (fullF (exN n1 n2 n3) noF (List.replicate 6 0) 5) (mOf baE) 1 0=([],18):=by rw[hm];kernel_rfl
 have h2:findF (exN n1 n2 n3) noF (mOf baE) 1 0=([],18):=by rw[hm];kernel_rfl
 have hp:partF (exN n1 n2 n3) noF ⟨1,0,5,baE⟩ (List.replicate 6 0)=none:=part_no (o:=⟨1,0,5,baE⟩) h1 qde;have hr:routeF (exN n1 n2 n3) noF [⟨1,0,5,baE⟩]=([],some (List.replicate 6 0,⟨1,0,5,baE⟩)):=goR_no (rounds_no (j:=15) hp);unfold stkOf;rw[hr];show some (stuckF _ _ _ _ _)=_;unfold stuckF;rw[h2]
 rfl
theorem sp1:priceF (exN n1 n2 n3) noF (oSn 1 (thE ⟨#[99]⟩)) [1,1,5,1,1,1]=some 3:=by kernel_rfl
theorem sf1:refF (exN n1 n2 n3) noF [oSn 21 anE] [1,1,1,1,0,0]=true:=by kernel_rfl
theorem Fu:∀ x∈(exN n1 n2 n3).links,0≤x.cap∧x.cap≤1048576:=fun x hx=>by
 have h:∀ x∈exLinks,0≤x.cap∧x.cap≤1048576:=by decide
 exact h x hx
theorem Ek {a:Int}(ha:0≤a∧a≤1048576){e:Re}(hl:e.lv≤64)(hb:(buildF leastF e).2=0):OdrOk (exN n1 n2 n3) (oSn a e):=⟨by show 0<4;decide,by show 3<4;decide,ha.1,ha.2,hl,hb⟩
end
theorem bd0:(buildF leastF anE).2=0:=by kernel_rfl
theorem bd1:(buildF leastF (thE ⟨#[98]⟩)).2=0:=by kernel_rfl
theorem bd2:(buildF leastF (thE ⟨#[99]⟩)).2=0:=by kernel_rfl
theorem bd3:(buildF leastF baE).2=0:=by rw[buildF_eq];kernel_rfl
theorem Ko {N:Nn}{x y:Nat}{a:Int}{e:Re}{m:Rxm}(h:OdrOk N ⟨x,y,a,e⟩)(hi:Is m e)(hz:m.sz≤40):OsOk N [⟨x,y,a,m⟩] [⟨x,y,a,e⟩]:=
 ⟨⟨rfl,fun i hi'=>by
  obtain rfl:i=0:=by simpa using hi'
  exact⟨rfl,rfl,rfl,hi⟩⟩,fun o ho=>by obtain rfl:=List.mem_singleton.1 ho;exact h,fun o ho=>by obtain rfl:=List.mem_singleton.1 ho;show m.sz≤90000;omega,by show 1≤200;decide⟩
theorem Jt {N:Nn}{x y x' y':Nat}{a a':Int}{e e':Re}{m m':Rxm}(h:OdrOk N ⟨x,y,a,e⟩)(h':OdrOk N ⟨x',y',a',e'⟩)(hi:Is m e)(hi':Is m' e')(hz:m.sz≤40)(hz':m'.sz≤40):OsOk N [⟨x,y,a,m⟩,⟨x',y',a',m'⟩] [⟨x,y,a,e⟩,⟨x',y',a',e'⟩]:=
 ⟨⟨rfl,fun i hi9=>by
  have hi8:i<2:=hi9
  match i,hi8 with
  |0,_=>exact⟨rfl,rfl,rfl,hi⟩
  |1,_=>exact⟨rfl,rfl,rfl,hi'⟩⟩,fun o ho=>by
   rcases List.mem_cons.1 ho with rfl|ho
   ·exact h
   ·obtain rfl:=List.mem_singleton.1 ho;exact h',fun o ho=>by
   rcases List.mem_cons.1 ho with rfl|ho
   ·show m.sz≤90000;omega
   ·obtain rfl:=List.mem_singleton.1 ho;show m'.sz≤90000;omega,by show 2≤200;decide⟩
theorem sh_two {a:List Lr}{x y:List Lan}(h:shOf a=[x,y]):∃ r s,a=[r,s]∧rowOf r=x∧rowOf s=y:=by
 match a,h with
 |[r,s],h=>
  obtain⟨h1,h2⟩:=List.cons.inj h;exact⟨r,s,rfl,h1,(List.cons.inj h2).1⟩
theorem row_one {r:Lr}{l:List Int}{p:Int}(h:rowOf r=[⟨l,p⟩]):∃ q c q2 c2,r=⟨q,c,[⟨q2,c2,l,p⟩]⟩:=by
 obtain⟨q,c,s⟩:=r
 match s,h with
 |[⟨q2,c2,l2,p2⟩],h=>
  have h1:=(List.cons.inj h).1;obtain⟨rfl,rfl⟩:l2=l∧p2=p:=⟨congrArg Lan.l h1,congrArg Lan.p h1⟩;exact⟨q,c,q2,c2,rfl⟩
theorem Eff.mono {P:Program}{w0:World}{op:Op}{ty:TypeId}{L:Fm}{H:List (Nat × Obj)}{K K':Value→List (Nat × Obj)→Prop}(he:Eff P w0 op ty L H K)(hk:∀ v H',K v H'→K' v H'):Eff P w0 op ty L H K':=⟨he.1,fun b w hO=>by
 have h:=he.2 b w hO
 revert h
 generalize ((exO (ev (lk L b)) op ty).run P w)=r;intro h;cases r with
 |ok n w'=>
  cases n with
  |value v=>obtain⟨H',h1,h2⟩:=h;exact⟨H',h1,hk _ _ h2⟩
  |skip=>obtain⟨H',h1,h2⟩:=h;exact⟨H',h1,hk _ _ h2⟩
  |enter f args=>exact Calls.mono h fun e w'' ⟨v,H',h1,h2,h3⟩=>⟨v,H',h1,h2,hk _ _ h3⟩
  |round l f tmps assign body=>exact RoundIn.mono h fun e w'' ⟨v,H',h1,h2,h3⟩=>⟨v,H',h1,h2,hk _ _ h3⟩
  |_=>exact h
 |_=>exact h⟩
theorem wpO_perm {P:Program}{r:Option Nat}{ops:Array Oper}{Q:Exit→Act→World→Prop}{w0:World}{H0 H1 H2:List (Nat × Obj)}{t f:Nat}{listed:Array Bool}{a:Act}(hp:H2.Perm H1)(h:wpO P r ops Q w0 H0 t f listed a H1):wpO P r ops Q w0 H0 t f listed a H2:=by
 cases f with
 |zero=>exact⟨h.1,fun w hO=>h.2 w (Bz hO hp)⟩
 |succ f=>exact⟨h.1,fun i hi hit w hO=>h.2 i hi hit w (Bz hO hp)⟩
theorem lk_swap {L:Fm}{k1 k2:Nat}{v1 v2:Value}(hne:Nat.beq k1 k2=false)(b:Nat→Value):lk (pt (some k1) v1 (pt (some k2) v2 L)) b=lk (pt (some k2) v2 (pt (some k1) v1 L)) b:=by
 funext k
 simp only[pt,lk];cases h1:Nat.beq k1 k<;>cases h2:Nat.beq k2 k<;>simp_all
theorem jx_conv {P:Program}{r:Option Nat}{N:Nat}{w0:World}{H0 H1 H2:List (Nat × Obj)}{ops:Array Oper}{t f:Nat}{listed:Array Bool}{Q:Post}{L1 L2:Fm}{ds:List Deferred}(hL:∀ b,lk L2 b=lk L1 b)(hp:H2.Perm H1)(hs:H0.Sublist H1)(h:JX P r N w0 H1 ops t f listed Q L1 ds H1):JX P r N w0 H0 ops t f listed Q L2 ds H2:=
 fun hT hD hS hP _ inv b a hsz hf hd=>K7 hs _ _ _ _ (wpO_perm hp (h hT hD hS hP (List.Sublist.refl _) inv b a hsz (hf.trans (hL b)) hd))
theorem Lk {P:Program}{r:Option Nat}{N:Nat}{w0:World}{H0 H:List (Nat × Obj)}{ops:Array Oper}{t f:Nat}{listed:Array Bool}{Q:Post}{L:Fm}{ds:List Deferred}(h:JX P r N w0 H ops t f listed Q L ds H):JX P r N w0 H0 ops t f listed Q L ds H:=fun hT hD hS hP hs inv b a hsz hf hd=>
 K7 hs _ _ _ _ (h hT hD hS hP (List.Sublist.refl _) inv b a hsz hf hd)
section
variable {P:Program} {r:Option Nat} {N:Nat} {w0:World} {H0 H:List (Nat × Obj)} {ops:Array Oper} {t f:Nat} {listed:Array Bool} {Q:Post} {L:Fm} {ds:List Deferred} {i j k1 k2:Nat} {op1 op2:Op} {ty1 ty2:TypeId} {p1 p2:String} {af1 af2:Array Edge} {g1 g2:Option (Nat × Bool)} {A B:Type} {v1:A→Value} {v2:B→Value} {M1:A→List (Nat × Obj)} {M2:B→List (Nat × Obj)} {φ1:A→Prop} {φ2:B→Prop}
theorem x_twoA (hr:Region.ready md ops listed=[i,j])(hit:Nat.blt i t=true)(hjt:Nat.blt j t=true)(hrj:Region.ready md ops (listed.setIfInBounds i true)=[j])(hri:Region.ready md ops (listed.setIfInBounds j true)=[i])(hij:Nat.beq i j=false)
  (hoi:ops[i]? =some ⟨some k1,op1,ty1,p1,af1,g1⟩) (hoj:ops[j]? =some ⟨some k2,op2,ty2,p2,af2,g2⟩) (hk:Nat.beq k1 k2=false)
  (h1:∀ L' H',H.Sublist H'→(L'=L∨∃ b,L'=pt (some k2) (v2 b) L)→Eff P w0 op1 ty1 L' H' (fun v H''=>∃ a,(v=v1 a∧φ1 a)∧H''=M1 a++H'))
  (h2:∀ L' H',H.Sublist H'→(L'=L∨∃ a,L'=pt (some k1) (v1 a) L)→Eff P w0 op2 ty2 L' H' (fun v H''=>∃ b,(v=v2 b∧φ2 b)∧H''=M2 b++H'))
  (hN1:dOk (some k1) N=true) (hN2:dOk (some k2) N=true) (hg1:Gd ops L g1 N true) (hg2:Gd ops L g2 N true) (hg1':∀ b,Gd ops (pt (some k2) (v2 b) L) g1 N true) (hg2':∀ a,Gd ops (pt (some k1) (v1 a) L) g2 N true)
  (hs0:H0.Sublist H) (h:∀ a b,φ1 a→φ2 b→JX P r N w0 (M2 b++(M1 a++H)) ops t f ((listed.setIfInBounds i true).setIfInBounds j true) Q (pt (some k2) (v2 b) (pt (some k1) (v1 a) L)) ds (M2 b++(M1 a++H))):
  JX P r N w0 H0 ops t (f+2) listed Q L ds H:=by
 have hlc:(listed.setIfInBounds j true).setIfInBounds i true=(listed.setIfInBounds i true).setIfInBounds j true:=Array.setIfInBounds_comm _ _ (fun e=>by rw[e,Nat.beq_refl] at hij;cases hij);refine Ky hr ⟨i,by simp,by simpa[Nat.blt_eq] using hit⟩ fun m hm _=> ?_
 simp only[List.mem_cons,List.not_mem_nil,or_false] at hm;rcases hm with rfl|rfl
 ·refine Bk hoi (h1 L H (List.Sublist.refl _) (.inl U)) ?_ hN1 hg1;rintro _ _ ⟨a,⟨rfl,ha⟩,rfl⟩;refine⟨hs0.trans (List.sublist_append_right _ _),Bt hrj hjt (Bk hoj (h2 _ _ (List.sublist_append_right _ _) (.inr ⟨a,rfl⟩)) ?_ hN2 (hg2' a))⟩;rintro _ _ ⟨b,⟨rfl,hb⟩,rfl⟩;exact⟨(hs0.trans (List.sublist_append_right _ _)).trans (List.sublist_append_right _ _),jx_conv (fun _=>rfl) (List.Perm.refl _) ((hs0.trans (List.sublist_append_right _ _)).trans (List.sublist_append_right _ _)) (h a b ha hb)⟩
 ·refine Bk hoj (h2 L H (List.Sublist.refl _) (.inl U)) ?_ hN2 hg2;rintro _ _ ⟨b,⟨rfl,hb⟩,rfl⟩;refine⟨hs0.trans (List.sublist_append_right _ _),Bt hri hit (Bk hoi (h1 _ _ (List.sublist_append_right _ _) (.inr ⟨b,rfl⟩)) ?_ hN1 (hg1' b))⟩;rintro _ _ ⟨a,⟨rfl,ha⟩,rfl⟩;rw[hlc];refine⟨(hs0.trans (List.sublist_append_right _ _)).trans (List.sublist_append_right _ _),jx_conv (lk_swap hk) ?_ ((hs0.trans (List.sublist_append_right _ _)).trans (List.sublist_append_right _ _)) (h a b ha hb)⟩;rw[← List.append_assoc,← List.append_assoc];exact List.perm_append_comm.append_right H
end
theorem zbd58_0_1_2_3 (a0:Int)(a1:Int)(a2:Int)(a3:Int)(a4:ByteArray)(a5:Option Addr)(a5n a5c:Nat)(w:World):(Instr.build 58 #[(0, .int .i64 a0),(1, .int .i64 a1),(2, .int .i64 a2),(3, .agg #[.int .i64 a3, .string a4, .slice a5 a5n a5c])]).run Tryz.prog w= .ok (.agg #[.int .i64 a0, .int .i64 a1, .int .i64 a2, .int .i64 a3, .string a4, .slice a5 a5n a5c]) w:=by kernel_rfl
theorem Ft (a0:Int)(a1:Int)(w:World):(Instr.buildSlice 27 2 #[(0, .int .i64 a0),(1, .int .i64 a1)]).run Tryz.prog w= .ok (.slice (some ⟨w.heap.size,0,none⟩) 2 2) (w.alloc (Cl [.int .i64 a0, .int .i64 a1] 3)):=by kernel_rfl
theorem zbs27_6_0_1_2_3_4_5 (a0:Int)(a1:Int)(a2:Int)(a3:Int)(a4:Int)(a5:Int)(w:World):(Instr.buildSlice 27 6 #[(0, .int .i64 a0),(1, .int .i64 a1),(2, .int .i64 a2),(3, .int .i64 a3),(4, .int .i64 a4),(5, .int .i64 a5)]).run Tryz.prog w= .ok (.slice (some ⟨w.heap.size,0,none⟩) 6 6) (w.alloc (Cl [.int .i64 a0, .int .i64 a1, .int .i64 a2, .int .i64 a3, .int .i64 a4, .int .i64 a5] 3)):=by kernel_rfl
theorem Ge (a0:Int)(a1:Int)(a2:Int)(a3:Int)(a4:ByteArray)(a5:Option Addr)(a5n a5c:Nat)(w:World):(Instr.buildSlice 30 1 #[(0, .agg #[.int .i64 a0, .int .i64 a1, .int .i64 a2, .int .i64 a3, .string a4, .slice a5 a5n a5c])]).run Tryz.prog w= .ok (.slice (some ⟨w.heap.size,0,none⟩) 1 1) (w.alloc (Cl [.int .i64 a0, .int .i64 a1, .int .i64 a2, .int .i64 a3, .string a4, .slice a5 a5n a5c] 58)):=by kernel_rfl
theorem zbs30_2_0_1 (a0:Int)(a1:Int)(a2:Int)(a3:Int)(a4:ByteArray)(a5:Option Addr)(a5n a5c:Nat)(a6:Int)(a7:Int)(a8:Int)(a9:Int)(a10:ByteArray)(a11:Option Addr)(a11n a11c:Nat)(w:World):(Instr.buildSlice 30 2 #[(0, .agg #[.int .i64 a0, .int .i64 a1, .int .i64 a2, .int .i64 a3, .string a4, .slice a5 a5n a5c]),(1, .agg #[.int .i64 a6, .int .i64 a7, .int .i64 a8, .int .i64 a9, .string a10, .slice a11 a11n a11c])]).run Tryz.prog w= .ok (.slice (some ⟨w.heap.size,0,none⟩) 2 2) (w.alloc (Cl [.int .i64 a0, .int .i64 a1, .int .i64 a2, .int .i64 a3, .string a4, .slice a5 a5n a5c, .int .i64 a6, .int .i64 a7, .int .i64 a8, .int .i64 a9, .string a10, .slice a11 a11n a11c] 58)):=by kernel_rfl
theorem zbs31_2_0_1 (a0:Option Addr)(a0n a0c:Nat)(a1:Option Addr)(a1n a1c:Nat)(w:World):(Instr.buildSlice 31 2 #[(0, .slice a0 a0n a0c),(1, .slice a1 a1n a1c)]).run Tryz.prog w= .ok (.slice (some ⟨w.heap.size,0,none⟩) 2 2) (w.alloc (Cl [.slice a0 a0n a0c, .slice a1 a1n a1c] 79)):=by kernel_rfl
theorem zbs79_2_0_1 (a0:Option Addr)(a0n a0c:Nat)(a1:Int)(a2:Option Addr)(a2n a2c:Nat)(a3:Int)(w:World):(Instr.buildSlice 79 2 #[(0, .agg #[.slice a0 a0n a0c, .int .i64 a1]),(1, .agg #[.slice a2 a2n a2c, .int .i64 a3])]).run Tryz.prog w= .ok (.slice (some ⟨w.heap.size,0,none⟩) 2 2) (w.alloc (Cl [.slice a0 a0n a0c, .int .i64 a1, .slice a2 a2n a2c, .int .i64 a3] 77)):=by kernel_rfl
theorem RxG.own {w0:World}{e:Re}{m:Rxm}{M:List (Nat × Obj)}(g:RxG w0 e m M):RxM w0 M m:=by have:=g.mm [];rwa [List.append_nil] at this
theorem osm1 {w0:World}{H:List (Nat × Obj)}{n:Nat}{o:Om}(hf:Fnd H n (Cl (encOm o) 58))(h:RxM w0 H o.m):OsM w0 H (some ⟨n,0,none⟩) [o]:=
 ⟨By (fun _=>rfl) (by simp) hf,by show 1≤9223372036854775807;decide,fun x hx=>by obtain rfl:=List.mem_singleton.1 hx;exact h⟩
theorem osm2 {w0:World}{H:List (Nat × Obj)}{n:Nat}{o o':Om}(hf:Fnd H n (Cl (encOm o++encOm o') 58))(h:RxM w0 H o.m)(h':RxM w0 H o'.m):OsM w0 H (some ⟨n,0,none⟩) [o,o']:=
 ⟨By (fun _=>rfl) (by simp) hf,by show 2≤9223372036854775807;decide,fun x hx=>by
  rcases List.mem_cons.1 hx with rfl|hx
  ·exact h
  ·obtain rfl:=List.mem_singleton.1 hx;exact h'⟩
theorem lmm {w0:World}{H:List (Nat × Obj)}{n c:Nat}{l:List Int}{p:Int}(hl:l.length≤1000)(hf:Fnd H n (Cl (l.flatMap encI) 3)):LmM w0 H ⟨some ⟨n,0,none⟩,c,l,p⟩:=⟨By (fun _=>rfl) U hf,by show l.length≤_;omega⟩
theorem lrm1 {w0:World}{H:List (Nat × Obj)}{n c:Nat}{s:Lm}(hf:Fnd H n (Cl (encLm s) 77))(h:LmM w0 H s):LrM w0 H ⟨some ⟨n,0,none⟩,c,[s]⟩:=
 ⟨By (fun _=>rfl) (by simp) hf,by show 1≤9223372036854775807;decide,fun x hx=>by obtain rfl:=List.mem_singleton.1 hx;exact h⟩
theorem lrm2 {w0:World}{H:List (Nat × Obj)}{n c:Nat}{s t:Lm}(hf:Fnd H n (Cl (encLm s++encLm t) 77))(h:LmM w0 H s)(h':LmM w0 H t):LrM w0 H ⟨some ⟨n,0,none⟩,c,[s,t]⟩:=
 ⟨By (fun _=>rfl) (by simp) hf,by show 2≤9223372036854775807;decide,fun x hx=>by
  rcases List.mem_cons.1 hx with rfl|hx
  ·exact h
  ·obtain rfl:=List.mem_singleton.1 hx;exact h'⟩
theorem shm1 {w0:World}{H:List (Nat × Obj)}{n:Nat}{r:Lr}(hf:Fnd H n (Cl (encLr r) 79))(h:LrM w0 H r):ShM w0 H (some ⟨n,0,none⟩) [r]:=
 ⟨By (fun _=>rfl) (by simp) hf,by show 1≤9223372036854775807;decide,fun x hx=>by obtain rfl:=List.mem_singleton.1 hx;exact h⟩
theorem shm2 {w0:World}{H:List (Nat × Obj)}{n:Nat}{r s:Lr}(hf:Fnd H n (Cl (encLr r++encLr s) 79))(h:LrM w0 H r)(h':LrM w0 H s):ShM w0 H (some ⟨n,0,none⟩) [r,s]:=
 ⟨By (fun _=>rfl) (by simp) hf,by show 2≤9223372036854775807;decide,fun x hx=>by
  rcases List.mem_cons.1 hx with rfl|hx
  ·exact h
  ·obtain rfl:=List.mem_singleton.1 hx;exact h'⟩
theorem both_few {m m':Rxm}{M M':List (Nat × Obj)}{w0:World}(g:RxG w0 (thE ⟨#[99]⟩) m M)(g':RxG w0 anE m' M'):FewR [⟨0,3,10,m⟩,⟨0,3,10,m'⟩] (fun i=>if i=0 then thE ⟨#[99]⟩ else anE):=fun i hi=>by
 have hi':i<2:=hi
 match i,hi' with
 |0,_=>exact⟨g.i,g.z,⟨⟨trivial,⟨by decide,by decide,by decide,by decide,fun h=>of_decide_eq_false (p:=toL ⟨#[99]⟩∈wordsL.map toL) qkr (List.mem_map.2 ⟨_,h,rfl⟩)⟩⟩,trivial⟩,g.d⟩
 |1,_=>exact⟨g'.i,g'.z,trivial,g'.d⟩
theorem both_chk {N:Nat}(hN:N=4){m m':Rxm}:ChkIs N [⟨0,3,10,m⟩,⟨0,3,10,m'⟩] (fun i=>if i=0 then thE ⟨#[99]⟩ else anE) 0:=by
 subst hN;refine .inl ⟨rfl,fun i hi=> ?_,fun i hi=> ?_⟩
 ·have hi':i<2:=hi
  match i,hi' with
  |0,_=>exact⟨⟨by show (0:Int)≤0;decide,by show (0:Int)<4;decide⟩,⟨by show (0:Int)≤3;decide,by show (3:Int)<4;decide⟩,by show (0:Int)≤10;decide,by show (10:Int)≤1048576;decide⟩
  |1,_=>exact⟨⟨by show (0:Int)≤0;decide,by show (0:Int)<4;decide⟩,⟨by show (0:Int)≤3;decide,by show (3:Int)<4;decide⟩,by show (0:Int)≤10;decide,by show (10:Int)≤1048576;decide⟩
 ·have hi':i<2:=hi
  match i,hi' with
  |0,_=>exact bd2
  |1,_=>exact bd0
set_option maxHeartbeats 4000000 in
theorem sanity_s {w0:World}{H:List (Nat × Obj)}(hW:Arr w0 [] (some ⟨0,0,none⟩) 1 encS wordsL):
  FSpec Tryz.prog w0 10 #[] H (Still (.bool true) H):=by
 refine An Tryz.func10 U ntmps10 U (rD tb 7 U (e_ (Al .nil call37 (example_s)) ?_ U));rintro _ _ ⟨⟨y1,y2,y3⟩,rfl,rfl⟩;refine e_ (Aj zeroValue26 cs_) ?_ U;rintro _ _ ⟨n1,rfl,rfl⟩;refine Az (Ls U U sizeOf26) U Ac ?_;rintro _ _ ⟨rfl,rfl⟩;refine rO tb 4 U (y_ (Ay .nil call38 (fun H' hs=>none_s)) (e_ (Aj zeroValue29 cs_) ?_ U) U);rintro _ _ ⟨n2,rfl,rfl⟩;refine Az (Ls U U sizeOf29) U Ac ?_;rintro _ _ ⟨rfl,rfl⟩;refine rO tb 4 U (e_ (Ai (.cons Ap (.cons Ap .nil)) (Ft _ _)) ?_ U);rintro _ _ ⟨n31,rfl,rfl⟩;refine y_ (A0 (.cons (T U) (.cons Ap .nil)) (Ig _ _ _ _)) (e_ (Aj zeroValue77 cs_) ?_ U) U;rintro _ _ ⟨n3,rfl,rfl⟩;refine Az (Ls U U sizeOf77) U Ac ?_;rintro _ _ ⟨rfl,rfl⟩;refine rO tb 4 U (e_ (Ai (.cons Ap (.cons Ap .nil)) (Ft _ _)) ?_ U);rintro _ _ ⟨n33,rfl,rfl⟩;refine y_ (A0 (.cons (T U) (.cons Ap .nil)) (Ig _ _ _ _)) (e_ (Aj zeroValue77 cs_) ?_ U) U;rintro _ _ ⟨n4,rfl,rfl⟩;refine Az (Ls U U sizeOf77) U Ac ?_;rintro _ _ ⟨rfl,rfl⟩;refine rO tb 3 U (Bg 12 [(0,true),(1,true),(2,false),(3,false),(4,false),(5,true),(6,true),(7,true),(8,true),(9,true),(10,true),(11,true)] _ mixd qkr sb0 ?_ A7);refine o_y U (Lp U isAgg26 sizeOf26 U qcs) ?_ U Ac;refine o_y U (Lp U isAgg29 sizeOf29 U qcs) ?_ U Ac;refine o_e U (Al (.cons Ap (.cons Ap .nil)) call39 (Jh 10 ⟨#[]⟩ anE (.inl ⟨rfl,rfl⟩))) ?_ U Ac;rintro _ _ ⟨m38,M38,⟨rfl,g38⟩,rfl⟩;refine⟨sbt,(Jr (o_e U (Ai (.cons (T U) .nil) (Ge _ _ _ _ _ _ _ _)) ?_ U Ac))⟩;rintro _ _ ⟨n39,rfl,rfl⟩;refine⟨sbt,(Jr ?_)⟩;refine o_e U (Al (qe3 U U U) call27 (Fe (exN y1 y2 y3) (E8 fdd fdd) (Hg y1 y2 y3) (Fu y1 y2 y3) noF Ea (Nat.zero_le _) [⟨0,3,10,m38⟩] [oSn 10 anE] (some ⟨n39,0,none⟩) 1 (osm1 fdd (g38.own.mono sbx)) (Ko (Ek y1 y2 y3 (a:=10) (e:=anE) qde qde bd0) g38.i g38.z))) ?_ U Ac;rintro _ _ ⟨M40,h40,rfl⟩;obtain⟨q40,k40,a40,rfl,hS40,ha40⟩:=rte_ok h40 (sr1 y1 y2 y3);refine⟨sbt,(Jr (rP tb 7 U (A6 U (rO tb 3 U (Bg 12 [(0,true),(1,true),(2,false),(3,false),(4,false),(5,true),(6,true),(7,true),(8,true),(9,true),(10,true),(11,true)] _ mixd qkr sb0 ?_ A7)))))⟩;refine o_y U (Lp U isAgg26 sizeOf26 U qcs) ?_ U Ac;refine o_y U (Lp U isAgg29 sizeOf29 U qcs) ?_ U Ac;refine o_e U (Al (.cons Ap (.cons Ap .nil)) call39 (Jh 20 ⟨#[]⟩ anE (.inl ⟨rfl,rfl⟩))) ?_ U Ac;rintro _ _ ⟨m47,M47,⟨rfl,g47⟩,rfl⟩;refine⟨sbt,(Jr (o_e U (Ai (.cons (T U) .nil) (Ge _ _ _ _ _ _ _ _)) ?_ U Ac))⟩;rintro _ _ ⟨n48,rfl,rfl⟩;refine⟨sbt,(Jr ?_)⟩;refine o_e U (Al (qe3 U U U) call27 (Fe (exN y1 y2 y3) (E8 fdd fdd) (Hg y1 y2 y3) (Fu y1 y2 y3) noF Ea (Nat.zero_le _) [⟨0,3,20,m47⟩] [oSn 20 anE] (some ⟨n48,0,none⟩) 1 (osm1 fdd (g47.own.mono sbx)) (Ko (Ek y1 y2 y3 (a:=20) (e:=anE) qde qde bd0) g47.i g47.z))) ?_ U Ac;rintro _ _ ⟨M49,h49,rfl⟩;obtain⟨q49,k49,a49,rfl,hS49,ha49⟩:=rte_ok h49 (sr2 y1 y2 y3);refine⟨sbt,(Jr (rP tb 7 U (A6 U (kO tb 2 [1,2,3,4,5,7,8,10] rfl U (rG tb 1 U (Bg 12 [(0,true),(1,true),(2,false),(3,false),(4,false),(5,true),(6,true),(7,true),(8,true),(9,true),(10,true),(11,true)] _ mixd qkr sb0 ?_ A7))))))⟩;refine o_y U (Lp U isAgg26 sizeOf26 U qcs) ?_ U Ac;refine o_y U (Lp U isAgg29 sizeOf29 U qcs) ?_ U Ac;refine o_e U (Al (.cons Ap (.cons Ap .nil)) call39 (Jh 21 ⟨#[]⟩ anE (.inl ⟨rfl,rfl⟩))) ?_ U Ac;rintro _ _ ⟨m56,M56,⟨rfl,g56⟩,rfl⟩;refine⟨sbt,(Jr (o_e U (Ai (.cons (T U) .nil) (Ge _ _ _ _ _ _ _ _)) ?_ U Ac))⟩;rintro _ _ ⟨n57,rfl,rfl⟩;refine⟨sbt,(Jr ?_)⟩;refine o_e U (Al (qe3 U U U) call27 (Fe (exN y1 y2 y3) (E8 fdd fdd) (Hg y1 y2 y3) (Fu y1 y2 y3) noF Ea (Nat.zero_le _) [⟨0,3,21,m56⟩] [oSn 21 anE] (some ⟨n57,0,none⟩) 1 (osm1 fdd (g56.own.mono sbx)) (Ko (Ek y1 y2 y3 (a:=21) (e:=anE) qde qde bd0) g56.i g56.z))) ?_ U Ac;rintro _ _ ⟨M58,h58,rfl⟩;obtain⟨q58,k58,rfl,hA58⟩:=rte_stk h58 (sr3 y1 y2 y3);refine⟨sbt,(Jr (rP tb 7 U (A6 U (rO tb 4 U (e_ (Al (.cons Ap (.cons Ap .nil)) call39 (Jh 10 ⟨#[99]⟩ (thE ⟨#[99]⟩) (.inr ⟨⟨by decide,by decide⟩,rfl⟩))) ?_ U)))))⟩;rintro _ _ ⟨m62,M62,⟨rfl,g62⟩,rfl⟩;refine e_ (Al (.cons Ap (.cons Ap .nil)) call39 (Jh 10 ⟨#[]⟩ anE (.inl ⟨rfl,rfl⟩))) ?_ U;rintro _ _ ⟨m63,M63,⟨rfl,g63⟩,rfl⟩;refine e_ (Ai (.cons (T U) (.cons (T U) .nil)) (zbs30_2_0_1 _ _ _ _ _ _ _ _ _ _ _ _ _ _ _ _)) ?_ U;rintro _ _ ⟨n64,rfl,rfl⟩;refine rO tb 5 U (y_ (Lp U isAgg26 sizeOf26 U qcs) ?_ U);refine y_ (Lp U isAgg29 sizeOf29 U qcs) ?_ U;refine rO tb 1 U ?_;refine e_ (Al (qe3 U U U) call27 (Fe (exN y1 y2 y3) (E8 fdd fdd) (Hg y1 y2 y3) (Fu y1 y2 y3) noF Ea (Nat.zero_le _) [⟨0,3,10,m62⟩,⟨0,3,10,m63⟩] [oSn 10 (thE ⟨#[99]⟩),oSn 10 anE] (some ⟨n64,0,none⟩) 2 (osm2 fdd (g62.own.mono sbx) (g63.own.mono sbx)) (Jt (Ek y1 y2 y3 (a:=10) (e:=(thE ⟨#[99]⟩)) qde qde bd2) (Ek y1 y2 y3 (a:=10) (e:=anE) qde qde bd0) g62.i g63.i g62.z g63.z))) ?_ U;rintro _ _ ⟨M69,h69,rfl⟩;obtain⟨q69,k69,a69,rfl,hS69,ha69⟩:=rte_ok h69 (sr4 y1 y2 y3);have hfit:=route_fitC (Hg y1 y2 y3) (fun x hx=>(Fu y1 y2 y3 x hx).1) ((Jt (Ek y1 y2 y3 (a:=10) (e:=(thE ⟨#[99]⟩)) qde qde bd2) (Ek y1 y2 y3 (a:=10) (e:=anE) qde qde bd0) g62.i g63.i g62.z g63.z)).ok (sr4 y1 y2 y3) ha69;have hshf:=route_shf (Hg y1 y2 y3) (fun x hx=>(Fu y1 y2 y3 x hx).1) ((Jt (Ek y1 y2 y3 (a:=10) (e:=(thE ⟨#[99]⟩)) qde qde bd2) (Ek y1 y2 y3 (a:=10) (e:=anE) qde qde bd0) g62.i g63.i g62.z g63.z)).ok (by show 2≤100;decide) (sr4 y1 y2 y3) ha69;obtain⟨r69,s69,rfl,hr69,hs69⟩:=sh_two ha69;obtain⟨qa,ka,qb,kb,rfl⟩:=row_one hr69;obtain⟨qc,kc,qd,kd,rfl⟩:=row_one hs69;refine kO tb 9 [1,2,3,4,5,7,8,10,12,13,14,15,17] rfl U (rG tb 1 U (Bg 13 [(0,true),(1,true),(2,false),(3,false),(4,false),(5,false),(6,true),(7,true),(8,true),(9,true),(10,true),(11,true),(12,true)] _ mixd qkr sb0 ?_ A7));refine o_y U (Lp U isAgg26 sizeOf26 U qcs) ?_ U Ac;refine o_y U (Lp U isAgg29 sizeOf29 U qcs) ?_ U Ac;refine o_e U (Al (.cons Ap (.cons Ap .nil)) call39 (Jh 10 ⟨#[]⟩ anE (.inl ⟨rfl,rfl⟩))) ?_ U Ac;rintro _ _ ⟨m76,M76,⟨rfl,g76⟩,rfl⟩;refine⟨sbt,(Jr (o_e U (Al (.cons Ap (.cons Ap .nil)) call39 (Jh 10 ⟨#[98]⟩ (thE ⟨#[98]⟩) (.inr ⟨⟨by decide,by decide⟩,rfl⟩))) ?_ U Ac))⟩;rintro _ _ ⟨m77,M77,⟨rfl,g77⟩,rfl⟩;refine⟨sbt,(Jr (o_e U (Ai (.cons (T U) (.cons (T U) .nil)) (zbs30_2_0_1 _ _ _ _ _ _ _ _ _ _ _ _ _ _ _ _)) ?_ U Ac))⟩;rintro _ _ ⟨n78,rfl,rfl⟩;refine⟨sbt,(Jr ?_)⟩;refine o_e U (Al (qe3 U U U) call27 (Fe (exN y1 y2 y3) (E8 fdd fdd) (Hg y1 y2 y3) (Fu y1 y2 y3) noF Ea (Nat.zero_le _) [⟨0,3,10,m76⟩,⟨0,3,10,m77⟩] [oSn 10 anE,oSn 10 (thE ⟨#[98]⟩)] (some ⟨n78,0,none⟩) 2 (osm2 fdd (g76.own.mono sbx) (g77.own.mono sbx)) (Jt (Ek y1 y2 y3 (a:=10) (e:=anE) qde qde bd0) (Ek y1 y2 y3 (a:=10) (e:=(thE ⟨#[98]⟩)) qde qde bd1) g76.i g77.i g76.z g77.z))) ?_ U Ac;rintro _ _ ⟨M79,h79,rfl⟩;obtain⟨q79,k79,rfl,hA79⟩:=rte_stk h79 (sr5 y1 y2 y3);refine⟨sbt,(Jr (rP tb 7 U (A6 U (rO tb 4 U (y_ (A0 (.cons Ap (.cons Ap .nil)) (Ih _ _)) (y_ (A0 (.cons Ap (.cons Ap .nil)) (Ih _ _)) (e_ (Ai (.cons (T U) (.cons (T U) .nil)) (Ej _ _ _ _ _ _ _ _ _ _)) ?_ U) U) U)))))⟩;rintro _ _ ⟨n85,rfl,rfl⟩;refine y_ (A0 (.cons Ap (.cons (T U) .nil)) (D8 _ _ _ _)) (e_ (Aj zeroValue56 cs_) ?_ U) U;rintro _ _ ⟨n21,rfl,rfl⟩;refine Az (Ls U U sizeOf56) U Ac ?_;rintro _ _ ⟨rfl,rfl⟩;refine kO tb 2 [1,2,3,4,5,7,8,10,12,13,14,15,17,20,21] rfl U (rG tb 2 U (y_ (Lp U isAgg26 sizeOf26 U qcs) ?_ U));refine y_ (Lp U isAgg29 sizeOf29 U qcs) ?_ U;refine y_ (Lp U isAgg56 sizeOf56 U qcs) ?_ U;refine y_ (A0 (.cons Ap (.cons Ap (.cons Ap (.cons (T U) .nil)))) (zbd58_0_1_2_3 _ _ _ _ _ _ _ _)) (e_ (Ai (.cons (T U) .nil) (Ge _ _ _ _ _ _ _ _)) ?_ U) U;rintro _ _ ⟨n92,rfl,rfl⟩;refine e_ (Al (qe3 rfl rfl rfl) call27 (Fe (exN y1 y2 y3) (E8 fdd fdd) (Hg y1 y2 y3) (Fu y1 y2 y3) noF Ea (Nat.zero_le _) [⟨1,0,5,(.mk 4 ⟨#[]⟩ (some ⟨n85,0,none⟩) 2 [.mk 2 ⟨#[98]⟩ none 0 [], .mk 2 ⟨#[97]⟩ none 0 []])⟩] [⟨1,0,5,baE⟩] (some ⟨n92,0,none⟩) 1 (osm1 fdd (rx2 rx0 rx0 fdd)) (Ko (e:=baE) ⟨by show 1<4;decide,by show 0<4;decide,by decide,by decide,by decide,bd3⟩ (.seq (.nod qde) (.nod qde)) (by simp[Rxm.sz,szL])))) ?_ rfl;rintro _ _ ⟨M93,h93,rfl⟩;obtain⟨q93,k93,rfl,hA93⟩:=rte_stk h93 (sr6 y1 y2 y3);refine rO tb 35 U (A5 (Lp U isAgg26 sizeOf26 U qcs) U (Ax U U (Aa U)) ?_);refine rO tb 1 U ?_;refine Az (Al (qe2 U U) call16 (pcheckO_s (exN y1 y2 y3) (E8 fdd fdd) (by show 4≤1000000;decide) [⟨0,3,10,m62⟩,⟨0,3,10,m63⟩] (some ⟨n64,0,none⟩) 2 (osm2 fdd (g62.own.mono sbx) (g63.own.mono sbx)) (fun i=>if i=0 then (thE ⟨#[99]⟩) else anE) (both_few g62 g63) (by show 2≤200;decide) hW)) U (Ax U U (Aa U)) ?_;rintro _ _ ⟨⟨c122,rfl,hc122⟩,rfl⟩;obtain rfl:c122=0:=hc122.uniq (both_chk rfl);refine kO tb 4 [1,2,3,4,5,8,12,14,15,124] rfl U (rG tb 5 U (e_ (Ai (.cons Ap (.cons Ap .nil)) (Ft _ _)) ?_ U));rintro _ _ ⟨n125,rfl,rfl⟩;refine y_ (A0 (.cons (T U) (.cons Ap .nil)) (Ig _ _ _ _)) (e_ (Ai (.cons Ap (.cons Ap .nil)) (Ft _ _)) ?_ U) U;rintro _ _ ⟨n127,rfl,rfl⟩;refine y_ (A0 (.cons (T U) (.cons Ap .nil)) (Ig _ _ _ _)) (e_ (Ai (.cons (T U) (.cons (T U) .nil)) (zbs79_2_0_1 _ _ _ _ _ _ _ _)) ?_ U) U;rintro _ _ ⟨n129,rfl,rfl⟩;refine rO tb 6 U (y_ (Lp U isAgg77 sizeOf77 U qcs) ?_ U);refine e_ (Ai (.cons (T U) .nil) (Ie _ _ _ _)) ?_ U;rintro _ _ ⟨n132,rfl,rfl⟩;refine e_ (Ai (.cons (T U) .nil) (zbs31_1_0 _ _ _)) ?_ U;rintro _ _ ⟨n133,rfl,rfl⟩;refine y_ (Ay (qe2 U U) call18 (fun H' hs=>Dx (decide_eq_true (show plS a40=plS [(⟨some ⟨n132,0,none⟩,1,[(⟨some ⟨n31,0,none⟩,2,[0,1],16⟩:Lm)]⟩:Lr)] from ha40)) (rsame_s a40 [(⟨some ⟨n132,0,none⟩,1,[(⟨some ⟨n31,0,none⟩,2,[0,1],16⟩:Lm)]⟩:Lr)] _ _ _ _ (hS40.mono (List.Sublist.trans sbx hs)) (ShM.mono (shm1 (n:=n133) fdd (lrm1 fdd (lmm qde fdd))) hs)))) ?_ U;refine rO tb 3 U (Az (Ai (.cons (T U) .nil) (zbs31_1_0 _ _ _)) U (Ax U U (Aa U)) ?_);rintro _ _ ⟨n138,rfl,rfl⟩;refine A5 (Ay (qe2 U U) call18 (fun H' hs=>Dx (decide_eq_true (show plS a49=plS [(⟨some ⟨n129,0,none⟩,2,[(⟨some ⟨n125,0,none⟩,2,[0,1],8⟩:Lm),(⟨some ⟨n127,0,none⟩,2,[2,3],8⟩:Lm)]⟩:Lr)] from ha49)) (rsame_s a49 [(⟨some ⟨n129,0,none⟩,2,[(⟨some ⟨n125,0,none⟩,2,[0,1],8⟩:Lm),(⟨some ⟨n127,0,none⟩,2,[2,3],8⟩:Lm)]⟩:Lr)] _ _ _ _ (hS49.mono (List.Sublist.trans sbx hs)) (ShM.mono (shm1 (n:=n138) fdd (lrm2 fdd (lmm qde fdd) (lmm qde fdd))) hs)))) U (Ax U U (Aa U)) ?_;refine rO tb 3 U (A5 (Lp U isAgg77 sizeOf77 U qcs) U (Ax U U (Aa U)) ?_);refine Az (Ai (.cons (T U) .nil) (Ie _ _ _ _)) U (Ax U U (Aa U)) ?_;rintro _ _ ⟨n144,rfl,rfl⟩;refine A5 (Lp U isAgg77 sizeOf77 U qcs) U (Ax U U (Aa U)) ?_;refine Az (Ai (.cons (T U) .nil) (Ie _ _ _ _)) U (Ax U U (Aa U)) ?_;rintro _ _ ⟨n146,rfl,rfl⟩;refine Az (Ai (.cons (T U) (.cons (T U) .nil)) (zbs31_2_0_1 _ _ _ _ _ _)) U (Ax U U (Aa U)) ?_;rintro _ _ ⟨n147,rfl,rfl⟩;refine A5 (Ay (qe2 U U) call18 (fun H' hs=>Dx (decide_eq_true (show plS [(⟨qa,ka,[⟨qb,kb,[2,3],16⟩]⟩:Lr),⟨qc,kc,[⟨qd,kd,[0,1],16⟩]⟩]=plS [(⟨some ⟨n144,0,none⟩,1,[(⟨some ⟨n33,0,none⟩,2,[2,3],16⟩:Lm)]⟩:Lr),⟨some ⟨n146,0,none⟩,1,[(⟨some ⟨n31,0,none⟩,2,[0,1],16⟩:Lm)]⟩] from rfl)) (rsame_s [(⟨qa,ka,[⟨qb,kb,[2,3],16⟩]⟩:Lr),⟨qc,kc,[⟨qd,kd,[0,1],16⟩]⟩] [(⟨some ⟨n144,0,none⟩,1,[(⟨some ⟨n33,0,none⟩,2,[2,3],16⟩:Lm)]⟩:Lr),⟨some ⟨n146,0,none⟩,1,[(⟨some ⟨n31,0,none⟩,2,[0,1],16⟩:Lm)]⟩] _ _ _ _ (hS69.mono (List.Sublist.trans sbx hs)) (ShM.mono (shm2 (n:=n147) fdd (lrm1 fdd (lmm qde fdd)) (lrm1 fdd (lmm qde fdd))) hs)))) U (Ax U U (Aa U)) ?_;refine kO tb 4 [1,2,5,12,14,15,26] rfl U (rG tb 1 U (Ij 10 _ mixd qkr sb0 ?_ A7));refine x_y (i:=0) U qkr (Lp U isAgg26 sizeOf26 U qcs) ?_ U Ac;refine x_y (i:=1) U qkr (Lp U isAgg29 sizeOf29 U qcs) ?_ U Ac;refine x_twoA (i:=2) (j:=3) (v1:=fun p:Rxm × List (Nat × Obj)=> .agg (encOm ⟨0,3,1,p.1⟩).toArray) (φ1:=fun p=>RxG w0 (thE ⟨#[99]⟩) p.1 p.2) (M1:=fun p=>p.2) (v2:=fun n:Nat=> .slice (some ⟨n,0,none⟩) 6 6) (φ2:=fun _=>True) (M2:=fun n=>[(n,Cl [.int .i64 1, .int .i64 1, .int .i64 5, .int .i64 1, .int .i64 1, .int .i64 1] 3)]) qkr rfl rfl qkr qkr rfl rfl rfl rfl (fun L9 H9 hs hL9=>by rcases hL9 with rfl|⟨b9,rfl⟩<;>exact(Al (.cons Ap (.cons Ap .nil)) call39 ((Jh 1 ⟨#[99]⟩ (thE ⟨#[99]⟩) (.inr ⟨⟨by decide,by decide⟩,rfl⟩)).mono fun v H8 ⟨m,M,h⟩=>⟨(m,M),h⟩))) (fun L9 H9 hs hL9=>by rcases hL9 with rfl|⟨b9,rfl⟩<;>exact(Eff.mono (Ai (.cons Ap (.cons Ap (.cons Ap (.cons Ap (.cons Ap (.cons Ap .nil)))))) (zbs27_6_0_1_2_3_4_5 _ _ _ _ _ _)) fun v H8 ⟨n,h1,h2⟩=>⟨n,⟨h1,trivial⟩,h2⟩)) rfl rfl Ac Ac (fun _=>Ac) (fun _=>Ac) sbt ?_;rintro⟨m153,M153⟩ n154 g153 -
 dsimp only[List.cons_append,List.nil_append] at g153 ⊢
 refine x_y (i:=4) U qkr (Ay (qe4 U U U U) call32 (fun H' hs=>still_v (show _=Value.tuple #[.int .i64 3, .bool true] by rw[sp1];rfl) (ppriceF_s (exN y1 y2 y3) (E8 (Fnd.mono fdd hs) (Fnd.mono fdd hs)) (Hg y1 y2 y3) noF Ea (Nat.zero_le _) ⟨0,3,1,m153⟩ (oSn 1 (thE ⟨#[99]⟩)) ⟨rfl,rfl,rfl,g153.i⟩ (Ek y1 y2 y3 (a:=1) (e:=(thE ⟨#[99]⟩)) qde qde bd2) (g153.own.mono (List.Sublist.trans sbx hs)) (by have:=g153.z;show m153.sz≤_;omega) [1,1,5,1,1,1] (some ⟨n154,0,none⟩) 6 ((By (enc:=encI) (sz:=1) (l:=[(1:Int),1,5,1,1,1]) (cells:=[(1:Int),1,5,1,1,1].flatMap encI) (e:=3) (fun _=>rfl) U fdd).mono hs) U qde))) ?_ U Ac;refine x_y (i:=5) U qkr (Bp (T U)) ?_ U Ac;refine x_y (i:=6) U qkr (Ez (T U) U) ?_ U Ac;refine x_y (i:=7) U qkr (Ez (T U) U) ?_ U Ac;refine x_y (i:=8) U qkr (Hk (T U)) ?_ U Ac;refine x_y (i:=9) U qkr (Hk (T U)) ?_ U Ac;refine B6 qkr U ?_;refine rO tb 3 U (Ij 43 _ mixd qkr sb0 ?_ A7);refine x_y (i:=0) U qkr (Bp (T U)) ?_ U Ac;refine x_y (i:=1) U qkr (Bp (T U)) ?_ U Ac;refine x_y (i:=2) U qkr (Bp (T U)) ?_ U (Ax U U (Aa U));refine Bt (i:=3) qkr qkr ?_;refine Bk U (Ai (.cons Ap (.cons Ap (.cons Ap (.cons Ap (.cons Ap (.cons Ap .nil)))))) (zbs27_6_0_1_2_3_4_5 _ _ _ _ _ _)) ?_ U (Ax U U (Aa U));rintro _ _ ⟨n161,rfl,rfl⟩;refine⟨sbt,(Lk ?_)⟩;refine x_y (i:=4) U qkr (Ay (qe2 U U) call23 (fun H' hs=>Dx (decide_eq_true U) (sameInts_s q58 (some ⟨n161,0,none⟩) k58 6 [1,1,1,1,0,0] [1,1,1,1,0,0] (hA58.mono (List.Sublist.trans sbx hs)) ((By (enc:=encI) (sz:=1) (l:=([1,1,1,1,0,0]:List Int)) (cells:=([1,1,1,1,0,0]:List Int).flatMap encI) (e:=3) (fun _=>rfl) U (show Fnd _ n161 _ from fdd)).mono hs) qde))) ?_ U (Ax U U (Aa U));refine x_y (i:=5) U qkr (Dj (T U) (T U)) ?_ U Ac;refine x_y (i:=6) U qkr (Bp (T U)) ?_ U Ac;refine x_y (i:=7) U qkr (Lp U isAgg26 sizeOf26 U qcs) ?_ U (Ax U U (Aa U));refine x_y (i:=8) U qkr (Lp U isAgg29 sizeOf29 U qcs) ?_ U (Ax U U (Aa U));refine x_y (i:=11) U qkr (Bp (T U)) ?_ U (Ax U U (Aa U));refine Bt (i:=9) qkr qkr ?_;refine Bk U (Al (.cons Ap (.cons Ap .nil)) call39 (Jh 21 ⟨#[]⟩ anE (.inl ⟨rfl,rfl⟩))) ?_ U (Ax U U (Aa U));rintro _ _ ⟨m167,M167,⟨rfl,g167⟩,rfl⟩;refine⟨sbt,(Lk (Bt (i:=10) qkr qkr ?_))⟩;refine Bk U (Ai (.cons (T U) .nil) (Ge _ _ _ _ _ _ _ _)) ?_ U (Ax U U (Aa U));rintro _ _ ⟨n168,rfl,rfl⟩;refine⟨sbt,(Lk ?_)⟩;refine x_y (i:=12) U qkr (Ay (qe4 U U U U) call29 (fun H' hs=>Dx (sf1 y1 y2 y3) (Gy (exN y1 y2 y3) (E8 (Fnd.mono fdd hs) (Fnd.mono fdd hs)) (Hg y1 y2 y3) (Fu y1 y2 y3) noF Ea (Nat.zero_le _) [⟨0,3,21,m167⟩] [oSn 21 anE] (some ⟨n168,0,none⟩) 1 ((osm1 fdd (g167.own.mono sbx)).mono hs) (Ko (Ek y1 y2 y3 (a:=21) (e:=anE) qde qde bd0) g167.i g167.z) [1,1,1,1,0,0] q58 k58 (hA58.mono (List.Sublist.trans sbx hs)) qde))) ?_ U (Ax U U (Aa U));refine x_y (i:=13) U qkr (Dj (T U) (T U)) ?_ U Ac;refine x_y (i:=14) U qkr (Bp (T U)) ?_ U Ac;refine x_y (i:=15) U qkr (Lp U isAgg26 sizeOf26 U qcs) ?_ U (Ax U U (Aa U));refine x_y (i:=16) U qkr (Lp U isAgg29 sizeOf29 U qcs) ?_ U (Ax U U (Aa U));refine x_y (i:=17) U qkr (Bp (T U)) ?_ U (Ax U U (Aa U));refine x_y (i:=18) U qkr (Bp (T U)) ?_ U (Ax U U (Aa U));refine Bt (i:=19) qkr qkr ?_;refine Bk U (Al (qe4 U U U U) call19 (pfits_s (exN y1 y2 y3) (E8 fdd fdd) (Hg y1 y2 y3) (Fu y1 y2 y3) noF Ea (Nat.zero_le _) [⟨0,3,10,m62⟩,⟨0,3,10,m63⟩] [oSn 10 (thE ⟨#[99]⟩),oSn 10 anE] (some ⟨n64,0,none⟩) 2 (osm2 fdd (g62.own.mono sbx) (g63.own.mono sbx)) (Jt (Ek y1 y2 y3 (a:=10) (e:=(thE ⟨#[99]⟩)) qde qde bd2) (Ek y1 y2 y3 (a:=10) (e:=anE) qde qde bd0) g62.i g63.i g62.z g63.z) [(⟨qa,ka,[⟨qb,kb,[2,3],16⟩]⟩:Lr),⟨qc,kc,[⟨qd,kd,[0,1],16⟩]⟩] _ _ (hS69.mono sbx) hshf)) ?_ U (Ax U U (Aa U));rintro _ _ ⟨⟨c177,rfl,hc177⟩,rfl⟩;obtain rfl:c177=0:=hc177.uniq hfit;refine⟨sbt,(Lk (x_y (i:=20) U qkr (yl_eql (T U) Ap) ?_ U (Ax U U (Aa U))))⟩;refine x_y (i:=21) U qkr (Dj (T U) (T U)) ?_ U Ac;refine x_y (i:=22) U qkr (Bp (T U)) ?_ U Ac;refine x_y (i:=23) U qkr (Bp (T U)) ?_ U (Ax U U (Aa U));refine x_y (i:=24) U qkr (Dj (T U) (T U)) ?_ U Ac;refine x_y (i:=25) U qkr (Bp (T U)) ?_ U Ac;refine x_y (i:=26) U qkr (Bp (T U)) ?_ U (Ax U U (Aa U));refine x_y (i:=27) U qkr (yl_eql (T U) Ap) ?_ U (Ax U U (Aa U));refine x_y (i:=28) U qkr (Dj (T U) (T U)) ?_ U Ac;refine x_y (i:=29) U qkr (Bp (T U)) ?_ U Ac;refine x_y (i:=30) U qkr (Lp U isAgg26 sizeOf26 U qcs) ?_ U (Ax U U (Aa U));refine x_y (i:=31) U qkr (Bp (T U)) ?_ U (Ax U U (Aa U));refine x_y (i:=32) U qkr (Bp (T U)) ?_ U (Ax U U (Aa U));refine x_twoA (i:=33) (j:=34) (v1:=fun d:Sl=>slV d 6) (φ1:=fun d=>SlOk d 6 1) (M1:=fun d=>slH d ([160,160,160,160,0,0].flatMap encI) 3) (v2:=fun n:Nat=> .slice (some ⟨n,0,none⟩) 6 6) (φ2:=fun _=>True) (M2:=fun n=>[(n,Cl [.int .i64 160, .int .i64 160, .int .i64 160, .int .i64 160, .int .i64 0, .int .i64 0] 3)]) qkr rfl rfl qkr qkr rfl rfl rfl rfl (fun L9 H9 hs hL9=>by rcases hL9 with rfl|⟨b9,rfl⟩<;>exact(Al (qe3 rfl rfl rfl) call24 (pload_s (exN y1 y2 y3) (E8 (Fnd.mono fdd hs) (Fnd.mono fdd hs)) (by show 6≤1000000;decide) [⟨0,3,10,m62⟩,⟨0,3,10,m63⟩] (some ⟨n64,0,none⟩) 2 ((osm2 fdd (g62.own.mono sbx) (g63.own.mono sbx)).mono hs) [(⟨qa,ka,[⟨qb,kb,[2,3],16⟩]⟩:Lr),⟨qc,kc,[⟨qd,kd,[0,1],16⟩]⟩] _ _ (hS69.mono (List.Sublist.trans sbx hs)) (ldOk_of (Jt (Ek y1 y2 y3 (a:=10) (e:=(thE ⟨#[99]⟩)) qde qde bd2) (Ek y1 y2 y3 (a:=10) (e:=anE) qde qde bd0) g62.i g63.i g62.z g63.z) hshf hfit.ok.1 hfit.ok.2.1)))) (fun L9 H9 hs hL9=>by rcases hL9 with rfl|⟨b9,rfl⟩<;>exact(Eff.mono (Ai (.cons Ap (.cons Ap (.cons Ap (.cons Ap (.cons Ap (.cons Ap .nil)))))) (zbs27_6_0_1_2_3_4_5 _ _ _ _ _ _)) fun v H8 ⟨n,h1,h2⟩=>⟨n,⟨h1,trivial⟩,h2⟩)) rfl rfl (Ax rfl rfl (Aa rfl)) (Ax rfl rfl (Aa rfl)) (fun _=>Ax rfl rfl (Aa rfl)) (fun _=>Ax rfl rfl (Aa rfl)) sbt ?_;rintro dL n192 hdL -
 dsimp only[List.cons_append,List.nil_append]
 refine x_y (i:=35) U qkr (Ay (qe2 U U) call23 (fun H' hs=>Dx (decide_eq_true U) (sameInts_s (slQ dL) (some ⟨n192,0,none⟩) (slC dL) 6 [160,160,160,160,0,0] [160,160,160,160,0,0] ((Aw (w0:=w0) (d:=dL) (enc:=encI) (sz:=1) (e:=3) (l:=[160,160,160,160,0,0]) (X:=[]) (fun _=>rfl) hdL).mono (by rw[List.append_nil];exact List.Sublist.trans sbx hs)) ((By (enc:=encI) (sz:=1) (l:=([160,160,160,160,0,0]:List Int)) (cells:=([160,160,160,160,0,0]:List Int).flatMap encI) (e:=3) (fun _=>rfl) U (show Fnd _ n192 _ from fdd)).mono hs) qde))) ?_ U (Ax U U (Aa U));refine x_y (i:=36) U qkr (Dj (T U) (T U)) ?_ U Ac;refine x_y (i:=37) U qkr (Bp (T U)) ?_ U Ac;refine x_y (i:=38) U qkr (Bp (T U)) ?_ U (Ax U U (Aa U));refine x_y (i:=39) U qkr (Bp (T U)) ?_ U (Ax U U (Aa U));refine x_y (i:=40) U qkr (Ay (qe2 U U) call17 (fun H' hs=>Dx (decide_eq_true U) (psame_s a40 a40 _ _ _ _ (hS40.mono (List.Sublist.trans sbx hs)) (hS40.mono (List.Sublist.trans sbx hs))))) ?_ U (Ax U U (Aa U));refine x_y (i:=41) U qkr (Dj (T U) (T U)) ?_ U Ac;refine x_y (i:=42) U qkr (Hk (T U)) ?_ U Ac;refine B6 qkr U ?_;refine kO tb 2 [0] rfl U (rG tb 1 U (Ah U (Ll U) ?_));exact⟨_,⟨rfl,rfl⟩,sbt⟩
theorem nnOk_of {n:Nm}(h:NetOk n)(h1:n.nodes.length≤8)(h2:n.links.length≤16):NnOk (nnOf n):=by
 refine⟨by show n.nodes.length≤12;omega,by simpa[nnOf] using (show n.links.length≤30 by omega),fun l hl=> ?_⟩;obtain⟨a,ha,rfl⟩:=List.mem_map.1 hl;obtain⟨i,hi,rfl⟩:=List.getElem_of_mem ha;have h1:=h.links i hi;rw[Au hi] at h1;have h2:=h1.s0;have h3:=h1.s1;have h4:=h1.d0;have h5:=h1.d1;show (n.links[i]).src.toNat<n.nodes.length∧(n.links[i]).dst.toNat<n.nodes.length;omega
theorem nn_cap {n:Nm}(h:NetOk n):∀ x∈(nnOf n).links,0≤x.cap∧x.cap≤1048576:=fun x hx=>by
 obtain⟨a,ha,rfl⟩:=List.mem_map.1 hx;obtain⟨i,hi,rfl⟩:=List.getElem_of_mem ha;have h1:=h.links i hi;rw[Au hi] at h1;exact⟨h1.c0,h1.c1⟩
structure RgtE (N:Nn) (f:Flr) (os:List Om) (most:Int) (a:List Lr) (os2:List Odr):Prop where
 ok:NnOk N
 cap:∀ x∈N.links,0≤x.cap∧x.cap≤1048576
 nl:N.links.length≤16
 fl:f.links.length≤1000000
 fl16:f.links.length≤16
 few:FewS most os a
 os:OsOk N os os2
theorem RgtR.e {n:Nm}{f:Flr}{os:List Om}{most:Int}{a:List Lr}(h:RgtR n f os most a):∃ os2,RgtE (nnOf n) f os most a os2:=by
 obtain⟨os2,ho⟩:=h.os;exact⟨os2,nnOk_of h.net h.nn h.nl,nn_cap h.net,by simpa[nnOf] using h.nl,by have:=h.fl;omega,h.fl,h.few,ho⟩
theorem rrightE_s {w0:World}{H:List (Nat × Obj)}(n:Nm)(hn:NetM w0 H n)(f:Flr)(hf:Arr w0 H f.q 1 encI f.links)(hfl:f.links.length≤9223372036854775807)(os:List Om)(qo:Option Addr)(co:Nat)(hO:OsM w0 H qo os)(hoz:∀ o∈os,o.m.sz≤1048576)(most:Int)(hm:most≤6)(a:List Lr)(q1:Option Addr)(c1:Nat)(hA:ShM w0 H q1 a):
  FSpec Tryz.prog w0 26 #[.agg (encNn (nnOf n)).toArray, .agg (encFl f).toArray, .slice qo os.length co, .int .i64 most, .slice q1 a.length c1] H (fun v H'=>(∃ t:Bool,v= .bool t∧(t=true→NetOk n∧∃ os2,RgtE (nnOf n) f os most a os2))∧H'=H):=by
 rw[nn_enc n];exact(rright_s n hn f hf hfl os qo co hO hoz most hm a q1 c1 hA).mono fun v H' ⟨⟨t,h1,h2⟩,h3⟩=>⟨⟨t,h1,fun h=>⟨(h2 h).net,(h2 h).e⟩⟩,h3⟩
theorem rte_cases {w0:World}{K:List (Nat × Obj)}{n:Nn}{f:Flr}{os:List Odr}{v:Value}(h:RteV w0 K n f os v):
  (∃ (sh:List (List Sha)) (q:Option Addr) (c:Nat) (a:List Lr),routeF n f os=(sh,none)∧v= .tuple #[.slice q a.length c, .slice none 0 0, .int .i64 0]∧ShM w0 K q a∧shOf a=sh.map (List.map Sha.lan))∨
  (∃ (sh:List (List Sha)) (ld:List Int) (o:Odr) (q:Option Addr) (c:Nat),routeF n f os=(sh,some (ld,o))∧v= .tuple #[.slice none 0 0, .slice q (stuckF n f os o ld).1.length c, .int .i64 (stuckF n f os o ld).2]∧Arr w0 K q 1 encI (stuckF n f os o ld).1∧(stuckF n f os o ld).1.length≤1000):=by
 rcases h with ⟨sh2,q,c,a,⟨e2,hv⟩,hs,ha⟩|⟨sh2,ld,o,q,c,⟨e2,hv⟩,hA,hl⟩
 ·exact .inl ⟨sh2,q,c,a,e2,hv,hs,ha⟩
 ·exact .inr ⟨sh2,ld,o,q,c,e2,hv,hA,hl⟩
theorem shm_nil {w0:World}{H:List (Nat × Obj)}{q:Option Addr}:ShM w0 H q []:=⟨Ea,by simp,fun _ h=>by cases h⟩
theorem stuck_cases (n:Nn)(f:Flr)(os:List Odr)(o:Odr)(ld:List Int):stuckF n f os o ld=([],18)∨(stuckF n f os o ld=(prcF n ld o.amt n.links.length,19)∧refF n f os (prcF n ld o.amt n.links.length)=true)∨(stuckF n f os o ld=(prcF n ld o.amt n.links.length,27)∧refF n f os (prcF n ld o.amt n.links.length)=false):=by
 unfold stuckF
 split
 ·split
  ·rename_i h;exact .inr (.inl ⟨rfl,h⟩)
  ·rename_i h;exact .inr (.inr ⟨rfl,by simpa using h⟩)
 ·exact .inl U
theorem rte_cases4 {w0:World}{K:List (Nat × Obj)}{n:Nn}{f:Flr}{os:List Odr}{v:Value}(h:RteV w0 K n f os v):
  (∃ (sh:List (List Sha)) (q:Option Addr) (c:Nat) (a:List Lr),routeF n f os=(sh,none)∧v= .tuple #[.slice q a.length c, .slice none 0 0, .int .i64 0]∧ShM w0 K q a∧shOf a=sh.map (List.map Sha.lan))∨
  (∃ (q:Option Addr) (c:Nat),v= .tuple #[.slice none 0 0, .slice q 0 c, .int .i64 18])∨
  (∃ (pr:List Int) (q:Option Addr) (c:Nat),v= .tuple #[.slice none 0 0, .slice q pr.length c, .int .i64 19]∧Arr w0 K q 1 encI pr∧pr.length≤1000∧refF n f os pr=true)∨
  (∃ (pr:List Int) (q:Option Addr) (c:Nat),v= .tuple #[.slice none 0 0, .slice q pr.length c, .int .i64 27]∧Arr w0 K q 1 encI pr∧pr.length≤1000∧refF n f os pr=false∧PricedP n.links.length pr):=by
 rcases rte_cases h with h|⟨sh,ld,o,q,c,hr,hv,hA,hl⟩
 ·exact .inl h
 ·rcases stuck_cases n f os o ld with e|⟨e,hrf⟩|⟨e,hrf⟩
  ·rw[e] at hv;exact .inr (.inl ⟨q,c,hv⟩)
  ·rw[e] at hv hA hl;exact .inr (.inr (.inl ⟨_,q,c,hv,hA,hl,hrf⟩))
  ·rw[e] at hv hA hl;refine .inr (.inr (.inr ⟨_,q,c,hv,hA,hl,hrf,fun i hi=> ?_,De _ _ _ _⟩));have hi':i<n.links.length:=by rwa [De] at hi
   unfold prcF;rw[Bw (by simpa using hi')]
   split<;>decide
theorem rte_fit {N:Nn}{f:Flr}{os:List Om}{most:Int}{a:List Lr}{os2:List Odr}(R:RgtE N f os most a os2)(hm:most≤6){sh:List (List Sha)}(hr:routeF N f os2=(sh,none)){b:List Lr}(hb:shOf b=sh.map (List.map Sha.lan)):FitC N f os2 b 0∧ShF b:=by
 have h1:=R.few.o;have h2:=R.os.r.len;exact⟨route_fitC R.ok (fun x hx=>(R.cap x hx).1) R.os.ok hr hb,route_shf R.ok (fun x hx=>(R.cap x hx).1) R.os.ok qom hr hb⟩
theorem fits_s {w0:World}(n:Nm)(hn:NetM w0 [] n)(f:Flr)(hf:Arr w0 [] f.q 1 encI f.links)(hfl:f.links.length≤9223372036854775807)(os:List Om)(qo:Option Addr)(co:Nat)(hO:OsM w0 [] qo os)(hoz:∀ o∈os,o.m.sz≤1048576)(hW:Arr w0 [] (some ⟨0,0,none⟩) 1 encS wordsL):
  FSpec Tryz.prog w0 6 #[.agg (encNm n).toArray, .agg (encFl f).toArray, .slice qo os.length co] [] (Still (.bool true) []):=by
 refine An Tryz.func6 U ntmps6 U ?_;rw[← nn_enc n];refine rD tb 2 U (e_ (Lt U cs_) ?_ U);rintro _ _ ⟨n3,rfl,rfl⟩;refine e_ (Lt U cs_) ?_ U;rintro _ _ ⟨n4,rfl,rfl⟩;refine rO tb 5 U (y_ (Ay .nil call10 (fun H' hs=>sanity_s hW)) (rO tb 6 U (y_ (Lp U isAgg26 sizeOf26 U qcs) ?_ U)) U);refine y_ (Lp U isAgg29 sizeOf29 U qcs) ?_ U;refine rO tb 1 U (e_ (Al (.cons (T U) (.cons (T U) (.cons (T U) (.cons Ap (.cons Ap .nil))))) call26 (rrightE_s n (hn.mono sbx) f (hf.mono sbx) hfl os qo co (hO.mono sbx) hoz 6 qde [] none 0 shm_nil)) ?_ U);rintro _ _ ⟨⟨tR,rfl,htR⟩,rfl⟩
 first|refine A5 (Ba (T U)) U Ac ?_|refine A5 (Bv (T U)) U Ac ?_
 refine rO tb 2 U ?_
 first|refine Ad (Aa U) (fun c16=> ?_) (fun c16=> ?_)|refine Bo (Aa U) (fun c16=> ?_) (fun c16=> ?_)
 ·refine rC tb 8 U (Ah U (Ll U) ?_);exact⟨_,⟨rfl,rfl⟩,sbt⟩
 ·obtain⟨hnet,os2,R⟩:=htR (by simpa using c16);have hok:=R.ok;have hcap:=R.cap;have hfl2:=R.fl;have hoo:=R.os;have hnl:=R.nl;have hos:(os.length:Int)≤6:=R.few.o;have hol:=hoo.r.len;refine rC tb 4 U (y_ (Lp U isAgg26 sizeOf26 U qcs) ?_ U);refine y_ (Lp U isAgg29 sizeOf29 U qcs) ?_ U;refine rO tb 1 U (e_ (Al (qe3 U U U) call27 (Fe (nnOf n) (Il (hn.mono sbx) hnet) hok hcap f (hf.mono sbx) hfl2 os os2 qo co (hO.mono sbx) hoo)) ?_ U);rintro _ _ ⟨M8,h8,rfl⟩;rcases rte_cases4 h8 with ⟨sh,q8,k8,a8,hr,rfl,hS8,ha8⟩|⟨q8,k8,rfl⟩|⟨pr,q8,k8,rfl,hA8,hl8,hrf⟩|⟨pr,q8,k8,rfl,hA8,hl8,hrf,hpp⟩
  ·refine rO tb 22 U ?_;refine Ad (Aa U) (fun c27=> ?_) (fun c27=> ?_)
   ·have hfit:=rte_fit R qde hr ha8;refine rC tb 9 U (A5 (Lp U isAgg26 sizeOf26 U qcs) U (Ax U U (Aa U)) ?_);refine A5 (Lp U isAgg29 sizeOf29 U qcs) U (Ax U U (Aa U)) ?_;refine rO tb 2 U (Az (Al (qe4 U U U U) call20 (rfits_s (nnOf n) (Il (hn.mono sbx) hnet) hok hcap f (hf.mono sbx) hfl2 os os2 qo co (hO.mono sbx) hoo a8 _ _ (hS8.mono sbx) hfit.2)) U (Ax U U (Aa U)) ?_);rintro _ _ ⟨⟨cf,rfl,hcf⟩,rfl⟩;obtain rfl:cf=0:=hcf.uniq hfit.1;refine rO tb 3 U (A5 (Lp U isAgg26 sizeOf26 U qcs) U (Ax U U (Aa U)) ?_);refine A5 (Lp U isAgg29 sizeOf29 U qcs) U (Ax U U (Aa U)) ?_;refine rO tb 2 U (Az (Al (qe4 U U U U) call19 (pfits_s (nnOf n) (Il (hn.mono sbx) hnet) hok hcap f (hf.mono sbx) hfl2 os os2 qo co (hO.mono sbx) hoo a8 _ _ (hS8.mono sbx) hfit.2)) U (Ax U U (Aa U)) ?_);rintro _ _ ⟨⟨cf,rfl,hcf⟩,rfl⟩;obtain rfl:cf=0:=hcf.uniq hfit.1;refine kO tb 5 [6] rfl U (rG tb 3 U (Ah U (Ll U) ?_));exact⟨_,⟨rfl,rfl⟩,sbt⟩
   ·exfalso;omega
  ·refine rO tb 22 U ?_;refine Ad (Aa U) (fun c27=> ?_) (fun c27=> ?_)
   ·exfalso;omega
   ·refine rC tb 6 U ?_;refine Ad (Aa U) (fun c51=> ?_) (fun c51=> ?_)
    ·exfalso;omega
    ·refine rC tb 6 U ?_;refine Ad (Aa U) (fun c73=> ?_) (fun c73=> ?_)
     ·exfalso;omega
     ·refine rC tb 11 U (A5 (Ar (T U) (T U) qom) U (Ax U U (Aa U)) ?_);refine kO tb 9 [6] rfl U (rG tb 1 U (Ah U (Ll U) ?_));exact⟨_,⟨rfl,rfl⟩,sbt⟩
  ·refine rO tb 22 U ?_;refine Ad (Aa U) (fun c27=> ?_) (fun c27=> ?_)
   ·exfalso;omega
   ·refine rC tb 6 U ?_;refine Ad (Aa U) (fun c51=> ?_) (fun c51=> ?_)
    ·refine rC tb 9 U (A5 (Lp U isAgg26 sizeOf26 U qcs) U (Ax U U (Aa U)) ?_);refine A5 (Lp U isAgg29 sizeOf29 U qcs) U (Ax U U (Aa U)) ?_;refine rO tb 2 U (A5 (Ay (qe4 U U U U) call30 (fun H' hs=>Dx hrf (rrefuted_s (nnOf n) (Il (hn.mono (List.Sublist.trans sbx hs)) hnet) hok hcap f (hf.mono (List.Sublist.trans sbx hs)) hfl2 os os2 qo co (hO.mono (List.Sublist.trans sbx hs)) hoo pr _ _ (hA8.mono (List.Sublist.trans sbx hs)) qom))) U (Ax U U (Aa U)) ?_);refine rO tb 2 U (A5 (Lp U isAgg26 sizeOf26 U qcs) U (Ax U U (Aa U)) ?_);refine A5 (Lp U isAgg29 sizeOf29 U qcs) U (Ax U U (Aa U)) ?_;refine rO tb 2 U (A5 (Ay (qe4 U U U U) call29 (fun H' hs=>Dx hrf (Gy (nnOf n) (Il (hn.mono (List.Sublist.trans sbx hs)) hnet) hok hcap f (hf.mono (List.Sublist.trans sbx hs)) hfl2 os os2 qo co (hO.mono (List.Sublist.trans sbx hs)) hoo pr _ _ (hA8.mono (List.Sublist.trans sbx hs)) qom))) U (Ax U U (Aa U)) ?_);refine kO tb 4 [6] rfl U (rG tb 3 U (Ah U (Ll U) ?_));exact⟨_,⟨rfl,rfl⟩,sbt⟩
    ·exfalso;omega
  ·refine rO tb 22 U ?_;refine Ad (Aa U) (fun c27=> ?_) (fun c27=> ?_)
   ·exfalso;omega
   ·refine rC tb 6 U ?_;refine Ad (Aa U) (fun c51=> ?_) (fun c51=> ?_)
    ·exfalso;omega
    ·refine rC tb 6 U ?_;refine Ad (Aa U) (fun c73=> ?_) (fun c73=> ?_)
     ·refine rC tb 9 U (A5 (Lp U isAgg26 sizeOf26 U qcs) U (Ax U U (Aa U)) ?_);refine rO tb 1 U (Az (Al (qe2 U U) call31 (priced_s (nnOf n) pr _ _ (hA8.mono sbx) qom)) U (Ax U U (Aa U)) ?_);rintro _ _ ⟨⟨tP,rfl,htP⟩,rfl⟩;obtain rfl:tP=true:=htP.2 hpp;refine rO tb 2 U (A5 (Lp U isAgg26 sizeOf26 U qcs) U (Ax U U (Aa U)) ?_);refine A5 (Lp U isAgg29 sizeOf29 U qcs) U (Ax U U (Aa U)) ?_;refine rO tb 2 U (A5 (Ay (qe4 U U U U) call29 (fun H' hs=>Dx hrf (Gy (nnOf n) (Il (hn.mono (List.Sublist.trans sbx hs)) hnet) hok hcap f (hf.mono (List.Sublist.trans sbx hs)) hfl2 os os2 qo co (hO.mono (List.Sublist.trans sbx hs)) hoo pr _ _ (hA8.mono (List.Sublist.trans sbx hs)) qom))) U (Ax U U (Aa U)) ?_)
      first|refine A5 (Ba (T U)) U (Ax U U (Aa U)) ?_|refine A5 (Bv (T U)) U (Ax U U (Aa U)) ?_
      refine kO tb 4 [6] rfl U (rG tb 3 U (Ah U (Ll U) ?_));exact⟨_,⟨rfl,rfl⟩,sbt⟩
     ·exfalso;omega
end Go.Proofs.YtpkijiejccngcaaGreatDoor
namespace Go.Proofs.YtpkijiejccngcaaGreatDoor
open _root_.Go.Proofs.Tryz
open Go.ChangeShapes Go.WideShapes Go.ChangeAt Go.RowKit Go.Joins Go.Deep
set_option linter.unusedVariables false
set_option linter.unusedSimpArgs false
set_option linter.unusedSectionVars false
set_option maxRecDepth 100000
theorem cells58o:Tryz.prog.cellsOf 58=6:=by kernel_rfl
section
variable {H:Type} {enc:TypeId × Value→H} {W:World} {b0 n:Nat} {sp1:Nat→Bool} {held:Bool} {y:DataW H × List MemPlace} {cs:List Value}
theorem rd_order (h:DataW.trod enc Tryz.prog W b0 sp1 held n 58 cs=some y):∃ u:Om,cs=encOm u∧RxM W [] u.m∧u.m.sz≤Rows.uptoBulk y.1:=by
 obtain⟨xs,m,rfl,hx,hlen,hxl,hall⟩:=DataW.trod_struct underlying58 h;rw[cells58o] at hlen
 match xs,hxl,cs,hlen with
 |[x0,x1,x2,x3],_,[c0,c1,c2,c3,c4,c5],_=>
  have f0:DataW.trod enc Tryz.prog W b0 sp1 held m 3 [c0]=some x0:=by have:=hall 0 _ rfl;simpa[cells3] using this
  have f1:DataW.trod enc Tryz.prog W b0 sp1 held m 3 [c1]=some x1:=by have:=hall 1 _ rfl;simpa[cells3] using this
  have f2:DataW.trod enc Tryz.prog W b0 sp1 held m 3 [c2]=some x2:=by have:=hall 2 _ rfl;simpa[cells3] using this
  have f3:DataW.trod enc Tryz.prog W b0 sp1 held m 56 [c3,c4,c5]=some x3:=by have:=hall 3 _ rfl;simpa[cells24] using this
  have hb:Rows.uptoBulk x3.1≤Rows.uptoBulk y.1:=by
   rw[hx];simp only[Rows.uptoBulk,Rows.uptoBulkAll,List.map_cons,List.map_nil];omega
  obtain⟨a0,rfl,_⟩:=Fd f0;obtain⟨a1,rfl,_⟩:=Fd f1;obtain⟨a2,rfl,_⟩:=Fd f2;obtain⟨u,e,hu,hz⟩:=rd_rx _ (Nat.le_refl _) f3;exact⟨⟨a0,a1,a2,u⟩,by rw[e];rfl,hu,by show u.sz≤_;omega⟩
theorem open_orders {base:Nat}{r:_root_.Go.Reach}{v:Value}{d:DataW H}{p:List MemPlace}(hv:Value.okWide Tryz.prog W r base 30 v)(h:DataW.Trod enc Tryz.prog W b0 sp1 held 30 v d p)(hb:Rows.uptoBulk d≤1048576):∃ (q:Option Addr) (l:List Om) (cap:Nat),v= .slice q l.length cap∧OsM W [] q l∧l.length≤cap∧∀ o∈l,o.m.sz≤1048576:=by
 obtain⟨a0,len0,cap0,rfl⟩:=okWide_slice underlying30 hv;obtain⟨fuel,hf⟩:=h;obtain⟨q,l,cap,e,a,c,b,f,s⟩:=Gc (el:=encOm) (φ:=fun u=>RxM W [] u.m) (szf:=fun u=>u.m.sz) underlying30 cells58o qom (fun n cs y _ h=>by obtain⟨u,h1,h2,h3⟩:=rd_order h;exact⟨u,h1,h2,h3⟩) hf;simp only[Value.cells,List.cons.injEq,and_true] at e;exact⟨q,l,cap,e,⟨a,b,f⟩,c,fun o ho=>by have:=sum_mem (f:=fun u:Om=>u.m.sz) ho;simp only[] at this s;omega⟩
theorem words_laid:(Rows.laid_interlace_token_words:DataW Unit)= .agg (wordsL.map fun s=> .lit (.string s.data.toList)):=by kernel_rfl
theorem words_arr (hl:laidMetH Tryz.prog [("interlace/token.words",Rows.laid_interlace_token_words)] W):Arr W [] (some ⟨0,0,none⟩) 1 encS wordsL:=by
 rw[MakeChecks.laidMetH_plain _ _ _ qkr] at hl;obtain⟨ps,⟨g,t,cs,fuel,p,q,hg,ht,hv,hd,_,_⟩,_,_⟩:=hl;obtain rfl:=Option.some.inj ((show Tryz.prog.globalNamed "interlace/token.words" =some 0 by kernel_rfl).symm.trans hg);obtain rfl:=Option.some.inj ((show (Tryz.prog.globals[0]?).map (·.type)=some 252 by kernel_rfl).symm.trans ht);obtain⟨xs,m,_,ex,_,hln,hel⟩:=DataW.trod_array underlying252 hd;rw[words_laid] at ex;have e3:(xs.map (·.1))=wordsL.map fun s=>(DataW.lit (.string s.data.toList):DataW Unit):=(DataW.agg.inj (Prod.mk.inj ex).1).symm
 intro r x hx;have hr:r<49:=(List.getElem?_eq_some_iff.1 hx).1;have hE:=hel r hr;rw[cells9,Nat.mul_one,List.getElem?_eq_getElem qom] at hE;obtain⟨z,e1,e2,_⟩:=DataW.trod_string underlying9 hE;have e4:(xs.map (·.1))[r]? =(wordsL.map fun s=>(DataW.lit (.string s.data.toList):DataW Unit))[r]? :=by rw[e3]
 rw[List.getElem?_map,List.getElem?_map,List.getElem?_eq_getElem (by omega:r<xs.length),hx,e2] at e4;simp only[Option.map_some,Option.some.injEq,DataW.lit.injEq,Lit.string.injEq] at e4;have hz:z=x:=ByteArray.ext (Array.ext' e4);subst hz;refine⟨rfl,fun j v hj=> ?_⟩
 match j,hj with
 |0,hj=>
  obtain rfl:Value.string z=v:=Option.some.inj hj;refine cell_arg ?_;show W.cell? ⟨0,0+r*1+0,none⟩=_;rw[show 0+r*1+0=r by omega,World.var?_cell hg hv r];have:cs.toList[r]? =some (.string z):=by
   have h0:((cs.toList.drop r).take 1)[0]? =some (.string z):=by rw[e1];rfl
   simpa using h0
  simpa using this
end
end Go.Proofs.YtpkijiejccngcaaGreatDoor
namespace Go.Proofs.YtpkijiejccngcaaGreatDoor
open _root_.Go.Proofs.Tryz
open Go.ChangeShapes Go.WideShapes Go.ChangeAt Go.RowKit Go.Joins
set_option linter.unusedVariables false
set_option linter.unusedSimpArgs false
set_option linter.unusedSectionVars false
set_option maxRecDepth 100000
section
variable {H:Type} {enc:TypeId × Value→H} {W:World}
theorem laid_out:laidOutB Tryz.prog=true:=by kernel_rfl
theorem trodAll_stays:∀ {ts:List TypeId} {vs:List Value} {ds:List (DataW H)} {ps:List MemPlace} {W':World},(∀ t∈ts,Tryz.prog.readableRec t=true∧t<Tryz.prog.types.size)→DataW.TrodAll enc Tryz.prog W 0 (fun _=>true) true ts vs ds ps→Below W.heap.size W W'→(∀ x∈ps,x.block<W.heap.size)→
  DataW.TrodAll enc Tryz.prog W' 0 (fun b=>decide (b<W.heap.size)) true ts vs ds ps
 |[],_,_,_,_,_,h,_,_=>by obtain⟨rfl,rfl,rfl⟩:=trodAll_nil h;exact trodAll_mk0
 |t::ts,_,_,_,_,hr,h,hb,hlt=>by
  obtain⟨v,vs,d,ds,p,q,rfl,rfl,rfl,h0,r0⟩:=trodAll_cons h;exact trodAll_cons_mk (Below.trod laid_out (hr t (by simp)).1 (hr t (by simp)).2 h0 hb (fun x hx=>hlt x (by simp[hx]))) (trodAll_stays (fun t ht=>hr t (by simp[ht])) r0 hb (fun x hx=>hlt x (by simp[hx])))
end
theorem calls_true {f:FuncId}{args:Array Value}{W:World}(h:FSpec Tryz.prog W f args [] (Still (.bool true) [])):Calls Tryz.prog f args W fun e W'=>e= .returned (.bool true)∧Below W.heap.size W W':=
 (h W (Own.start W)).mono fun e W' ⟨v,H',he,hO,hv,_⟩=>⟨by rw[he,hv],hO.below⟩
def tabW:Array Value:=(wordsL.map fun s=>Value.string s).toArray
def layObj (a:Array Value):Obj→Obj
 | .cells _ t frozen=> .cells a t frozen
 |o=>o
noncomputable def laidWorld (os:Os):World:=
 {World.holding Tryz.prog os ⟨#[],#[],[]⟩ with heap:=(World.holding Tryz.prog os ⟨#[],#[],[]⟩).heap.modify 0 (layObj tabW)}
end Go.Proofs.YtpkijiejccngcaaGreatDoor
