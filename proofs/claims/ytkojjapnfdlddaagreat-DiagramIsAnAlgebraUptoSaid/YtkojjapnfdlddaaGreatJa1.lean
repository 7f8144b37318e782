/-
  A part of what LawA rests on: the logic, walks and plain laws. No condition.
-/
import Derived.Test.YtkojjapnfdlddaaGreatJa0
import Derived.Below
namespace Go.Proofs.YtkojjapnfdlddaaGreat
open _root_.Go.Proofs.Tryz
open Go.RowKit
set_option linter.unusedVariables false
set_option linter.unusedSimpArgs false
set_option linter.unusedSectionVars false
set_option maxRecDepth 100000
def eOr (a b:Nat):Option Nat:=if a=1∨b=1 then some 1 else if a=0∨a=b then some b else if b=0 then some a else none
def eAnd (a b:Nat):Option Nat:=if a=0∨b=0 then some 0 else if a=1∨a=b then some b else if b=1 then some a else none
def eNot (a _b:Nat):Option Nat:=if a=0 then some 1 else if a=1 then some 0 else none
section
variable {N most:Nat} {ns ms:Ns}
theorem is_0 (h:Wf N ns){lv:Nat}(hl:lv≤N){R:(Nat→Bool)→Bool}(hR:∀ α,R α=false):Is N ns 0 lv R:=⟨by have:=h.two;omega,by rw[h.lv0];exact hl,fun α=>by rw[hR];rfl⟩
theorem J8 (h:Wf N ns){lv:Nat}(hl:lv≤N){R:(Nat→Bool)→Bool}(hR:∀ α,R α=true):Is N ns 1 lv R:=⟨by have:=h.two;omega,by rw[h.lv1];exact hl,fun α=>by rw[hR];rfl⟩
theorem Fo (h:Wf N ns){a b:Nat}(ha:a<ns.length)(hb:b<ns.length):min (lvl ns a) (lvl ns b)≤N:=by have:=h.lvN ha;omega
theorem El:Ends N eOr (fun x y=>x||y):=by
 constructor
 ·intro ns a b id h ha hb e;unfold eOr at e
  split at e
  ·rename_i h1;obtain rfl:=Option.some.inj e;refine J8 h (Fo h ha hb) fun α=> ?_
   rcases h1 with rfl|rfl<;>simp[Jx]
  ·split at e
   ·rename_i h1;obtain rfl:=Option.some.inj e;refine⟨hb,Nat.min_le_right _ _,fun α=> ?_⟩;rcases h1 with rfl|rfl<;>simp[G6]
   ·split at e
    ·rename_i h1;obtain rfl:=Option.some.inj e;subst h1;exact⟨ha,Nat.min_le_left _ _,fun α=>by simp[G6]⟩
    ·cases e
 ·intro a b ha hb;unfold eOr;have:(a=0∨a=1):=by omega
  have:(b=0∨b=1):=by omega
  rcases ‹a=0∨a=1› with rfl|rfl<;>rcases ‹b=0∨b=1› with rfl|rfl<;>simp
theorem ends_and:Ends N eAnd (fun x y=>x&&y):=by
 constructor
 ·intro ns a b id h ha hb e;unfold eAnd at e
  split at e
  ·rename_i h1;obtain rfl:=Option.some.inj e;refine is_0 h (Fo h ha hb) fun α=> ?_
   rcases h1 with rfl|rfl<;>simp[G6]
  ·split at e
   ·rename_i h1;obtain rfl:=Option.some.inj e;refine⟨hb,Nat.min_le_right _ _,fun α=> ?_⟩;rcases h1 with rfl|rfl<;>simp[Jx]
   ·split at e
    ·rename_i h1;obtain rfl:=Option.some.inj e;subst h1;exact⟨ha,Nat.min_le_left _ _,fun α=>by simp[Jx]⟩
    ·cases e
 ·intro a b ha hb;unfold eAnd;have:(a=0∨a=1):=by omega
  have:(b=0∨b=1):=by omega
  rcases ‹a=0∨a=1› with rfl|rfl<;>rcases ‹b=0∨b=1› with rfl|rfl<;>simp
theorem ends_not:Ends N eNot (fun x _=> !x):=by
 constructor
 ·intro ns a b id h ha hb e;unfold eNot at e
  split at e
  ·rename_i h1;obtain rfl:=Option.some.inj e;subst h1;exact J8 h (Fo h ha hb) fun α=>by simp[G6]
  ·split at e
   ·rename_i h1;obtain rfl:=Option.some.inj e;subst h1;exact is_0 h (Fo h ha hb) fun α=>by simp[Jx]
   ·cases e
 ·intro a b ha hb;unfold eNot;have:(a=0∨a=1):=by omega
  have:(b=0∨b=1):=by omega
  rcases ‹a=0∨a=1› with rfl|rfl<;>rcases ‹b=0∨b=1› with rfl|rfl<;>simp
theorem kn_nil {op:Bool→Bool→Bool}:KnOk N op ns []:=fun a b id h=>by cases h
def apA (most:Nat) (e:Nat→Nat→Option Nat) (ns:Ns) (a b:Nat):Option (Nat × Ns):=(apF most e (lvl ns 0+1) [] ns a b).map fun x=>(x.1,x.2.2)
def orF (most:Nat):=apA most eOr
def andF (most:Nat):=apA most eAnd
def notF (most:Nat) (ns:Ns) (a:Nat):=apA most eNot ns a a
theorem Et {e:Nat→Nat→Option Nat}{op:Bool→Bool→Bool}(he:Ends N e op){a b id:Nat}(hw:Wf N ns)(ha:a<ns.length)(hb:b<ns.length)(h:apA most e ns a b=some (id,ms)):Gr N ns ms∧Is N ms id (min (lvl ns a) (lvl ns b)) fun α=>op (sem ns a α) (sem ns b α):=by
 unfold apA at h;cases h1:apF most e (lvl ns 0+1) [] ns a b with
 |none=>rw[h1] at h;cases h
 |some x=>
  obtain⟨id',kn',ms'⟩:=x;rw[h1] at h;obtain⟨rfl,rfl⟩:=Prod.mk.inj (Option.some.inj h);obtain⟨g,_,i⟩:=Js he _ hw kn_nil ha hb h1;exact⟨g,i⟩
def mixA (x z:Nat→Bool) (k:Nat):Bool:=if k % 2=0 then x (k / 2) else z (k / 2)
def evA (α:Nat→Bool) (k:Nat):Bool:=α (2*k)
def odA (α:Nat→Bool) (k:Nat):Bool:=α (2*k+1)
theorem Ij (x z:Nat→Bool){lv:Nat}(h:lv % 2=0):mixA x z lv=x (lv / 2):=by unfold mixA;rw[if_pos h]
theorem I9 (x z:Nat→Bool){lv:Nat}(h:lv % 2=0):mixA x z (lv+1)=z (lv / 2):=by unfold mixA;rw[if_neg qom,show (lv+1) / 2=lv / 2 by omega]
theorem mix_self (α:Nat→Bool):mixA (evA α) (odA α)=α:=by
 funext k
 unfold mixA evA odA
 split
 ·rw[show 2*(k / 2)=k by omega]
 ·rw[show 2*(k / 2)+1=k by omega]
theorem Fa (x z:Nat→Bool):evA (mixA x z)=x:=by
 funext k
 unfold evA;rw[Ij _ _ qom];congr 1;omega
theorem Gs (x z:Nat→Bool):odA (mixA x z)=z:=by
 funext k
 unfold odA;rw[I9 _ _ qom];congr 1;omega
noncomputable def compR (A B:(Nat→Bool)→Bool) (α:Nat→Bool):Bool:= @decide (∃ y,A (mixA (evA α) y)=true∧B (mixA y (odA α))=true) (Classical.propDecidable _)
theorem compR_iff {A B:(Nat→Bool)→Bool}{α:Nat→Bool}:compR A B α=true↔∃ y,A (mixA (evA α) y)=true∧B (mixA y (odA α))=true:=by unfold compR;exact @decide_eq_true_iff _ (Classical.propDecidable _)
def atD (ns:Ns) (id lv:Nat) (x z:Bool):Nat:=ch ns (ch ns id lv x) (lv+1) z
theorem Cq (h:Wf N ns){i lv:Nat}(hi:i<ns.length)(x z:Bool):atD ns i lv x z<ns.length:=Bv h (Bv h hi x) z
theorem Gm (h:Wf N ns){i lv:Nat}(hi:i<ns.length)(hl:lv≤lvl ns i)(hN:lv+1<N)(x z:Bool):lv+2≤lvl ns (atD ns i lv x z):=by
 have h1:=Dc h hi hl qom x;exact Dc h (Bv h hi x) (lv:=lv+1) h1 hN z
theorem Gn {i lv:Nat}(h:Wf N ns)(g:Gr N ns ms)(hi:i<ns.length)(x z:Bool):atD ms i lv x z=atD ns i lv x z:=by
 unfold atD;rw[g.ch hi,g.ch (Bv h hi x)]
theorem sem_at (h:Wf N ns){i lv:Nat}(hi:i<ns.length)(hN:lv+1<N)(α:Nat→Bool):sem ns i α=sem ns (atD ns i lv (α lv) (α (lv+1))) α:=by
 rw[Hr h hi (lv:=lv) qom α,Hr h (Bv h hi _) (lv:=lv+1) hN α];rfl
def sqF (most:Nat) (f:Kn→Ns→Nat→Nat→Option (Nat × Kn × Ns)) (kn:Kn) (ns:Ns) (a b lv:Nat) (x z:Bool):Option (Nat × Kn × Ns):=
 match f kn ns (atD ns a lv x false) (atD ns b lv false z) with
 |none=>none
 |some (p,kn1,ns1)=>
  match f kn1 ns1 (atD ns1 a lv x true) (atD ns1 b lv true z) with
  |none=>none
  |some (q,kn2,ns2)=>(orF most ns2 p q).map fun r=>(r.1,kn2,r.2)
def rwF (most:Nat) (f:Kn→Ns→Nat→Nat→Option (Nat × Kn × Ns)) (kn:Kn) (ns:Ns) (a b lv:Nat) (x:Bool):Option (Nat × Kn × Ns):=
 match sqF most f kn ns a b lv x false with
 |none=>none
 |some (p,kn1,ns1)=>
  match sqF most f kn1 ns1 a b lv x true with
  |none=>none
  |some (q,kn2,ns2)=>(mkF most ns2 (lv+1) p q).map fun r=>(r.1,kn2,r.2)
def seF (most:Nat):Nat→Kn→Ns→Nat→Nat→Option (Nat × Kn × Ns)
 |0,_,_,_,_=>none
 |k+1,kn,ns,a,b=>
  if a=0∨b=0 then some (0,kn,ns)
  else if a=1∧b=1 then some (1,kn,ns)
  else match look kn (a,b) with
  |some id=>some (id,kn,ns)
  |none=>
   match rwF most (seF most k) kn ns a b (min (lvl ns a) (lvl ns b) / 2*2) false with
   |none=>none
   |some (p,kn1,ns1)=>
    match rwF most (seF most k) kn1 ns1 a b (min (lvl ns a) (lvl ns b) / 2*2) true with
    |none=>none
    |some (q,kn2,ns2)=>(mkF most ns2 (min (lvl ns a) (lvl ns b) / 2*2) p q).map fun r=>(r.1,upsert kn2 (a,b) r.1,r.2)
def KsOk (N:Nat) (ns:Ns) (kn:Kn):Prop:=∀ a b id,look kn (a,b)=some id→a<ns.length∧b<ns.length∧Is N ns id (min (lvl ns a) (lvl ns b) / 2*2) (compR (sem ns a) (sem ns b))
theorem Em (hw:Wf N ns)(g:Gr N ns ms){a b:Nat}(ha:a<ns.length)(hb:b<ns.length):compR (sem ms a) (sem ms b)=compR (sem ns a) (sem ns b):=by
 have e1:sem ms a=sem ns a:=funext fun α=>g.sem hw ha α
 have e2:sem ms b=sem ns b:=funext fun α=>g.sem hw hb α
 rw[e1,e2]
theorem KsOk.gr {kn:Kn}(h:KsOk N ns kn)(hw:Wf N ns)(g:Gr N ns ms):KsOk N ms kn:=fun a b id e=>by
 obtain⟨h1,h2,h3⟩:=h a b id e;refine⟨Nat.lt_of_lt_of_le h1 g.le,Nat.lt_of_lt_of_le h2 g.le,?_⟩;rw[g.lvl h1,g.lvl h2,Em hw g h1 h2];exact h3.gr hw g
def SeOk (N most:Nat) (f:Kn→Ns→Nat→Nat→Option (Nat × Kn × Ns)):Prop:=∀ (kn kn':Kn) (ns ms:Ns) (a b id:Nat),Wf N ns→KsOk N ns kn→a<ns.length→b<ns.length→f kn ns a b=some (id,kn',ms)→Gr N ns ms∧KsOk N ms kn'∧Is N ms id (min (lvl ns a) (lvl ns b) / 2*2) (compR (sem ns a) (sem ns b))
theorem Ik {f:Kn→Ns→Nat→Nat→Option (Nat × Kn × Ns)}(hf:SeOk N most f){kn kn':Kn}{a b lv id:Nat}{x z:Bool}(hw:Wf N ns)(hk:KsOk N ns kn)(ha:a<ns.length)(hb:b<ns.length)(hla:lv≤lvl ns a)(hlb:lv≤lvl ns b)(hev:lv % 2=0)(hN:lv+1<N)(h:sqF most f kn ns a b lv x z=some (id,kn',ms)):
  Gr N ns ms∧KsOk N ms kn'∧Is N ms id (lv+2) fun α=>compR (sem ns (atD ns a lv x false)) (sem ns (atD ns b lv false z)) α||compR (sem ns (atD ns a lv x true)) (sem ns (atD ns b lv true z)) α:=by
 unfold sqF at h
 split at h
 ·cases h
 ·rename_i p kn1 ns1 h1
  split at h
  ·cases h
  ·rename_i q kn2 ns2 h2;obtain⟨g1,k1,i1⟩:=hf _ _ _ _ _ _ _ hw hk (Cq hw ha _ _) (Cq hw hb _ _) h1;have ha1:=Nat.lt_of_lt_of_le ha g1.le;have hb1:=Nat.lt_of_lt_of_le hb g1.le;obtain⟨g2,k2,i2⟩:=hf _ _ _ _ _ _ _ g1.w k1 (Cq g1.w ha1 _ _) (Cq g1.w hb1 _ _) h2;have u1:=Gm hw ha hla hN x false;have u2:=Gm hw hb hlb hN false z;have u3:=Gm g1.w ha1 (by rw[g1.lvl ha];exact hla) hN x true;have u4:=Gm g1.w hb1 (by rw[g1.lvl hb];exact hlb) hN true z;cases h3:orF most ns2 p q with
   |none=>rw[h3] at h;cases h
   |some r=>
    obtain⟨id',ms'⟩:=r;rw[h3] at h;obtain⟨rfl,h4⟩:=Prod.mk.inj (Option.some.inj h);obtain⟨rfl,rfl⟩:=Prod.mk.inj h4;have j1:=i1.gr g1.w g2;obtain⟨g3,i3⟩:=Et El g2.w j1.lt i2.lt h3;refine⟨(g1.trans g2).trans g3,k2.gr g2.w g3,i3.lt,?_,fun α=> ?_⟩
    ·have l1:=j1.lv;have l2:=i2.lv;have l3:=i3.lv;show lv+2≤lvl ms' id';omega
    ·rw[i3.sem,j1.sem,i2.sem,Gn hw g1 ha,Gn hw g1 hb,Em hw g1 (Cq hw ha _ _) (Cq hw hb _ _)]
theorem Il {f:Kn→Ns→Nat→Nat→Option (Nat × Kn × Ns)}(hf:SeOk N most f){kn kn':Kn}{a b lv id:Nat}{x:Bool}(hw:Wf N ns)(hk:KsOk N ns kn)(ha:a<ns.length)(hb:b<ns.length)(hla:lv≤lvl ns a)(hlb:lv≤lvl ns b)(hev:lv % 2=0)(hN:lv+1<N)(h:rwF most f kn ns a b lv x=some (id,kn',ms)):
  Gr N ns ms∧KsOk N ms kn'∧Is N ms id (lv+1) fun α=>compR (sem ns (atD ns a lv x false)) (sem ns (atD ns b lv false (α (lv+1)))) α||compR (sem ns (atD ns a lv x true)) (sem ns (atD ns b lv true (α (lv+1)))) α:=by
 unfold rwF at h
 split at h
 ·cases h
 ·rename_i p kn1 ns1 h1
  split at h
  ·cases h
  ·rename_i q kn2 ns2 h2;obtain⟨g1,k1,i1⟩:=Ik hf hw hk ha hb hla hlb hev hN h1;have ha1:=Nat.lt_of_lt_of_le ha g1.le;have hb1:=Nat.lt_of_lt_of_le hb g1.le;obtain⟨g2,k2,i2⟩:=Ik hf g1.w k1 ha1 hb1 (by rw[g1.lvl ha];exact hla) (by rw[g1.lvl hb];exact hlb) hev hN h2;cases h3:mkF most ns2 (lv+1) p q with
   |none=>rw[h3] at h;cases h
   |some r=>
    obtain⟨id',ms'⟩:=r;rw[h3] at h;obtain⟨rfl,h4⟩:=Prod.mk.inj (Option.some.inj h);obtain⟨rfl,rfl⟩:=Prod.mk.inj h4;have j1:=i1.gr g1.w g2;have l1:=j1.lv;have l2:=i2.lv;obtain⟨g3,i3⟩:=Ek g2.w j1.lt i2.lt hN qom qom h3;refine⟨(g1.trans g2).trans g3,k2.gr g2.w g3,i3.lt,i3.lv,fun α=> ?_⟩;rw[i3.sem,j1.sem,i2.sem];cases hα:α (lv+1)
    ·simp
    ·simp only[if_true];rw[Gn hw g1 ha,Gn hw g1 ha,Gn hw g1 hb,Gn hw g1 hb,Em hw g1 (Cq hw ha _ _) (Cq hw hb _ _),Em hw g1 (Cq hw ha _ _) (Cq hw hb _ _)]
theorem comp_split (hw:Wf N ns){a b lv:Nat}(ha:a<ns.length)(hb:b<ns.length)(hla:lv≤lvl ns a)(hlb:lv≤lvl ns b)(hev:lv % 2=0)(hN:lv+1<N)(α:Nat→Bool):
  compR (sem ns a) (sem ns b) α=(compR (sem ns (atD ns a lv (α lv) false)) (sem ns (atD ns b lv false (α (lv+1)))) α||compR (sem ns (atD ns a lv (α lv) true)) (sem ns (atD ns b lv true (α (lv+1)))) α):=by
 have e1:∀ y,sem ns a (mixA (evA α) y)=sem ns (atD ns a lv (α lv) (y (lv / 2))) (mixA (evA α) y):=fun y=>by
  rw[sem_at hw ha hN,Ij _ _ hev,I9 _ _ hev];unfold evA;rw[show 2*(lv / 2)=lv by omega]
 have e2:∀ y,sem ns b (mixA y (odA α))=sem ns (atD ns b lv (y (lv / 2)) (α (lv+1))) (mixA y (odA α)):=fun y=>by
  rw[sem_at hw hb hN,Ij _ _ hev,I9 _ _ hev];unfold odA;rw[show 2*(lv / 2)+1=lv+1 by omega]
 have set:∀ (v:Bool) (y:Nat→Bool) (k:Nat),lv+2≤k→mixA (evA α) (fun i=>if i=lv / 2 then v else y i) k=mixA (evA α) y k∧mixA (fun i=>if i=lv / 2 then v else y i) (odA α) k=mixA y (odA α) k:=fun v y k hk=>by
  unfold mixA
  constructor<;>split<;>first|rfl|exact if_neg qom
 have half:∀ v:Bool,compR (sem ns (atD ns a lv (α lv) v)) (sem ns (atD ns b lv v (α (lv+1)))) α=true↔∃ y,y (lv / 2)=v∧sem ns a (mixA (evA α) y)=true∧sem ns b (mixA y (odA α))=true:=fun v=>by
  rw[compR_iff]
  constructor
  ·rintro⟨y,h1,h2⟩;refine⟨fun i=>if i=lv / 2 then v else y i,by simp,?_,?_⟩
   ·rw[e1];simp only[if_true];rw[C2 hw _ (Cq hw ha _ _) _ (mixA (evA α) y) fun k hk _=>(set v y k (Nat.le_trans (Gm hw ha hla hN _ _) hk)).1];exact h1
   ·rw[e2];simp only[if_true];rw[C2 hw _ (Cq hw hb _ _) _ (mixA y (odA α)) fun k hk _=>(set v y k (Nat.le_trans (Gm hw hb hlb hN _ _) hk)).2];exact h2
  ·rintro⟨y,rfl,h1,h2⟩;rw[e1] at h1;rw[e2] at h2;exact⟨y,h1,h2⟩
 refine Bool.eq_iff_iff.2 ?_;rw[Bool.or_eq_true,half,half,compR_iff]
 constructor
 ·rintro⟨y,h1,h2⟩;cases hy:y (lv / 2)
  ·exact .inl ⟨y,hy,h1,h2⟩
  ·exact .inr ⟨y,hy,h1,h2⟩
 ·rintro(⟨y,_,h1,h2⟩|⟨y,_,h1,h2⟩)<;>exact⟨y,h1,h2⟩
theorem G8 (hNe:N % 2=0):∀ k,SeOk N most (seF most k)
 |0=>fun _ _ _ _ _ _ _ _ _ _ _ e=>by cases e
 |k+1=>fun kn kn' ns ms a b id hw hk ha hb h=>by
  rw[seF] at h;have hmin:=Fo hw ha hb
  split at h
  ·rename_i h0;obtain⟨rfl,h2⟩:=Prod.mk.inj (Option.some.inj h);obtain⟨rfl,rfl⟩:=Prod.mk.inj h2;refine⟨.refl hw,hk,is_0 hw qom fun α=> ?_⟩;refine Bool.eq_false_iff.2 fun e=> ?_
   obtain⟨y,h1,h2⟩:=compR_iff.1 e;rcases h0 with rfl|rfl
   ·cases h1
   ·cases h2
  ·rename_i h0
   split at h
   ·rename_i h1;obtain⟨rfl,h2⟩:=Prod.mk.inj (Option.some.inj h);obtain⟨rfl,rfl⟩:=Prod.mk.inj h2;obtain⟨rfl,rfl⟩:=h1;exact⟨.refl hw,hk,J8 hw qom fun α=>compR_iff.2 ⟨fun _=>false,rfl,rfl⟩⟩
   ·rename_i h1
    split at h
    ·rename_i id' h2;obtain⟨rfl,h3⟩:=Prod.mk.inj (Option.some.inj h);obtain⟨rfl,rfl⟩:=Prod.mk.inj h3;exact⟨.refl hw,hk,(hk a b _ h2).2.2⟩
    ·split at h
     ·cases h
     ·rename_i p kn1 ns1 h2
      split at h
      ·cases h
      ·rename_i q kn2 ns2 h3;have hm:min (lvl ns a) (lvl ns b)<N:=by
        refine Nat.lt_of_le_of_ne hmin fun e=> ?_
        have a1:=(hw.end ha).1 (by have:=hw.lvN ha;omega);have a2:=(hw.end hb).1 (by have:=hw.lvN hb;omega);omega
       have hla:min (lvl ns a) (lvl ns b) / 2*2≤lvl ns a:=by omega
       have hlb:min (lvl ns a) (lvl ns b) / 2*2≤lvl ns b:=by omega
       have hev:min (lvl ns a) (lvl ns b) / 2*2 % 2=0:=by omega
       have hN:min (lvl ns a) (lvl ns b) / 2*2+1<N:=by omega
       generalize hlv:min (lvl ns a) (lvl ns b) / 2*2=lv at *;obtain⟨g1,k1,i1⟩:=Il (G8 hNe k) hw hk ha hb hla hlb hev hN h2;have ha1:=Nat.lt_of_lt_of_le ha g1.le;have hb1:=Nat.lt_of_lt_of_le hb g1.le;obtain⟨g2,k2,i2⟩:=Il (G8 hNe k) g1.w k1 ha1 hb1 (by rw[g1.lvl ha];exact hla) (by rw[g1.lvl hb];exact hlb) hev hN h3;cases h4:mkF most ns2 lv p q with
       |none=>rw[h4] at h;cases h
       |some r=>
        obtain⟨id',ms'⟩:=r;rw[h4] at h;obtain⟨rfl,h5⟩:=Prod.mk.inj (Option.some.inj h);obtain⟨rfl,rfl⟩:=Prod.mk.inj h5;have j1:=i1.gr g1.w g2;have l1:=j1.lv;have l2:=i2.lv;obtain⟨g3,i3⟩:=Ek g2.w j1.lt i2.lt qom qom qom h4;have g:=(g1.trans g2).trans g3;have hI:Is N ms' id' lv (compR (sem ns a) (sem ns b)):=⟨i3.lt,i3.lv,fun α=>by
         rw[i3.sem,j1.sem,i2.sem,comp_split hw ha hb hla hlb hev hN α];cases hα:α lv
         ·simp
         ·simp only[if_true];rw[Gn hw g1 ha,Gn hw g1 ha,Gn hw g1 hb,Gn hw g1 hb,Em hw g1 (Cq hw ha _ _) (Cq hw hb _ _),Em hw g1 (Cq hw ha _ _) (Cq hw hb _ _)]⟩
        refine⟨g,fun a' b' id2 h6=> ?_,hI⟩;rw[Da] at h6
        split at h6
        ·rename_i e5;obtain⟨rfl,rfl⟩:=Prod.mk.inj e5;obtain rfl:=Option.some.inj h6;refine⟨Nat.lt_of_lt_of_le ha g.le,Nat.lt_of_lt_of_le hb g.le,?_⟩;rw[g.lvl ha,g.lvl hb,hlv,Em hw g ha hb];exact hI
        ·exact(k2.gr g2.w g3) a' b' id2 h6
def seA (most:Nat) (ns:Ns) (a b:Nat):Option (Nat × Ns):=(seF most (lvl ns 0+1) [] ns a b).map fun x=>(x.1,x.2.2)
theorem seA_ok (hNe:N % 2=0){a b id:Nat}(hw:Wf N ns)(ha:a<ns.length)(hb:b<ns.length)(h:seA most ns a b=some (id,ms)):Gr N ns ms∧Is N ms id (min (lvl ns a) (lvl ns b) / 2*2) (compR (sem ns a) (sem ns b)):=by
 unfold seA at h;cases h1:seF most (lvl ns 0+1) [] ns a b with
 |none=>rw[h1] at h;cases h
 |some x=>
  obtain⟨id',kn',ms'⟩:=x;rw[h1] at h;obtain⟨rfl,rfl⟩:=Prod.mk.inj (Option.some.inj h);obtain⟨g,_,i⟩:=G8 hNe _ _ _ _ _ _ _ _ hw (fun _ _ _ e=>by cases e) ha hb h1;exact⟨g,i⟩
end
def rlF (most:Nat) (mk vl:Nat→Bool):Nat→Ns→Nat→Option (Nat × Ns)
 |0,ns,id=>some (id,ns)
 |k+1,ns,id=>
  match mkF most ns (2*k+1) id 0 with
  |none=>none
  |some (z,ns1)=>
   match mkF most ns1 (2*k+1) 0 id with
   |none=>none
   |some (o,ns2)=>
    if mk k=false then
     match mkF most ns2 (2*k) z o with
     |none=>none
     |some (id',ns3)=>rlF most mk vl k ns3 id'
    else if vl k=false then rlF most mk vl k ns2 z
    else rlF most mk vl k ns2 o
def stF (most:Nat) (mk vl:Nat→Bool):Nat→Ns→Nat→Option (Nat × Ns)
 |0,ns,id=>some (id,ns)
 |k+1,ns,id=>
  if mk k=false then stF most mk vl k ns id
  else if vl k=false then
   match mkF most ns (2*k) id 0 with
   |none=>none
   |some (id',ns1)=>stF most mk vl k ns1 id'
  else
   match mkF most ns (2*k) 0 id with
   |none=>none
   |some (id',ns1)=>stF most mk vl k ns1 id'
def modR (nb k:Nat) (mk vl:Nat→Bool) (α:Nat→Bool):Bool:=(List.range nb).all fun j=>decide (j<k)||(odA α j==if mk j then vl j else evA α j)
def patR (nb k:Nat) (mk vl:Nat→Bool) (α:Nat→Bool):Bool:=(List.range nb).all fun j=>decide (j<k)||(!mk j||evA α j==vl j)
theorem modR_iff {nb k:Nat}{mk vl α:Nat→Bool}:modR nb k mk vl α=true↔∀ j,k≤j→j<nb→odA α j=if mk j then vl j else evA α j:=by
 unfold modR;rw[List.all_eq_true]
 constructor
 ·intro h j h1 h2;have:=h j (List.mem_range.2 h2);rw[Bool.or_eq_true,decide_eq_true_eq,beq_iff_eq] at this;exact this.resolve_left qom
 ·intro h j hj;rw[Bool.or_eq_true,decide_eq_true_eq,beq_iff_eq]
  by_cases hk:j<k
  ·exact .inl hk
  ·exact .inr (h j qom (List.mem_range.1 hj))
theorem patR_iff {nb k:Nat}{mk vl α:Nat→Bool}:patR nb k mk vl α=true↔∀ j,k≤j→j<nb→mk j=true→evA α j=vl j:=by
 unfold patR;rw[List.all_eq_true]
 constructor
 ·intro h j h1 h2 h3;have:=h j (List.mem_range.2 h2);rw[Bool.or_eq_true,decide_eq_true_eq,Bool.or_eq_true,beq_iff_eq,h3] at this;rcases this with h|h|h
  ·omega
  ·cases h
  ·exact h
 ·intro h j hj;rw[Bool.or_eq_true,decide_eq_true_eq,Bool.or_eq_true,beq_iff_eq]
  by_cases hk:j<k
  ·exact .inl hk
  ·cases hm:mk j
   ·exact .inr (.inl U)
   ·exact .inr (.inr (h j qom (List.mem_range.1 hj) hm))
section
variable {most nb:Nat}
theorem modR_succ {k:Nat}(hk:k<nb)(mk vl α:Nat→Bool):modR nb k mk vl α=((odA α k==if mk k then vl k else evA α k)&&modR nb (k+1) mk vl α):=by
 refine Bool.eq_iff_iff.2 ?_;rw[modR_iff,Bool.and_eq_true,modR_iff,beq_iff_eq]
 constructor
 ·intro h;exact⟨h k (Nat.le_refl _) hk,fun j h1 h2=>h j qom h2⟩
 ·rintro⟨h1,h2⟩ j h3 h4
  by_cases e:j=k
  ·subst e;exact h1
  ·exact h2 j qom h4
theorem patR_succ {k:Nat}(hk:k<nb)(mk vl α:Nat→Bool):patR nb k mk vl α=((!mk k||evA α k==vl k)&&patR nb (k+1) mk vl α):=by
 refine Bool.eq_iff_iff.2 ?_;rw[patR_iff,Bool.and_eq_true,patR_iff,Bool.or_eq_true,beq_iff_eq]
 constructor
 ·intro h;refine⟨?_,fun j h1 h2=>h j qom h2⟩;cases hm:mk k
  ·exact .inl U
  ·exact .inr (h k (Nat.le_refl _) hk hm)
 ·rintro⟨h1,h2⟩ j h3 h4 h5
  by_cases e:j=k
  ·subst e;rw[h5] at h1;exact h1.resolve_left (by simp)
  ·exact h2 j qom h4 h5
theorem Jy (mk vl:Nat→Bool):∀ (k:Nat) {ns ms:Ns} {i id:Nat},k≤nb→Wf (2*nb) ns→Is (2*nb) ns i (2*k) (modR nb k mk vl)→rlF most mk vl k ns i=some (id,ms)→Gr (2*nb) ns ms∧Is (2*nb) ms id 0 (modR nb 0 mk vl)
 |0,ns,ms,i,id,_,hw,hi,h=>by
  obtain⟨rfl,rfl⟩:=Prod.mk.inj (Option.some.inj h);exact⟨.refl hw,hi⟩
 |k+1,ns,ms,i,id,hk,hw,hi,h=>by
  rw[rlF] at h;have ht:=hw.two;have hl:=hi.lv
  split at h
  ·cases h
  ·rename_i z ns1 h1;obtain⟨g1,i1⟩:=Ek hw hi.lt (show 0<ns.length by omega) qom qom (by rw[hw.lv0];omega) h1
   split at h
   ·cases h
   ·rename_i o ns2 h2;have hi1:=hi.gr hw g1;have hl1:=hi1.lv;have ht1:=g1.w.two;obtain⟨g2,i2⟩:=Ek g1.w (show 0<ns1.length by omega) hi1.lt qom (by rw[g1.w.lv0];omega) qom h2;have j1:=i1.gr g1.w g2;have g12:=g1.trans g2;have s1:∀ α,sem ns2 z α=(!odA α k&&modR nb (k+1) mk vl α):=fun α=>by
     rw[j1.sem,G6,hi.sem];show (if odA α k=true then _ else _)=_;cases odA α k<;>simp
    have s2:∀ α,sem ns2 o α=(odA α k&&modR nb (k+1) mk vl α):=fun α=>by
     rw[i2.sem,G6,hi1.sem];show (if odA α k=true then _ else _)=_;cases odA α k<;>simp
    split at h
    ·rename_i hm
     split at h
     ·cases h
     ·rename_i id' ns3 h3;have l1:=j1.lv;have l2:=i2.lv;obtain⟨g3,i3⟩:=Ek g2.w j1.lt i2.lt qom qom qom h3;obtain⟨g4,i4⟩:=Jy mk vl k qom g3.w ⟨i3.lt,i3.lv,fun α=>by
       rw[i3.sem,s1,s2,modR_succ (k:=k) qom,hm];show (if evA α k=true then _ else _)=_;cases evA α k<;>cases odA α k<;>simp⟩ h
      exact⟨(g12.trans g3).trans g4,i4⟩
    ·rename_i hm;have hm:mk k=true:=by simpa using hm
     split at h
     ·rename_i hv;obtain⟨g4,i4⟩:=Jy mk vl k qom g2.w ⟨j1.lt,by have:=j1.lv;omega,fun α=>by
       rw[s1,modR_succ (k:=k) qom,hm,hv];cases odA α k<;>simp⟩ h
      exact⟨g12.trans g4,i4⟩
     ·rename_i hv;have hv:vl k=true:=by simpa using hv
      obtain⟨g4,i4⟩:=Jy mk vl k qom g2.w ⟨i2.lt,by have:=i2.lv;omega,fun α=>by
       rw[s2,modR_succ (k:=k) qom,hm,hv];cases odA α k<;>simp⟩ h
      exact⟨g12.trans g4,i4⟩
theorem Jz (mk vl:Nat→Bool):∀ (k:Nat) {ns ms:Ns} {i id:Nat},k≤nb→Wf (2*nb) ns→Is (2*nb) ns i (2*k) (patR nb k mk vl)→stF most mk vl k ns i=some (id,ms)→Gr (2*nb) ns ms∧Is (2*nb) ms id 0 (patR nb 0 mk vl)
 |0,ns,ms,i,id,_,hw,hi,h=>by
  obtain⟨rfl,rfl⟩:=Prod.mk.inj (Option.some.inj h);exact⟨.refl hw,hi⟩
 |k+1,ns,ms,i,id,hk,hw,hi,h=>by
  rw[stF] at h;have ht:=hw.two;have hl:=hi.lv
  split at h
  ·rename_i hm;exact Jz mk vl k qom hw ⟨hi.lt,by omega,fun α=>by rw[hi.sem,patR_succ (k:=k) qom,hm];simp⟩ h
  ·rename_i hm;have hm:mk k=true:=by simpa using hm
   split at h
   ·rename_i hv
    split at h
    ·cases h
    ·rename_i id' ns1 h1;obtain⟨g1,i1⟩:=Ek hw hi.lt (show 0<ns.length by omega) qom qom (by rw[hw.lv0];omega) h1;obtain⟨g4,i4⟩:=Jz mk vl k qom g1.w ⟨i1.lt,i1.lv,fun α=>by
      rw[i1.sem,G6,hi.sem,patR_succ (k:=k) qom,hm,hv];show (if evA α k=true then _ else _)=_;cases evA α k<;>simp⟩ h
     exact⟨g1.trans g4,i4⟩
   ·rename_i hv;have hv:vl k=true:=by simpa using hv
    split at h
    ·cases h
    ·rename_i id' ns1 h1;obtain⟨g1,i1⟩:=Ek hw (show 0<ns.length by omega) hi.lt qom (by rw[hw.lv0];omega) qom h1;obtain⟨g4,i4⟩:=Jz mk vl k qom g1.w ⟨i1.lt,i1.lv,fun α=>by
      rw[i1.sem,G6,hi.sem,patR_succ (k:=k) qom,hm,hv];show (if evA α k=true then _ else _)=_;cases evA α k<;>simp⟩ h
     exact⟨g1.trans g4,i4⟩
def relF (most nb:Nat) (mk vl:Nat→Bool) (ns:Ns):Option (Nat × Ns):=rlF most mk vl nb ns 1
def setF (most nb:Nat) (mk vl:Nat→Bool) (ns:Ns):Option (Nat × Ns):=stF most mk vl nb ns 1
theorem Im {mk vl:Nat→Bool}{ns ms:Ns}{id:Nat}(hw:Wf (2*nb) ns)(h:relF most nb mk vl ns=some (id,ms)):Gr (2*nb) ns ms∧Is (2*nb) ms id 0 (modR nb 0 mk vl):=
 Jy mk vl nb (Nat.le_refl _) hw (J8 hw (Nat.le_refl _) fun α=>modR_iff.2 fun j h1 h2=>by omega) h
theorem set_ok {mk vl:Nat→Bool}{ns ms:Ns}{id:Nat}(hw:Wf (2*nb) ns)(h:setF most nb mk vl ns=some (id,ms)):Gr (2*nb) ns ms∧Is (2*nb) ms id 0 (patR nb 0 mk vl):=
 Jz mk vl nb (Nat.le_refl _) hw (J8 hw (Nat.le_refl _) fun α=>patR_iff.2 fun j h1 h2=>by omega) h
inductive Rt (nb:Nat) (A:(Nat→Bool)→Bool):(Nat→Bool)→(Nat→Bool)→Prop
 |base {x z:Nat→Bool} (h:∀ j,j<nb→x j=z j):Rt nb A x z
 |step {x y z:Nat→Bool} (h:A (mixA x y)=true) (t:Rt nb A y z):Rt nb A x z
theorem mix_agree {x x' z z':Nat→Bool}(hx:∀ j,j<nb→x j=x' j)(hz:∀ j,j<nb→z j=z' j):∀ k,0≤k→k<2*nb→mixA x z k=mixA x' z' k:=fun k _ hk=>by
 unfold mixA
 split
 ·exact hx _ qom
 ·exact hz _ qom
theorem Cx {ns:Ns}(hw:Wf (2*nb) ns){i:Nat}(hi:i<ns.length){x x' z z':Nat→Bool}(hx:∀ j,j<nb→x j=x' j)(hz:∀ j,j<nb→z j=z' j):sem ns i (mixA x z)=sem ns i (mixA x' z'):=
 C2 hw i hi _ _ fun k hk hN=>mix_agree hx hz k (Nat.zero_le _) hN
theorem Rt.agreeL {A:(Nat→Bool)→Bool}(hA:∀ {x x' z z':Nat→Bool},(∀ j,j<nb→x j=x' j)→(∀ j,j<nb→z j=z' j)→A (mixA x z)=A (mixA x' z')){x x' z:Nat→Bool}(h:Rt nb A x z)(hx:∀ j,j<nb→x j=x' j):Rt nb A x' z:=by
 cases h with
 |base h=>exact .base fun j hj=>(hx j hj).symm.trans (h j hj)
 |step h t=>exact .step (by rw[← hA hx fun _ _=>rfl];exact h) t
theorem Rt.trans {A:(Nat→Bool)→Bool}(hA:∀ {x x' z z':Nat→Bool},(∀ j,j<nb→x j=x' j)→(∀ j,j<nb→z j=z' j)→A (mixA x z)=A (mixA x' z')){x y z:Nat→Bool}(h:Rt nb A x y)(g:Rt nb A y z):Rt nb A x z:=by
 induction h with
 |base h=>exact g.agreeL hA fun j hj=>(h j hj).symm
 |step h _ ih=>exact .step h (ih g)
structure Stq (nb:Nat) (ns:Ns) (id:Nat) (A:(Nat→Bool)→Bool):Prop where
 lt:id<ns.length
 refl:∀ {x z:Nat→Bool},(∀ j,j<nb→x j=z j)→sem ns id (mixA x z)=true
 base:∀ {x z:Nat→Bool},A (mixA x z)=true→sem ns id (mixA x z)=true
 sub:∀ {x z:Nat→Bool},sem ns id (mixA x z)=true→Rt nb A x z
theorem Stq.gr {ns ms:Ns}{id:Nat}{A:(Nat→Bool)→Bool}(h:Stq nb ns id A)(hw:Wf (2*nb) ns)(g:Gr (2*nb) ns ms):Stq nb ms id A:=⟨Nat.lt_of_lt_of_le h.lt g.le,fun e=>by rw[g.sem hw h.lt];exact h.refl e,fun e=>by rw[g.sem hw h.lt];exact h.base e,fun e=>by rw[g.sem hw h.lt] at e;exact h.sub e⟩
theorem Stq.next {ns ms:Ns}{id id' lv:Nat}{A:(Nat→Bool)→Bool}(hA:∀ {x x' z z':Nat→Bool},(∀ j,j<nb→x j=x' j)→(∀ j,j<nb→z j=z' j)→A (mixA x z)=A (mixA x' z'))(h:Stq nb ns id A)(hi:Is (2*nb) ms id' lv (compR (sem ns id) (sem ns id))):Stq nb ms id' A∧∀ α,sem ns id α=true→sem ms id' α=true:=by
 have key:∀ {x z:Nat→Bool},sem ms id' (mixA x z)=true↔∃ y,sem ns id (mixA x y)=true∧sem ns id (mixA y z)=true:=fun {x z}=>by
  rw[hi.sem,compR_iff,Fa,Gs]
 refine⟨⟨hi.lt,fun {x z} e=>key.2 ⟨x,h.refl fun _ _=>rfl,h.refl e⟩,fun {x z} e=>key.2 ⟨x,h.refl fun _ _=>rfl,h.base e⟩,fun {x z} e=> ?_⟩,fun α e=> ?_⟩
 ·obtain⟨y,h1,h2⟩:=key.1 e;exact(h.sub h1).trans hA (h.sub h2)
 ·rw[← mix_self α] at e ⊢;exact key.2 ⟨_,h.refl fun _ _=>rfl,e⟩
theorem Stq.done {ns:Ns}{id:Nat}{A:(Nat→Bool)→Bool}(h:Stq nb ns id A)(hf:∀ α,sem ns id α=compR (sem ns id) (sem ns id) α)(x z:Nat→Bool):sem ns id (mixA x z)=true↔Rt nb A x z:=by
 refine⟨h.sub,fun t=> ?_⟩
 induction t with
 |base h1=>exact h.refl h1
 |step h1 _ ih=>
  rw[hf,compR_iff,Fa,Gs];exact⟨_,h.base h1,ih⟩
def srF (most:Nat):Nat→Ns→Nat→Option (Nat × Ns)
 |0,_,_=>none
 |r+1,ns,id=>
  match seA most ns id id with
  |none=>none
  |some (next,ns1)=>if next=id then some (id,ns1) else srF most r ns1 next
def starF (most nb r:Nat) (ns:Ns) (a:Nat):Option (Nat × Ns):=
 match relF most nb (fun _=>false) (fun _=>false) ns with
 |none=>none
 |some (i,ns1)=>
  match orF most ns1 i a with
  |none=>none
  |some (id,ns2)=>srF most r ns2 id
theorem sr_ok {A:(Nat→Bool)→Bool}(hA:∀ {x x' z z':Nat→Bool},(∀ j,j<nb→x j=x' j)→(∀ j,j<nb→z j=z' j)→A (mixA x z)=A (mixA x' z')):∀ (r:Nat) {ns ms:Ns} {i id:Nat},Wf (2*nb) ns→Stq nb ns i A→srF most r ns i=some (id,ms)→Gr (2*nb) ns ms∧id<ms.length∧∀ x z,sem ms id (mixA x z)=true↔Rt nb A x z
 |0,ns,ms,i,id,_,_,h=>by cases h
 |r+1,ns,ms,i,id,hw,hs,h=>by
  rw[srF] at h
  split at h
  ·cases h
  ·rename_i next ns1 h1;obtain⟨g,hi⟩:=seA_ok qom hw hs.lt hs.lt h1
   split at h
   ·rename_i e;obtain⟨rfl,rfl⟩:=Prod.mk.inj (Option.some.inj h);subst e;have hs1:=hs.gr hw g;refine⟨g,hs1.lt,hs1.done fun α=> ?_⟩;rw[hi.sem,Em hw g hs.lt hs.lt]
   ·obtain⟨hs1,_⟩:=hs.next hA hi;obtain⟨g2,h2⟩:=sr_ok hA r g.w hs1 h;exact⟨g.trans g2,h2⟩
theorem sem_mixes {ns:Ns}(hw:Wf (2*nb) ns){i:Nat}(hi:i<ns.length):∀ {x x' z z':Nat→Bool},(∀ j,j<nb→x j=x' j)→(∀ j,j<nb→z j=z' j)→sem ns i (mixA x z)=sem ns i (mixA x' z'):=fun hx hz=>Cx hw hi hx hz
theorem sta_0 {ns ms ps:Ns}{a i id lv:Nat}(hw:Wf (2*nb) ns)(ha:a<ns.length)(g:Gr (2*nb) ns ms)(hi:Is (2*nb) ms i 0 (modR nb 0 (fun _=>false) (fun _=>false)))(g2:Gr (2*nb) ms ps)(ho:Is (2*nb) ps id lv fun α=>sem ms i α||sem ms a α):Stq nb ps id (sem ns a):=by
 have hr:∀ {x z:Nat→Bool},sem ms i (mixA x z)=true↔∀ j,j<nb→x j=z j:=fun {x z}=>by
  rw[hi.sem,modR_iff,Fa,Gs];exact⟨fun h j hj=>(h j (Nat.zero_le _) hj).symm,fun h j _ hj=>(h j hj).symm⟩
 refine⟨ho.lt,fun {x z} e=> ?_,fun {x z} e=> ?_,fun {x z} e=> ?_⟩
 ·rw[ho.sem,hr.2 e];rfl
 ·rw[ho.sem,g.sem hw ha,e,Bool.or_true]
 ·rw[ho.sem,Bool.or_eq_true,g.sem hw ha,hr] at e;rcases e with e|e
  ·exact .base e
  ·exact .step e (.base fun _ _=>rfl)
theorem star_ok {ns ms:Ns}{a id r:Nat}(hw:Wf (2*nb) ns)(ha:a<ns.length)(h:starF most nb r ns a=some (id,ms)):Gr (2*nb) ns ms∧id<ms.length∧∀ x z,sem ms id (mixA x z)=true↔Rt nb (sem ns a) x z:=by
 unfold starF at h
 split at h
 ·cases h
 ·rename_i i ns1 h1;obtain⟨g1,i1⟩:=Im hw h1
  split at h
  ·cases h
  ·rename_i o ns2 h2;obtain⟨g2,i2⟩:=Et El g1.w i1.lt (Nat.lt_of_lt_of_le ha g1.le) h2;have hs:=sta_0 hw ha g1 i1 g2 i2;obtain⟨g3,h3⟩:=sr_ok (sem_mixes hw ha) r g2.w hs h;exact⟨(g1.trans g2).trans g3,h3⟩
end
structure Lnk where
 src:Int
 dst:Int
 cap:Int
instance:DecidableEq Lnk:=fun a b=>decidable_of_iff (a.src=b.src∧a.dst=b.dst∧a.cap=b.cap) ⟨fun h=>by cases a;cases b;simp_all,fun h=>by subst h;exact⟨rfl,rfl,rfl⟩⟩
instance:Inhabited Lnk:=⟨⟨0,0,0⟩⟩
structure Hop where
 link:Int
 port:Int
 tag:Int
 step:Int
instance:DecidableEq Hop:=fun a b=>decidable_of_iff (a.link=b.link∧a.port=b.port∧a.tag=b.tag∧a.step=b.step) ⟨fun h=>by cases a;cases b;simp_all,fun h=>by subst h;exact⟨rfl,rfl,rfl,rfl⟩⟩
instance:Inhabited Hop:=⟨⟨0,0,0,0⟩⟩
structure Way where
 src:Int
 links:List Int
 port:Int
 tag:Int
 step:Int
instance:DecidableEq Way:=fun a b=>decidable_of_iff (a.src=b.src∧a.links=b.links∧a.port=b.port∧a.tag=b.tag∧a.step=b.step) ⟨fun h=>by cases a;cases b;simp_all,fun h=>by subst h;exact⟨rfl,rfl,rfl,rfl,rfl⟩⟩
instance:Inhabited Way:=⟨⟨0,[],0,0,0⟩⟩
def gd {α:Type} [Inhabited α] (l:List α) (i:Nat):α:=l.getD i default
theorem B6 {α:Type}[Inhabited α] {l:List α}{i:Nat}(h:i<l.length):l[i]? =some (gd l i):=by simp[gd,List.getD,h]
theorem A0 {α:Type}[Inhabited α] {l:List α}{i:Nat}(h:i<l.length):gd l i=l[i]:=by simp[gd,List.getD,h]
theorem Bl {α:Type}[Inhabited α] {l:List α}{i:Nat}(h:i<l.length):gd l i∈l:=by rw[A0 h];exact List.getElem_mem _
theorem gd_map {α β:Type}[Inhabited α] [Inhabited β] {f:α→β}{l:List α}{k:Nat}(h:k<l.length):gd (l.map f) k=f (gd l k):=by rw[A0 h,A0 (by simpa using h)];simp
section
variable {α:Type} [Inhabited α] {w0:World} {H H':List (Nat × Obj)} {q:Option Addr} {sz:Nat} {enc:α→List Value} {l:List α} {i j:Nat} {v:Value}
theorem Arr.b (h:Arr w0 H q sz enc l)(hi:i<l.length):Bas q:=(h i _ (B6 hi)).1
theorem Arr.cs (h:Arr w0 H q sz enc l)(hi:i<l.length):Cells w0 H (bq q) (oq q+i*sz) (enc (gd l i)):=(h i _ (B6 hi)).2
end
abbrev encI (x:Int):List Value:=[.int .i64 x]
structure Nod where
 name:ByteArray
 box:Bool
 rules:Int
 entries:Int
instance:Inhabited Nod:=⟨⟨default,false,0,0⟩⟩
structure Edg where
 name:ByteArray
 node:Int
instance:Inhabited Edg:=⟨⟨default,0⟩⟩
structure Wm where
 way:Way
 q:Option Addr
 cap:Nat
instance:Inhabited Wm:=⟨⟨default,none,0⟩⟩
def ofB (g:Nat→Bool):Nat→Nat
 |0=>0
 |k+1=>(if g k then 2 ^ k else 0)+ofB g k
theorem Io (g:Nat→Bool):∀ k,ofB g k<2 ^ k
 |0=>by simp[ofB]
 |k+1=>by
  have:=Io g k;rw[ofB,Nat.pow_succ];split<;>omega
theorem G9 (g:Nat→Bool):∀ (k i:Nat),(ofB g k).testBit i=(decide (i<k)&&g i)
 |0,i=>by simp[ofB]
 |k+1,i=>by
  have hl:=Io g k;rw[ofB]
  by_cases hg:g k
  ·rw[if_pos hg,Nat.add_comm,Nat.testBit_eq_decide_div_mod_eq];rcases Nat.lt_trichotomy i k with h|h|h
   ·have ih:=G9 g k i;rw[Nat.testBit_eq_decide_div_mod_eq] at ih;have e:(ofB g k+2 ^ k) / 2 ^ i % 2=ofB g k / 2 ^ i % 2:=by
     obtain⟨d,rfl⟩:∃ d,k=i+1+d:=⟨k - (i+1),by omega⟩;have:2 ^ (i+1+d)=2 ^ i*(2*2 ^ d):=by rw[Nat.pow_add,Nat.pow_succ,Nat.mul_assoc]
     rw[this,Nat.add_mul_div_left _ _ (Nat.two_pow_pos i)];omega
    rw[e,ih];simp[h,Nat.lt_succ_of_lt h]
   ·subst h;have e:(ofB g i+2 ^ i) / 2 ^ i=1:=by
     rw[Nat.add_div_right _ (Nat.two_pow_pos i),Nat.div_eq_of_lt hl]
    rw[e];simp[hg]
   ·have e:(ofB g k+2 ^ k) / 2 ^ i=0:=by
     apply Nat.div_eq_of_lt;have:2 ^ (k+1)≤2 ^ i:=Nat.pow_le_pow_right qde h;rw[Nat.pow_succ] at this;omega
    rw[e];simp;intro h2;omega
  ·rw[if_neg hg,Nat.zero_add,G9 g k i]
   by_cases h:i<k
   ·simp[h,Nat.lt_succ_of_lt h]
   ·by_cases e:i=k
    ·subst e;simp[hg]
    ·have: ¬ i<k+1:=by omega
     simp[h,this]
abbrev Hd:=List Nat
structure HdOk (h:Hd):Prop where
 len:h.length=10
 lt:∀ w∈h,w<65536
def hbit (h:Hd) (b:Nat):Bool:=(gd h (b / 16)).testBit (15 - b % 16)
theorem Dv {h:Hd}(hk:HdOk h)(i:Nat):gd h i<65536:=by
 by_cases hi:i<h.length
 ·exact hk.lt _ (Bl hi)
 ·unfold gd List.getD;rw[List.getElem?_eq_none qom];decide
theorem word_ext {a b:Nat}(ha:a<65536)(hb:b<65536)(h:∀ i,i<16→a.testBit i=b.testBit i):a=b:=by
 refine Nat.eq_of_testBit_eq fun i=> ?_
 by_cases hi:i<16
 ·exact h i hi
 ·have h1:2 ^ 16≤2 ^ i:=Nat.pow_le_pow_right qde qom;rw[Nat.testBit_lt_two_pow qom,Nat.testBit_lt_two_pow qom]
theorem Fb {g h:Hd}(hg:HdOk g)(hh:HdOk h)(e:∀ b,b<160→hbit g b=hbit h b):g=h:=by
 apply List.ext_getElem (by rw[hg.len,hh.len]);intro i h1 h2;have hi:i<10:=by rw[hg.len] at h1;exact h1
 rw[← A0 h1,← A0 h2];refine word_ext (hg.lt _ (Bl h1)) (hh.lt _ (Bl h2)) fun j hj=> ?_
 have:=e (16*i+(15 - j)) qom;unfold hbit at this;rw[show (16*i+(15 - j)) / 16=i by omega,show 15 - (16*i+(15 - j)) % 16=j by omega] at this;exact this
def hdOf (g:Nat→Bool):Hd:=(List.range 10).map fun i=>ofB (fun j=>g (16*i+(15 - j))) 16
theorem Cr (g:Nat→Bool):HdOk (hdOf g):=⟨by simp[hdOf],fun w hw=>by
 obtain⟨i,_,rfl⟩:=List.mem_map.1 hw;exact Io _ 16⟩
theorem gd_hdOf (g:Nat→Bool){i:Nat}(hi:i<10):gd (hdOf g) i=ofB (fun j=>g (16*i+(15 - j))) 16:=by
 unfold hdOf;rw[gd_map (by simpa using hi),A0 (by simpa using hi)];simp
theorem B3 (g:Nat→Bool){b:Nat}(hb:b<160):hbit (hdOf g) b=g b:=by
 unfold hbit;rw[gd_hdOf g qom,G9,show decide (15 - b % 16<16)=true from decide_eq_true qom,Bool.true_and]
 congr 1;omega
theorem Fp {g g':Nat→Bool}(h:∀ b,b<160→g b=g' b):hdOf g=hdOf g':=Fb (Cr _) (Cr _) fun b hb=>by rw[B3 _ hb,B3 _ hb,h b hb]
def hput (h:Hd) (b:Nat) (v:Bool):Hd:=hdOf fun k=>if k=b then v else hbit h k
theorem B2 (h:Hd)(b:Nat)(v:Bool):HdOk (hput h b v):=Cr _
theorem E0 (h:Hd)(b:Nat)(v:Bool){k:Nat}(hk:k<160):hbit (hput h b v) k=if k=b then v else hbit h k:=B3 _ hk
structure Fd where
 nm:ByteArray
 pos:Nat
 w:Nat
instance:Inhabited Fd:=⟨⟨default,0,0⟩⟩
structure FdOk (f:Fd):Prop where
 w1:1≤f.w
 w16:f.w≤16
 fit:f.pos % 16+f.w≤16
 lt:f.pos<160
def fget (f:Fd) (h:Hd):Nat:=ofB (fun j=>hbit h (f.pos+(f.w - 1 - j))) f.w
def fset (f:Fd) (h:Hd) (n:Nat):Hd:=hdOf fun b=>if f.pos≤b∧b<f.pos+f.w then n.testBit (f.pos+f.w - 1 - b) else hbit h b
theorem fget_lt (f:Fd)(h:Hd):fget f h<2 ^ f.w:=Io _ _
theorem FdOk.inw {f:Fd}(hf:FdOk f){j:Nat}(hj:j<f.w):f.pos+j<160∧(f.pos+j) / 16=f.pos / 16∧(f.pos+j) % 16=f.pos % 16+j:=by
 have:=hf.fit;have:=hf.lt;omega
theorem fget_bit {f:Fd}{h:Hd}{i:Nat}:(fget f h).testBit i=(decide (i<f.w)&&hbit h (f.pos+(f.w - 1 - i))):=G9 _ _ _
theorem Cy (f:Fd)(h:Hd)(n:Nat):HdOk (fset f h n):=Cr _
inductive Pd
 |tru
 |fls
 |eq (f:Fd) (n:Nat)
 |pre (f:Fd) (n m:Nat)
 |rng (f:Fd) (n m:Nat)
 |no (a:Pd)
 |and (a b:Pd)
 |or (a b:Pd)
 |time (n m:Int)
inductive Po
 |fil (p:Pd)
 |set (f:Fd) (n:Nat)
 |uni (a b:Po)
 |seq (a b:Po)
 |star (a:Po)
def holdsP (tick:Int):Pd→Hd→Bool
 | .tru,_=>true
 | .fls,_=>false
 | .eq f n,h=>fget f h==n
 | .pre f n m,h=>fget f h / 2 ^ (f.w - m)==n / 2 ^ (f.w - m)
 | .rng f n m,h=>decide (n≤fget f h)&&decide (fget f h≤m)
 | .no a,h=> !holdsP tick a h
 | .and a b,h=>holdsP tick a h&&holdsP tick b h
 | .or a b,h=>holdsP tick a h||holdsP tick b h
 | .time n m,_=>decide (n≤tick)&&decide (tick<m)
inductive Cl' (D:Hd→Hd→Prop):Hd→Hd→Prop
 |base (h:Hd):Cl' D h h
 |step {h m g:Hd} (a:D h m) (t:Cl' D m g):Cl' D h g
def den (tick:Int):Po→Hd→Hd→Prop
 | .fil p,h,g=>g=h∧holdsP tick p h=true
 | .set f n,h,g=>g=fset f h n
 | .uni a b,h,g=>den tick a h g∨den tick b h g
 | .seq a b,h,g=>∃ m,den tick a h m∧den tick b m g
 | .star a,h,g=>Cl' (den tick a) h g
structure BsOk (bs:List Nat):Prop where
 lt:∀ b∈bs,b<160
 up:bs.Pairwise (· < ·)
structure FIn (bs:List Nat) (f:Fd):Prop where
 ok:FdOk f
 mem:∀ j,j<f.w→f.pos+j∈bs
def Pd.Fit (bs:List Nat):Pd→Prop
 | .tru=>True
 | .fls=>True
 | .eq f n=>FIn bs f∧n<2 ^ f.w
 | .pre f n m=>FIn bs f∧n<2 ^ f.w∧m≤f.w
 | .rng f n m=>FIn bs f∧n≤m∧m<2 ^ f.w
 | .no a=>a.Fit bs
 | .and a b=>a.Fit bs∧b.Fit bs
 | .or a b=>a.Fit bs∧b.Fit bs
 | .time _ _=>True
def Po.Fit (bs:List Nat):Po→Prop
 | .fil p=>p.Fit bs
 | .set f n=>FIn bs f∧n<2 ^ f.w
 | .uni a b=>a.Fit bs∧b.Fit bs
 | .seq a b=>a.Fit bs∧b.Fit bs
 | .star a=>a.Fit bs
def Out (bs:List Nat) (h g:Hd):Prop:=∀ b,b<160→b∉bs→hbit h b=hbit g b
def xh (bs:List Nat) (h:Hd) (k:Nat):Bool:=hbit h (gd bs k)
section
variable {bs:List Nat}
theorem Out.refl (h:Hd):Out bs h h:=fun _ _ _=>rfl
theorem Out.symm {h g:Hd}(o:Out bs h g):Out bs g h:=fun b h1 h2=>(o b h1 h2).symm
theorem Out.trans {h m g:Hd}(o:Out bs h m)(p:Out bs m g):Out bs h g:=fun b h1 h2=>(o b h1 h2).trans (p b h1 h2)
theorem out_fset {f:Fd}(hf:FIn bs f)(h:Hd)(n:Nat):Out bs h (fset f h n):=fun b hb hn=>by
 unfold fset;rw[B3 _ hb,if_neg];rintro⟨h1,h2⟩;exact hn (by have:=hf.mem (b - f.pos) qom;rwa [show f.pos+(b - f.pos)=b by omega] at this)
theorem cl_out {D:Hd→Hd→Prop}(hD:∀ {h g},HdOk h→D h g→HdOk g∧Out bs h g){h g:Hd}(d:Cl' D h g):HdOk h→HdOk g∧Out bs h g:=by
 induction d with
 |base h=>exact fun hh=>⟨hh, .refl _⟩
 |step d1 _ ih=>
  intro hh;obtain⟨h1,o1⟩:=hD hh d1;obtain⟨h2,o2⟩:=ih h1;exact⟨h2,o1.trans o2⟩
theorem Dl {tick:Int}:∀ {p:Po} {h g:Hd},p.Fit bs→HdOk h→den tick p h g→HdOk g∧Out bs h g
 | .fil p,h,g,_,hh,d=>by obtain⟨rfl,_⟩:=d;exact⟨hh, .refl _⟩
 | .set f n,h,g,hf,hh,d=>by
  have:g=fset f h n:=d;subst this;exact⟨Cy _ _ _,out_fset hf.1 _ _⟩
 | .uni a b,h,g,hf,hh,d=>by
  rcases d with d|d
  ·exact Dl hf.1 hh d
  ·exact Dl hf.2 hh d
 | .seq a b,h,g,hf,hh,d=>by
  obtain⟨m,d1,d2⟩:=d;obtain⟨h1,o1⟩:=Dl hf.1 hh d1;obtain⟨h2,o2⟩:=Dl hf.2 h1 d2;exact⟨h2,o1.trans o2⟩
 | .star a,h,g,hf,hh,d=>cl_out (fun hh d=>Dl (p:=a) hf hh d) d hh
theorem Ja (hb:BsOk bs){b:Nat}(h:b∈bs):∃ k,k<bs.length∧gd bs k=b:=by
 obtain⟨k,hk,rfl⟩:=List.getElem_of_mem h;exact⟨k,hk,A0 hk⟩
theorem Ip (hb:BsOk bs){j k:Nat}(hj:j<bs.length)(hk:k<bs.length)(e:gd bs j=gd bs k):j=k:=by
 rw[A0 hj,A0 hk] at e;rcases Nat.lt_trichotomy j k with h|h|h
 ·have:=List.pairwise_iff_getElem.1 hb.up j k hj hk h;omega
 ·exact h
 ·have:=List.pairwise_iff_getElem.1 hb.up k j hk hj h;omega
theorem E1 (hb:BsOk bs){k:Nat}(hk:k<bs.length):gd bs k<160:=hb.lt _ (Bl hk)
theorem Ga (hb:BsOk bs)(h:Hd)(y:Nat→Bool):∃ g,HdOk g∧Out bs h g∧∀ k,k<bs.length→xh bs g k=y k:=by
 refine⟨hdOf fun b=>if b∈bs then y (bs.idxOf b) else hbit h b,Cr _,fun b h1 h2=> ?_,fun k hk=> ?_⟩
 ·rw[B3 _ h1,if_neg h2]
 ·unfold xh;rw[B3 _ (E1 hb hk),if_pos (Bl hk)];have hi:bs.idxOf (gd bs k)<bs.length:=List.idxOf_lt_length_iff.2 (Bl hk)
  congr 1
  refine Ip hb hi hk ?_;rw[A0 hi,List.getElem_idxOf]
theorem Jb (hb:BsOk bs){h g:Hd}(hh:HdOk h)(hg:HdOk g)(o:Out bs h g)(e:∀ k,k<bs.length→xh bs h k=xh bs g k):h=g:=Fb hh hg fun b h1=>by
 by_cases h2:b∈bs
 ·obtain⟨k,hk,rfl⟩:=Ja hb h2;exact e k hk
 ·exact o b h1 h2
def Rep (bs:List Nat) (ns:Ns) (id:Nat) (D:Hd→Hd→Prop):Prop:=∀ h g,HdOk h→HdOk g→Out bs h g→(sem ns id (mixA (xh bs h) (xh bs g))=true↔D h g)
def RepS (bs:List Nat) (ns:Ns) (id:Nat) (T:Hd→Bool):Prop:=∀ h z,HdOk h→sem ns id (mixA (xh bs h) z)=T h
def mkP (f:Fd) (m b:Nat):Bool:=decide (f.pos≤b)&&decide (b<f.pos+m)
def vlP (f:Fd) (n m b:Nat):Bool:=mkP f m b&&n.testBit (f.pos+f.w - 1 - b)
def setPF (most:Nat) (bs:List Nat) (f:Fd) (n m:Nat) (ns:Ns):Option (Nat × Ns):=setF most bs.length (fun k=>mkP f m (gd bs k)) (fun k=>vlP f n m (gd bs k)) ns
def relPF (most:Nat) (bs:List Nat) (f:Fd) (n:Nat) (ns:Ns):Option (Nat × Ns):=relF most bs.length (fun k=>mkP f f.w (gd bs k)) (fun k=>vlP f n f.w (gd bs k)) ns
variable {most:Nat} {ns ms:Ns} {id:Nat}
theorem div_bits {a b k:Nat}:a / 2 ^ k=b / 2 ^ k↔∀ i,k≤i→a.testBit i=b.testBit i:=by
 constructor
 ·intro h i hi;have:=congrArg (fun x=>x.testBit (i - k)) h;simp only[Nat.testBit_div_two_pow] at this
  rwa [show i - k+k=i by omega] at this
 ·intro h;refine Nat.eq_of_testBit_eq fun i=> ?_
  rw[Nat.testBit_div_two_pow,Nat.testBit_div_two_pow];exact h _ qom
theorem setP_ok (hb:BsOk bs){f:Fd}(hf:FIn bs f){n m:Nat}(hm:m≤f.w)(hn:n<2 ^ f.w)(hw:Wf (2*bs.length) ns)(h:setPF most bs f n m ns=some (id,ms)):Gr (2*bs.length) ns ms∧id<ms.length∧RepS bs ms id fun h=>fget f h / 2 ^ (f.w - m)==n / 2 ^ (f.w - m):=by
 obtain⟨g,i⟩:=set_ok hw h;refine⟨g,i.lt,fun h z hh=> ?_⟩;rw[i.sem];refine Bool.eq_iff_iff.2 ?_;rw[patR_iff,beq_iff_eq,div_bits]
 constructor
 ·intro e i hi
  by_cases hw2:i<f.w
  ·obtain⟨k,hk,ek⟩:=Ja hb (hf.mem (f.w - 1 - i) qom);have:=e k (Nat.zero_le _) hk (by rw[ek];unfold mkP;simp;omega);rw[Fa] at this;unfold xh vlP mkP at this;rw[ek] at this;rw[fget_bit,this];have e1:decide (f.pos+(f.w - 1 - i)<f.pos+m)=true:=decide_eq_true qom;have e2:f.pos+f.w - 1 - (f.pos+(f.w - 1 - i))=i:=by omega
   rw[e1,e2];simp[hw2]
  ·have h1:2 ^ f.w≤2 ^ i:=Nat.pow_le_pow_right qde qom;have h2:=fget_lt f h;rw[Nat.testBit_lt_two_pow qom,Nat.testBit_lt_two_pow qom]
 ·intro e k _ hk hmk;rw[Fa];unfold mkP at hmk;simp only[Bool.and_eq_true,decide_eq_true_eq] at hmk;have:=e (f.pos+f.w - 1 - gd bs k) qom;rw[fget_bit] at this;have e2:f.pos+(f.w - 1 - (f.pos+f.w - 1 - gd bs k))=gd bs k:=by omega
  rw[e2,decide_eq_true (show f.pos+f.w - 1 - gd bs k<f.w by omega),Bool.true_and] at this;unfold xh vlP mkP;rw[this,decide_eq_true hmk.1,decide_eq_true hmk.2]
  rfl
theorem relP_ok (hb:BsOk bs){f:Fd}(hf:FIn bs f){n:Nat}(hw:Wf (2*bs.length) ns)(h:relPF most bs f n ns=some (id,ms)):Gr (2*bs.length) ns ms∧id<ms.length∧Rep bs ms id fun h g=>g=fset f h n:=by
 obtain⟨gr,i⟩:=Im hw h;refine⟨gr,i.lt,fun h g hh hg o=> ?_⟩;rw[i.sem,modR_iff]
 constructor
 ·intro e;refine Jb hb hg (Cy _ _ _) (o.symm.trans (out_fset hf h n)) fun k hk=> ?_
  have:=e k (Nat.zero_le _) hk;rw[Gs,Fa] at this;rw[this];unfold xh fset vlP mkP;rw[B3 _ (E1 hb hk)]
  by_cases c:f.pos≤gd bs k∧gd bs k<f.pos+f.w
  ·rw[if_pos c,decide_eq_true c.1,decide_eq_true c.2];simp
  ·rw[if_neg c,if_neg (by simpa using c)]
 ·rintro rfl k _ hk;rw[Gs,Fa];unfold xh fset vlP mkP;rw[B3 _ (E1 hb hk)]
  by_cases c:f.pos≤gd bs k∧gd bs k<f.pos+f.w
  ·rw[if_pos c,decide_eq_true c.1,decide_eq_true c.2];simp
  ·rw[if_neg c,if_neg (by simpa using c)]
def frF (w l h:Nat):Nat→Nat→Nat
 |0,k=>k
 |n+1,k=>if k<w∧l % 2 ^ (k+1)=0∧l+2 ^ (k+1) - 1≤h then frF w l h n (k+1) else k
def rgF (w h:Nat):Nat→Nat→List (Nat × Nat)
 |0,_=>[]
 |n+1,l=>if l≤h then (l,w - frF w l h (w+1) 0)::rgF w h n (l+2 ^ frF w l h (w+1) 0) else []
theorem frF_ok {w l h:Nat}:∀ (n k:Nat),l % 2 ^ k=0→l+2 ^ k - 1≤h→k≤w→l % 2 ^ frF w l h n k=0∧l+2 ^ frF w l h n k - 1≤h∧frF w l h n k≤w
 |0,k,h1,h2,h3=>⟨h1,h2,h3⟩
 |n+1,k,h1,h2,h3=>by
  rw[frF]
  split
  ·rename_i c;exact frF_ok n (k+1) c.2.1 c.2.2 qom
  ·exact⟨h1,h2,h3⟩
theorem block {l k v:Nat}(h:l % 2 ^ k=0):v / 2 ^ k=l / 2 ^ k↔l≤v∧v<l+2 ^ k:=by
 have hp:=Nat.two_pow_pos k;have e:=Nat.div_add_mod l (2 ^ k);rw[h,Nat.add_zero] at e
 generalize hq:l / 2 ^ k=q at *;rw[Nat.div_eq_iff hp];rw[← e,Nat.mul_comm];omega
theorem rgF_mem {w h:Nat}:∀ (n l v:Nat),h+1≤l+n→((rgF w h n l).any fun x=>v / 2 ^ (w - x.2)==x.1 / 2 ^ (w - x.2))=(decide (l≤v)&&decide (v≤h))
 |0,l,v,hn=>by
  simp only[rgF,List.any_nil];have: ¬ (l≤v∧v≤h):=by omega
  simp;omega
 |n+1,l,v,hn=>by
  rw[rgF]
  split
  ·rename_i hl;obtain⟨h1,h2,h3⟩:=frF_ok (w:=w) (l:=l) (h:=h) (w+1) 0 (by simp[Nat.mod_one]) (by simpa using hl) (Nat.zero_le _)
   generalize frF w l h (w+1) 0=k at *;have hp:=Nat.two_pow_pos k;rw[List.any_cons,rgF_mem n (l+2 ^ k) v qom];have e:(v / 2 ^ (w - (w - k))==l / 2 ^ (w - (w - k)))=(decide (l≤v)&&decide (v<l+2 ^ k)):=by
    rw[show w - (w - k)=k by omega];refine Bool.eq_iff_iff.2 ?_;rw[beq_iff_eq,block h1];simp
   rw[e];refine Bool.eq_iff_iff.2 ?_;simp only[Bool.or_eq_true,Bool.and_eq_true,decide_eq_true_eq];omega
  ·simp;omega
theorem rgF_all {w h:Nat}(hh:h<2 ^ w):∀ (n l:Nat),∀ x∈rgF w h n l,x.1<2 ^ w∧x.2≤w
 |0,l=>by simp[rgF]
 |n+1,l=>by
  rw[rgF]
  split
  ·intro x hx;rcases List.mem_cons.1 hx with rfl|hx
   ·exact⟨by show l<2 ^ w;omega,by show w - _≤w;omega⟩
   ·exact rgF_all hh n _ x hx
  ·simp
def rnF (most:Nat) (bs:List Nat) (f:Fd):List (Nat × Nat)→Ns→Nat→Option (Nat × Ns)
 |[],ns,id=>some (id,ns)
 |x::l,ns,id=>
  match setPF most bs f x.1 x.2 ns with
  |none=>none
  |some (s,ns1)=>
   match orF most ns1 id s with
   |none=>none
   |some (id',ns2)=>rnF most bs f l ns2 id'
theorem RepS.gr {T:Hd→Bool}{N:Nat}(h:RepS bs ns id T)(hw:Wf N ns)(hi:id<ns.length)(g:Gr N ns ms):RepS bs ms id T:=fun x z hx=>by rw[g.sem hw hi];exact h x z hx
theorem Rep.gr {D:Hd→Hd→Prop}{N:Nat}(h:Rep bs ns id D)(hw:Wf N ns)(hi:id<ns.length)(g:Gr N ns ms):Rep bs ms id D:=fun x y hx hy o=>by rw[g.sem hw hi];exact h x y hx hy o
theorem rn_ok (hb:BsOk bs){f:Fd}(hf:FIn bs f):∀ (l:List (Nat × Nat)) {ns ms:Ns} {i id:Nat} {T:Hd→Bool},(∀ x∈l,x.1<2 ^ f.w∧x.2≤f.w)→Wf (2*bs.length) ns→i<ns.length→RepS bs ns i T→rnF most bs f l ns i=some (id,ms)→Gr (2*bs.length) ns ms∧id<ms.length∧RepS bs ms id fun h=>T h||l.any fun x=>fget f h / 2 ^ (f.w - x.2)==x.1 / 2 ^ (f.w - x.2)
 |[],ns,ms,i,id,T,_,hw,hi,hr,h=>by
  obtain⟨rfl,rfl⟩:=Prod.mk.inj (Option.some.inj h);exact⟨.refl hw,hi,fun x z hx=>by rw[hr x z hx];simp⟩
 |x::l,ns,ms,i,id,T,hx,hw,hi,hr,h=>by
  rw[rnF] at h
  split at h
  ·cases h
  ·rename_i s ns1 h1;obtain⟨g1,l1,r1⟩:=setP_ok hb hf (hx x (by simp)).2 (hx x (by simp)).1 hw h1
   split at h
   ·cases h
   ·rename_i id' ns2 h2;have hi1:=Nat.lt_of_lt_of_le hi g1.le;obtain⟨g2,i2⟩:=Et El g1.w hi1 l1 h2;have r2:RepS bs ns2 id' fun h=>T h||(fget f h / 2 ^ (f.w - x.2)==x.1 / 2 ^ (f.w - x.2)):=fun y z hy=>by
     rw[i2.sem,r1 y z hy,hr.gr hw hi g1 y z hy]
    obtain⟨g3,l3,r3⟩:=rn_ok hb hf l (fun y hy=>hx y (by simp[hy])) g2.w i2.lt r2 h;exact⟨(g1.trans g2).trans g3,l3,fun y z hy=>by
     have:=r3 y z hy;simp only[List.any_cons,← Bool.or_assoc];exact this⟩
def truF (most:Nat) (bs:List Nat) (tick:Int):Pd→Ns→Option (Nat × Ns)
 | .tru,ns=>some (1,ns)
 | .fls,ns=>some (0,ns)
 | .eq f n,ns=>setPF most bs f n f.w ns
 | .pre f n m,ns=>setPF most bs f n m ns
 | .rng f n m,ns=>rnF most bs f (rgF f.w m (m+1) n) ns 0
 | .no a,ns=>
  match truF most bs tick a ns with
  |none=>none
  |some (x,ns1)=>notF most ns1 x
 | .and a b,ns=>
  match truF most bs tick a ns with
  |none=>none
  |some (x,ns1)=>
   match truF most bs tick b ns1 with
   |none=>none
   |some (y,ns2)=>andF most ns2 x y
 | .or a b,ns=>
  match truF most bs tick a ns with
  |none=>none
  |some (x,ns1)=>
   match truF most bs tick b ns1 with
   |none=>none
   |some (y,ns2)=>orF most ns2 x y
 | .time n m,ns=>some (if n≤tick∧tick<m then 1 else 0,ns)
theorem Dt (hb:BsOk bs)(tick:Int):∀ (p:Pd) {ns ms:Ns} {id:Nat},p.Fit bs→Wf (2*bs.length) ns→truF most bs tick p ns=some (id,ms)→Gr (2*bs.length) ns ms∧id<ms.length∧RepS bs ms id (holdsP tick p)
 | .tru,ns,ms,id,_,hw,h=>by
  obtain⟨rfl,rfl⟩:=Prod.mk.inj (Option.some.inj h);exact⟨.refl hw,by have:=hw.two;omega,fun _ _ _=>rfl⟩
 | .fls,ns,ms,id,_,hw,h=>by
  obtain⟨rfl,rfl⟩:=Prod.mk.inj (Option.some.inj h);exact⟨.refl hw,by have:=hw.two;omega,fun _ _ _=>rfl⟩
 | .eq f n,ns,ms,id,hf,hw,h=>by
  obtain⟨g,l,r⟩:=setP_ok hb hf.1 (Nat.le_refl _) hf.2 hw h;exact⟨g,l,fun x z hx=>by rw[r x z hx,Nat.sub_self];simp[holdsP]⟩
 | .pre f n m,ns,ms,id,hf,hw,h=>setP_ok hb hf.1 hf.2.2 hf.2.1 hw h
 | .rng f n m,ns,ms,id,hf,hw,h=>by
  obtain⟨g,l,r⟩:=rn_ok hb hf.1 _ (T:=fun _=>false) (rgF_all hf.2.2 _ _) hw (show 0<ns.length by have:=hw.two;omega) (fun _ _ _=>rfl) h;exact⟨g,l,fun x z hx=>by
   have:=r x z hx;simp only[Bool.false_or] at this;rw[this,rgF_mem _ _ _ qom];rfl⟩
 | .no a,ns,ms,id,hf,hw,h=>by
  rw[truF] at h
  split at h
  ·cases h
  ·rename_i x ns1 h1;obtain⟨g1,l1,r1⟩:=Dt hb tick a hf hw h1;obtain⟨g2,i2⟩:=Et ends_not g1.w l1 l1 h;exact⟨g1.trans g2,i2.lt,fun y z hy=>by rw[i2.sem,r1 y z hy];rfl⟩
 | .and a b,ns,ms,id,hf,hw,h=>by
  rw[truF] at h
  split at h
  ·cases h
  ·rename_i x ns1 h1;obtain⟨g1,l1,r1⟩:=Dt hb tick a hf.1 hw h1
   split at h
   ·cases h
   ·rename_i y ns2 h2;obtain⟨g2,l2,r2⟩:=Dt hb tick b hf.2 g1.w h2;obtain⟨g3,i3⟩:=Et ends_and g2.w (Nat.lt_of_lt_of_le l1 g2.le) l2 h;exact⟨(g1.trans g2).trans g3,i3.lt,fun u z hu=>by rw[i3.sem,r2 u z hu,r1.gr g1.w l1 g2 u z hu];rfl⟩
 | .or a b,ns,ms,id,hf,hw,h=>by
  rw[truF] at h
  split at h
  ·cases h
  ·rename_i x ns1 h1;obtain⟨g1,l1,r1⟩:=Dt hb tick a hf.1 hw h1
   split at h
   ·cases h
   ·rename_i y ns2 h2;obtain⟨g2,l2,r2⟩:=Dt hb tick b hf.2 g1.w h2;obtain⟨g3,i3⟩:=Et El g2.w (Nat.lt_of_lt_of_le l1 g2.le) l2 h;exact⟨(g1.trans g2).trans g3,i3.lt,fun u z hu=>by rw[i3.sem,r2 u z hu,r1.gr g1.w l1 g2 u z hu];rfl⟩
 | .time n m,ns,ms,id,_,hw,h=>by
  obtain⟨rfl,rfl⟩:=Prod.mk.inj (Option.some.inj h);have:=hw.two;refine⟨.refl hw,by split<;>omega,fun x z hx=> ?_⟩;show _=(decide (n≤tick)&&decide (tick<m))
  by_cases c:n≤tick∧tick<m
  ·rw[if_pos c,decide_eq_true c.1,decide_eq_true c.2];rfl
  ·rw[if_neg c,G6];refine(Bool.eq_false_iff.2 fun e=>c ?_).symm
   simpa using e
def filF (most:Nat) (bs:List Nat) (ns:Ns) (s:Nat):Option (Nat × Ns):=
 match relF most bs.length (fun _=>false) (fun _=>false) ns with
 |none=>none
 |some (i,ns1)=>andF most ns1 s i
theorem fil_ok (hb:BsOk bs){s:Nat}{T:Hd→Bool}(hw:Wf (2*bs.length) ns)(hs:s<ns.length)(hr:RepS bs ns s T)(h:filF most bs ns s=some (id,ms)):Gr (2*bs.length) ns ms∧id<ms.length∧Rep bs ms id fun h g=>g=h∧T h=true:=by
 unfold filF at h
 split at h
 ·cases h
 ·rename_i i ns1 h1;obtain⟨g1,i1⟩:=Im hw h1;obtain⟨g2,i2⟩:=Et ends_and g1.w (Nat.lt_of_lt_of_le hs g1.le) i1.lt h;refine⟨g1.trans g2,i2.lt,fun x y hx hy o=> ?_⟩;rw[i2.sem,hr.gr hw hs g1 x _ hx,i1.sem,Bool.and_eq_true,modR_iff,Fa,Gs]
  constructor
  ·rintro⟨e1,e2⟩;exact⟨Jb hb hy hx o.symm fun k hk=>by simpa using e2 k (Nat.zero_le _) hk,e1⟩
  ·rintro⟨rfl,e⟩;exact⟨e,fun k _ _=>by simp⟩
def polF (most:Nat) (bs:List Nat) (tick:Int) (r:Nat):Po→Ns→Option (Nat × Ns)
 | .fil p,ns=>
  match truF most bs tick p ns with
  |none=>none
  |some (s,ns1)=>filF most bs ns1 s
 | .set f n,ns=>relPF most bs f n ns
 | .uni a b,ns=>
  match polF most bs tick r a ns with
  |none=>none
  |some (x,ns1)=>
   match polF most bs tick r b ns1 with
   |none=>none
   |some (y,ns2)=>orF most ns2 x y
 | .seq a b,ns=>
  match polF most bs tick r a ns with
  |none=>none
  |some (x,ns1)=>
   match polF most bs tick r b ns1 with
   |none=>none
   |some (y,ns2)=>seA most ns2 x y
 | .star a,ns=>
  match polF most bs tick r a ns with
  |none=>none
  |some (x,ns1)=>starF most bs.length r ns1 x
theorem rt_cl1 (hb:BsOk bs)(hw:Wf (2*bs.length) ns)(hi:id<ns.length){D:Hd→Hd→Prop}(hr:Rep bs ns id D){g:Hd}(hg:HdOk g){x z:Nat→Bool}(t:Rt bs.length (sem ns id) x z):∀ {h:Hd},HdOk h→Out bs h g→(∀ k,k<bs.length→xh bs h k=x k)→(∀ k,k<bs.length→xh bs g k=z k)→Cl' D h g:=by
 induction t with
 |base e=>
  intro h hh o h1 h2;have:=Jb hb hh hg o fun k hk=>(h1 k hk).trans ((e k hk).trans (h2 k hk).symm)
  subst this;exact .base _
 | @step x y z e t ih=>
  intro h hh o h1 h2;obtain⟨m,m1,m2,m3⟩:=Ga hb h y;have e1:sem ns id (mixA (xh bs h) (xh bs m))=true:=by rw[Cx hw hi h1 m3];exact e
  exact .step ((hr h m hh m1 m2).1 e1) (ih m1 (m2.symm.trans o) m3 h2)
theorem rt_cl (hb:BsOk bs)(hw:Wf (2*bs.length) ns)(hi:id<ns.length){D:Hd→Hd→Prop}(hD:∀ {h g},HdOk h→D h g→HdOk g∧Out bs h g)(hr:Rep bs ns id D){h g:Hd}(hh:HdOk h)(hg:HdOk g)(o:Out bs h g):Rt bs.length (sem ns id) (xh bs h) (xh bs g)↔Cl' D h g:=by
 constructor
 ·exact fun t=>rt_cl1 hb hw hi hr hg t hh o (fun _ _=>rfl) fun _ _=>rfl
 ·intro t
  induction t with
  |base h=>exact .base fun _ _=>rfl
  |step a _ ih=>
   obtain⟨h1,h2⟩:=hD hh a;exact .step ((hr _ _ hh h1 h2).2 a) (ih h1 hg (h2.symm.trans o))
theorem uni_ok {a b:Nat}{D E:Hd→Hd→Prop}(hw:Wf (2*bs.length) ns)(ha:a<ns.length)(hb':b<ns.length)(hD:Rep bs ns a D)(hE:Rep bs ns b E)(h:orF most ns a b=some (id,ms)):Gr (2*bs.length) ns ms∧id<ms.length∧Rep bs ms id fun h g=>D h g∨E h g:=by
 obtain⟨g,i⟩:=Et El hw ha hb' h;exact⟨g,i.lt,fun x y hx hy o=>by rw[i.sem,Bool.or_eq_true,hD x y hx hy o,hE x y hx hy o]⟩
theorem sq_rep (hb:BsOk bs){a b:Nat}{D E:Hd→Hd→Prop}(hw:Wf (2*bs.length) ns)(ha:a<ns.length)(hb':b<ns.length)(hDo:∀ {h g},HdOk h→D h g→HdOk g∧Out bs h g)(hD:Rep bs ns a D)(hE:Rep bs ns b E)(h:seA most ns a b=some (id,ms)):Gr (2*bs.length) ns ms∧id<ms.length∧Rep bs ms id fun h g=>∃ m,D h m∧E m g:=by
 obtain⟨gr,i⟩:=seA_ok qom hw ha hb' h;refine⟨gr,i.lt,fun x y hx hy o=> ?_⟩;rw[i.sem,compR_iff,Fa,Gs]
 constructor
 ·rintro⟨u,h1,h2⟩;obtain⟨m,m1,m2,m3⟩:=Ga hb x u;refine⟨m,(hD x m hx m1 m2).1 ?_,(hE m y m1 hy (m2.symm.trans o)).1 ?_⟩
  ·rw[Cx hw ha (fun _ _=>rfl) m3];exact h1
  ·rw[Cx hw hb' m3 (fun _ _=>rfl)];exact h2
 ·rintro⟨m,h1,h2⟩;obtain⟨m1,m2⟩:=hDo hx h1;exact⟨xh bs m,(hD x m hx m1 m2).2 h1,(hE m y m1 hy (m2.symm.trans o)).2 h2⟩
theorem sr_rep (hb:BsOk bs){a r:Nat}{D:Hd→Hd→Prop}(hw:Wf (2*bs.length) ns)(ha:a<ns.length)(hDo:∀ {h g},HdOk h→D h g→HdOk g∧Out bs h g)(hD:Rep bs ns a D)(h:starF most bs.length r ns a=some (id,ms)):Gr (2*bs.length) ns ms∧id<ms.length∧Rep bs ms id (Cl' D):=by
 obtain⟨gr,l,i⟩:=star_ok hw ha h;exact⟨gr,l,fun x y hx hy o=>by rw[i,rt_cl hb hw ha hDo hD hx hy o]⟩
theorem Cm (hb:BsOk bs)(tick:Int)(r:Nat):∀ (p:Po) {ns ms:Ns} {id:Nat},p.Fit bs→Wf (2*bs.length) ns→polF most bs tick r p ns=some (id,ms)→Gr (2*bs.length) ns ms∧id<ms.length∧Rep bs ms id (den tick p)
 | .fil p,ns,ms,id,hf,hw,h=>by
  rw[polF] at h
  split at h
  ·cases h
  ·rename_i s ns1 h1;obtain⟨g1,l1,r1⟩:=Dt hb tick p hf hw h1;obtain⟨g2,l2,r2⟩:=fil_ok hb g1.w l1 r1 h;exact⟨g1.trans g2,l2,r2⟩
 | .set f n,ns,ms,id,hf,hw,h=>relP_ok hb hf.1 hw h
 | .uni a b,ns,ms,id,hf,hw,h=>by
  rw[polF] at h
  split at h
  ·cases h
  ·rename_i x ns1 h1;obtain⟨g1,l1,r1⟩:=Cm hb tick r a hf.1 hw h1
   split at h
   ·cases h
   ·rename_i y ns2 h2;obtain⟨g2,l2,r2⟩:=Cm hb tick r b hf.2 g1.w h2;obtain⟨g3,l3,r3⟩:=uni_ok g2.w (Nat.lt_of_lt_of_le l1 g2.le) l2 (r1.gr g1.w l1 g2) r2 h;exact⟨(g1.trans g2).trans g3,l3,r3⟩
 | .seq a b,ns,ms,id,hf,hw,h=>by
  rw[polF] at h
  split at h
  ·cases h
  ·rename_i x ns1 h1;obtain⟨g1,l1,r1⟩:=Cm hb tick r a hf.1 hw h1
   split at h
   ·cases h
   ·rename_i y ns2 h2;obtain⟨g2,l2,r2⟩:=Cm hb tick r b hf.2 g1.w h2;obtain⟨g3,l3,r3⟩:=sq_rep hb g2.w (Nat.lt_of_lt_of_le l1 g2.le) l2 (fun hh d=>Dl hf.1 hh d) (r1.gr g1.w l1 g2) r2 h;exact⟨(g1.trans g2).trans g3,l3,r3⟩
 | .star a,ns,ms,id,hf,hw,h=>by
  rw[polF] at h
  split at h
  ·cases h
  ·rename_i x ns1 h1;obtain⟨g1,l1,r1⟩:=Cm hb tick r a hf hw h1;obtain⟨g2,l2,r2⟩:=sr_rep (D:=den tick a) hb g1.w l1 (fun hh d=>Dl (p:=a) hf hh d) r1 h;exact⟨g1.trans g2,l2,r2⟩
theorem rep_eq (hb:BsOk bs)(hw:Wf (2*bs.length) ns){a b:Nat}(ha:a<ns.length)(hb':b<ns.length){D E:Hd→Hd→Prop}(hD:Rep bs ns a D)(hE:Rep bs ns b E):a=b↔∀ h g,HdOk h→HdOk g→Out bs h g→(D h g↔E h g):=by
 constructor
 ·rintro rfl h g hh hg o;rw[← hD h g hh hg o,hE h g hh hg o]
 ·intro e;refine sem_inj hw ha hb' fun α=> ?_
  obtain⟨h,h1,_,h3⟩:=Ga hb [0,0,0,0,0,0,0,0,0,0] (evA α);obtain⟨g,g1,g2,g3⟩:=Ga hb h (odA α);have:=e h g h1 g1 g2;rw[← hD h g h1 g1 g2,← hE h g h1 g1 g2,Cx hw ha h3 g3,Cx hw hb' h3 g3,mix_self] at this;exact Bool.eq_iff_iff.2 this
end
def gvK (ns:Ns) (x:Nat→Bool):Nat→Nat→Bool
 |0,i=>i==1
 |k+1,i=>if i<2 then i==1 else if lvl ns i % 2=0 then gvK ns x k (if x (lvl ns i / 2) then hig ns i else low ns i) else gvK ns x k (low ns i)||gvK ns x k (hig ns i)
def gvF (ns:Ns) (x:Nat→Bool) (i:Nat):Bool:=gvK ns x i i
section
variable {N:Nat} {ns ms:Ns} {x:Nat→Bool}
theorem gvK_end {i:Nat}(h:i<2):∀ k,gvK ns x k i=(i==1)
 |0=>rfl
 |k+1=>by rw[gvK,if_pos h]
theorem sem_flip (h:Wf N ns){i:Nat}(h2:2≤i)(hi:i<ns.length)(ho: ¬ lvl ns i % 2=0)(v:Bool)(z:Nat→Bool):sem ns i (mixA x (fun k=>if k=lvl ns i / 2 then v else z k))=sem ns (if v then hig ns i else low ns i) (mixA x z):=by
 have hu:=h.up i h2 hi;obtain⟨h3,h4,h5⟩:=h.lt i h2 hi;have e:mixA x (fun k=>if k=lvl ns i / 2 then v else z k) (lvl ns i)=v:=by unfold mixA;rw[if_neg ho];simp
 rw[Ds h h2 hi,e];have d:∀ k,lvl ns i<k→mixA x (fun k=>if k=lvl ns i / 2 then v else z k) k=mixA x z k:=fun k hk=>by
  unfold mixA
  split
  ·rfl
  ·exact if_neg qom
 cases v
 ·simp only[Bool.false_eq_true,if_false];exact C2 h _ qom _ _ fun k hk _=>d k qom
 ·simp only[if_true];exact C2 h _ qom _ _ fun k hk _=>d k qom
theorem gvK_iff (h:Wf N ns):∀ (k i:Nat),i<ns.length→i≤k→(gvK ns x k i=true↔∃ z,sem ns i (mixA x z)=true):=by
 intro k
 induction k with
 |zero=>
  intro i hi hk;have:i=0:=by omega
  subst this
  constructor
  ·intro e;cases e
  ·rintro⟨z,e⟩;cases e
 |succ k ih=>
  intro i hi hk
  by_cases h2:i<2
  ·rw[gvK_end h2]
   constructor
   ·intro e;exact⟨fun _=>false,by rw[Dg _ h2];exact e⟩
   ·rintro⟨z,e⟩;rw[Dg _ h2] at e;exact e
  ·obtain⟨h3,h4,h5⟩:=h.lt i qom hi;rw[gvK,if_neg h2]
   split
   ·rename_i he;have e:∀ z,sem ns i (mixA x z)=sem ns (if x (lvl ns i / 2) then hig ns i else low ns i) (mixA x z):=fun z=>by
     rw[Ds h qom hi,Ij _ _ he];split<;>rfl
    rw[ih _ (by split<;>omega) (by split<;>omega)];exact⟨fun ⟨z,a⟩=>⟨z,(e z).trans a⟩,fun ⟨z,a⟩=>⟨z,(e z).symm.trans a⟩⟩
   ·rename_i ho;rw[Bool.or_eq_true,ih _ qom qom,ih _ qom qom]
    constructor
    ·rintro(⟨z,a⟩|⟨z,a⟩)
     ·exact⟨_,(sem_flip h qom hi ho false z).trans (by simpa using a)⟩
     ·exact⟨_,(sem_flip h qom hi ho true z).trans (by simpa using a)⟩
    ·rintro⟨z,a⟩;rw[Ds h qom hi] at a
     split at a
     ·exact .inr ⟨z,a⟩
     ·exact .inl ⟨z,a⟩
theorem Jc (h:Wf N ns){i:Nat}(hi:i<ns.length):gvF ns x i=true↔∃ z,sem ns i (mixA x z)=true:=gvK_iff h i i hi (Nat.le_refl _)
theorem gv_nd (h:Wf N ns){i:Nat}(h2:2≤i)(hi:i<ns.length):gvF ns x i=if lvl ns i % 2=0 then gvF ns x (if x (lvl ns i / 2) then hig ns i else low ns i) else gvF ns x (low ns i)||gvF ns x (hig ns i):=by
 obtain⟨h3,h4,h5⟩:=h.lt i h2 hi;have key:∀ k j,j<ns.length→j≤k→gvK ns x k j=gvF ns x j:=fun k j hj hk=>Bool.eq_iff_iff.2 ((gvK_iff h k j hj hk).trans (Jc h hj).symm)
 obtain⟨i',rfl⟩:∃ i',i=i'+1:=⟨i - 1,by omega⟩;show gvK ns x (i'+1) (i'+1)=_;rw[gvK,if_neg qom]
 split
 ·exact key _ _ (by split<;>omega) (by split<;>omega)
 ·rw[key _ _ qom qom,key _ _ qom qom]
end
def evF (ns:Ns) (bs:List Nat) (h:Hd):Nat→Nat→Nat→Hd→List Hd
 |r,k,id,g=>
  if gvF ns (xh bs h) id then
   match r with
   |0=>[g]
   |r+1=>
    evF ns bs h r (k+1) (ch ns (ch ns id (2*k) (xh bs h k)) (2*k+1) false) (hput g (gd bs k) false)++
    evF ns bs h r (k+1) (ch ns (ch ns id (2*k) (xh bs h k)) (2*k+1) true) (hput g (gd bs k) true)
  else []
def hLt (g h:Hd):Prop:=∃ b,b<160∧(∀ j,j<b→hbit g j=hbit h j)∧hbit g b=false∧hbit h b=true
theorem hLt.trans {a b c:Hd}(h1:hLt a b)(h2:hLt b c):hLt a c:=by
 obtain⟨i,hi,e1,f1,t1⟩:=h1;obtain⟨j,hj,e2,f2,t2⟩:=h2;rcases Nat.lt_trichotomy i j with h|h|h
 ·exact⟨i,hi,fun k hk=>(e1 k hk).trans (e2 k qom),f1,by rw[← e2 i h];exact t1⟩
 ·subst h;rw[f2] at t1;cases t1
 ·exact⟨j,hj,fun k hk=>(e1 k qom).trans (e2 k hk),by rw[e1 j h];exact f2,t2⟩
theorem hLt.irr {a:Hd}(h:hLt a a):False:=by
 obtain⟨i,_,_,f,t⟩:=h;rw[f] at t;cases t
theorem hLt_or {a b:Hd}(ha:HdOk a)(hb:HdOk b):hLt a b∨a=b∨hLt b a:=by
 by_cases h:∃ i,i<160∧hbit a i≠hbit b i
 ·have key:∀ n,(∃ i,i<n∧i<160∧hbit a i≠hbit b i)→∃ i,i<160∧hbit a i≠hbit b i∧∀ j,j<i→hbit a j=hbit b j:=by
   intro n
   induction n with
   |zero=>rintro⟨i,h,_⟩;omega
   |succ n ih=>
    rintro⟨i,h1,h2,h3⟩
    by_cases hx:∃ i,i<n∧i<160∧hbit a i≠hbit b i
    ·exact ih hx
    ·refine⟨i,h2,h3,fun j hj=>Classical.byContradiction fun hne=>hx ⟨j,by omega,by omega,hne⟩⟩
  obtain⟨i,h1,h2⟩:=h;obtain⟨i,h1,h2,h3⟩:=key 160 ⟨i,h1,h1,h2⟩;cases ea:hbit a i<;>cases eb:hbit b i
  ·rw[ea,eb] at h2;exact(h2 U).elim
  ·exact .inl ⟨i,h1,h3,ea,eb⟩
  ·exact .inr (.inr ⟨i,h1,fun j hj=>(h3 j hj).symm,eb,ea⟩)
  ·rw[ea,eb] at h2;exact(h2 U).elim
 ·exact .inr (.inl (Fb ha hb fun i hi=>Classical.byContradiction fun hne=>h ⟨i,hi,hne⟩))
section
variable {ns:Ns} {bs:List Nat} {h:Hd}
theorem Ha (hw:Wf (2*bs.length) ns){id k:Nat}(hi:id<ns.length)(hk:k<bs.length){x z:Nat→Bool}:sem ns id (mixA x z)=sem ns (ch ns (ch ns id (2*k) (x k)) (2*k+1) (z k)) (mixA x z):=by
 have:=sem_at hw hi (lv:=2*k) qom (mixA x z);rw[Ij _ _ qom,I9 _ _ qom,show 2*k / 2=k by omega] at this;exact this
theorem Jd (hb:BsOk bs)(hw:Wf (2*bs.length) ns)(hh:HdOk h):∀ (r k id:Nat) (g f:Hd),r+k=bs.length→id<ns.length→2*k≤lvl ns id→HdOk g→Out bs h g→(∀ j,k≤j→j<bs.length→xh bs g j=xh bs h j)→(f∈evF ns bs h r k id g↔HdOk f∧Out bs h f∧(∀ j,j<k→xh bs f j=xh bs g j)∧sem ns id (mixA (xh bs h) (xh bs f))=true)
 |r,k,id,g,f,hr,hi,hl,hg,ho,hq=>by
  unfold evF
  by_cases hgv:gvF ns (xh bs h) id=true
  ·rw[if_pos hgv];cases r with
   |zero=>
    simp only[List.mem_singleton];have hk:k=bs.length:=by omega
    have hid:id<2:=(hw.end hi).1 (by have:=hw.lvN hi;omega);obtain⟨z,hz⟩:=(Jc hw hi).1 hgv
    constructor
    ·rintro rfl;refine⟨hg,ho,fun _ _=>rfl,?_⟩;rw[Dg _ hid] at hz ⊢;exact hz
    ·rintro⟨h1,h2,h3,h4⟩;exact Jb hb h1 hg (h2.symm.trans ho) fun j hj=>h3 j qom
   |succ r=>
    have hk:k<bs.length:=by omega
    have hbk:=E1 hb hk;have hput:∀ v,HdOk (hput g (gd bs k) v)∧Out bs h (hput g (gd bs k) v)∧(∀ j,k+1≤j→j<bs.length→xh bs (hput g (gd bs k) v) j=xh bs h j)∧(∀ j,j<k→xh bs (hput g (gd bs k) v) j=xh bs g j)∧xh bs (hput g (gd bs k) v) k=v:=fun v=>by
     have hx:∀ j,j<bs.length→xh bs (YtkojjapnfdlddaaGreat.hput g (gd bs k) v) j=if j=k then v else xh bs g j:=fun j hj=>by
      unfold xh;rw[E0 _ _ _ (E1 hb hj)]
      by_cases e:j=k
      ·subst e;simp
      ·rw[if_neg (fun e2=>e (Ip hb hj hk e2)),if_neg e]
     refine⟨B2 _ _ _,fun b h1 h2=> ?_,fun j h1 h2=> ?_,fun j h1=> ?_,?_⟩
     ·rw[E0 _ _ _ h1,if_neg (fun e=>h2 (by rw[e];exact Bl hk))];exact ho b h1 h2
     ·rw[hx j h2,if_neg qom];exact hq j qom h2
     ·rw[hx j qom,if_neg qom]
     ·rw[hx k hk,if_pos rfl]
    have hc:∀ v,ch ns (ch ns id (2*k) (xh bs h k)) (2*k+1) v<ns.length:=fun v=>Bv hw (Bv hw hi _) v
    have hcl:∀ v,2*(k+1)≤lvl ns (ch ns (ch ns id (2*k) (xh bs h k)) (2*k+1) v):=fun v=>by
     have h1:=Dc hw hi (lv:=2*k) hl qom (xh bs h k);have h2:=Dc hw (Bv hw hi (xh bs h k)) (lv:=2*k+1) h1 qom v;omega
    have ih:∀ v,f∈evF ns bs h r (k+1) (ch ns (ch ns id (2*k) (xh bs h k)) (2*k+1) v) (YtkojjapnfdlddaaGreat.hput g (gd bs k) v)↔HdOk f∧Out bs h f∧(∀ j,j<k→xh bs f j=xh bs g j)∧xh bs f k=v∧sem ns id (mixA (xh bs h) (xh bs f))=true:=fun v=>by
     obtain⟨p1,p2,p3,p4,p5⟩:=hput v;rw[Jd hb hw hh r (k+1) _ _ f qom (hc v) (hcl v) p1 p2 p3]
     constructor
     ·rintro⟨h1,h2,h3,h4⟩;have h5:xh bs f k=v:=by rw[h3 k qom,p5]
      refine⟨h1,h2,fun j hj=>by rw[h3 j qom,p4 j hj],h5,?_⟩;rw[Ha hw hi hk,h5];exact h4
     ·rintro⟨h1,h2,h3,h4,h5⟩;refine⟨h1,h2,fun j hj=> ?_,?_⟩
      ·by_cases e:j=k
       ·subst e;rw[h4,p5]
       ·rw[h3 j qom,p4 j qom]
      ·rw[Ha hw hi hk,h4] at h5;exact h5
    rw[List.mem_append,ih,ih]
    constructor
    ·rintro(⟨h1,h2,h3,_,h5⟩|⟨h1,h2,h3,_,h5⟩)<;>exact⟨h1,h2,h3,h5⟩
    ·rintro⟨h1,h2,h3,h5⟩;rcases Bool.eq_false_or_eq_true (xh bs f k) with e|e
     ·exact .inr ⟨h1,h2,h3,e,h5⟩
     ·exact .inl ⟨h1,h2,h3,e,h5⟩
  ·rw[if_neg hgv]
   constructor
   ·intro e;cases e
   ·rintro⟨_,_,_,h4⟩;exact(hgv ((Jc hw hi).2 ⟨_,h4⟩)).elim
theorem ev_up (hb:BsOk bs)(hw:Wf (2*bs.length) ns)(hh:HdOk h):∀ (r k id:Nat) (g:Hd),r+k=bs.length→id<ns.length→2*k≤lvl ns id→HdOk g→Out bs h g→(∀ j,k≤j→j<bs.length→xh bs g j=xh bs h j)→(evF ns bs h r k id g).Pairwise hLt
 |r,k,id,g,hr,hi,hl,hg,ho,hq=>by
  unfold evF
  by_cases hgv:gvF ns (xh bs h) id=true
  ·rw[if_pos hgv];cases r with
   |zero=>exact List.pairwise_singleton ..
   |succ r=>
    have hk:k<bs.length:=by omega
    have hbk:=E1 hb hk;have hx:∀ v j,j<bs.length→xh bs (hput g (gd bs k) v) j=if j=k then v else xh bs g j:=fun v j hj=>by
     unfold xh;rw[E0 _ _ _ (E1 hb hj)]
     by_cases e:j=k
     ·subst e;simp
     ·rw[if_neg (fun e2=>e (Ip hb hj hk e2)),if_neg e]
    have ho':∀ v,Out bs h (hput g (gd bs k) v):=fun v b h1 h2=>by
     rw[E0 _ _ _ h1,if_neg (fun e=>h2 (by rw[e];exact Bl hk))];exact ho b h1 h2
    have hq':∀ v j,k+1≤j→j<bs.length→xh bs (hput g (gd bs k) v) j=xh bs h j:=fun v j h1 h2=>by
     rw[hx v j h2,if_neg qom];exact hq j qom h2
    have hc:∀ v,ch ns (ch ns id (2*k) (xh bs h k)) (2*k+1) v<ns.length:=fun v=>Bv hw (Bv hw hi _) v
    have hcl:∀ v,2*(k+1)≤lvl ns (ch ns (ch ns id (2*k) (xh bs h k)) (2*k+1) v):=fun v=>by
     have h1:=Dc hw hi (lv:=2*k) hl qom (xh bs h k);have h2:=Dc hw (Bv hw hi (xh bs h k)) (lv:=2*k+1) h1 qom v;omega
    refine List.pairwise_append.2 ⟨ev_up hb hw hh r (k+1) _ _ qom (hc _) (hcl _) (B2 _ _ _) (ho' _) (hq' _),ev_up hb hw hh r (k+1) _ _ qom (hc _) (hcl _) (B2 _ _ _) (ho' _) (hq' _),fun a ha b hb2=> ?_⟩;obtain⟨a1,a2,a3,_⟩:=(Jd hb hw hh r (k+1) _ _ a qom (hc _) (hcl _) (B2 _ _ _) (ho' _) (hq' _)).1 ha;obtain⟨b1,b2,b3,_⟩:=(Jd hb hw hh r (k+1) _ _ b qom (hc _) (hcl _) (B2 _ _ _) (ho' _) (hq' _)).1 hb2;have e1:=a3 k qom;have e2:=b3 k qom;rw[hx _ k hk,if_pos rfl] at e1 e2;refine⟨gd bs k,hbk,fun j hj=> ?_,e1,e2⟩
    by_cases hjb:j∈bs
    ·obtain⟨i,hi2,rfl⟩:=Ja hb hjb;have hik:i<k:=by
      refine Nat.lt_of_not_le fun hki=> ?_
      by_cases e:i=k
      ·subst e;omega
      ·have:=List.pairwise_iff_getElem.1 hb.up k i hk hi2 qom;rw[A0 hk,A0 hi2] at hj;omega
     have f1:=a3 i qom;have f2:=b3 i qom;rw[hx _ i hi2,if_neg qom] at f1 f2;exact f1.trans f2.symm
    ·exact(a2 j qom hjb).symm.trans (b2 j qom hjb)
  ·rw[if_neg hgv];exact .nil
def evA' (ns:Ns) (bs:List Nat) (h:Hd) (id:Nat):List Hd:=evF ns bs h bs.length 0 id h
theorem evA_mem (hb:BsOk bs)(hw:Wf (2*bs.length) ns)(hh:HdOk h){id:Nat}(hi:id<ns.length){D:Hd→Hd→Prop}(hr:Rep bs ns id D)(hD:∀ {h g},HdOk h→D h g→HdOk g∧Out bs h g)(f:Hd):f∈evA' ns bs h id↔D h f:=by
 unfold evA';rw[Jd hb hw hh bs.length 0 id h f qom hi qom hh (.refl _) (fun _ _ _=>rfl)]
 constructor
 ·rintro⟨h1,h2,_,h4⟩;exact(hr h f hh h1 h2).1 h4
 ·intro d;obtain⟨h1,h2⟩:=hD hh d;exact⟨h1,h2,fun j hj=>by omega,(hr h f hh h1 h2).2 d⟩
theorem evA_up (hb:BsOk bs)(hw:Wf (2*bs.length) ns)(hh:HdOk h){id:Nat}(hi:id<ns.length):(evA' ns bs h id).Pairwise hLt:=ev_up hb hw hh bs.length 0 id h qom hi qom hh (.refl _) fun _ _ _=>rfl
theorem gv_rep (hb:BsOk bs)(hw:Wf (2*bs.length) ns)(hh:HdOk h){id:Nat}(hi:id<ns.length){D:Hd→Hd→Prop}(hr:Rep bs ns id D)(hD:∀ {h g},HdOk h→D h g→HdOk g∧Out bs h g):gvF ns (xh bs h) id=true↔∃ g,D h g:=by
 rw[Jc hw hi]
 constructor
 ·rintro⟨z,e⟩;obtain⟨g,g1,g2,g3⟩:=Ga hb h z;refine⟨g,(hr h g hh g1 g2).1 ?_⟩;rw[Cx hw hi (fun _ _=>rfl) g3];exact e
 ·rintro⟨g,d⟩;obtain⟨g1,g2⟩:=hD hh d;exact⟨_,(hr h g hh g1 g2).2 d⟩
end
theorem sorted_eq:∀ {a b:List Hd},a.Pairwise hLt→b.Pairwise hLt→(∀ x,x∈a↔x∈b)→a=b
 |[],[],_,_,_=>rfl
 |[],y::b,_,_,h=>by have:=(h y).2 (by simp);cases this
 |x::a,[],_,_,h=>by have:=(h x).1 (by simp);cases this
 |x::a,y::b,ha,hb,h=>by
  rw[List.pairwise_cons] at ha hb;have e:x=y:=by
   have h1:=(h x).1 (by simp);have h2:=(h y).2 (by simp);rcases List.mem_cons.1 h1 with h1|h1
   ·exact h1
   ·rcases List.mem_cons.1 h2 with h2|h2
    ·exact h2.symm
    ·exact((hb.1 x h1).trans (ha.1 y h2)).irr.elim
  subst e;rw[sorted_eq ha.2 hb.2 fun z=> ?_]
  constructor
  ·intro hz;rcases List.mem_cons.1 ((h z).1 (by simp[hz])) with e|e
   ·subst e;exact(ha.1 z hz).irr.elim
   ·exact e
  ·intro hz;rcases List.mem_cons.1 ((h z).2 (by simp[hz])) with e|e
   ·subst e;exact(hb.1 z hz).irr.elim
   ·exact e
section
variable {most:Nat} {ns ms:Ns} {bs:List Nat}
def foF (ns:Ns) (l:List (Nat × Nat)) (lv:Nat) (v:Bool):List (Nat × Nat):=(l.map fun p=>(ch ns p.1 lv v,ch ns p.2 lv v)).filter fun q=>q.1 !=q.2
theorem fo_mem {l:List (Nat × Nat)}{lv:Nat}{v:Bool}{q:Nat × Nat}:q∈foF ns l lv v↔(∃ p∈l,q=(ch ns p.1 lv v,ch ns p.2 lv v))∧q.1≠q.2:=by
 unfold foF;rw[List.mem_filter,List.mem_map,bne_iff_ne]
 constructor
 ·rintro⟨⟨p,h1,rfl⟩,h2⟩;exact⟨⟨p,h1,rfl⟩,h2⟩
 ·rintro⟨⟨p,h1,rfl⟩,h2⟩;exact⟨⟨p,h1,rfl⟩,h2⟩
def dfF (ns:Ns):Nat→Nat→List (Nat × Nat)→List Bool
 |0,_,_=>[]
 |r+1,k,l=>
  if (foF ns l (2*k) false).isEmpty then
   true::dfF ns r (k+1) (foF ns (foF ns l (2*k) true) (2*k+1) false++foF ns (foF ns l (2*k) true) (2*k+1) true)
  else false::dfF ns r (k+1) (foF ns (foF ns l (2*k) false) (2*k+1) false++foF ns (foF ns l (2*k) false) (2*k+1) true)
def PsOk (ns:Ns) (k:Nat) (l:List (Nat × Nat)):Prop:=∀ p∈l,p.1<ns.length∧p.2<ns.length∧k≤lvl ns p.1∧k≤lvl ns p.2∧p.1≠p.2
def Dif (ns:Ns) (l:List (Nat × Nat)) (x:Nat→Bool):Prop:=∃ p∈l,∃ z,sem ns p.1 (mixA x z)≠sem ns p.2 (mixA x z)
theorem fo_ps {N:Nat}(hw:Wf N ns){l:List (Nat × Nat)}{k:Nat}(hk:k<N)(h:PsOk ns k l)(v:Bool):PsOk ns (k+1) (foF ns l k v):=fun q hq=>by
 obtain⟨⟨p,hp,rfl⟩,hne⟩:=fo_mem.1 hq;obtain⟨h1,h2,h3,h4,_⟩:=h p hp;exact⟨Bv hw h1 v,Bv hw h2 v,Dc hw h1 h3 hk v,Dc hw h2 h4 hk v,hne⟩
theorem ne_ch {N:Nat}(hw:Wf N ns){a b k:Nat}(ha:a<ns.length)(hb:b<ns.length)(hk:k<N)(hne:a≠b):ch ns a k false≠ch ns b k false∨ch ns a k true≠ch ns b k true:=Classical.byContradiction fun h=>hne (sem_inj hw ha hb fun α=>by
 have h1:ch ns a k false=ch ns b k false:=Classical.byContradiction fun e=>h (.inl e)
 have h2:ch ns a k true=ch ns b k true:=Classical.byContradiction fun e=>h (.inr e)
 rw[Hr hw ha hk α,Hr hw hb hk α];cases α k
 ·rw[h1]
 ·rw[h2])
theorem Fq (hw:Wf (2*bs.length) ns){l:List (Nat × Nat)}{k:Nat}(hk:k<bs.length)(h:PsOk ns (2*k) l){x:Nat→Bool}:Dif ns l x↔Dif ns (foF ns (foF ns l (2*k) (x k)) (2*k+1) false++foF ns (foF ns l (2*k) (x k)) (2*k+1) true) x:=by
 have key:∀ p∈l,∀ z,sem ns p.1 (mixA x z)=sem ns (ch ns (ch ns p.1 (2*k) (x k)) (2*k+1) (z k)) (mixA x z)∧sem ns p.2 (mixA x z)=sem ns (ch ns (ch ns p.2 (2*k) (x k)) (2*k+1) (z k)) (mixA x z):=fun p hp z=>⟨Ha hw (h p hp).1 hk,Ha hw (h p hp).2.1 hk⟩
 constructor
 ·rintro⟨p,hp,z,hz⟩;obtain⟨k1,k2⟩:=key p hp z;rw[k1,k2] at hz;have hne:ch ns (ch ns p.1 (2*k) (x k)) (2*k+1) (z k)≠ch ns (ch ns p.2 (2*k) (x k)) (2*k+1) (z k):=fun e=>hz (by rw[e])
  have hne1:ch ns p.1 (2*k) (x k)≠ch ns p.2 (2*k) (x k):=fun e=>hne (by rw[e])
  refine⟨(ch ns (ch ns p.1 (2*k) (x k)) (2*k+1) (z k),ch ns (ch ns p.2 (2*k) (x k)) (2*k+1) (z k)),List.mem_append.2 ?_,z,hz⟩;have hm:(ch ns p.1 (2*k) (x k),ch ns p.2 (2*k) (x k))∈foF ns l (2*k) (x k):=fo_mem.2 ⟨⟨p,hp,rfl⟩,hne1⟩;cases hz2:z k
  ·rw[hz2] at hne;exact .inl (fo_mem.2 ⟨⟨_,hm,rfl⟩,hne⟩)
  ·rw[hz2] at hne;exact .inr (fo_mem.2 ⟨⟨_,hm,rfl⟩,hne⟩)
 ·rintro⟨q,hq,z,hz⟩;have:∃ v,q∈foF ns (foF ns l (2*k) (x k)) (2*k+1) v:=by
   rcases List.mem_append.1 hq with hq|hq
   ·exact⟨_,hq⟩
   ·exact⟨_,hq⟩
  obtain⟨v,hq⟩:=this;obtain⟨⟨q1,hq1,rfl⟩,_⟩:=fo_mem.1 hq;obtain⟨⟨p,hp,rfl⟩,_⟩:=fo_mem.1 hq1;obtain⟨h1,h2,h3,h4,_⟩:=h p hp;refine⟨p,hp,fun i=>if i=k then v else z i,?_⟩;obtain⟨k1,k2⟩:=key p hp fun i=>if i=k then v else z i
  rw[k1,k2];simp only[if_true];have d:∀ {i:Nat},i<ns.length→2*k+2≤lvl ns i→sem ns i (mixA x fun i=>if i=k then v else z i)=sem ns i (mixA x z):=fun hi hl=>C2 hw _ hi _ _ fun j hj _=>by
   unfold mixA
   split
   ·rfl
   ·exact if_neg qom
  have u1:=Dc hw h1 (lv:=2*k) h3 qom (x k);have u2:=Dc hw h2 (lv:=2*k) h4 qom (x k);rw[d (Bv hw (Bv hw h1 _) _) (Dc hw (Bv hw h1 _) (lv:=2*k+1) u1 qom v),d (Bv hw (Bv hw h2 _) _) (Dc hw (Bv hw h2 _) (lv:=2*k+1) u2 qom v)];exact hz
theorem fo_ne (hw:Wf (2*bs.length) ns){l:List (Nat × Nat)}{k:Nat}(hk:k<2*bs.length)(h:PsOk ns k l)(hl:l≠[])(h0:foF ns l k false=[]):foF ns l k true≠[]:=fun h1=>by
 cases l with
 |nil=>exact hl rfl
 |cons p l=>
  obtain⟨a,b,_,_,hne⟩:=h p (by simp);rcases ne_ch hw a b hk hne with e|e
  ·have:(ch ns p.1 k false,ch ns p.2 k false)∈foF ns (p::l) k false:=fo_mem.2 ⟨⟨p,by simp,rfl⟩,e⟩;rw[h0] at this;cases this
  ·have:(ch ns p.1 k true,ch ns p.2 k true)∈foF ns (p::l) k true:=fo_mem.2 ⟨⟨p,by simp,rfl⟩,e⟩;rw[h1] at this;cases this
theorem df_ok (hw:Wf (2*bs.length) ns):∀ (r k:Nat) (l:List (Nat × Nat)),r+k=bs.length→PsOk ns (2*k) l→l≠[]→
  (∀ x:Nat→Bool,(∀ j,j<r→x (k+j)=gd (dfF ns r k l) j)→Dif ns l x)∧
  (∀ x:Nat→Bool,∀ i,i<r→(∀ j,j<i→x (k+j)=gd (dfF ns r k l) j)→x (k+i)=false→gd (dfF ns r k l) i=true→¬ Dif ns l x)
 |0,k,l,hr,hp,hl=>by
  refine⟨fun x _=> ?_,fun x i hi=>by omega⟩;cases l with
  |nil=>exact(hl rfl).elim
  |cons p l=>
   obtain⟨a,b,c,d,hne⟩:=hp p (by simp);have h1:=(hw.end a).1 (by have:=hw.lvN a;omega);have h2:=(hw.end b).1 (by have:=hw.lvN b;omega);refine⟨p,by simp,fun _=>false,?_⟩;rw[Dg _ h1,Dg _ h2];have:(p.1=0∨p.1=1):=by omega
   have:(p.2=0∨p.2=1):=by omega
   rcases ‹p.1=0∨p.1=1› with e|e<;>rcases ‹p.2=0∨p.2=1› with f|f<;>rw[e,f]<;>first|decide|(exfalso;omega)
 |r+1,k,l,hr,hp,hl=>by
  have hk:k<bs.length:=by omega
  have step:∀ v:Bool,foF ns l (2*k) v≠[]→PsOk ns (2*(k+1)) (foF ns (foF ns l (2*k) v) (2*k+1) false++foF ns (foF ns l (2*k) v) (2*k+1) true)∧foF ns (foF ns l (2*k) v) (2*k+1) false++foF ns (foF ns l (2*k) v) (2*k+1) true≠[]:=fun v hv=>by
   have p1:=fo_ps hw qom hp v;refine⟨fun q hq=> ?_,fun e=> ?_⟩
   ·rcases List.mem_append.1 hq with hq|hq
    ·exact fo_ps hw qom p1 _ q hq
    ·exact fo_ps hw qom p1 _ q hq
   ·obtain⟨e1,e2⟩:=List.append_eq_nil_iff.1 e;exact fo_ne hw qom p1 hv e1 e2
  rw[dfF]
  by_cases he:(foF ns l (2*k) false).isEmpty=true
  ·rw[if_pos he];have h0:foF ns l (2*k) false=[]:=by simpa using he
   obtain⟨s1,s2⟩:=step true (fo_ne hw qom hp hl h0);obtain⟨i1,i2⟩:=df_ok hw r (k+1) _ qom s1 s2
   generalize dfF ns r (k+1) _=t at *;refine⟨fun x hx=> ?_,fun x i hi hx h1 h2=> ?_⟩
   ·have hxk:x k=true:=by simpa[gd] using hx 0 qom
    rw[Fq hw hk hp,hxk];exact i1 x fun j hj=>by have:=hx (j+1) qom;rw[show k+1+j=k+(j+1) by omega,this];rfl
   ·cases i with
    |zero=>
     have h1:x k=false:=h1;rw[Fq hw hk hp,h1,h0];rintro⟨q,hq,_⟩;simp[foF] at hq
    |succ i=>
     have hxk:x k=true:=by simpa[gd] using hx 0 qom
     rw[Fq hw hk hp,hxk];exact i2 x i qom (fun j hj=>by have:=hx (j+1) qom;rw[show k+1+j=k+(j+1) by omega,this];rfl) (by rw[show k+1+i=k+(i+1) by omega];exact h1) h2
  ·rw[if_neg he];have h0:foF ns l (2*k) false≠[]:=by simpa using he
   obtain⟨s1,s2⟩:=step false h0;obtain⟨i1,i2⟩:=df_ok hw r (k+1) _ qom s1 s2
   generalize dfF ns r (k+1) _=t at *;refine⟨fun x hx=> ?_,fun x i hi hx h1 h2=> ?_⟩
   ·have hxk:x k=false:=by simpa[gd] using hx 0 qom
    rw[Fq hw hk hp,hxk];exact i1 x fun j hj=>by have:=hx (j+1) qom;rw[show k+1+j=k+(j+1) by omega,this];rfl
   ·cases i with
    |zero=>simp[gd] at h2
    |succ i=>
     have hxk:x k=false:=by simpa[gd] using hx 0 qom
     rw[Fq hw hk hp,hxk];exact i2 x i qom (fun j hj=>by have:=hx (j+1) qom;rw[show k+1+j=k+(j+1) by omega,this];rfl) (by rw[show k+1+i=k+(i+1) by omega];exact h1) h2
end
section
variable {bs:List Nat} {ns:Ns}
def bhF (bs:List Nat) (l:List Bool):Hd:=hdOf fun b=>decide (b∈bs)&&gd l (bs.idxOf b)
theorem Gp (l:List Bool):HdOk (bhF bs l):=Cr _
theorem bh_xh (hb:BsOk bs)(l:List Bool){k:Nat}(hk:k<bs.length):xh bs (bhF bs l) k=gd l k:=by
 unfold xh bhF;rw[B3 _ (E1 hb hk),decide_eq_true (Bl hk),Bool.true_and];have hi:bs.idxOf (gd bs k)<bs.length:=List.idxOf_lt_length_iff.2 (Bl hk)
 congr 1
 refine Ip hb hi hk ?_;rw[A0 hi,List.getElem_idxOf]
theorem bh_out (l:List Bool){b:Nat}(h1:b<160)(h2:b∉bs):hbit (bhF bs l) b=false:=by
 unfold bhF;rw[B3 _ h1,decide_eq_false h2,Bool.false_and]
def dhF (ns:Ns) (bs:List Nat) (a b:Nat):Hd:=bhF bs (dfF ns bs.length 0 [(a,b)])
theorem dif_one {a b:Nat}{x:Nat→Bool}:Dif ns [(a,b)] x↔∃ z,sem ns a (mixA x z)≠sem ns b (mixA x z):=by
 constructor
 ·rintro⟨p,hp,h⟩;obtain rfl:=List.mem_singleton.1 hp;exact h
 ·intro h;exact⟨(a,b),by simp,h⟩
theorem differ_ok (hb:BsOk bs)(hw:Wf (2*bs.length) ns){a b:Nat}(ha:a<ns.length)(hb':b<ns.length)(hne:a≠b){D E:Hd→Hd→Prop}(hD:Rep bs ns a D)(hE:Rep bs ns b E)(hDo:∀ {h g},HdOk h→D h g→HdOk g∧Out bs h g)(hEo:∀ {h g},HdOk h→E h g→HdOk g∧Out bs h g):
  (∃ g,¬ (D (dhF ns bs a b) g↔E (dhF ns bs a b) g))∧∀ h,HdOk h→hLt h (dhF ns bs a b)→∀ g,D h g↔E h g:=by
 obtain⟨h1,h2⟩:=df_ok hw bs.length 0 [(a,b)] qom (fun p hp=>by
  obtain rfl:=List.mem_singleton.1 hp;exact⟨ha,hb',by omega,by omega,hne⟩) (by simp)
 have hok:HdOk (dhF ns bs a b):=Gp _
 constructor
 ·obtain⟨z,hz⟩:=dif_one.1 (h1 (xh bs (dhF ns bs a b)) fun j hj=>by rw[Nat.zero_add];exact bh_xh hb _ hj);obtain⟨g,g1,g2,g3⟩:=Ga hb (dhF ns bs a b) z;refine⟨g,fun e=>hz ?_⟩;rw[← hD _ g hok g1 g2,← hE _ g hok g1 g2,Cx hw ha (fun _ _=>rfl) g3,Cx hw hb' (fun _ _=>rfl) g3] at e;exact Bool.eq_iff_iff.2 e
 ·intro h hh hlt g;obtain⟨c,hc,e1,e2,e3⟩:=hlt;have hcb:c∈bs:=Classical.byContradiction fun hn=>by
   unfold dhF at e3;rw[bh_out _ hc hn] at e3;cases e3
  obtain⟨i,hi,rfl⟩:=Ja hb hcb;have hno:=h2 (xh bs h) i hi (fun j hj=>by
   have hj2:j<bs.length:=by omega
   have:gd bs j<gd bs i:=by
    have:=List.pairwise_iff_getElem.1 hb.up j i hj2 hi hj;rw[A0 hj2,A0 hi];exact this
   rw[Nat.zero_add,← bh_xh hb _ hj2];exact e1 _ this) (by rw[Nat.zero_add];exact e2) (by rw[← bh_xh hb _ hi];exact e3)
  have heq:∀ z,sem ns a (mixA (xh bs h) z)=sem ns b (mixA (xh bs h) z):=fun z=>Classical.byContradiction fun hz=>hno (dif_one.2 ⟨z,hz⟩)
  constructor
  ·intro d;obtain⟨g1,g2⟩:=hDo hh d;rw[← hE h g hh g1 g2,← heq,hD h g hh g1 g2];exact d
  ·intro d;obtain⟨g1,g2⟩:=hEo hh d;rw[← hD h g hh g1 g2,heq,hE h g hh g1 g2];exact d
end
abbrev Md:=Hd × Hd
def chg (m:Md) (b:Nat) (v:Bool):Md:=(hput m.1 b true,hput m.2 b v)
abbrev Prt:=Md × Nat
def onP (m:Md) (c:Nat):List Prt:=if c=0 then [] else [(m,c)]
def cF (ns:Ns) (k id:Nat) (v w:Bool):Nat:=ch ns (ch ns id (2*k) v) (2*k+1) w
def spF (ns:Ns) (k b:Nat) (v:Bool) (x:Prt):List Prt:=onP (if v=false then x.1 else chg x.1 b false) (cF ns k x.2 v false)++onP (if v=true then x.1 else chg x.1 b true) (cF ns k x.2 v true)
def jnB (ns:Ns) (k:Nat) (x:Prt):Bool:=(cF ns k x.2 false true==0&&(cF ns k x.2 true false==0&&cF ns k x.2 false false==cF ns k x.2 true true))||(cF ns k x.2 false false==cF ns k x.2 true false&&cF ns k x.2 false true==cF ns k x.2 true true)
def jnF (ns:Ns) (k b:Nat) (x:Prt):List Prt:=
 if cF ns k x.2 false true=0∧cF ns k x.2 true false=0∧cF ns k x.2 false false=cF ns k x.2 true true then onP x.1 (cF ns k x.2 false false)
 else onP (chg x.1 b false) (cF ns k x.2 false false)++onP (chg x.1 b true) (cF ns k x.2 false true)
def rsF (ns:Ns) (bs:List Nat):Nat→Nat→Md→List Prt→List (Md × List Md)
 |r,k,p,l=>
  if l=[] then [] else
   match r with
   |0=>[(p,l.map fun x=>x.1)]
   |r+1=>
    if l.all (jnB ns k) then rsF ns bs r (k+1) p (l.flatMap (jnF ns k (gd bs k)))
    else rsF ns bs r (k+1) (chg p (gd bs k) false) (l.flatMap (spF ns k (gd bs k) false))++rsF ns bs r (k+1) (chg p (gd bs k) true) (l.flatMap (spF ns k (gd bs k) true))
section
variable {bs:List Nat} {ns:Ns}
theorem Ia (b:Nat):hbit [0,0,0,0,0,0,0,0,0,0] b=false:=by
 have h:∀ i,gd ([0,0,0,0,0,0,0,0,0,0]:List Nat) i=0:=fun i=>by
  by_cases hi:i<([0,0,0,0,0,0,0,0,0,0]:List Nat).length
  ·have:=Bl hi
   simpa using this
  ·unfold gd List.getD;rw[List.getElem?_eq_none qom];rfl
 unfold hbit;rw[h];simp
abbrev hd0:Hd:=[0,0,0,0,0,0,0,0,0,0]
theorem Ce:HdOk hd0:=⟨rfl,fun w hw=>by simp at hw;omega⟩
theorem on_mem {m:Md}{c:Nat}{y:Prt}:y∈onP m c↔c≠0∧y=(m,c):=by
 unfold onP;split
 ·rename_i e;simp[e]
 ·rename_i e;simp[e]
end
noncomputable def fz {α:Type} (x:Nat) (f:Nat→α):α:=Nat.rec (motive:=fun _=>α) (f 0) (fun n _=>f (n+1)) x
theorem Iq {α:Type}(x:Nat)(f:Nat→α):fz x f=f x:=by cases x<;>rfl
noncomputable def iB {α:Type} (b:Bool) (x y:α):α:=Bool.rec (motive:=fun _=>α) y x b
theorem nbeq {a b:Nat}:Nat.beq a b=true↔a=b:=⟨Nat.eq_of_beq_eq_true,fun h=>by subst h;exact Nat.beq_refl a⟩
theorem Cv {α:Type}(b:Bool)(x y:α):iB b x y=if b then x else y:=by cases b<;>rfl
noncomputable def bO {α β:Type} (o:Option α) (f:α→Option β):Option β:=Option.rec (motive:=fun _=>Option β) none f o
theorem Bg {α β:Type}{o:Option α}{f:α→Option β}{y:β}(h:bO o f=some y):∃ x,o=some x∧f x=some y:=by
 cases o with
 |none=>cases h
 |some x=>exact⟨x,rfl,h⟩
structure Fs where
 S:Nat
 n:Nat
 B:Nat
 c:List Nat
def gN (S i:Nat):Nat:=Nat.mod (Nat.shiftRight S (Nat.mul 36 i)) 68719476736
def enN (x:Nd):Nat:=x.1+128*(x.2.1+16384*x.2.2)
def lvC (s:Fs) (i:Nat):Nat:=Nat.mod (gN s.S i) 128
def loC (s:Fs) (i:Nat):Nat:=Nat.mod (Nat.div (gN s.S i) 128) 16384
def hiC (s:Fs) (i:Nat):Nat:=Nat.div (gN s.S i) 2097152
def hsC (lv l h:Nat):Nat:=Nat.mod (Nat.add (Nat.add (Nat.mul lv 35841) (Nat.mul l 31357)) (Nat.mul h 38403)) 65536
noncomputable def chC (s:Fs) (i lv:Nat) (v:Bool):Nat:=iB (Nat.beq (lvC s i) lv) (iB v (hiC s i) (loC s i)) i
noncomputable def mkC (s:Fs) (lv l h:Nat):Option (Nat × Fs):=
 iB (Nat.beq l h) (some (l,s)) (List.rec (motive:=fun _=>Option (Nat × Fs)) none (fun c r _=>
  iB (Nat.blt c s.n)
   (iB (Nat.ble 2 c&&(Nat.beq (lvC s c) lv&&(Nat.beq (loC s c) l&&Nat.beq (hiC s c) h))) (some (c,⟨s.S,s.n,s.B,r⟩)) none)
   (iB (Nat.beq c s.n&&(Nat.blt l s.n&&(Nat.blt h s.n&&(Nat.blt s.n 16384&&(Nat.blt lv (lvC s l)&&(Nat.blt lv (lvC s h)&& !Nat.testBit s.B (hsC lv l h)))))))
    (fz (Nat.lor s.S (Nat.shiftLeft (Nat.add lv (Nat.mul 128 (Nat.add l (Nat.mul 16384 h)))) (Nat.mul 36 s.n))) fun S=>fz (Nat.lor s.B (Nat.shiftLeft 1 (hsC lv l h))) fun B=>fz (Nat.succ s.n) fun n=>some (c,⟨S,n,B,r⟩))
    none)) s.c)
structure Rs (N:Nat) (ns:Ns) (s:Fs):Prop where
 w:Wf N ns
 n:s.n=ns.length
 S:s.S<2 ^ (36*s.n)
 g:∀ i,gN s.S i=enN (nd ns i)
 sm:∀ i,lvl ns i<128∧low ns i<16384∧hig ns i<16384
 B:∀ x∈ns.drop 2,s.B.testBit (hsC x.1 x.2.1 x.2.2)=true
section
variable {N most:Nat} {ns:Ns} {s:Fs}
theorem Rs.lv (h:Rs N ns s)(i:Nat):lvC s i=lvl ns i:=by
 have:=(h.sm i).1;unfold lvC;show gN s.S i % 128=_;rw[h.g];unfold enN;show (lvl ns i+128*(low ns i+16384*hig ns i)) % 128=_;omega
theorem Rs.lo (h:Rs N ns s)(i:Nat):loC s i=low ns i:=by
 have:=h.sm i;unfold loC;show gN s.S i / 128 % 16384=_;rw[h.g];unfold enN;show (lvl ns i+128*(low ns i+16384*hig ns i)) / 128 % 16384=_;omega
theorem Rs.hi (h:Rs N ns s)(i:Nat):hiC s i=hig ns i:=by
 have:=h.sm i;unfold hiC;show gN s.S i / 2097152=_;rw[h.g];unfold enN;show (lvl ns i+128*(low ns i+16384*hig ns i)) / 2097152=_;omega
theorem Rs.ch (h:Rs N ns s)(i lv:Nat)(v:Bool):chC s i lv v=ch ns i lv v:=by
 unfold chC YtkojjapnfdlddaaGreat.ch;rw[h.lv,h.lo,h.hi,Cv,Cv]
 by_cases e:lvl ns i=lv
 ·rw[if_pos e,if_pos (nbeq.2 e)]
 ·rw[if_neg e,if_neg (fun e2=>e (Nat.eq_of_beq_eq_true e2))]
theorem gN_eq (S i:Nat):gN S i=S / 2 ^ (36*i) % 2 ^ 36:=by
 show Nat.mod (Nat.shiftRight S (Nat.mul 36 i)) 68719476736=_;rw[show Nat.shiftRight S (Nat.mul 36 i)=S>>>(36*i) from rfl,Nat.shiftRight_eq_div_pow];rfl
theorem gN_new {S n v:Nat}(hS:S<2 ^ (36*n))(hv:v<2 ^ 36)(i:Nat):gN (S|||v<<<(36*n)) i=if i=n then v else if i<n then gN S i else 0:=by
 have hp:S|||v<<<(36*n)=v*2 ^ (36*n)+S:=by
  rw[Nat.shiftLeft_eq,Nat.or_comm,Nat.mul_comm];exact(Nat.two_pow_add_eq_or_of_lt hS v).symm
 rw[gN_eq,gN_eq,hp];rcases Nat.lt_trichotomy i n with h|h|h
 ·rw[if_neg qom,if_pos h];obtain⟨d,rfl⟩:∃ d,n=i+1+d:=⟨n - (i+1),by omega⟩;have e:v*2 ^ (36*(i+1+d))=2 ^ (36*i)*(2 ^ 36*(v*2 ^ (36*d))):=by
   rw[show 36*(i+1+d)=36*i+(36+36*d) by omega,Nat.pow_add,Nat.pow_add]
   generalize 2 ^ (36*i)=a
   generalize 2 ^ (36*d)=b
   generalize (2:Nat) ^ 36=c;rw[Nat.mul_left_comm,Nat.mul_left_comm v c b]
  rw[e,Nat.mul_add_div (Nat.two_pow_pos _),Nat.mul_add_mod]
 ·subst h;rw[if_pos U,Nat.mul_comm,Nat.mul_add_div (Nat.two_pow_pos _),Nat.div_eq_of_lt hS,Nat.add_zero,Nat.mod_eq_of_lt hv]
 ·rw[if_neg qom,if_neg qom,Nat.div_eq_of_lt,Nat.zero_mod];have h1:2 ^ (36*(n+1))≤2 ^ (36*i):=Nat.pow_le_pow_right qde qom;have h2:2 ^ (36*(n+1))=2 ^ 36*2 ^ (36*n):=by rw[← Nat.pow_add];congr 1;omega
  have h3:(v+1)*2 ^ (36*n)≤2 ^ 36*2 ^ (36*n):=Nat.mul_le_mul_right _ hv;rw[Nat.succ_mul] at h3;omega
theorem tB_or {B h k:Nat}:(Nat.lor B (Nat.shiftLeft 1 h)).testBit k=(B.testBit k||decide (k=h)):=by
 show (B|||1<<<h).testBit k=_;rw[Nat.testBit_or,Nat.testBit_shiftLeft]
 by_cases e:k=h
 ·subst e;simp
 ·rw[decide_eq_false e,Bool.or_false]
  by_cases hk:h≤k
  ·rw[decide_eq_true hk,Bool.true_and,show Nat.testBit 1 (k - h)=false from by rw[show (1:Nat)=2 ^ 0 from rfl];exact Nat.testBit_two_pow_of_ne qom,Bool.or_false]
  ·rw[decide_eq_false hk,Bool.false_and,Bool.or_false]
theorem blt_iff {a b:Nat}:Nat.blt a b=true↔a<b:=by rw[Nat.blt_eq]
theorem Fr (hm:16384≤most)(hN:N<128)(h:Rs N ns s){lv l r id:Nat}{s':Fs}(e:mkC s lv l r=some (id,s')):∃ ms,mkF most ns lv l r=some (id,ms)∧Rs N ms s':=by
 unfold mkC at e;rw[Cv] at e;unfold mkF
 by_cases hlr:l=r
 ·rw[if_pos (nbeq.2 hlr)] at e;obtain⟨rfl,rfl⟩:=Prod.mk.inj (Option.some.inj e);exact⟨ns,by rw[if_pos hlr],h⟩
 ·rw[if_neg (fun e2=>hlr (Nat.eq_of_beq_eq_true e2))] at e;rw[if_neg hlr];cases hc:s.c with
  |nil=>rw[hc] at e;cases e
  |cons c r'=>
   rw[hc] at e;simp only[Cv] at e
   by_cases h1:c<s.n
   ·rw[if_pos (blt_iff.2 h1)] at e
    split at e
    ·rename_i h2;obtain⟨rfl,rfl⟩:=Prod.mk.inj (Option.some.inj e);simp only[Bool.and_eq_true] at h2;obtain⟨a1,a2,a3,a4⟩:=h2;have a1:=Nat.le_of_ble_eq_true a1;have a2:=Nat.eq_of_beq_eq_true a2;have a3:=Nat.eq_of_beq_eq_true a3;have a4:=Nat.eq_of_beq_eq_true a4;rw[h.lv] at a2;rw[h.lo] at a3;rw[h.hi] at a4;have hn:nd ns c=(lv,l,r):=Prod.ext a2 (Prod.ext a3 a4);have hcl:c<ns.length:=by rw[← h.n];exact h1
     have hx:∃ k,fdF (lv,l,r) (ns.drop 2) 2=some k:=by
      cases hf:fdF (lv,l,r) (ns.drop 2) 2 with
      |some k=>exact⟨k,rfl⟩
      |none=>
       refine absurd ?_ (fdF_none hf);refine List.mem_iff_getElem.2 ⟨c - 2,by rw[List.length_drop];omega,?_⟩;rw[List.getElem_drop];have:nd ns c=ns[c]:=by unfold nd List.getD;rw[List.getElem?_eq_getElem hcl];rfl
       rw[← hn,this];congr 1;omega
     obtain⟨k,hk⟩:=hx;obtain⟨b1,b2,b3⟩:=G7 hk;rw[List.length_drop] at b2;have ht:=h.w.two;have hnk:nd ns k=(lv,l,r):=by
      rw[List.getElem?_drop,show 2+(k - 2)=k by omega] at b3;unfold nd List.getD;rw[b3];rfl
     have:k=c:=h.w.un k c b1 qom a1 hcl (hnk.trans hn.symm);subst this;exact⟨ns,by rw[hk],⟨h.w,h.n,h.S,h.g,h.sm,h.B⟩⟩
    ·cases e
   ·rw[if_neg (fun e2=>h1 (blt_iff.1 e2))] at e
    split at e
    ·rename_i h2;simp only[Bool.and_eq_true,Bool.not_eq_true',blt_iff] at h2;obtain⟨a1,a2,a3,a4,a5,a6,a7⟩:=h2;have a1:=Nat.eq_of_beq_eq_true a1;rw[Iq,Iq,Iq] at e;obtain⟨rfl,rfl⟩:=Prod.mk.inj (Option.some.inj e);rw[h.lv] at a5 a6;rw[h.n] at a1 a2 a3 a4;have hnot:(lv,l,r)∉ns.drop 2:=fun hin=>by have:=h.B _ hin;rw[a7] at this;cases this
     have hf:fdF (lv,l,r) (ns.drop 2) 2=none:=by
      cases hf:fdF (lv,l,r) (ns.drop 2) 2 with
      |none=>rfl
      |some k=>
       obtain⟨b1,b2,b3⟩:=G7 hf;exact absurd (List.mem_of_getElem? b3) hnot
     refine⟨ns++[(lv,l,r)],by rw[hf];simp only[];rw[if_pos qom,a1],?_⟩;have hlv:=h.w.lvN a2;have hw:=wf_new h.w a2 a3 hlr qom a5 a6 hnot;have hlv2:lv<128:=by omega
     have hv:lv+128*(l+16384*r)<2 ^ 36:=by
      have:(2:Nat) ^ 36=68719476736:=by decide
      omega
     have hgn:∀ i,gN (Nat.lor s.S (Nat.shiftLeft (Nat.add lv (Nat.mul 128 (Nat.add l (Nat.mul 16384 r)))) (Nat.mul 36 s.n))) i=if i=s.n then lv+128*(l+16384*r) else if i<s.n then gN s.S i else 0:=fun i=>gN_new h.S hv i
     have hnd:∀ i,nd (ns++[(lv,l,r)]) i=if i=ns.length then (lv,l,r) else if i<ns.length then nd ns i else (0,0,0):=fun i=>by
      by_cases e1:i=ns.length
      ·subst e1;rw[if_pos rfl,nd_new]
      ·rw[if_neg e1]
       by_cases e2:i<ns.length
       ·rw[if_pos e2,Es (List.prefix_append _ _) e2]
       ·rw[if_neg e2];unfold nd List.getD;rw[List.getElem?_eq_none (by simp;omega)];rfl
     refine⟨hw,?_,?_,fun i=> ?_,fun i=> ?_,fun x hx=> ?_⟩
     ·show Nat.succ s.n=_;rw[h.n];simp
     ·show s.S|||(lv+128*(l+16384*r))<<<(36*s.n)<2 ^ (36*Nat.succ s.n)
      have h5:(2:Nat) ^ (36*Nat.succ s.n)=2 ^ 36*2 ^ (36*s.n):=by rw[← Nat.pow_add];congr 1;omega
      refine Nat.or_lt_two_pow (Nat.lt_of_lt_of_le h.S (Nat.pow_le_pow_right qde qom)) ?_;rw[Nat.shiftLeft_eq,h5];exact Nat.mul_lt_mul_of_pos_right hv (Nat.two_pow_pos _)
     ·rw[hgn,hnd,h.n]
      by_cases e1:i=ns.length
      ·rw[if_pos e1,if_pos e1];rfl
      ·rw[if_neg e1,if_neg e1]
       by_cases e2:i<ns.length
       ·rw[if_pos e2,if_pos e2];exact h.g i
       ·rw[if_neg e2,if_neg e2];rfl
     ·unfold lvl low hig;rw[hnd]
      by_cases e1:i=ns.length
      ·rw[if_pos e1];exact⟨hlv2,by show l<_;omega,by show r<_;omega⟩
      ·rw[if_neg e1]
       by_cases e2:i<ns.length
       ·rw[if_pos e2];exact h.sm i
       ·rw[if_neg e2];decide
     ·show (Nat.lor s.B (Nat.shiftLeft 1 (hsC lv l r))).testBit _=true;rw[tB_or];have ht:=h.w.two;rw[List.drop_append_of_le_length qom] at hx;rcases List.mem_append.1 hx with hx|hx
      ·rw[h.B x hx];rfl
      ·obtain rfl:=List.mem_singleton.1 hx;simp
    ·cases e
end
noncomputable def oC {α β:Type} (o:Option α) (f:α→β) (y:β):β:=Option.rec (motive:=fun _=>β) y f o
theorem oC_none {α β:Type}(f:α→β)(y:β):oC none f y=y:=rfl
abbrev Kc:=List (Nat × Nat)
noncomputable def lkC (l:Kc) (k:Nat):Option Nat:=List.rec (motive:=fun _=>Option Nat) none (fun e _ ih=>iB (Nat.beq e.1 k) (some e.2) ih) l
def Rk (kn:Kn) (kc:Kc):Prop:=∀ a b,b<16384→lkC kc (a*16384+b)=look kn (a,b)
theorem rk_nil:Rk [] []:=fun _ _ _=>rfl
theorem rk_put {kn:Kn}{kc:Kc}(h:Rk kn kc){a b:Nat}(hb:b<16384)(id:Nat):Rk (upsert kn (a,b) id) ((a*16384+b,id)::kc):=fun a' b' hb'=>by
 rw[Da];show iB (Nat.beq (a*16384+b) (a'*16384+b')) (some id) (lkC kc (a'*16384+b'))=_;rw[Cv]
 by_cases e:(a,b)=(a',b')
 ·obtain⟨rfl,rfl⟩:=Prod.mk.inj e;rw[if_pos (nbeq.2 U),if_pos rfl]
 ·rw[if_neg (fun e2=>e ?_),if_neg e]
  ·exact h a' b' hb'
  ·have:=nbeq.1 e2;rw[show a=a' by omega,show b=b' by omega]
noncomputable def miC (a b:Nat):Nat:=iB (Nat.ble a b) a b
theorem miC_eq (a b:Nat):miC a b=min a b:=by
 unfold miC;rw[Cv]
 by_cases h:a≤b
 ·rw[if_pos (Nat.ble_eq_true_of_le h),Nat.min_eq_left h]
 ·rw[if_neg (fun e=>h (Nat.le_of_ble_eq_true e)),Nat.min_eq_right qom]
abbrev ApT:=Kc→Fs→Nat→Nat→Option (Nat × Kc × Fs)
noncomputable def apB (e:Nat→Nat→Option Nat) (ih:ApT):ApT:=fun kc s a b=>
  fz a fun a=>fz b fun b=>oC (e a b) (fun id=>some (id,kc,s)) (iB (Nat.blt b 16384) (fz (Nat.add (Nat.mul a 16384) b) fun key=>oC (lkC kc key) (fun id=>some (id,kc,s))
   (fz (miC (lvC s a) (lvC s b)) fun lv=>bO (ih kc s (chC s a lv false) (chC s b lv false)) fun x=>bO (ih x.2.1 x.2.2 (chC x.2.2 a lv true) (chC x.2.2 b lv true)) fun y=>bO (mkC y.2.2 lv x.1 y.1) fun z=>some (z.1,(key,z.1)::y.2.1,z.2))) none)
noncomputable def apC (e:Nat→Nat→Option Nat) (k:Nat):ApT:=Nat.rec (motive:=fun _=>ApT) (fun _ _ _ _=>none) (fun _ ih=>apB e ih) k
theorem apC_succ (e:Nat→Nat→Option Nat)(k:Nat)(kc:Kc)(s:Fs)(a b:Nat):apC e (k+1) kc s a b=apB e (apC e k) kc s a b:=rfl
noncomputable def eOrC (a b:Nat):Option Nat:=iB (Nat.beq a 1||Nat.beq b 1) (some 1) (iB (Nat.beq a 0||Nat.beq a b) (some b) (iB (Nat.beq b 0) (some a) none))
noncomputable def eAndC (a b:Nat):Option Nat:=iB (Nat.beq a 0||Nat.beq b 0) (some 0) (iB (Nat.beq a 1||Nat.beq a b) (some b) (iB (Nat.beq b 1) (some a) none))
noncomputable def eNotC (a _b:Nat):Option Nat:=iB (Nat.beq a 0) (some 1) (iB (Nat.beq a 1) (some 0) none)
theorem eOr_C (a b:Nat):eOrC a b=eOr a b:=by unfold eOrC eOr;simp only[Cv,Bool.or_eq_true,nbeq]
theorem eAnd_C (a b:Nat):eAndC a b=eAnd a b:=by unfold eAndC eAnd;simp only[Cv,Bool.or_eq_true,nbeq]
theorem eNot_C (a b:Nat):eNotC a b=eNot a b:=by unfold eNotC eNot;simp only[Cv,nbeq]
section
variable {N most:Nat} {ns:Ns} {s:Fs}
theorem ap_sim (hm:16384≤most)(hN:N<128){e eC:Nat→Nat→Option Nat}(he:∀ a b,eC a b=e a b):∀ (k:Nat) {kn:Kn} {kc kc':Kc} {ns:Ns} {s s':Fs} {a b id:Nat},Rs N ns s→Rk kn kc→apC eC k kc s a b=some (id,kc',s')→∃ kn' ms,apF most e k kn ns a b=some (id,kn',ms)∧Rs N ms s'∧Rk kn' kc'
 |0,kn,kc,kc',ns,s,s',a,b,id,_,_,h=>by cases h
 |k+1,kn,kc,kc',ns,s,s',a,b,id,hs,hk,h=>by
  rw[apC_succ] at h;unfold apB at h;simp only[Iq] at h;rw[he] at h;rw[apF];cases h1:e a b with
  |some i=>
   rw[h1] at h;obtain⟨rfl,h2⟩:=Prod.mk.inj (Option.some.inj h);obtain⟨rfl,rfl⟩:=Prod.mk.inj h2;exact⟨kn,ns,rfl,hs,hk⟩
  |none=>
   rw[h1,oC_none] at h;simp only[]
   by_cases hb:b<16384
   ·rw[Cv,if_pos (blt_iff.2 hb),show Nat.add (Nat.mul a 16384) b=a*16384+b from rfl,hk a b hb] at h;cases h2:look kn (a,b) with
    |some i=>
     rw[h2] at h;obtain⟨rfl,h3⟩:=Prod.mk.inj (Option.some.inj h);obtain⟨rfl,rfl⟩:=Prod.mk.inj h3;exact⟨kn,ns,rfl,hs,hk⟩
    |none=>
     rw[h2,oC_none,miC_eq,hs.lv,hs.lv,hs.ch,hs.ch] at h;obtain⟨⟨l,kc1,s1⟩,h3,h⟩:=Bg h;obtain⟨kn1,ns1,f1,hs1,hk1⟩:=ap_sim hm hN he k hs hk h3;simp only[] at h;rw[hs1.ch,hs1.ch] at h;obtain⟨⟨r,kc2,s2⟩,h4,h⟩:=Bg h;obtain⟨kn2,ns2,f2,hs2,hk2⟩:=ap_sim hm hN he k hs1 hk1 h4;simp only[] at h;obtain⟨⟨i,s3⟩,h5,h⟩:=Bg h;obtain⟨ns3,f3,hs3⟩:=Fr hm hN hs2 h5;obtain⟨rfl,h6⟩:=Prod.mk.inj (Option.some.inj h);obtain⟨rfl,rfl⟩:=Prod.mk.inj h6;refine⟨_,ns3,?_,hs3,rk_put hk2 hb _⟩;simp only[f1,f2,f3]
   ·rw[Cv,if_neg (fun e2=>hb (blt_iff.1 e2))] at h;cases h
noncomputable def apCA (e:Nat→Nat→Option Nat) (N:Nat) (s:Fs) (a b:Nat):Option (Nat × Fs):=bO (apC e (N+1) [] s a b) fun x=>some (x.1,x.2.2)
theorem He (hm:16384≤most)(hN:N<128){e eC:Nat→Nat→Option Nat}(he:∀ a b,eC a b=e a b){s':Fs}{a b id:Nat}(hs:Rs N ns s)(h:apCA eC N s a b=some (id,s')):∃ ms,apA most e ns a b=some (id,ms)∧Rs N ms s':=by
 obtain⟨⟨i,kc,s1⟩,h1,h⟩:=Bg h;obtain⟨kn,ms,f,hs1,_⟩:=ap_sim hm hN he _ hs rk_nil h1;obtain⟨rfl,rfl⟩:=Prod.mk.inj (Option.some.inj h);refine⟨ms,?_,hs1⟩;unfold apA;rw[hs.w.lv0,f];rfl
noncomputable def sqC (N:Nat) (f:ApT) (kc:Kc) (s:Fs) (a b lv:Nat) (x z:Bool):Option (Nat × Kc × Fs):=
 bO (f kc s (chC s (chC s a lv x) (lv+1) false) (chC s (chC s b lv false) (lv+1) z)) fun p=>bO (f p.2.1 p.2.2 (chC p.2.2 (chC p.2.2 a lv x) (lv+1) true) (chC p.2.2 (chC p.2.2 b lv true) (lv+1) z)) fun q=>bO (apCA eOrC N q.2.2 p.1 q.1) fun r=>some (r.1,q.2.1,r.2)
noncomputable def rwC (N:Nat) (f:ApT) (kc:Kc) (s:Fs) (a b lv:Nat) (x:Bool):Option (Nat × Kc × Fs):=
 bO (sqC N f kc s a b lv x false) fun p=>bO (sqC N f p.2.1 p.2.2 a b lv x true) fun q=>bO (mkC q.2.2 (lv+1) p.1 q.1) fun r=>some (r.1,q.2.1,r.2)
noncomputable def seB (N:Nat) (ih:ApT):ApT:=fun kc s a b=>
 fz a fun a=>fz b fun b=>iB (Nat.beq a 0||Nat.beq b 0) (some (0,kc,s)) (iB (Nat.beq a 1&&Nat.beq b 1) (some (1,kc,s)) (iB (Nat.blt b 16384) (fz (Nat.add (Nat.mul a 16384) b) fun key=>oC (lkC kc key) (fun id=>some (id,kc,s))
  (fz (Nat.mul (Nat.div (miC (lvC s a) (lvC s b)) 2) 2) fun lv=>bO (rwC N ih kc s a b lv false) fun x=>bO (rwC N ih x.2.1 x.2.2 a b lv true) fun y=>bO (mkC y.2.2 lv x.1 y.1) fun z=>some (z.1,(key,z.1)::y.2.1,z.2))) none))
noncomputable def seC (N k:Nat):ApT:=Nat.rec (motive:=fun _=>ApT) (fun _ _ _ _=>none) (fun _ ih=>seB N ih) k
theorem seC_succ (N k:Nat)(kc:Kc)(s:Fs)(a b:Nat):seC N (k+1) kc s a b=seB N (seC N k) kc s a b:=rfl
def Sim (N:Nat) (fC:ApT) (f:Kn→Ns→Nat→Nat→Option (Nat × Kn × Ns)):Prop:=∀ (kn:Kn) (kc kc':Kc) (ns:Ns) (s s':Fs) (a b id:Nat),Rs N ns s→Rk kn kc→fC kc s a b=some (id,kc',s')→∃ kn' ms,f kn ns a b=some (id,kn',ms)∧Rs N ms s'∧Rk kn' kc'
theorem sq_sim (hm:16384≤most)(hN:N<128){fC:ApT}{f:Kn→Ns→Nat→Nat→Option (Nat × Kn × Ns)}(hf:Sim N fC f){kn:Kn}{kc kc':Kc}{s':Fs}{a b lv id:Nat}{x z:Bool}(hs:Rs N ns s)(hk:Rk kn kc)(h:sqC N fC kc s a b lv x z=some (id,kc',s')):∃ kn' ms,sqF most f kn ns a b lv x z=some (id,kn',ms)∧Rs N ms s'∧Rk kn' kc':=by
 unfold sqC at h;rw[hs.ch,hs.ch,hs.ch,hs.ch] at h;obtain⟨⟨p,kc1,s1⟩,h1,h⟩:=Bg h;obtain⟨kn1,ns1,f1,hs1,hk1⟩:=hf _ _ _ _ _ _ _ _ _ hs hk h1;simp only[] at h;rw[hs1.ch,hs1.ch,hs1.ch,hs1.ch] at h;obtain⟨⟨q,kc2,s2⟩,h2,h⟩:=Bg h;obtain⟨kn2,ns2,f2,hs2,hk2⟩:=hf _ _ _ _ _ _ _ _ _ hs1 hk1 h2;simp only[] at h;obtain⟨⟨r,s3⟩,h3,h⟩:=Bg h;obtain⟨ns3,f3,hs3⟩:=He hm hN eOr_C hs2 h3;obtain⟨rfl,h6⟩:=Prod.mk.inj (Option.some.inj h);obtain⟨rfl,rfl⟩:=Prod.mk.inj h6;refine⟨kn2,ns3,?_,hs3,hk2⟩;unfold sqF atD orF;simp only[f1,f2,f3];rfl
theorem rw_sim (hm:16384≤most)(hN:N<128){fC:ApT}{f:Kn→Ns→Nat→Nat→Option (Nat × Kn × Ns)}(hf:Sim N fC f){kn:Kn}{kc kc':Kc}{s':Fs}{a b lv id:Nat}{x:Bool}(hs:Rs N ns s)(hk:Rk kn kc)(h:rwC N fC kc s a b lv x=some (id,kc',s')):∃ kn' ms,rwF most f kn ns a b lv x=some (id,kn',ms)∧Rs N ms s'∧Rk kn' kc':=by
 unfold rwC at h;obtain⟨⟨p,kc1,s1⟩,h1,h⟩:=Bg h;obtain⟨kn1,ns1,f1,hs1,hk1⟩:=sq_sim hm hN hf hs hk h1;simp only[] at h;obtain⟨⟨q,kc2,s2⟩,h2,h⟩:=Bg h;obtain⟨kn2,ns2,f2,hs2,hk2⟩:=sq_sim hm hN hf hs1 hk1 h2;simp only[] at h;obtain⟨⟨r,s3⟩,h3,h⟩:=Bg h;obtain⟨ns3,f3,hs3⟩:=Fr hm hN hs2 h3;obtain⟨rfl,h6⟩:=Prod.mk.inj (Option.some.inj h);obtain⟨rfl,rfl⟩:=Prod.mk.inj h6;refine⟨kn2,ns3,?_,hs3,hk2⟩;unfold rwF;simp only[f1,f2,f3];rfl
theorem se_sim (hm:16384≤most)(hN:N<128):∀ k,Sim N (seC N k) (seF most k)
 |0=>fun _ _ _ _ _ _ _ _ _ _ _ h=>by cases h
 |k+1=>fun kn kc kc' ns s s' a b id hs hk h=>by
  rw[seC_succ] at h;unfold seB at h;simp only[Iq,Cv,Bool.or_eq_true,Bool.and_eq_true,nbeq] at h;rw[seF]
  by_cases c0:a=0∨b=0
  ·rw[if_pos c0] at h ⊢;obtain⟨rfl,h2⟩:=Prod.mk.inj (Option.some.inj h);obtain⟨rfl,rfl⟩:=Prod.mk.inj h2;exact⟨kn,ns,rfl,hs,hk⟩
  ·rw[if_neg c0] at h ⊢
   by_cases c1:a=1∧b=1
   ·rw[if_pos c1] at h ⊢;obtain⟨rfl,h2⟩:=Prod.mk.inj (Option.some.inj h);obtain⟨rfl,rfl⟩:=Prod.mk.inj h2;exact⟨kn,ns,rfl,hs,hk⟩
   ·rw[if_neg c1] at h ⊢
    by_cases hb:b<16384
    ·rw[if_pos (blt_iff.2 hb),show Nat.add (Nat.mul a 16384) b=a*16384+b from rfl,hk a b hb] at h;cases h2:look kn (a,b) with
     |some i=>
      rw[h2] at h;obtain⟨rfl,h3⟩:=Prod.mk.inj (Option.some.inj h);obtain⟨rfl,rfl⟩:=Prod.mk.inj h3;exact⟨kn,ns,rfl,hs,hk⟩
     |none=>
      rw[h2,oC_none,miC_eq,hs.lv,hs.lv] at h;have hlv:Nat.mul (Nat.div (min (lvl ns a) (lvl ns b)) 2) 2=min (lvl ns a) (lvl ns b) / 2*2:=rfl;rw[hlv] at h;obtain⟨⟨p,kc1,s1⟩,h3,h⟩:=Bg h;obtain⟨kn1,ns1,f1,hs1,hk1⟩:=rw_sim hm hN (se_sim hm hN k) hs hk h3;simp only[] at h;obtain⟨⟨q,kc2,s2⟩,h4,h⟩:=Bg h;obtain⟨kn2,ns2,f2,hs2,hk2⟩:=rw_sim hm hN (se_sim hm hN k) hs1 hk1 h4;simp only[] at h;obtain⟨⟨i,s3⟩,h5,h⟩:=Bg h;obtain⟨ns3,f3,hs3⟩:=Fr hm hN hs2 h5;obtain⟨rfl,h6⟩:=Prod.mk.inj (Option.some.inj h);obtain⟨rfl,rfl⟩:=Prod.mk.inj h6;refine⟨_,ns3,?_,hs3,rk_put hk2 hb _⟩;simp only[f1,f2,f3];rfl
    ·rw[if_neg (fun e2=>hb (blt_iff.1 e2))] at h;cases h
noncomputable def seCA (N:Nat) (s:Fs) (a b:Nat):Option (Nat × Fs):=bO (seC N (N+1) [] s a b) fun x=>some (x.1,x.2.2)
theorem seA_sim (hm:16384≤most)(hN:N<128){s':Fs}{a b id:Nat}(hs:Rs N ns s)(h:seCA N s a b=some (id,s')):∃ ms,seA most ns a b=some (id,ms)∧Rs N ms s':=by
 obtain⟨⟨i,kc,s1⟩,h1,h⟩:=Bg h;obtain⟨kn,ms,f,hs1,_⟩:=se_sim hm hN _ _ _ _ _ _ _ _ _ _ hs rk_nil h1;obtain⟨rfl,rfl⟩:=Prod.mk.inj (Option.some.inj h);refine⟨ms,?_,hs1⟩;unfold seA;rw[hs.w.lv0,f];rfl
abbrev FsT:=Fs→Nat→Option (Nat × Fs)
noncomputable def rlC (mk vl:Nat→Bool) (k:Nat):FsT:=Nat.rec (motive:=fun _=>FsT) (fun s id=>some (id,s)) (fun k ih s id=>
 bO (mkC s (2*k+1) id 0) fun z=>bO (mkC z.2 (2*k+1) 0 id) fun o=>iB (mk k) (iB (vl k) (ih o.2 o.1) (ih o.2 z.1)) (bO (mkC o.2 (2*k) z.1 o.1) fun r=>ih r.2 r.1)) k
noncomputable def stC (mk vl:Nat→Bool) (k:Nat):FsT:=Nat.rec (motive:=fun _=>FsT) (fun s id=>some (id,s)) (fun k ih s id=>
 iB (mk k) (iB (vl k) (bO (mkC s (2*k) 0 id) fun r=>ih r.2 r.1) (bO (mkC s (2*k) id 0) fun r=>ih r.2 r.1)) (ih s id)) k
theorem Ht (hm:16384≤most)(hN:N<128)(mk vl:Nat→Bool):∀ (k:Nat) {ns:Ns} {s s':Fs} {i id:Nat},Rs N ns s→rlC mk vl k s i=some (id,s')→∃ ms,rlF most mk vl k ns i=some (id,ms)∧Rs N ms s'
 |0,ns,s,s',i,id,hs,h=>by
  obtain⟨rfl,rfl⟩:=Prod.mk.inj (Option.some.inj h);exact⟨ns,rfl,hs⟩
 |k+1,ns,s,s',i,id,hs,h=>by
  have h:(bO (mkC s (2*k+1) i 0) fun z=>bO (mkC z.2 (2*k+1) 0 i) fun o=>iB (mk k) (iB (vl k) (rlC mk vl k o.2 o.1) (rlC mk vl k o.2 z.1)) (bO (mkC o.2 (2*k) z.1 o.1) fun r=>rlC mk vl k r.2 r.1))=some (id,s'):=h;obtain⟨⟨z,s1⟩,h1,h⟩:=Bg h;obtain⟨ns1,f1,hs1⟩:=Fr hm hN hs h1;obtain⟨⟨o,s2⟩,h2,h⟩:=Bg h;obtain⟨ns2,f2,hs2⟩:=Fr hm hN hs1 h2;rw[rlF];simp only[f1,f2];simp only[Cv] at h;cases hmk:mk k
  ·rw[hmk,if_neg (by simp)] at h;obtain⟨⟨r,s3⟩,h3,h⟩:=Bg h;obtain⟨ns3,f3,hs3⟩:=Fr hm hN hs2 h3;obtain⟨ms,f4,hs4⟩:=Ht hm hN mk vl k hs3 h;exact⟨ms,by simp only[if_true,f3];exact f4,hs4⟩
  ·rw[hmk,if_pos rfl] at h;cases hvl:vl k
   ·rw[hvl,if_neg (by simp)] at h;obtain⟨ms,f4,hs4⟩:=Ht hm hN mk vl k hs2 h;exact⟨ms,by simpa using f4,hs4⟩
   ·rw[hvl,if_pos rfl] at h;obtain⟨ms,f4,hs4⟩:=Ht hm hN mk vl k hs2 h;exact⟨ms,by simpa using f4,hs4⟩
theorem Je (hm:16384≤most)(hN:N<128)(mk vl:Nat→Bool):∀ (k:Nat) {ns:Ns} {s s':Fs} {i id:Nat},Rs N ns s→stC mk vl k s i=some (id,s')→∃ ms,stF most mk vl k ns i=some (id,ms)∧Rs N ms s'
 |0,ns,s,s',i,id,hs,h=>by
  obtain⟨rfl,rfl⟩:=Prod.mk.inj (Option.some.inj h);exact⟨ns,rfl,hs⟩
 |k+1,ns,s,s',i,id,hs,h=>by
  have h:iB (mk k) (iB (vl k) (bO (mkC s (2*k) 0 i) fun r=>stC mk vl k r.2 r.1) (bO (mkC s (2*k) i 0) fun r=>stC mk vl k r.2 r.1)) (stC mk vl k s i)=some (id,s'):=h;rw[stF];simp only[Cv] at h;cases hmk:mk k
  ·rw[hmk,if_neg (by simp)] at h;obtain⟨ms,f4,hs4⟩:=Je hm hN mk vl k hs h;exact⟨ms,by simpa using f4,hs4⟩
  ·rw[hmk,if_pos rfl] at h;cases hvl:vl k
   ·rw[hvl,if_neg (by simp)] at h;obtain⟨⟨r,s3⟩,h3,h⟩:=Bg h;obtain⟨ns3,f3,hs3⟩:=Fr hm hN hs h3;obtain⟨ms,f4,hs4⟩:=Je hm hN mk vl k hs3 h;exact⟨ms,by simp only[f3];simpa using f4,hs4⟩
   ·rw[hvl,if_pos rfl] at h;obtain⟨⟨r,s3⟩,h3,h⟩:=Bg h;obtain⟨ns3,f3,hs3⟩:=Fr hm hN hs h3;obtain⟨ms,f4,hs4⟩:=Je hm hN mk vl k hs3 h;exact⟨ms,by simp only[f3];simpa using f4,hs4⟩
noncomputable def srC (N r:Nat):FsT:=Nat.rec (motive:=fun _=>FsT) (fun _ _=>none) (fun _ ih s id=>bO (seCA N s id id) fun x=>iB (Nat.beq x.1 id) (some (id,x.2)) (ih x.2 x.1)) r
theorem sr_sim (hm:16384≤most)(hN:N<128):∀ (r:Nat) {ns:Ns} {s s':Fs} {i id:Nat},Rs N ns s→srC N r s i=some (id,s')→∃ ms,srF most r ns i=some (id,ms)∧Rs N ms s'
 |0,ns,s,s',i,id,hs,h=>by cases h
 |r+1,ns,s,s',i,id,hs,h=>by
  have h:(bO (seCA N s i i) fun x=>iB (Nat.beq x.1 i) (some (i,x.2)) (srC N r x.2 x.1))=some (id,s'):=h;obtain⟨⟨x,s1⟩,h1,h⟩:=Bg h;obtain⟨ns1,f1,hs1⟩:=seA_sim hm hN hs h1;rw[srF];simp only[f1];simp only[Cv,nbeq] at h
  by_cases e:x=i
  ·rw[if_pos e] at h ⊢;obtain⟨rfl,rfl⟩:=Prod.mk.inj (Option.some.inj h);exact⟨ns1,rfl,hs1⟩
  ·rw[if_neg e] at h ⊢;exact sr_sim hm hN r hs1 h
end
noncomputable def truC (N:Nat) (bs:List Nat):Pd→Fs→Option (Nat × Fs)
 | .tru,s=>some (1,s)
 | .eq f n,s=>stC (fun k=>mkP f f.w (gd bs k)) (fun k=>vlP f n f.w (gd bs k)) bs.length s 1
 | .no a,s=>bO (truC N bs a s) fun x=>apCA eNotC N x.2 x.1 x.1
 |_,_=>none
noncomputable def polC (N:Nat) (bs:List Nat) (r:Nat):Po→Fs→Option (Nat × Fs)
 | .fil p,s=>bO (truC N bs p s) fun x=>bO (rlC (fun _=>false) (fun _=>false) bs.length x.2 1) fun i=>apCA eAndC N i.2 x.1 i.1
 | .set f n,s=>rlC (fun k=>mkP f f.w (gd bs k)) (fun k=>vlP f n f.w (gd bs k)) bs.length s 1
 | .uni a b,s=>bO (polC N bs r a s) fun x=>bO (polC N bs r b x.2) fun y=>apCA eOrC N y.2 x.1 y.1
 | .seq a b,s=>bO (polC N bs r a s) fun x=>bO (polC N bs r b x.2) fun y=>seCA N y.2 x.1 y.1
 | .star a,s=>bO (polC N bs r a s) fun x=>bO (rlC (fun _=>false) (fun _=>false) bs.length x.2 1) fun i=>bO (apCA eOrC N i.2 i.1 x.1) fun o=>srC N r o.2 o.1
section
variable {N most:Nat} {ns:Ns} {s:Fs} {bs:List Nat}
theorem tru_sim (hm:16384≤most)(hN:N<128)(tick:Int):∀ (p:Pd) {ns:Ns} {s s':Fs} {id:Nat},Rs N ns s→truC N bs p s=some (id,s')→∃ ms,truF most bs tick p ns=some (id,ms)∧Rs N ms s'
 | .tru,ns,s,s',id,hs,h=>by
  obtain⟨rfl,rfl⟩:=Prod.mk.inj (Option.some.inj h);exact⟨ns,rfl,hs⟩
 | .eq f n,ns,s,s',id,hs,h=>Je hm hN _ _ _ hs h
 | .no a,ns,s,s',id,hs,h=>by
  have h:(bO (truC N bs a s) fun x=>apCA eNotC N x.2 x.1 x.1)=some (id,s'):=h;obtain⟨⟨x,s1⟩,h1,h⟩:=Bg h;obtain⟨ns1,f1,hs1⟩:=tru_sim hm hN tick a hs h1;obtain⟨ns2,f2,hs2⟩:=He hm hN eNot_C hs1 h;exact⟨ns2,by rw[truF,f1];exact f2,hs2⟩
 | .fls,_,_,_,_,_,h=>by cases h
 | .pre ..,_,_,_,_,_,h=>by cases h
 | .rng ..,_,_,_,_,_,h=>by cases h
 | .and ..,_,_,_,_,_,h=>by cases h
 | .or ..,_,_,_,_,_,h=>by cases h
 | .time ..,_,_,_,_,_,h=>by cases h
theorem C3 (hm:16384≤most)(hN:N<128)(tick:Int)(r:Nat):∀ (p:Po) {ns:Ns} {s s':Fs} {id:Nat},Rs N ns s→polC N bs r p s=some (id,s')→∃ ms,polF most bs tick r p ns=some (id,ms)∧Rs N ms s'
 | .fil p,ns,s,s',id,hs,h=>by
  have h:(bO (truC N bs p s) fun x=>bO (rlC (fun _=>false) (fun _=>false) bs.length x.2 1) fun i=>apCA eAndC N i.2 x.1 i.1)=some (id,s'):=h;obtain⟨⟨x,s1⟩,h1,h⟩:=Bg h;obtain⟨ns1,f1,hs1⟩:=tru_sim hm hN tick p hs h1;obtain⟨⟨i,s2⟩,h2,h⟩:=Bg h;obtain⟨ns2,f2,hs2⟩:=Ht hm hN _ _ _ hs1 h2;obtain⟨ns3,f3,hs3⟩:=He hm hN eAnd_C hs2 h;exact⟨ns3,by rw[polF,f1];show filF most bs ns1 x=_;unfold filF relF;simp only[f2];exact f3,hs3⟩
 | .set f n,ns,s,s',id,hs,h=>Ht hm hN _ _ _ hs h
 | .uni a b,ns,s,s',id,hs,h=>by
  have h:(bO (polC N bs r a s) fun x=>bO (polC N bs r b x.2) fun y=>apCA eOrC N y.2 x.1 y.1)=some (id,s'):=h;obtain⟨⟨x,s1⟩,h1,h⟩:=Bg h;obtain⟨ns1,f1,hs1⟩:=C3 hm hN tick r a hs h1;obtain⟨⟨y,s2⟩,h2,h⟩:=Bg h;obtain⟨ns2,f2,hs2⟩:=C3 hm hN tick r b hs1 h2;obtain⟨ns3,f3,hs3⟩:=He hm hN eOr_C hs2 h;exact⟨ns3,by rw[polF];simp only[f1,f2];exact f3,hs3⟩
 | .seq a b,ns,s,s',id,hs,h=>by
  have h:(bO (polC N bs r a s) fun x=>bO (polC N bs r b x.2) fun y=>seCA N y.2 x.1 y.1)=some (id,s'):=h;obtain⟨⟨x,s1⟩,h1,h⟩:=Bg h;obtain⟨ns1,f1,hs1⟩:=C3 hm hN tick r a hs h1;obtain⟨⟨y,s2⟩,h2,h⟩:=Bg h;obtain⟨ns2,f2,hs2⟩:=C3 hm hN tick r b hs1 h2;obtain⟨ns3,f3,hs3⟩:=seA_sim hm hN hs2 h;exact⟨ns3,by rw[polF];simp only[f1,f2];exact f3,hs3⟩
 | .star a,ns,s,s',id,hs,h=>by
  have h:(bO (polC N bs r a s) fun x=>bO (rlC (fun _=>false) (fun _=>false) bs.length x.2 1) fun i=>bO (apCA eOrC N i.2 i.1 x.1) fun o=>srC N r o.2 o.1)=some (id,s'):=h;obtain⟨⟨x,s1⟩,h1,h⟩:=Bg h;obtain⟨ns1,f1,hs1⟩:=C3 hm hN tick r a hs h1;obtain⟨⟨i,s2⟩,h2,h⟩:=Bg h;obtain⟨ns2,f2,hs2⟩:=Ht hm hN _ _ _ hs1 h2;obtain⟨⟨o,s3⟩,h3,h⟩:=Bg h;obtain⟨ns3,f3,hs3⟩:=He hm hN eOr_C hs2 h3;obtain⟨ns4,f4,hs4⟩:=sr_sim hm hN r hs3 h;refine⟨ns4,?_,hs4⟩;rw[polF];simp only[f1];unfold starF relF orF;simp only[f2,f3];exact f4
end
structure Sd where
 p:Nat
 qf:Option Addr
 nf:Nat
 cf:Nat
 qb:Option Addr
 cb:Nat
 bs:List Nat
 m:Nat
 most:Int
structure Sv where
 d:Sl
 es:List MapEntry
 c:Nat
abbrev encNd (x:Nd):List Value:=[.int .i64 (x.1:Nat), .int .i64 (x.2.1:Nat), .int .i64 (x.2.2:Nat)]
abbrev encNdK (x:Nd):Value:= .agg #[.int .i64 (x.1:Nat), .int .i64 (x.2.1:Nat), .int .i64 (x.2.2:Nat)]
abbrev encNI (x:Nat):Value:= .int .i64 (x:Nat)
def idL (ns:Ns):List (Nd × Nat):=((ns.drop 2).zipIdx 2)
abbrev sdC (D:Sd) (v:Sv) (ns:Ns):List Value:=[.slice D.qf D.nf D.cf, .slice D.qb D.bs.length D.cb,slV v.d ns.length, .map (some D.m), .int .i64 D.most]
def SM (D:Sd) (v:Sv) (ns:Ns):List (Nat × Obj):=(D.p,Cl (sdC D v ns) 92)::(slH v.d (ns.flatMap encNd) 97++[(D.m, .map v.es.toArray v.c)])
structure StOk (D:Sd) (v:Sv) (ns:Ns):Prop where
 sl:SlOk v.d ns.length 3
 es:Ents encNdK encNI v.es (idL ns)
 len:(ns.length:Int)≤D.most+2
 mo:0≤D.most∧D.most≤1000000
 w:Wf (2*D.bs.length) ns
 bl:D.bs.length≤160
theorem sm_cells {w0:World}{D:Sd}{v:Sv}{ns:Ns}:Cells w0 (SM D v ns) D.p 0 (sdC D v ns):=Aj (show Fnd (SM D v ns) D.p (Cl (sdC D v ns) 92) from Av)
theorem Ca {w0:World}{D:Sd}{v:Sv}{ns:Ns}{H:List (Nat × Obj)}{j:Nat}{u:Value}(hs:(SM D v ns).Sublist H)(hv:nth? (sdC D v ns) j=some u):Cell w0 H ⟨D.p,0+j,none⟩ u:=(sm_cells.mono hs) j u (I5 hv)
theorem Cw {w0:World}{D:Sd}{v:Sv}{ns:Ns}(h:StOk D v ns):Arr w0 (SM D v ns) (slQ v.d) 3 encNd ns:=by
 have:=Cz (w0:=w0) (e:=97) (X:=[(D.m, .map v.es.toArray v.c)]) (enc:=encNd) (l:=ns) (fun _=>rfl) h.sl;exact Arr.mono (H':=SM D v ns) this (List.sublist_cons_self _ _)
def b2i (b:Bool):Int:=if b then 1 else 0
theorem b2i_0 {b:Bool}:b2i b=0↔b=false:=by cases b<;>simp[b2i]
theorem ch_y {ns:Ns}{i lv:Nat}{b:Bool}(h:lvl ns i=lv):ch ns i lv b=if b then hig ns i else low ns i:=by unfold ch;rw[if_pos h]
theorem ch_n {ns:Ns}{i lv:Nat}{b:Bool}(h: ¬ lvl ns i=lv):ch ns i lv b=i:=by unfold ch;rw[if_neg h]
theorem Dx {w0:World}{H:List (Nat × Obj)}{D:Sd}{v:Sv}{ns:Ns}(hm:(SM D v ns).Sublist H)(hst:StOk D v ns)(i lv:Nat)(b:Bool)(hi:i<ns.length):
  FSpec Tryz.prog w0 52 #[.pointer (some ⟨D.p,0,none⟩), .int .i64 (i:Nat), .int .i64 (lv:Nat), .int .i64 (b2i b)] H (Still (.int .i64 (ch ns i lv b:Nat)) H):=by
 refine Aq Tryz.func52 U ntmps52 U (rD tb 10 U (y_ (Kf U isAgg90 (by first|exact c_o|exact Ca (List.Sublist.trans hm sbt) U)) ?_ U));refine rO tb 1 U (y_ (Kh U U runUnderlying90 sizeOf97 qom (by first|exact rfl|exact(Cw (w0:=w0) hst).b (i:=i) hi)) ?_ U);refine y_ (Kg U isAgg97 sizeOf97 U (by first|exact((Cw hst).mono (List.Sublist.trans hm sbt)).cs (i:=i) qom|exact Ay)) ?_ U;refine e_ (Al zeroValue97 cs_) ?_ U;rintro _ _ ⟨n9,rfl,rfl⟩
 first|refine A2 (Ki U U sizeOf97) U Ad ?_
 rintro _ _ ⟨rfl,rfl⟩;refine rO tb 7 U (y_ (Kf U isAgg3 (by first|exact c_o)) ?_ U);refine rO tb 5 U ?_
 first|refine Ac (Aa U) (fun c17=> ?_) (fun c17=> ?_)|refine Af (Aa U) (fun c17=> ?_) (fun c17=> ?_)
 ·refine rC tb 9 U (Ah U (Ke U) ?_);exact⟨_,⟨vint (by have h:=ch_n (ns:=ns) (i:=i) (lv:=lv) (b:=b) (fun e=>c17 (by show ((lvl ns i:Nat):Int)=_;rw[e]));rw[h]),rfl⟩,sbt⟩
 ·refine rC tb 7 U ?_
  first|refine Ac (Aa U) (fun c23=> ?_) (fun c23=> ?_)|refine Af (Aa U) (fun c23=> ?_) (fun c23=> ?_)
  ·refine rC tb 3 U (y_ (Kf U isAgg3 (by first|exact c_o)) ?_ U);refine rO tb 6 U (Ah U (Ke U) ?_);exact⟨_,⟨vint (by have h:=ch_y (ns:=ns) (i:=i) (lv:=lv) (b:=b) (by have:((lvl ns i:Nat):Int)=lv:=Classical.not_not.1 c17;omega);rw[h,b2i_0.1 c23];rfl),rfl⟩,sbt⟩
  ·refine rC tb 6 U (y_ (Kf U isAgg3 (by first|exact c_o)) ?_ U);refine rO tb 4 U (Ah U (Ke U) ?_);have h:=ch_y (ns:=ns) (i:=i) (lv:=lv) (b:=b) (by have:((lvl ns i:Nat):Int)=lv:=Classical.not_not.1 c17;omega);have hb:b=true:=by simpa using fun e=>c23 (b2i_0.2 e)
   exact⟨_,⟨vint (by rw[h,hb];rfl),rfl⟩,sbt⟩
theorem len_s {w0:World}{H:List (Nat × Obj)}{D:Sd}{v:Sv}{ns:Ns}(hm:(SM D v ns).Sublist H)(hst:StOk D v ns)  :
  FSpec Tryz.prog w0 32 #[.pointer (some ⟨D.p,0,none⟩)] H (Still (.int .i64 ((ns.length:Int) - 2)) H):=by
 refine Aq Tryz.func32 U ntmps32 U ?_;have hl:=hst.len;have ht:=hst.w.two;have hmo:=hst.mo;refine rD tb 10 U (y_ (Kf U isAgg90 (by first|exact c_o|exact Ca (List.Sublist.trans hm sbt) U)) ?_ U);refine rO tb 1 U (y_ (Ih (T U) Ak qom) ?_ U);refine rO tb 4 U (Ah U (Ke U) ?_);exact⟨_,⟨rfl,rfl⟩,sbt⟩
theorem zbd148_z  (w:World):(Instr.build 148 #[]).run Tryz.prog w= .ok (.agg #[]) w:=by kernel_rfl
theorem zbd97_0_1_2 (a0:Int)(a1:Int)(a2:Int)(w:World):(Instr.build 97 #[(0, .int .i64 a0),(1, .int .i64 a1),(2, .int .i64 a2)]).run Tryz.prog w= .ok (.agg #[.int .i64 a0, .int .i64 a1, .int .i64 a2]) w:=by kernel_rfl
theorem zbs90_1_0 (a0:Int)(a1:Int)(a2:Int)(w:World):(Instr.buildSlice 90 1 #[(0, .agg #[.int .i64 a0, .int .i64 a1, .int .i64 a2])]).run Tryz.prog w= .ok (.slice (some ⟨w.heap.size,0,none⟩) 1 1) (w.alloc (Cl [.int .i64 a0, .int .i64 a1, .int .i64 a2] 97)):=by kernel_rfl
theorem mixd:Tryz.prog.follows .mixedOrders=true:=by kernel_rfl
theorem eqNd (a b:Nd)(w:World):(Op.equal 97 (encNdK a) (encNdK b)).run Tryz.prog w= .ok (decide (b=a)) w:=by
 unfold Op.equal Op.maxDepth;rw[run_equalIn_struct w 9999 97 _ _ qkr qkr];simp[go_sem,Program.fieldsOf,underlying97,Op.eqFields];obtain⟨a1,a2,a3⟩:=a;obtain⟨b1,b2,b3⟩:=b
 by_cases h:b1=a1<;>by_cases h2:b2=a2<;>by_cases h3:b3=a3<;>simp[h,h2,h3]<;>(intros;omega)
theorem keyNd {V:Type}:KeyG (V:=V) Tryz.prog 97 encNdK:=keyG_ask runUnderlying97 (fun b k w=>by cases b<;>kernel_rfl) (fun k k'=>by simp[Instr.sameNow]) eqNd
theorem look_zip {n:Nd}:∀ (r:Ns) (k:Nat),look (r.zipIdx k) n=fdF n r k
 |[],_=>rfl
 |x::r,k=>by rw[List.zipIdx_cons,C9,fdF,look_zip r (k+1)]
theorem look_id (ns:Ns)(n:Nd):look (idL ns) n=fdF n (ns.drop 2) 2:=look_zip _ _
theorem id_new {ns:Ns}(h:2≤ns.length)(n:Nd):idL (ns++[n])=idL ns++[(n,ns.length)]:=by
 unfold idL;rw[List.drop_append_of_le_length h,List.zipIdx_append];simp;omega
theorem Gt (D:Sd)(v:Sv)(ns:Ns)(R:List (Nat × Obj)):SM D v ns++R=(D.p,Cl (sdC D v ns) 92)::(slH v.d (ns.flatMap encNd) 97++((D.m, .map v.es.toArray v.c)::R)):=by unfold SM;simp
theorem I0 {D:Sd}{v:Sv}{ns:Ns}{R:List (Nat × Obj)}:(SM D v ns).Sublist ((D.p,Cl (sdC D v ns) 92)::(slH v.d (ns.flatMap encNd) 97++((D.m, .map v.es.toArray v.c)::R))):=by
 rw[← Gt];exact List.sublist_append_left _ _
theorem yl_mkIface {P:Program}{w0:World}{L:Fm}{H:List (Nat × Obj)}{ty t:TypeId}{x:Operand}{v:Value}(hx:Ev L x v)(h:∀ w,(Instr.makeInterface t v).run P w= .ok (.iface t v) w):Yl P w0 (.makeInterface t x) ty L H (.iface t v):=Ba U fun b w=>by
 simp[exO,execOp,hx b,h,Sem.run_bind,Result.andThen]
theorem effP_panic {P:Program}{w0:World}{L:Fm}{H:List (Nat × Obj)}{ty t:TypeId}{x:Operand}{v:Value}{K:Value→List (Nat × Obj)→Prop}{B:List (Nat × Obj)→Prop}(hx:Ev L x (.iface t v))(hB:B H):EffP P w0 (.panic x) ty L H K (.iface t v) B:=⟨rfl,fun b w hO=>by
 have:(exO (ev (lk L b)) (.panic x) ty).run P w= .halt (.panic (.iface t v)) w:=by
  have h1:(Instr.panic (.iface t v)).run P w= .halt (.panic (.iface t v)) w:=rfl;simp[exO,execOp,hx b,h1,Sem.run_bind,Result.andThen]
 rw[this];exact⟨rfl,H,hO,hB⟩⟩
theorem mkF_full {most:Nat}{ns:Ns}{lv l h:Nat}(hlh: ¬ l=h)(hn:look (idL ns) (lv,l,h)=none)(hm: ¬ ns.length - 2<most):mkF most ns lv l h=none:=by
 unfold mkF;rw[if_neg hlh,← look_id,hn];simp only[];rw[if_neg hm]
theorem mkF_new {most:Nat}{ns:Ns}{lv l h:Nat}(hlh: ¬ l=h)(hn:look (idL ns) (lv,l,h)=none)(hm:ns.length - 2<most):mkF most ns lv l h=some (ns.length,ns++[(lv,l,h)]):=by
 unfold mkF;rw[if_neg hlh,← look_id,hn];simp only[];rw[if_pos hm]
theorem mkF_old {most:Nat}{ns:Ns}{lv l h k:Nat}(hlh: ¬ l=h)(hk:look (idL ns) (lv,l,h)=some k):mkF most ns lv l h=some (k,ns):=by
 unfold mkF;rw[if_neg hlh,← look_id,hk]
theorem st_new {D:Sd}{v:Sv}{ns:Ns}(hst:StOk D v ns){lv l h:Nat}(hlh: ¬ l=h)(hn:look (idL ns) (lv,l,h)=none)(hm:ns.length - 2<D.most.toNat)(hl:l<ns.length)(hh:h<ns.length)(hN:lv<2*D.bs.length)(h1:lv<lvl ns l)(h2:lv<lvl ns h){d':Sl}(hd:SlOk d' (ns.length+1) 3):StOk D ⟨d',v.es++[({key:=encNdK (lv,l,h),val:=encNI ns.length,born:=v.c}:MapEntry)],v.c+1⟩ (ns++[(lv,l,h)]):=by
 have hmo:=hst.mo;have ht:=hst.w.two;have hlen:(ns++[(lv,l,h)]).length=ns.length+1:=by simp
 refine⟨by rw[hlen];exact hd,by rw[id_new ht];exact hst.es.snoc _ _ _,by rw[hlen];omega,hmo,(Ek hst.w hl hh hN h1 h2 (mkF_new hlh hn hm)).1.w,hst.bl⟩
abbrev OpK (D:Sd) (F:Option (Nat × Ns)) (R:List (Nat × Obj)):Value→List (Nat × Obj)→Prop:=fun u H'=>∃ x:Nat × Sv × Ns,(u= .int .i64 (x.1:Nat)∧F=some (x.1,x.2.2)∧StOk D x.2.1 x.2.2)∧H'=SM D x.2.1 x.2.2++R
abbrev OpB (D:Sd) (F:Option (Nat × Ns)) (ns:Ns) (R:List (Nat × Obj)):List (Nat × Obj)→Prop:=fun H'=>∃ y:Sv × Ns,(F=none∧Gr (2*D.bs.length) ns y.2∧StOk D y.1 y.2)∧H'=SM D y.1 y.2++R
theorem Ft {w0:World}{D:Sd}{v:Sv}{ns:Ns}(hst:StOk D v ns)(R:List (Nat × Obj))(lv l h:Nat)(hl:l<ns.length)(hh:h<ns.length)(hN:lv<2*D.bs.length)(h1:lv<lvl ns l)(h2:lv<lvl ns h):
  FSpecP Tryz.prog w0 75 #[.pointer (some ⟨D.p,0,none⟩), .int .i64 (lv:Nat), .int .i64 (l:Nat), .int .i64 (h:Nat)] (SM D v ns++R) (OpK D (mkF D.most.toNat ns lv l h) R) (.iface 148 (.agg #[])) (OpB D (mkF D.most.toNat ns lv l h) ns R):=by
 refine Bt Tryz.func75 U ntmps75 U ?_;rw[Gt];have hle:=hst.len;have hmo:=hst.mo;have ht:=hst.w.two;refine rD tb 13 U ?_
 first|refine Ac (Aa U) (fun c14=> ?_) (fun c14=> ?_)|refine Af (Aa U) (fun c14=> ?_) (fun c14=> ?_)
 ·refine rC tb 8 U (B0 U (Ke U) ?_);exact⟨_,⟨(l,v,ns),⟨rfl,by unfold mkF;rw[if_pos qom],hst⟩,(Gt ..).symm⟩,sbt⟩
 ·have hlh: ¬ l=h:=fun e=>c14 (by rw[e])
  refine rC tb 7 U (y_ (A4 (.cons (T U) (.cons (T U) (.cons (T U) .nil))) (zbd97_0_1_2 _ _ _)) (e_ (Al zeroValue97 cs_) ?_ U) U);rintro _ _ ⟨n9,rfl,rfl⟩
  first|refine A2 (Ki U U sizeOf97) U Ad ?_
  rintro _ _ ⟨rfl,rfl⟩;refine rO tb 3 U (Bo 11 [(0,true),(1,true),(2,true),(3,true),(4,true),(5,true),(6,true),(7,true),(8,true),(9,true),(10,true)] _ mixd qkr sb0 ?_ B8);refine rP tb 3 U (o_y U (Kf U isAgg89 (by first|exact c_o|exact Ca (List.Sublist.trans I0 sbt) U)) ?_ U Ad);refine o_y U (Kg U isAgg97 sizeOf97 U (by first|exact Ay)) ?_ U Ad;refine o_y U (yl_lookupG (l:=idL ns) (k:=(lv,l,h)) keyNd hst.es (T U) (T U) U runUnderlying89 zeroValue3 (by exact Fnd.mono (Av (H:=_)) sbt)) ?_ U Ad;refine rP tb 5 U (Bb U (rO tb 6 U ?_))
  first|refine Ax (Bs (T U)) U Ad ?_|refine Ax (B9 (T U)) U Ad ?_
  refine rO tb 2 U ?_
  first|refine Ac (Aa U) (fun c30=> ?_) (fun c30=> ?_)|refine Af (Aa U) (fun c30=> ?_) (fun c30=> ?_)
  ·have hn:look (idL ns) (lv,l,h)=none:=by simpa using c30
   refine rC tb 2 U (Bo 7 [(0,true),(1,true),(2,true),(3,true),(4,true),(5,true),(6,true)] _ mixd qkr sb0 ?_ B8);refine rP tb 1 U (o_y U (An (qe1 U) call32 (fun H' hs=>len_s (D:=D) (v:=v) (ns:=ns) (List.Sublist.trans (List.Sublist.trans I0 sbt) hs) hst)) (rP tb 3 U (o_y U (Kf U isAgg3 (by first|exact c_o|exact Ca (List.Sublist.trans I0 sbt) U)) ?_ U Ad)) U Ad);refine rP tb 1 U (Bb U (kO tb 2 [0,9,37] rfl U ?_))
   first|refine Ac (Aa U) (fun c37=> ?_) (fun c37=> ?_)|refine Af (Aa U) (fun c37=> ?_) (fun c37=> ?_)
   ·refine rC tb 1 U (y_ (A4 .nil (zbd148_z)) (y_ (yl_mkIface (T U) (fun _=>rfl)) (p_ (effP_panic (K:=fun _ _=>False) (B:=fun H9=>H9=_) (T U) U) (fun _ _ h=>h.elim) ?_ U) U) U);rintro _ rfl
    repeat refine Cd ?_
    exact Bn ⟨(v,ns),⟨mkF_full hlh hn qom, .refl hst.w,hst⟩,(Gt ..).symm⟩ sbt
   ·refine rC tb 7 U (y_ (Kf U isAgg90 (by first|exact c_o|exact Ca (List.Sublist.trans I0 sbt) U)) ?_ U);refine rO tb 5 U (Bo 10 [(0,true),(1,true),(2,true),(3,true),(4,true),(5,true),(6,false),(7,false),(8,true),(9,true)] ((n9,Cl (encNd (lv,l,h)) 97)::(D.p,Cl (sdC D v ns) 92)::R) mixd qkr (by exact sbt) ?_ B8);refine rP tb 4 U (o_y U (Kf U isAgg90 (by first|exact c_o|exact Ca (List.Sublist.trans I0 sbt) U)) ?_ U Ad);refine o_y U (Kg U isAgg97 sizeOf97 U (by first|exact Ay)) ?_ U Ad;refine o_e U (Bf (.cons (T U) .nil) (zbs90_1_0 _ _ _)) ?_ U Ad;rintro _ _ ⟨n51,rfl,rfl⟩;refine⟨sbt,(o_e U (Cu ((lv,l,h)) (by':=24) qlc (T U) (T U) runUnderlying90 runUnderlying90 sizeOf97 typeInfo97 U zeroValue97 U (fun _=>rfl) U hst.sl qde qom) ?_ U Ad)⟩;rintro _ _ ⟨d',rfl,hok',rfl⟩;refine⟨sbt,(rP tb 2 U (Bb U ?_))⟩
    first|refine A2 (Ki U U sizeOf90) U Ad ?_|refine A2 (B4 (T U) (T U) U sizeOf90) U Ad ?_|refine A2 (Be (T U) (T U) U sizeOf90) U Ad ?_
    rintro _ _ ⟨rfl,rfl⟩;refine rO tb 2 U (Bo 6 [(0,true),(1,true),(2,true),(3,true),(4,true),(5,true)] _ mixd qkr sb0 ?_ B8);refine rP tb 3 U (o_y U (Kf U isAgg89 (by first|exact c_o|exact Ca (List.Sublist.trans I0 sbt) U)) ?_ U Ad);refine o_y U (Kg U isAgg97 sizeOf97 U (by first|exact Ay)) ?_ U Ad;refine rP tb 1 U (Bb U (e_ (eff_mapNewG (lv,l,h) ns.length keyNd hst.es hn (T U) (T U) U (T U) U runUnderlying89 (by(repeat (first|exact Upd.h|apply Upd.t|apply Ci));done)) ?_ U));rintro _ _ ⟨rfl,rfl⟩;refine rO tb 9 U (B0 U (Ke U) ?_);exact⟨_,⟨(ns.length,⟨d',_,_⟩,ns++[(lv,l,h)]),⟨rfl,mkF_new hlh hn qom,st_new hst hlh hn qom hl hh hN h1 h2 hok'⟩,rfl⟩,by rw[Gt];show ((D.p,Cl [_,_,slV d' (ns++[(lv,l,h)]).length,_,_] 92)::_).Sublist _;rw[List.length_append];exact sbt⟩
  ·obtain⟨k,hk⟩:∃ k,look (idL ns) (lv,l,h)=some k:=Option.isSome_iff_exists.1 (by simpa using c30);refine rC tb 9 U (B0 U (Ke U) ?_);exact⟨_,⟨(k,v,ns),⟨by show resOf [((look (idL ns) (lv,l,h)).map encNI).getD _]=_;rw[hk];rfl,mkF_old hlh hk,hst⟩,(Gt ..).symm⟩,sbt⟩
def e2i:Option Nat→Int
 |none=> -1
 |some x=>(x:Int)
theorem e2i_some {o:Option Nat}(h:0≤e2i o):∃ x,o=some x:=by cases o with
 |none=>simp[e2i] at h
 |some x=>exact⟨x,rfl⟩
theorem e2i_none {o:Option Nat}(h: ¬ 0≤e2i o):o=none:=by cases o with
 |none=>rfl
 |some x=>exact(h (by simp[e2i])).elim
theorem yl_minN {P:Program}{w0:World}{L:Fm}{H:List (Nat × Obj)}{ty:TypeId}{x y:Operand}{a c:Nat}(hx:Ev L x (.int .i64 (a:Nat)))(hy:Ev L y (.int .i64 (c:Nat))){ts:Array TypeId}:Yl P w0 (.call {callee:= .builtin .min,args:= #[x,y],argTypes:=ts}) ty L H (.int .i64 ((min a c:Nat):Int)):=by
 have h:=yl_min (P:=P) (w0:=w0) (H:=H) (ty:=ty) (ts:=ts) hx hy
 rwa [show min (a:Int) (c:Int)=((min a c:Nat):Int) by omega] at h
abbrev encPr (x:Nat × Nat):Value:= .agg #[.int .i64 (x.1:Nat), .int .i64 (x.2:Nat)]
theorem eqPr (a b:Nat × Nat)(w:World):(Op.equal 101 (encPr a) (encPr b)).run Tryz.prog w= .ok (decide (b=a)) w:=by
 unfold Op.equal Op.maxDepth;rw[run_equalIn_struct w 9999 101 _ _ qkr qkr];simp[go_sem,Program.fieldsOf,underlying101,Op.eqFields];obtain⟨a1,a2⟩:=a;obtain⟨b1,b2⟩:=b
 by_cases h:b1=a1<;>by_cases h2:b2=a2<;>simp[h,h2]<;>(intros;omega)
theorem keyPr {V:Type}:KeyOk (V:=V) Tryz.prog 101 encPr:=keyOk_ask runUnderlying101 (fun b k w=>by cases b<;>kernel_rfl) (fun k k'=>by simp[Instr.sameNow]) eqPr (fun k=>by simp[Instr.sameBits])
theorem orE_s {w0:World}{H:List (Nat × Obj)}(a b:Nat):
  FSpec Tryz.prog w0 112 #[.int .i64 (a:Nat), .int .i64 (b:Nat)] H (Still (.int .i64 (e2i (eOr a b))) H):=by
 refine Aq Tryz.func112 U ntmps112 U (rD tb 12 U ?_)
 first|refine Am (s:=8) (Aa U) (fun c8=> ?_) (fun c8=> ?_)|refine Aw (s:=8) (Aa U) (fun c8=> ?_) (fun c8=> ?_)
 ·refine rO tb 15 U (Ah U (Ke U) (⟨_,⟨vint ?_,rfl⟩,sbt⟩));unfold eOr
  repeat (first|rw[if_pos qom]|rw[if_neg qom])
  simp only[e2i]
  try omega
 ·refine rO tb 6 U ?_
  first|refine Ac (Aa U) (fun c5=> ?_) (fun c5=> ?_)|refine Af (Aa U) (fun c5=> ?_) (fun c5=> ?_)
  ·refine rC tb 8 U (Ah U (Ke U) (⟨_,⟨vint ?_,rfl⟩,sbt⟩));unfold eOr
   repeat (first|rw[if_pos qom]|rw[if_neg qom])
   simp only[e2i]
   try omega
  ·refine rC tb 5 U ?_
   first|refine Am (s:=15) (Aa U) (fun c15=> ?_) (fun c15=> ?_)|refine Aw (s:=15) (Aa U) (fun c15=> ?_) (fun c15=> ?_)
   ·refine rO tb 17 U (Ah U (Ke U) (⟨_,⟨vint ?_,rfl⟩,sbt⟩));unfold eOr
    repeat (first|rw[if_pos qom]|rw[if_neg qom])
    simp only[e2i]
    try omega
   ·refine rO tb 7 U ?_
    first|refine Ac (Aa U) (fun c12=> ?_) (fun c12=> ?_)|refine Af (Aa U) (fun c12=> ?_) (fun c12=> ?_)
    ·refine rC tb 9 U (Ah U (Ke U) (⟨_,⟨vint ?_,rfl⟩,sbt⟩));unfold eOr
     repeat (first|rw[if_pos qom]|rw[if_neg qom])
     simp only[e2i]
     try omega
    ·refine rC tb 7 U ?_
     first|refine Ac (Aa U) (fun c21=> ?_) (fun c21=> ?_)|refine Af (Aa U) (fun c21=> ?_) (fun c21=> ?_)
     ·refine rC tb 9 U (Ah U (Ke U) (⟨_,⟨vint ?_,rfl⟩,sbt⟩));unfold eOr
      repeat (first|rw[if_pos qom]|rw[if_neg qom])
      simp only[e2i]
      try omega
     ·refine rC tb 9 U (Ah U (Ke U) (⟨_,⟨vint ?_,rfl⟩,sbt⟩));unfold eOr
      repeat (first|rw[if_pos qom]|rw[if_neg qom])
      simp only[e2i]
      try omega
theorem andE_s {w0:World}{H:List (Nat × Obj)}(a b:Nat):
  FSpec Tryz.prog w0 155 #[.int .i64 (a:Nat), .int .i64 (b:Nat)] H (Still (.int .i64 (e2i (eAnd a b))) H):=by
 refine Aq Tryz.func155 U ntmps155 U (rD tb 12 U ?_)
 first|refine Am (s:=8) (Aa U) (fun c8=> ?_) (fun c8=> ?_)|refine Aw (s:=8) (Aa U) (fun c8=> ?_) (fun c8=> ?_)
 ·refine rO tb 15 U (Ah U (Ke U) (⟨_,⟨vint ?_,rfl⟩,sbt⟩));unfold eAnd
  repeat (first|rw[if_pos qom]|rw[if_neg qom])
  simp only[e2i]
  try omega
 ·refine rO tb 6 U ?_
  first|refine Ac (Aa U) (fun c5=> ?_) (fun c5=> ?_)|refine Af (Aa U) (fun c5=> ?_) (fun c5=> ?_)
  ·refine rC tb 8 U (Ah U (Ke U) (⟨_,⟨vint ?_,rfl⟩,sbt⟩));unfold eAnd
   repeat (first|rw[if_pos qom]|rw[if_neg qom])
   simp only[e2i]
   try omega
  ·refine rC tb 5 U ?_
   first|refine Am (s:=15) (Aa U) (fun c15=> ?_) (fun c15=> ?_)|refine Aw (s:=15) (Aa U) (fun c15=> ?_) (fun c15=> ?_)
   ·refine rO tb 17 U (Ah U (Ke U) (⟨_,⟨vint ?_,rfl⟩,sbt⟩));unfold eAnd
    repeat (first|rw[if_pos qom]|rw[if_neg qom])
    simp only[e2i]
    try omega
   ·refine rO tb 7 U ?_
    first|refine Ac (Aa U) (fun c12=> ?_) (fun c12=> ?_)|refine Af (Aa U) (fun c12=> ?_) (fun c12=> ?_)
    ·refine rC tb 9 U (Ah U (Ke U) (⟨_,⟨vint ?_,rfl⟩,sbt⟩));unfold eAnd
     repeat (first|rw[if_pos qom]|rw[if_neg qom])
     simp only[e2i]
     try omega
    ·refine rC tb 7 U ?_
     first|refine Ac (Aa U) (fun c21=> ?_) (fun c21=> ?_)|refine Af (Aa U) (fun c21=> ?_) (fun c21=> ?_)
     ·refine rC tb 9 U (Ah U (Ke U) (⟨_,⟨vint ?_,rfl⟩,sbt⟩));unfold eAnd
      repeat (first|rw[if_pos qom]|rw[if_neg qom])
      simp only[e2i]
      try omega
     ·refine rC tb 9 U (Ah U (Ke U) (⟨_,⟨vint ?_,rfl⟩,sbt⟩));unfold eAnd
      repeat (first|rw[if_pos qom]|rw[if_neg qom])
      simp only[e2i]
      try omega
theorem notE_s {w0:World}{H:List (Nat × Obj)}(a b:Nat):
  FSpec Tryz.prog w0 169 #[.int .i64 (a:Nat), .int .i64 (b:Nat)] H (Still (.int .i64 (e2i (eNot a b))) H):=by
 refine Aq Tryz.func169 U ntmps169 U (rD tb 18 U ?_)
 first|refine Ac (Aa U) (fun c6=> ?_) (fun c6=> ?_)|refine Af (Aa U) (fun c6=> ?_) (fun c6=> ?_)
 ·refine rC tb 8 U (Ah U (Ke U) (⟨_,⟨vint ?_,rfl⟩,sbt⟩));unfold eNot
  repeat (first|rw[if_pos qom]|rw[if_neg qom])
  simp only[e2i]
  try omega
 ·refine rC tb 6 U ?_
  first|refine Ac (Aa U) (fun c8=> ?_) (fun c8=> ?_)|refine Af (Aa U) (fun c8=> ?_) (fun c8=> ?_)
  ·refine rC tb 8 U (Ah U (Ke U) (⟨_,⟨vint ?_,rfl⟩,sbt⟩));unfold eNot
   repeat (first|rw[if_pos qom]|rw[if_neg qom])
   simp only[e2i]
   try omega
  ·refine rC tb 9 U (Ah U (Ke U) (⟨_,⟨vint ?_,rfl⟩,sbt⟩));unfold eNot
   repeat (first|rw[if_pos qom]|rw[if_neg qom])
   simp only[e2i]
   try omega
theorem Fc (a0:Int)(a1:Int)(w:World):(Instr.build 101 #[(0, .int .i64 a0),(1, .int .i64 a1)]).run Tryz.prog w= .ok (.agg #[.int .i64 a0, .int .i64 a1]) w:=by kernel_rfl
theorem Bw {e:Nat × Obj}{M X:List (Nat × Obj)}:LocL (e::(M++X)) (e::M) X (fun M'=>M'++X):=LocL.h (M:=e::M)
theorem apF_e {most:Nat}{e:Nat→Nat→Option Nat}{k:Nat}{kn:Kn}{ns:Ns}{a b id:Nat}(h:e a b=some id):apF most e (k+1) kn ns a b=some (id,kn,ns):=by rw[apF,h]
theorem apF_k {most:Nat}{e:Nat→Nat→Option Nat}{k:Nat}{kn:Kn}{ns:Ns}{a b id:Nat}(h:e a b=none)(hk:look kn (a,b)=some id):apF most e (k+1) kn ns a b=some (id,kn,ns):=by rw[apF,h];simp only[hk]
section
variable {most:Nat} {e:Nat→Nat→Option Nat} {k:Nat} {kn:Kn} {ns:Ns} {a b lv:Nat}
theorem apF_n1 (h:e a b=none)(hk:look kn (a,b)=none)(hlv:min (lvl ns a) (lvl ns b)=lv)(h1:apF most e k kn ns (ch ns a lv false) (ch ns b lv false)=none):apF most e (k+1) kn ns a b=none:=by rw[apF,h];simp only[hk,hlv,h1]
theorem apF_n2 (h:e a b=none)(hk:look kn (a,b)=none)(hlv:min (lvl ns a) (lvl ns b)=lv){l:Nat}{kn1:Kn}{ns1:Ns}(h1:apF most e k kn ns (ch ns a lv false) (ch ns b lv false)=some (l,kn1,ns1))(h2:apF most e k kn1 ns1 (ch ns1 a lv true) (ch ns1 b lv true)=none):apF most e (k+1) kn ns a b=none:=by rw[apF,h];simp only[hk,hlv,h1,h2]
theorem apF_n3 (h:e a b=none)(hk:look kn (a,b)=none)(hlv:min (lvl ns a) (lvl ns b)=lv){l r:Nat}{kn1 kn2:Kn}{ns1 ns2:Ns}(h1:apF most e k kn ns (ch ns a lv false) (ch ns b lv false)=some (l,kn1,ns1))(h2:apF most e k kn1 ns1 (ch ns1 a lv true) (ch ns1 b lv true)=some (r,kn2,ns2))(h3:mkF most ns2 lv l r=none):apF most e (k+1) kn ns a b=none:=by rw[apF,h];simp only[hk,hlv,h1,h2,h3]
theorem apF_y (h:e a b=none)(hk:look kn (a,b)=none)(hlv:min (lvl ns a) (lvl ns b)=lv){l r id:Nat}{kn1 kn2:Kn}{ns1 ns2 ns3:Ns}(h1:apF most e k kn ns (ch ns a lv false) (ch ns b lv false)=some (l,kn1,ns1))(h2:apF most e k kn1 ns1 (ch ns1 a lv true) (ch ns1 b lv true)=some (r,kn2,ns2))(h3:mkF most ns2 lv l r=some (id,ns3)):apF most e (k+1) kn ns a b=some (id,upsert kn2 (a,b) id,ns3):=by rw[apF,h];simp only[hk,hlv,h1,h2,h3]
end
structure Ap where
 R:List (Nat × Obj)
 b7:Nat
 b9:Nat
 b4:Nat
 b10:Nat
 mp:Nat
 fe:Nat
abbrev Ap.cap (A:Ap):List Value:=[.pointer (some ⟨A.b7,0,none⟩), .pointer (some ⟨A.b9,0,none⟩), .pointer (some ⟨A.b4,0,none⟩), .pointer (some ⟨A.b10,0,none⟩)]
structure ApOk (D:Sd) (e:Nat→Nat→Option Nat) (A:Ap):Prop where
 f7:Fnd A.R A.b7 (Cl [.func (.func A.fe) #[] #[]] 129)
 f9:Fnd A.R A.b9 (Cl [.map (some A.mp)] 166)
 f4:Fnd A.R A.b4 (Cl [.pointer (some ⟨D.p,0,none⟩)] 34)
 f10:Fnd A.R A.b10 (Cl [.func (.func 154) #[] A.cap.toArray] 129)
 call:∀ args w,(callFunc A.fe args).run Tryz.prog w= .ok (.enter A.fe args) w
 spec:∀ (w0:World) (H:List (Nat × Obj)) (a b:Nat),FSpec Tryz.prog w0 A.fe #[.int .i64 (a:Nat), .int .i64 (b:Nat)] H (Still (.int .i64 (e2i (e a b))) H)
abbrev ApK (D:Sd) (mp:Nat) (F:Option (Nat × Kn × Ns)) (R:List (Nat × Obj)):Value→List (Nat × Obj)→Prop:=fun u H'=>∃ x:Nat × Kn × Sv × Ns,(u= .int .i64 (x.1:Nat)∧F=some (x.1,x.2.1,x.2.2.2)∧StOk D x.2.2.1 x.2.2.2)∧H'=((mp,mapO encPr encNI x.2.1)::SM D x.2.2.1 x.2.2.2)++R
abbrev ApB (D:Sd) (mp:Nat) (F:Option (Nat × Kn × Ns)) (ns:Ns) (R:List (Nat × Obj)):List (Nat × Obj)→Prop:=fun H'=>∃ y:Kn × Sv × Ns,(F=none∧Gr (2*D.bs.length) ns y.2.2∧StOk D y.2.1 y.2.2)∧H'=((mp,mapO encPr encNI y.1)::SM D y.2.1 y.2.2)++R
def ApS (D:Sd) (e:Nat→Nat→Option Nat) (op:Bool→Bool→Bool) (A:Ap) (k:Nat) (w0:World):Prop:=∀ {R:List (Nat × Obj)} {v:Sv} {ns:Ns} {kn:Kn} {a b:Nat},A.R.Sublist R→StOk D v ns→KnOk (2*D.bs.length) op ns kn→a<ns.length→b<ns.length→2*D.bs.length<k+min (lvl ns a) (lvl ns b)→
 FSpecP Tryz.prog w0 154 (.int .i64 (a:Nat):: .int .i64 (b:Nat)::A.cap).toArray (((A.mp,mapO encPr encNI kn)::SM D v ns)++R) (ApK D A.mp (apF D.most.toNat e k kn ns a b) R) (.iface 148 (.agg #[])) (ApB D A.mp (apF D.most.toNat e k kn ns a b) ns R)
theorem Di {D:Sd}{v:Sv}{ns:Ns}{R:List (Nat × Obj)}:(SM D v ns).Sublist (SM D v ns++R):=List.sublist_append_left _ _
theorem ap_0 {D:Sd}{e:Nat→Nat→Option Nat}{op:Bool→Bool→Bool}{A:Ap}{w0:World}:ApS D e op A 0 w0:=fun {R v ns kn a b} hR hst hk ha hb hf=>by
 have:=Fo hst.w ha hb;omega
theorem ap_step {w0:World}{D:Sd}{e:Nat→Nat→Option Nat}{op:Bool→Bool→Bool}{A:Ap}(he:Ends (2*D.bs.length) e op)(hO:ApOk D e A){k:Nat}(ih:ApS D e op A k w0){R:List (Nat × Obj)}{v:Sv}{ns:Ns}{kn:Kn}{a b:Nat}(hR:A.R.Sublist R)(hst:StOk D v ns)(hk:KnOk (2*D.bs.length) op ns kn)(ha:a<ns.length)(hb:b<ns.length)(hf:2*D.bs.length<k+1+min (lvl ns a) (lvl ns b)):
  FSpecP Tryz.prog w0 154 #[.int .i64 (a:Nat), .int .i64 (b:Nat), .pointer (some ⟨A.b7,0,none⟩), .pointer (some ⟨A.b9,0,none⟩), .pointer (some ⟨A.b4,0,none⟩), .pointer (some ⟨A.b10,0,none⟩)] (((A.mp,mapO encPr encNI kn)::SM D v ns)++R) (ApK D A.mp (apF D.most.toNat e (k+1) kn ns a b) R) (.iface 148 (.agg #[])) (ApB D A.mp (apF D.most.toNat e (k+1) kn ns a b) ns R):=by
 refine Bt Tryz.func154 U ntmps154 U ?_;have hw:=hst.w;have ht:=hst.w.two;obtain⟨lv,hlv⟩:∃ lv,min (lvl ns a) (lvl ns b)=lv:=⟨_,rfl⟩;show J _ _ _ _ _ _ _ _ ((A.mp,mapO encPr encNI kn)::(SM D v ns++R));refine rD tb 8 U (y_ (Kf U isAgg129 (by first|exact c_o|exact Aj (Fnd.mono hO.f7 (List.Sublist.trans hR (by exact sbt))) 0 _ U)) ?_ U);refine rO tb 2 U (y_ (G2 (cap:=[]) (T U) (.cons (T U) (.cons (T U) .nil)) hO.call (fun H9 hs=>hO.spec _ H9 a b)) (rO tb 9 U ?_) U)
 first|refine Ac (Aa U) (fun c21=> ?_) (fun c21=> ?_)|refine Af (Aa U) (fun c21=> ?_) (fun c21=> ?_)
 ·obtain⟨x,hx⟩:=e2i_some c21;refine rC tb 8 U (B0 U (Ke U) ?_);exact⟨_,⟨(x,kn,v,ns),⟨by show resOf [.int .i64 (e2i (e a b))]=_;rw[hx];rfl,apF_e hx,hst⟩,rfl⟩,by exact sbt⟩
 ·have h0:=e2i_none c21;refine rC tb 6 U (y_ (A4 (.cons (T U) (.cons (T U) .nil)) (Fc _ _)) (e_ (Al zeroValue101 cs_) ?_ U) U);rintro _ _ ⟨n10,rfl,rfl⟩
  first|refine A2 (Ki U U sizeOf101) U Ad ?_
  rintro _ _ ⟨rfl,rfl⟩;refine rO tb 5 U (y_ (Kf U isAgg166 (by first|exact c_o|exact Aj (Fnd.mono hO.f9 (List.Sublist.trans hR (by exact sbt))) 0 _ U)) ?_ U);refine y_ (Kg U isAgg101 sizeOf101 U (by first|exact Ay)) ?_ U;refine y_ (yl_lookup2 (l:=kn) (k:=(a,b)) keyPr (T U) (T U) U runUnderlying166 zeroValue3) (rO tb 12 U ?_) U
  first|refine Ac (Aa U) (fun c32=> ?_) (fun c32=> ?_)|refine Af (Aa U) (fun c32=> ?_) (fun c32=> ?_)
  ·obtain⟨x,hx⟩:=Option.isSome_iff_exists.1 c32;refine rC tb 8 U (B0 U (Ke U) ?_);exact⟨_,⟨(x,kn,v,ns),⟨by show resOf [((look kn (a,b)).map encNI).getD _]=_;rw[hx];rfl,apF_k h0 hx,hst⟩,rfl⟩,by exact sbt⟩
  ·have hl:look kn (a,b)=none:=by simpa using c32
   have hm:lv<2*D.bs.length:=by
    have h5:=hw.lvN ha;have h6:=hw.lvN hb;refine Nat.lt_of_le_of_ne qom fun e9=>he.none ((hw.end ha).1 qom) ((hw.end hb).1 qom) h0
   have u1:=Dc hw ha (lv:=lv) qom hm false;have u2:=Dc hw hb (lv:=lv) qom hm false;refine rC tb 3 U (Bo 18 [(0,true),(1,true),(2,true),(3,true),(4,true),(5,true),(6,true),(7,true),(8,true),(9,true),(10,true),(11,true),(12,true),(13,true),(14,true),(15,true),(16,true),(17,true)] _ mixd qkr sb0 ?_ B8);refine o_y U (Kf U isAgg34 (by first|exact c_o|exact Aj (Fnd.mono hO.f4 (List.Sublist.trans hR (by exact sbt))) 0 _ U)) ?_ U Ad;refine rP tb 2 U ?_;refine o_y U (Kf U isAgg90 (by first|exact c_o|exact Ca (by repeat (first|exact Di|exact sb0|refine List.Sublist.cons _ ?_)) U)) ?_ U Ad;refine rP tb 1 U (o_y U (Kh U U runUnderlying90 sizeOf97 qom (by first|exact rfl|exact(Cw (w0:=w0) hst).b (i:=a) ha|exact(Cw (w0:=w0) hst).b (i:=b) hb)) ?_ U Ad);refine rP tb 1 U ?_;refine o_y U (Kf U isAgg3 (by first|exact c_o|exact((Cw hst).mono (by repeat (first|exact Di|exact sb0|refine List.Sublist.cons _ ?_))).cs (i:=a) qom 0 _ U)) ?_ U Ad;refine o_y U (Kf U isAgg34 (by first|exact c_o|exact Aj (Fnd.mono hO.f4 (List.Sublist.trans hR (by exact sbt))) 0 _ U)) ?_ U Ad;refine rP tb 2 U ?_;refine o_y U (Kf U isAgg90 (by first|exact c_o|exact Ca (by repeat (first|exact Di|exact sb0|refine List.Sublist.cons _ ?_)) U)) ?_ U Ad;refine rP tb 1 U (o_y U (Kh U U runUnderlying90 sizeOf97 qom (by first|exact rfl|exact(Cw (w0:=w0) hst).b (i:=a) ha|exact(Cw (w0:=w0) hst).b (i:=b) hb)) ?_ U Ad);refine rP tb 1 U ?_;refine o_y U (Kf U isAgg3 (by first|exact c_o|exact((Cw hst).mono (by repeat (first|exact Di|exact sb0|refine List.Sublist.cons _ ?_))).cs (i:=b) qom 0 _ U)) ?_ U Ad;refine o_y U (show _ from hlv ▸ yl_minN (T U) (T U)) (rP tb 1 U (Bb U (kO tb 2 [0,1,3,4,5,10,13] rfl U (rG tb 1 U (Bo 9 [(0,true),(1,true),(2,true),(3,true),(4,true),(5,true),(6,true),(7,true),(8,true)] _ mixd qkr sb0 ?_ B8))))) U Ad;refine o_y U (Kf U isAgg129 (by first|exact c_o|exact Aj (Fnd.mono hO.f10 (List.Sublist.trans hR (by exact sbt))) 0 _ U)) ?_ U Ad;refine o_y U (Kf U isAgg34 (by first|exact c_o|exact Aj (Fnd.mono hO.f4 (List.Sublist.trans hR (by exact sbt))) 0 _ U)) ?_ U Ad;refine rP tb 2 U ?_;refine o_y U (An (.cons (T U) (.cons (T U) (.cons (T U) (.cons Ak .nil)))) call52 (fun H' hs=>Dx (D:=D) (v:=v) (ns:=ns) (List.Sublist.trans (by repeat (first|exact Di|exact sb0|refine List.Sublist.cons _ ?_)) hs) hst a lv false ha)) ?_ U Ad;refine o_y U (Kf U isAgg34 (by first|exact c_o|exact Aj (Fnd.mono hO.f4 (List.Sublist.trans hR (by exact sbt))) 0 _ U)) ?_ U Ad;refine rP tb 2 U ?_;refine o_y U (An (.cons (T U) (.cons (T U) (.cons (T U) (.cons Ak .nil)))) call52 (fun H' hs=>Dx (D:=D) (v:=v) (ns:=ns) (List.Sublist.trans (by repeat (first|exact Di|exact sb0|refine List.Sublist.cons _ ?_)) hs) hst b lv false hb)) ?_ U Ad;refine Bb U ?_;refine p_ (C6 (T rfl) (.cons (T rfl) (.cons (T rfl) .nil)) call154 (A7 (M:=(A.mp,mapO encPr encNI kn)::SM D v ns) (ih (R:=(n10,Cl [.int .i64 (a:Nat), .int .i64 (b:Nat)] 101)::R) (List.Sublist.trans hR (by exact sbt)) hst hk (Bv hw ha false) (Bv hw hb false) qom) (by repeat (first|exact Bw|exact LocL.h|apply LocL.t|apply LocL.a)))) ?_ (by rintro _ ⟨⟨kn1,v1,ns1⟩,⟨e1,g1,hst1⟩,rfl⟩;(repeat refine Cd ?_);exact Bn ⟨(kn1,v1,ns1),⟨apF_n1 h0 hl hlv e1,g1,hst1⟩,rfl⟩ (by exact sbt)) rfl;rintro _ _ ⟨⟨l,kn1,v1,ns1⟩,⟨rfl,e1,hst1⟩,rfl⟩
   dsimp only at e1 hst1
   obtain⟨g1,k1,i1⟩:=Js he k hw hk (Bv hw ha false) (Bv hw hb false) e1;have ha1:=Nat.lt_of_lt_of_le ha g1.le;have hb1:=Nat.lt_of_lt_of_le hb g1.le;have u3:=Dc g1.w ha1 (lv:=lv) (by rw[g1.lvl ha];omega) hm true;have u4:=Dc g1.w hb1 (lv:=lv) (by rw[g1.lvl hb];omega) hm true;refine rO tb 4 U (Bo 13 [(0,true),(1,true),(2,true),(3,true),(4,true),(5,true),(6,true),(8,true),(9,true),(10,true),(7,false),(11,false),(12,false)] R mixd qkr (by exact sbt) ?_ B8);refine o_y U (Kf U isAgg34 (by first|exact c_o|exact Aj (Fnd.mono hO.f4 (List.Sublist.trans hR (by exact sbt))) 0 _ U)) ?_ U Ad;refine rP tb 2 U (o_y U (Kf U isAgg129 (by first|exact c_o|exact Aj (Fnd.mono hO.f10 (List.Sublist.trans hR (by exact sbt))) 0 _ U)) ?_ U Ad);refine o_y U (Kf U isAgg34 (by first|exact c_o|exact Aj (Fnd.mono hO.f4 (List.Sublist.trans hR (by exact sbt))) 0 _ U)) ?_ U Ad;refine rP tb 2 U (o_y U (Kf U isAgg34 (by first|exact c_o|exact Aj (Fnd.mono hO.f4 (List.Sublist.trans hR (by exact sbt))) 0 _ U)) ?_ U Ad);refine rP tb 2 U ?_;refine o_e U (Ao (.cons (T U) (.cons (T U) (.cons (T U) (.cons Ak .nil)))) call52 (Dx (D:=D) (by repeat (first|exact Di|exact sb0|refine List.Sublist.cons _ ?_)) hst1 a lv true ha1)) ?_ U Ad;rintro _ _ ⟨rfl,rfl⟩;refine⟨sbt,?_⟩;refine o_e U (Ao (.cons (T U) (.cons (T U) (.cons (T U) (.cons Ak .nil)))) call52 (Dx (D:=D) (by repeat (first|exact Di|exact sb0|refine List.Sublist.cons _ ?_)) hst1 b lv true hb1)) ?_ U Ad;rintro _ _ ⟨rfl,rfl⟩;refine⟨sbt,?_⟩;refine o_p rfl (C6 (T rfl) (.cons (T rfl) (.cons (T rfl) .nil)) call154 (A7 (M:=(A.mp,mapO encPr encNI kn1)::SM D v1 ns1) (ih (R:=(n10,Cl [.int .i64 (a:Nat), .int .i64 (b:Nat)] 101)::R) (List.Sublist.trans hR (by exact sbt)) hst1 k1 (Bv g1.w ha1 true) (Bv g1.w hb1 true) qom) (by repeat (first|exact Bw|exact LocL.h|apply LocL.t|apply LocL.a)))) ?_ (by rintro _ ⟨⟨kn2,v2,ns2⟩,⟨e2,g2,hst2⟩,rfl⟩;(repeat refine Cd ?_);exact Bn ⟨(kn2,v2,ns2),⟨apF_n2 h0 hl hlv e1 e2,g1.trans g2,hst2⟩,rfl⟩ (by exact sbt)) rfl Ad;rintro _ _ ⟨⟨r,kn2,v2,ns2⟩,⟨rfl,e2,hst2⟩,rfl⟩
   dsimp only at e2 hst2
   obtain⟨g2,k2,i2⟩:=Js he k g1.w k1 (Bv g1.w ha1 true) (Bv g1.w hb1 true) e2;have j1:=i1.gr g1.w g2;refine⟨sbt,(Bb U ?_)⟩;refine p_ (A3 (.cons (T rfl) (.cons (T rfl) (.cons (T rfl) (.cons (T rfl) .nil)))) call75 (A7 (M:=SM D v2 ns2) (Ft hst2 _ lv l r j1.lt i2.lt hm (by have:=j1.lv;omega) (by have:=i2.lv;omega)) (by repeat (first|exact Bw|exact LocL.h|apply LocL.t|apply LocL.a)))) ?_ (by rintro _ ⟨⟨v3,ns3⟩,⟨e3,g3,hst3⟩,rfl⟩;(repeat refine Cd ?_);exact Bn ⟨(kn2,v3,ns3),⟨apF_n3 h0 hl hlv e1 e2 e3,(g1.trans g2).trans g3,hst3⟩,rfl⟩ (by exact sbt)) rfl;rintro _ _ ⟨⟨id,v3,ns3⟩,⟨rfl,e3,hst3⟩,rfl⟩
   dsimp only at e3 hst3
   refine kO tb 3 [3,10,15] rfl U (rG tb 2 U (y_ (Kf U isAgg166 (by first|exact c_o|exact Aj (Fnd.mono hO.f9 (List.Sublist.trans hR (by exact sbt))) 0 _ U)) ?_ U));refine y_ (Kg U isAgg101 sizeOf101 U (by first|exact Ay)) ?_ U;refine rO tb 1 U (e_ (Ch (l:=kn2) (a,b) id keyPr (T U) (T U) U (T U) U runUnderlying166) ?_ U);rintro _ _ ⟨rfl,rfl⟩;refine rO tb 9 U (B0 U (Ke U) ?_);exact⟨_,⟨(id,upsert kn2 (a,b) id,v3,ns3),⟨rfl,apF_y h0 hl hlv e1 e2 e3,hst3⟩,rfl⟩,by exact sbt⟩
theorem ap_s {D:Sd}{e:Nat→Nat→Option Nat}{op:Bool→Bool→Bool}{A:Ap}{w0:World}(he:Ends (2*D.bs.length) e op)(hO:ApOk D e A)(k:Nat):ApS D e op A k w0:=by
 induction k with
 |zero=>exact ap_0
 |succ k ih=>
  intro R v ns kn a b hR hst hk ha hb hf;exact ap_step he hO ih hR hst hk ha hb hf
theorem spec_permP {P:Program}{w0:World}{f:FuncId}{args:Array Value}{H M:List (Nat × Obj)}{K:Value→List (Nat × Obj)→Prop}{fv:Value}{B:List (Nat × Obj)→Prop}(h:FSpecP P w0 f args M K fv B)(hp:H.Perm M):FSpecP P w0 f args H K fv B:=fun w hO=>h w (B5 hO hp)
theorem perm_ap {α:Type}{a b c d e:α}{S R:List α}:(a::b::c::d::e::(S++R)).Perm ((c::S)++(a::b::d::e::R)):=by
 have h1:(a::b::c::d::e::(S++R)).Perm (c::(a::b::d::e::(S++R))):=List.perm_middle (l₁:=[a,b]) (a:=c);have h2:([a,b,d,e]++(S++R)).Perm (S++([a,b,d,e]++R)):=List.perm_append_comm_assoc _ _ _;exact h1.trans (h2.cons c)
theorem apA_some {most:Nat}{e:Nat→Nat→Option Nat}{ns ms:Ns}{a b id:Nat}{kn:Kn}{k:Nat}(hk:lvl ns 0+1=k)(h:apF most e k [] ns a b=some (id,kn,ms)):apA most e ns a b=some (id,ms):=by subst hk;unfold apA;rw[h];rfl
theorem apA_none {most:Nat}{e:Nat→Nat→Option Nat}{ns:Ns}{a b:Nat}{k:Nat}(hk:lvl ns 0+1=k)(h:apF most e k [] ns a b=none):apA most e ns a b=none:=by subst hk;unfold apA;rw[h];rfl
theorem apply_s {w0:World}{D:Sd}{v:Sv}{ns:Ns}{e:Nat→Nat→Option Nat}{op:Bool→Bool→Bool}{fe:Nat}(he:Ends (2*D.bs.length) e op)(hc:∀ args w,(callFunc fe args).run Tryz.prog w= .ok (.enter fe args) w)(hs:∀ (w0:World) (H:List (Nat × Obj)) (a b:Nat),FSpec Tryz.prog w0 fe #[.int .i64 (a:Nat), .int .i64 (b:Nat)] H (Still (.int .i64 (e2i (e a b))) H))(hst:StOk D v ns)(R:List (Nat × Obj))(a b:Nat)(ha:a<ns.length)(hb:b<ns.length):
  FSpecP Tryz.prog w0 111 #[.pointer (some ⟨D.p,0,none⟩), .int .i64 (a:Nat), .int .i64 (b:Nat), .func (.func fe) #[] #[]] (SM D v ns++R) (OpK D (apA D.most.toNat e ns a b) R) (.iface 148 (.agg #[])) (OpB D (apA D.most.toNat e ns a b) ns R):=by
 refine Bt Tryz.func111 U ntmps111 U (rD tb 2 U (e_ (Kj U cs_) ?_ U));rintro _ _ ⟨n4,rfl,rfl⟩;refine e_ (Kj U cs_) ?_ U;rintro _ _ ⟨n7,rfl,rfl⟩;refine rO tb 5 U (e_ C8 ?_ U);rintro _ _ ⟨n11,rfl,rfl⟩;refine e_ (Al zeroValue166 cs_) ?_ U;rintro _ _ ⟨n9,rfl,rfl⟩
 first|refine A2 (Ki U U sizeOf166) U Ad ?_|refine A2 (B4 (T U) (T U) U sizeOf166) U Ad ?_|refine A2 (Be (T U) (T U) U sizeOf166) U Ad ?_
 rintro _ _ ⟨rfl,rfl⟩;refine rO tb 4 U (e_ (Al zeroValue129 cs_) ?_ U);rintro _ _ ⟨n10,rfl,rfl⟩;refine rO tb 4 U (y_ (Cc (.cons (T U) (.cons (T U) (.cons (T U) (.cons (T U) .nil))))) ?_ U)
 first|refine A2 (Ki U U sizeOf129) U Ad ?_|refine A2 (B4 (T U) (T U) U sizeOf129) U Ad ?_|refine A2 (Be (T U) (T U) U sizeOf129) U Ad ?_
 rintro _ _ ⟨rfl,rfl⟩;refine rO tb 4 U (y_ (Kf U isAgg129 (by first|exact c_o)) ?_ U);have hO:ApOk D e ⟨(n10,Cl [.func (.func 154) #[] #[.pointer (some ⟨n7,0,none⟩), .pointer (some ⟨n9,0,none⟩), .pointer (some ⟨n4,0,none⟩), .pointer (some ⟨n10,0,none⟩)]] 129)::(n9,Cl [.map (some n11)] 166)::(n7,Cl [.func (.func fe) #[] #[]] 129)::(n4,Cl [.pointer (some ⟨D.p,0,none⟩)] 34)::R,n7,n9,n4,n10,n11,fe⟩:=⟨Az (Az Av),Az Av,Az (Az (Az Av)),Av,hc,hs⟩;refine rO tb 2 U ?_;refine p_ (C6 (T rfl) (.cons (T rfl) (.cons (T rfl) .nil)) call154 (spec_permP (ap_s (A:=⟨(n10,Cl [.func (.func 154) #[] #[.pointer (some ⟨n7,0,none⟩), .pointer (some ⟨n9,0,none⟩), .pointer (some ⟨n4,0,none⟩), .pointer (some ⟨n10,0,none⟩)]] 129)::(n9,Cl [.map (some n11)] 166)::(n7,Cl [.func (.func fe) #[] #[]] 129)::(n4,Cl [.pointer (some ⟨D.p,0,none⟩)] 34)::R,n7,n9,n4,n10,n11,fe⟩) he hO (2*D.bs.length+1) (R:=(n10,Cl [.func (.func 154) #[] #[.pointer (some ⟨n7,0,none⟩), .pointer (some ⟨n9,0,none⟩), .pointer (some ⟨n4,0,none⟩), .pointer (some ⟨n10,0,none⟩)]] 129)::(n9,Cl [.map (some n11)] 166)::(n7,Cl [.func (.func fe) #[] #[]] 129)::(n4,Cl [.pointer (some ⟨D.p,0,none⟩)] 34)::R) (kn:=[]) sb0 hst kn_nil ha hb qom) perm_ap)) ?_ (by rintro _ ⟨⟨kn1,v1,ns1⟩,⟨e1,g1,hst1⟩,rfl⟩;(repeat refine Cd ?_);exact Bn ⟨(v1,ns1),⟨apA_none (by rw[hst.w.lv0]) e1,g1,hst1⟩,rfl⟩ (by exact sbt)) rfl;rintro _ _ ⟨⟨id,kn,v1,ns1⟩,⟨rfl,e1,hst1⟩,rfl⟩
 dsimp only at e1 hst1
 refine rO tb 4 U (B0 U (Ke U) ?_);exact⟨_,⟨(id,v1,ns1),⟨rfl,apA_some (by rw[hst.w.lv0]) e1,hst1⟩,rfl⟩,by exact sbt⟩
theorem J9 {w0:World}{D:Sd}{v:Sv}{ns:Ns}(hst:StOk D v ns)(R:List (Nat × Obj))(a b:Nat)(ha:a<ns.length)(hb:b<ns.length):
  FSpecP Tryz.prog w0 71 #[.pointer (some ⟨D.p,0,none⟩), .int .i64 (a:Nat), .int .i64 (b:Nat)] (SM D v ns++R) (OpK D (orF D.most.toNat ns a b) R) (.iface 148 (.agg #[])) (OpB D (orF D.most.toNat ns a b) ns R):=by
 refine Bt Tryz.func71 U ntmps71 U (rD tb 10 U ?_);refine p_ (A3 (.cons (T rfl) (.cons (T rfl) (.cons (T rfl) (.cons Ix .nil)))) call111 (apply_s El call112 (fun _ _ a b=>orE_s a b) hst R a b ha hb)) ?_ (by rintro _ ⟨⟨v1,ns1⟩,⟨e1,g1,hst1⟩,rfl⟩;(repeat refine Cd ?_);exact Bn ⟨(v1,ns1),⟨e1,g1,hst1⟩,rfl⟩ (by exact sbt)) rfl;rintro _ _ ⟨⟨id,v1,ns1⟩,⟨rfl,e1,hst1⟩,rfl⟩
 dsimp only at e1 hst1
 refine rO tb 4 U (B0 U (Ke U) ?_);exact⟨_,⟨(id,v1,ns1),⟨rfl,e1,hst1⟩,rfl⟩,by exact sbt⟩
theorem and_s {w0:World}{D:Sd}{v:Sv}{ns:Ns}(hst:StOk D v ns)(R:List (Nat × Obj))(a b:Nat)(ha:a<ns.length)(hb:b<ns.length):
  FSpecP Tryz.prog w0 115 #[.pointer (some ⟨D.p,0,none⟩), .int .i64 (a:Nat), .int .i64 (b:Nat)] (SM D v ns++R) (OpK D (andF D.most.toNat ns a b) R) (.iface 148 (.agg #[])) (OpB D (andF D.most.toNat ns a b) ns R):=by
 refine Bt Tryz.func115 U ntmps115 U (rD tb 10 U ?_);refine p_ (A3 (.cons (T rfl) (.cons (T rfl) (.cons (T rfl) (.cons Ix .nil)))) call111 (apply_s ends_and call155 (fun _ _ a b=>andE_s a b) hst R a b ha hb)) ?_ (by rintro _ ⟨⟨v1,ns1⟩,⟨e1,g1,hst1⟩,rfl⟩;(repeat refine Cd ?_);exact Bn ⟨(v1,ns1),⟨e1,g1,hst1⟩,rfl⟩ (by exact sbt)) rfl;rintro _ _ ⟨⟨id,v1,ns1⟩,⟨rfl,e1,hst1⟩,rfl⟩
 dsimp only at e1 hst1
 refine rO tb 4 U (B0 U (Ke U) ?_);exact⟨_,⟨(id,v1,ns1),⟨rfl,e1,hst1⟩,rfl⟩,by exact sbt⟩
theorem not_s {w0:World}{D:Sd}{v:Sv}{ns:Ns}(hst:StOk D v ns)(R:List (Nat × Obj))(a:Nat)(ha:a<ns.length):
  FSpecP Tryz.prog w0 137 #[.pointer (some ⟨D.p,0,none⟩), .int .i64 (a:Nat)] (SM D v ns++R) (OpK D (notF D.most.toNat ns a) R) (.iface 148 (.agg #[])) (OpB D (notF D.most.toNat ns a) ns R):=by
 refine Bt Tryz.func137 U ntmps137 U (rD tb 10 U ?_);refine p_ (A3 (.cons (T rfl) (.cons (T rfl) (.cons (T rfl) (.cons Ix .nil)))) call111 (apply_s ends_not call169 (fun _ _ a b=>notE_s a b) hst R a a ha ha)) ?_ (by rintro _ ⟨⟨v1,ns1⟩,⟨e1,g1,hst1⟩,rfl⟩;(repeat refine Cd ?_);exact Bn ⟨(v1,ns1),⟨e1,g1,hst1⟩,rfl⟩ (by exact sbt)) rfl;rintro _ _ ⟨⟨id,v1,ns1⟩,⟨rfl,e1,hst1⟩,rfl⟩
 dsimp only at e1 hst1
 refine rO tb 4 U (B0 U (Ke U) ?_);exact⟨_,⟨(id,v1,ns1),⟨rfl,e1,hst1⟩,rfl⟩,by exact sbt⟩
def is1 (i:Nat):Bool:=decide (i=1)
theorem Dn {i:Nat}(h:i<2):(i:Int)=b2i (is1 i):=by
 have:i=0∨i=1:=by omega
 rcases this with rfl|rfl<;>rfl
theorem Kb {w0:World}{D:Sd}{v:Sv}{ns:Ns}{H:List (Nat × Obj)}(hm:(SM D v ns).Sublist H)(hst:StOk D v ns){b3 n11 lv:Nat}(h3:Fnd H b3 (Cl [.pointer (some ⟨D.p,0,none⟩)] 34))(h11:Fnd H n11 (Cl [.int .i64 (lv:Nat)] 3))(hlv:lv≤400)(i:Nat)(hi:i<ns.length)(x z:Bool){xi zi:Int}(hx:xi=b2i x)(hz:zi=b2i z):
  FSpec Tryz.prog w0 114 #[.int .i64 (i:Nat), .int .i64 xi, .int .i64 zi, .pointer (some ⟨b3,0,none⟩), .pointer (some ⟨n11,0,none⟩)] H (Still (.int .i64 (atD ns i lv x z:Nat)) H):=by
 refine Aq Tryz.func114 U ntmps114 U ?_;subst hx hz;refine rD tb 6 U (Bo 11 [(0,true),(1,true),(2,true),(3,true),(4,true),(5,true),(6,true),(7,true),(8,true),(9,true),(10,true)] _ mixd qkr sb0 ?_ Bz);refine o_y U (Kf U isAgg34 (by first|exact c_o|exact Aj h3 0 _ U)) ?_ U Ad;refine o_y U (Kf U isAgg34 (by first|exact c_o|exact Aj h3 0 _ U)) ?_ U Ad;refine rP tb 1 U (o_y U (Kf U isAgg3 (by first|exact c_o|exact Aj h11 0 _ U)) ?_ U Ad);refine rP tb 1 U (o_y U (An (qe4 U U U U) call52 (fun H' hs=>Dx (D:=D) (v:=v) (ns:=ns) (List.Sublist.trans hm hs) hst i lv x hi)) (o_y U (Kf U isAgg3 (by first|exact c_o|exact Aj h11 0 _ U)) ?_ U Ad) U Ad);refine o_y U (Bh (T U) Ak qom) ?_ U Ad;refine rP tb 1 U (o_y U (An (qe4 U U U U) call52 (fun H' hs=>Dx (D:=D) (v:=v) (ns:=ns) (List.Sublist.trans hm hs) hst (ch ns i lv x) (lv+1) z (Bv hst.w hi x))) (rP tb 1 U (Bb U (rO tb 3 U (Ah U (Ke U) ?_)))) U Ad);exact⟨_,⟨rfl,rfl⟩,sbt⟩
structure Sq where
 R:List (Nat × Obj)
 b2:Nat
 b3:Nat
 b4:Nat
 mp:Nat
abbrev Sq.cap (A:Sq):List Value:=[.pointer (some ⟨A.b2,0,none⟩), .pointer (some ⟨A.b3,0,none⟩), .pointer (some ⟨A.b4,0,none⟩)]
structure SqOk (D:Sd) (A:Sq):Prop where
 f2:Fnd A.R A.b2 (Cl [.map (some A.mp)] 166)
 f3:Fnd A.R A.b3 (Cl [.pointer (some ⟨D.p,0,none⟩)] 34)
 f4:Fnd A.R A.b4 (Cl [.func (.func 113) #[] A.cap.toArray] 129)
def SeS (D:Sd) (A:Sq) (k:Nat) (w0:World):Prop:=∀ {R:List (Nat × Obj)} {v:Sv} {ns:Ns} {kn:Kn} {a b:Nat},A.R.Sublist R→StOk D v ns→KsOk (2*D.bs.length) ns kn→a<ns.length→b<ns.length→2*D.bs.length<2*k+min (lvl ns a) (lvl ns b) / 2*2→
 FSpecP Tryz.prog w0 113 (.int .i64 (a:Nat):: .int .i64 (b:Nat)::A.cap).toArray (((A.mp,mapO encPr encNI kn)::SM D v ns)++R) (ApK D A.mp (seF D.most.toNat k kn ns a b) R) (.iface 148 (.agg #[])) (ApB D A.mp (seF D.most.toNat k kn ns a b) ns R)
theorem se_0 {D:Sd}{A:Sq}{w0:World}:SeS D A 0 w0:=fun {R v ns kn a b} hR hst hk ha hb hf=>by
 have:=Fo hst.w ha hb;omega
section
variable {most:Nat} {f:Kn→Ns→Nat→Nat→Option (Nat × Kn × Ns)} {kn0 kn kn1 kn2 kn3:Kn} {ns0 ns ns1 ns2 ns3:Ns} {a b lv i j k p q r:Nat} {x z:Bool} {g:Nat→Nat}
theorem sq_n1 (h1:f kn ns (atD ns a lv x false) (atD ns b lv false z)=none):sqF most f kn ns a b lv x z=none:=by unfold sqF;simp only[h1]
theorem sq_n2 (h1:f kn ns (atD ns a lv x false) (atD ns b lv false z)=some (p,kn1,ns1))(h2:f kn1 ns1 (atD ns1 a lv x true) (atD ns1 b lv true z)=none):sqF most f kn ns a b lv x z=none:=by unfold sqF;simp only[h1,h2]
theorem sq_n3 (h1:f kn ns (atD ns a lv x false) (atD ns b lv false z)=some (p,kn1,ns1))(h2:f kn1 ns1 (atD ns1 a lv x true) (atD ns1 b lv true z)=some (q,kn2,ns2))(h3:orF most ns2 p q=none):sqF most f kn ns a b lv x z=none:=by unfold sqF;simp only[h1,h2,h3];rfl
theorem sq_y (h1:f kn ns (atD ns a lv x false) (atD ns b lv false z)=some (p,kn1,ns1))(h2:f kn1 ns1 (atD ns1 a lv x true) (atD ns1 b lv true z)=some (q,kn2,ns2))(h3:orF most ns2 p q=some (r,ns3)):sqF most f kn ns a b lv x z=some (r,kn2,ns3):=by unfold sqF;simp only[h1,h2,h3];rfl
def InS (most:Nat) (f:Kn→Ns→Nat→Nat→Option (Nat × Kn × Ns)) (kn0:Kn) (ns0:Ns) (a b lv:Nat) (x:Bool) (j:Nat) (g:Nat→Nat) (kn:Kn) (ns:Ns):Prop:=
 (j=0→kn=kn0∧ns=ns0)∧(j=1→sqF most f kn0 ns0 a b lv x false=some (g 0,kn,ns))∧(j=2→∃ kn1 ns1,sqF most f kn0 ns0 a b lv x false=some (g 0,kn1,ns1)∧sqF most f kn1 ns1 a b lv x true=some (g 1,kn,ns))
def upG (g:Nat→Nat) (j r:Nat):Nat→Nat:=fun m=>if m=j then r else g m
theorem in_0 {g:Nat→Nat}:InS most f kn0 ns0 a b lv x 0 g kn0 ns0:=⟨fun _=>⟨rfl,rfl⟩,fun h=>by omega,fun h=>by omega⟩
theorem in_y (hj:j<2)(h:InS most f kn0 ns0 a b lv x j g kn ns)(h1:sqF most f kn ns a b lv x (is1 j)=some (r,kn1,ns1)):InS most f kn0 ns0 a b lv x (j+1) (upG g j r) kn1 ns1:=by
 have:j=0∨j=1:=by omega
 rcases this with rfl|rfl
 ·obtain⟨rfl,rfl⟩:=h.1 rfl;exact⟨fun h=>by omega,fun _=>h1,fun h=>by omega⟩
 ·exact⟨fun h=>by omega,fun h=>by omega,fun _=>⟨_,_,h.2.1 U,h1⟩⟩
theorem in_n (hj:j<2)(h:InS most f kn0 ns0 a b lv x j g kn ns)(h1:sqF most f kn ns a b lv x (is1 j)=none):rwF most f kn0 ns0 a b lv x=none:=by
 have:j=0∨j=1:=by omega
 rcases this with rfl|rfl
 ·obtain⟨rfl,rfl⟩:=h.1 rfl;unfold rwF;rw[show sqF most f kn ns a b lv x false=none from h1]
 ·unfold rwF;rw[h.2.1 rfl];simp only[];rw[show sqF most f kn ns a b lv x true=none from h1]
theorem in_end (h:InS most f kn0 ns0 a b lv x 2 g kn ns):rwF most f kn0 ns0 a b lv x=(mkF most ns (lv+1) (g 0) (g 1)).map fun r=>(r.1,kn,r.2):=by
 obtain⟨kn1,ns1,h1,h2⟩:=h.2.2 rfl;unfold rwF;rw[h1];simp only[];rw[h2]
def OutS (most:Nat) (f:Kn→Ns→Nat→Nat→Option (Nat × Kn × Ns)) (kn0:Kn) (ns0:Ns) (a b lv:Nat) (i:Nat) (g:Nat→Nat) (kn:Kn) (ns:Ns):Prop:=
 (i=0→kn=kn0∧ns=ns0)∧(i=1→rwF most f kn0 ns0 a b lv false=some (g 0,kn,ns))∧(i=2→∃ kn1 ns1,rwF most f kn0 ns0 a b lv false=some (g 0,kn1,ns1)∧rwF most f kn1 ns1 a b lv true=some (g 1,kn,ns))
theorem out_0 {g:Nat→Nat}:OutS most f kn0 ns0 a b lv 0 g kn0 ns0:=⟨fun _=>⟨rfl,rfl⟩,fun h=>by omega,fun h=>by omega⟩
theorem out_y (hi:i<2)(h:OutS most f kn0 ns0 a b lv i g kn ns)(h1:rwF most f kn ns a b lv (is1 i)=some (r,kn1,ns1)):OutS most f kn0 ns0 a b lv (i+1) (upG g i r) kn1 ns1:=by
 have:i=0∨i=1:=by omega
 rcases this with rfl|rfl
 ·obtain⟨rfl,rfl⟩:=h.1 rfl;exact⟨fun h=>by omega,fun _=>h1,fun h=>by omega⟩
 ·exact⟨fun h=>by omega,fun h=>by omega,fun _=>⟨_,_,h.2.1 U,h1⟩⟩
section
theorem J0 (h0: ¬ (a=0∨b=0))(h01: ¬ (a=1∧b=1))(hl:look kn0 (a,b)=none)(hlv:min (lvl ns0 a) (lvl ns0 b) / 2*2=lv)(hi:i<2)(h:OutS most (seF most k) kn0 ns0 a b lv i g kn ns)(h1:rwF most (seF most k) kn ns a b lv (is1 i)=none):seF most (k+1) kn0 ns0 a b=none:=by
 rw[seF,if_neg h0,if_neg h01,hl];simp only[hlv];have:i=0∨i=1:=by omega
 rcases this with rfl|rfl
 ·obtain⟨rfl,rfl⟩:=h.1 rfl;rw[show rwF most (seF most k) kn ns a b lv false=none from h1]
 ·rw[h.2.1 rfl];simp only[];rw[show rwF most (seF most k) kn ns a b lv true=none from h1]
theorem out_end (h0: ¬ (a=0∨b=0))(h01: ¬ (a=1∧b=1))(hl:look kn0 (a,b)=none)(hlv:min (lvl ns0 a) (lvl ns0 b) / 2*2=lv)(h:OutS most (seF most k) kn0 ns0 a b lv 2 g kn ns):seF most (k+1) kn0 ns0 a b=(mkF most ns lv (g 0) (g 1)).map fun r=>(r.1,upsert kn (a,b) r.1,r.2):=by
 obtain⟨kn1,ns1,h1,h2⟩:=h.2.2 rfl;rw[seF,if_neg h0,if_neg h01,hl];simp only[hlv];rw[h1];simp only[];rw[h2]
end
end
section
variable {N most:Nat} {f:Kn→Ns→Nat→Nat→Option (Nat × Kn × Ns)} {kn0 kn:Kn} {ns0 ns:Ns} {a b lv i j:Nat} {x:Bool} {g:Nat→Nat}
theorem in_gr (hf:SeOk N most f)(hw:Wf N ns0)(hk:KsOk N ns0 kn0)(ha:a<ns0.length)(hb:b<ns0.length)(hla:lv≤lvl ns0 a)(hlb:lv≤lvl ns0 b)(hev:lv % 2=0)(hN:lv+1<N)(hj:j≤2)(h:InS most f kn0 ns0 a b lv x j g kn ns):Gr N ns0 ns∧KsOk N ns kn:=by
 have:j=0∨j=1∨j=2:=by omega
 rcases this with rfl|rfl|rfl
 ·obtain⟨rfl,rfl⟩:=h.1 rfl;exact⟨.refl hw,hk⟩
 ·obtain⟨g1,k1,_⟩:=Ik hf hw hk ha hb hla hlb hev hN (h.2.1 rfl);exact⟨g1,k1⟩
 ·obtain⟨kn1,ns1,h1,h2⟩:=h.2.2 rfl;obtain⟨g1,k1,_⟩:=Ik hf hw hk ha hb hla hlb hev hN h1;obtain⟨g2,k2,_⟩:=Ik hf g1.w k1 (Nat.lt_of_lt_of_le ha g1.le) (Nat.lt_of_lt_of_le hb g1.le) (by rw[g1.lvl ha];exact hla) (by rw[g1.lvl hb];exact hlb) hev hN h2;exact⟨g1.trans g2,k2⟩
theorem in_lv (hf:SeOk N most f)(hw:Wf N ns0)(hk:KsOk N ns0 kn0)(ha:a<ns0.length)(hb:b<ns0.length)(hla:lv≤lvl ns0 a)(hlb:lv≤lvl ns0 b)(hev:lv % 2=0)(hN:lv+1<N)(h:InS most f kn0 ns0 a b lv x 2 g kn ns):g 0<ns.length∧g 1<ns.length∧lv+1<lvl ns (g 0)∧lv+1<lvl ns (g 1):=by
 obtain⟨kn1,ns1,h1,h2⟩:=h.2.2 rfl;obtain⟨g1,k1,i1⟩:=Ik hf hw hk ha hb hla hlb hev hN h1;obtain⟨g2,k2,i2⟩:=Ik hf g1.w k1 (Nat.lt_of_lt_of_le ha g1.le) (Nat.lt_of_lt_of_le hb g1.le) (by rw[g1.lvl ha];exact hla) (by rw[g1.lvl hb];exact hlb) hev hN h2;have j1:=i1.gr g1.w g2;have l1:=j1.lv;have l2:=i2.lv;exact⟨j1.lt,i2.lt,l1,l2⟩
theorem out_gr (hf:SeOk N most f)(hw:Wf N ns0)(hk:KsOk N ns0 kn0)(ha:a<ns0.length)(hb:b<ns0.length)(hla:lv≤lvl ns0 a)(hlb:lv≤lvl ns0 b)(hev:lv % 2=0)(hN:lv+1<N)(hj:i≤2)(h:OutS most f kn0 ns0 a b lv i g kn ns):Gr N ns0 ns∧KsOk N ns kn:=by
 have:i=0∨i=1∨i=2:=by omega
 rcases this with rfl|rfl|rfl
 ·obtain⟨rfl,rfl⟩:=h.1 rfl;exact⟨.refl hw,hk⟩
 ·obtain⟨g1,k1,_⟩:=Il hf hw hk ha hb hla hlb hev hN (h.2.1 rfl);exact⟨g1,k1⟩
 ·obtain⟨kn1,ns1,h1,h2⟩:=h.2.2 rfl;obtain⟨g1,k1,_⟩:=Il hf hw hk ha hb hla hlb hev hN h1;obtain⟨g2,k2,_⟩:=Il hf g1.w k1 (Nat.lt_of_lt_of_le ha g1.le) (Nat.lt_of_lt_of_le hb g1.le) (by rw[g1.lvl ha];exact hla) (by rw[g1.lvl hb];exact hlb) hev hN h2;exact⟨g1.trans g2,k2⟩
theorem out_lv (hf:SeOk N most f)(hw:Wf N ns0)(hk:KsOk N ns0 kn0)(ha:a<ns0.length)(hb:b<ns0.length)(hla:lv≤lvl ns0 a)(hlb:lv≤lvl ns0 b)(hev:lv % 2=0)(hN:lv+1<N)(h:OutS most f kn0 ns0 a b lv 2 g kn ns):g 0<ns.length∧g 1<ns.length∧lv<lvl ns (g 0)∧lv<lvl ns (g 1):=by
 obtain⟨kn1,ns1,h1,h2⟩:=h.2.2 rfl;obtain⟨g1,k1,i1⟩:=Il hf hw hk ha hb hla hlb hev hN h1;obtain⟨g2,k2,i2⟩:=Il hf g1.w k1 (Nat.lt_of_lt_of_le ha g1.le) (Nat.lt_of_lt_of_le hb g1.le) (by rw[g1.lvl ha];exact hla) (by rw[g1.lvl hb];exact hlb) hev hN h2;have j1:=i1.gr g1.w g2;have l1:=j1.lv;have l2:=i2.lv;exact⟨j1.lt,i2.lt,l1,l2⟩
end
theorem set_g {g:Nat→Nat}{j r:Nat}(hj:j<2):setN? ([.int .i64 (g 0:Nat), .int .i64 (g 1:Nat)]:List Value) (0+(j:Int).toNat*1) (.int .i64 (r:Nat))=some [.int .i64 (upG g j r 0:Nat), .int .i64 (upG g j r 1:Nat)]:=by
 have:j=0∨j=1:=by omega
 rcases this with rfl|rfl<;>rfl
section
variable {P:Program} {w0:World} {L:Fm} {H:List (Nat × Obj)} {ty xt yt:TypeId} {x y:Operand} {a c:Nat}
theorem yl_quo2 (hx:Ev L x (.int .i64 (a:Nat)))(hy:Ev L y (.int .i64 2))(h:a≤1000000000):Yl P w0 (.binOp .quo xt x y yt) ty L H (.int .i64 ((a / 2:Nat):Int)):=by
 have h:=yl_quo (P:=P) (w0:=w0) (H:=H) (ty:=ty) (xt:=xt) (yt:=yt) hx hy qom
 rwa [show (a:Int) / 2=((a / 2:Nat):Int) by omega] at h
theorem yl_mul2 (hx:Ev L x (.int .i64 (a:Nat)))(hy:Ev L y (.int .i64 2))(h:a≤1000000000):Yl P w0 (.binOp .mul xt x y yt) ty L H (.int .i64 ((a*2:Nat):Int)):=by
 have h:=yl_mul (P:=P) (w0:=w0) (H:=H) (ty:=ty) (xt:=xt) (yt:=yt) hx hy qom
 rwa [show (a:Int)*2=((a*2:Nat):Int) by omega] at h
theorem Cb (hx:Ev L x (.int .i64 (a:Nat)))(hy:Ev L y (.int .i64 (c:Nat)))(h:a+c≤1000000000):Yl P w0 (.binOp .add xt x y yt) ty L H (.int .i64 ((a+c:Nat):Int)):=by
 have h:=Bh (P:=P) (w0:=w0) (H:=H) (ty:=ty) (xt:=xt) (yt:=yt) hx hy qom
 rwa [show (a:Int)+c=((a+c:Nat):Int) by omega] at h
end
theorem se_step {w0:World}{D:Sd}{A:Sq}(hO:SqOk D A){k:Nat}(ih:SeS D A k w0){R:List (Nat × Obj)}{v:Sv}{ns:Ns}{kn:Kn}{a b:Nat}(hR:A.R.Sublist R)(hst:StOk D v ns)(hk:KsOk (2*D.bs.length) ns kn)(ha:a<ns.length)(hb:b<ns.length)(hf:2*D.bs.length<2*(k+1)+min (lvl ns a) (lvl ns b) / 2*2):
  FSpecP Tryz.prog w0 113 #[.int .i64 (a:Nat), .int .i64 (b:Nat), .pointer (some ⟨A.b2,0,none⟩), .pointer (some ⟨A.b3,0,none⟩), .pointer (some ⟨A.b4,0,none⟩)] (((A.mp,mapO encPr encNI kn)::SM D v ns)++R) (ApK D A.mp (seF D.most.toNat (k+1) kn ns a b) R) (.iface 148 (.agg #[])) (ApB D A.mp (seF D.most.toNat (k+1) kn ns a b) ns R):=by
 refine Bt Tryz.func113 U ntmps113 U ?_;have hw:=hst.w;have ht:=hst.w.two;have hbl:=hst.bl;obtain⟨lv,hlv⟩:∃ lv,min (lvl ns a) (lvl ns b) / 2*2=lv:=⟨_,rfl⟩;have hNe:2*D.bs.length % 2=0:=by omega
 have hlN:=Fo hw ha hb;show J _ _ _ _ _ _ _ _ ((A.mp,mapO encPr encNI kn)::(SM D v ns++R));refine rD tb 6 U ?_;refine D6 (X:=Bool) (V:=fun x23=>[(23, .bool x23)]) (C:=[(0,_),(1,_),(2,_),(3,_),(4,_)]) (φ:=fun x23=>x23=decide (a=0∨b=0)) ⟨Aa U,Aa U,Aa U,Aa U,Aa U,trivial⟩ ?_ ?_
 ·refine rD tb 4 U ?_
  first|refine Am (s:=20) (Aa U) (fun c20=> ?_) (fun c20=> ?_)|refine Aw (s:=20) (Aa U) (fun c20=> ?_) (fun c20=> ?_)
  ·refine rO tb 4 U ?_;refine A8 (true) ?_ ⟨atd,trivial⟩ ⟨Aa U,Aa U,Aa U,Aa U,Aa U,trivial⟩ sbt;refine Bool.eq_iff_iff.2 ?_;simp only[decide_eq_true_eq,true_iff];omega
  ·refine rO tb 4 U ?_;refine A8 (decide ((b:Int)=0)) ?_ ⟨atd,trivial⟩ ⟨Aa U,Aa U,Aa U,Aa U,Aa U,trivial⟩ sbt;refine Bool.eq_iff_iff.2 ?_;simp only[decide_eq_true_eq,true_iff];omega
 rintro x23 hx23
 first|refine Ac (Aa U) (fun c23=> ?_) (fun c23=> ?_)|refine Af (Aa U) (fun c23=> ?_) (fun c23=> ?_)
 ·have h0:a=0∨b=0:=by simpa[hx23] using c23
  refine rC tb 7 U (B0 U (Ke U) ?_);exact⟨_,⟨(0,kn,v,ns),⟨rfl,by rw[seF,if_pos h0],hst⟩,rfl⟩,by exact sbt⟩
 ·have h0: ¬ (a=0∨b=0):=by simpa[hx23] using c23
  refine rC tb 3 U ?_;refine D6 (X:=Bool) (V:=fun x29=>[(29, .bool x29)]) (C:=[(0,_),(1,_),(2,_),(3,_),(4,_)]) (φ:=fun x29=>x29=decide (a=1∧b=1)) ⟨Aa U,Aa U,Aa U,Aa U,Aa U,trivial⟩ ?_ ?_
  ·refine rD tb 4 U ?_
   first|refine Am (s:=26) (Aa U) (fun c26=> ?_) (fun c26=> ?_)|refine Aw (s:=26) (Aa U) (fun c26=> ?_) (fun c26=> ?_)
   ·refine rO tb 4 U ?_;refine A8 (decide ((b:Int)=1)) ?_ ⟨atd,trivial⟩ ⟨Aa U,Aa U,Aa U,Aa U,Aa U,trivial⟩ sbt;refine Bool.eq_iff_iff.2 ?_;simp only[decide_eq_true_eq,Bool.false_eq_true,false_iff];omega
   ·refine rO tb 4 U ?_;refine A8 (false) ?_ ⟨atd,trivial⟩ ⟨Aa U,Aa U,Aa U,Aa U,Aa U,trivial⟩ sbt;refine Bool.eq_iff_iff.2 ?_;simp only[decide_eq_true_eq,Bool.false_eq_true,false_iff];omega
  rintro x29 hx29
  first|refine Ac (Aa U) (fun c29=> ?_) (fun c29=> ?_)|refine Af (Aa U) (fun c29=> ?_) (fun c29=> ?_)
  ·have h01:a=1∧b=1:=by simpa[hx29] using c29
   refine rC tb 7 U (B0 U (Ke U) ?_);exact⟨_,⟨(1,kn,v,ns),⟨rfl,by rw[seF,if_neg h0,if_pos h01],hst⟩,rfl⟩,by exact sbt⟩
  ·have h01: ¬ (a=1∧b=1):=by simpa[hx29] using c29
   refine rC tb 6 U (y_ (A4 (.cons (T U) (.cons (T U) .nil)) (Fc _ _)) (e_ (Al zeroValue101 cs_) ?_ U) U);rintro _ _ ⟨n8,rfl,rfl⟩
   first|refine A2 (Ki U U sizeOf101) U Ad ?_
   rintro _ _ ⟨rfl,rfl⟩;refine rO tb 5 U (y_ (Kf U isAgg166 (by first|exact c_o|exact Aj (Fnd.mono hO.f2 (List.Sublist.trans hR (by exact sbt))) 0 _ U)) ?_ U);refine y_ (Kg U isAgg101 sizeOf101 U (by first|exact Ay)) ?_ U;refine y_ (yl_lookup2 (l:=kn) (k:=(a,b)) keyPr (T U) (T U) U runUnderlying166 zeroValue3) (rO tb 12 U ?_) U
   first|refine Ac (Aa U) (fun c39=> ?_) (fun c39=> ?_)|refine Af (Aa U) (fun c39=> ?_) (fun c39=> ?_)
   ·obtain⟨x,hx⟩:=Option.isSome_iff_exists.1 c39;refine rC tb 8 U (B0 U (Ke U) ?_);exact⟨_,⟨(x,kn,v,ns),⟨by show resOf [((look kn (a,b)).map encNI).getD _]=_;rw[hx];rfl,by rw[seF,if_neg h0,if_neg h01,hx],hst⟩,rfl⟩,by exact sbt⟩
   ·have hl:look kn (a,b)=none:=by simpa using c39
    have hm:min (lvl ns a) (lvl ns b)<2*D.bs.length:=by
     refine Nat.lt_of_le_of_ne hlN fun e9=> ?_
     have a1:=(hw.end ha).1 (by have:=hw.lvN ha;omega);have a2:=(hw.end hb).1 (by have:=hw.lvN hb;omega);omega
    have hla:lv≤lvl ns a:=by omega
    have hlb:lv≤lvl ns b:=by omega
    have hev:lv % 2=0:=by omega
    have hN:lv+1<2*D.bs.length:=by omega
    refine rC tb 3 U (Bo 20 [(0,true),(1,true),(2,true),(3,true),(4,true),(5,true),(6,true),(7,true),(8,true),(9,true),(10,true),(11,true),(12,true),(13,true),(14,true),(15,true),(16,true),(17,true),(18,true),(19,false)] _ mixd qkr sb0 ?_ B8);refine o_y U (Kf U isAgg34 (by first|exact c_o|exact Aj (Fnd.mono hO.f3 (List.Sublist.trans hR (by exact sbt))) 0 _ U)) ?_ U Ad;refine rP tb 2 U ?_;refine o_y U (Kf U isAgg90 (by first|exact c_o|exact Ca (by repeat (first|exact Di|exact sb0|refine List.Sublist.cons _ ?_)) U)) ?_ U Ad;refine rP tb 1 U (o_y U (Kh U U runUnderlying90 sizeOf97 qom (by first|exact rfl|exact(Cw (w0:=w0) hst).b (i:=a) ha|exact(Cw (w0:=w0) hst).b (i:=b) hb)) ?_ U Ad);refine rP tb 1 U ?_;refine o_y U (Kf U isAgg3 (by first|exact c_o|exact((Cw hst).mono (by repeat (first|exact Di|exact sb0|refine List.Sublist.cons _ ?_))).cs (i:=a) qom 0 _ U)) ?_ U Ad;refine o_y U (Kf U isAgg34 (by first|exact c_o|exact Aj (Fnd.mono hO.f3 (List.Sublist.trans hR (by exact sbt))) 0 _ U)) ?_ U Ad;refine rP tb 2 U ?_;refine o_y U (Kf U isAgg90 (by first|exact c_o|exact Ca (by repeat (first|exact Di|exact sb0|refine List.Sublist.cons _ ?_)) U)) ?_ U Ad;refine rP tb 1 U (o_y U (Kh U U runUnderlying90 sizeOf97 qom (by first|exact rfl|exact(Cw (w0:=w0) hst).b (i:=a) ha|exact(Cw (w0:=w0) hst).b (i:=b) hb)) ?_ U Ad);refine rP tb 1 U ?_;refine o_y U (Kf U isAgg3 (by first|exact c_o|exact((Cw hst).mono (by repeat (first|exact Di|exact sb0|refine List.Sublist.cons _ ?_))).cs (i:=b) qom 0 _ U)) ?_ U Ad;refine o_y U (yl_minN (T U) (T U)) (o_y U (yl_quo2 (T U) Ak (Nat.le_trans (Nat.min_le_left _ _) (Nat.le_trans (hw.lvN ha) qom))) ?_ U Ad) U Ad;refine o_y U (show _ from hlv ▸ yl_mul2 (T U) Ak (Nat.le_trans (Nat.div_le_self _ _) (Nat.le_trans (Nat.min_le_left _ _) (Nat.le_trans (hw.lvN ha) qom)))) ?_ U Ad;refine o_e U (Al zeroValue3 cs_) ?_ U Ad;rintro _ _ ⟨n11,rfl,rfl⟩;refine⟨sbt,(Bb U ?_)⟩
    first|refine A2 (Ki U U sizeOf3) U Ad ?_|refine A2 (B4 (T U) (T U) U sizeOf3) U Ad ?_|refine A2 (Be (T U) (T U) U sizeOf3) U Ad ?_
    rintro _ _ ⟨rfl,rfl⟩;refine kO tb 2 [0,1,2,3,4,8,11] rfl U (rG tb 2 U (y_ (Cc (.cons (T U) (.cons (T U) .nil))) (rO tb 5 U (e_ (Al zeroValue118 cs_) ?_ U)) U));rintro _ _ ⟨n13,rfl,rfl⟩;refine rO tb 9 U ?_;refine Bi (X:=Nat × Kn × Sv × Ns × (Nat→Nat)) (V:=fun ⟨i,kni,vi,nsi,g⟩=>[(61, .int .i64 (i:Nat))]) (C:=[(0,_),(1,_),(2,_),(3,_),(4,_),(8,_),(11,_),(12,_),(13,_)]) (G:=fun ⟨i,kni,vi,nsi,g⟩=>(n13,Cl [.int .i64 (g 0:Nat), .int .i64 (g 1:Nat)] 118)::(n11,Cl [.int .i64 (lv:Nat)] 3)::(n8,Cl [.int .i64 (a:Nat), .int .i64 (b:Nat)] 101)::(A.mp,mapO encPr encNI kni)::(SM D vi nsi++R)) (φ:=fun ⟨i,kni,vi,nsi,g⟩=>i≤2∧StOk D vi nsi∧OutS D.most.toNat (seF D.most.toNat k) kn ns a b lv i g kni nsi) (μ:=fun ⟨i,kni,vi,nsi,g⟩=>2 - i) (x0:=(0,kn,v,ns,fun _=>0)) ?_ ⟨Aa rfl,Aa rfl,Aa rfl,Aa rfl,Aa rfl,Aa rfl,Aa rfl,Aa rfl,Aa rfl,trivial⟩ ⟨atd,trivial⟩ sb0 ?_
    ·exact⟨by omega,hst,out_0⟩
    rintro⟨i,kni,vi,nsi,g⟩ ⟨hi2,hsti,hos⟩;obtain⟨gi,ki⟩:=out_gr (G8 hNe k) hw hk ha hb hla hlb hev hN hi2 hos;have hai:=Nat.lt_of_lt_of_le ha gi.le;have hbi:=Nat.lt_of_lt_of_le hb gi.le;have hlai:lv≤lvl nsi a:=by rw[gi.lvl ha];exact hla
    have hlbi:lv≤lvl nsi b:=by rw[gi.lvl hb];exact hlb
    refine rD tb 6 U ?_
    first|refine Ac (Aa U) (fun c62=> ?_) (fun c62=> ?_)|refine Af (Aa U) (fun c62=> ?_) (fun c62=> ?_)
    ·refine rC tb 12 U (e_ (Al zeroValue118 cs_) ?_ U);rintro _ _ ⟨n15,rfl,rfl⟩;refine rO tb 9 U ?_;refine Bi (X:=Nat × Kn × Sv × Ns × (Nat→Nat)) (V:=fun ⟨j,knj,vj,nsj,gj⟩=>[(64, .int .i64 (j:Nat))]) (C:=[(0,_),(1,_),(2,_),(3,_),(4,_),(8,_),(11,_),(12,_),(13,_),(14,_),(15,_),(61,_)]) (G:=fun ⟨j,knj,vj,nsj,gj⟩=>(n15,Cl [.int .i64 (gj 0:Nat), .int .i64 (gj 1:Nat)] 118)::(n13,Cl [.int .i64 (g 0:Nat), .int .i64 (g 1:Nat)] 118)::(n11,Cl [.int .i64 (lv:Nat)] 3)::(n8,Cl [.int .i64 (a:Nat), .int .i64 (b:Nat)] 101)::(A.mp,mapO encPr encNI knj)::(SM D vj nsj++R)) (φ:=fun ⟨j,knj,vj,nsj,gj⟩=>j≤2∧StOk D vj nsj∧InS D.most.toNat (seF D.most.toNat k) kni nsi a b lv (is1 i) j gj knj nsj) (μ:=fun ⟨j,knj,vj,nsj,gj⟩=>2 - j) (x0:=(0,kni,vi,nsi,fun _=>0)) ?_ ⟨Aa rfl,Aa rfl,Aa rfl,Aa rfl,Aa rfl,Aa rfl,Aa rfl,Aa rfl,Aa rfl,Aa rfl,Aa rfl,Aa rfl,trivial⟩ ⟨atd,trivial⟩ sb0 ?_
     ·exact⟨by omega,hsti,in_0⟩
     rintro⟨j,knj,vj,nsj,gj⟩ ⟨hj2,hstj,his⟩;obtain⟨gjj,kj⟩:=in_gr (G8 hNe k) gi.w ki hai hbi hlai hlbi hev hN hj2 his;have haj:=Nat.lt_of_lt_of_le hai gjj.le;have hbj:=Nat.lt_of_lt_of_le hbi gjj.le;have hlaj:lv≤lvl nsj a:=by rw[gjj.lvl hai];exact hlai
     have hlbj:lv≤lvl nsj b:=by rw[gjj.lvl hbi];exact hlbi
     have wj:=gjj.w;have u1:=Gm wj haj hlaj hN (is1 i) false;have u2:=Gm wj hbj hlbj hN false (is1 j);refine rD tb 6 U ?_
     first|refine Ac (Aa U) (fun c65=> ?_) (fun c65=> ?_)|refine Af (Aa U) (fun c65=> ?_) (fun c65=> ?_)
     ·refine rC tb 10 U (Bo 24 [(0,true),(1,true),(2,true),(3,true),(4,true),(5,true),(7,true),(8,true),(9,true),(12,true),(13,true),(14,true),(15,true),(17,true),(18,true),(19,true),(6,false),(10,false),(11,false),(16,false),(20,false),(21,false),(22,false),(23,true)] R mixd qkr (by exact sbt) ?_ B8);refine rP tb 1 U (o_y U (Kf U isAgg34 (by first|exact c_o|exact Aj (Fnd.mono hO.f3 (List.Sublist.trans hR (by exact sbt))) 0 _ U)) ?_ U Ad);refine o_y U (Kf U isAgg129 (by first|exact c_o|exact Aj (Fnd.mono hO.f4 (List.Sublist.trans hR (by exact sbt))) 0 _ U)) ?_ U Ad;refine rP tb 6 U (o_y U (Kf U isAgg129 (by first|exact c_o|exact Aj (Fnd.mono hO.f4 (List.Sublist.trans hR (by exact sbt))) 0 _ U)) ?_ U Ad);refine rP tb 6 U ?_;refine o_e U (Bq (T U) (.cons (T U) (.cons (T U) (.cons Ak .nil))) call114 (Kb (D:=D) (by repeat (first|exact Di|exact sb0|refine List.Sublist.cons _ ?_)) hstj (Fnd.mono hO.f3 (List.Sublist.trans hR (by exact sbt))) (by repeat (first|exact Av|refine Az ?_)) qom a haj (is1 i) false (Dn qom) U)) ?_ U Ad;rintro _ _ ⟨rfl,rfl⟩;refine⟨sbt,?_⟩;refine o_e U (Bq (T U) (.cons (T U) (.cons Ak (.cons (T U) .nil))) call114 (Kb (D:=D) (by repeat (first|exact Di|exact sb0|refine List.Sublist.cons _ ?_)) hstj (Fnd.mono hO.f3 (List.Sublist.trans hR (by exact sbt))) (by repeat (first|exact Av|refine Az ?_)) qom b hbj false (is1 j) U (Dn qom))) ?_ U Ad;rintro _ _ ⟨rfl,rfl⟩;refine⟨sbt,?_⟩;refine o_p rfl (C6 (T rfl) (.cons (T rfl) (.cons (T rfl) .nil)) call113 (A7 (M:=(A.mp,mapO encPr encNI knj)::SM D vj nsj) (ih (R:=(n15,Cl [.int .i64 (gj 0:Nat), .int .i64 (gj 1:Nat)] 118)::(n13,Cl [.int .i64 (g 0:Nat), .int .i64 (g 1:Nat)] 118)::(n11,Cl [.int .i64 (lv:Nat)] 3)::(n8,Cl [.int .i64 (a:Nat), .int .i64 (b:Nat)] 101)::R) (List.Sublist.trans hR (by exact sbt)) hstj kj (Cq wj haj _ _) (Cq wj hbj _ _) qom) (by repeat (first|exact Bw|exact LocL.h|apply LocL.t|apply LocL.a)))) ?_ (by rintro _ ⟨⟨kn1,v1,ns1⟩,⟨e1,g1,hst1⟩,rfl⟩;(repeat (first|refine Cd ?_|refine Br ?_));exact Bn ⟨(kn1,v1,ns1),⟨J0 h0 h01 hl hlv qom hos (in_n qom his (sq_n1 e1)),(gi.trans gjj).trans g1,hst1⟩,rfl⟩ (by exact sbt)) rfl Ad;rintro _ _ ⟨⟨p1,kn1,v1,ns1⟩,⟨rfl,e1,hst1⟩,rfl⟩
      dsimp only at e1 hst1
      obtain⟨g1,k1,i1⟩:=G8 hNe k _ _ _ _ _ _ _ wj kj (Cq wj haj _ _) (Cq wj hbj _ _) e1;have ha1:=Nat.lt_of_lt_of_le haj g1.le;have hb1:=Nat.lt_of_lt_of_le hbj g1.le;have u3:=Gm g1.w ha1 (by rw[g1.lvl haj];exact hlaj) hN (is1 i) true;have u4:=Gm g1.w hb1 (by rw[g1.lvl hbj];exact hlbj) hN true (is1 j);refine⟨sbt,?_⟩;refine o_e U (Bq (T U) (.cons (T U) (.cons (T U) (.cons Ak .nil))) call114 (Kb (D:=D) (by repeat (first|exact Di|exact sb0|refine List.Sublist.cons _ ?_)) hst1 (Fnd.mono hO.f3 (List.Sublist.trans hR (by exact sbt))) (by repeat (first|exact Av|refine Az ?_)) qom a ha1 (is1 i) true (Dn qom) U)) ?_ U Ad;rintro _ _ ⟨rfl,rfl⟩;refine⟨sbt,?_⟩;refine o_e U (Bq (T U) (.cons (T U) (.cons Ak (.cons (T U) .nil))) call114 (Kb (D:=D) (by repeat (first|exact Di|exact sb0|refine List.Sublist.cons _ ?_)) hst1 (Fnd.mono hO.f3 (List.Sublist.trans hR (by exact sbt))) (by repeat (first|exact Av|refine Az ?_)) qom b hb1 true (is1 j) U (Dn qom))) ?_ U Ad;rintro _ _ ⟨rfl,rfl⟩;refine⟨sbt,?_⟩;refine o_p rfl (C6 (T rfl) (.cons (T rfl) (.cons (T rfl) .nil)) call113 (A7 (M:=(A.mp,mapO encPr encNI kn1)::SM D v1 ns1) (ih (R:=(n15,Cl [.int .i64 (gj 0:Nat), .int .i64 (gj 1:Nat)] 118)::(n13,Cl [.int .i64 (g 0:Nat), .int .i64 (g 1:Nat)] 118)::(n11,Cl [.int .i64 (lv:Nat)] 3)::(n8,Cl [.int .i64 (a:Nat), .int .i64 (b:Nat)] 101)::R) (List.Sublist.trans hR (by exact sbt)) hst1 k1 (Cq g1.w ha1 _ _) (Cq g1.w hb1 _ _) qom) (by repeat (first|exact Bw|exact LocL.h|apply LocL.t|apply LocL.a)))) ?_ (by rintro _ ⟨⟨kn2,v2,ns2⟩,⟨e2,g2,hst2⟩,rfl⟩;(repeat (first|refine Cd ?_|refine Br ?_));exact Bn ⟨(kn2,v2,ns2),⟨J0 h0 h01 hl hlv qom hos (in_n qom his (sq_n2 e1 e2)),((gi.trans gjj).trans g1).trans g2,hst2⟩,rfl⟩ (by exact sbt)) rfl Ad;rintro _ _ ⟨⟨p2,kn2,v2,ns2⟩,⟨rfl,e2,hst2⟩,rfl⟩
      dsimp only at e2 hst2
      obtain⟨g2,k2,i2⟩:=G8 hNe k _ _ _ _ _ _ _ g1.w k1 (Cq g1.w ha1 _ _) (Cq g1.w hb1 _ _) e2;have j1:=i1.gr g1.w g2;refine⟨sbt,?_⟩;refine o_p rfl (A3 (.cons (T rfl) (.cons (T rfl) (.cons (T rfl) .nil))) call71 (A7 (M:=SM D v2 ns2) (J9 hst2 _ p1 p2 j1.lt i2.lt) (by repeat (first|exact Bw|exact LocL.h|apply LocL.t|apply LocL.a)))) ?_ (by rintro _ ⟨⟨v3,ns3⟩,⟨e3,g3,hst3⟩,rfl⟩;(repeat (first|refine Cd ?_|refine Br ?_));exact Bn ⟨(kn2,v3,ns3),⟨J0 h0 h01 hl hlv qom hos (in_n qom his (sq_n3 e1 e2 e3)),(((gi.trans gjj).trans g1).trans g2).trans g3,hst3⟩,rfl⟩ (by exact sbt)) rfl Ad;rintro _ _ ⟨⟨r3,v3,ns3⟩,⟨rfl,e3,hst3⟩,rfl⟩
      dsimp only at e3 hst3
      refine⟨sbt,(o_y U (Bm (T U) (T U) runUnderlying118 sizeOf3 qom) ?_ U Ad)⟩;refine Bb U (e_ (Be (T U) (T U) U sizeOf3 (hs:=set_g qom)) ?_ U);rintro _ _ ⟨rfl,rfl⟩;refine kO tb 3 [0,1,2,3,4,8,11,12,13,14,15,61,64] rfl U (rG tb 1 U (y_ (Cb (c:=1) (T U) Ak qom) ?_ U));refine rO tb 2 U ?_;refine A5 ((j+1,kn2,v3,ns3,upG gj j r3)) ?_ ?_ ⟨atd,trivial⟩ ⟨Aa U,Aa U,Aa U,Aa U,Aa U,Aa U,Aa U,Aa U,Aa U,Aa U,Aa U,Aa U,trivial⟩ ?_
      ·exact⟨by omega,hst3,in_y qom his (sq_y e1 e2 e3)⟩
      ·first|omega|(simp only[];omega)
      ·exact sbt
     ·obtain rfl:j=2:=by omega
      obtain⟨l1,l2,l3,l4⟩:=in_lv (G8 hNe k) gi.w ki hai hbi hlai hlbi hev hN his;refine rC tb 2 U (Au (rX tb 4 U (y_ (Kf U isAgg34 (by first|exact c_o|exact Aj (Fnd.mono hO.f3 (List.Sublist.trans hR (by exact sbt))) 0 _ U)) ?_ U)));refine y_ (Kf U isAgg3 (by first|exact c_o)) ?_ U;refine y_ (Cb (c:=1) (T U) Ak qom) ?_ U;refine y_ (Bm (T U) Ak runUnderlying118 sizeOf3 qom) ?_ U;refine y_ (Kf U isAgg3 (by first|exact c_o)) ?_ U;refine y_ (Bm (T U) Ak runUnderlying118 sizeOf3 qom) ?_ U;refine y_ (Kf U isAgg3 (by first|exact c_o)) ?_ U;refine p_ (A3 (.cons (T rfl) (.cons (T rfl) (.cons (T rfl) (.cons (T rfl) .nil)))) call75 (A7 (M:=SM D vj nsj) (Ft hstj _ (lv+1) (gj 0) (gj 1) l1 l2 hN l3 l4) (by repeat (first|exact Bw|exact LocL.h|apply LocL.t|apply LocL.a)))) ?_ (by rintro _ ⟨⟨v4,ns4⟩,⟨e4,g4,hst4⟩,rfl⟩;(repeat (first|refine Cd ?_|refine Br ?_));exact Bn ⟨(knj,v4,ns4),⟨J0 h0 h01 hl hlv qom hos (by rw[in_end his,e4];rfl),(gi.trans gjj).trans g4,hst4⟩,rfl⟩ (by exact sbt)) rfl;rintro _ _ ⟨⟨r4,v4,ns4⟩,⟨rfl,e4,hst4⟩,rfl⟩
      dsimp only at e4 hst4
      refine y_ (Bm (T U) (T U) runUnderlying118 sizeOf3 qom) ?_ U;refine e_ (Be (T U) (T U) U sizeOf3 (hs:=set_g qom)) ?_ U;rintro _ _ ⟨rfl,rfl⟩;refine rO tb 4 U (y_ (Cb (c:=1) (T U) Ak qom) ?_ U);refine rO tb 2 U ?_;refine A5 ((i+1,knj,v4,ns4,upG g i r4)) ?_ ?_ ⟨atd,trivial⟩ ⟨Aa U,Aa U,Aa U,Aa U,Aa U,Aa U,Aa U,Aa U,Aa U,trivial⟩ ?_
      ·exact⟨by omega,hst4,out_y qom hos (by rw[in_end his,e4];rfl)⟩
      ·first|omega|(simp only[];omega)
      ·exact sbt
    ·obtain rfl:i=2:=by omega
     obtain⟨o1,o2,o3,o4⟩:=out_lv (G8 hNe k) hw hk ha hb hla hlb hev hN hos;refine rC tb 2 U (Au (rX tb 4 U (y_ (Kf U isAgg34 (by first|exact c_o|exact Aj (Fnd.mono hO.f3 (List.Sublist.trans hR (by exact sbt))) 0 _ U)) ?_ U)));refine y_ (Kf U isAgg3 (by first|exact c_o)) ?_ U;refine y_ (Bm (T U) Ak runUnderlying118 sizeOf3 qom) ?_ U;refine y_ (Kf U isAgg3 (by first|exact c_o)) ?_ U;refine y_ (Bm (T U) Ak runUnderlying118 sizeOf3 qom) ?_ U;refine y_ (Kf U isAgg3 (by first|exact c_o)) ?_ U;refine p_ (A3 (.cons (T rfl) (.cons (T rfl) (.cons (T rfl) (.cons (T rfl) .nil)))) call75 (A7 (M:=SM D vi nsi) (Ft hsti _ lv (g 0) (g 1) o1 o2 qom o3 o4) (by repeat (first|exact Bw|exact LocL.h|apply LocL.t|apply LocL.a)))) ?_ (by rintro _ ⟨⟨v5,ns5⟩,⟨e5,g5,hst5⟩,rfl⟩;(repeat (first|refine Cd ?_|refine Br ?_));exact Bn ⟨(kni,v5,ns5),⟨by rw[out_end h0 h01 hl hlv hos,e5];rfl,gi.trans g5,hst5⟩,rfl⟩ (by exact sbt)) rfl;rintro _ _ ⟨⟨r5,v5,ns5⟩,⟨rfl,e5,hst5⟩,rfl⟩
     dsimp only at e5 hst5
     refine rO tb 5 U (y_ (Kf U isAgg166 (by first|exact c_o|exact Aj (Fnd.mono hO.f2 (List.Sublist.trans hR (by exact sbt))) 0 _ U)) ?_ U);refine y_ (Kg U isAgg101 sizeOf101 U (by first|exact Ay)) ?_ U;refine rO tb 1 U (e_ (Ch (l:=kni) (a,b) r5 keyPr (T U) (T U) U (T U) U runUnderlying166) ?_ U);rintro _ _ ⟨rfl,rfl⟩;refine rO tb 9 U (B0 U (Ke U) ?_);exact⟨_,⟨(r5,upsert kni (a,b) r5,v5,ns5),⟨rfl,by rw[out_end h0 h01 hl hlv hos,e5];rfl,hst5⟩,rfl⟩,by exact sbt⟩
theorem se_s {D:Sd}{A:Sq}{w0:World}(hO:SqOk D A)(k:Nat):SeS D A k w0:=by
 induction k with
 |zero=>exact se_0
 |succ k ih=>
  intro R v ns kn a b hR hst hk ha hb hf;exact se_step hO ih hR hst hk ha hb hf
def AtF (P:Program) (f:FuncId) (c:Code) (Q:Exit→Act→World→Prop) (a:Act) (w:World):Prop:=
 ∀ b:Frame,b.roundOf=none→b.fn=f→∀ k cs,∃ e a' w',Q e a' w'∧ArrivesIn (Machine.fenced P Fence.wide) P (lone (b.atR a (.code c::k)) cs w) b k cs e a' w'
section
variable {P:Program} {f:FuncId} {Q:Exit→Act→World→Prop} {a:Act} {w:World}
theorem AtF.of {c:Code}(h:c.wpIn Fence.wide 0 P Q a w):AtF P f c Q a w:=fun b hr _ k cs=>h b k cs hr trivial (room_wide _)
theorem AtF.mono {c:Code}{Q':Exit→Act→World→Prop}(h:AtF P f c Q a w)(hq:∀ e a w,Q e a w→Q' e a w):AtF P f c Q' a w:=fun b hr hb k cs=>
 let ⟨e,a',w',h1,h2⟩:=h b hr hb k cs
 ⟨e,a',w',hq _ _ _ h1,h2⟩
theorem AtF.seq {x y:Code}{K:Act→World→Prop}(hx:AtF P f x (Exit.then K Q) a w)(hy:∀ a w,K a w→AtF P f y Q a w):AtF P f (.seq x y) Q a w:=by
 intro b hr hb k cs;obtain⟨e,a₁,w₁,hq,harr⟩:=hx b hr hb (.code y::k) cs;have h0:StepsIn (Machine.fenced P Fence.wide) P (lone (b.atR a (.code (.seq x y)::k)) cs w) (lone (b.atR a (.code x:: .code y::k)) cs w):= .one (fenced_wide _ _) stepR_seq
 by_cases he:e= .normal
 ·subst he;obtain⟨e₂,a₂,w₂,hq₂,harr₂⟩:=hy _ _ hq b hr hb k cs;exact⟨e₂,a₂,w₂,hq₂, .of_steps (StepsIn.trans h0 harr) harr₂⟩
 ·refine⟨e,a₁,w₁,?_, .of_steps h0 (.pass (x:= .code y) ?_ (fun _ _=> .inl (by simpa using he)) harr)⟩
  ·cases e<;>first|exact hq|exact absurd U he
  ·cases e<;>first|rfl|exact absurd U he
theorem AtF.block {id:Nat}{c:Code}(h:AtF P f c (fun e a w=>match e with| .normal=>Q .normal a w| .panic ch=>Q (.panic ch) a w|_=>False) a w):AtF P f (.block id c) Q a w:=by
 intro b hr hb k cs;obtain⟨e,a₁,w₁,hq,harr⟩:=h b hr hb (.inBlock id::k) cs;have h0:StepsIn (Machine.fenced P Fence.wide) P (lone (b.atR a (.code (.block id c)::k)) cs w) (lone (b.atR a (.code c:: .inBlock id::k)) cs w):= .one (fenced_wide _ _) stepR_block;cases e with
 |normal=>exact⟨.normal,a₁,w₁,hq,StepsIn.trans h0 (StepsIn.trans harr (.one (fenced_wide _ _) stepR_inBlock))⟩
 |panic ch=>exact⟨_,a₁,w₁,hq, .of_steps h0 harr⟩
 |_=>exact hq.elim
theorem AtF.range {g:Operand}{ps:Array Tmp}{assign body:Code}{l:Nat}{mark:List Deferred}{w₁:World}{d:Deferred}{w₁':World}{gf:FuncId}{args:Array Value}{w₂:World}
  (he:(Instr.enterLoop f a.tmps ps assign body none).run P w= .ok (l,mark) w₁) (hres:(resolve a.eval (rangeCall g l) 0).run P w₁= .ok d w₁') (hinv:(invoke d.target d.args).run P w₁'= .ok (.enter gf args) w₂)
  (hcall:Calls P gf args w₂ fun e w₃=>match e with
   | .returned _=>∃ w₄,(Instr.endLoop l).run P w₃= .ok none w₄∧Q .normal {a with defers:=mark++a.defers} w₄
   | .panicked chain=>Q (.panic chain) {a with defers:=mark++a.defers} w₃
   | .outgrown=>False):AtF P f (.rangeFunc g ps assign body) Q a w:=by
 intro b hr hb k cs;subst hb;have henter:=stepR_rangeFunc (P:=P) (b:=b) (a:=a) (k:=k) (cs:=cs) (w:=w) (by rw[hr];exact he) hres hinv;obtain⟨e,w₃,fr,hR,hsteps,hfn,hleave⟩:=(callsIn_wide.2 hcall:CallsIn Fence.wide 0 P gf args w₂ _).2 (b.atR {a with defers:=mark++a.defers} (.inRangeFunc l::k)::cs) (room_wide _);have h0:StepsIn (Machine.fenced P Fence.wide) P (lone (b.atR a (.code (.rangeFunc g ps assign body)::k)) cs w) _:= .one (fenced_wide _ _) henter;cases e with
 |outgrown=>exact hR.elim
 |returned v=>
  obtain⟨w₄,hend,hj⟩:=hR;refine⟨.normal,_,w₄,hj,StepsIn.trans h0 (StepsIn.trans hsteps (StepsIn.trans (.one (fenced_wide _ _) ?_) (.one (fenced_wide _ _) (stepR_endRangeFunc hend))))⟩;rw[← finish_atR_inRangeFunc l v];exact step_leave_returned hleave
 |panicked chain=>
  refine⟨.panic chain,_,w₃,hR, .inRangeFunc l::k,StepsIn.trans h0 (StepsIn.trans hsteps (.one (fenced_wide _ _) ?_))⟩;rw[← Frame.raise_atR];exact step_leave_panicked hleave
def roundEnd (P:Program) (l:Nat) (R:Ending→World→Prop):Exit→Act→World→Prop
 | .normal,_,w=>∃ v w',(Instr.endRound l none).run P w= .ok v w'∧R (.returned v) w'
 | .panic chain,a,w=>a.defers=[]∧R (.panicked chain) w
 |_,_,_=>False
theorem roundIn_of {l:Nat}{tmps:Array Value}{assign body:Code}{R:Ending→World→Prop}{fn:Func}(hf:P.funcs[f]? =some fn)
  (h:assign.wpIn (Fence.wide.inRound l) 0 P (fun e a₁ w₁=>match e with| .normal=>∃ w₂,(Instr.beginRound l).run P w₁= .ok () w₂∧body.wpIn (Fence.wide.inRound l) 0 P (roundEnd P l R) a₁ w₂|_=>False) {tmps:=tmps,defers:=[]} w):
  RoundIn Fence.wide 0 P l f tmps assign body w R:=by
 refine⟨trivial,fun c cs _=> ?_⟩;obtain⟨b,hbd⟩:∃ b:Frame,b={(default:Frame) with fn:=f,kind:= .normal,roundOf:=some l}:=⟨_,rfl⟩;have hb0:Frame.round l f tmps assign body .normal=b.atR {tmps:=tmps,defers:=[]} [.code assign, .beginRound, .code body]:=by
  subst hbd;simp[Frame.round,Frame.atR]
 have hbr:b.roundOf=some l:=by subst hbd;rfl
 have hbk:b.kind= .normal:=by subst hbd;rfl
 have hbf:b.fn=f:=by subst hbd;rfl
 have W:∀ m,Machine.fenced P Fence.wide m:=fenced_wide P;have up:∀ {m m'},StepsIn (Machine.fenced P (Fence.wide.inRound l)) P m m'→StepsIn (Machine.fenced P Fence.wide) P m m':=fun hs=>hs.mono fun m _=>W m
 obtain⟨e,a₁,w₁,hq,harr⟩:=h b [.beginRound, .code body] (c::cs) hbr trivial (room_wide _);rw[← hb0] at harr;cases e with
 |normal=>
  obtain⟨w₂,hbeg,hbody⟩:=hq;have s1:StepsIn (Machine.fenced P Fence.wide) P (lone (b.atR a₁ [.beginRound, .code body]) (c::cs) w₁) (lone (b.atR a₁ [.code body]) (c::cs) w₂):= .one (W _) (stepR_beginRound hbr hbeg);obtain⟨e₂,a₂,w₃,hq₂,harr₂⟩:=hbody b [] (c::cs) hbr trivial (room_wide _);cases e₂ with
  |normal=>
   obtain⟨v,w₄,hend,hR⟩:=hq₂;exact⟨.returned v,w₄,hR,StepsIn.trans (StepsIn.trans (up harr) s1) (StepsIn.trans (up harr₂) (.one (W _) (stepR_round_end hbr hbk hend)))⟩
  |panic chain=>
   obtain⟨hd,hR⟩:=hq₂;obtain⟨todo,hs⟩:=harr₂;refine⟨.panicked chain,w₃,hR,StepsIn.trans (StepsIn.trans (up harr) s1) (StepsIn.trans (up hs) (.one (W _) (step_leave_panicked ⟨rfl,hd,fn,?_⟩)))⟩;show P.funcs[b.fn]? =some fn;rw[hbf];exact hf
  |_=>exact hq₂.elim
 |_=>exact hq.elim
end
def YSpecP (P:Program) (w0:World) (l:Nat) (args:List Value) (H:List (Nat × Obj)) (K:Value→List (Nat × Obj)→Prop) (fv:Value) (B:List (Nat × Obj)→Prop):Prop:=
 ∀ w,Own w0 H w→∃ fn tmps assign body,(Instr.yield l args.toArray).run P w= .ok (.round l fn tmps assign body) w∧RoundIn Fence.wide 0 P l fn tmps assign body w (EndP w0 K fv B)
theorem YSpecP.mono {P:Program}{w0:World}{l:Nat}{args:List Value}{H:List (Nat × Obj)}{K K':Value→List (Nat × Obj)→Prop}{fv:Value}{B:List (Nat × Obj)→Prop}(h:YSpecP P w0 l args H K fv B)(hk:∀ v H',K v H'→K' v H'):YSpecP P w0 l args H K' fv B:=fun w hO=>
 let ⟨fn,tmps,assign,body,h1,h2⟩:=h w hO
 ⟨fn,tmps,assign,body,h1,h2.mono fun e w' h=>h.mono hk fun _ h=>h⟩
def IterSpecP (P:Program) (w0:World) (gf:FuncId) (cap:List Value) (Hc:List (Nat × Obj)) {α:Type} (enc:α→List Value) (xs:List α) (fv:Value):Prop:=
 ∀ (l:Nat) (S:Nat→List (Nat × Obj)→Prop) (B:List (Nat × Obj)→Prop),(∀ k H,S k H→Hc.Sublist H)→
  (∀ k x H X,xs[k]? =some x→S k H→YSpecP P w0 l (enc x) (X++H) (fun v H'=>∃ H1,H'=X++H1∧v= .bool true∧S (k+1) H1) fv B)→
  ∀ H,S 0 H→FSpecP P w0 gf (.func (.yield l) #[] #[]::cap).toArray H (fun v H'=>S xs.length H') fv B
theorem effP_yield {P:Program}{w0:World}{l:Nat}{L:Fm}{x:Operand}{xs:List Operand}{vs:List Value}{ts:Array TypeId}{ty:TypeId}{H:List (Nat × Obj)}{K:Value→List (Nat × Obj)→Prop}{fv:Value}{B:List (Nat × Obj)→Prop}(hx:Ev L x (.func (.yield l) #[] #[]))(ha:Evs L xs vs)(hy:YSpecP P w0 l vs H K fv B):
  EffP P w0 (.call {callee:= .value x,args:=xs.toArray,argTypes:=ts}) ty L H K fv B:=
 ⟨rfl,fun b w hO=>by
  have:=ha.map b;obtain⟨fn,tmps,assign,body,h1,h2⟩:=hy w hO;have e:(exO (ev (lk L b)) (.call {callee:= .value x,args:=xs.toArray,argTypes:=ts}) ty).run P w= .ok (.round l fn tmps assign body) w:=by
   simp[exO,execOp,resolve,invoke,Deferred.ofValue,hx b,this,h1,Sem.run_bind,Result.andThen]
  rw[e];exact h2⟩
def roundQP (w0:World) {Z:Type} (G:Z→List (Nat × Obj)) (φ:Z→Prop) (Y:List (Nat × Obj)) (fv:Value) (B:List (Nat × Obj)→Prop):Post
 | .normal,_,_,w=>∃ z,φ z∧Own w0 (G z) w
 | .panic c,_,ds,w=>ds=[]∧c=[{v:=fv,recovered:=false}]∧∃ H,Own w0 (Y++H) w∧B H
 |_,_,_,_=>False
section
variable {P:Program} {N:Nat} {w0:World} {Q:Post} {L:Fm} {ds:List Deferred} {H:List (Nat × Obj)} {f:FuncId} {fv:Value}
theorem E2 {Z:Type}{G:Z→List (Nat × Obj)}{φ:Z→Prop}{Y:List (Nat × Obj)}{B:List (Nat × Obj)→Prop}(z:Z)(h:φ z)(hs:(G z).Sublist H):JQ w0 (roundQP w0 G φ Y fv B) .normal L ds H:=fun b w hO=>⟨z,h,hO.sub hs⟩
theorem np_roundP {Z:Type}{G:Z→List (Nat × Obj)}{φ:Z→Prop}{Y:List (Nat × Obj)}{B:List (Nat × Obj)→Prop}:NoPanic (roundQP w0 G φ Y fv B):=⟨fun _ _ _ _ _ h=>h⟩
theorem Fu {Z:Type}{G:Z→List (Nat × Obj)}{φ:Z→Prop}{Y:List (Nat × Obj)}{B:List (Nat × Obj)→Prop}{H1:List (Nat × Obj)}(hB:B H1)(hs:(Y++H1).Sublist H):JQ w0 (roundQP w0 G φ Y fv B) (.panic [{v:=fv,recovered:=false}]) L [] H:=fun b w hO=>⟨rfl,rfl,H1,hO.sub hs,hB⟩
theorem np_allR {Q:Post}(h:NoPanic Q:=by repeat (first|exact Ho|exact np_retP|exact np_roundP|exact Ey|exact D3|apply E9|apply F8|apply Hp|apply Fn|apply E7|apply D8)):NoPanic Q:=h
theorem round_specP {Z:Type}{l:Nat}{fn:Func}(hfn:P.funcs[f]? =some fn){lr:LoopState→Option Code→Loop}{assign body:Code}{tmps:Array Value}{X Y:List (Nat × Obj)}{G:Z→List (Nat × Obj)}{φ:Z→Prop}{B:List (Nat × Obj)→Prop}(hl:LrOk lr)
  {b:Nat→Value} (ht:(fun k=>tmps.getD k undef)=lk L b) (hN:tmps.size=N)
  (h:J P (some l) N w0 assign (assignQ P l N body (roundQP w0 (fun z=>X++((l, .loop (lr .busy none))::(Y++G z))) φ Y fv B)) L [] H) {w:World} (hO:Own w0 H w):
  RoundIn Fence.wide 0 P l f tmps assign body w (EndP w0 (fun v H'=>v= .bool true∧∃ z,φ z∧H'=X++((l, .loop (lr .ready none))::(Y++G z))) fv (fun H'=>∃ H1,H'=Y++H1∧B H1)):=by
 refine roundIn_of hfn ?_;refine wpIn_mono (h b w hO {tmps:=tmps,defers:=[]} hN ht U) ?_;intro e a w1 hq;obtain⟨hs,hq⟩:=hq;cases e<;>first|exact hq.elim|skip
 obtain⟨w2,hb,hbody⟩:=hq;refine⟨w2,hb,wpIn_mono (hbody a hs U U) ?_⟩;intro e a2 w3 hq;obtain⟨hs2,hq⟩:=hq;cases e with
 |normal=>
  obtain⟨z,hz,hO3⟩:=hq;have hh:w3.heap[l]? =some (.loop (lr .busy none)):=hO3.has (l,_) (by simp);have h1:=run_endRound (P:=P) none hh;rw[hl.jump] at h1;exact⟨_,_,h1, .inl ⟨_,_,rfl,hO3.put upd_mid,rfl,z,hz,rfl⟩⟩
 |panic c=>
  obtain⟨hd,rfl,H1,hO3,hB⟩:=hq;exact⟨hd, .inr ⟨rfl,_,hO3,H1,rfl,hB⟩⟩
 |_=>exact hq.elim
def PanW (P:Program) (w0:World) (B:List (Nat × Obj)→Prop):List Deferred→World→Prop
 |[],w=>∃ H,Own w0 H w∧B H
 |d::ds,w=>∃ D w',d.target= .collected D∧(Instr.takeDeferred D).run P w= .ok [] w'∧PanW P w0 B ds w'
def retQM (P:Program) (fn:Func) (w0:World) (K:Value→List (Nat × Obj)→Prop) (fv:Value) (B:List (Nat × Obj)→Prop):Post
 | .normal,σ,ds,w=>RetW P fn w0 K σ ds w
 | .ret,σ,ds,w=>RetW P fn w0 K σ ds w
 | .panic c,σ,ds,w=>c=[{v:=fv,recovered:=false}]∧PanW P w0 B ds w
 |_,_,_,_=>False
def JA (P:Program) (f:FuncId) (N:Nat) (w0:World) (c:Code) (Q:Post) (L:Fm) (ds:List Deferred) (H:List (Nat × Obj)):Prop:=
 ∀ b w,Own w0 H w→∀ a:Act,a.tmps.size=N→fr a=lk L b→a.defers=ds→AtF P f c (LQ N Q) a w
theorem Iy {c:Code}(h:J P none N w0 c Q L ds H):JA P f N w0 c Q L ds H:=fun b w hO a hs hf hd=> .of (h b w hO a hs hf hd)
def thenA (P:Program) (f:FuncId) (N:Nat) (w0:World) (y:Code) (Q:Post):Post:=thenQ (fun σ ds w=>∀ a:Act,a.tmps.size=N→fr a=σ→a.defers=ds→AtF P f y (LQ N Q) a w) Q
theorem Eu {x y:Code}(h:JA P f N w0 x (thenA P f N w0 y Q) L ds H):JA P f N w0 (.seq x y) Q L ds H:=fun b w hO a hs hf hd=>
 AtF.seq (K:=fun a w=>a.tmps.size=N∧∀ a':Act,a'.tmps.size=N→fr a'=fr a→a'.defers=a.defers→AtF P f y (LQ N Q) a' w)
  ((h b w hO a hs hf hd).mono fun e a w hq=>by cases e<;>exact hq) fun a w hq=>hq.2 a hq.1 U U
theorem Dp {y:Code}(h:JA P f N w0 y Q L ds H):JQ w0 (thenA P f N w0 y Q) .normal L ds H:=h
theorem pq_thenA {y:Code}{c:List PanicEntry}(h:JQ w0 Q (.panic c) L ds H):JQ w0 (thenA P f N w0 y Q) (.panic c) L ds H:=h
def blockA (Q:Post):Post
 | .normal,σ,ds,w=>Q .normal σ ds w
 | .panic c,σ,ds,w=>Q (.panic c) σ ds w
 |_,_,_,_=>False
theorem ja_block {id:Nat}{c:Code}(h:JA P f N w0 c (blockA Q) L ds H):JA P f N w0 (.block id c) Q L ds H:=fun b w hO a hs hf hd=>
 AtF.block ((h b w hO a hs hf hd).mono fun e a w hq=>by cases e<;>first|exact hq|exact hq.2.elim)
theorem q_blockA (h:JQ w0 Q .normal L ds H):JQ w0 (blockA Q) .normal L ds H:=h
theorem pq_blockA {c:List PanicEntry}(h:JQ w0 Q (.panic c) L ds H):JQ w0 (blockA Q) (.panic c) L ds H:=h
theorem ja_range {α Z:Type}{g:Operand}{ps:List Nat}{assign body:Code}{gf:FuncId}{cap:List Value}{Hc:List (Nat × Obj)}{enc:α→List Value}{xs:List α}{fn:Func}
  (hfn:P.funcs[f]? =some fn) (hg:Ev L g (.func (.func gf) #[] cap.toArray)) (hc:∀ args w,(callFunc gf args).run P w= .ok (.enter gf args) w) (it:IterSpecP P w0 gf cap Hc enc xs fv) (hps:∀ x,(enc x).length=ps.length) (hpN:(ps.all fun p=>Nat.blt p N)=true)
  (G:Z→List (Nat × Obj)) (φ:Nat→Z→Prop) (B:List (Nat × Obj)→Prop) (z0:Z) (h0:φ 0 z0) (hG:(G z0).Sublist H) (hHc:∀ z,Hc.Sublist (G z))
  (round:∀ (l:Nat) (lr:LoopState→Option Code→Loop) (Y X:List (Nat × Obj)) (k:Nat) (x:α) (z:Z),LrOk lr→xs[k]? =some x→φ k z→
   J P (some l) N w0 assign (assignQ P l N body (roundQP w0 (fun z=>X++((l, .loop (lr .busy none))::(Y++G z))) (φ (k+1)) Y fv B)) (psL ps (enc x) L) [] (X++((l, .loop (lr .ready none))::(Y++G z))))
  (done:∀ D z,φ xs.length z→JQ w0 Q .normal L ({target:= .collected D,args:= #[]}::ds) ((D, .deferred (some []))::G z))
  (stopP:∀ D H1,B H1→JQ w0 Q (.panic [{v:=fv,recovered:=false}]) L ({target:= .collected D,args:= #[]}::ds) ((D, .deferred (some []))::H1)):
  JA P f N w0 (.rangeFunc g ps.toArray assign body) Q L ds H:=fun b w hO a hsz hf hd=>by
 have hO':=hO.sub hG;obtain⟨lr,hlr⟩:∃ lr:LoopState→Option Code→Loop,lr=fun st pe=>{state:=st,pending:=pe,fn:=f,tmps:=a.tmps,params:=ps.toArray,assign,body,defers:=w.heap.size}:=⟨_,rfl⟩
 have hl:LrOk lr:=by subst hlr;exact⟨fun _ _=>rfl,fun _ _ _=>rfl,fun _ _ _ _=>rfl,fun _ _=>rfl⟩
 have hO1:=(hO'.alloc (.deferred (some []))).alloc (.loop (lr .ready none));rw[World.size_alloc] at hO1;obtain⟨D,hDw⟩:∃ D,D=w.heap.size:=⟨_,rfl⟩;obtain⟨l,hlw⟩:∃ l,l=w.heap.size+1:=⟨_,rfl⟩;rw[← hlw,← hDw] at hO1;have hcond:=it l (fun k H=>∃ z,φ k z∧H=(l, .loop (lr .ready none))::([(D, .deferred (some []))]++G z))
  (fun H'=>∃ H1,H'=[(D, .deferred (some []))]++H1∧B H1)
  (fun k H ⟨z,_,hH⟩=>by rw[hH];exact((hHc z).cons _).cons _)
  (fun k x H X hx ⟨z,hz,hH⟩ w hOw=>by
   rw[hH] at hOw;have hh:w.heap[l]? =some (.loop (lr .ready none)):=hOw.has (l,_) (by simp);have hy:=run_yield (P:=P) (args:=(enc x).toArray) hh (by rw[hlr];simpa using hps x);have htm:a.tmps.size=N:=hsz;have hp:=psL_fr ps (enc x) a.tmps L b (fun p hp=>by have:=List.all_eq_true.1 hpN p hp;rw[htm];simpa[Nat.blt_eq] using this) hf;refine⟨_,_,_,_,hy,?_⟩;have h1:=round_specP (P:=P) (f:=f) hfn (tmps:=(ps.zip (enc x)).foldl (fun t (p,v)=>t.setIfInBounds p v) a.tmps) (X:=X) (Y:=[(D, .deferred (some []))]) (G:=G) (φ:=φ (k+1)) (B:=B) hl hp.2 (by rw[hp.1];exact htm) (round l lr [(D, .deferred (some []))] X k x z hl hx hz) hOw;have e0:(lr .ready none).fn=f:=by rw[hlr]
   have e1:(lr .ready none).assign=assign:=by rw[hlr]
   have e2:(lr .ready none).body=body:=by rw[hlr]
   have e3:((lr .ready none).params.zip (enc x).toArray).foldl (fun tmps (p:Tmp × Value)=>tmps.setIfInBounds p.1 p.2) (lr .ready none).tmps=(ps.zip (enc x)).foldl (fun t (p,v)=>t.setIfInBounds p v) a.tmps:=by rw[hlr];simp
   rw[e0,e1,e2];refine RoundIn.mono (by rw[← e3] at h1;exact h1) fun e w' h=>EndP.mono h ?_ fun _ h=>h
   rintro v H' ⟨hv,z',hz',hH'⟩;exact⟨_,hH',hv,z',hz',rfl⟩)
  ((l, .loop (lr .ready none))::([(D, .deferred (some []))]++G z0)) ⟨z0,h0,rfl⟩
 refine AtF.range (l:=l) (mark:=[{target:= .collected D,args:= #[]}]) (w₁:=(w.alloc (.deferred (some []))).alloc (.loop (lr .ready none))) (d:={target:= .fn (.func gf) cap.toArray,args:= #[.func (.yield l) #[] #[]]}) (w₁':=(w.alloc (.deferred (some []))).alloc (.loop (lr .ready none))) (gf:=gf) (args:=(.func (.yield l) #[] #[]::cap).toArray) (w₂:=(w.alloc (.deferred (some []))).alloc (.loop (lr .ready none))) ?enter ?res ?inv ?call
 case call=>
  refine(hcond _ hO1).mono ?_;rintro e w3 (⟨v,H',he,hO3,z,hz,hH'⟩|⟨he,H',hO3,H1,hH',hB⟩)
  ·subst he;rw[hH'] at hO3;have hh:w3.heap[l]? =some (.loop (lr .ready none)):=hO3.has (l,_) (by simp);have h1:=run_endLoop (P:=P) hh (by rw[hl.state];simp);refine⟨_,h1.trans (congrArg (fun q=>Result.ok q _) (hl.pend _ _)),hsz,?_⟩;have:=done D z hz b (w3.putObj l (.loop {lr .ready none with state:= .exhausted})) (hO3.put .h).tail;have hf':fr {a with defers:=[{target:= .collected D,args:= #[]}]++a.defers}=lk L b:=hf;rw[hf'];simp only[List.cons_append,List.nil_append,hd];exact this
  ·subst he;rw[hH'] at hO3;refine⟨hsz,?_⟩;have:=stopP D H1 hB b _ hO3;have hf':fr {a with defers:=[{target:= .collected D,args:= #[]}]++a.defers}=lk L b:=hf;rw[hf'];simp only[List.cons_append,List.nil_append,hd];exact this
 case enter=>
  have:=run_enterLoop_outer (P:=P) (w:=w) f a.tmps ps.toArray assign body;rw[hlr,hlw,hDw];exact this
 case res=>
  have hgb:=hg b;rw[← hf,← E6] at hgb;have e:resolve a.eval (rangeCall g l) 0=Deferred.ofValue (a.eval g) #[.func (.yield l) #[] #[]]:=by
   unfold resolve;simp only[List.map_toArray,List.map_cons,List.map_nil]
   rfl
  rw[e];rw[hgb];simp[Deferred.ofValue]
 case inv=>simp[invoke,hc]
variable {fn:Func} {K:Value→List (Nat × Obj)→Prop} {B:List (Nat × Obj)→Prop}
theorem qm_mark_ret {D:Nat}{H':List (Nat × Obj)}(k:JQ w0 (retQM P fn w0 K fv B) .ret L ds H')(hu:Upd H D (.deferred (some [])) (.deferred none) H':=by(repeat (first|exact Upd.h|apply Upd.t|apply Ci));done):
  JQ w0 (retQM P fn w0 K fv B) .ret L ({target:= .collected D,args:= #[]}::ds) H:=fun b w hO=>⟨D,_,rfl,run_takeDeferred (hO.has _ hu.mem),k b _ (hO.put hu)⟩
theorem qm_ret {rs:List ResultVar}{vs:List Value}(hr:fn.results=rs.toArray)(h:ResV P w0 L H rs vs)(hK:∃ H',K (resOf vs) H'∧H'.Sublist H):JQ w0 (retQM P fn w0 K fv B) .ret L [] H:=fun b w hO=>by
 obtain⟨H',h1,h2⟩:=hK;exact⟨_,H',Fl hr h hO,hO.sub h2,h1⟩
theorem pm_mark {D:Nat}{H1:List (Nat × Obj)}(hB:B H1):JQ w0 (retQM P fn w0 K fv B) (.panic [{v:=fv,recovered:=false}]) L [{target:= .collected D,args:= #[]}] ((D, .deferred (some []))::H1):=fun b w hO=>⟨rfl,D,_,rfl,run_takeDeferred (hO.has (D,_) (by simp)),H1,(hO.put .h).tail,hB⟩
theorem fn_specA {c:Code}{vs:List Value}(hf:P.funcs[f]? =some fn)(hb:fn.body=some c)(hN:fn.ntmps=N)(hv:Nat.ble vs.length N=true)
  (h:JA P f N w0 c (retQM P fn w0 K fv B) (ini 0 vs) [] H):FSpecP P w0 f vs.toArray H K fv B:=fun w hO=>by
 have hv':vs.length≤N:=by simpa using hv
 refine(callsIn_wide (n:=0)).1 ⟨trivial,fun cs _=> ?_⟩;obtain⟨fb,hfb⟩:∃ fb:Frame,fb={(default:Frame) with fn:=f,kind:= .normal,roundOf:=none}:=⟨_,rfl⟩;have henter:Frame.enter P f vs.toArray .normal=fb.atR {tmps:=vs.toArray++Array.replicate (fn.ntmps - vs.toArray.size) undef,defers:=[]} [.code c]:=by
  subst hfb;simp[Frame.enter,Frame.atR,hf,hb]
 have h1:=h (fun _=>undef) w hO {tmps:=vs.toArray++Array.replicate (fn.ntmps - vs.toArray.size) undef,defers:=[]} (by simp[hN];omega) (by
  funext k
  rw[Hn];unfold fr;simp only[Nat.zero_le,if_true,Nat.sub_zero,Array.getD_eq_getD_getElem?]
  by_cases hk:k<vs.length
  ·simp[Array.getElem?_append,hk]
  ·simp only[List.size_toArray,Array.getElem?_append,hk,if_false];rw[List.getElem?_eq_none qom];simp only[Array.getElem?_replicate]
   split<;>rfl) U
 have hbf:fb.fn=f:=by subst hfb;rfl
 have hbk:fb.kind= .normal:=by subst hfb;rfl
 obtain⟨e,a',w',⟨hs,hq⟩,harr⟩:=h1 fb (by subst hfb;rfl) hbf [] cs;rw[← henter] at harr;have hl:∀ {ds:List Deferred} {w:World} {tmps:Array Value},RetW P fn w0 K (fun k=>tmps.getD k undef) ds w→LeavesInM Fence.wide 0 P fn tmps (EndP w0 K fv B) ds .returning w:=by
  intro ds
  induction ds with
  |nil=>
   intro w tmps ⟨v,H,hr,hO,hK⟩;unfold LeavesInM LeavesIn;exact⟨v,hr _ U, .inl ⟨v,H,rfl,hO,hK⟩⟩
  |cons d ds ih=>
   intro w tmps ⟨D,w',h1,h2,h3⟩;unfold LeavesInM;exact⟨by simp, .inl ⟨D,w',h1,h2,ih h3⟩⟩
 have hp:∀ {ds:List Deferred} {w:World} {tmps:Array Value},PanW P w0 B ds w→LeavesInM Fence.wide 0 P fn tmps (EndP w0 K fv B) ds (.panicking [{v:=fv,recovered:=false}]) w:=by
  intro ds
  induction ds with
  |nil=>
   intro w tmps ⟨H,hO,hB⟩;unfold LeavesInM LeavesIn;exact .inr ⟨rfl,H,hO,hB⟩
  |cons d ds ih=>
   intro w tmps ⟨D,w',h1,h2,h3⟩;unfold LeavesInM;exact⟨by simp, .inl ⟨D,w',h1,h2,ih h3⟩⟩
 have fin:∀ (fr0:Frame) (m:FrameMode),fr0.mode=m→fr0.defers=a'.defers→fr0.tmps=a'.tmps→fr0.fn=f→fr0.kind= .normal→StepsIn (Machine.fenced P Fence.wide) P (lone (Frame.enter P f vs.toArray .normal) cs w) (lone fr0 cs w')→LeavesInM Fence.wide 0 P fn a'.tmps (EndP w0 K fv B) a'.defers m w'→
   ∃ e w'' fr',EndP w0 K fv B e w''∧ComesIn (Machine.fenced P Fence.wide) P (lone (Frame.enter P f vs.toArray .normal) cs w) (lone fr' cs w'') e∧fr'.fn=f∧fr'.leaving P w'' e:=fun fr0 m h1 h2 h3 h4 h5 hst hle=>by
  obtain⟨e',w'',fr',hR,hs,hfn,hl⟩:=leaves_stepsInM a'.defers m w' fr0 cs h1 h2 h3 (by rw[h4];exact hf) h5 trivial (room_wide _) hle;exact⟨e',w'',fr',hR,ComesIn.of_steps hst hs,hfn.trans h4,hl⟩
 cases e with
 |normal=>exact fin {fb.atR a' [] with mode:= .returning} .returning rfl rfl rfl hbf hbk (StepsIn.trans harr (.one (fenced_wide _ _) (stepR_end (by subst hfb;rfl)))) (hl hq)
 |ret=>
  obtain⟨todo,hs0⟩:=harr.1 (by subst hfb;rfl);exact fin {fb.atR a' todo with mode:= .returning} .returning U U U hbf hbk hs0 (hl hq)
 |panic chain=>
  obtain⟨rfl,hq⟩:=hq;obtain⟨todo,hs0⟩:=harr;exact fin {fb.atR a' todo with mode:= .panicking _} _ U U U hbf hbk hs0 (hp hq)
 |_=>exact hq.elim
end
end Go.Proofs.YtkojjapnfdlddaaGreat
