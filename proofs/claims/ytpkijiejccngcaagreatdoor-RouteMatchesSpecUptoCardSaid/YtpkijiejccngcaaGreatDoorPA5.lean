/-
  A part of what LawA rests on: the logic, walks and plain laws. No condition.
-/
import Derived.Test.YtpkijiejccngcaaGreatDoorPA4
namespace Go.Proofs.YtpkijiejccngcaaGreatDoor
open _root_.Go.Proofs.Tryz
open Go.RowKit
set_option linter.unusedVariables false
set_option linter.unusedSimpArgs false
set_option linter.unusedSectionVars false
set_option maxRecDepth 100000
def cstN (pr:List Int) (ls:List Nat):Int:=sI ls fun k=>gd pr k
structure Cert (ts:Pl→List (Pl × Nat)) (pr:List Int) (p0:Pl) (L:Pl→Int→Prop):Prop where
 start:L p0 0
 step:∀ p c,L p c→∀ x∈ts p,∃ d,L x.1 d∧d≤c+gd pr x.2
 ach:∀ p c,L p c→∃ ls,Chn ts p0 ls p∧cstN pr ls=c
theorem Cert.low {ts:Pl→List (Pl × Nat)}{pr:List Int}{p0:Pl}{L:Pl→Int→Prop}(h:Cert ts pr p0 L){ls:List Nat}{q:Pl}(hc:Chn ts p0 ls q):∃ d,L q d∧d≤cstN pr ls:=by
 induction hc with
 |nil=>exact⟨0,h.start,by simp[cstN,sI]⟩
 | @snoc ls q r l hc hm ih=>
  obtain⟨d,h1,h2⟩:=ih;obtain⟨e,h3,h4⟩:=h.step q d h1 _ hm;refine⟨e,h3,?_⟩;unfold cstN at *;rw[Fr];simp only[sI];simp only at h4;omega
def BestIs (L:Pl→Int→Prop) (fnd:Pl→Bool):Option Int→Prop
 |none=>∀ p d,fnd p=true→¬ L p d
 |some c=>(∃ p,fnd p=true∧L p c)∧∀ p d,fnd p=true→L p d→c≤d
abbrev RS:=List (Pl × Int) × List Pl
def rlx (pr:List Int) (p:Pl) (s:RS) (x:Pl × Nat):RS:=
 match look s.1 p,look s.1 x.1 with
 |some cp,none=>(upsert s.1 x.1 (cp+gd pr x.2),s.2++[x.1])
 |some cp,some d=>if cp+gd pr x.2<d then (upsert s.1 x.1 (cp+gd pr x.2),s.2++[x.1]) else s
 |none,_=>s
def rlxs (pr:List Int) (p:Pl) (s:RS) (l:List (Pl × Nat)):RS:=l.foldl (rlx pr p) s
section
variable {K:Type} [DecidableEq K]
theorem F8 {l:List (K × Int)}{k:K}{v:Int}(h:look l k=some v):(k,v)∈l:=by
 induction l with
 |nil=>cases h
 |cons e l ih=>
  rw[B1] at h
  split at h
  ·rename_i he;obtain⟨a,b⟩:=e;simp at he h;subst he h;simp
  ·exact List.mem_cons_of_mem _ (ih h)
theorem look_some {l:List (K × Int)}{k:K}(h:k∈l.map (·.1)):∃ v,look l k=some v:=by
 induction l with
 |nil=>cases h
 |cons e l ih=>
  rw[B1]
  split
  ·exact⟨_,rfl⟩
  ·rename_i he;rw[List.map_cons,List.mem_cons] at h;rcases h with h|h
   ·exact absurd h.symm he
   ·exact ih h
theorem upsert_none {l:List (K × Int)}{k:K}(v:Int)(h:look l k=none):upsert l k v=l++[(k,v)]:=by
 unfold look at h;unfold upsert;cases hf:findI k l 0 with
 |none=>rfl
 |some p=>rw[hf] at h;cases h
theorem keys_upsert {l:List (K × Int)}{k:K}(v:Int){d:Int}(h:look l k=some d):(upsert l k v).map (·.1)=l.map (·.1):=by
 induction l with
 |nil=>cases h
 |cons e l ih=>
  rw[B1] at h;rw[Ec]
  split
  ·rename_i he;simp[he]
  ·rename_i he;rw[if_neg he] at h;simp[ih h]
theorem sum_upsert {l:List (K × Int)}{k:K}(v:Int){d:Int}(h:look l k=some d):sI (upsert l k v) (·.2)=sI l (·.2) - d+v:=by
 induction l with
 |nil=>cases h
 |cons e l ih=>
  rw[B1] at h;rw[Ec]
  split
  ·rename_i he;rw[if_pos he] at h;simp at h;simp only[sI];omega
  ·rename_i he;rw[if_neg he] at h;simp only[sI];rw[ih h];omega
end
structure RI (ts:Pl→List (Pl × Nat)) (pr:List Int) (p0:Pl) (Pd:Pl→Prop) (N:Nat) (p:Pl) (rest:List (Pl × Nat)) (s:RS):Prop where
 nd:(s.1.map (·.1)).Nodup
 ok:∀ e∈s.1,Pd e.1
 start:look s.1 p0=some 0
 ach:∀ q c,look s.1 q=some c→∃ ls,Chn ts p0 ls q∧cstN pr ls=c
 rng:∀ e∈s.1,0≤e.2∧e.2≤1048576*((s.1.length:Int) - 1)
 que:∀ q∈s.2,∃ c,look s.1 q=some c
 cls:∀ q c,look s.1 q=some c→q∉s.2→∀ x∈ts q,(q=p∧x∈rest)∨∃ d,look s.1 x.1=some d∧d≤c+gd pr x.2
def phi (N:Nat) (s:RS):Int:=((N:Int) - s.1.length)*(1048576*N+1)+sI s.1 (·.2)
theorem look_pr {l:List (Pl × Int)}{q:Pl}{c:Int}{b:Int}(h:look l q=some c)(hr:∀ e∈l,0≤e.2∧e.2≤b):0≤c∧c≤b:=hr _ (F8 h)
theorem RI.few {ts:Pl→List (Pl × Nat)}{pr:List Int}{p0:Pl}{Pd:Pl→Prop}{N:Nat}{p:Pl}{rest:List (Pl × Nat)}{s:RS}(h:RI ts pr p0 Pd N p rest s)(hN:∀ l:List Pl,l.Nodup→(∀ p∈l,Pd p)→l.length≤N):s.1.length≤N:=by
 have:=hN _ h.nd fun q hq=>by
  obtain⟨e,he,rfl⟩:=List.mem_map.1 hq;exact h.ok e he
 simpa using this
theorem cst_snoc (pr:List Int)(ls:List Nat)(k:Nat):cstN pr (ls++[k])=cstN pr ls+gd pr k:=by
 unfold cstN;rw[Fr];simp[sI]
theorem RI.low {ts:Pl→List (Pl × Nat)}{pr:List Int}{p0:Pl}{Pd:Pl→Prop}{N:Nat}{p:Pl}{x:Pl × Nat}{rest:List (Pl × Nat)}{s:RS}(h:RI ts pr p0 Pd N p (x::rest) s)(hN:∀ l:List Pl,l.Nodup→(∀ p∈l,Pd p)→l.length≤N)
  (hx:x∈ts p) (hpx:Pd x.1) (hpr:0≤gd pr x.2∧gd pr x.2≤1048576) {cp:Int} (hp:look s.1 p=some cp) (hl:∀ d,look s.1 x.1=some d→cp+gd pr x.2<d):
  RI ts pr p0 Pd N p rest (upsert s.1 x.1 (cp+gd pr x.2),s.2++[x.1])∧phi N (upsert s.1 x.1 (cp+gd pr x.2),s.2++[x.1])+1≤phi N s:=by
 have hcp:=look_pr hp h.rng;have hlen:=h.few hN
 -- what is in the map then
 have hmem:∀ e∈upsert s.1 x.1 (cp+gd pr x.2),e=(x.1,cp+gd pr x.2)∨e∈s.1:=fun e he=>by
  unfold upsert at he
  split at he
  ·rename_i i v hf;rcases List.mem_or_eq_of_mem_set he with h1|h1
   ·exact .inr h1
   ·exact .inl h1
  ·rw[List.mem_append,List.mem_singleton] at he;exact he.symm
 have hmono:∀ q c,look s.1 q=some c→∃ d,look (upsert s.1 x.1 (cp+gd pr x.2)) q=some d∧d≤c:=fun q c hq=>by
  rw[Cm]
  by_cases e:x.1=q
  ·subst e;rw[if_pos rfl];exact⟨_,rfl,by have:=hl _ hq;omega⟩
  ·rw[if_neg e];exact⟨c,hq,Int.le_refl _⟩
 have key:((upsert s.1 x.1 (cp+gd pr x.2)).map (·.1)).Nodup∧s.1.length≤(upsert s.1 x.1 (cp+gd pr x.2)).length∧(∀ e∈upsert s.1 x.1 (cp+gd pr x.2),0≤e.2∧e.2≤1048576*(((upsert s.1 x.1 (cp+gd pr x.2)).length:Int) - 1))∧phi N (upsert s.1 x.1 (cp+gd pr x.2),s.2++[x.1])+1≤phi N s:=by
  cases hd:look s.1 x.1 with
  |none=>
   have hu:=upsert_none (cp+gd pr x.2) hd;have hnew:((s.1++[(x.1,cp+gd pr x.2)]).map (·.1)).Nodup:=by
    rw[List.map_append,List.map_cons,List.map_nil];refine List.nodup_append.2 ⟨h.nd,by simp,fun a ha b hb=> ?_⟩;simp at hb;subst hb;rintro rfl;obtain⟨v,hv⟩:=look_some ha;rw[hd] at hv;cases hv
   have hlen1:s.1.length+1≤N:=by
    have:=hN _ hnew fun q hq=>by
     obtain⟨e,he,rfl⟩:=List.mem_map.1 hq;rcases List.mem_append.1 he with he|he
     ·exact h.ok e he
     ·simp at he;subst he;exact hpx
    simpa using this
   rw[hu];refine⟨hnew,by simp,fun e he=> ?_,?_⟩
   ·rw[List.length_append,List.length_singleton];rcases List.mem_append.1 he with he|he
    ·have:=h.rng e he;omega
    ·simp at he;subst he;simp only[];omega
   ·unfold phi;rw[Fr,List.length_append];simp only[sI,List.length_singleton];have e1:((N:Int) - ((s.1.length+1:Nat):Int))*(1048576*N+1)=((N:Int) - s.1.length)*(1048576*N+1) - (1048576*N+1):=by
     rw[show ((s.1.length+1:Nat):Int)=(s.1.length:Int)+1 by omega,← Int.sub_sub,Int.sub_mul _ 1,Int.one_mul]
    rw[e1];omega
  |some d=>
   have hk:=keys_upsert (cp+gd pr x.2) hd;have hll:(upsert s.1 x.1 (cp+gd pr x.2)).length=s.1.length:=by
    have:=congrArg List.length hk
    simpa using this
   have hlt:=hl d hd;have hdr:=look_pr hd h.rng;refine⟨by rw[hk];exact h.nd,by omega,fun e he=> ?_,?_⟩
   ·rw[hll];rcases hmem e he with rfl|he
    ·simp only[];omega
    ·exact h.rng e he
   ·unfold phi;simp only[hll];rw[sum_upsert _ hd];omega
 obtain⟨k1,k2,k3,k4⟩:=key;refine⟨⟨k1,fun e he=> ?_,?_,fun q c hq=> ?_,k3,fun q hq=> ?_,fun q c hq hn y hy=> ?_⟩,k4⟩
 ·rcases hmem e he with rfl|he
  ·exact hpx
  ·exact h.ok e he
 ·show look (upsert s.1 x.1 _) p0=_;rw[Cm]
  by_cases e:x.1=p0
  ·have:=hl 0 (by rw[e];exact h.start);omega
  ·rw[if_neg e];exact h.start
 ·change look (upsert s.1 x.1 (cp+gd pr x.2)) q=some c at hq
  rw[Cm] at hq
  split at hq
  ·rename_i e;subst e;obtain rfl:=Option.some.inj hq;obtain⟨ls,h1,h2⟩:=h.ach p cp hp;exact⟨ls++[x.2], .snoc h1 hx,by rw[cst_snoc,h2]⟩
  ·exact h.ach q c hq
 ·rw[List.mem_append,List.mem_singleton] at hq;show ∃ c,look (upsert s.1 x.1 _) q=_;rcases hq with hq|rfl
  ·obtain⟨c,hc⟩:=h.que q hq;obtain⟨d,hd,_⟩:=hmono q c hc;exact⟨d,hd⟩
  ·rw[Cm,if_pos rfl];exact⟨_,rfl⟩
 ·change look (upsert s.1 x.1 (cp+gd pr x.2)) q=some c at hq
  change q∉s.2++[x.1] at hn
  rw[List.mem_append,List.mem_singleton,not_or] at hn;rw[Cm,if_neg (fun e=>hn.2 e.symm)] at hq;rcases h.cls q c hq hn.1 y hy with ⟨h1,h2⟩|⟨d,h1,h2⟩
  ·rw[List.mem_cons] at h2;rcases h2 with rfl|h2
   ·right;subst h1;rw[hp] at hq;obtain rfl:=Option.some.inj hq;refine⟨_,by show look (upsert s.1 y.1 _) y.1=_;rw[Cm,if_pos rfl],Int.le_refl _⟩
   ·exact .inl ⟨h1,h2⟩
  ·right;obtain⟨d',h3,h4⟩:=hmono y.1 d h1;exact⟨d',h3,by omega⟩
theorem RI.stay {ts:Pl→List (Pl × Nat)}{pr:List Int}{p0:Pl}{Pd:Pl→Prop}{N:Nat}{p:Pl}{x:Pl × Nat}{rest:List (Pl × Nat)}{s:RS}(h:RI ts pr p0 Pd N p (x::rest) s){cp d:Int}(hp:look s.1 p=some cp)(hd:look s.1 x.1=some d)(hl:d≤cp+gd pr x.2):RI ts pr p0 Pd N p rest s:=
 ⟨h.nd,h.ok,h.start,h.ach,h.rng,h.que,fun q c hq hn y hy=>by
  rcases h.cls q c hq hn y hy with ⟨h1,h2⟩|h1
  ·rw[List.mem_cons] at h2;rcases h2 with rfl|h2
   ·subst h1;rw[hp] at hq;obtain rfl:=Option.some.inj hq;exact .inr ⟨d,hd,hl⟩
   ·exact .inl ⟨h1,h2⟩
  ·exact .inr h1⟩
theorem RI.all {ts:Pl→List (Pl × Nat)}{pr:List Int}{p0:Pl}{Pd:Pl→Prop}{N:Nat}(hN:∀ l:List Pl,l.Nodup→(∀ p∈l,Pd p)→l.length≤N)(hts:∀ p,Pd p→∀ x∈ts p,Pd x.1)(hpr:∀ p,∀ x∈ts p,0≤gd pr x.2∧gd pr x.2≤1048576){p:Pl}:
  ∀ (done rest:List (Pl × Nat)) {s:RS},ts p=done++rest→(∃ c,look s.1 p=some c)→RI ts pr p0 Pd N p rest s→(∃ c,look (rlxs pr p s rest).1 p=some c)∧RI ts pr p0 Pd N p [] (rlxs pr p s rest)∧phi N (rlxs pr p s rest)+(rlxs pr p s rest).2.length≤phi N s+s.2.length∧2*phi N (rlxs pr p s rest)+(rlxs pr p s rest).2.length≤2*phi N s+s.2.length
 |done,[],s,_,hp,h=>⟨hp,h,Int.le_refl _,Int.le_refl _⟩
 |done,x::rest,s,e,⟨cp,hp⟩,h=>by
  have hx:x∈ts p:=by rw[e];simp
  have hpx:Pd x.1:=hts p (h.ok _ (F8 hp)) x hx;have e':ts p=(done++[x])++rest:=by rw[e];simp
  have go:∀ s':RS,rlx pr p s x=s'→(∃ c,look s'.1 p=some c)→RI ts pr p0 Pd N p rest s'→phi N s'+s'.2.length≤phi N s+s.2.length→2*phi N s'+s'.2.length≤2*phi N s+s.2.length→(∃ c,look (rlxs pr p s (x::rest)).1 p=some c)∧RI ts pr p0 Pd N p [] (rlxs pr p s (x::rest))∧phi N (rlxs pr p s (x::rest))+(rlxs pr p s (x::rest)).2.length≤phi N s+s.2.length∧2*phi N (rlxs pr p s (x::rest))+(rlxs pr p s (x::rest)).2.length≤2*phi N s+s.2.length:=by
   rintro s' rfl h1 h2 h3 h4;have:=RI.all hN hts hpr (done++[x]) rest e' h1 h2;refine⟨this.1,this.2.1,?_,?_⟩
   ·have:=this.2.2.1;show phi N (rlxs pr p (rlx pr p s x) rest)+((rlxs pr p (rlx pr p s x) rest).2.length:Int)≤_;omega
   ·have:=this.2.2.2;show 2*phi N (rlxs pr p (rlx pr p s x) rest)+((rlxs pr p (rlx pr p s x) rest).2.length:Int)≤_;omega
  have lw:(∀ d,look s.1 x.1=some d→cp+gd pr x.2<d)→rlx pr p s x=(upsert s.1 x.1 (cp+gd pr x.2),s.2++[x.1])→(∃ c,look (rlxs pr p s (x::rest)).1 p=some c)∧RI ts pr p0 Pd N p [] (rlxs pr p s (x::rest))∧phi N (rlxs pr p s (x::rest))+(rlxs pr p s (x::rest)).2.length≤phi N s+s.2.length∧2*phi N (rlxs pr p s (x::rest))+(rlxs pr p s (x::rest)).2.length≤2*phi N s+s.2.length:=fun hl er=>by
   obtain⟨h1,h2⟩:=h.low hN hx hpx (hpr p x hx) hp hl;refine go _ er ?_ h1 ?_ ?_
   ·show ∃ c,look (upsert s.1 x.1 _) p=_;rw[Cm];split
    ·exact⟨_,rfl⟩
    ·exact⟨_,hp⟩
   ·simp only[List.length_append,List.length_singleton];omega
   ·simp only[List.length_append,List.length_singleton];omega
  cases hd:look s.1 x.1 with
  |none=>exact lw (fun d h=>by rw[hd] at h;cases h) (by unfold rlx;rw[hp,hd])
  |some d=>
   by_cases hc:cp+gd pr x.2<d
   ·refine lw (fun d' h=>by rw[hd] at h;obtain rfl:=Option.some.inj h;exact hc) (by unfold rlx;rw[hp,hd];simp only[];rw[if_pos hc])
   ·exact go s (by unfold rlx;rw[hp,hd];simp only[];rw[if_neg hc]) ⟨cp,hp⟩ (h.stay hp hd qom) (Int.le_refl _) (Int.le_refl _)
theorem RI.pop {ts:Pl→List (Pl × Nat)}{pr:List Int}{p0:Pl}{Pd:Pl→Prop}{N:Nat}{p p':Pl}{m:List (Pl × Int)}{q:List Pl}(h:RI ts pr p0 Pd N p' [] (m,p::q)):RI ts pr p0 Pd N p (ts p) (m,q)∧∃ c,look m p=some c:=
 ⟨⟨h.nd,h.ok,h.start,h.ach,h.rng,fun a ha=>h.que a (List.mem_cons_of_mem _ ha),fun a c ha hn x hx=>by
  by_cases e:a=p
  ·subst e;exact .inl ⟨rfl,hx⟩
  ·rcases h.cls a c ha (by simp[e];exact hn) x hx with ⟨_,h1⟩|h1
   ·cases h1
   ·exact .inr h1⟩,h.que p (by simp)⟩
theorem RI.done {ts:Pl→List (Pl × Nat)}{pr:List Int}{p0:Pl}{Pd:Pl→Prop}{N:Nat}{p:Pl}{m:List (Pl × Int)}(h:RI ts pr p0 Pd N p [] (m,[])):Cert ts pr p0 (fun p c=>look m p=some c):=
 ⟨h.start,fun q c hq x hx=>by
  rcases h.cls q c hq (by simp) x hx with ⟨_,h1⟩|h1
  ·cases h1
  ·exact h1,h.ach⟩
theorem RI.init (ts:Pl→List (Pl × Nat))(pr:List Int){p0:Pl}{Pd:Pl→Prop}(N:Nat)(hp:Pd p0):RI ts pr p0 Pd N p0 [] ([(p0,0)],[p0]):=by
 have h0:∀ q c,look [(p0,(0:Int))] q=some c→p0=q∧c=0:=fun q c h=>by
  rw[B1] at h
  split at h
  ·rename_i e;exact⟨e,(Option.some.inj h).symm⟩
  ·cases h
 refine⟨by simp,fun e he=>by simp at he;subst he;exact hp,by rw[B1,if_pos rfl],fun q c h=> ?_,fun e he=>by simp at he;subst he;simp,fun q hq=> ?_,fun q c h hn=> ?_⟩
 ·obtain⟨rfl,rfl⟩:=h0 q c h;exact⟨[], .nil,rfl⟩
 ·simp at hq;subst hq;exact⟨0,by rw[B1,if_pos rfl]⟩
 ·obtain⟨rfl,_⟩:=h0 q c h;simp at hn
def relF (ts:Pl→List (Pl × Nat)) (pr:List Int):Nat→RS→Option (List (Pl × Int))
 |0,_=>none
 |_+1,(m,[])=>some m
 |f+1,(m,p::q)=>relF ts pr f (rlxs pr p (m,q) (ts p))
def bestF (fnd:Pl→Bool):List (Pl × Int)→Option Int
 |[]=>none
 |e::l=>match bestF fnd l with
  |none=>if fnd e.1 then some e.2 else none
  |some c=>if fnd e.1&&decide (e.2<c) then some e.2 else some c
theorem bestF_is (fnd:Pl→Bool):∀ l:List (Pl × Int),BestIs (fun p c=>(p,c)∈l) fnd (bestF fnd l)
 |[]=>fun p d _ h=>by cases h
 |e::l=>by
  have ih:=bestF_is fnd l;obtain⟨p,c⟩:=e;unfold bestF;cases hb:bestF fnd l with
  |none=>
   rw[hb] at ih;simp only[]
   split
   ·rename_i hf;refine⟨⟨p,hf,by simp⟩,fun q d hq hd=> ?_⟩;rcases List.mem_cons.1 hd with h|h
    ·cases h;exact Int.le_refl _
    ·exact absurd h (ih q d hq)
   ·rename_i hf;intro q d hq hd;rcases List.mem_cons.1 hd with h|h
    ·cases h;exact hf hq
    ·exact ih q d hq h
  |some b=>
   rw[hb] at ih;obtain⟨⟨q0,h1,h2⟩,h3⟩:=ih;simp only[]
   split
   ·rename_i hf;simp only[Bool.and_eq_true,decide_eq_true_eq] at hf;refine⟨⟨p,hf.1,by simp⟩,fun q d hq hd=> ?_⟩;rcases List.mem_cons.1 hd with h|h
    ·cases h;exact Int.le_refl _
    ·have:=h3 q d hq h;omega
   ·rename_i hf;simp only[Bool.and_eq_true,decide_eq_true_eq,not_and] at hf;refine⟨⟨q0,h1,by simp[h2]⟩,fun q d hq hd=> ?_⟩;rcases List.mem_cons.1 hd with h|h
    ·cases h;have:=hf hq;omega
    ·exact h3 q d hq h
theorem Fo {l:List (Pl × Int)}(h:(l.map (·.1)).Nodup){p:Pl}{c:Int}(hm:(p,c)∈l):look l p=some c:=by
 induction l with
 |nil=>cases hm
 |cons e l ih=>
  rw[List.map_cons,List.nodup_cons] at h;rw[B1];rcases List.mem_cons.1 hm with h1|h1
  ·subst h1;simp
  ·rw[if_neg,ih h.2 h1];intro e';exact h.1 (e' ▸ List.mem_map.2 ⟨_,h1,rfl⟩)
theorem BestIs.congr {L L':Pl→Int→Prop}{fnd:Pl→Bool}(h:∀ p c,L p c↔L' p c){r:Option Int}(hb:BestIs L fnd r):BestIs L' fnd r:=by
 have:L=L':=by funext p c;exact propext (h p c)
 exact this ▸ hb
theorem K9 {α:Type}[Inhabited α] (f:α→Int):∀ (l:List α) (k:Nat) (v:α),k<l.length→sI (l.set k v) f=sI l f - f (gd l k)+f v
 |[],k,v,h=>by cases h
 |x::l,0,v,_=>by simp[sI,gd];omega
 |x::l,k+1,v,h=>by
  have:=K9 f l k v (by simpa using h);simp only[List.set_cons_succ,sI];rw[this];simp[gd];omega
def cntP (le:List Int):Int:=sI le fun x=>if x<0 then 0 else 1
structure RJ (ts:Pl→List (Pl × Nat)) (pr:List Int) (p0:Pl) (pl:List Pl) (le:List Int):Prop where
 len:le.length=pl.length
 start:∃ s,s<pl.length∧gd pl s=p0∧gd le s=0
 ach:∀ i,i<pl.length→0≤gd le i→∃ ls,Chn ts p0 ls (gd pl i)∧cstN pr ls=gd le i
 rng:∀ i,i<pl.length→ -1≤gd le i∧gd le i≤1048576*(cntP le - 1)
def phj (N:Nat) (le:List Int):Int:=sI le fun x=>if x<0 then 1048576*N+1 else x
theorem Hw:∀ le:List Int,0≤cntP le∧cntP le≤le.length
 |[]=>⟨Int.le_refl _,Int.le_refl _⟩
 |x::l=>by
  have:=Hw l;unfold cntP at *;simp only[sI,List.length_cons]
  split<;>omega
theorem cntP_pos {le:List Int}{k:Nat}(hk:k<le.length)(h:0≤gd le k):1≤cntP le:=by
 have h1:=K9 (fun x:Int=>if x<0 then 0 else 1) le k (-1) hk;have h2:=(Hw (le.set k (-1))).1;unfold cntP at *;rw[h1] at h2;simp only[if_neg (show ¬ gd le k<0 by omega),show (-1:Int)<0 by omega,if_true] at h2;omega
theorem RJ.low {ts:Pl→List (Pl × Nat)}{pr:List Int}{p0:Pl}{pl:List Pl}{le:List Int}(h:RJ ts pr p0 pl le){i k l:Nat}(hi:i<pl.length)(hk:k<pl.length)(h0:0≤gd le i)(hx:(gd pl k,l)∈ts (gd pl i))(hpr:0≤gd pr l∧gd pr l≤1048576)(hl:gd le k<0∨gd le i+gd pr l<gd le k):
  RJ ts pr p0 pl (le.set k (gd le i+gd pr l))∧phj pl.length (le.set k (gd le i+gd pr l))+1≤phj pl.length le:=by
 have hlen:=h.len;have hg:∀ j,gd (le.set k (gd le i+gd pr l)) j=if j=k then gd le i+gd pr l else gd le j:=fun j=>by
  unfold gd;simp only[List.getD,List.getElem?_set]
  by_cases e:k=j
  ·subst e;simp[hlen,hk]
  ·rw[if_neg e,if_neg (fun h=>e h.symm)]
 have hri:=h.rng i hi;have hrk:=h.rng k hk;have c1:=cntP_pos (by rw[hlen];exact hi) h0;have c2:=(Hw le).2;have hc:cntP (le.set k (gd le i+gd pr l))=cntP le+if gd le k<0 then 1 else 0:=by
  unfold cntP;rw[K9 _ _ _ _ (by rw[hlen];exact hk)];simp only[if_neg (show ¬ gd le i+gd pr l<0 by omega)]
  split<;>omega
 have hp:phj pl.length (le.set k (gd le i+gd pr l))=phj pl.length le - (if gd le k<0 then 1048576*(pl.length:Int)+1 else gd le k)+(gd le i+gd pr l):=by
  unfold phj;rw[K9 _ _ _ _ (by rw[hlen];exact hk)];simp only[if_neg (show ¬ gd le i+gd pr l<0 by omega)]
 have hcl:gd le k<0→cntP le+1≤pl.length:=fun hn=>by
  have:=(Hw (le.set k (gd le i+gd pr l))).2;rw[hc,if_pos hn,List.length_set,hlen] at this;omega
 refine⟨⟨by rw[List.length_set,hlen],?_,fun j hj hj0=> ?_,fun j hj=> ?_⟩,?_⟩
 ·obtain⟨s,h1,h2,h3⟩:=h.start;refine⟨s,h1,h2,?_⟩;rw[hg]
  split
  ·rename_i e;subst e;omega
  ·exact h3
 ·rw[hg] at hj0 ⊢
  split at hj0
  ·rename_i e;subst e;rw[if_pos rfl];obtain⟨ls,h1,h2⟩:=h.ach i hi h0;exact⟨ls++[l], .snoc h1 hx,by rw[cst_snoc,h2]⟩
  ·rename_i e;rw[if_neg e];exact h.ach j hj hj0
 ·rw[hg,hc];have:=h.rng j hj
  split
  ·split<;>omega
  ·split<;>omega
 ·rw[hp]
  split
  ·rename_i hn;have:=hcl hn;omega
  ·rename_i hn;omega
theorem RJ.cert {ts:Pl→List (Pl × Nat)}{pr:List Int}{p0:Pl}{pl:List Pl}{le:List Int}(h:RJ ts pr p0 pl le)(hc:∀ i,i<pl.length→0≤gd le i→∀ x∈ts (gd pl i),∃ k,k<pl.length∧gd pl k=x.1∧0≤gd le k∧gd le k≤gd le i+gd pr x.2):Cert ts pr p0 (fun p c=>∃ i,i<pl.length∧gd pl i=p∧0≤gd le i∧gd le i=c):=by
 refine⟨?_,?_,?_⟩
 ·obtain⟨s,h1,h2,h3⟩:=h.start;exact⟨s,h1,h2,by omega,h3⟩
 ·rintro p c ⟨i,h1,rfl,h3,rfl⟩ x hx;obtain⟨k,g1,g2,g3,g4⟩:=hc i h1 h3 x hx;exact⟨_,⟨k,g1,g2,g3,rfl⟩,g4⟩
 ·rintro p c ⟨i,h1,rfl,h3,rfl⟩;exact h.ach i h1 h3
theorem cost_nat (pr:List Int)(ls:List Nat):costI pr (toInts ls)=cstN pr ls:=by
 unfold costI cstN toInts;rw[Kj];exact sI_congr fun k _=>by rw[Int.toNat_natCast]
theorem cost_int (pr:List Int)(ls:List Int):cstN pr (ls.map Int.toNat)=costI pr ls:=by
 unfold costI cstN;rw[Kj]
theorem price_none {n:Nn}{f:Flr}{o:Odr}(pr:List Int)(h:f.node=o.x):PriceIs n f o pr none:=fun ls=>by
 unfold holdsF;simp[h]
theorem price_of {n:Nn}{f:Flr}{m:PM}{o:Odr}{pr:List Int}(hm:McE m o.e)(hf: ¬ f.node=o.x){L:Pl→Int→Prop}(hc:Cert (movesF n f m) pr (p0F n m o.x) L){r:Option Int}(hb:BestIs L (fndF o.y m) r):PriceIs n f o pr r:=by
 have key:∀ ls,holdsF n f o.e o.x o.y ls=true→∃ q d,fndF o.y m q=true∧L q d∧d≤costI pr ls:=fun ls h=>by
  obtain⟨_,q,h1,h2⟩:=holds_chn hm h;obtain⟨d,h3,h4⟩:=hc.low h1;rw[cost_int] at h4;exact⟨q,d,h2,h3,h4⟩
 cases r with
 |none=>
  intro ls;cases h:holdsF n f o.e o.x o.y ls
  ·rfl
  ·obtain⟨q,d,h1,h2,_⟩:=key ls h;exact absurd h2 (hb q d h1)
 |some c=>
  obtain⟨⟨q,h1,h2⟩,h3⟩:=hb;obtain⟨ls,h4,h5⟩:=hc.ach q c h2;refine⟨⟨toInts ls,chn_holds hm hf h4 h1,by rw[cost_nat,h5]⟩,fun l2 h=> ?_⟩;obtain⟨p,d,g1,g2,g3⟩:=key l2 h;have:=h3 p d g1 g2;omega
theorem take_iff {n:Nn}{a:Int}(ha:0≤a):∀ {ls:List Nat} {ld:List Int},(∀ k∈ls,k<ld.length)→((takeF n a ls ld).isSome=true↔∀ k∈ls,gd ld k+cntI (toInts ls) k*a≤16*(gd n.links k).cap)
 |[],ld,_=>by simp[takeF]
 |x::xs,ld,hl=>by
  have hx:=hl x (by simp);have hg:∀ k,gd (ld.set x (gd ld x+a)) k=gd ld k+(if x=k then a else 0):=fun k=>by
   by_cases e:x=k
   ·subst e;rw[if_pos rfl,Ar (by simpa using hx)];simp
   ·rw[if_neg e];unfold gd;simp[List.getD,List.getElem?_set_ne e]
  have ih:=take_iff (n:=n) ha (ls:=xs) (ld:=ld.set x (gd ld x+a)) (fun k hk=>by rw[List.length_set];exact hl k (by simp[hk]));have hcnt:∀ k,cntI (toInts (x::xs)) k*a=(if x=k then a else 0)+cntI (toInts xs) k*a:=fun k=>by
   rw[I6,Int.add_mul]
   congr 1
   split
   ·exact Int.one_mul a
   ·exact Int.zero_mul a
  have hnn:∀ k,0≤cntI (toInts xs) k*a:=fun k=>Int.mul_nonneg (cntI_nonneg _ _) ha
  unfold takeF
  by_cases hc:capB n ld x a=true
  ·rw[if_pos hc,ih];have hc':gd ld x+a≤16*(gd n.links x).cap:=by simpa[capB] using hc
   constructor
   ·intro h k hk;rw[hcnt k]
    by_cases hm:k∈xs
    ·have:=h k hm;rw[hg k] at this;omega
    ·rcases List.mem_cons.1 hk with rfl|hk
     ·have h0:cntI (toInts xs) k=0:=by
       unfold cntI toInts;rw[Kj,sI_congr (g:=fun _=>0) (fun j hj=> ?_),sI_zero];unfold one;rw[if_neg];intro e;have:j=k:=by omega
       exact hm (this ▸ hj)
      rw[h0,if_pos rfl];omega
     ·exact absurd hk hm
   ·intro h k hk;have:=h k (by simp[hk]);rw[hcnt k] at this;rw[hg k];omega
  ·rw[if_neg hc];have hc': ¬ gd ld x+a≤16*(gd n.links x).cap:=by simpa[capB] using hc
   constructor
   ·intro h;cases h
   ·intro h;have:=h x (by simp);rw[hcnt x,if_pos rfl] at this;have:=hnn x;omega
theorem lx_tri:∀ (a b:List Nat),putS.lxB a b=true∨a=b∨putS.lxB b a=true
 |[],[]=> .inr (.inl rfl)
 |[],_::_=> .inl rfl
 |_::_,[]=> .inr (.inr rfl)
 |a::x,b::y=>by
  unfold putS.lxB;rcases Nat.lt_trichotomy a b with h|h|h
  ·left;simp[h]
  ·subst h;rcases lx_tri x y with h|h|h
   ·left;simp[h]
   ·right;left;rw[h]
   ·right;right;simp[h]
  ·right;right;simp[h]
theorem lx_irr:∀ a:List Nat,putS.lxB a a=false
 |[]=>rfl
 |a::x=>by unfold putS.lxB;simp[lx_irr x]
theorem F9:∀ {a b c:List Nat},putS.lxB a b=true→putS.lxB b c=true→putS.lxB a c=true
 |[],b,[],h1,h2=>by cases b<;>cases h2
 |[],b,_::_,_,_=>rfl
 |a::x,[],c,h1,_=>by cases h1
 |a::x,b::y,[],_,h2=>by cases h2
 |a::x,b::y,c::z,h1,h2=>by
  unfold putS.lxB at *;simp only[Bool.or_eq_true,decide_eq_true_eq,Bool.and_eq_true] at *;rcases h1 with h1|⟨rfl,h1⟩
  ·rcases h2 with h2|⟨rfl,h2⟩
   ·left;omega
   ·left;exact h1
  ·rcases h2 with h2|⟨rfl,h2⟩
   ·left;exact h2
   ·right;exact⟨rfl,F9 h1 h2⟩
abbrev SrtS (own:List Sha):Prop:=own.Pairwise fun a b=>putS.lxB a.l b.l=true
theorem putS_mem {ls:List Nat}:∀ {own:List Sha} {s:Sha},s∈putS ls own→s.l=ls∨s∈own
 |[],s,h=>by simp[putS] at h;subst h;exact .inl rfl
 |x::r,s,h=>by
  unfold putS at h
  split at h
  ·rcases List.mem_cons.1 h with rfl|h
   ·exact .inl U
   ·exact .inr (by simp[h])
  ·split at h
   ·rcases List.mem_cons.1 h with rfl|h
    ·exact .inl U
    ·exact .inr h
   ·rcases List.mem_cons.1 h with rfl|h
    ·exact .inr (by simp)
    ·rcases putS_mem h with h|h
     ·exact .inl h
     ·exact .inr (by simp[h])
theorem G9 (ls:List Nat):∀ {own:List Sha},SrtS own→SrtS (putS ls own)
 |[],_=>by simp[putS,SrtS]
 |x::r,h=>by
  have h':=List.pairwise_cons.1 h;unfold putS
  split
  ·rename_i e;exact List.pairwise_cons.2 ⟨fun y hy=>by have:=h'.1 y hy;rw[e] at this;exact this,h'.2⟩
  ·rename_i hne
   split
   ·rename_i hl;refine List.pairwise_cons.2 ⟨fun y hy=> ?_,h⟩;rcases List.mem_cons.1 hy with rfl|hy
    ·exact hl
    ·exact F9 hl (h'.1 y hy)
   ·rename_i hl;refine List.pairwise_cons.2 ⟨fun y hy=> ?_,G9 ls h'.2⟩;rcases putS_mem hy with hy|hy
    ·rw[hy];rcases lx_tri x.l ls with h1|h1|h1
     ·exact h1
     ·exact absurd h1 hne
     ·exact absurd h1 (by simpa using hl)
    ·exact h'.1 y hy
theorem srt_eq:∀ {a b:List Sha},SrtS a→SrtS b→a.Perm b→a=b
 |[],b,_,_,h=>(List.Perm.nil_eq h)
 |x::a,[],_,_,h=>by cases (List.Perm.symm h).nil_eq
 |x::a,y::b,ha,hb,h=>by
  have ha':=List.pairwise_cons.1 ha;have hb':=List.pairwise_cons.1 hb;have e:x=y:=by
   have h1:x∈y::b:=h.subset (by simp);have h2:y∈x::a:=h.symm.subset (by simp);rcases List.mem_cons.1 h1 with e|h1
   ·exact e
   ·rcases List.mem_cons.1 h2 with e|h2
    ·exact e.symm
    ·have g1:=hb'.1 x h1;have g2:=ha'.1 y h2;have:=F9 g1 g2;rw[lx_irr] at this;cases this
  subst e;rw[srt_eq ha'.2 hb'.2 ((List.perm_cons x).1 h)]
def putU (ls:List Nat):List Sha→List Sha
 |[]=>[⟨ls,1⟩]
 |s::r=>if s.l=ls then ⟨ls,s.p+1⟩::r else s::putU ls r
theorem putU_perm (ls:List Nat):∀ {own:List Sha},SrtS own→(putU ls own).Perm (putS ls own)
 |[],_=>List.Perm.refl _
 |x::r,h=>by
  have h':=List.pairwise_cons.1 h;unfold putU putS
  split
  ·exact List.Perm.refl _
  ·rename_i hne
   split
   ·rename_i hl;have:∀ {r:List Sha},(∀ s∈r,putS.lxB ls s.l=true)→(putU ls r).Perm (⟨ls,1⟩::r):=fun {r}=>by
     induction r with
     |nil=>intro _;exact List.Perm.refl _
     |cons y r ih=>
      intro hr;unfold putU;have hy:=hr y (by simp);rw[if_neg (fun e=>by rw[e,lx_irr] at hy;cases hy)];exact((ih fun s hs=>hr s (by simp[hs])).cons y).trans (List.Perm.swap _ _ _)
    exact((this fun s hs=>F9 hl (h'.1 s hs)).cons x).trans (List.Perm.swap _ _ _)
   ·exact(putU_perm ls h'.2).cons x
theorem putU_congr (ls:List Nat):∀ {a b:List Sha},(a.map Sha.l).Nodup→a.Perm b→(putU ls a).Perm (putU ls b):=by
 have split:∀ {a:List Sha},(a.map Sha.l).Nodup→∀ s∈a,s.l=ls→∃ r,a.Perm (s::r)∧(putU ls a).Perm (⟨ls,s.p+1⟩::r):=fun {a}=>by
  induction a with
  |nil=>intro _ s hs;cases hs
  |cons x a ih=>
   intro hn s hs e;rw[List.map_cons,List.nodup_cons] at hn;rcases List.mem_cons.1 hs with rfl|hs
   ·refine⟨a,List.Perm.refl _,?_⟩;unfold putU;rw[if_pos e]
   ·have hne: ¬ x.l=ls:=fun e2=>hn.1 (by rw[e2,← e];exact List.mem_map.2 ⟨s,hs,rfl⟩)
    obtain⟨r,h1,h2⟩:=ih hn.2 s hs e;refine⟨x::r,(h1.cons x).trans (List.Perm.swap _ _ _),?_⟩;unfold putU;rw[if_neg hne];exact(h2.cons x).trans (List.Perm.swap _ _ _)
 have none:∀ {a:List Sha},(∀ s∈a,¬ s.l=ls)→putU ls a=a++[⟨ls,1⟩]:=fun {a}=>by
  induction a with
  |nil=>intro _;rfl
  |cons x a ih=>
   intro h;unfold putU;rw[if_neg (h x (by simp)),ih fun s hs=>h s (by simp[hs])];rfl
 intro a b hn hp;have hnb:(b.map Sha.l).Nodup:=(hp.map _).nodup_iff.1 hn
 by_cases h:∃ s∈a,s.l=ls
 ·obtain⟨s,hs,e⟩:=h;obtain⟨r1,h1,h2⟩:=split hn s hs e;obtain⟨r2,h3,h4⟩:=split hnb s (hp.subset hs) e;have:(s::r1).Perm (s::r2):=(h1.symm.trans hp).trans h3;exact(h2.trans (((List.perm_cons s).1 this).cons _)).trans h4.symm
 ·have ha:∀ s∈a,¬ s.l=ls:=fun s hs e=>h ⟨s,hs,e⟩
  rw[none ha,none fun s hs=>ha s (hp.symm.subset hs)];exact hp.append_right _
structure OdR (m:Om) (o:Odr):Prop where
 x:m.x=o.x
 y:m.y=o.y
 amt:m.amt=o.amt
 e:Is m.m o.e
structure OsR (os:List Om) (os':List Odr):Prop where
 len:os'.length=os.length
 at':∀ i,i<os.length→OdR (gd os i) (gd os' i)
abbrev rowOf (r:Lr):List Lan:=r.l.map Lm.lan
abbrev shOf (a:List Lr):List (List Lan):=a.map rowOf
theorem gd_zip {α β:Type}[Inhabited α] [Inhabited β]:∀ {a:List α} {b:List β} {i:Nat},i<a.length→i<b.length→(a.zip b)[i]? =some (gd a i,gd b i)
 |[],b,i,h,_=>by cases h
 |x::a,[],i,_,h=>by cases h
 |x::a,y::b,0,_,_=>rfl
 |x::a,y::b,i+1,h1,h2=>by
  rw[List.zip_cons_cons,List.getElem?_cons_succ,gd_zip (by simpa using h1) (by simpa using h2)];rfl
theorem zip_take {α β:Type}[Inhabited α] [Inhabited β] {a:List α}{b:List β}{i:Nat}(h1:i<a.length)(h2:i<b.length):(a.zip b).take (i+1)=(a.zip b).take i++[(gd a i,gd b i)]:=by
 rw[List.take_add_one,gd_zip h1 h2];rfl
theorem J4 {a:List Lr}{i:Nat}(h:i<a.length):gd (shOf a) i=rowOf (gd a i):=Bv h
theorem shT_gd {z:List Int}{N:Nat}(hz:z.length=N){os:List Om}{os':List Odr}(hos:OsR os os'){a:List Lr}(hl:a.length=os.length)(hx:∀ r∈a,∀ s∈r.l,∀ x∈s.l,0≤x∧x<N)(k:Nat):∀ i,i≤a.length→gd (shT z os a i) k=gd z k+sI ((os'.zip (shOf a)).take i) fun x=>ordLd x.1.amt x.2 k
 |0,_=>by simp[shT,sI]
 |i+1,h=>by
  rw[shT,rowL_gd (fun s hs x hx'=>by rw[Dd,hz];exact hx _ (Ag qom) s hs x hx'),shT_gd hz hos hl hx k i qom,zip_take (by rw[hos.len];omega) (by rw[List.length_map];omega),Fr,J4 qom];have:=(hos.at' i qom).amt;rw[this];show gd z k+_+ordLd (gd os' i).amt (rowOf (gd a i)) k=_;simp only[sI];omega
theorem shT_ld {N:Nat}{os:List Om}{os':List Odr}(hos:OsR os os'){a:List Lr}(hl:a.length=os.length)(hx:∀ r∈a,∀ s∈r.l,∀ x∈s.l,0≤x∧x<N){k:Nat}(hk:k<N):gd (shT (List.replicate N 0) os a a.length) k=ldAt os' (shOf a) k:=by
 rw[shT_gd (by simp) hos hl hx k _ (Nat.le_refl _),J3 hk,List.take_of_length_le (by simp[hos.len,hl])];unfold ldAt;omega
def AllH (n:Nn) (f:Flr) (os:List Odr) (a:List Lr):Prop:=∀ i,i<a.length→∀ k,k<(gd a i).l.length→holdsF n f (gd os i).e (gd os i).x (gd os i).y (gd (gd a i).l k).l=true
def CapP (n:Nn) (os:List Odr) (a:List Lr):Prop:=∀ k,k<n.links.length→ldAt os (shOf a) k≤16*(gd n.links k).cap
def FitC (n:Nn) (f:Flr) (os:List Odr) (a:List Lr) (c:Int):Prop:=
 (¬ FormedP os.length a∧c=1)∨((FormedP os.length a∧¬ AllH n f os a)∧c=18)∨(((FormedP os.length a∧AllH n f os a)∧¬ CapP n os a)∧c=19)∨(((FormedP os.length a∧AllH n f os a)∧CapP n os a)∧c=0)
theorem FitC.uniq {n:Nn}{f:Flr}{os:List Odr}{a:List Lr}{c d:Int}(h1:FitC n f os a c)(h2:FitC n f os a d):c=d:=by
 rcases h1 with ⟨a1,b1⟩|⟨⟨a1,a2⟩,b1⟩|⟨⟨⟨a1,a2⟩,a3⟩,b1⟩|⟨⟨⟨a1,a2⟩,a3⟩,b1⟩<;>rcases h2 with ⟨e1,f1⟩|⟨⟨e1,e2⟩,f1⟩|⟨⟨⟨e1,e2⟩,e3⟩,f1⟩|⟨⟨⟨e1,e2⟩,e3⟩,f1⟩<;>first|(exfalso;simp_all;done)|omega
theorem FitC.ok {n:Nn}{f:Flr}{os:List Odr}{a:List Lr}(h:FitC n f os a 0):FormedP os.length a∧AllH n f os a∧CapP n os a:=by
 rcases h with ⟨_,h⟩|⟨_,h⟩|⟨_,h⟩|⟨h,_⟩
 ·omega
 ·omega
 ·omega
 ·exact⟨h.1.1,h.1.2,h.2⟩
theorem FitC.of {n:Nn}{f:Flr}{os:List Odr}{a:List Lr}(h1:FormedP os.length a)(h2:AllH n f os a)(h3:CapP n os a):FitC n f os a 0:= .inr (.inr (.inr ⟨⟨⟨h1,h2⟩,h3⟩,rfl⟩))
theorem row_sum (r:Lr):sI r.l Lm.p=sI (rowOf r) Lan.p:=by
 unfold rowOf;rw[Kj];rfl
structure Qu where
 n:Nat
 pre:List Value
 cap:Nat
 junk:List Value
 post:List Value
abbrev quQ (d:Qu):Option Addr:=some ⟨d.n,d.pre.length,none⟩
abbrev quV (d:Qu) (k:Nat):Value:= .slice (quQ d) k d.cap
abbrev quO (d:Qu) (cells:List Value) (e:TypeId):Obj:=Cl (d.pre++(cells++(d.junk++d.post))) e
def QuOk (d:Qu) (k sz:Nat):Prop:=k≤d.cap∧d.junk.length=(d.cap - k)*sz
theorem qu_arr {α:Type}{w0:World}{H:List (Nat × Obj)}{d:Qu}{sz:Nat}{enc:α→List Value}{l:List α}{e:TypeId}(he:∀ x,(enc x).length=sz)(hf:Fnd H d.n (quO d (l.flatMap enc) e)):Arr w0 H (quQ d) sz enc l:=fun i x hi=>⟨rfl,fun j v hj=>by
 refine Br hf ?_;show (d.pre++(l.flatMap enc++(d.junk++d.post)))[d.pre.length+i*sz+j]? =some v;have h1:=Gw he l i x j v hi hj;have h2:=(List.getElem?_eq_some_iff.1 h1).1;rw[List.getElem?_append_right qom,show d.pre.length+i*sz+j - d.pre.length=i*sz+j by omega,List.getElem?_append_left h2];exact h1⟩
theorem qu_pop {α:Type}{d:Qu}{sz k:Nat}{enc:α→List Value}{x:α}{l:List α}(e:TypeId)(he:∀ x,(enc x).length=sz)(h:QuOk d (l.length+1) sz):∃ d':Qu,slD (quQ d) d.cap 1 sz=quQ d'∧d.cap - 1=d'.cap∧d'.n=d.n∧quO d ((x::l).flatMap enc) e=quO d' (l.flatMap enc) e∧QuOk d' l.length sz:=by
 obtain⟨h1,h2⟩:=h
 by_cases hc:d.cap=1
 ·have hl:l=[]:=List.eq_nil_of_length_eq_zero qom;subst hl;have hj:d.junk=[]:=List.eq_nil_of_length_eq_zero (by rw[h2,hc];simp);refine⟨⟨d.n,d.pre,0,[],enc x++d.post⟩,?_,by rw[hc],rfl,?_,⟨Nat.le_refl _,by simp⟩⟩
  ·unfold slD;rw[if_pos hc]
  ·simp[hj]
 ·refine⟨⟨d.n,d.pre++enc x,d.cap - 1,d.junk,d.post⟩,?_,rfl,rfl,?_,⟨by simp only[];omega,?_⟩⟩
  ·unfold slD;rw[if_neg hc];simp[quQ,H6,List.length_append,he]
  ·simp[List.append_assoc]
  ·simp only[];rw[h2];congr 1;omega
section
variable {P:Program} {w0:World} {L:Fm} {ty:TypeId} {x y:Operand} {t t2 e:TypeId}
theorem setL_mid:∀ (vs pre l post:List Value),l.length=vs.length→setL (pre++(l++post)) pre.length vs=pre++(vs++post)
 |[],pre,l,post,h=>by
  have:l=[]:=List.eq_nil_of_length_eq_zero h;simp[setL,this]
 |v::vs,pre,[],post,h=>by simp at h
 |v::vs,pre,y::l,post,h=>by
  rw[setL];have e3:(pre++(y::l++post)).set pre.length v=(pre++[v])++(l++post):=by simp
  rw[e3];have:=setL_mid vs (pre++[v]) l post (by simpa using h);simp only[List.length_append,List.length_cons,List.length_nil,Nat.zero_add] at this;rw[this];simp
theorem eff_appQ {α:Type}{enc:α→List Value}(v:α){H R:List (Nat × Obj)}{F:List (Nat × Obj)→List (Nat × Obj)}{d:Qu}{l:List α}{n sz by':Nat}{z:Value}{i0:TypeInfo}{e2:TypeId}(hl:LocL H [(d.n,quO d (l.flatMap enc) e)] R F)(hx:Ev L x (quV d l.length))(hy:Ev L y (.slice (some ⟨n,0,none⟩) 1 1))
  (ht:∀ w,(underlying t).run P w= .ok (.slice e) w) (ht2:∀ w,(underlying t2).run P w= .ok (.slice e2) w) (hz:∀ w,(sizeOf e).run P w= .ok sz w) (hi:∀ w,(typeInfo e).run P w= .ok i0 w) (hby:i0.bytes=by') (hzv:∀ w,(zeroValue e).run P w= .ok z w) (hzs:z.cells.size=sz)
  (he:∀ u,(enc u).length=sz) (h1:(enc v).all oneB=true) (hok:QuOk d l.length sz) (hb0:by'≠0) (hb:(2*(l.length+1)+600)*by'≤281474976710656) (hn:Cells w0 H n 0 (enc v):=by exact A1):
  Eff P w0 (.call {callee:= .builtin .append,args:= #[x,y],argTypes:= #[t,t2]}) ty L H (fun u H'=>∃ d':Qu,u=quV d' (l.length+1)∧QuOk d' (l.length+1) sz∧H'=F [(d'.n,quO d' ((l++[v]).flatMap enc) e)]):=
 ⟨rfl,fun b w hO=>by
  have h1':∀ v'∈enc v,oneB v'=true:=fun u hu=>List.all_eq_true.1 h1 u hu
  have hp:=hl.perm;have hO':=Bz hO hp.1;have hcl:=Cr he l;have hfirst:=Dj (P:=P) (sz:=sz) (m:=1) (c:=1) (q:=some ⟨n,0,none⟩) (new:=enc v) hO (.inr U) (by rw[he,Nat.one_mul]) (by simpa[bq,oq] using hn);have hA:Arr w0 H (quQ d) sz enc l:=fun i a hi=>⟨rfl,fun j u hj w' hO2=>(qu_arr (w0:=w0) (H:=[(d.n,quO d (l.flatMap enc) e)]++R) he A3 i a hi).2 j u hj w' (Bz hO2 hp.1)⟩
  have hcells:Cells w0 H (bq (quQ d)) (oq (quQ d)) (l.flatMap enc):=hA.all he;have hold:(Builtin.firstCells sz l.length (quV d l.length)).run P w= .ok (l.flatMap enc).toArray w:=Dj (P:=P) hO (.inr U) hcl hcells;have start:∀ R,(exO (ev (lk L b)) (.call {callee:= .builtin .append,args:= #[x,y],argTypes:= #[t,t2]}) ty).run P w=R↔(do let v ← Builtin.append_ #[t,t2] ty #[quV d l.length, .slice (some ⟨n,0,none⟩) 1 1];pure (Next.value v):Sem Next).run P w=R:=fun R=>by
   simp[exO,execOp,resolve,invoke,builtin,hx b,hy b,Sem.run_bind,Result.andThen]
  obtain⟨hk1,hk2⟩:=hok
  by_cases hcap:l.length+1≤d.cap
  ·have hhas:w.heap[d.n]? =some (quO d (l.flatMap enc) e):=hO'.has (d.n,quO d (l.flatMap enc) e) (by simp);have hmul:(d.cap - l.length)*sz=(d.cap - (l.length+1))*sz+1*sz:=by rw[← Nat.add_mul];congr 1;omega
   have hst:=Dr (P:=P) (n:=d.n) (o:=d.pre.length+l.length*sz) (t:=e) (enc v) 0 (d.pre++(l.flatMap enc++(d.junk++d.post))) w hhas h1' (by simp only[List.length_append,hcl,he,hk2];omega);have hset:setL (d.pre++(l.flatMap enc++(d.junk++d.post))) (d.pre.length+l.length*sz+0) (enc v)=d.pre++((l++[v]).flatMap enc++(d.junk.drop sz++d.post)):=by
    have e1:d.junk=d.junk.take sz++d.junk.drop sz:=(List.take_append_drop _ _).symm;have e2:(d.junk.take sz).length=(enc v).length:=by rw[List.length_take,he,hk2];omega
    have:=setL_mid (enc v) (d.pre++l.flatMap enc) (d.junk.take sz) (d.junk.drop sz++d.post) e2;rw[Nat.add_zero,show d.pre.length+l.length*sz=(d.pre++l.flatMap enc).length by rw[List.length_append,hcl]];have e4:d.pre++(l.flatMap enc++(d.junk++d.post))=d.pre++l.flatMap enc++(d.junk.take sz++(d.junk.drop sz++d.post)):=by
     conv=>lhs;rw[e1]
     simp only[List.append_assoc]
    rw[e4,this];simp[List.append_assoc]
   rw[hset] at hst;have:(exO (ev (lk L b)) (.call {callee:= .builtin .append,args:= #[x,y],argTypes:= #[t,t2]}) ty).run P w= .ok (.value (.slice (quQ d) (l.length+1) d.cap)) (w.putObj d.n (Cl (d.pre++((l++[v]).flatMap enc++(d.junk.drop sz++d.post))) e)):=by
    rw[start];simp[Builtin.append_,ht,ht2,hz,Builtin.lenOf,hfirst,hcap,H6,hst,Sem.run_bind,Result.andThen]
   rw[this];refine⟨F [(d.n,Cl (d.pre++((l++[v]).flatMap enc++(d.junk.drop sz++d.post))) e)],Bz (hO'.put .h) (hp.2 [(d.n,Cl (d.pre++((l++[v]).flatMap enc++(d.junk.drop sz++d.post))) e)]).symm,⟨d.n,d.pre,d.cap,d.junk.drop sz,d.post⟩,rfl,⟨hcap,?_⟩,rfl⟩;simp only[List.length_drop];rw[hk2,hmul];omega
  ·have hlt:d.cap<l.length+1:=by omega
   have hnc:=nextcap_le hlt;have hgrow: ¬ 281474976710656<Builtin.nextslicecap (l.length+1) d.cap*by':=by
    have:=Nat.mul_le_mul_right by' hnc
    omega
   let cap':=(Question.appendCap (l.length+1) d.cap e).cut (w.tape w.drawn (Question.appendCap (l.length+1) d.cap e))
   have hcap2:l.length+1≤cap':=by simp only[cap',Question.cut];omega
   let w1:World:=w.drew
   have hO1:Own w0 H w1:=hO.drawn;have hfirst1:=Dj (P:=P) (sz:=sz) (m:=1) (c:=1) (q:=some ⟨n,0,none⟩) (new:=enc v) hO1 (.inr U) (by rw[he,Nat.one_mul]) (by simpa[bq,oq] using hn);have hold1:(Builtin.firstCells sz l.length (quV d l.length)).run P w1= .ok (l.flatMap enc).toArray w1:=Dj (P:=P) hO1 (.inr U) hcl hcells;have hroom:(askRoom (cap'*by')).run P w1= .ok () w1:=by
    unfold askRoom;split<;>simp[mark,Sem.run]
   let junk:=(Builtin.zeroCells z.cells (cap' - (l.length+1))).toList
   have this:(exO (ev (lk L b)) (.call {callee:= .builtin .append,args:= #[x,y],argTypes:= #[t,t2]}) ty).run P w= .ok (.value (.slice (some ⟨w.heap.size,0,none⟩) (l.length+1) cap')) (w1.alloc (Cl ((l.flatMap enc++enc v)++junk) e)):=by
    rw[start];have harr:(l.flatMap enc).toArray++((enc v).toArray++Builtin.zeroCells z.cells (cap' - (l.length+1)))=((l.flatMap enc++enc v)++junk).toArray:=by
     apply Array.ext';simp[junk]
    have hnr:(newRow e ((l.flatMap enc).toArray++((enc v).toArray++Builtin.zeroCells z.cells (cap' - (l.length+1))))).run P w1= .ok ⟨w.heap.size,0,none⟩ (w1.alloc (Cl ((l.flatMap enc++enc v)++junk) e)):=by
     rw[harr];exact Fd (P:=P) w1 e ((l.flatMap enc++enc v)++junk)
    have hcut:(Question.appendCap (l.length+1) d.cap e).cut (w.tape w.drawn (Question.appendCap (l.length+1) d.cap e))=cap':=rfl;have hw1:w.drew=w1:=rfl;simp[Builtin.append_,ht,ht2,hz,hi,hby,hb0,Builtin.lenOf,hcap,hgrow,Question.forced,hcut,hw1,hroom,hold1,hfirst1,hzv,hnr,Sem.run_bind,Result.andThen, -List.append_assoc]
   rw[this];have hO2:=(Bz hO1 hp.1).alloc (Cl ((l.flatMap enc++enc v)++junk) e);refine⟨F [(w.heap.size,quO ⟨w.heap.size,[],cap',junk,[]⟩ ((l++[v]).flatMap enc) e)],?_,⟨w.heap.size,[],cap',junk,[]⟩,rfl,⟨hcap2,by simp only[junk];rw[zero_len hzs]⟩,rfl⟩;refine Bz ?_ (hp.2 _).symm;have hsub:((w.heap.size,Cl ((l.flatMap enc++enc v)++junk) e)::R).Sublist ((w1.heap.size,Cl ((l.flatMap enc++enc v)++junk) e)::([(d.n,quO d (l.flatMap enc) e)]++R)):=List.Sublist.cons_cons _ (List.sublist_append_right _ _);have hO3:=hO2.sub hsub;have ee:quO ⟨w.heap.size,[],cap',junk,[]⟩ ((l++[v]).flatMap enc) e=Cl ((l.flatMap enc++enc v)++junk) e:=by simp[List.flatMap_append]
   rw[ee];exact hO3⟩
end
def idxP:List Pl→Pl→Int
 |[],_=> -1
 |a::l,p=>if a=p then 0 else if idxP l p<0 then -1 else idxP l p+1
theorem idxP_at:∀ {l:List Pl} {p:Pl} {i:Nat},i<l.length→gd l i=p→(∀ j,j<i→¬ gd l j=p)→idxP l p=i
 |[],_,_,h,_,_=>by cases h
 |a::l,p,0,_,h,_=>by
  have h0:a=p:=h;rw[idxP,if_pos h0];rfl
 |a::l,p,i+1,h,h2,h3=>by
  have h0: ¬ a=p:=h3 0 qom;have ih:=idxP_at (l:=l) (p:=p) (i:=i) (by simpa using h) h2 fun j hj=>h3 (j+1) qom
  rw[idxP,if_neg h0,ih,if_neg qom];omega
theorem idxP_no:∀ {l:List Pl} {p:Pl},(∀ j,j<l.length→¬ gd l j=p)→idxP l p= -1
 |[],_,_=>rfl
 |a::l,p,h=>by
  have h0: ¬ a=p:=h 0 (by simp);rw[idxP,if_neg h0,idxP_no (l:=l) fun j hj=>h (j+1) (by simpa using hj)];rfl
theorem idxP_mem:∀ {l:List Pl} {p:Pl},p∈l→0≤idxP l p∧idxP l p<l.length∧gd l (idxP l p).toNat=p
 |a::l,p,h=>by
  rw[idxP]
  by_cases e:a=p
  ·rw[if_pos e];exact⟨Int.le_refl _,by simp,e⟩
  ·rw[if_neg e];rcases List.mem_cons.1 h with h|h
   ·exact absurd h.symm e
   ·obtain⟨h1,h2,h3⟩:=idxP_mem h;rw[if_neg qom];refine⟨by omega,by simp;omega,?_⟩;rw[show (idxP l p+1).toNat=(idxP l p).toNat+1 by omega];exact h3
theorem rfnd_s {w0:World}{H:List (Nat × Obj)}(pl:List Pl)(q:Option Addr)(c:Nat)(hA:Arr w0 H q 2 encPl pl)(hl:pl.length≤1000000)(p:Pl):
  FSpec Tryz.prog w0 78 #[.slice q pl.length c, .agg (encPl p).toArray] H (Still (.int .i64 (idxP pl p)) H):=by
 refine Ap Tryz.func78 U ntmps78 U (rD tb 2 U (e_ (Lt U cs_) ?_ U));rintro _ _ ⟨n3,rfl,rfl⟩;refine rO tb 10 U ?_;refine Bb (X:=Nat) (V:=fun i=>[(5, .int .i64 (i:Nat))]) (C:=[(0,_),(3,_)]) (φ:=fun i=>i≤pl.length∧∀ j,j<i→¬ gd pl j=p) (μ:=fun i=>pl.length - i) (x0:=0) ?_ ⟨Aa U,Aa U,trivial⟩ ⟨qat,trivial⟩ ?_
 ·exact⟨Nat.zero_le _,fun j hj=>by omega⟩
 rintro i ⟨hi,hno⟩;refine rD tb 9 U ?_;refine Ae (Aa U) (fun c9=> ?_) (fun c9=> ?_)
 ·refine rC tb 5 U (Bg 6 [(0,true),(1,true),(2,true),(3,true),(4,true),(5,true)] _ mixd qkr sb0 ?_ A7);refine rP tb 2 U (o_y U (Lq U U runUnderlying126 sizeOf119 qom (by first|exact rfl|exact hA.b (i:=i) qom)) ?_ U Ac);refine o_y U (Lp U isAgg119 sizeOf119 U (by exact(hA.mono sbt).cs (i:=i) qom)) ?_ U Ac;refine o_y U (Lp U isAgg119 sizeOf119 U qcs) ?_ U Ac;refine o_y U (yl_eqA (T U) (T U) eqGuardType119 (eqPk eqPl (gd pl i) p)) (A5 U (rO tb 2 U ?_)) U Ac;refine Ae (Aa U) (fun c17=> ?_) (fun c17=> ?_)
  ·refine rC tb 9 U (Aw (rX tb 2 U (Ai U (Ll U) ?_)));exact⟨_,⟨vint (by rw[idxP_at (i:=i) qom c17.symm hno]),rfl⟩,sbt⟩
  ·refine rC tb 5 U (y_ (Aq (T U) Ao qom) ?_ U);refine rO tb 2 U ?_;refine An (i+1) ?_ ?_ ⟨qat,trivial⟩ ⟨Aa U,Aa U,trivial⟩ ?_
   ·refine⟨by omega,fun j hj=> ?_⟩
    by_cases e:j=i
    ·subst e;exact fun h=>c17 h.symm
    ·exact hno j qom
   ·omega
   ·exact sbt
 ·refine rC tb 2 U (Af (rX tb 8 U (Ai U (Ll U) ?_)));exact⟨_,⟨vint (by rw[idxP_no fun j hj=>hno j qom]),rfl⟩,sbt⟩
theorem raft_s {w0:World}{H:List (Nat × Obj)}(n:Nn)(hn:NetR w0 H n)(m:Mc)(hm:McOk w0 H m)(hsr:Srt m.names)(hl:m.names.length≤4611686018427387903)(hp:PMok m.pl)(st node:Nat)(hst:st<m.rows.length)(hx:node<n.nodes.length):
  FSpec Tryz.prog w0 79 #[.agg (encNn n).toArray, .agg (encMc m).toArray, .int .i64 (st:Int), .int .i64 (node:Int)] H (Still (.int .i64 (afterF m.pl st (nmF n node):Nat)) H):=by
 refine Ap Tryz.func79 U ntmps79 U ?_;have hrow:=(Ej hp hst).1;refine rD tb 2 U (e_ (Lt U cs_) ?_ U);rintro _ _ ⟨n4,rfl,rfl⟩;refine e_ (Lt U cs_) ?_ U;rintro _ _ ⟨n5,rfl,rfl⟩;refine rO tb 6 U (y_ (Lo U isAgg64 qco) ?_ U);refine rO tb 11 U ?_;refine Bb (X:=Nat × Nat) (V:=fun ⟨i,lt⟩=>[(10, .int .i64 (i:Nat)),(9, .int .i64 (lt:Nat))]) (C:=[(2,_),(3,_),(4,_),(5,_)]) (φ:=fun ⟨i,lt⟩=>i≤m.names.length∧((lt=m.names.length∧∀ j,j<i→¬ gd m.names j=nmF n node)∨(lt<i∧gd m.names lt=nmF n node))) (μ:=fun ⟨i,lt⟩=>m.names.length - i) (x0:=(0,m.names.length)) ?_ ⟨Aa rfl,Aa rfl,Aa rfl,Aa rfl,trivial⟩ ⟨qat,qat,trivial⟩ ?_
 ·exact⟨Nat.zero_le _, .inl ⟨rfl,fun j hj=>by omega⟩⟩
 rintro⟨i,lt⟩ ⟨hi,hor⟩;refine rD tb 5 U (y_ (Lo U isAgg64 qco) ?_ U);refine rO tb 4 U ?_;refine Ae (Aa U) (fun c18=> ?_) (fun c18=> ?_)
 ·refine rC tb 5 U (Bg 12 [(0,true),(1,true),(2,true),(3,true),(4,true),(5,true),(6,true),(7,true),(8,true),(9,true),(10,true),(11,true)] _ mixd qkr sb0 ?_ A7);refine rP tb 1 U (o_y U (Lo U isAgg64 qco) ?_ U Ac);refine rP tb 1 U (o_y U (Lq U U runUnderlying64 sizeOf9 qom (by first|exact rfl|exact hm.a1.b (i:=i) qom)) ?_ U Ac);refine o_y U (Lo U isAgg9 (by first|exact c_o|exact cell1 ((hm.a1.mono sbt).cs (i:=i) qom))) ?_ U Ac;refine rP tb 1 U (o_y U (Lo U isAgg22 qco) ?_ U Ac);refine rP tb 1 U (o_y U (Lq U U runUnderlying22 sizeOf85 qom (by first|exact rfl|exact hm.a1.b (i:=i) qom|exact hn.nodes.b (i:=node) hx)) ?_ U Ac);refine rP tb 1 U (o_y U (Lo U isAgg9 (by first|exact c_o|exact c_m (hn.nodes.f0 (i:=node) hx U))) ?_ U Ac);refine o_y U (Cb (T U) (T U)) (A5 U (rO tb 2 U ?_)) U Ac;refine Ae (Aa U) (fun c32=> ?_) (fun c32=> ?_)
  ·refine rC tb 8 U (y_ (Aq (T U) Ao qom) ?_ U);refine rO tb 2 U ?_;refine An ((i+1,i)) ?_ ?_ ⟨qat,qat,trivial⟩ ⟨Aa U,Aa U,Aa U,Aa U,trivial⟩ ?_
   ·have e:=bytes_ext (fun h=>h c32);exact⟨by omega, .inr ⟨by omega,e⟩⟩
   ·first|omega|(simp only[];omega)
   ·exact sbt
  ·refine rC tb 5 U (y_ (Aq (T U) Ao qom) ?_ U);refine rO tb 2 U ?_;refine An ((i+1,lt)) ?_ ?_ ⟨qat,qat,trivial⟩ ⟨Aa U,Aa U,Aa U,Aa U,trivial⟩ ?_
   ·refine⟨by omega,?_⟩;rcases hor with ⟨h1,h2⟩|⟨h1,h2⟩
    ·refine .inl ⟨h1,fun j hj=> ?_⟩
     by_cases e:j=i
     ·subst e;exact fun h=>c32 (by rw[h];rfl)
     ·exact h2 j qom
    ·exact .inr ⟨by omega,h2⟩
   ·first|omega|(simp only[];omega)
   ·exact sbt
 ·have hle:=Fi m.names (nmF n node);have hi2:i=m.names.length:=by omega
  obtain rfl:lt=lett m.names (nmF n node):=by
   rcases hor with ⟨h1,h2⟩|⟨h1,h2⟩
   ·rw[lett_none (fun j hj=>h2 j qom),h1]
   ·have:=lett_at hsr (k:=lt) qom;rw[h2] at this;exact this.symm
  refine rC tb 2 U (Af (rX tb 5 U (y_ (Lo U isAgg65 qco) ?_ U)));refine rO tb 1 U (y_ (Lq U U runUnderlying65 sizeOf27 qom (by first|exact rfl|exact hm.a1.b (i:=i) qom|exact hn.nodes.b (i:=node) hx|exact hm.a2.b (i:=st) hst)) ?_ U);refine y_ (Lo U isAgg27 (by first|exact c_o|exact cell1 ((hm.a2.mono sbt).cs (i:=st) hst))) ?_ U;refine rO tb 1 U (y_ (Lq U U runUnderlying27 sizeOf3 qom (by first|exact rfl|exact hm.a1.b (i:=i) qom|exact hn.nodes.b (i:=node) hx|exact hm.a2.b (i:=st) hst|exact(hm.r _ (Ag hst)).b (i:=lett m.names (nmF n node)) (by have:=Fi m.names (nmF n node);omega))) ?_ U);refine y_ (Lo U isAgg3 (by first|exact c_o|exact cell1 (((hm.r _ (Ag hst)).mono sbt).cs (i:=lett m.names (nmF n node)) (by have:=Fi m.names (nmF n node);omega)))) ?_ U;refine rO tb 4 U (Ai U (Ll U) ?_);exact⟨_,⟨by unfold afterF;rw[Gs];rfl,rfl⟩,sbt⟩
theorem Gn (a0:Int)(a1:Int)(w:World):(Instr.build 119 #[(0, .int .i64 a0),(1, .int .i64 a1)]).run Tryz.prog w= .ok (.agg #[.int .i64 a0, .int .i64 a1]) w:=by kernel_rfl
theorem Dm (a0:Int)(w:World):(Instr.buildSlice 27 1 #[(0, .int .i64 a0)]).run Tryz.prog w= .ok (.slice (some ⟨w.heap.size,0,none⟩) 1 1) (w.alloc (Cl [.int .i64 a0] 3)):=by kernel_rfl
structure PlS (n:Nn) (f:Flr) (m:PM) (x:Nat) (pl:List Pl):Prop where
 few:pl.length≤2400
 emp:f.node=x→pl=[]
 mem: ¬ f.node=x→∀ q,q∈pl↔∃ ls,Chn (movesF n f m) (p0F n m x) ls q
 ok:∀ p∈pl,PlOk n m p
 nd:pl.Nodup
theorem plS_of {n:Nn}(hok:NnOk n){f:Flr}{m:PM}(hp:PMok m){x:Nat}(hx:x<n.nodes.length):PlS n f m x (insAll (if f.node=x then [] else metF n f m x)):=by
 have hnd:(if f.node=x then [] else metF n f m x).Nodup∧∀ p∈(if f.node=x then [] else metF n f m x),PlOk n m p:=by
  split
  ·exact⟨List.nodup_nil,fun p h=>by cases h⟩
  ·exact K6 hok hp hx
 obtain⟨h1,h2,h3⟩:=insAll_ok hnd.1;refine⟨ins_few hok hp hx,fun h=>by rw[if_pos h];rfl,fun h q=> ?_,fun p h=>hnd.2 p ((h2 p).1 h),?_⟩
 ·rw[h2,if_neg h];exact met_iff hok hp hx q
 ·refine h1.imp ?_;rintro a b hab rfl;unfold plLt at hab;omega
theorem rreachP_s {w0:World}{H:List (Nat × Obj)}(n:Nn)(f:Flr)(m:Mc)(he:Env w0 H n f m)(ho:EnvOk n f m)(x:Nat)(hx:x<n.nodes.length):
  FSpec Tryz.prog w0 77 #[.agg (encNn n).toArray, .agg (encFl f).toArray, .agg (encMc m).toArray, .int .i64 (x:Int)] H (fun v H'=>∃ (d:Sl) (pl:List Pl),(v=slV d pl.length∧SlOk d pl.length 2∧PlS n f m.pl x pl)∧H'=slH d (pl.flatMap encPl) 119++H):=
 (rreach_s n f m he ho x hx).mono fun v H' ⟨d,⟨h1,h2⟩,h3⟩=>⟨d,_,⟨h1,h2,plS_of ho.on ho.om hx⟩,h3⟩
def CloL (n:Nn) (f:Flr) (m:PM) (pr:List Int) (pl:List Pl) (le:List Int) (i l:Nat):Prop:=0≤gd le i→(gd n.links l).src=(gd pl i).1→upF n f l=true→∃ k,k<pl.length∧gd pl k=((gd n.links l).dst,afterF m (gd pl i).2 (nmF n (gd n.links l).dst))∧0≤gd le k∧gd le k≤gd le i+gd pr l
def CloI (n:Nn) (f:Flr) (m:PM) (pr:List Int) (pl:List Pl) (le:List Int) (i:Nat):Prop:=∀ l,l<n.links.length→CloL n f m pr pl le i l
theorem phj_nn {N:Nat}{le:List Int}:0≤phj N le:=Hp fun x _=>by split<;>omega
theorem clo_cert {n:Nn}{f:Flr}{m:PM}{pr:List Int}{p0:Pl}{pl:List Pl}{le:List Int}(h:RJ (movesF n f m) pr p0 pl le)(hc:∀ i,i<pl.length→CloI n f m pr pl le i):Cert (movesF n f m) pr p0 (fun p c=>∃ i,i<pl.length∧gd pl i=p∧0≤gd le i∧gd le i=c):=
 h.cert fun i hi h0 x hx=>by
  obtain⟨r,l⟩:=x;obtain⟨⟨h1,h2⟩,h3,h4⟩:=mem_moves.1 hx;obtain⟨k,g1,g2,g3,g4⟩:=hc i hi l h1 h0 h2 h3;exact⟨k,g1,by rw[g2,h4],g3,g4⟩
theorem all_nn {ts:Pl→List (Pl × Nat)}{pr:List Int}{p0:Pl}{pl:List Pl}{le:List Int}(hc:Cert ts pr p0 (fun p c=>∃ i,i<pl.length∧gd pl i=p∧0≤gd le i∧gd le i=c))(hnd:pl.Nodup)(hm:∀ q∈pl,∃ ls,Chn ts p0 ls q):∀ i,i<pl.length→0≤gd le i:=fun i hi=>by
 obtain⟨ls,hls⟩:=hm _ (Ag hi);obtain⟨d,⟨j,h1,h2,h3,_⟩,_⟩:=hc.low hls;rw[Ar h1,Ar hi] at h2;obtain rfl:=(List.getElem_inj hnd).1 h2;exact h3
theorem rj_start {ts:Pl→List (Pl × Nat)}{pr:List Int}{p0:Pl}{pl:List Pl}{s:Nat}(hs:s<pl.length)(h:gd pl s=p0):RJ ts pr p0 pl ((List.replicate pl.length (-1:Int)).set s 0):=by
 have hg:∀ j,j<pl.length→gd ((List.replicate pl.length (-1:Int)).set s 0) j=if j=s then 0 else -1:=fun j hj=>by
  rw[Ar (by simpa using hj),List.getElem_set]
  by_cases e:s=j
  ·subst e;simp
  ·rw[if_neg e,if_neg (fun h=>e h.symm)];simp
 have hc:1≤cntP ((List.replicate pl.length (-1:Int)).set s 0):=cntP_pos (k:=s) (by simpa using hs) (by rw[hg s hs,if_pos rfl];exact Int.le_refl _);refine⟨by simp,⟨s,hs,h,by rw[hg s hs,if_pos rfl]⟩,fun i hi h0=> ?_,fun i hi=> ?_⟩
 ·rw[hg i hi] at h0 ⊢
  by_cases e:i=s
  ·subst e;rw[if_pos rfl];exact⟨[],h ▸ .nil,rfl⟩
  ·rw[if_neg e] at h0;omega
 ·rw[hg i hi]
  split<;>omega
def BestJ (fnd:Pl→Bool) (pl:List Pl) (le:List Int) (i:Nat) (b:Int):Prop:=(b= -1∧∀ j,j<i→fnd (gd pl j)=false)∨(0≤b∧(∃ j,j<i∧fnd (gd pl j)=true∧gd le j=b)∧∀ j,j<i→fnd (gd pl j)=true→b≤gd le j)
theorem BestJ.skip {fnd:Pl→Bool}{pl:List Pl}{le:List Int}{i:Nat}{b:Int}(h:BestJ fnd pl le i b)(hf:fnd (gd pl i)=false∨0≤b∧b≤gd le i):BestJ fnd pl le (i+1) b:=by
 rcases h with ⟨h1,h2⟩|⟨h1,⟨j,h2,h3⟩,h4⟩
 ·refine .inl ⟨h1,fun j hj=> ?_⟩
  by_cases e:j=i
  ·subst e;rcases hf with hf|hf
   ·exact hf
   ·omega
  ·exact h2 j qom
 ·refine .inr ⟨h1,⟨j,by omega,h3⟩,fun k hk hkf=> ?_⟩
  by_cases e:k=i
  ·subst e;rcases hf with hf|hf
   ·rw[hf] at hkf;cases hkf
   ·exact hf.2
  ·exact h4 k qom hkf
theorem BestJ.take {fnd:Pl→Bool}{pl:List Pl}{le:List Int}{i:Nat}{b:Int}(h:BestJ fnd pl le i b)(hf:fnd (gd pl i)=true)(h0:0≤gd le i)(hb:b<0∨gd le i<b):BestJ fnd pl le (i+1) (gd le i):=by
 refine .inr ⟨h0,⟨i,by omega,hf,rfl⟩,fun k hk hkf=> ?_⟩
 by_cases e:k=i
 ·subst e;exact Int.le_refl _
 ·rcases h with ⟨h1,h2⟩|⟨h1,_,h4⟩
  ·rw[h2 k qom] at hkf;cases hkf
  ·have:=h4 k qom hkf;omega
theorem BestJ.is {fnd:Pl→Bool}{pl:List Pl}{le:List Int}{b:Int}(h:BestJ fnd pl le pl.length b)(hn:∀ i,i<pl.length→0≤gd le i):BestIs (fun p c=>∃ i,i<pl.length∧gd pl i=p∧0≤gd le i∧gd le i=c) fnd (if b<0 then none else some b):=by
 rcases h with ⟨h1,h2⟩|⟨h1,⟨j,h2,h3,h4⟩,h5⟩
 ·subst h1;rintro p d hf ⟨i,hi,rfl,_,_⟩;rw[h2 i hi] at hf;cases hf
 ·rw[if_neg qom];refine⟨⟨_,h3,j,h2,rfl,hn j h2,h4⟩,?_⟩;rintro p d hf ⟨i,hi,rfl,_,rfl⟩;exact h5 i hi hf
theorem OdrOk.mce {n:Nn}{o:Odr}(h:OdrOk n o):McE (mOf o.e) o.e:=⟨(build_ok h.lv h.bd).1,(build_ok h.lv h.bd).2,build_acc h.lv h.bd⟩
theorem OdrOk.nm {n:Nn}{o:Odr}(h:OdrOk n o):(mOf o.e).names.length≤64:=by
 rw[build_names h.bd];exact letF_few h.lv
abbrev omO (o:Odr) (m:Rxm):Om:=⟨o.x,o.y,o.amt,m⟩
def PrR (n:Nn) (f:Flr) (o:Odr) (pr:List Int) (v:Value):Prop:=∃ r:Option Int,v= .tuple #[.int .i64 (r.getD 0), .bool r.isSome]∧PriceIs n f o pr r∧∀ c,r=some c→0≤c∧c≤1048576*2400
theorem prR_none {n:Nn}{f:Flr}{o:Odr}{pr:List Int}(h:PriceIs n f o pr none):PrR n f o pr (.tuple #[.int .i64 0, .bool false]):=⟨none,rfl,h,fun c hc=>by cases hc⟩
theorem prR_best {n:Nn}{f:Flr}{o:Odr}{pr:List Int}{b:Int}(h:PriceIs n f o pr (if b<0 then none else some b))(hb:b≤1048576*2400){u:Int}(hu:u=if b<0 then 0 else b):PrR n f o pr (.tuple #[.int .i64 u, .bool (decide (b≥0))]):=by
 subst hu;refine⟨if b<0 then none else some b,?_,h,fun c hc=> ?_⟩
 ·split
  ·rw[decide_eq_false qom];rfl
  ·rw[decide_eq_true qom];rfl
 ·split at hc
  ·cases hc
  ·obtain rfl:=Option.some.inj hc;omega
theorem rprice_s {w0:World}{H:List (Nat × Obj)}(n:Nn)(hn:NetR w0 H n)(hok:NnOk n)(f:Flr)(hf:Arr w0 H f.q 1 encI f.links)(hfl:f.links.length≤1000000)(o:Odr)(ho:OdrOk n o)(m:Rxm)(hI:Is m o.e)(hM:RxM w0 H m)(hz:m.sz≤90000)(pr:List Int)(qp:Option Addr)(cp:Nat)(hP:Arr w0 H qp 1 encI pr)(hpl:pr.length=n.links.length)(hpr:∀ i,i<pr.length→0≤gd pr i∧gd pr i≤1048576):
  FSpec Tryz.prog w0 33 #[.agg (encNn n).toArray, .agg (encFl f).toArray, .agg (encOm (omO o m)).toArray, .slice qp pr.length cp] H (fun v H'=>PrR n f o pr v∧H'=H):=by
 refine Ap Tryz.func33 U ntmps33 U ?_;have hx:=ho.x;have hfewL:=hok.fewL;refine rD tb 2 U (e_ (Lt U cs_) ?_ U);rintro _ _ ⟨n4,rfl,rfl⟩;refine e_ (Lt U cs_) ?_ U;rintro _ _ ⟨n5,rfl,rfl⟩;refine e_ (Lt U cs_) ?_ U;rintro _ _ ⟨n6,rfl,rfl⟩;refine rO tb 7 U ?_;refine y_ (Lp U isAgg56 sizeOf56 U (by exact Bj (l:=encOm (omO o m)) (o:=3) (k:=3) fdd)) ?_ U;refine e_ (Am (qe1 U) call45 (rbuild_s m o.e hI (hM.mono sbt) ho.lv hz)) ?_ U;rintro _ _ ⟨mc,Mb,⟨rfl,hmc,hmpl⟩,rfl⟩;have hme2:McE mc.pl o.e:=by rw[hmpl];exact ho.mce
 have hpm:=hme2.ok;have hsr:Srt mc.names:=hme2.sr;have hnl:mc.names.length≤4611686018427387903:=(show mc.pl.names.length≤4611686018427387903 by rw[hmpl];exact Nat.le_trans ho.nm qom);have hrl:mc.pl.next.length=mc.rows.length:=List.length_map ..;refine rO tb 3 U (e_ (Aj zeroValue68 cs_) ?_ U);rintro _ _ ⟨n10,rfl,rfl⟩;refine A0 (Ls U U sizeOf68) U Ac ?_;rintro _ _ ⟨rfl,rfl⟩;refine rO tb 5 U (y_ (Lp U isAgg26 sizeOf26 U qcs) ?_ U);refine y_ (Lp U isAgg29 sizeOf29 U qcs) ?_ U;refine y_ (Lp U isAgg68 sizeOf68 U qcs) ?_ U;refine rO tb 1 U (y_ (Lo U isAgg3 qco) ?_ U);refine e_ (Am (qe4 U U U U) call77 (rreachP_s n f mc ⟨hn.mono sbt,hf.mono sbt,hmc.mono sbt⟩ ⟨hok,by omega,hpm,hsr,hnl⟩ o.x hx)) ?_ U;rintro _ _ ⟨d,pl,⟨rfl,hd,hplS⟩,rfl⟩;have hpl4:=hplS.few;have hpa:Arr w0 (slH d (pl.flatMap encPl) 119++((n10,Cl (encMc mc) 68)::(Mb++((n6,Cl (encOm (omO o m)) 58)::(n5,Cl (encFl f) 29)::(n4,Cl (encNn n) 26)::H)))) (slQ d) 2 encPl pl:=Av (fun _=>rfl) hd;refine rO tb 15 U ?_;refine Ba (X:=Nat × Sl) (V:=fun ⟨i,d2⟩=>[(14, .int .i64 (i:Nat)),(13,slV d2 (List.replicate i (-1:Int)).length)]) (C:=[(3,_),(4,_),(5,_),(6,_),(10,_),(12,_)]) (G:=fun ⟨i,d2⟩=>slH d2 ((List.replicate i (-1:Int)).flatMap encI) 3++(slH d (pl.flatMap encPl) 119++((n10,Cl (encMc mc) 68)::(Mb++((n6,Cl (encOm (omO o m)) 58)::(n5,Cl (encFl f) 29)::(n4,Cl (encNn n) 26)::H))))) (φ:=fun ⟨i,d2⟩=>i≤pl.length∧SlOk d2 i 1) (μ:=fun ⟨i,d2⟩=>pl.length - i) (x0:=(0, .nil)) ?_ ⟨Aa rfl,Aa rfl,Aa rfl,Aa rfl,Aa rfl,Aa rfl,trivial⟩ ⟨qat,qat,trivial⟩ sb0 ?_
 ·exact⟨Nat.zero_le _,rfl⟩
 rintro⟨i,d2⟩ ⟨hi,hd0⟩;have hd2:SlOk d2 (List.replicate i (-1:Int)).length 1:=by rw[List.length_replicate];exact hd0
 refine rD tb 9 U ?_;refine Ae (Aa U) (fun c39=> ?_) (fun c39=> ?_)
 ·refine rC tb 6 U (e_ (Ah (.cons Ao .nil) (Dm _)) ?_ U);rintro _ _ ⟨n43,rfl,rfl⟩;refine e_ (A9 ((-1:Int)) (by':=8) (enc:=encI) (l:=List.replicate i (-1:Int)) qlc (T U) (T U) runUnderlying27 runUnderlying27 sizeOf3 typeInfo3 U zeroValue3 U (fun _=>rfl) U hd2 qde (by simp;omega)) ?_ U;rintro _ _ ⟨d3,rfl,hd3,rfl⟩;refine rO tb 6 U (y_ (Aq (T U) Ao qom) ?_ U);refine rO tb 2 U ?_;have hrs:List.replicate (i+1) (-1:Int)=List.replicate i (-1)++[-1]:=List.replicate_succ';refine An ((i+1,d3)) ?_ ?_ ⟨qat,atd,trivial⟩ ⟨Aa U,Aa U,Aa U,Aa U,Aa U,Aa U,trivial⟩ ?_
  ·exact⟨by omega,by simpa using hd3⟩
  ·first|omega|(simp only[];omega)
  ·show (slH d3 ((List.replicate (i+1) (-1:Int)).flatMap encI) 3++_).Sublist _;rw[List.replicate_succ'];exact sbt
 ·obtain rfl:i=pl.length:=by omega
  have hrep:(List.replicate pl.length (-1:Int)).length=pl.length:=List.length_replicate ..;have hd2:SlOk d2 pl.length 1:=by rw[hrep] at hd2;exact hd2
  refine rC tb 2 U (Af (rX tb 10 U ?_));refine Ae (Aa U) (fun c47=> ?_) (fun c47=> ?_)
  ·refine rC tb 8 U (Ai U (.tmp (Aa U) (Ll U)) ?_);exact⟨_,⟨prR_none (price_none pr (by
    apply Classical.byContradiction;intro hnd;have hm0:=(hplS.mem hnd (p0F n mc.pl o.x)).2 ⟨[], .nil⟩;rw[List.eq_nil_of_length_eq_zero (l:=pl) qom] at hm0;cases hm0)),rfl⟩,sbt⟩
  ·have hnd: ¬ f.node=o.x:=fun h=>by
    have:=hplS.emp h;rw[this] at c47;exact c47 U
   have hst:=idxP_mem ((hplS.mem hnd (p0F n mc.pl o.x)).2 ⟨[], .nil⟩);have h0r:0<mc.rows.length:=by have:=hpm.some';omega
   refine rC tb 3 U (Bg 11 [(0,true),(1,true),(2,true),(3,true),(4,true),(5,true),(6,true),(7,true),(8,true),(9,true),(10,true)] _ mixd qkr sb0 ?_ A7);refine rP tb 2 U (o_y U (Lo U isAgg3 qco) ?_ U Ac);refine o_y U (Lp U isAgg26 sizeOf26 U qcs) ?_ U Ac;refine o_y U (Lp U isAgg68 sizeOf68 U qcs) ?_ U Ac;refine rP tb 1 U (o_y U (Lo U isAgg3 qco) ?_ U Ac);refine o_y U (Ax (.cons (T U) (.cons (T U) (.cons Ao (.cons (T U) .nil)))) call79 (fun H' hs=>raft_s n (hn.mono (stn hs)) mc (hmc.mono (stn hs)) hsr hnl hpm 0 o.x h0r hx)) (o_y U (Ay (.cons (T U) (.cons (T U) .nil)) (Gn _ _)) (o_y U (Ax (qe2 U U) call78 (fun H' hs=>rfnd_s pl _ _ (hpa.mono (stn hs)) qom (p0F n mc.pl o.x))) ?_ U Ac) U Ac) U Ac;refine rP tb 1 U (A5 U (rO tb 6 U (y_ (Bi (T U) (T U) runUnderlying27 sizeOf3 qom (by first|exact rfl|exact hd2.bas qom)) ?_ U)));refine e_ (Bx (d:=d2) (l:=(List.replicate pl.length (-1:Int))) (e:=3) (enc:=encI) (sz:=1) (i:=(idxP pl (p0F n mc.pl o.x)).toNat) (0:Int) (fun _=>rfl) qlc (T U) Ao (.one U) U sizeOf3 (by rw[hrep];omega) (by rw[hrep];exact hd2)) ?_ U;rintro _ _ ⟨rfl,rfl⟩;refine kO tb 2 [3,4,5,6,10,12,13] rfl U (rG tb 7 U ?_);refine Ba (X:=Bool × List Int) (V:=fun ⟨ch,le0⟩=>[(16, .bool ch)]) (C:=[(3,_),(4,_),(5,_),(6,_),(10,_),(12,_),(13,_)]) (G:=fun ⟨ch,le0⟩=>slH d2 (le0.flatMap encI) 3++(slH d (pl.flatMap encPl) 119++((n10,Cl (encMc mc) 68)::(Mb++((n6,Cl (encOm (omO o m)) 58)::(n5,Cl (encFl f) 29)::(n4,Cl (encNn n) 26)::H))))) (φ:=fun ⟨ch,le0⟩=>RJ (movesF n f mc.pl) pr (p0F n mc.pl o.x) pl le0∧(ch=false→∀ i,i<pl.length→CloI n f mc.pl pr pl le0 i)) (μ:=fun ⟨ch,le0⟩=>2*(phj pl.length le0).toNat+(if ch then 1 else 0)) (x0:=(true,(List.replicate pl.length (-1:Int)).set (idxP pl (p0F n mc.pl o.x)).toNat 0)) ?_ ⟨Aa rfl,Aa rfl,Aa rfl,Aa rfl,Aa rfl,Aa rfl,Aa rfl,trivial⟩ ⟨qat,trivial⟩ sb0 ?_
   ·exact⟨rj_start qom hst.2.2,fun h=>by cases h⟩
   rintro⟨ch,le0⟩ ⟨hrj0,hcl⟩;refine rD tb 6 U ?_
   first|refine Ae (Aa U) (fun c61=> ?_) (fun c61=> ?_)|refine Bm (Aa U) (fun c61=> ?_) (fun c61=> ?_)
   ·refine rC tb 14 U ?_;refine Ba (X:=Nat × Bool × List Int) (V:=fun ⟨i,ch2,le⟩=>[(17, .int .i64 (i:Nat)),(16, .bool ch2)]) (C:=[(3,_),(4,_),(5,_),(6,_),(10,_),(12,_),(13,_)]) (G:=fun ⟨i,ch2,le⟩=>slH d2 (le.flatMap encI) 3++(slH d (pl.flatMap encPl) 119++((n10,Cl (encMc mc) 68)::(Mb++((n6,Cl (encOm (omO o m)) 58)::(n5,Cl (encFl f) 29)::(n4,Cl (encNn n) 26)::H))))) (φ:=fun ⟨i,ch2,le⟩=>i≤pl.length∧RJ (movesF n f mc.pl) pr (p0F n mc.pl o.x) pl le∧(ch2=true→phj pl.length le+1≤phj pl.length le0)∧(ch2=false→le=le0∧∀ j,j<i→CloI n f mc.pl pr pl le j)) (μ:=fun ⟨i,ch2,le⟩=>pl.length - i) (x0:=(0,false,le0)) ?_ ⟨Aa rfl,Aa rfl,Aa rfl,Aa rfl,Aa rfl,Aa rfl,Aa rfl,trivial⟩ ⟨qat,qat,trivial⟩ sb0 ?_
    ·exact⟨Nat.zero_le _,hrj0,fun h=>(by cases h),fun _=>⟨rfl,fun j hj=>by omega⟩⟩
    rintro⟨i,ch2,le⟩ ⟨hi,hrj,ht,hfa⟩;refine rD tb 9 U ?_;refine Ae (Aa U) (fun c65=> ?_) (fun c65=> ?_)
    ·refine rC tb 10 U ?_;refine Ba (X:=Nat × Bool × List Int) (V:=fun ⟨l,ch3,le⟩=>[(18, .int .i64 (l:Nat)),(16, .bool ch3)]) (C:=[(3,_),(4,_),(5,_),(6,_),(10,_),(12,_),(13,_),(17,_)]) (G:=fun ⟨l,ch3,le⟩=>slH d2 (le.flatMap encI) 3++(slH d (pl.flatMap encPl) 119++((n10,Cl (encMc mc) 68)::(Mb++((n6,Cl (encOm (omO o m)) 58)::(n5,Cl (encFl f) 29)::(n4,Cl (encNn n) 26)::H))))) (φ:=fun ⟨l,ch3,le⟩=>l≤n.links.length∧RJ (movesF n f mc.pl) pr (p0F n mc.pl o.x) pl le∧(ch3=true→phj pl.length le+1≤phj pl.length le0)∧(ch3=false→le=le0∧(∀ j,j<i→CloI n f mc.pl pr pl le j)∧∀ j,j<l→CloL n f mc.pl pr pl le i j)) (μ:=fun ⟨l,ch3,le⟩=>n.links.length - l) (x0:=(0,ch2,le)) ?_ ⟨Aa rfl,Aa rfl,Aa rfl,Aa rfl,Aa rfl,Aa rfl,Aa rfl,Aa rfl,trivial⟩ ⟨qat,qat,trivial⟩ sb0 ?_
     ·exact⟨Nat.zero_le _,hrj,ht,fun h=>⟨(hfa h).1,(hfa h).2,fun j hj=>by omega⟩⟩
     rintro⟨l,ch3,le⟩ ⟨hl,hrj,ht,hfa⟩;have hrl2:=hrj.len;refine rD tb 5 U (y_ (Lo U isAgg23 qco) ?_ U);refine rO tb 4 U ?_;refine Ae (Aa U) (fun c72=> ?_) (fun c72=> ?_)
     ·refine rC tb 6 U (y_ (Lp U isAgg26 sizeOf26 U qcs) ?_ U);refine y_ (Lp U isAgg29 sizeOf29 U qcs) ?_ U;refine rO tb 1 U (y_ (Ax (qe3 U U U) call72 (fun H' hs=>rup_s n (hn.mono (stn hs)) f (hf.mono (stn hs)) qom l qom)) ?_ U);refine rO tb 5 U (Bg 23 [(0,true),(1,true),(2,true),(3,true),(4,true),(5,true),(6,true),(7,true),(8,true),(9,true),(10,true),(11,true),(12,true),(13,true),(14,true),(15,true),(16,true),(17,true),(18,true),(19,true),(20,true),(21,true),(22,true)] _ mixd qkr sb0 ?_ A7);refine rP tb 2 U (o_y U (Bi (T U) (T U) runUnderlying27 sizeOf3 qom (by first|exact rfl|exact hd2.bas qom)) ?_ U Ac);refine o_y U (Lo U isAgg3 (by first|exact c_o|exact cell1 (((Av (w0:=w0) (d:=d2) (enc:=encI) (sz:=1) (e:=3) (l:=le) (X:=H) (fun _=>rfl) (by rw[hrj.len];exact hd2)).mono sbt).cs (i:=i) (by rw[hrj.len];omega)))) ?_ U Ac;refine rP tb 2 U ?_;refine B4 (s:=84) (Aa U) (fun c84=> ?_) (fun c84=> ?_)
      ·refine rP tb 17 U (A5 U (kO tb 2 [3,4,5,6,10,12,13,16,17,18,101] rfl U (rG tb 7 U (y_ (Aq (T U) Ao qom) ?_ U))));refine rO tb 2 U ?_;have hstay:CloL n f mc.pl pr pl le i l:=fun h0 hsr2 hup=>absurd h0 qom
       refine An ((l+1,ch3,le)) ?_ ?_ ⟨qat,qat,trivial⟩ ⟨Aa U,Aa U,Aa U,Aa U,Aa U,Aa U,Aa U,Aa U,trivial⟩ ?_
       ·refine⟨by omega,hrj,ht,fun h=>⟨(hfa h).1,(hfa h).2.1,fun j hj=> ?_⟩⟩
        by_cases e:j=l
        ·subst e;exact hstay
        ·exact(hfa h).2.2 j qom
       ·first|omega|(simp only[];omega)
       ·exact sbt
      ·refine rP tb 1 U ?_
       first|refine o_y U (Bc (T U)) ?_ U (Az U U (Aa U))|refine o_y U (By (T U)) ?_ U (Az U U (Aa U))
       refine rP tb 2 U ?_
       first|refine B4 (s:=88) (Aa U) (fun c88=> ?_) (fun c88=> ?_)|refine Ku (s:=88) (Aa U) (fun c88=> ?_) (fun c88=> ?_)
       ·refine rP tb 13 U (A5 U (kO tb 2 [3,4,5,6,10,12,13,16,17,18,101] rfl U (rG tb 7 U (y_ (Aq (T U) Ao qom) ?_ U))));refine rO tb 2 U ?_;have hstay:CloL n f mc.pl pr pl le i l:=fun h0 hsr2 hup=>by rw[hup] at c88;cases c88
        refine An ((l+1,ch3,le)) ?_ ?_ ⟨qat,qat,trivial⟩ ⟨Aa U,Aa U,Aa U,Aa U,Aa U,Aa U,Aa U,Aa U,trivial⟩ ?_
        ·refine⟨by omega,hrj,ht,fun h=>⟨(hfa h).1,(hfa h).2.1,fun j hj=> ?_⟩⟩
         by_cases e:j=l
         ·subst e;exact hstay
         ·exact(hfa h).2.2 j qom
        ·first|omega|(simp only[];omega)
        ·exact sbt
       ·refine rP tb 1 U (o_y U (Lo U isAgg23 qco) ?_ U (Az U U (Aa U)));refine rP tb 1 U (o_y U (Lq U U runUnderlying23 sizeOf61 qom (by first|exact rfl|exact hd2.bas qom|exact hd.bas qom|exact hn.links.b (i:=l) qom)) ?_ U (Az U U (Aa U)));refine rP tb 1 U (o_y U (Lo U isAgg3 (by first|exact c_o|exact c_m (hn.links.f0 (i:=l) qom U))) ?_ U (Az U U (Aa U)));refine rP tb 2 U (o_y U (Bi (T U) (T U) runUnderlying126 sizeOf119 qom (by first|exact rfl|exact hd2.bas qom|exact hd.bas qom)) ?_ U (Az U U (Aa U)));refine rP tb 1 U (o_y U (Lo U isAgg3 (by first|exact c_o|exact c_m (hpa.f0 (i:=i) qom U))) ?_ U (Az U U (Aa U)));refine rP tb 2 U (A5 U (kO tb 2 [3,4,5,6,10,12,13,16,17,18,101] rfl U ?_));refine Ae (Aa U) (fun c101=> ?_) (fun c101=> ?_)
        ·refine rC tb 6 U (y_ (Aq (T U) Ao qom) ?_ U);refine rO tb 2 U ?_;have hstay:CloL n f mc.pl pr pl le i l:=fun h0 hsr2 hup=>absurd hsr2 qom
         refine An ((l+1,ch3,le)) ?_ ?_ ⟨qat,qat,trivial⟩ ⟨Aa U,Aa U,Aa U,Aa U,Aa U,Aa U,Aa U,Aa U,trivial⟩ ?_
         ·refine⟨by omega,hrj,ht,fun h=>⟨(hfa h).1,(hfa h).2.1,fun j hj=> ?_⟩⟩
          by_cases e:j=l
          ·subst e;exact hstay
          ·exact(hfa h).2.2 j qom
         ·first|omega|(simp only[];omega)
         ·exact sbt
        ·have hk:=idxP_mem (l:=pl) (p:=((gd n.links l).dst,afterF mc.pl (gd pl i).2 (nmF n (gd n.links l).dst))) ((hplS.mem hnd _).2 (by obtain⟨ls,hls⟩:=(hplS.mem hnd _).1 (Ag (l:=pl) (i:=i) qom);exact⟨ls++[l], .snoc hls (mem_moves.2 ⟨⟨by omega,by omega⟩,by simpa using c88,rfl⟩)⟩));have hri:=hrj.rng i qom;have hrk:=hrj.rng (idxP pl ((gd n.links l).dst,afterF mc.pl (gd pl i).2 (nmF n (gd n.links l).dst))).toNat qom;have hcn:=(Hw le).2;rw[hrj.len] at hcn;have hpri:=hpr l qom;have hle:=hok.ends _ (Ag (l:=n.links) (i:=l) qom);have hpo:=(hplS.ok _ (Ag (l:=pl) (i:=i) qom));refine rC tb 5 U (y_ (Lo U isAgg23 qco) ?_ U);refine rO tb 1 U (y_ (Lq U U runUnderlying23 sizeOf61 qom (by first|exact rfl|exact hd2.bas qom|exact hd.bas qom|exact hn.links.b (i:=l) qom)) ?_ U);refine rO tb 1 U (y_ (Lo U isAgg3 (by first|exact c_o|exact c_m (hn.links.f (i:=l) (j:=1) qom U))) ?_ U);refine rO tb 4 U (Bg 14 [(0,true),(1,true),(2,true),(3,true),(4,true),(5,true),(6,true),(7,true),(8,true),(9,true),(10,true),(11,true),(12,true),(13,true)] _ mixd qkr sb0 ?_ A7);refine rP tb 2 U (o_y U (Lp U isAgg26 sizeOf26 U qcs) ?_ U Ac);refine o_y U (Lp U isAgg68 sizeOf68 U qcs) ?_ U Ac;refine rP tb 2 U (o_y U (Bi (T U) (T U) runUnderlying126 sizeOf119 qom (by first|exact rfl|exact hd2.bas qom|exact hd.bas qom)) ?_ U Ac);refine rP tb 1 U (o_y U (Lo U isAgg3 (by first|exact c_o|exact c_m (hpa.f (i:=i) (j:=1) qom U))) ?_ U Ac);refine rP tb 1 U (o_y U (Ax (qe4 U U U U) call79 (fun H' hs=>raft_s n (hn.mono (stn hs)) mc (hmc.mono (stn hs)) hsr hnl hpm (gd pl i).2 (gd n.links l).dst (by have:=(hplS.ok _ (Ag (l:=pl) (i:=i) qom)).2;omega) (by have:=hok.ends _ (Ag (l:=n.links) (i:=l) qom);omega))) ?_ U Ac);refine o_y U (Ay (.cons (T U) (.cons (T U) .nil)) (Gn _ _)) (o_y U (Ax (qe2 U U) call78 (fun H' hs=>rfnd_s pl _ _ (hpa.mono (stn hs)) qom ((gd n.links l).dst,afterF mc.pl (gd pl i).2 (nmF n (gd n.links l).dst)))) ?_ U Ac) U Ac;refine rP tb 1 U (A5 U (kO tb 2 [3,4,5,6,10,12,13,16,17,18,21] rfl U (rG tb 1 U (Bg 21 [(0,true),(1,true),(2,true),(3,true),(4,true),(5,true),(6,true),(7,true),(8,true),(9,true),(10,true),(11,true),(12,true),(13,true),(14,true),(15,true),(16,true),(17,true),(18,true),(19,true),(20,true)] _ mixd qkr sb0 ?_ A7))));refine rP tb 2 U (o_y U (Bi (T U) (T U) runUnderlying27 sizeOf3 qom (by first|exact rfl|exact hd2.bas qom)) ?_ U Ac);refine o_y U (Lo U isAgg3 (by first|exact c_o|exact cell1 (((Av (w0:=w0) (d:=d2) (enc:=encI) (sz:=1) (e:=3) (l:=le) (X:=H) (fun _=>rfl) (by rw[hrj.len];exact hd2)).mono sbt).cs (i:=(idxP pl ((gd n.links l).dst,afterF mc.pl (gd pl i).2 (nmF n (gd n.links l).dst))).toNat) (by rw[hrj.len];omega)))) ?_ U Ac;refine rP tb 2 U ?_;refine B4 (s:=126) (Aa U) (fun c126=> ?_) (fun c126=> ?_)
         ·refine rP tb 15 U (A5 U (kO tb 2 [3,4,5,6,10,12,13,16,17,18,21,141] rfl U (rG tb 2 U (Bg 12 [(0,true),(1,true),(2,true),(3,true),(4,true),(5,true),(6,true),(7,true),(8,true),(9,true),(10,true),(11,true)] _ mixd qkr sb0 ?_ A7))));refine rP tb 4 U (o_y U (Bi (T U) (T U) runUnderlying27 sizeOf3 qom (by first|exact rfl|exact hd2.bas qom)) ?_ U Ac);refine o_y U (Lo U isAgg3 (by first|exact c_o|exact cell1 (((Av (w0:=w0) (d:=d2) (enc:=encI) (sz:=1) (e:=3) (l:=le) (X:=H) (fun _=>rfl) (by rw[hrj.len];exact hd2)).mono sbt).cs (i:=i) (by rw[hrj.len];omega)))) ?_ U Ac;refine rP tb 2 U (o_y U (Lq U U runUnderlying27 sizeOf3 qom (by first|exact rfl|exact hd2.bas qom|exact hd.bas qom|exact hn.links.b (i:=l) qom|exact hP.b (i:=l) qom)) ?_ U Ac);refine o_y U (Lo U isAgg3 (by first|exact c_o|exact cell1 ((hP.mono sbt).cs (i:=l) qom))) ?_ U Ac;refine o_y U (Aq (T U) (T U) qom) ?_ U Ac;refine o_y U (Bi (T U) (T U) runUnderlying27 sizeOf3 qom (by first|exact rfl|exact hd2.bas qom)) ?_ U Ac;refine A5 U (e_ (Bx (d:=d2) (l:=le) (e:=3) (enc:=encI) (sz:=1) (i:=(idxP pl ((gd n.links l).dst,afterF mc.pl (gd pl i).2 (nmF n (gd n.links l).dst))).toNat) (gd le i+gd pr l) (fun _=>rfl) qlc (T U) (T U) (.one U) U sizeOf3 (by rw[hrj.len];omega) (by rw[hrj.len];exact hd2)) ?_ U);rintro _ _ ⟨rfl,rfl⟩;refine rO tb 9 U (y_ (Aq (T U) Ao qom) ?_ U);refine rO tb 2 U ?_;have hlow:=hrj.low (i:=i) (k:=(idxP pl ((gd n.links l).dst,afterF mc.pl (gd pl i).2 (nmF n (gd n.links l).dst))).toNat) (l:=l) qom qom qom (by rw[hk.2.2];exact mem_moves.2 ⟨⟨by omega,by omega⟩,by simpa using c88,rfl⟩) hpri qom;have hle0:phj pl.length le≤phj pl.length le0:=by
           cases ch3
           ·rw[(hfa U).1];exact Int.le_refl _
           ·have:=ht rfl;omega
          refine An ((l+1,true,le.set (idxP pl ((gd n.links l).dst,afterF mc.pl (gd pl i).2 (nmF n (gd n.links l).dst))).toNat (gd le i+gd pr l))) ?_ ?_ ⟨qat,qat,trivial⟩ ⟨Aa U,Aa U,Aa U,Aa U,Aa U,Aa U,Aa U,Aa U,trivial⟩ ?_
          ·exact⟨by omega,hlow.1,fun _=>by have:=hlow.2;omega,fun h=>by cases h⟩
          ·first|omega|(simp only[];omega)
          ·exact sbt
         ·refine rP tb 2 U (o_y U (Bi (T U) (T U) runUnderlying27 sizeOf3 qom (by first|exact rfl|exact hd2.bas qom)) ?_ U (Az U U (Aa U)));refine o_y U (Lo U isAgg3 (by first|exact c_o|exact cell1 (((Av (w0:=w0) (d:=d2) (enc:=encI) (sz:=1) (e:=3) (l:=le) (X:=H) (fun _=>rfl) (by rw[hrj.len];exact hd2)).mono sbt).cs (i:=(idxP pl ((gd n.links l).dst,afterF mc.pl (gd pl i).2 (nmF n (gd n.links l).dst))).toNat) (by rw[hrj.len];omega)))) ?_ U (Az U U (Aa U));refine rP tb 2 U (o_y U (Bi (T U) (T U) runUnderlying27 sizeOf3 qom (by first|exact rfl|exact hd2.bas qom)) ?_ U (Az U U (Aa U)));refine o_y U (Lo U isAgg3 (by first|exact c_o|exact cell1 (((Av (w0:=w0) (d:=d2) (enc:=encI) (sz:=1) (e:=3) (l:=le) (X:=H) (fun _=>rfl) (by rw[hrj.len];exact hd2)).mono sbt).cs (i:=i) (by rw[hrj.len];omega)))) ?_ U (Az U U (Aa U));refine rP tb 2 U (o_y U (Lq U U runUnderlying27 sizeOf3 qom (by first|exact rfl|exact hd2.bas qom|exact hd.bas qom|exact hn.links.b (i:=l) qom|exact hP.b (i:=l) qom)) ?_ U (Az U U (Aa U)));refine o_y U (Lo U isAgg3 (by first|exact c_o|exact cell1 ((hP.mono sbt).cs (i:=l) qom))) ?_ U (Az U U (Aa U));refine o_y U (Aq (T U) (T U) qom) ?_ U (Az U U (Aa U));refine rP tb 2 U (A5 U (kO tb 2 [3,4,5,6,10,12,13,16,17,18,21,141] rfl U ?_));refine Ae (Aa U) (fun c141=> ?_) (fun c141=> ?_)
          ·refine rC tb 1 U (Bg 12 [(0,true),(1,true),(2,true),(3,true),(4,true),(5,true),(6,true),(7,true),(8,true),(9,true),(10,true),(11,true)] _ mixd qkr sb0 ?_ A7);refine rP tb 4 U (o_y U (Bi (T U) (T U) runUnderlying27 sizeOf3 qom (by first|exact rfl|exact hd2.bas qom)) ?_ U Ac);refine o_y U (Lo U isAgg3 (by first|exact c_o|exact cell1 (((Av (w0:=w0) (d:=d2) (enc:=encI) (sz:=1) (e:=3) (l:=le) (X:=H) (fun _=>rfl) (by rw[hrj.len];exact hd2)).mono sbt).cs (i:=i) (by rw[hrj.len];omega)))) ?_ U Ac;refine rP tb 2 U (o_y U (Lq U U runUnderlying27 sizeOf3 qom (by first|exact rfl|exact hd2.bas qom|exact hd.bas qom|exact hn.links.b (i:=l) qom|exact hP.b (i:=l) qom)) ?_ U Ac);refine o_y U (Lo U isAgg3 (by first|exact c_o|exact cell1 ((hP.mono sbt).cs (i:=l) qom))) ?_ U Ac;refine o_y U (Aq (T U) (T U) qom) ?_ U Ac;refine o_y U (Bi (T U) (T U) runUnderlying27 sizeOf3 qom (by first|exact rfl|exact hd2.bas qom)) ?_ U Ac;refine A5 U (e_ (Bx (d:=d2) (l:=le) (e:=3) (enc:=encI) (sz:=1) (i:=(idxP pl ((gd n.links l).dst,afterF mc.pl (gd pl i).2 (nmF n (gd n.links l).dst))).toNat) (gd le i+gd pr l) (fun _=>rfl) qlc (T U) (T U) (.one U) U sizeOf3 (by rw[hrj.len];omega) (by rw[hrj.len];exact hd2)) ?_ U);rintro _ _ ⟨rfl,rfl⟩;refine rO tb 9 U (y_ (Aq (T U) Ao qom) ?_ U);refine rO tb 2 U ?_;have hlow:=hrj.low (i:=i) (k:=(idxP pl ((gd n.links l).dst,afterF mc.pl (gd pl i).2 (nmF n (gd n.links l).dst))).toNat) (l:=l) qom qom qom (by rw[hk.2.2];exact mem_moves.2 ⟨⟨by omega,by omega⟩,by simpa using c88,rfl⟩) hpri qom;have hle0:phj pl.length le≤phj pl.length le0:=by
            cases ch3
            ·rw[(hfa U).1];exact Int.le_refl _
            ·have:=ht rfl;omega
           refine An ((l+1,true,le.set (idxP pl ((gd n.links l).dst,afterF mc.pl (gd pl i).2 (nmF n (gd n.links l).dst))).toNat (gd le i+gd pr l))) ?_ ?_ ⟨qat,qat,trivial⟩ ⟨Aa U,Aa U,Aa U,Aa U,Aa U,Aa U,Aa U,Aa U,trivial⟩ ?_
           ·exact⟨by omega,hlow.1,fun _=>by have:=hlow.2;omega,fun h=>by cases h⟩
           ·first|omega|(simp only[];omega)
           ·exact sbt
          ·refine rC tb 5 U (y_ (Aq (T U) Ao qom) ?_ U);refine rO tb 2 U ?_;have hstay:CloL n f mc.pl pr pl le i l:=fun h0 hsr2 hup=>⟨(idxP pl ((gd n.links l).dst,afterF mc.pl (gd pl i).2 (nmF n (gd n.links l).dst))).toNat,by omega,hk.2.2,by omega,by omega⟩
           refine An ((l+1,ch3,le)) ?_ ?_ ⟨qat,qat,trivial⟩ ⟨Aa U,Aa U,Aa U,Aa U,Aa U,Aa U,Aa U,Aa U,trivial⟩ ?_
           ·refine⟨by omega,hrj,ht,fun h=>⟨(hfa h).1,(hfa h).2.1,fun j hj=> ?_⟩⟩
            by_cases e:j=l
            ·subst e;exact hstay
            ·exact(hfa h).2.2 j qom
           ·first|omega|(simp only[];omega)
           ·exact sbt
     ·refine rC tb 2 U (Af (rX tb 5 U (y_ (Aq (T U) Ao qom) ?_ U)));refine rO tb 2 U ?_;refine An ((i+1,ch3,le)) ?_ ?_ ⟨qat,qat,trivial⟩ ⟨Aa U,Aa U,Aa U,Aa U,Aa U,Aa U,Aa U,trivial⟩ ?_
      ·refine⟨by omega,hrj,ht,fun h=>⟨(hfa h).1,fun j hj=> ?_⟩⟩
       by_cases e:j=i
       ·subst e;exact fun l2 hl2=>(hfa h).2.2 l2 qom
       ·exact(hfa h).2.1 j qom
      ·first|omega|(simp only[];omega)
      ·exact sbt
    ·refine rC tb 2 U (Af (rX tb 2 U ?_));refine An ((ch2,le)) ?_ ?_ ⟨qat,trivial⟩ ⟨Aa U,Aa U,Aa U,Aa U,Aa U,Aa U,Aa U,trivial⟩ ?_
     ·exact⟨hrj,fun h j hj=>(hfa h).2 j qom⟩
     ·show 2*(phj pl.length le).toNat+(if ch2=true then 1 else 0)<2*(phj pl.length le0).toNat+(if ch=true then 1 else 0);have hn1:=phj_nn (N:=pl.length) (le:=le);rw[if_pos c61];cases ch2
      ·rw[(hfa U).1];simp
      ·have:=ht rfl;simp;omega
     ·exact sbt
   ·have hcert:=clo_cert hrj0 (hcl (by simpa using c61));have hall:=all_nn hcert hplS.nd (fun q hq=>(hplS.mem hnd q).1 hq);have hrl0:=hrj0.len;have hcn0:=(Hw le0).2;refine rC tb 2 U (Af (rX tb 14 U ?_));refine Bb (X:=Nat × Int) (V:=fun ⟨i,b⟩=>[(23, .int .i64 (i:Nat)),(22, .int .i64 b)]) (C:=[(6,_),(10,_),(12,_),(13,_)]) (φ:=fun ⟨i,b⟩=>i≤pl.length∧BestJ (fndF o.y mc.pl) pl le0 i b) (μ:=fun ⟨i,b⟩=>pl.length - i) (x0:=(0, -1)) ?_ ⟨Aa rfl,Aa rfl,Aa rfl,Aa rfl,trivial⟩ ⟨qat,qat,trivial⟩ ?_
    ·exact⟨Nat.zero_le _, .inl ⟨rfl,fun j hj=>by omega⟩⟩
    rintro⟨i,b⟩ ⟨hi,hb⟩;refine rD tb 9 U ?_;refine Ae (Aa U) (fun c157=> ?_) (fun c157=> ?_)
    ·refine rC tb 5 U (Bg 31 [(0,true),(1,true),(2,true),(3,true),(4,true),(5,true),(6,true),(7,true),(8,true),(9,true),(10,true),(11,true),(12,true),(13,true),(14,true),(15,true),(16,true),(17,true),(18,true),(19,true),(20,true),(21,true),(22,true),(23,true),(24,true),(25,true),(26,true),(27,true),(28,true),(29,true),(30,true)] _ mixd qkr sb0 ?_ A7);refine rP tb 2 U (o_y U (Lq U U runUnderlying126 sizeOf119 qom (by first|exact rfl|exact hd2.bas qom|exact hd.bas qom)) ?_ U Ac);refine rP tb 1 U (o_y U (Lo U isAgg3 (by first|exact c_o|exact c_m (hpa.f0 (i:=i) qom U))) ?_ U Ac);refine rP tb 1 U (o_y U (Lo U isAgg3 qco) ?_ U Ac);refine rP tb 2 U ?_;refine B4 (s:=168) (Aa U) (fun c168=> ?_) (fun c168=> ?_)
     ·have e168:(gd pl i).1=o.y:=by
       have h:((gd pl i).1:Int)=(o.y:Int):=c168;omega
      have hac:(gd pl i).2<mc.acc.length:=by
       have h1:=(hplS.ok _ (Ag (l:=pl) (i:=i) qom)).2;have h2:=hpm.acc;have h3:mc.pl.acc.length=mc.acc.length:=rfl;omega
      refine rP tb 1 U (o_y U (Lo U isAgg66 qco) ?_ U (Az U U (Aa U)));refine rP tb 2 U (o_y U (Lq U U runUnderlying126 sizeOf119 qom (by first|exact rfl|exact hd2.bas qom|exact hd.bas qom)) ?_ U (Az U U (Aa U)));refine rP tb 1 U (o_y U (Lo U isAgg3 (by first|exact c_o|exact c_m (hpa.f (i:=i) (j:=1) qom U))) ?_ U (Az U U (Aa U)));refine o_y U (Lq U U runUnderlying66 sizeOf4 qom (by first|exact rfl|exact hd2.bas qom|exact hd.bas qom|exact hn.links.b (i:=l) qom|exact hP.b (i:=l) qom|exact hmc.a3.b (i:=(gd pl i).2) qom)) ?_ U (Az U U (Aa U));refine o_y U (Lo U isAgg4 (by first|exact c_o|exact cell1 ((hmc.a3.mono sbt).cs (i:=(gd pl i).2) hac))) ?_ U (Az U U (Aa U));refine rP tb 2 U ?_
      first|refine B4 (s:=179) (Aa U) (fun c179=> ?_) (fun c179=> ?_)|refine Ku (s:=179) (Aa U) (fun c179=> ?_) (fun c179=> ?_)
      ·refine rP tb 3 U ?_;refine B4 (s:=182) (Aa U) (fun c182=> ?_) (fun c182=> ?_)
       ·refine rP tb 8 U (A5 U (kO tb 2 [6,10,12,13,22,23,190] rfl U (rG tb 4 U (y_ (Lq U U runUnderlying27 sizeOf3 qom (by first|exact rfl|exact hd2.bas qom)) ?_ U))));refine y_ (Lo U isAgg3 (by first|exact c_o|exact cell1 (((Av (w0:=w0) (d:=d2) (enc:=encI) (sz:=1) (e:=3) (l:=le0) (X:=H) (fun _=>rfl) (by rw[hrj0.len];exact hd2)).mono sbt).cs (i:=i) (by rw[hrj0.len];omega)))) ?_ U;refine rO tb 6 U (y_ (Aq (T U) Ao qom) ?_ U);refine rO tb 2 U ?_;refine An ((i+1,gd le0 i)) ?_ ?_ ⟨qat,qat,trivial⟩ ⟨Aa U,Aa U,Aa U,Aa U,trivial⟩ ?_
        ·exact⟨by omega,hb.take (by unfold fndF;show (decide ((gd pl i).1=o.y)&&gd mc.acc (gd pl i).2)=true;rw[c179,decide_eq_true e168];rfl) (hall i qom) qom⟩
        ·first|omega|(simp only[];omega)
        ·exact sbt
       ·refine rP tb 2 U (o_y U (Lq U U runUnderlying27 sizeOf3 qom (by first|exact rfl|exact hd2.bas qom)) ?_ U (Az U U (Aa U)));refine o_y U (Lo U isAgg3 (by first|exact c_o|exact cell1 (((Av (w0:=w0) (d:=d2) (enc:=encI) (sz:=1) (e:=3) (l:=le0) (X:=H) (fun _=>rfl) (by rw[hrj0.len];exact hd2)).mono sbt).cs (i:=i) (by rw[hrj0.len];omega)))) ?_ U (Az U U (Aa U));refine rP tb 4 U (A5 U (kO tb 2 [6,10,12,13,22,23,190] rfl U ?_));refine Ae (Aa U) (fun c190=> ?_) (fun c190=> ?_)
        ·refine rC tb 3 U (y_ (Lq U U runUnderlying27 sizeOf3 qom (by first|exact rfl|exact hd2.bas qom)) ?_ U);refine y_ (Lo U isAgg3 (by first|exact c_o|exact cell1 (((Av (w0:=w0) (d:=d2) (enc:=encI) (sz:=1) (e:=3) (l:=le0) (X:=H) (fun _=>rfl) (by rw[hrj0.len];exact hd2)).mono sbt).cs (i:=i) (by rw[hrj0.len];omega)))) ?_ U;refine rO tb 6 U (y_ (Aq (T U) Ao qom) ?_ U);refine rO tb 2 U ?_;refine An ((i+1,gd le0 i)) ?_ ?_ ⟨qat,qat,trivial⟩ ⟨Aa U,Aa U,Aa U,Aa U,trivial⟩ ?_
         ·exact⟨by omega,hb.take (by unfold fndF;show (decide ((gd pl i).1=o.y)&&gd mc.acc (gd pl i).2)=true;rw[c179,decide_eq_true e168];rfl) (hall i qom) qom⟩
         ·first|omega|(simp only[];omega)
         ·exact sbt
        ·refine rC tb 5 U (y_ (Aq (T U) Ao qom) ?_ U);refine rO tb 2 U ?_;refine An ((i+1,b)) ?_ ?_ ⟨qat,qat,trivial⟩ ⟨Aa U,Aa U,Aa U,Aa U,trivial⟩ ?_
         ·exact⟨by omega,hb.skip (.inr ⟨by omega,by omega⟩)⟩
         ·first|omega|(simp only[];omega)
         ·exact sbt
      ·refine rP tb 11 U (A5 U (kO tb 2 [6,10,12,13,22,23,190] rfl U (rG tb 6 U (y_ (Aq (T U) Ao qom) ?_ U))));refine rO tb 2 U ?_;refine An ((i+1,b)) ?_ ?_ ⟨qat,qat,trivial⟩ ⟨Aa U,Aa U,Aa U,Aa U,trivial⟩ ?_
       ·exact⟨by omega,hb.skip (.inl (by unfold fndF;show (decide ((gd pl i).1=o.y)&&gd mc.acc (gd pl i).2)=false;(rw[c179,Bool.and_false];done)))⟩
       ·first|omega|(simp only[];omega)
       ·exact sbt
     ·have e168: ¬ (gd pl i).1=o.y:=fun h=>c168 (by show ((gd pl i).1:Int)=(o.y:Int);rw[h])
      refine rP tb 22 U (A5 U (kO tb 2 [6,10,12,13,22,23,190] rfl U (rG tb 6 U (y_ (Aq (T U) Ao qom) ?_ U))));refine rO tb 2 U ?_;refine An ((i+1,b)) ?_ ?_ ⟨qat,qat,trivial⟩ ⟨Aa U,Aa U,Aa U,Aa U,trivial⟩ ?_
      ·exact⟨by omega,hb.skip (.inl (by unfold fndF;show (decide ((gd pl i).1=o.y)&&gd mc.acc (gd pl i).2)=false;first|(rw[c179,Bool.and_false];done)|(rw[decide_eq_false e168];rfl)))⟩
      ·first|omega|(simp only[];omega)
      ·exact sbt
    ·have hbb:b≤1048576*2400:=by
      rcases hb with ⟨h1,_⟩|⟨_,⟨j,h1,_,h2⟩,_⟩
      ·omega
      ·have:=(hrj0.rng j qom).2;omega
     refine rC tb 2 U (Af (rX tb 5 U (y_ (Jk Ao (T U)) (rO tb 7 U (Ai U (.tmp (Aa U) (Ll U)) ?_)) U)));have hi2:i=pl.length:=by omega
     subst hi2;exact⟨_,⟨prR_best (price_of hme2 hnd hcert (hb.is hall)) hbb qom,rfl⟩,sbt⟩
theorem zbs126_1_0 (a0:Int)(a1:Int)(w:World):(Instr.buildSlice 126 1 #[(0, .agg #[.int .i64 a0, .int .i64 a1])]).run Tryz.prog w= .ok (.slice (some ⟨w.heap.size,0,none⟩) 1 1) (w.alloc (Cl [.int .i64 a0, .int .i64 a1] 119)):=by kernel_rfl
abbrev encJv (x:Int):Value:= .int .i64 x
theorem yl_lk1 {w0:World}{H:List (Nat × Obj)}{L:Fm}{x y:Operand}{ty:TypeId}{r:Nat}{l:List (Pl × Int)}{p:Pl}(hx:Ev L x (.map (some r)))(hy:Ev L y (encPK p))(hf:Fnd H r (mapO encPK encJv l)):
  Yl Tryz.prog w0 (.lookup 122 x y false) ty L H (.int .i64 ((look l p).getD 0)):=by
 have h:=Es (P:=Tryz.prog) (w0:=w0) (ty:=ty) (keyP74 (V:=Int)) hx hy U runUnderlying122 zeroValue3 hf;cases hl:look l p with
 |none=>rw[hl] at h;exact h
 |some b=>rw[hl] at h;exact h
theorem yl_lk2 {w0:World}{H:List (Nat × Obj)}{L:Fm}{x y:Operand}{ty:TypeId}{r:Nat}{l:List (Pl × Int)}{p:Pl}(hx:Ev L x (.map (some r)))(hy:Ev L y (encPK p))(hf:Fnd H r (mapO encPK encJv l)):
  Yl Tryz.prog w0 (.lookup 122 x y true) ty L H (.tuple #[.int .i64 ((look l p).getD 0), .bool (look l p).isSome]):=by
 have h:=yl_lookup2 (P:=Tryz.prog) (w0:=w0) (ty:=ty) (keyP74 (V:=Int)) hx hy U runUnderlying122 zeroValue3 hf;cases hl:look l p with
 |none=>rw[hl] at h;exact h
 |some b=>rw[hl] at h;exact h
theorem yl_lk3 {w0:World}{H:List (Nat × Obj)}{L:Fm}{x y:Operand}{ty:TypeId}{r:Nat}{l:List (Pl × Int)}{p:Pl}{c:Int}(hc:look l p=some c)(hx:Ev L x (.map (some r)))(hy:Ev L y (encPK p))(hf:Fnd H r (mapO encPK encJv l)):
  Yl Tryz.prog w0 (.lookup 122 x y false) ty L H (.int .i64 c):=by
 have h:=yl_lk1 (w0:=w0) (ty:=ty) hx hy hf;rw[hc] at h;exact h
theorem LocL.h1 {e:Nat × Obj}{X:List (Nat × Obj)}:LocL (e::X) [e] X (fun M'=>M'++X):=show LocL ([e]++X) [e] X _ from .h
def rlH (b7 b6 b5 nm:Nat) (p:Pl) (d:Qu) (s:RS):List (Nat × Obj):=[(b7,Cl (encPl p) 119),(b6,Cl [quV d s.2.length] 126),(d.n,quO d (s.2.flatMap encPl) 119),(b5,Cl [.map (some nm)] 122),(nm,mapO encPK encJv s.1)]
theorem Jf (b7 b6 b5 nm:Nat)(p:Pl)(d:Qu)(s:RS)(R:List (Nat × Obj)):rlH b7 b6 b5 nm p d s++R=(b7,Cl (encPl p) 119)::(b6,Cl [quV d s.2.length] 126)::(d.n,quO d (s.2.flatMap encPl) 119)::(b5,Cl [.map (some nm)] 122)::(nm,mapO encPK encJv s.1)::R:=rfl
theorem rlx_yes {pr:List Int}{p:Pl}{s:RS}{x:Pl × Nat}{cp:Int}(hp:look s.1 p=some cp)(h:∀ d,look s.1 x.1=some d→cp+gd pr x.2<d):rlx pr p s x=(upsert s.1 x.1 (cp+gd pr x.2),s.2++[x.1]):=by
 unfold rlx;rw[hp];cases hd:look s.1 x.1 with
 |none=>rfl
 |some d=>simp only[];rw[if_pos (h d hd)]
theorem rlx_no {pr:List Int}{p:Pl}{s:RS}{x:Pl × Nat}{cp d:Int}(hp:look s.1 p=some cp)(hd:look s.1 x.1=some d)(h: ¬ cp+gd pr x.2<d):rlx pr p s x=s:=by
 unfold rlx;rw[hp,hd];simp only[];rw[if_neg h]
theorem RI.one {ts:Pl→List (Pl × Nat)}{pr:List Int}{p0:Pl}{Pd:Pl→Prop}{N:Nat}(hN:∀ l:List Pl,l.Nodup→(∀ p∈l,Pd p)→l.length≤N)(hts:∀ p,Pd p→∀ x∈ts p,Pd x.1)(hpr:∀ p,∀ x∈ts p,0≤gd pr x.2∧gd pr x.2≤1048576){p:Pl}{x:Pl × Nat}{rest:List (Pl × Nat)}{s:RS}(hx:x∈ts p)(hp:∃ c,look s.1 p=some c)(h:RI ts pr p0 Pd N p (x::rest) s):
  (∃ c,look (rlx pr p s x).1 p=some c)∧RI ts pr p0 Pd N p rest (rlx pr p s x)∧phi N (rlx pr p s x)+(rlx pr p s x).2.length≤phi N s+s.2.length∧2*phi N (rlx pr p s x)+(rlx pr p s x).2.length≤2*phi N s+s.2.length:=by
 obtain⟨cp,hp⟩:=hp;have hpx:Pd x.1:=hts p (h.ok _ (F8 hp)) x hx
 by_cases hl:∀ d,look s.1 x.1=some d→cp+gd pr x.2<d
 ·rw[rlx_yes hp hl];obtain⟨h1,h2⟩:=h.low hN hx hpx (hpr p x hx) hp hl;refine⟨?_,h1,?_,?_⟩
  ·show ∃ c,look (upsert s.1 x.1 _) p=_;rw[Cm];split
   ·exact⟨_,rfl⟩
   ·exact⟨_,hp⟩
  ·simp only[List.length_append,List.length_singleton];omega
  ·simp only[List.length_append,List.length_singleton];omega
 ·obtain⟨d,hd,hc⟩:∃ d,look s.1 x.1=some d∧¬ cp+gd pr x.2<d:=by
   refine Classical.byContradiction fun hn=>hl fun d hd=> ?_
   refine Classical.byContradiction fun hc=>hn ⟨d,hd,hc⟩
  rw[rlx_no hp hd hc];exact⟨⟨cp,hp⟩,h.stay hp hd qom,Int.le_refl _,Int.le_refl _⟩
theorem Lb {ts:Pl→List (Pl × Nat)}{pr:List Int}{p0:Pl}{Pd:Pl→Prop}{N:Nat}{p:Pl}{rest:List (Pl × Nat)}{s:RS}(hN:∀ l:List Pl,l.Nodup→(∀ p∈l,Pd p)→l.length≤N)(h:RI ts pr p0 Pd N p rest s):0≤phi N s:=by
 unfold phi;have h1:=h.few hN;have h2:0≤sI s.1 (·.2):=Hp fun e he=>(h.rng e he).1
 have h3:0≤((N:Int) - s.1.length)*(1048576*N+1):=Int.mul_nonneg qom qom;omega
theorem paft_s {w0:World}{H:List (Nat × Obj)}(n:Nn)(hn:NetR w0 H n)(m:Mc)(hm:McOk w0 H m)(hsr:Srt m.names)(hl:m.names.length≤4611686018427387903)(hp:PMok m.pl)(b10 b4:Nat)(h10:Fnd H b10 (Cl (encMc m) 68))(h4:Fnd H b4 (Cl (encNn n) 26))(st node:Nat)(hst:st<m.rows.length)(hx:node<n.nodes.length):
  FSpec Tryz.prog w0 73 #[.int .i64 (st:Int), .int .i64 (node:Int), .pointer (some ⟨b10,0,none⟩), .pointer (some ⟨b4,0,none⟩)] H (Still (.agg (encPl (node,afterF m.pl st (nmF n node))).toArray) H):=by
 refine Ap Tryz.func73 U ntmps73 U ?_;obtain⟨hr1,hr2⟩:=Ej hp hst;have hle:=lbF_le m.names (nmF n node);refine rD tb 2 U (e_ (Aj zeroValue119 cs_) ?_ U);rintro _ _ ⟨n6,rfl,rfl⟩;refine rO tb 3 U (Bg 14 [(0,true),(1,true),(2,true),(3,true),(4,true),(5,true),(6,true),(7,true),(8,true),(9,true),(10,true),(11,true),(12,true),(13,true)] _ mixd qkr sb0 ?_ A7);refine rP tb 1 U ?_;refine o_y U (Lo U isAgg64 (by first|exact c_o|exact Br (by repeat (first|exact h10|refine Au ?_|refine A2 ?_)) U)) ?_ U Ac;refine rP tb 1 U ?_;refine o_y U (Lo U isAgg22 (by first|exact c_o|exact Br (by repeat (first|exact h4|refine Au ?_|refine A2 ?_)) U)) ?_ U Ac;refine rP tb 1 U (o_y U (Lq U U runUnderlying22 sizeOf85 qom (by first|exact rfl|exact hn.nodes.b (i:=node) hx)) ?_ U Ac);refine rP tb 1 U (o_y U (Lo U isAgg9 (by first|exact c_o|exact c_m (hn.nodes.f0 (i:=node) hx U))) ?_ U Ac);refine o_y U (Ax (qe2 U U) call74 (fun H' hs=>bs_s m.names _ _ (nmF n node) (hm.a1.mono (stn hs)) hsr hl)) (rP tb 5 U (A5 U (rO tb 6 U ?_))) U Ac;refine A6 (Bc (T U)) U Ac ?_;refine rO tb 2 U ?_;refine Ae (Aa U) (fun c22=> ?_) (fun c22=> ?_)
 ·have hlt:lett m.names (nmF n node)=m.names.length:=by unfold lett;rw[if_neg c22]
  refine rC tb 2 U ?_;refine y_ (Lo U isAgg64 (by first|exact c_o|exact Br (by repeat (first|exact h10|refine Au ?_|refine A2 ?_)) U)) ?_ U;refine rO tb 8 U ?_;refine y_ (Lo U isAgg65 (by first|exact c_o|exact Br (by repeat (first|exact h10|refine Au ?_|refine A2 ?_)) U)) ?_ U;refine rO tb 1 U (y_ (Lq U U runUnderlying65 sizeOf27 qom (by first|exact rfl|exact hn.nodes.b (i:=node) hx|exact hm.a2.b (i:=st) hst)) ?_ U);refine y_ (Lo U isAgg27 (by first|exact c_o|exact cell1 ((hm.a2.mono sbt).cs (i:=st) hst))) ?_ U;refine rO tb 1 U (y_ (Lq U U runUnderlying27 sizeOf3 qom (by first|exact rfl|exact hn.nodes.b (i:=node) hx|exact hm.a2.b (i:=st) hst|exact(hm.r (gd m.rows st) (Ag hst)).b (i:=0) qom)) ?_ U);refine y_ (Lo U isAgg3 (by first|exact c_o|exact cell1 (((hm.r _ (Ag hst)).mono sbt).cs (i:=m.names.length) qom))) ?_ U;refine y_ (Ay (.cons (T U) (.cons (T U) .nil)) (Gn _ _)) ?_ U;refine A0 (Ls U U sizeOf119) U Ac ?_;rintro _ _ ⟨rfl,rfl⟩;refine kO tb 2 [6] rfl U (rG tb 1 U (Ai U (.cellA (Aa U) isAgg119 sizeOf119 U qcs .nil) ?_));exact⟨_,⟨by show _=Value.agg (encPl (node,nx m.pl st (lett m.names (nmF n node)))).toArray;rw[Gs,hlt];rfl,rfl⟩,sbt⟩
 ·obtain⟨k,hk⟩:∃ k,k=lbF m.names (nmF n node):=⟨_,rfl⟩;have hlt:lett m.names (nmF n node)=k:=by unfold lett;rw[if_pos (Classical.not_not.1 c22),hk]
  simp only[← hk];refine rC tb 6 U ?_;refine y_ (Lo U isAgg65 (by first|exact c_o|exact Br (by repeat (first|exact h10|refine Au ?_|refine A2 ?_)) U)) ?_ U;refine rO tb 1 U (y_ (Lq U U runUnderlying65 sizeOf27 qom (by first|exact rfl|exact hn.nodes.b (i:=node) hx|exact hm.a2.b (i:=st) hst)) ?_ U);refine y_ (Lo U isAgg27 (by first|exact c_o|exact cell1 ((hm.a2.mono sbt).cs (i:=st) hst))) ?_ U;refine rO tb 1 U (y_ (Lq U U runUnderlying27 sizeOf3 qom (by first|exact rfl|exact hn.nodes.b (i:=node) hx|exact hm.a2.b (i:=st) hst|exact(hm.r (gd m.rows st) (Ag hst)).b (i:=0) qom)) ?_ U);refine y_ (Lo U isAgg3 (by first|exact c_o|exact cell1 (((hm.r _ (Ag hst)).mono sbt).cs (i:=m.names.length) qom)|exact cell1 (((hm.r _ (Ag hst)).mono sbt).cs (i:=k) qom))) ?_ U;refine y_ (Ay (.cons (T U) (.cons (T U) .nil)) (Gn _ _)) ?_ U;refine A0 (Ls U U sizeOf119) U Ac ?_;rintro _ _ ⟨rfl,rfl⟩;refine rO tb 3 U (Ai U (.cellA (Aa U) isAgg119 sizeOf119 U qcs .nil) ?_);exact⟨_,⟨by show _=Value.agg (encPl (node,nx m.pl st (lett m.names (nmF n node)))).toArray;rw[Gs,hlt];rfl,rfl⟩,sbt⟩
theorem rlx1_s {w0:World}{H:List (Nat × Obj)}(b7 b6 b5 nm:Nat)(pr:List Int)(p:Pl)(d:Qu)(s:RS)(hd:QuOk d s.2.length 2)(x:Pl × Nat)(hp:∃ c,look s.1 p=some c∧0≤c∧c≤1048576*2400)(hpr:0≤gd pr x.2∧gd pr x.2≤1048576)(hq:s.2.length≤7000000000000):
  FSpec Tryz.prog w0 124 #[.agg (encPl x.1).toArray, .int .i64 (gd pr x.2), .pointer (some ⟨b5,0,none⟩), .pointer (some ⟨b7,0,none⟩), .pointer (some ⟨b6,0,none⟩)] (rlH b7 b6 b5 nm p d s++H) (fun _ H'=>∃ d':Qu,QuOk d' (rlx pr p s x).2.length 2∧H'=rlH b7 b6 b5 nm p d' (rlx pr p s x)++H):=by
 refine Ap Tryz.func124 U ntmps124 U ?_;obtain⟨cp,hcp,hc0,hc1⟩:=hp;rw[Jf];refine rD tb 2 U (e_ (Lt U cs_) ?_ U);rintro _ _ ⟨n5,rfl,rfl⟩;refine rO tb 4 U (y_ (Lo U isAgg122 qco) ?_ U);refine y_ (Lp U isAgg119 sizeOf119 U qcs) ?_ U;refine y_ (yl_lk2 (l:=s.1) (p:=x.1) (T U) (T U) fdd) ?_ U;refine rO tb 10 U ?_
 first|refine A6 (Bc (T U)) U Ac ?_|refine A6 (By (T U)) U Ac ?_
 refine rO tb 1 U ?_
 first|refine A4 (s:=17) (Aa U) (fun c17=> ?_) (fun c17=> ?_)|refine Eu (s:=17) (Aa U) (fun c17=> ?_) (fun c17=> ?_)
 ·have hlow:∀ c,look s.1 x.1=some c→cp+gd pr x.2<c:=fun c h=>by rw[h] at c17;cases c17
  refine rO tb 12 U (Bg 7 [(0,true),(1,true),(2,true),(3,true),(4,true),(5,true),(6,true)] _ mixd qkr sb0 ?_ A7);refine o_y U (Lo U isAgg122 qco) ?_ U Ac;refine o_y U (Lp U isAgg119 sizeOf119 U qcs) ?_ U Ac;refine o_y U (Lo U isAgg122 qco) ?_ U Ac;refine o_y U (Lp U isAgg119 sizeOf119 U qcs) ?_ U Ac;refine o_y U (yl_lk3 (l:=s.1) (p:=p) hcp (T U) (T U) fdd) ?_ U Ac;refine rP tb 1 U (o_y U (Aq (T U) (T U) qom) ?_ U Ac);refine A5 U (e_ (Cd (l:=s.1) (encV:=encJv) x.1 (cp+gd pr x.2) (keyP74 (V:=Int)) (T U) (T U) U (T U) U runUnderlying122) ?_ U);rintro _ _ ⟨rfl,rfl⟩;refine rO tb 3 U (y_ (Lo U isAgg126 qco) ?_ U);refine y_ (Lp U isAgg119 sizeOf119 U qcs) ?_ U;refine e_ (Ah (.cons (T U) .nil) (zbs126_1_0 _ _)) ?_ U;rintro _ _ ⟨n35,rfl,rfl⟩;refine e_ (eff_appQ (d:=d) (l:=s.2) (enc:=encPl) (by':=16) x.1 (by repeat (first|exact LocL.h1|apply LocL.t)) (T U) (T U) runUnderlying126 runUnderlying126 sizeOf119 typeInfo119 U zeroValue119 U (fun _=>rfl) U hd qde qom) ?_ U;rintro _ _ ⟨d',rfl,hd',rfl⟩;simp only[List.cons_append,List.nil_append];refine A0 (Ls U U sizeOf126) U Ac ?_;rintro _ _ ⟨rfl,rfl⟩;refine rO tb 1 U (Cz U .nil ?_);rw[rlx_yes hcp hlow];exact⟨_,⟨d',by simpa using hd',by(rw[Jf,List.length_append];done)⟩,sbt⟩
 ·obtain⟨dx,hdx⟩:∃ c,look s.1 x.1=some c:=by
   cases h:look s.1 x.1 with
   |none=>rw[h] at c17;cases c17
   |some c=>exact⟨c,rfl⟩
  refine A6 (Lo U isAgg122 qco) U (Az U U (Aa U)) ?_;refine A6 (Lp U isAgg119 sizeOf119 U qcs) U (Az U U (Aa U)) ?_;refine A6 (yl_lk3 (l:=s.1) (p:=p) hcp (T U) (T U) fdd) U (Az U U (Aa U)) ?_;refine rO tb 1 U (A6 (Aq (T U) (T U) qom) U (Az U U (Aa U)) ?_);refine rO tb 5 U ?_;refine Ae (Aa U) (fun c25=> ?_) (fun c25=> ?_)
  ·have hlow:∀ c,look s.1 x.1=some c→cp+gd pr x.2<c:=fun c h=>by rw[hdx] at h;obtain rfl:=Option.some.inj h;simpa[hdx] using c25
   refine rC tb 1 U (Bg 7 [(0,true),(1,true),(2,true),(3,true),(4,true),(5,true),(6,true)] _ mixd qkr sb0 ?_ A7);refine o_y U (Lo U isAgg122 qco) ?_ U Ac;refine o_y U (Lp U isAgg119 sizeOf119 U qcs) ?_ U Ac;refine o_y U (Lo U isAgg122 qco) ?_ U Ac;refine o_y U (Lp U isAgg119 sizeOf119 U qcs) ?_ U Ac;refine o_y U (yl_lk3 (l:=s.1) (p:=p) hcp (T U) (T U) fdd) ?_ U Ac;refine rP tb 1 U (o_y U (Aq (T U) (T U) qom) ?_ U Ac);refine A5 U (e_ (Cd (l:=s.1) (encV:=encJv) x.1 (cp+gd pr x.2) (keyP74 (V:=Int)) (T U) (T U) U (T U) U runUnderlying122) ?_ U);rintro _ _ ⟨rfl,rfl⟩;refine rO tb 3 U (y_ (Lo U isAgg126 qco) ?_ U);refine y_ (Lp U isAgg119 sizeOf119 U qcs) ?_ U;refine e_ (Ah (.cons (T U) .nil) (zbs126_1_0 _ _)) ?_ U;rintro _ _ ⟨n35,rfl,rfl⟩;refine e_ (eff_appQ (d:=d) (l:=s.2) (enc:=encPl) (by':=16) x.1 (by repeat (first|exact LocL.h1|apply LocL.t)) (T U) (T U) runUnderlying126 runUnderlying126 sizeOf119 typeInfo119 U zeroValue119 U (fun _=>rfl) U hd qde qom) ?_ U;rintro _ _ ⟨d',rfl,hd',rfl⟩;simp only[List.cons_append,List.nil_append];refine A0 (Ls U U sizeOf126) U Ac ?_;rintro _ _ ⟨rfl,rfl⟩;refine rO tb 1 U (Cz U .nil ?_);rw[rlx_yes hcp hlow];exact⟨_,⟨d',by simpa using hd',by(rw[Jf,List.length_append];done)⟩,sbt⟩
  ·refine rC tb 1 U (Cz U .nil ?_);rw[rlx_no hcp hdx (by simpa[hdx] using c25)];exact⟨_,⟨d,hd,rfl⟩,sbt⟩
abbrev upL (n:Nn) (f:Flr) (x:Nat):List Nat:=(outF n x).filter (upF n f)
theorem mv_drop {n:Nn}{f:Flr}{m:PM}{p:Pl}{i:Nat}(h:i<(upL n f p.1).length):(movesF n f m p).drop i=mvF n m p.2 (gd (upL n f p.1) i)::(movesF n f m p).drop (i+1):=by
 have hl:i<(movesF n f m p).length:=by simpa[movesF] using h
 rw[List.drop_eq_getElem_cons hl]
 congr 1
 simp only[movesF,List.getElem_map];rw[Ar h]
theorem up_mem {n:Nn}{f:Flr}{x l:Nat}(h:l∈upL n f x):l<n.links.length∧(gd n.links l).src=x∧upF n f l=true:=by
 rw[List.mem_filter] at h;have:=(Ey n x l n.links.length).1 h.1;exact⟨this.1,this.2,h.2⟩
theorem RI.any {ts:Pl→List (Pl × Nat)}{pr:List Int}{p0:Pl}{Pd:Pl→Prop}{N:Nat}{p:Pl}{s:RS}(h:RI ts pr p0 Pd N p [] s)(p':Pl):RI ts pr p0 Pd N p' [] s:=
 ⟨h.nd,h.ok,h.start,h.ach,h.rng,h.que,fun q c hq hn x hx=>(h.cls q c hq hn x hx).elim (fun h1=>by cases h1.2) .inr⟩
theorem RI.val {ts:Pl→List (Pl × Nat)}{pr:List Int}{p0:Pl}{Pd:Pl→Prop}{p:Pl}{rest:List (Pl × Nat)}{s:RS}(hN:∀ l:List Pl,l.Nodup→(∀ p∈l,Pd p)→l.length≤2400)(h:RI ts pr p0 Pd 2400 p rest s){q:Pl}{c:Int}(hq:look s.1 q=some c):0≤c∧c≤1048576*2400:=by
 have h1:=h.few hN;have h2:=look_pr hq h.rng;omega
theorem mv_pr {n:Nn}{f:Flr}{m:PM}{pr:List Int}(hpl:pr.length=n.links.length)(hpr:∀ i,i<pr.length→0≤gd pr i∧gd pr i≤1048576)(p:Pl):∀ x∈movesF n f m p,0≤gd pr x.2∧gd pr x.2≤1048576:=fun x hx=>by
 obtain⟨r,l⟩:=x;have:=(mem_moves.1 hx).1.1;exact hpr l qom
theorem J5 {n:Nn}(hok:NnOk n){m:PM}(hp:PMok m):∀ l:List Pl,l.Nodup→(∀ p∈l,PlOk n m p)→l.length≤2400:=fun l h1 h2=>Nat.le_trans (Fq n m l h1 h2) (Jo hok hp)
structure StpM (w0:World) (H:List (Nat × Obj)) (n:Nn) (f:Flr) (m:Mc) (pr:List Int) (b13 b12 b10 b4 bp:Nat) (rows:List RowQ) (qo qp:Option Addr) (co cp:Nat):Prop where
 net:NetR w0 H n
 mc:McOk w0 H m
 h13:Fnd H b13 (Cl [.slice qo rows.length co] 65)
 h12:Fnd H b12 (Cl [.func (.func 73) #[] #[.pointer (some ⟨b10,0,none⟩), .pointer (some ⟨b4,0,none⟩)]] 121)
 h10:Fnd H b10 (Cl (encMc m) 68)
 h4:Fnd H b4 (Cl (encNn n) 26)
 hb:Fnd H bp (Cl [.slice qp pr.length cp] 27)
 o:Arr w0 H qo 1 encRQ rows
 r:∀ r∈rows,Arr w0 H r.q 1 encU r.l
 p:Arr w0 H qp 1 encI pr
theorem StpM.mono {w0:World}{H H':List (Nat × Obj)}{n:Nn}{f:Flr}{m:Mc}{pr:List Int}{b13 b12 b10 b4 bp:Nat}{rows:List RowQ}{qo qp:Option Addr}{co cp:Nat}(h:StpM w0 H n f m pr b13 b12 b10 b4 bp rows qo qp co cp)(hs:H.Sublist H':=by exact sbt):StpM w0 H' n f m pr b13 b12 b10 b4 bp rows qo qp co cp:=
 ⟨h.net.mono hs,h.mc.mono hs,hs.subset h.h13,hs.subset h.h12,hs.subset h.h10,hs.subset h.h4,hs.subset h.hb,h.o.mono hs,fun r hr=>(h.r r hr).mono hs,h.p.mono hs⟩
structure StpOk (n:Nn) (f:Flr) (m:Mc) (pr:List Int) (rows:List RowQ):Prop where
 ok:NnOk n
 pm:PMok m.pl
 sr:Srt m.names
 nl:m.names.length≤4611686018427387903
 rl:rows.length=n.nodes.length
 up:∀ i,i<n.nodes.length→(gd rows i).l=upL n f i
 pl:pr.length=n.links.length
 pr:∀ i,i<pr.length→0≤gd pr i∧gd pr i≤1048576
theorem locRl {b7 b6 b5 nm:Nat}{p:Pl}{d:Qu}{s:RS}{R:List (Nat × Obj)}:LocL ((b7,Cl (encPl p) 119)::(b6,Cl [quV d s.2.length] 126)::(d.n,quO d (s.2.flatMap encPl) 119)::(b5,Cl [.map (some nm)] 122)::(nm,mapO encPK encJv s.1)::R) (rlH b7 b6 b5 nm p d s) R (fun M'=>M'++R):=by
 rw[← Jf];exact .h
theorem stp_s {w0:World}{H:List (Nat × Obj)}(b7 b6 b5 nm:Nat)(n:Nn)(f:Flr)(m:Mc)(pr:List Int)(b13 b12 b10 b4 bp:Nat)(rows:List RowQ)(qo qp:Option Addr)(co cp:Nat)(hM:StpM w0 H n f m pr b13 b12 b10 b4 bp rows qo qp co cp)(hO:StpOk n f m pr rows)(p0:Pl)(p:Pl)(hpo:PlOk n m.pl p)(d0:Qu)(s0:RS)(hd0:QuOk d0 s0.2.length 2)(hri0:RI (movesF n f m.pl) pr p0 (PlOk n m.pl) 2400 p (movesF n f m.pl p) s0)(hp0:∃ c,look s0.1 p=some c)(hph:phi 2400 s0+s0.2.length≤6500000000000):
  FSpec Tryz.prog w0 76 #[.agg (encPl p).toArray, .func (.func 124) #[] #[.pointer (some ⟨b5,0,none⟩), .pointer (some ⟨b7,0,none⟩), .pointer (some ⟨b6,0,none⟩)], .pointer (some ⟨b13,0,none⟩), .pointer (some ⟨b12,0,none⟩), .pointer (some ⟨b4,0,none⟩), .pointer (some ⟨bp,0,none⟩)] (rlH b7 b6 b5 nm p d0 s0++H) (fun _ H'=>∃ y:Qu × RS,(QuOk y.1 y.2.2.length 2∧RI (movesF n f m.pl) pr p0 (PlOk n m.pl) 2400 p ([]) y.2∧phi 2400 y.2+y.2.2.length≤phi 2400 s0+s0.2.length∧2*phi 2400 y.2+y.2.2.length≤2*phi 2400 s0+s0.2.length)∧H'=rlH b7 b6 b5 nm p y.1 y.2++H):=by
 refine Ap Tryz.func76 U ntmps76 U ?_;have hrl:=hO.rl;have hpx:=hpo.1;have hps:p.2<m.rows.length:=by have:=hpo.2;rw[show m.pl.next.length=m.rows.length from List.length_map ..] at this;exact this
 have hup:=hO.up p.1 hpx;have hpl:=hO.pl;have hfl:=hO.ok.fewL;have hN:=J5 hO.ok hO.pm;have hrw:(gd rows p.1).l.length≤n.links.length:=by rw[hup];exact Nat.le_trans (List.length_filter_le _ _) (Ez n p.1 _)
 refine rD tb 2 U (e_ (Lt U cs_) ?_ U);rintro _ _ ⟨n6,rfl,rfl⟩;refine rO tb 4 U ?_;refine y_ (Lo U isAgg65 (by first|exact c_o|exact Br (by repeat (first|exact hM.h13|refine Au ?_|refine A2 ?_)) U)) ?_ U;refine rO tb 1 U (y_ (Lo U isAgg3 qco) ?_ U);refine y_ (Lq U U runUnderlying65 sizeOf27 qom (by first|exact rfl|exact hM.o.b (i:=p.1) qom)) ?_ U;refine y_ (Lo U isAgg27 (by first|exact c_o|exact cell1 ((hM.o.mono sbt).cs (i:=p.1) qom))) ?_ U;refine rO tb 5 U ?_;refine Ba (X:=Nat × RS × Qu) (V:=fun ⟨i,s,d⟩=>[(16, .int .i64 (i:Nat))]) (C:=[(1,_),(3,_),(4,_),(5,_),(6,_),(14,_),(15,_)]) (G:=fun ⟨i,s,d⟩=>(n6,Cl (encPl p) 119)::(rlH b7 b6 b5 nm p d s++H)) (φ:=fun ⟨i,s,d⟩=>i≤(gd rows p.1).l.length∧QuOk d s.2.length 2∧(∃ c,look s.1 p=some c)∧RI (movesF n f m.pl) pr p0 (PlOk n m.pl) 2400 p ((movesF n f m.pl p).drop i) s∧phi 2400 s+s.2.length≤phi 2400 s0+s0.2.length∧2*phi 2400 s+s.2.length≤2*phi 2400 s0+s0.2.length) (μ:=fun ⟨i,s,d⟩=>(gd rows p.1).l.length - i) (x0:=(0,s0,d0)) ?_ ⟨Aa rfl,Aa rfl,Aa rfl,Aa rfl,Aa rfl,Aa rfl,Aa rfl,trivial⟩ ⟨qat,trivial⟩ sb0 ?_
 ·exact⟨Nat.zero_le _,hd0,hp0,hri0,Int.le_refl _,Int.le_refl _⟩
 rintro⟨i,s,d⟩ ⟨hi,hd,hpp,hri,hb1,hb2⟩;refine rD tb 6 U ?_;refine Ae (Aa U) (fun c17=> ?_) (fun c17=> ?_)
 ·have hil:i<(upL n f p.1).length:=by rw[← hup];omega
  have hlm:(gd (gd rows p.1).l i)∈upL n f p.1:=by rw[hup];exact Ag hil
  obtain⟨hl1,hl2,hl3⟩:=up_mem hlm;have hle:=hO.ok.ends _ (Ag (l:=n.links) (i:=(gd (gd rows p.1).l i)) hl1);have hph0:=Lb hN hri;have hdr:=mv_drop (m:=m.pl) hil;rw[← hup] at hdr;rw[hdr] at hri;obtain⟨g1,g2,g3,g4⟩:=RI.one hN (F3 hO.ok hO.pm) (mv_pr hpl hO.pr) (by unfold movesF;exact List.mem_map.2 ⟨_,hlm,rfl⟩) hpp hri;refine rC tb 6 U (y_ (Lq U U runUnderlying27 sizeOf3 qom (by first|exact rfl|exact hM.o.b (i:=p.1) qom|exact(hM.r (gd rows p.1) (Ag qom)).b (i:=i) qom)) ?_ U);refine y_ (Lo U isAgg3 (by first|exact c_o|exact cell1 (((hM.r (gd rows p.1) (Ag qom)).mono sbt).cs (i:=i) qom))) ?_ U;refine rO tb 3 U (Bg 15 [(0,true),(1,true),(2,true),(3,true),(4,true),(5,true),(6,true),(7,true),(8,true),(9,true),(10,true),(11,true),(12,true),(13,true),(14,true)] _ mixd qkr sb0 ?_ A7);refine rP tb 1 U ?_;refine o_y U (Lo U isAgg121 (by first|exact c_o|exact Br (by repeat (first|exact hM.h12|refine Au ?_|refine A2 ?_)) U)) ?_ U Ac;refine rP tb 1 U (o_y U (Lo U isAgg3 qco) ?_ U Ac);refine rP tb 1 U ?_;refine o_y U (Lo U isAgg23 (by first|exact c_o|exact Br (by repeat (first|exact hM.h4|refine Au ?_|refine A2 ?_)) U)) ?_ U Ac;refine rP tb 1 U (o_y U (Lq U U runUnderlying23 sizeOf61 qom (by first|exact rfl|exact hM.o.b (i:=p.1) qom|exact(hM.r (gd rows p.1) (Ag qom)).b (i:=i) qom|exact hM.net.links.b (i:=(gd (gd rows p.1).l i)) qom)) ?_ U Ac);refine rP tb 1 U (o_y U (Lo U isAgg3 (by first|exact c_o|exact c_m (hM.net.links.f (i:=(gd (gd rows p.1).l i)) (j:=1) qom U))) ?_ U Ac);refine o_y U (Cq (T U) (qe2 U U) call73 (fun H' hs=>paft_s n (hM.net.mono (stn hs)) m (hM.mc.mono (stn hs)) hO.sr hO.nl hO.pm b10 b4 ((stn hs).subset hM.h10) ((stn hs).subset hM.h4) p.2 (gd n.links (gd (gd rows p.1).l i)).dst hps qom)) ?_ U Ac;refine o_y U (Lo U isAgg27 (by first|exact c_o|exact Br (by repeat (first|exact hM.hb|refine Au ?_|refine A2 ?_)) U)) ?_ U Ac;refine rP tb 1 U (o_y U (Lq U U runUnderlying27 sizeOf3 qom (by first|exact rfl|exact hM.o.b (i:=p.1) qom|exact(hM.r (gd rows p.1) (Ag qom)).b (i:=i) qom|exact hM.net.links.b (i:=(gd (gd rows p.1).l i)) qom|exact hM.p.b (i:=(gd (gd rows p.1).l i)) qom)) ?_ U Ac);refine o_y U (Lo U isAgg3 (by first|exact c_o|exact cell1 ((hM.p.mono sbt).cs (i:=(gd (gd rows p.1).l i)) qom))) ?_ U Ac;refine A5 rfl (e_ (C9 (T rfl) (qe2 rfl rfl) call124 (A8 (rlH b7 b6 b5 nm p d s) qlc (rlx1_s (H:=(n6,Cl (encPl p) 119)::H) b7 b6 b5 nm pr p d s hd (mvF n m.pl p.2 (gd (gd rows p.1).l i)) (by obtain⟨c,hc⟩:=hpp;exact⟨c,hc,hri.val hN hc⟩) (hO.pr _ (by show (gd (gd rows p.1).l i)<_;omega)) qom))) ?_ rfl);rintro _ _ ⟨d2,hd2,rfl⟩;refine rO tb 4 U (y_ (Aq (T U) Ao qom) ?_ U);refine rO tb 2 U ?_;refine An ((i+1,rlx pr p s (mvF n m.pl p.2 (gd (gd rows p.1).l i)),d2)) ?_ ?_ ⟨qat,trivial⟩ ⟨Aa U,Aa U,Aa U,Aa U,Aa U,Aa U,Aa U,trivial⟩ ?_
  ·exact⟨by omega,hd2,g1,g2,Int.le_trans g3 hb1,Int.le_trans g4 hb2⟩
  ·first|omega|(simp only[];omega)
  ·exact sbt
 ·refine rC tb 2 U (Af (rX tb 1 U (Cz U .nil ?_)));have hdn:(movesF n f m.pl p).drop i=[]:=List.drop_eq_nil_of_le (by rw[show (movesF n f m.pl p).length=(upL n f p.1).length from List.length_map ..,← hup];omega);rw[hdn] at hri;exact⟨_,⟨(d,s),⟨hd,hri,hb1,hb2⟩,rfl⟩,sbt⟩
theorem phi_fst {N:Nat}{s t:RS}(h:s.1=t.1):phi N s=phi N t:=by unfold phi;rw[h]
theorem relax_s {w0:World}{H:List (Nat × Obj)}(n:Nn)(f:Flr)(m:Mc)(pr:List Int)(b13 b12 b10 b4 bp:Nat)(rows:List RowQ)(qo qp:Option Addr)(co cp:Nat)(hM:StpM w0 H n f m pr b13 b12 b10 b4 bp rows qo qp co cp)(hO:StpOk n f m pr rows)(p0:Pl)(hp0:PlOk n m.pl p0):
  FSpec Tryz.prog w0 75 #[.agg (encPl p0).toArray, .func (.func 76) #[] #[.pointer (some ⟨b13,0,none⟩), .pointer (some ⟨b12,0,none⟩), .pointer (some ⟨b4,0,none⟩), .pointer (some ⟨bp,0,none⟩)]] H (fun v H'=>∃ y:Nat × List (Pl × Int),(v= .map (some y.1)∧RI (movesF n f m.pl) pr p0 (PlOk n m.pl) 2400 p0 ([]) (y.2,[]))∧H'=[(y.1,mapO encPK encJv y.2)]++H):=by
 refine Ap Tryz.func75 U ntmps75 U ?_;have hN:=J5 hO.ok hO.pm;refine rD tb 2 U (e_ (Lt U cs_) ?_ U);rintro _ _ ⟨n2,rfl,rfl⟩;refine rO tb 6 U (e_ Eb ?_ U);rintro _ _ ⟨n8,rfl,rfl⟩;refine y_ (Lp U isAgg119 sizeOf119 U qcs) ?_ U;refine e_ (Ge (l:=[]) (encV:=encJv) p0 (0:Int) (keyP74 (V:=Int)) (T U) (T U) U Ao U runUnderlying122) ?_ U;rintro _ _ ⟨rfl,rfl⟩;refine rO tb 1 U (e_ (Aj zeroValue122 cs_) ?_ U);rintro _ _ ⟨n5,rfl,rfl⟩;refine A0 (Ls U U sizeOf122) U Ac ?_;rintro _ _ ⟨rfl,rfl⟩;refine rO tb 4 U (y_ (Lp U isAgg119 sizeOf119 U qcs) ?_ U);refine e_ (Ah (.cons (T U) .nil) (zbs126_1_0 _ _)) ?_ U;rintro _ _ ⟨n12,rfl,rfl⟩;refine e_ (Aj zeroValue126 cs_) ?_ U;rintro _ _ ⟨n6,rfl,rfl⟩;refine A0 (Ls U U sizeOf126) U Ac ?_;rintro _ _ ⟨rfl,rfl⟩;refine rO tb 7 U ?_;refine Ba (X:=List (Pl × Int) × List Pl × Qu) (V:=fun ⟨m1,q,d⟩=>[]) (C:=[(1,_),(5,_),(6,_)]) (G:=fun ⟨m1,q,d⟩=>(n6,Cl [quV d q.length] 126)::(d.n,quO d (q.flatMap encPl) 119)::(n5,Cl [.map (some n8)] 122)::(n8,mapO encPK encJv m1)::(n2,Cl (encPl p0) 119)::H) (φ:=fun ⟨m1,q,d⟩=>QuOk d q.length 2∧RI (movesF n f m.pl) pr p0 (PlOk n m.pl) 2400 p0 ([]) (m1,q)∧phi 2400 (m1,q)+q.length≤6500000000000) (μ:=fun ⟨m1,q,d⟩=>2*(phi 2400 (m1,q)).toNat+q.length) (x0:=([(p0,0)],[p0],⟨n12,[],1,[],[]⟩)) ?_ ⟨Aa rfl,Aa rfl,Aa rfl,trivial⟩ trivial sb0 ?_
 ·exact⟨⟨Nat.le_refl _,rfl⟩,RI.init _ _ _ hp0,by simp[phi,sI]⟩
 rintro⟨m1,q,d⟩ ⟨hd,hri,hb1⟩;refine rD tb 4 U (y_ (Lo U isAgg126 qco) ?_ U);refine rO tb 4 U ?_;refine Ae (Aa U) (fun c15=> ?_) (fun c15=> ?_)
 ·obtain rfl:q=[]:=List.eq_nil_of_length_eq_zero qom;refine rC tb 3 U (Af (rX tb 4 U (y_ (Lo U isAgg122 qco) ?_ U)));refine rO tb 5 U (Ai U (Ll U) ?_);exact⟨_,⟨(n8,m1),⟨rfl,hri⟩,rfl⟩,sbt⟩
 ·obtain⟨p,q2,rfl⟩:∃ p q2,q=p::q2:=by
   cases q with
   |nil=>exact absurd rfl c15
   |cons p q2=>exact⟨p,q2,rfl⟩
  refine rC tb 4 U (y_ (Lo U isAgg126 qco) ?_ U);refine y_ (Bi (T U) Ao runUnderlying126 sizeOf119 qom (by exact rfl)) ?_ U;refine y_ (Lp U isAgg119 sizeOf119 U (by exact(show Cells w0 _ _ _ (encPl p) from (qu_arr (w0:=w0) (l:=p::q2) (enc:=encPl) (sz:=2) (fun _=>rfl) fdd).cs (i:=0) (by simp)))) ?_ U;refine e_ (Aj zeroValue119 cs_) ?_ U;rintro _ _ ⟨n7,rfl,rfl⟩;refine A0 (Ls U U sizeOf119) U Ac ?_;rintro _ _ ⟨rfl,rfl⟩;refine rO tb 4 U (y_ (Lo U isAgg126 qco) ?_ U);refine y_ (Ch (k:=1) (T U) Ao runUnderlying126 sizeOf119 (by simp)) ?_ U;refine A0 (Ls U U sizeOf126) U Ac ?_;rintro _ _ ⟨rfl,rfl⟩;refine rO tb 4 U (y_ (Lp U isAgg119 sizeOf119 U qcs) ?_ U);obtain⟨d2,e1,e2,e3,e4,hd2⟩:=qu_pop (k:=0) 119 (enc:=encPl) (x:=p) (l:=q2) (fun _=>rfl) hd;obtain⟨hr2,hpp⟩:=hri.pop;have hpo:=hri.ok _ (F8 hpp.choose_spec);have hln:(p::q2).length - 1=q2.length:=by simp
  rw[e1,e2,e4,← e3,hln];refine y_ (Bn (.cons (T U) (.cons (T U) (.cons (T U) .nil)))) (e_ (C9 (T U) (qe2 U U) call76 (A8 (rlH n7 n6 n5 n8 p d2 (m1,q2)) (locRl (p:=p) (d:=d2) (s:=(m1,q2))) (stp_s (H:=(n2,Cl (encPl p0) 119)::H) n7 n6 n5 n8 n f m pr b13 b12 b10 b4 bp rows qo qp co cp hM.mono hO p0 p hpo d2 (m1,q2) hd2 hr2 hpp (by rw[phi_fst (s:=(m1,q2)) (t:=(m1,p::q2)) rfl];simp only[List.length_cons] at hb1 ⊢;omega)))) ?_ U) U;rintro _ _ ⟨⟨d3,m3,q3⟩,⟨hd3,hri3,hb3,hb4⟩,rfl⟩;have hpe:phi 2400 (m1,q2)=phi 2400 (m1,p::q2):=phi_fst U;have hb3:phi 2400 (m3,q3)+(q3.length:Int)≤phi 2400 (m1,q2)+(q2.length:Int):=hb3;have hb4:2*phi 2400 (m3,q3)+(q3.length:Int)≤2*phi 2400 (m1,q2)+(q2.length:Int):=hb4;have hph3:0≤phi 2400 (m3,q3):=Lb hN hri3;have hph0:=Lb hN hri;simp only[Jf];refine rO tb 2 U ?_;refine An ((m3,q3,d3)) ?_ ?_ trivial ⟨Aa U,Aa U,Aa U,trivial⟩ ?_
  ·exact⟨hd3,hri3.any _,by show phi 2400 (m3,q3)+(q3.length:Int)≤_;simp only[List.length_cons] at hb1;omega⟩
  ·show 2*(phi 2400 (m3,q3)).toNat+q3.length<2*(phi 2400 (m1,p::q2)).toNat+(p::q2).length;simp only[List.length_cons];omega
  ·exact sbt
theorem rep_row (N:Nat):List.replicate N (Value.slice none 0 0)=(List.replicate N (⟨.nil,[]⟩:Row)).flatMap encRow++[]:=by
 induction N with
 |zero=>rfl
 |succ N ih=>rw[List.replicate_succ,List.replicate_succ,ih];simp[slQ,slC]
def rowsM (rs:List Row):List (Nat × Obj):=rs.flatMap fun r=>slH r.d (r.l.flatMap encU) 3
theorem rowsM_rep (N:Nat):rowsM (List.replicate N (⟨.nil,[]⟩:Row))=[]:=by
 induction N with
 |zero=>rfl
 |succ N ih=>rw[List.replicate_succ];unfold rowsM at *;rw[List.flatMap_cons,ih];rfl
theorem rowsM_split {rs:List Row}{i:Nat}(h:i<rs.length):rowsM rs=rowsM (rs.take i)++(slH (gd rs i).d ((gd rs i).l.flatMap encU) 3++rowsM (rs.drop (i+1))):=by
 have e:rs=rs.take i++gd rs i::rs.drop (i+1):=by
  rw[Ar h,← List.drop_eq_getElem_cons h,List.take_append_drop]
 conv=>lhs;rw[e]
 unfold rowsM;rw[List.flatMap_append,List.flatMap_cons]
theorem rowsM_set {rs:List Row}{i:Nat}(h:i<rs.length)(r:Row):rowsM (rs.set i r)=rowsM (rs.take i)++(slH r.d (r.l.flatMap encU) 3++rowsM (rs.drop (i+1))):=by
 rw[List.set_eq_take_append_cons_drop,if_pos h];unfold rowsM;rw[List.flatMap_append,List.flatMap_cons]
theorem locRow {rs:List Row}{i:Nat}(h:i<rs.length)(X:List (Nat × Obj)):LocL (rowsM rs++X) (slH (gd rs i).d ((gd rs i).l.flatMap encU) 3) (rowsM (rs.take i)++(rowsM (rs.drop (i+1))++X)) (fun M'=>rowsM (rs.take i)++(M'++(rowsM (rs.drop (i+1))++X))):=by
 rw[rowsM_split h,List.append_assoc,List.append_assoc];exact .a .h
theorem rowsM_sub {rs:List Row}{r:Row}(h:r∈rs):(slH r.d (r.l.flatMap encU) 3).Sublist (rowsM rs):=by
 induction rs with
 |nil=>cases h
 |cons a rs ih=>
  unfold rowsM at *;rw[List.flatMap_cons];rcases List.mem_cons.1 h with rfl|h
  ·exact List.sublist_append_left _ _
  ·exact(ih h).trans (List.sublist_append_right _ _)
def toQ (r:Row):RowQ:=⟨slQ r.d,slC r.d,r.l⟩
theorem arrQ {w0:World}{H:List (Nat × Obj)}{q:Option Addr}{rs:List Row}(h:Arr w0 H q 1 encRow rs):Arr w0 H q 1 encRQ (rs.map toQ):=fun i x hi=>by
 rw[List.getElem?_map] at hi;obtain⟨r,h1,rfl⟩:=Option.map_eq_some_iff.1 hi;exact h i r h1
theorem upK_le {n:Nn}{f:Flr}(x k:Nat):((outK n x k).filter (upF n f)).length≤k:=Nat.le_trans (List.length_filter_le _ _) (Ez n x k)
abbrev upK (n:Nn) (f:Flr) (x k:Nat):List Nat:=(outK n x k).filter (upF n f)
theorem upK_yes {n:Nn}{f:Flr}{k:Nat}(hu:upF n f k=true):upK n f (gd n.links k).src (k+1)=upK n f (gd n.links k).src k++[k]:=by
 unfold upK;rw[Dc,if_pos rfl,List.filter_append];simp[hu]
theorem upK_no {n:Nn}{f:Flr}{x k:Nat}(hu:upF n f k=false∨¬ (gd n.links k).src=x):upK n f x (k+1)=upK n f x k:=by
 unfold upK;rw[Dc]
 split
 ·rename_i h;rcases hu with hu|hu
  ·rw[List.filter_append];simp[hu]
  ·exact absurd h hu
 ·rfl
theorem seen_le':∀ {n:Nat} {seen:List Nat},seen.Nodup→(∀ i∈seen,i<n)→seen.length≤n
 |n,seen,h1,h2=>by
  have:=List.Nodup.length_le_of_subset h1 (l₂:=List.range n) (fun i hi=>List.mem_range.2 (h2 i hi))
  simpa using this
theorem seen_lt' {n i:Nat}{seen:List Nat}(hn:seen.Nodup)(hs:∀ i∈seen,i<n)(hi:i∉seen)(hl:i<n):seen.length<n:=by
 have:=seen_le' (n:=n) (seen:=i::seen) (List.nodup_cons.2 ⟨hi,hn⟩) (fun j hj=>by rcases List.mem_cons.1 hj with rfl|h;exact hl;exact hs j h);simp at this;omega
def BestK (fnd:Pl→Bool) (l:List (Pl × Int)) (seen:List Nat) (b:Int):Prop:=(b= -1∧∀ i∈seen,∀ p c,l[i]? =some (p,c)→fnd p=false)∨(0≤b∧(∃ p,fnd p=true∧(p,b)∈l)∧∀ i∈seen,∀ p c,l[i]? =some (p,c)→fnd p=true→b≤c)
theorem BestK.skip {fnd:Pl→Bool}{l:List (Pl × Int)}{seen:List Nat}{b:Int}{i:Nat}{p:Pl}{c:Int}(h:BestK fnd l seen b)(hi:l[i]? =some (p,c))(hf:fnd p=false∨0≤b∧b≤c):BestK fnd l (seen++[i]) b:=by
 rcases h with ⟨h1,h2⟩|⟨h1,h2,h4⟩
 ·refine .inl ⟨h1,fun j hj q d hq=> ?_⟩;rcases List.mem_append.1 hj with hj|hj
  ·exact h2 j hj q d hq
  ·simp at hj;subst hj;rw[hi] at hq;cases hq;rcases hf with hf|hf
   ·exact hf
   ·omega
 ·refine .inr ⟨h1,h2,fun j hj q d hq hqf=> ?_⟩;rcases List.mem_append.1 hj with hj|hj
  ·exact h4 j hj q d hq hqf
  ·simp at hj;subst hj;rw[hi] at hq;cases hq;rcases hf with hf|hf
   ·rw[hf] at hqf;cases hqf
   ·exact hf.2
theorem BestK.take {fnd:Pl→Bool}{l:List (Pl × Int)}{seen:List Nat}{b:Int}{i:Nat}{p:Pl}{c:Int}(h:BestK fnd l seen b)(hi:l[i]? =some (p,c))(hf:fnd p=true)(h0:0≤c)(hb:b<0∨c<b):BestK fnd l (seen++[i]) c:=by
 refine .inr ⟨h0,⟨p,hf,List.mem_of_getElem? hi⟩,fun j hj q d hq hqf=> ?_⟩;rcases List.mem_append.1 hj with hj|hj
 ·rcases h with ⟨h1,h2⟩|⟨h1,_,h4⟩
  ·rw[h2 j hj q d hq] at hqf;cases hqf
  ·have:=h4 j hj q d hq hqf;omega
 ·simp at hj;subst hj;rw[hi] at hq;cases hq;exact Int.le_refl _
theorem BestK.is {fnd:Pl→Bool}{l:List (Pl × Int)}{seen:List Nat}{b:Int}(h:BestK fnd l seen b)(hnd:(l.map (·.1)).Nodup)(hall:∀ i,i<l.length→i∈seen):BestIs (fun p c=>look l p=some c) fnd (if b<0 then none else some b):=by
 have key:∀ p c,look l p=some c→∃ i∈seen,l[i]? =some (p,c):=fun p c hl=>by
  obtain⟨i,hi,e⟩:=List.getElem_of_mem (F8 hl);exact⟨i,hall i hi,by rw[List.getElem?_eq_getElem hi,e]⟩
 rcases h with ⟨h1,h2⟩|⟨h1,⟨p,h3,h4⟩,h5⟩
 ·subst h1;intro p d hf hl;obtain⟨i,hi,e⟩:=key p d hl;rw[h2 i hi p d e] at hf;cases hf
 ·rw[if_neg qom];refine⟨⟨p,h3,Fo hnd h4⟩,fun q d hf hl=> ?_⟩;obtain⟨i,hi,e⟩:=key q d hl;exact h5 i hi q d e hf
theorem pprice_s {w0:World}{H:List (Nat × Obj)}(n:Nn)(hn:NetR w0 H n)(hok:NnOk n)(f:Flr)(hf:Arr w0 H f.q 1 encI f.links)(hfl:f.links.length≤1000000)(o:Odr)(ho:OdrOk n o)(m:Rxm)(hI:Is m o.e)(hM:RxM w0 H m)(hz:m.sz≤90000)(pr:List Int)(qp:Option Addr)(cp:Nat)(hP:Arr w0 H qp 1 encI pr)(hpl:pr.length=n.links.length)(hpr:∀ i,i<pr.length→0≤gd pr i∧gd pr i≤1048576):
  FSpec Tryz.prog w0 32 #[.agg (encNn n).toArray, .agg (encFl f).toArray, .agg (encOm (omO o m)).toArray, .slice qp pr.length cp] H (fun v H'=>PrR n f o pr v∧H'=H):=by
 refine Ap Tryz.func32 U ntmps32 U ?_;have hx:=ho.x;have hfewL:=hok.fewL;have hfewN:=hok.fewN;refine rD tb 2 U (e_ (Lt U cs_) ?_ U);rintro _ _ ⟨n4,rfl,rfl⟩;refine e_ (Lt U cs_) ?_ U;rintro _ _ ⟨n5,rfl,rfl⟩;refine e_ (Lt U cs_) ?_ U;rintro _ _ ⟨n6,rfl,rfl⟩;refine e_ (Lt U cs_) ?_ U;rintro _ _ ⟨n7,rfl,rfl⟩;refine rO tb 7 U ?_;refine y_ (Lp U isAgg56 sizeOf56 U (by exact Bj (l:=encOm (omO o m)) (o:=3) (k:=3) fdd)) ?_ U;refine e_ (Am (qe1 U) call35 (buildM_s m o.e hI (hM.mono sbt) ho.lv (pm:=(buildF leastF o.e).1) (cc:=(buildF leastF o.e).2) U)) ?_ U;rintro _ _ ⟨mc,Mb,⟨rfl,hmpl,hmc⟩,rfl⟩;have hme2:McE mc.pl o.e:=by rw[hmpl];exact ho.mce
 have hpm:=hme2.ok;have hsr:Srt mc.names:=hme2.sr;have hnl:mc.names.length≤4611686018427387903:=(show mc.pl.names.length≤4611686018427387903 by rw[hmpl];exact Nat.le_trans ho.nm qom);have hrl:mc.pl.next.length=mc.rows.length:=List.length_map ..;have h0r:0<mc.rows.length:=by have:=hpm.some';omega
 refine rO tb 3 U (e_ (Aj zeroValue68 cs_) ?_ U);rintro _ _ ⟨n10,rfl,rfl⟩;refine A0 (Ls U U sizeOf68) U Ac ?_;rintro _ _ ⟨rfl,rfl⟩;refine rO tb 7 U (y_ (Lo U isAgg3 qco) ?_ U);refine rO tb 1 U (y_ (Lo U isAgg3 qco) ?_ U);refine rO tb 3 U ?_;refine Ae (Aa U) (fun c30=> ?_) (fun c30=> ?_)
 ·refine rC tb 8 U (Ai U (.tmp (Aa U) (Ll U)) ?_);exact⟨_,⟨prR_none (price_none pr (by have h:(o.x:Int)=f.node:=c30;exact h.symm)),rfl⟩,sbt⟩
 ·refine rC tb 4 U (y_ (Bn (.cons (T U) (.cons (T U) .nil))) (e_ (Aj zeroValue121 cs_) ?_ U) U);rintro _ _ ⟨n12,rfl,rfl⟩;refine A0 (Ls U U sizeOf121) U Ac ?_;rintro _ _ ⟨rfl,rfl⟩;refine rO tb 5 U (y_ (Lo U isAgg22 qco) ?_ U);refine rO tb 1 U (e_ (B7 (by':=24) (k:=n.nodes.length) (T U) runUnderlying65 sizeOf27 typeInfo27 U zeroValue27 U qom qom) ?_ U);rintro _ _ ⟨n35,rfl,rfl⟩;rw[rep_row n.nodes.length];refine e_ (Aj zeroValue65 cs_) ?_ U;rintro _ _ ⟨n13,rfl,rfl⟩;refine A0 (Ls U U sizeOf65) U Ac ?_;rintro _ _ ⟨rfl,rfl⟩;refine rO tb 6 U (y_ (Lo U isAgg23 qco) ?_ U);refine kO tb 4 [4,5,6,7,10,12,13,37,38,39] rfl U (rG tb 1 U ?_);refine Ba (X:=Nat × List Row) (V:=fun ⟨k,rows⟩=>[(39, .int .i64 (k:Nat))]) (C:=[(4,_),(5,_),(6,_),(7,_),(10,_),(12,_),(13,_),(37,_),(38,_)]) (G:=fun ⟨k,rows⟩=>(n13,Cl [.slice (some ⟨n35,0,none⟩) n.nodes.length n.nodes.length] 65)::(slH (Sl.blk n35 n.nodes.length []) (rows.flatMap encRow) 27++(rowsM rows++((n12,Cl [.func (.func 73) #[] #[.pointer (some ⟨n10,0,none⟩), .pointer (some ⟨n4,0,none⟩)]] 121)::(n10,Cl (encMc mc) 68)::(Mb++((n7,Cl [.slice qp pr.length cp] 27)::(n6,Cl (encOm (omO o m)) 58)::(n5,Cl (encFl f) 29)::(n4,Cl (encNn n) 26)::H)))))) (φ:=fun ⟨k,rows⟩=>k≤n.links.length∧rows.length=n.nodes.length∧(∀ i,i<n.nodes.length→(gd rows i).l=upK n f i k)∧(∀ r∈rows,SlOk r.d r.l.length 1)) (μ:=fun ⟨k,rows⟩=>n.links.length - k) (x0:=(0,List.replicate n.nodes.length ⟨.nil,[]⟩)) ?_ ⟨Aa rfl,Aa rfl,Aa rfl,Aa rfl,Aa rfl,Aa rfl,Aa rfl,Aa rfl,Aa rfl,trivial⟩ ⟨qat,trivial⟩ (by show (_::(_++(rowsM (List.replicate n.nodes.length (⟨.nil,[]⟩:Row))++_))).Sublist _;rw[rowsM_rep];exact sbt) ?_
  ·exact⟨Nat.zero_le _,List.length_replicate ..,fun i hi=>by rw[Ar (by simpa using hi)];simp[upK,outK],fun r hr=>by rw[List.eq_of_mem_replicate hr];rfl⟩
  rintro⟨k,rows⟩ ⟨hk,hrn,hro,hso⟩;refine rD tb 6 U ?_;refine Ae (Aa U) (fun c40=> ?_) (fun c40=> ?_)
  ·have hle:=hok.ends _ (Ag (l:=n.links) (i:=k) qom);have hrw:=hro (gd n.links k).src qom;refine rC tb 7 U (y_ (Lq U U runUnderlying23 sizeOf61 qom (by first|exact rfl|exact hn.links.b (i:=k) qom)) ?_ U);refine y_ (Lp U isAgg61 sizeOf61 U (by exact(hn.links.mono sbt).cs (i:=k) qom)) ?_ U;refine e_ (Aj zeroValue61 cs_) ?_ U;rintro _ _ ⟨n15,rfl,rfl⟩;refine rO tb 1 U ?_;refine A0 (Ls U U sizeOf61) U Ac ?_;rintro _ _ ⟨rfl,rfl⟩;refine rO tb 4 U (y_ (Lp U isAgg26 sizeOf26 U qcs) ?_ U);refine y_ (Lp U isAgg29 sizeOf29 U qcs) ?_ U;refine rO tb 1 U (y_ (Ax (qe3 U U U) call71 (fun H' hs=>Lh n (hn.mono (stn hs)) f (hf.mono (stn hs)) qom k qom)) ?_ U);refine rO tb 2 U ?_
   first|refine Ae (Aa U) (fun c47=> ?_) (fun c47=> ?_)|refine Bm (Aa U) (fun c47=> ?_) (fun c47=> ?_)
   ·refine Jl 10 12 ((n15,Cl (encLn (gd n.links k)) 61)::(n13,Cl [.slice (some ⟨n35,0,none⟩) n.nodes.length n.nodes.length] 65)::(slH (Sl.blk n35 n.nodes.length []) (rows.flatMap encRow) 27++((n12,Cl [.func (.func 73) #[] #[.pointer (some ⟨n10,0,none⟩), .pointer (some ⟨n4,0,none⟩)]] 121)::(n10,Cl (encMc mc) 68)::(Mb++((n7,Cl [.slice qp pr.length cp] 27)::(n6,Cl (encOm (omO o m)) 58)::(n5,Cl (encFl f) 29)::(n4,Cl (encNn n) 26)::H))))) ((n15,Cl (encLn (gd n.links k)) 61)::(n13,Cl [.slice (some ⟨n35,0,none⟩) n.nodes.length n.nodes.length] 65)::(slH (Sl.blk n35 n.nodes.length []) (rows.flatMap encRow) 27++((n12,Cl [.func (.func 73) #[] #[.pointer (some ⟨n10,0,none⟩), .pointer (some ⟨n4,0,none⟩)]] 121)::(n10,Cl (encMc mc) 68)::(Mb++((n7,Cl [.slice qp pr.length cp] 27)::(n6,Cl (encOm (omO o m)) 58)::(n5,Cl (encFl f) 29)::(n4,Cl (encNn n) 26)::H))))) mixd qkr (by exact sbt) (by exact sbt) ?_ A7;refine w_y (i:=0) U qkr (Lo U isAgg65 qco) ?_ U Ac;refine w_y (i:=1) U qkr (Dh (T U) fa61_0) ?_ U Ac;refine w_y (i:=2) U qkr (Lo U isAgg3 qco) ?_ U Ac;refine Bw [7,6,3] qkr U (i:=3) U qkr (Lo U isAgg65 qco) ?_ U Ac;refine Bw [7,6,5,4] qkr U (i:=4) U qkr (Dh (T U) fa61_0) ?_ U Ac;refine Bw [7,6,5] qkr U (i:=5) U qkr (Lo U isAgg3 qco) ?_ U Ac;refine Bw [7,6] qkr U (i:=6) U qkr (Lq U U runUnderlying65 sizeOf27 qom (by exact rfl)) ?_ U Ac;refine Bw [7] qkr U (i:=7) U qkr (Lo U isAgg27 (by first|exact c_o|exact cell1 (((Av (w0:=w0) (d:=(Sl.blk n35 n.nodes.length [])) (enc:=encRow) (sz:=1) (e:=27) (l:=rows) (X:=H) (fun _=>rfl) (show SlOk (Sl.blk n35 n.nodes.length []) rows.length 1 from ⟨by omega,by simp;omega⟩)).mono sbt).cs (i:=(gd n.links k).src) qom))) ?_ U Ac;refine Bw [9,8] qkr U (i:=8) U qkr (Bp (T U)) ?_ U Ac;refine B9 (i:=9) qkr qkr ?_;refine Dt U (Ah (.cons (T U) .nil) (Dm _)) ?_ U Ac qkr;rintro _ _ ⟨n57,rfl,rfl⟩;refine⟨sbt,(B9 (i:=10) qkr qkr ?_)⟩;refine Db U (A9 (k) (by':=8) (enc:=encU) (l:=(gd rows (gd n.links k).src).l) (d:=(gd rows (gd n.links k).src).d) (by repeat (first|exact locRow (i:=(gd n.links k).src) qom _|apply LocL.a|apply LocL.t)) (T U) (T U) runUnderlying27 runUnderlying27 sizeOf3 typeInfo3 U zeroValue3 U (fun _=>rfl) U (hso _ (Ag qom)) qde (by rw[hrw];have:(upK n f (gd n.links k).src k).length≤k:=upK_le _ _;omega)) ?_ U Ac qkr;rintro _ _ ⟨d2,rfl,hd2,rfl⟩;refine⟨sbt,(w_y (i:=11) U qkr (Lq U U runUnderlying65 sizeOf27 qom (by exact rfl)) ?_ U Ac)⟩;refine Gr qkr U ?_;refine e_ (Bx (d:=(Sl.blk n35 n.nodes.length [])) (l:=rows) (e:=27) (enc:=encRow) (sz:=1) (i:=(gd n.links k).src) (⟨d2,(gd rows (gd n.links k).src).l++[k]⟩:Row) (fun _=>rfl) qlc (T U) (T U) (.one U) U sizeOf27 qom (show SlOk (Sl.blk n35 n.nodes.length []) rows.length 1 from ⟨by omega,by simp;omega⟩)) ?_ U;rintro _ _ ⟨rfl,rfl⟩;refine kO tb 3 [4,5,6,7,10,12,13,37,38,39] rfl U (rG tb 1 U (y_ (Aq (T U) Ao qom) ?_ U));refine rO tb 2 U ?_;refine An ((k+1,rows.set (gd n.links k).src (⟨d2,(gd rows (gd n.links k).src).l++[k]⟩:Row))) ?_ ?_ ⟨qat,trivial⟩ ⟨Aa U,Aa U,Aa U,Aa U,Aa U,Aa U,Aa U,Aa U,Aa U,trivial⟩ ?_
    ·refine⟨by omega,by rw[List.length_set,hrn],fun i hi=> ?_,fun r hr=> ?_⟩
     ·by_cases e:i=(gd n.links k).src
      ·subst e;rw[Ar (by rw[List.length_set];omega),List.getElem_set_self,upK_yes c47,← hrw]
      ·rw[upK_no (.inr (fun h=>e h.symm)),← hro i hi];exact congrArg Row.l (F5 (fun h=>e h.symm))
     ·rcases List.mem_or_eq_of_mem_set hr with h|rfl
      ·exact hso r h
      ·exact hd2
    ·first|omega|(simp only[];omega)
    ·(show ((n13,_)::(slH (Sl.blk n35 n.nodes.length []) ((rows.set (gd n.links k).src (⟨d2,(gd rows (gd n.links k).src).l++[k]⟩:Row)).flatMap encRow) 27++(rowsM (rows.set (gd n.links k).src (⟨d2,(gd rows (gd n.links k).src).l++[k]⟩:Row))++_))).Sublist _;rw[rowsM_set qom,List.append_assoc,List.append_assoc];exact sbt)
   ·refine rC tb 4 U (y_ (Aq (T U) Ao qom) ?_ U);refine rO tb 2 U ?_;refine An ((k+1,rows)) ?_ ?_ ⟨qat,trivial⟩ ⟨Aa U,Aa U,Aa U,Aa U,Aa U,Aa U,Aa U,Aa U,Aa U,trivial⟩ ?_
    ·exact⟨by omega,hrn,fun i hi=>by rw[upK_no (.inl (by simpa using c47))];exact hro i hi,hso⟩
    ·first|omega|(simp only[];omega)
    ·first|(show ((n13,_)::(slH (Sl.blk n35 n.nodes.length []) ((rows.set (gd n.links k).src (⟨d2,(gd rows (gd n.links k).src).l++[k]⟩:Row)).flatMap encRow) 27++(rowsM (rows.set (gd n.links k).src (⟨d2,(gd rows (gd n.links k).src).l++[k]⟩:Row))++_))).Sublist _;rw[rowsM_set qom,List.append_assoc,List.append_assoc];exact sbt)|exact sbt
  ·obtain rfl:k=n.links.length:=by omega
   have hstM:StpM w0 ((n13,Cl [.slice (some ⟨n35,0,none⟩) n.nodes.length n.nodes.length] 65)::(slH (Sl.blk n35 n.nodes.length []) (rows.flatMap encRow) 27++(rowsM rows++((n12,Cl [.func (.func 73) #[] #[.pointer (some ⟨n10,0,none⟩), .pointer (some ⟨n4,0,none⟩)]] 121)::(n10,Cl (encMc mc) 68)::(Mb++((n7,Cl [.slice qp pr.length cp] 27)::(n6,Cl (encOm (omO o m)) 58)::(n5,Cl (encFl f) 29)::(n4,Cl (encNn n) 26)::H)))))) n f mc pr n13 n12 n10 n4 n7 (rows.map toQ) (some ⟨n35,0,none⟩) qp n.nodes.length cp:=
    ⟨hn.mono sbt,hmc.mono sbt,by rw[List.length_map,hrn];exact A3,fdd,fdd,fdd,fdd,arrQ ((Av (d:=(Sl.blk n35 n.nodes.length [])) (enc:=encRow) (sz:=1) (e:=27) (l:=rows) (X:=H) (fun _=>rfl) (show SlOk (Sl.blk n35 n.nodes.length []) rows.length 1 from ⟨by omega,by simp;omega⟩)).mono sbt),fun r hr=>by
     obtain⟨u,hu,rfl⟩:=List.mem_map.1 hr;exact(Av (X:=[]) (e:=3) (enc:=encU) (fun _=>rfl) (hso u hu)).mono (by rw[List.append_nil];exact(rowsM_sub hu).trans (List.Sublist.cons _ (List.Sublist.trans (List.sublist_append_left _ _) (List.sublist_append_right _ _)))),hP.mono sbt⟩
   have hstO:StpOk n f mc pr (rows.map toQ):=⟨hok,hpm,hsr,hnl,by rw[List.length_map,hrn],fun i hi=>by rw[Bv qom];exact hro i hi,hpl,hpr⟩;refine rC tb 2 U (Af (rX tb 4 U (y_ (Lo U isAgg121 qco) ?_ U)));refine rO tb 1 U (y_ (Lo U isAgg3 qco) ?_ U);refine y_ (Cq (T U) (.cons Ao (.cons (T U) .nil)) call73 (fun H' hs=>paft_s n (hn.mono (stn hs)) mc (hmc.mono (stn hs)) hsr hnl hpm n10 n4 (hs.subset (show Fnd _ n10 (Cl (encMc mc) 68) from fdd)) (hs.subset (show Fnd _ n4 (Cl (encNn n) 26) from fdd)) 0 o.x h0r hx)) ?_ U;refine y_ (Bn (.cons (T U) (.cons (T U) (.cons (T U) (.cons (T U) .nil))))) (e_ (Am (qe2 U U) call75 (relax_s n f mc pr n13 n12 n10 n4 n7 (rows.map toQ) (some ⟨n35,0,none⟩) qp n.nodes.length cp (hstM.mono sbt) hstO (p0F n mc.pl o.x) (Ix hpm hx))) ?_ U) U;rintro _ _ ⟨⟨nm,mm⟩,⟨rfl,hri⟩,rfl⟩;have hcert:=hri.done;have hN:=J5 hok hpm;refine rO tb 12 U ?_;refine e_ (eff_rangeMap (m:=nm) (l:=mm) (encK:=encPK) (encV:=encJv) (T U) (show Fnd _ nm (mapO encPK encJv mm) from fdd) runUnderlying122) ?_ U;rintro _ _ ⟨n68,rfl,rfl⟩;refine rO tb 3 U ?_;refine Ba (X:=List Nat × Int) (V:=fun ⟨seen,b⟩=>[(17, .int .i64 b)]) (C:=[(6,_),(10,_),(68,_)]) (G:=fun ⟨seen,b⟩=>(n68,itO nm mm.length seen mm.length)::([(nm,mapO encPK encJv mm)]++((n13,Cl [.slice (some ⟨n35,0,none⟩) n.nodes.length n.nodes.length] 65)::(slH (Sl.blk n35 n.nodes.length []) (rows.flatMap encRow) 27++(rowsM rows++((n12,Cl [.func (.func 73) #[] #[.pointer (some ⟨n10,0,none⟩), .pointer (some ⟨n4,0,none⟩)]] 121)::(n10,Cl (encMc mc) 68)::(Mb++((n7,Cl [.slice qp pr.length cp] 27)::(n6,Cl (encOm (omO o m)) 58)::(n5,Cl (encFl f) 29)::(n4,Cl (encNn n) 26)::H)))))))) (φ:=fun ⟨seen,b⟩=>BestK (fndF o.y mc.pl) mm seen b∧seen.Nodup∧∀ i∈seen,i<mm.length) (μ:=fun ⟨seen,b⟩=>mm.length - seen.length) (x0:=([], -1)) ?_ ⟨Aa rfl,Aa rfl,Aa rfl,trivial⟩ ⟨qat,trivial⟩ sb0 ?_
   ·exact⟨.inl ⟨rfl,fun i hi=>by cases hi⟩,List.nodup_nil,fun i hi=>by cases hi⟩
   rintro⟨seen,b⟩ ⟨hb,hsn,hlt⟩;refine rD tb 2 U ?_;refine e_ (eff_next (m:=nm) (l:=mm) (encK:=encPK) (encV:=encJv) (T U) (show Fnd _ nm (mapO encPK encJv mm) from fdd) (by repeat (first|exact Loc.h|apply Loc.t))) ?_ U;rintro _ _ (⟨i,⟨p,c⟩,hip,hni,rfl,rfl⟩|⟨hall,rfl,rfl⟩)
   ·refine rO tb 4 U ?_;refine Cg (Aa U) ?_;refine rC tb 5 U ?_;refine y_ (yl_entry (m:=nm) (l:=mm) (encK:=encPK) (encV:=encJv) (T U) (show Fnd _ nm (mapO encPK encJv mm) from fdd) (by repeat (first|exact A3|refine Au ?_)) hip) ?_ U;refine y_ (Ew (T U) U) ?_ U;have hil:=(List.getElem?_eq_some_iff.1 hip).1;have hpc:(p,c)∈mm:=List.mem_of_getElem? hip;have hpo:PlOk n mc.pl p:=hri.ok _ hpc;have hcv:=hri.val hN (Fo hri.nd hpc);have hsl:=seen_lt' hsn hlt hni hil;have hac:p.2<mc.acc.length:=by
     have h1:=hpo.2;have h2:=hpm.acc;have h3:mc.pl.acc.length=mc.acc.length:=rfl;omega
    refine rO tb 1 U (e_ (Aj zeroValue119 cs_) ?_ U);rintro _ _ ⟨n18,rfl,rfl⟩;refine A0 (Ls U U sizeOf119) U Ac ?_;rintro _ _ ⟨rfl,rfl⟩;refine rO tb 6 U (y_ (Lo U isAgg3 qco) ?_ U);refine rO tb 1 U (y_ (Lo U isAgg3 qco) ?_ U);refine rO tb 2 U ?_;refine A4 (s:=79) (Aa U) (fun c79=> ?_) (fun c79=> ?_)
    ·have e168:p.1=o.y:=by
      have h:(p.1:Int)=(o.y:Int):=c79;omega
     refine rO tb 1 U (A6 (Lo U isAgg66 qco) U (Az U U (Aa U)) ?_);refine rO tb 1 U (A6 (Lo U isAgg3 qco) U (Az U U (Aa U)) ?_);refine A6 (Lq U U runUnderlying66 sizeOf4 qom (by first|exact rfl|exact hn.links.b (i:=k) qom|exact hmc.a3.b (i:=p.2) hac)) U (Az U U (Aa U)) ?_;refine A6 (Lo U isAgg4 (by first|exact c_o|exact cell1 ((hmc.a3.mono sbt).cs (i:=p.2) hac))) U (Az U U (Aa U)) ?_;refine rO tb 2 U ?_
     first|refine A4 (s:=87) (Aa U) (fun c87=> ?_) (fun c87=> ?_)|refine Eu (s:=87) (Aa U) (fun c87=> ?_) (fun c87=> ?_)
     ·refine rO tb 3 U ?_;refine A4 (s:=90) (Aa U) (fun c90=> ?_) (fun c90=> ?_)
      ·refine kO tb 7 [6,10,17,19,68,95] rfl U (rG tb 6 U ?_);refine An ((seen++[i],c)) ?_ ?_ ⟨qat,trivial⟩ ⟨Aa U,Aa U,Aa U,trivial⟩ ?_
       ·refine⟨hb.take hip (by unfold fndF;show (decide (p.1=o.y)&&gd mc.acc p.2)=true;rw[c87,decide_eq_true e168];rfl) hcv.1 qom,?_,fun j hj=> ?_⟩
        ·rw[List.nodup_append];exact⟨hsn,by simp,by intro a ha b hb;simp at hb;subst hb;rintro rfl;exact hni ha⟩
        ·rcases List.mem_append.1 hj with h|h
         ·exact hlt j h
         ·simp at h;subst h;exact hil
       ·show mm.length - (seen++[i]).length<mm.length - seen.length;rw[List.length_append,List.length_singleton];omega
       ·exact sbt
      ·refine kO tb 7 [6,10,17,19,68,95] rfl U ?_;refine Ae (Aa U) (fun c95=> ?_) (fun c95=> ?_)
       ·refine rC tb 5 U ?_;refine An ((seen++[i],c)) ?_ ?_ ⟨qat,trivial⟩ ⟨Aa U,Aa U,Aa U,trivial⟩ ?_
        ·refine⟨hb.take hip (by unfold fndF;show (decide (p.1=o.y)&&gd mc.acc p.2)=true;rw[c87,decide_eq_true e168];rfl) hcv.1 qom,?_,fun j hj=> ?_⟩
         ·rw[List.nodup_append];exact⟨hsn,by simp,by intro a ha b hb;simp at hb;subst hb;rintro rfl;exact hni ha⟩
         ·rcases List.mem_append.1 hj with h|h
          ·exact hlt j h
          ·simp at h;subst h;exact hil
        ·show mm.length - (seen++[i]).length<mm.length - seen.length;rw[List.length_append,List.length_singleton];omega
        ·exact sbt
       ·refine rC tb 2 U ?_;refine An ((seen++[i],b)) ?_ ?_ ⟨qat,trivial⟩ ⟨Aa U,Aa U,Aa U,trivial⟩ ?_
        ·refine⟨hb.skip hip (.inr ⟨by omega,by omega⟩),?_,fun j hj=> ?_⟩
         ·rw[List.nodup_append];exact⟨hsn,by simp,by intro a ha b hb;simp at hb;subst hb;rintro rfl;exact hni ha⟩
         ·rcases List.mem_append.1 hj with h|h
          ·exact hlt j h
          ·simp at h;subst h;exact hil
        ·show mm.length - (seen++[i]).length<mm.length - seen.length;rw[List.length_append,List.length_singleton];omega
        ·exact sbt
     ·refine kO tb 10 [6,10,17,19,68,95] rfl U (rG tb 3 U ?_);refine An ((seen++[i],b)) ?_ ?_ ⟨qat,trivial⟩ ⟨Aa U,Aa U,Aa U,trivial⟩ ?_
      ·refine⟨hb.skip hip (.inl (by unfold fndF;show (decide (p.1=o.y)&&gd mc.acc p.2)=false;(rw[c87,Bool.and_false];done))),?_,fun j hj=> ?_⟩
       ·rw[List.nodup_append];exact⟨hsn,by simp,by intro a ha b hb;simp at hb;subst hb;rintro rfl;exact hni ha⟩
       ·rcases List.mem_append.1 hj with h|h
        ·exact hlt j h
        ·simp at h;subst h;exact hil
      ·show mm.length - (seen++[i]).length<mm.length - seen.length;rw[List.length_append,List.length_singleton];omega
      ·exact sbt
    ·have e168: ¬ p.1=o.y:=fun h=>c79 (by show (p.1:Int)=(o.y:Int);rw[h])
     refine kO tb 18 [6,10,17,19,68,95] rfl U (rG tb 3 U ?_);refine An ((seen++[i],b)) ?_ ?_ ⟨qat,trivial⟩ ⟨Aa U,Aa U,Aa U,trivial⟩ ?_
     ·refine⟨hb.skip hip (.inl (by unfold fndF;show (decide (p.1=o.y)&&gd mc.acc p.2)=false;first|(rw[c87,Bool.and_false];done)|(rw[decide_eq_false e168];rfl))),?_,fun j hj=> ?_⟩
      ·rw[List.nodup_append];exact⟨hsn,by simp,by intro a ha b hb;simp at hb;subst hb;rintro rfl;exact hni ha⟩
      ·rcases List.mem_append.1 hj with h|h
       ·exact hlt j h
       ·simp at h;subst h;exact hil
     ·show mm.length - (seen++[i]).length<mm.length - seen.length;rw[List.length_append,List.length_singleton];omega
     ·exact sbt
   ·refine rO tb 4 U ?_;refine Ic (Aa U) ?_;refine rC tb 2 U (Af (rX tb 5 U (y_ (Jk (T U) Ao) (rO tb 7 U (Ai U (.tmp (Aa U) (Ll U)) ?_)) U)));have hbb:b≤1048576*2400:=by
     rcases hb with ⟨h1,_⟩|⟨_,⟨p,_,h2⟩,_⟩
     ·omega
     ·exact(hri.val hN (Fo hri.nd h2)).2
    exact⟨_,⟨prR_best (price_of hme2 (fun h=>c30 (by show (o.x:Int)=f.node;exact h.symm)) hcert (hb.is hri.nd hall)) hbb qom,rfl⟩,sbt⟩
theorem relF_some {ts:Pl→List (Pl × Nat)}{pr:List Int}{p0:Pl}{Pd:Pl→Prop}{N:Nat}(hN:∀ l:List Pl,l.Nodup→(∀ p∈l,Pd p)→l.length≤N)(hts:∀ p,Pd p→∀ x∈ts p,Pd x.1)(hpr:∀ p,∀ x∈ts p,0≤gd pr x.2∧gd pr x.2≤1048576):∀ (f:Nat) {p:Pl} {s:RS},RI ts pr p0 Pd N p [] s→2*phi N s+s.2.length<f→∃ m,relF ts pr f s=some m∧RI ts pr p0 Pd N p0 [] (m,[])
 |0,p,s,h,hf=>by have:=Lb hN h;omega
 |f+1,p,(m0,[]),h,hf=>⟨m0,rfl,h.any _⟩
 |f+1,p,(m0,p'::q),h,hf=>by
  obtain⟨h1,h2⟩:=h.pop;obtain⟨_,h3,_,h5⟩:=h1.all hN hts hpr [] _ rfl h2;have e:phi N (m0,q)=phi N (m0,p'::q):=phi_fst U;obtain⟨m,h6,h7⟩:=relF_some hN hts hpr f h3 (by
   have h5':2*phi N (rlxs pr p' (m0,q) (ts p'))+((rlxs pr p' (m0,q) (ts p')).2.length:Int)≤2*phi N (m0,q)+(q.length:Int):=h5;simp only[List.length_cons] at hf;omega)
  exact⟨m,h6,h7⟩
def priceF (n:Nn) (f:Flr) (o:Odr) (pr:List Int):Option Int:=if f.node=o.x then none else
 match relF (movesF n f (mOf o.e)) pr 13000000000000 ([(p0F n (mOf o.e) o.x,0)],[p0F n (mOf o.e) o.x]) with
 |some m=>bestF (fndF o.y (mOf o.e)) m
 |none=>none
theorem priceF_is {n:Nn}(hok:NnOk n)(f:Flr){o:Odr}(ho:OdrOk n o){pr:List Int}(hpl:pr.length=n.links.length)(hpr:∀ i,i<pr.length→0≤gd pr i∧gd pr i≤1048576):PriceIs n f o pr (priceF n f o pr)∧∀ c,priceF n f o pr=some c→0≤c∧c≤1048576*2400:=by
 unfold priceF
 split
 ·rename_i h;exact⟨price_none pr h,fun c hc=>by cases hc⟩
 ·rename_i hf;have hpm:=ho.mce.ok;have hN:=J5 hok hpm;obtain⟨m,h1,h2⟩:=relF_some hN (F3 hok hpm) (mv_pr hpl hpr) 13000000000000 (RI.init (movesF n f (mOf o.e)) pr 2400 (Ix hpm ho.x)) (by simp[phi,sI]);rw[h1];have hb:=bestF_is (fndF o.y (mOf o.e)) m;have hb2:BestIs (fun p c=>look m p=some c) (fndF o.y (mOf o.e)) (bestF (fndF o.y (mOf o.e)) m):=hb.congr fun p c=>⟨Fo h2.nd,F8⟩
  refine⟨price_of ho.mce hf h2.done hb2,fun c hc=> ?_⟩;have hc:bestF (fndF o.y (mOf o.e)) m=some c:=hc;rw[hc] at hb2;obtain⟨⟨p,_,h3⟩,_⟩:=hb2;exact h2.val hN h3
theorem prR_F {n:Nn}(hok:NnOk n){f:Flr}{o:Odr}(ho:OdrOk n o){pr:List Int}(hpl:pr.length=n.links.length)(hpr:∀ i,i<pr.length→0≤gd pr i∧gd pr i≤1048576){v:Value}(h:PrR n f o pr v):v= .tuple #[.int .i64 ((priceF n f o pr).getD 0), .bool (priceF n f o pr).isSome]:=by
 obtain⟨r,rfl,h1,_⟩:=h;rw[PriceIs.uniq h1 (priceF_is hok f ho hpl hpr).1]
def rngB (pr:List Int):Bool:=pr.all fun p=>decide (0≤p∧p≤1048576)
def roomF (n:Nn) (f:Flr) (pr:List Int) (k:Nat):Int:=sI (List.range k) fun k=>if upF n f k then gd pr k*(gd n.links k).cap else 0
def askF (n:Nn) (f:Flr) (pr:List Int) (os:List Odr):Int:=sI os fun o=>o.amt*(priceF n f o pr).getD 0
def refF (n:Nn) (f:Flr) (os:List Odr) (pr:List Int):Bool:=decide (pr.length=n.links.length)&&(rngB pr&&((os.all fun o=>(priceF n f o pr).isSome)&&decide (roomF n f pr n.links.length<askF n f pr os)))
theorem rngB_at {pr:List Int}(h:rngB pr=true):∀ i,i<pr.length→0≤gd pr i∧gd pr i≤1048576:=fun i hi=>by
 have:=List.all_eq_true.1 h _ (Ag hi)
 simpa using this
theorem rngB_of {pr:List Int}(h:∀ i,i<pr.length→0≤gd pr i∧gd pr i≤1048576):rngB pr=true:=List.all_eq_true.2 fun x hx=>by
 obtain⟨i,hi,rfl⟩:=List.getElem_of_mem hx;have:=h i hi;rw[Ar hi] at this
 simpa using this
theorem rngB_no {pr:List Int}{i:Nat}(hi:i<pr.length)(h: ¬ (0≤gd pr i∧gd pr i≤1048576)):rngB pr=false:=by
 cases hb:rngB pr
 ·rfl
 ·exact absurd (rngB_at hb i hi) h
theorem OdR.eq {m:Om}{o:Odr}(h:OdR m o):m=omO o m.m:=by
 obtain⟨a,b,c,d⟩:=m;have h1:a=o.x:=h.x;have h2:b=o.y:=h.y;have h3:c=o.amt:=h.amt;subst h1 h2 h3;rfl
theorem Jg {a b A B:Int}(ha:0≤a∧a≤A)(hb:0≤b∧b≤B):0≤a*b∧a*b≤A*B:=by
 refine⟨Int.mul_nonneg ha.1 hb.1,?_⟩;have h1:=Int.mul_le_mul_of_nonneg_left hb.2 ha.1;have h2:=Int.mul_le_mul_of_nonneg_right ha.2 (show (0:Int)≤B by omega);omega
theorem C6 (n:Nn)(f:Flr)(pr:List Int)(k:Nat):roomF n f pr (k+1)=roomF n f pr k+if upF n f k then gd pr k*(gd n.links k).cap else 0:=by
 unfold roomF;rw[List.range_succ,Fr];simp[sI]
theorem Hx {n:Nn}{f:Flr}{pr:List Int}{os:List Odr}{i:Nat}(h:i<os.length):askF n f pr (os.take (i+1))=askF n f pr (os.take i)+(gd os i).amt*(priceF n f (gd os i) pr).getD 0:=by
 unfold askF;rw[Cf h,Fr];simp[sI]
structure OsOk (n:Nn) (os:List Om) (os':List Odr):Prop where
 r:OsR os os'
 ok:∀ o∈os',OdrOk n o
 z:∀ m∈os,m.m.sz≤90000
 few:os.length≤200
theorem rpriceF_s {w0:World}{H:List (Nat × Obj)}(n:Nn)(hn:NetR w0 H n)(hok:NnOk n)(f:Flr)(hf:Arr w0 H f.q 1 encI f.links)(hfl:f.links.length≤1000000)(om:Om)(o:Odr)(hod:OdR om o)(ho:OdrOk n o)(hM:RxM w0 H om.m)(hz:om.m.sz≤90000)(pr:List Int)(qp:Option Addr)(cp:Nat)(hP:Arr w0 H qp 1 encI pr)(hpl:pr.length=n.links.length)(hpr:∀ i,i<pr.length→0≤gd pr i∧gd pr i≤1048576):
  FSpec Tryz.prog w0 33 #[.agg (encNn n).toArray, .agg (encFl f).toArray, .agg (encOm om).toArray, .slice qp pr.length cp] H (Still (.tuple #[.int .i64 ((priceF n f o pr).getD 0), .bool (priceF n f o pr).isSome]) H):=by
 rw[hod.eq];refine(rprice_s n hn hok f hf hfl o ho om.m hod.e hM hz pr qp cp hP hpl hpr).mono ?_;rintro v H' ⟨hv,rfl⟩;exact⟨prR_F hok ho hpl hpr hv,rfl⟩
theorem ppriceF_s {w0:World}{H:List (Nat × Obj)}(n:Nn)(hn:NetR w0 H n)(hok:NnOk n)(f:Flr)(hf:Arr w0 H f.q 1 encI f.links)(hfl:f.links.length≤1000000)(om:Om)(o:Odr)(hod:OdR om o)(ho:OdrOk n o)(hM:RxM w0 H om.m)(hz:om.m.sz≤90000)(pr:List Int)(qp:Option Addr)(cp:Nat)(hP:Arr w0 H qp 1 encI pr)(hpl:pr.length=n.links.length)(hpr:∀ i,i<pr.length→0≤gd pr i∧gd pr i≤1048576):
  FSpec Tryz.prog w0 32 #[.agg (encNn n).toArray, .agg (encFl f).toArray, .agg (encOm om).toArray, .slice qp pr.length cp] H (Still (.tuple #[.int .i64 ((priceF n f o pr).getD 0), .bool (priceF n f o pr).isSome]) H):=by
 rw[hod.eq];refine(pprice_s n hn hok f hf hfl o ho om.m hod.e hM hz pr qp cp hP hpl hpr).mono ?_;rintro v H' ⟨hv,rfl⟩;exact⟨prR_F hok ho hpl hpr hv,rfl⟩
theorem prng_s {w0:World}{H:List (Nat × Obj)}(a:Int):
  FSpec Tryz.prog w0 70 #[.int .i64 a] H (Still (.bool (!decide (0≤a∧a≤1048576))) H):=by
 refine Ap Tryz.func70 U ntmps70 U (rD tb 8 U (y_ (Ax (.cons (T U) (.cons Ao (.cons Ao .nil))) call46 (fun H' hs=>F7 a 0 1048576)) ?_ U));refine A6 (Bc (T U)) U Ac ?_;refine rO tb 4 U (Ai U (Ll U) ?_);exact⟨_,⟨vbool decide_not,rfl⟩,sbt⟩
theorem pidx_s {w0:World}{H:List (Nat × Obj)}(pr:List Int)(qp:Option Addr)(cp:Nat)(hP:Arr w0 H qp 1 encI pr)(hp1:pr.length≤1000000):
  FSpec Tryz.prog w0 120 #[.slice qp pr.length cp, .func (.func 70) #[] #[]] H (fun v H'=>(∃ k:Int,v= .int .i64 k∧((k= -1∧rngB pr=true)∨(0≤k∧rngB pr=false)))∧H'=H):=by
 refine Ap Tryz.func120 U ntmps120 U (rD tb 14 U ?_);refine Bb (X:=Nat) (V:=fun i=>[(8, .int .i64 (i:Nat))]) (C:=[(0,_),(1,_),(7,_)]) (φ:=fun i=>i≤pr.length∧∀ j,j<i→0≤gd pr j∧gd pr j≤1048576) (μ:=fun i=>pr.length - i) (x0:=0) ?_ ⟨Aa U,Aa U,Aa U,trivial⟩ ⟨qat,trivial⟩ ?_
 ·exact⟨Nat.zero_le _,fun j hj=>by omega⟩
 rintro i ⟨hi,hno⟩;refine rD tb 6 U ?_;refine Ae (Aa U) (fun c9=> ?_) (fun c9=> ?_)
 ·refine rC tb 15 U (y_ (Lq U U runUnderlying27 sizeOf3 qom (by first|exact rfl|exact hP.b (i:=i) qom)) ?_ U);refine y_ (Lo U isAgg3 (by first|exact c_o|exact cell1 ((hP.mono sbt).cs (i:=i) qom))) ?_ U;refine y_ (Cq (T U) (qe1 U) call70 (fun H' hs=>prng_s (gd pr i))) (rO tb 2 U ?_) U
  first|refine Ae (Aa U) (fun c16=> ?_) (fun c16=> ?_)|refine Bm (Aa U) (fun c16=> ?_) (fun c16=> ?_)
  ·refine rC tb 9 U (Aw (rX tb 2 U (Ai U (Ll U) ?_)));exact⟨_,⟨⟨_,rfl, .inr ⟨by omega,rngB_no (i:=i) qom (fun hh=>by rw[decide_eq_true hh] at c16;cases c16)⟩⟩,rfl⟩,sbt⟩
  ·refine rC tb 4 U (y_ (Aq (T U) Ao qom) ?_ U);refine rO tb 2 U ?_;refine An (i+1) ?_ ?_ ⟨qat,trivial⟩ ⟨Aa U,Aa U,Aa U,trivial⟩ ?_
   ·refine⟨by omega,fun j hj=> ?_⟩
    by_cases e:j=i
    ·subst e;simpa using c16
    ·exact hno j qom
   ·omega
   ·exact sbt
 ·refine rC tb 2 U (Af (rX tb 8 U (Ai U (Ll U) ?_)));exact⟨_,⟨⟨_,rfl, .inl ⟨rfl,rngB_of fun j hj=>hno j qom⟩⟩,rfl⟩,sbt⟩
theorem all_no {α:Type}[Inhabited α] {p:α→Bool}{l:List α}{i:Nat}(h:i<l.length)(hp:p (gd l i)=false):l.all p=false:=List.all_eq_false.2 ⟨_,Ag h,by rw[hp];decide⟩
theorem J6 {α:Type}[Inhabited α] {p:α→Bool}{l:List α}(h:∀ i,i<l.length→p (gd l i)=true):l.all p=true:=List.all_eq_true.2 fun x hx=>by
 obtain⟨i,hi,rfl⟩:=List.getElem_of_mem hx;have:=h i hi
 rwa [Ar hi] at this
theorem pcont_s {w0:World}{H:List (Nat × Obj)}(pr:List Int)(qp:Option Addr)(cp:Nat)(hP:Arr w0 H qp 1 encI pr)(hp1:pr.length≤1000000):
  FSpec Tryz.prog w0 69 #[.slice qp pr.length cp, .func (.func 70) #[] #[]] H (Still (.bool (!rngB pr)) H):=by
 refine Ap Tryz.func69 U ntmps69 U (rD tb 9 U (e_ (Am (qe2 U U) call120 (pidx_s pr qp cp (hP.mono sbt) hp1)) ?_ U));rintro _ _ ⟨⟨k,rfl,hk⟩,rfl⟩;refine rO tb 5 U (Ai U (Ll U) ?_);exact⟨_,⟨by rcases hk with ⟨h1,h2⟩|⟨h1,h2⟩<;>rw[h2]<;>exact vbool (by simp;omega),rfl⟩,sbt⟩
theorem rrefuted_s {w0:World}{H:List (Nat × Obj)}(n:Nn)(hn:NetR w0 H n)(hok:NnOk n)(hcap:∀ x∈n.links,0≤x.cap∧x.cap≤1048576)(f:Flr)(hf:Arr w0 H f.q 1 encI f.links)(hfl:f.links.length≤1000000)(os:List Om)(os2:List Odr)(qo:Option Addr)(co:Nat)(hO:OsM w0 H qo os)(hoo:OsOk n os os2)(pr:List Int)(qp:Option Addr)(cp:Nat)(hP:Arr w0 H qp 1 encI pr)(hp1:pr.length≤1000000):
  FSpec Tryz.prog w0 30 #[.agg (encNn n).toArray, .agg (encFl f).toArray, .slice qo os.length co, .slice qp pr.length cp] H (Still (.bool (refF n f os2 pr)) H):=by
 refine Ap Tryz.func30 U ntmps30 U ?_;have hfewL:=hok.fewL;have hno:=hoo.few;have hol:=hoo.r.len;refine rD tb 2 U (e_ (Lt U cs_) ?_ U);rintro _ _ ⟨n4,rfl,rfl⟩;refine e_ (Lt U cs_) ?_ U;rintro _ _ ⟨n5,rfl,rfl⟩;refine rO tb 9 U (y_ (Lo U isAgg23 qco) ?_ U);refine rO tb 4 U ?_;refine Ae (Aa U) (fun c21=> ?_) (fun c21=> ?_)
 ·refine rC tb 7 U (Ai U (Ll U) ?_);exact⟨_,⟨vbool (by unfold refF;rw[decide_eq_false qom];rfl),rfl⟩,sbt⟩
 ·have hpn:pr.length=n.links.length:=by omega
  refine rC tb 14 U ?_;refine Bb (X:=Nat × Int) (V:=fun ⟨i,rm⟩=>[(10, .int .i64 (i:Nat)),(9, .int .i64 rm)]) (C:=[(2,_),(3,_),(4,_),(5,_)]) (φ:=fun ⟨i,rm⟩=>i≤pr.length∧rm=roomF n f pr i∧(0≤roomF n f pr i∧roomF n f pr i≤1099511627776*i)∧∀ j,j<i→0≤gd pr j∧gd pr j≤1048576) (μ:=fun ⟨i,rm⟩=>pr.length - i) (x0:=(0,0)) ?_ ⟨Aa rfl,Aa rfl,Aa rfl,Aa rfl,trivial⟩ ⟨qat,qat,trivial⟩ ?_
  ·exact⟨Nat.zero_le _,by simp[roomF,sI],by simp[roomF,sI],fun j hj=>by omega⟩
  rintro⟨i,rm⟩ ⟨hi,hrm,hrr,hrg⟩;refine rD tb 9 U ?_;refine Ae (Aa U) (fun c25=> ?_) (fun c25=> ?_)
  ·refine rC tb 9 U (y_ (Lq U U runUnderlying27 sizeOf3 qom (by first|exact rfl|exact hP.b (i:=i) qom)) ?_ U);refine y_ (Lo U isAgg3 (by first|exact c_o|exact cell1 ((hP.mono sbt).cs (i:=i) qom))) ?_ U;refine rO tb 2 U ?_;refine A4 (s:=33) (Aa U) (fun c33=> ?_) (fun c33=> ?_)
   ·refine rO tb 18 U (Aw (rX tb 2 U (Ai U (Ll U) ?_)));exact⟨_,⟨vbool (by unfold refF;rw[rngB_no (i:=i) qom qom];simp),rfl⟩,sbt⟩
   ·refine rO tb 2 U (A6 (Lq U U runUnderlying27 sizeOf3 qom (by first|exact rfl|exact hP.b (i:=i) qom)) U (Az U U (Aa U)) ?_);refine A6 (Lo U isAgg3 (by first|exact c_o|exact cell1 ((hP.mono sbt).cs (i:=i) qom))) U (Az U U (Aa U)) ?_;refine rO tb 4 U ?_;refine Ae (Aa U) (fun c39=> ?_) (fun c39=> ?_)
    ·refine rC tb 9 U (Aw (rX tb 2 U (Ai U (Ll U) ?_)));exact⟨_,⟨vbool (by unfold refF;rw[rngB_no (i:=i) qom qom];simp),rfl⟩,sbt⟩
    ·have hle:=hcap _ (Ag (l:=n.links) (i:=i) qom);have hpi:=(show 0≤gd pr i∧gd pr i≤1048576 by omega);have hmul:=Jg hpi hle;refine rC tb 4 U (y_ (Lp U isAgg26 sizeOf26 U qcs) ?_ U);refine y_ (Lp U isAgg29 sizeOf29 U qcs) ?_ U;refine rO tb 1 U (y_ (Ax (qe3 U U U) call72 (fun H' hs=>rup_s n (hn.mono (stn hs)) f (hf.mono (stn hs)) qom i qom)) ?_ U);refine rO tb 8 U ?_
     first|refine Ae (Aa U) (fun c44=> ?_) (fun c44=> ?_)|refine Bm (Aa U) (fun c44=> ?_) (fun c44=> ?_)
     ·refine Bg 14 [(0,true),(1,true),(2,true),(3,true),(4,true),(5,true),(6,true),(7,true),(8,true),(9,true),(10,true),(11,true),(12,true),(13,true)] _ mixd qkr sb0 ?_ A7;refine rP tb 3 U (o_y U (Lq U U runUnderlying27 sizeOf3 qom (by first|exact rfl|exact hP.b (i:=i) qom)) ?_ U Ac);refine o_y U (Lo U isAgg3 (by first|exact c_o|exact cell1 ((hP.mono sbt).cs (i:=i) qom))) ?_ U Ac;refine rP tb 1 U (o_y U (Lo U isAgg23 qco) ?_ U Ac);refine rP tb 1 U (o_y U (Lq U U runUnderlying23 sizeOf61 qom (by first|exact rfl|exact hP.b (i:=i) qom|exact hn.links.b (i:=i) qom)) ?_ U Ac);refine rP tb 1 U (o_y U (Lo U isAgg3 (by first|exact c_o|exact c_m (hn.links.f (i:=i) (j:=2) qom U))) ?_ U Ac);refine o_y U (Ei (T U) (T U) qom) ?_ U Ac;refine o_y U (Aq (T U) (T U) qom) ?_ U Ac;refine rP tb 1 U (A5 U (kO tb 3 [2,3,4,5,9,10] rfl U (rG tb 2 U (y_ (Aq (T U) Ao qom) ?_ U))));refine rO tb 2 U ?_;refine An ((i+1,rm+gd pr i*(gd n.links i).cap)) ?_ ?_ ⟨qat,qat,trivial⟩ ⟨Aa U,Aa U,Aa U,Aa U,trivial⟩ ?_
      ·refine⟨by omega,by rw[C6,if_pos c44,hrm],?_,fun j hj=> ?_⟩
       ·rw[C6,if_pos c44];omega
       ·by_cases e:j=i
        ·subst e;exact hpi
        ·exact hrg j qom
      ·first|omega|(simp only[];omega)
      ·exact sbt
     ·refine rC tb 5 U (y_ (Aq (T U) Ao qom) ?_ U);refine rO tb 2 U ?_;refine An ((i+1,rm)) ?_ ?_ ⟨qat,qat,trivial⟩ ⟨Aa U,Aa U,Aa U,Aa U,trivial⟩ ?_
      ·have hif: ¬ upF n f i=true:=by simpa using c44
       refine⟨by omega,by rw[C6,if_neg hif,hrm,Int.add_zero],?_,fun j hj=> ?_⟩
       ·rw[C6,if_neg hif];omega
       ·by_cases e:j=i
        ·subst e;exact hpi
        ·exact hrg j qom
      ·first|omega|(simp only[];omega)
      ·exact sbt
  ·have hrn:∀ j,j<pr.length→0≤gd pr j∧gd pr j≤1048576:=fun j hj=>hrg j qom
   have hrb:=rngB_of hrn;obtain rfl:i=pr.length:=by omega
   refine rC tb 2 U (Af (rX tb 14 U ?_));refine Bb (X:=Nat × Int) (V:=fun ⟨i,ak⟩=>[(13, .int .i64 (i:Nat)),(12, .int .i64 ak)]) (C:=[(2,_),(3,_),(4,_),(5,_),(9,_)]) (φ:=fun ⟨i,ak⟩=>i≤os.length∧ak=askF n f pr (os2.take i)∧(0≤askF n f pr (os2.take i)∧askF n f pr (os2.take i)≤2638827906662400*i)∧(∀ j,j<i→(priceF n f (gd os2 j) pr).isSome=true)) (μ:=fun ⟨i,ak⟩=>os.length - i) (x0:=(0,0)) ?_ ⟨Aa rfl,Aa rfl,Aa rfl,Aa rfl,Aa rfl,trivial⟩ ⟨qat,qat,trivial⟩ ?_
   ·exact⟨Nat.zero_le _,by simp[askF,sI],by simp[askF,sI],fun j hj=>by omega⟩
   rintro⟨i,ak⟩ ⟨hi,has,hsr,hss⟩;refine rD tb 9 U ?_;refine Ae (Aa U) (fun c61=> ?_) (fun c61=> ?_)
   ·have hod:=hoo.r.at' i qom;have ho1:=hoo.ok _ (Ag (l:=os2) (i:=i) qom);have hprI:=(priceF_is hok f ho1 hpn hrn).2;have hpv:0≤(priceF n f (gd os2 i) pr).getD 0∧(priceF n f (gd os2 i) pr).getD 0≤1048576*2400:=by
     cases hq:priceF n f (gd os2 i) pr with
     |none=>simp
     |some c=>simpa using hprI c hq
    have ha0:=ho1.a0;have ha1:=ho1.a1;have hmul:=Jg ⟨ha0,ha1⟩ hpv;have hamt:=hod.amt;refine rC tb 5 U (Bg 13 [(0,true),(1,true),(2,true),(3,true),(4,true),(5,true),(6,true),(7,true),(8,true),(9,true),(10,true),(11,true),(12,true)] _ mixd qkr sb0 ?_ A7);refine o_y U (Lp U isAgg26 sizeOf26 U qcs) ?_ U Ac;refine o_y U (Lp U isAgg29 sizeOf29 U qcs) ?_ U Ac;refine rP tb 2 U (o_y U (Lq U U runUnderlying30 sizeOf58 qom (by first|exact rfl|exact hP.b (i:=i) qom|exact hn.links.b (i:=i) qom|exact hO.a.b (i:=i) qom)) ?_ U Ac);refine o_y U (Lp U isAgg58 sizeOf58 U (by exact(hO.a.mono sbt).cs (i:=i) qom)) ?_ U Ac;refine rP tb 1 U (o_y U (Ax (qe4 U U U U) call33 (fun H' hs=>rpriceF_s n (hn.mono (stn hs)) hok f (hf.mono (stn hs)) hfl (gd os i) (gd os2 i) hod ho1 ((hO.m _ (Ag qom)).mono (stn hs)) (hoo.z _ (Ag qom)) pr qp cp (hP.mono (stn hs)) hpn hrn)) ?_ U Ac);refine rP tb 5 U (A5 U (rO tb 6 U ?_))
    first|refine A6 (Bc (T U)) U Ac ?_|refine A6 (By (T U)) U Ac ?_
    refine rO tb 2 U ?_
    first|refine Ae (Aa U) (fun c76=> ?_) (fun c76=> ?_)|refine Bm (Aa U) (fun c76=> ?_) (fun c76=> ?_)
    ·refine rC tb 9 U (Aw (rX tb 2 U (Ai U (Ll U) ?_)));exact⟨_,⟨vbool (by unfold refF;rw[all_no (l:=os2) (i:=i) qom (by simpa using c76)];simp),rfl⟩,sbt⟩
    ·refine rC tb 6 U (y_ (Lq U U runUnderlying30 sizeOf58 qom (by first|exact rfl|exact hP.b (i:=i) qom|exact hn.links.b (i:=i) qom|exact hO.a.b (i:=i) qom)) ?_ U);refine rO tb 1 U (y_ (Lo U isAgg3 (by first|exact c_o|exact c_m (hO.a.f (i:=i) (j:=2) qom U))) ?_ U);refine rO tb 1 U (y_ (Ei (T U) (T U) (by rw[hamt];omega)) ?_ U);refine y_ (Aq (T U) (T U) (by rw[hamt];omega)) ?_ U;refine kO tb 4 [2,3,4,5,9,12,13] rfl U (rG tb 2 U (y_ (Aq (T U) Ao qom) ?_ U));refine rO tb 2 U ?_;refine An ((i+1,ak+(gd os i).amt*(priceF n f (gd os2 i) pr).getD 0)) ?_ ?_ ⟨qat,qat,trivial⟩ ⟨Aa U,Aa U,Aa U,Aa U,Aa U,trivial⟩ ?_
     ·refine⟨by omega,by rw[Hx qom,has,hamt],?_,fun j hj=> ?_⟩
      ·rw[Hx qom];omega
      ·by_cases e:j=i
       ·subst e;simpa using c76
       ·exact hss j qom
     ·first|omega|(simp only[];omega)
     ·exact sbt
   ·refine rC tb 2 U (Af (rX tb 11 U (Ai U (Ll U) ?_)));have hin:os2.take i=os2:=List.take_of_length_le qom;rw[hin] at has;exact⟨_,⟨vbool (by unfold refF;rw[decide_eq_true hpn,hrb,J6 fun j hj=>hss j qom,has,hrm,hpn];rfl),rfl⟩,sbt⟩
theorem prefuted_s {w0:World}{H:List (Nat × Obj)}(n:Nn)(hn:NetR w0 H n)(hok:NnOk n)(hcap:∀ x∈n.links,0≤x.cap∧x.cap≤1048576)(f:Flr)(hf:Arr w0 H f.q 1 encI f.links)(hfl:f.links.length≤1000000)(os:List Om)(os2:List Odr)(qo:Option Addr)(co:Nat)(hO:OsM w0 H qo os)(hoo:OsOk n os os2)(pr:List Int)(qp:Option Addr)(cp:Nat)(hP:Arr w0 H qp 1 encI pr)(hp1:pr.length≤1000000):
  FSpec Tryz.prog w0 29 #[.agg (encNn n).toArray, .agg (encFl f).toArray, .slice qo os.length co, .slice qp pr.length cp] H (Still (.bool (refF n f os2 pr)) H):=by
 refine Ap Tryz.func29 U ntmps29 U ?_;have hfewL:=hok.fewL;have hno:=hoo.few;have hol:=hoo.r.len;refine rD tb 2 U (e_ (Lt U cs_) ?_ U);rintro _ _ ⟨n4,rfl,rfl⟩;refine e_ (Lt U cs_) ?_ U;rintro _ _ ⟨n5,rfl,rfl⟩;refine rO tb 9 U (y_ (Lo U isAgg23 qco) ?_ U);refine rO tb 3 U ?_;refine A4 (s:=23) (Aa U) (fun c23=> ?_) (fun c23=> ?_)
 ·refine rO tb 13 U (Ai U (Ll U) ?_);exact⟨_,⟨vbool (by unfold refF;rw[decide_eq_false qom];rfl),rfl⟩,sbt⟩
 ·have hpn:pr.length=n.links.length:=by omega
  refine rO tb 1 U (A6 (Ax (.cons (T U) (.cons J9 .nil)) call69 (fun H' hs=>pcont_s pr qp cp (hP.mono (stn hs)) hp1)) U (Az U U (Aa U)) (rO tb 3 U ?_))
  first|refine Ae (Aa U) (fun c26=> ?_) (fun c26=> ?_)|refine Bm (Aa U) (fun c26=> ?_) (fun c26=> ?_)
  ·refine rC tb 7 U (Ai U (Ll U) ?_);exact⟨_,⟨vbool (by unfold refF;rw[show rngB pr=false by simpa using c26];simp),rfl⟩,sbt⟩
  ·have hrb:rngB pr=true:=by simpa using c26
   have hrn:=rngB_at hrb;refine rC tb 17 U ?_;refine Bb (X:=Nat × Int) (V:=fun ⟨i,rm⟩=>[(29, .int .i64 (i:Nat)),(9, .int .i64 rm)]) (C:=[(2,_),(3,_),(4,_),(5,_),(10,_),(27,_),(28,_)]) (φ:=fun ⟨i,rm⟩=>i≤pr.length∧rm=roomF n f pr i∧(0≤roomF n f pr i∧roomF n f pr i≤1099511627776*i)) (μ:=fun ⟨i,rm⟩=>pr.length - i) (x0:=(0,0)) ?_ ⟨Aa rfl,Aa rfl,Aa rfl,Aa rfl,Aa rfl,Aa rfl,Aa rfl,trivial⟩ ⟨qat,qat,trivial⟩ ?_
   ·exact⟨Nat.zero_le _,by simp[roomF,sI],by simp[roomF,sI]⟩
   rintro⟨i,rm⟩ ⟨hi,hrm,hrr⟩;refine rD tb 6 U ?_;refine Ae (Aa U) (fun c30=> ?_) (fun c30=> ?_)
   ·have hle:=hcap _ (Ag (l:=n.links) (i:=i) qom);have hpi:=hrn i qom;have hmul:=Jg hpi hle;refine rC tb 7 U (y_ (Lq U U runUnderlying27 sizeOf3 qom (by first|exact rfl|exact hP.b (i:=i) qom)) ?_ U);refine y_ (Lo U isAgg3 (by first|exact c_o|exact cell1 ((hP.mono sbt).cs (i:=i) qom))) ?_ U;refine rO tb 6 U (y_ (Lp U isAgg26 sizeOf26 U qcs) ?_ U);refine y_ (Lp U isAgg29 sizeOf29 U qcs) ?_ U;refine rO tb 1 U (y_ (Ax (qe3 U U U) call71 (fun H' hs=>Lh n (hn.mono (stn hs)) f (hf.mono (stn hs)) qom i qom)) ?_ U);refine rO tb 2 U ?_
    first|refine Ae (Aa U) (fun c37=> ?_) (fun c37=> ?_)|refine Bm (Aa U) (fun c37=> ?_) (fun c37=> ?_)
    ·refine rC tb 4 U (y_ (Lo U isAgg23 qco) ?_ U);refine rO tb 1 U (y_ (Lq U U runUnderlying23 sizeOf61 qom (by first|exact rfl|exact hP.b (i:=i) qom|exact hn.links.b (i:=i) qom)) ?_ U);refine rO tb 1 U (y_ (Lo U isAgg3 (by first|exact c_o|exact c_m (hn.links.f (i:=i) (j:=2) qom U))) ?_ U);refine y_ (Ei (T U) (T U) qom) ?_ U;refine y_ (Aq (T U) (T U) qom) ?_ U;refine kO tb 4 [2,3,4,5,9,10,27,28,29] rfl U (rG tb 1 U (y_ (Aq (T U) Ao qom) ?_ U));refine rO tb 2 U ?_;refine An ((i+1,rm+gd pr i*(gd n.links i).cap)) ?_ ?_ ⟨qat,qat,trivial⟩ ⟨Aa U,Aa U,Aa U,Aa U,Aa U,Aa U,Aa U,trivial⟩ ?_
     ·refine⟨by omega,by rw[C6,if_pos c37,hrm],?_⟩;rw[C6,if_pos c37];omega
     ·first|omega|(simp only[];omega)
     ·exact sbt
    ·refine rC tb 4 U (y_ (Aq (T U) Ao qom) ?_ U);refine rO tb 2 U ?_;refine An ((i+1,rm)) ?_ ?_ ⟨qat,qat,trivial⟩ ⟨Aa U,Aa U,Aa U,Aa U,Aa U,Aa U,Aa U,trivial⟩ ?_
     ·have hif: ¬ upF n f i=true:=by simpa using c37
      refine⟨by omega,by rw[C6,if_neg hif,hrm,Int.add_zero],?_⟩;rw[C6,if_neg hif];omega
     ·first|omega|(simp only[];omega)
     ·exact sbt
   ·obtain rfl:i=pr.length:=by omega
    refine rC tb 2 U (Af (rX tb 11 U ?_));refine Bb (X:=Nat × Int) (V:=fun ⟨i,ak⟩=>[(51, .int .i64 (i:Nat)),(10, .int .i64 ak)]) (C:=[(3,_),(4,_),(5,_),(9,_),(49,_),(50,_)]) (φ:=fun ⟨i,ak⟩=>i≤os.length∧ak=askF n f pr (os2.take i)∧(0≤askF n f pr (os2.take i)∧askF n f pr (os2.take i)≤2638827906662400*i)∧(∀ j,j<i→(priceF n f (gd os2 j) pr).isSome=true)) (μ:=fun ⟨i,ak⟩=>os.length - i) (x0:=(0,0)) ?_ ⟨Aa rfl,Aa rfl,Aa rfl,Aa rfl,Aa rfl,Aa rfl,trivial⟩ ⟨qat,qat,trivial⟩ ?_
    ·exact⟨Nat.zero_le _,by simp[askF,sI],by simp[askF,sI],fun j hj=>by omega⟩
    rintro⟨i,ak⟩ ⟨hi,has,hsr,hss⟩;refine rD tb 6 U ?_;refine Ae (Aa U) (fun c52=> ?_) (fun c52=> ?_)
    ·have hod:=hoo.r.at' i qom;have ho1:=hoo.ok _ (Ag (l:=os2) (i:=i) qom);have hprI:=(priceF_is hok f ho1 hpn hrn).2;have hpv:0≤(priceF n f (gd os2 i) pr).getD 0∧(priceF n f (gd os2 i) pr).getD 0≤1048576*2400:=by
      cases hq:priceF n f (gd os2 i) pr with
      |none=>simp
      |some c=>simpa using hprI c hq
     have ha0:=ho1.a0;have ha1:=ho1.a1;have hmul:=Jg ⟨ha0,ha1⟩ hpv;have hamt:=hod.amt;refine rC tb 6 U (y_ (Lq U U runUnderlying30 sizeOf58 qom (by first|exact rfl|exact hP.b (i:=i) qom|exact hn.links.b (i:=i) qom|exact hO.a.b (i:=i) qom)) ?_ U);refine y_ (Lp U isAgg58 sizeOf58 U (by exact(hO.a.mono sbt).cs (i:=i) qom)) ?_ U;refine e_ (Aj zeroValue58 cs_) ?_ U;rintro _ _ ⟨n14,rfl,rfl⟩;refine A0 (Ls U U sizeOf58) U Ac ?_;rintro _ _ ⟨rfl,rfl⟩;refine rO tb 4 U (y_ (Lp U isAgg26 sizeOf26 U qcs) ?_ U);refine y_ (Lp U isAgg29 sizeOf29 U qcs) ?_ U;refine y_ (Lp U isAgg58 sizeOf58 U qcs) ?_ U;refine rO tb 1 U (y_ (Ax (qe4 U U U U) call32 (fun H' hs=>ppriceF_s n (hn.mono (stn hs)) hok f (hf.mono (stn hs)) hfl (gd os i) (gd os2 i) hod ho1 ((hO.m _ (Ag qom)).mono (stn hs)) (hoo.z _ (Ag qom)) pr qp cp (hP.mono (stn hs)) hpn hrn)) ?_ U);refine rO tb 11 U ?_
     first|refine A6 (Bc (T U)) U Ac ?_|refine A6 (By (T U)) U Ac ?_
     refine rO tb 2 U ?_
     first|refine Ae (Aa U) (fun c64=> ?_) (fun c64=> ?_)|refine Bm (Aa U) (fun c64=> ?_) (fun c64=> ?_)
     ·refine rC tb 9 U (Aw (rX tb 2 U (Ai U (Ll U) ?_)));exact⟨_,⟨vbool (by unfold refF;rw[all_no (l:=os2) (i:=i) qom (by simpa using c64)];simp),rfl⟩,sbt⟩
     ·refine rC tb 5 U (y_ (Lo U isAgg3 qco) ?_ U);refine rO tb 1 U (y_ (Ei (T U) (T U) (by rw[hamt];omega)) ?_ U);refine y_ (Aq (T U) (T U) (by rw[hamt];omega)) ?_ U;refine kO tb 4 [3,4,5,9,10,49,50,51] rfl U (rG tb 1 U (y_ (Aq (T U) Ao qom) ?_ U));refine rO tb 2 U ?_;refine An ((i+1,ak+(gd os i).amt*(priceF n f (gd os2 i) pr).getD 0)) ?_ ?_ ⟨qat,qat,trivial⟩ ⟨Aa U,Aa U,Aa U,Aa U,Aa U,Aa U,trivial⟩ ?_
      ·refine⟨by omega,by rw[Hx qom,has,hamt],?_,fun j hj=> ?_⟩
       ·rw[Hx qom];omega
       ·by_cases e:j=i
        ·subst e;simpa using c64
        ·exact hss j qom
      ·first|omega|(simp only[];omega)
      ·exact sbt
    ·refine rC tb 2 U (Af (rX tb 11 U (Ai U (Ll U) ?_)));have hin:os2.take i=os2:=List.take_of_length_le qom;rw[hin] at has;exact⟨_,⟨vbool (by unfold refF;rw[decide_eq_true hpn,hrb,J6 fun j hj=>hss j qom,has,hrm,hpn];rfl),rfl⟩,sbt⟩
theorem pholdsO_s {w0:World}{H:List (Nat × Obj)}(n:Nn)(hn:NetR w0 H n)(hok:NnOk n)(f:Flr)(hf:Arr w0 H f.q 1 encI f.links)(hfl:f.links.length≤1000000)(om:Om)(o:Odr)(hod:OdR om o)(ho:OdrOk n o)(hM:RxM w0 H om.m)(ls:List Int)(q:Option Addr)(c:Nat)(hA:Arr w0 H q 1 encI ls)(hlen:ls.length≤3000):
  FSpec Tryz.prog w0 57 #[.agg (encNn n).toArray, .agg (encFl f).toArray, .agg (encRx om.m).toArray, .int .i64 om.x, .int .i64 om.y, .slice q ls.length c] H (Still (.bool (holdsF n f o.e o.x o.y ls)) H):=by
 rw[hod.x,hod.y];exact holds_s n hn hok f hf qom om.m o.e hod.e hM ho.lv o.x o.y ho.x ls q c hA qom
def ShF (a:List Lr):Prop:=a.length≤100∧∀ r∈a,r.l.length≤100∧∀ s∈r.l,s.l.length≤3000
theorem ldOk_of {n:Nn}{f:Flr}{os:List Om}{os2:List Odr}{a:List Lr}(hoo:OsOk n os os2)(hs:ShF a)(h1:FormedP os2.length a)(h2:AllH n f os2 a):LdOk n.links.length os a:=by
 have hol:=hoo.r.len;refine⟨by rw[h1.1,hol],hs.1,fun m hm=> ?_,fun r hr=>⟨(hs.2 r hr).1,fun s hss=> ?_⟩⟩
 ·obtain⟨i,hi,rfl⟩:=List.getElem_of_mem hm;have h3:=hoo.r.at' i hi;have h4:=hoo.ok _ (Ag (l:=os2) (i:=i) qom);rw[Ar hi] at h3;rw[h3.amt];exact⟨h4.a0,h4.a1⟩
 ·obtain⟨i,hi,rfl⟩:=List.getElem_of_mem hr;obtain⟨k,hk,rfl⟩:=List.getElem_of_mem hss;have h3:=(h1.2 i hi).1 k (by rw[Ar hi];exact hk);have h4:=h2 i hi k (by rw[Ar hi];exact hk);rw[Ar hi,Ar hk] at h4;have h5:=h3.1;have h6:=h3.2.1;rw[Ar hi,Ar hk] at h5 h6;have:=((hs.2 _ hr).2 _ hss);exact⟨h5,h6,by omega,fun x hx=>⟨(Ee h4 x hx).1,(Ee h4 x hx).2.1⟩⟩
theorem sh_val {n:Nn}{os:List Om}{os2:List Odr}{a:List Lr}(hoo:OsOk n os os2)(hl:LdOk n.links.length os a){k:Nat}(hk:k<n.links.length):gd (shT (List.replicate n.links.length (0:Int)) os a a.length) k=ldAt os2 (shOf a) k:=
 shT_ld hoo.r hl.len (fun r hr s hs x hx=>((hl.lan r hr).2 s hs).2.2.2 x hx) hk
theorem pfit1_s {w0:World}{H:List (Nat × Obj)}(n:Nn)(hn:NetR w0 H n)(hok:NnOk n)(f:Flr)(hf:Arr w0 H f.q 1 encI f.links)(hfl:f.links.length≤1000000)(om:Om)(o:Odr)(hod:OdR om o)(ho:OdrOk n o)(hM:RxM w0 H om.m)(b4 b5 b11:Nat)(h4:Fnd H b4 (Cl (encNn n) 26))(h5:Fnd H b5 (Cl (encFl f) 29))(h11:Fnd H b11 (Cl (encOm om) 58))(s:Lm)(hS:LmM w0 H s)(hsl:s.l.length≤3000):
  FSpec Tryz.prog w0 56 #[.agg (encLm s).toArray, .pointer (some ⟨b4,0,none⟩), .pointer (some ⟨b5,0,none⟩), .pointer (some ⟨b11,0,none⟩)] H (Still (.bool (!holdsF n f o.e o.x o.y s.l)) H):=by
 refine Ap Tryz.func56 U ntmps56 U (rD tb 2 U (e_ (Lt U cs_) ?_ U));rintro _ _ ⟨n4,rfl,rfl⟩;refine rO tb 5 U ?_;refine y_ (Lp U isAgg26 sizeOf26 U (by exact(C8 (by repeat (first|exact h4|refine Au ?_|refine A2 ?_))))) ?_ U;refine y_ (Lp U isAgg29 sizeOf29 U (by exact(C8 (by repeat (first|exact h5|refine Au ?_|refine A2 ?_))))) ?_ U;refine rO tb 1 U ?_;refine y_ (Lp U isAgg56 sizeOf56 U (by exact Bj (l:=encOm om) (o:=3) (k:=3) (by repeat (first|exact h11|refine Au ?_|refine A2 ?_)))) ?_ U;refine rO tb 1 U ?_;refine y_ (Lo U isAgg3 (by first|exact c_o|exact Br (by repeat (first|exact h11|refine Au ?_|refine A2 ?_)) U)) ?_ U;refine rO tb 1 U ?_;refine y_ (Lo U isAgg3 (by first|exact c_o|exact Br (by repeat (first|exact h11|refine Au ?_|refine A2 ?_)) U)) ?_ U;refine rO tb 1 U (y_ (Lo U isAgg27 qco) ?_ U);refine y_ (Ax (.cons (T U) (.cons (T U) (.cons (T U) (.cons (T U) (.cons (T U) (.cons (T U) .nil)))))) call57 (fun H' hs=>pholdsO_s n (hn.mono (stn hs)) hok f (hf.mono (stn hs)) hfl om o hod ho (hM.mono (stn hs)) s.l _ _ (hS.a.mono (stn hs)) hsl)) ?_ U
 first|refine A6 (Bc (T U)) U Ac ?_|refine A6 (By (T U)) U Ac ?_
 refine rO tb 4 U (Ai U (Ll U) ?_);exact⟨_,⟨rfl,rfl⟩,sbt⟩
def allB (n:Nn) (f:Flr) (o:Odr) (r:Lr):Bool:=r.l.all fun s=>holdsF n f o.e o.x o.y s.l
theorem allB_at {n:Nn}{f:Flr}{o:Odr}{r:Lr}(h:allB n f o r=true):∀ k,k<r.l.length→holdsF n f o.e o.x o.y (gd r.l k).l=true:=fun k hk=>List.all_eq_true.1 h _ (Ag hk)
theorem pfidx_s {w0:World}{H:List (Nat × Obj)}(n:Nn)(hn:NetR w0 H n)(hok:NnOk n)(f:Flr)(hf:Arr w0 H f.q 1 encI f.links)(hfl:f.links.length≤1000000)(om:Om)(o:Odr)(hod:OdR om o)(ho:OdrOk n o)(hM:RxM w0 H om.m)(b4 b5 b11:Nat)(h4:Fnd H b4 (Cl (encNn n) 26))(h5:Fnd H b5 (Cl (encFl f) 29))(h11:Fnd H b11 (Cl (encOm om) 58))(r:Lr)(hR:LrM w0 H r)(hrf:r.l.length≤100∧∀ s∈r.l,s.l.length≤3000):
  FSpec Tryz.prog w0 110 #[.slice r.q r.l.length r.c, .func (.func 56) #[] #[.pointer (some ⟨b4,0,none⟩), .pointer (some ⟨b5,0,none⟩), .pointer (some ⟨b11,0,none⟩)]] H (fun v H'=>(∃ k:Int,v= .int .i64 k∧((k= -1∧allB n f o r=true)∨(0≤k∧allB n f o r=false)))∧H'=H):=by
 refine Ap Tryz.func110 U ntmps110 U ?_;have hr1:=hrf.1;refine rD tb 14 U ?_;refine Bb (X:=Nat) (V:=fun i=>[(8, .int .i64 (i:Nat))]) (C:=[(0,_),(1,_),(7,_)]) (φ:=fun i=>i≤r.l.length∧∀ j,j<i→holdsF n f o.e o.x o.y (gd r.l j).l=true) (μ:=fun i=>r.l.length - i) (x0:=0) ?_ ⟨Aa U,Aa U,Aa U,trivial⟩ ⟨qat,trivial⟩ ?_
 ·exact⟨Nat.zero_le _,fun j hj=>by omega⟩
 rintro i ⟨hi,hno⟩;refine rD tb 6 U ?_;refine Ae (Aa U) (fun c9=> ?_) (fun c9=> ?_)
 ·refine rC tb 15 U (y_ (Lq U U runUnderlying79 sizeOf77 qom (by first|exact rfl|exact hR.a.b (i:=i) qom)) ?_ U);refine y_ (Lp U isAgg77 sizeOf77 U (by exact(hR.a.mono sbt).cs (i:=i) qom)) ?_ U;refine y_ (Cq (T U) (qe1 U) call56 (fun H' hs=>pfit1_s n (hn.mono (stn hs)) hok f (hf.mono (stn hs)) hfl om o hod ho (hM.mono (stn hs)) b4 b5 b11 ((stn hs).subset h4) ((stn hs).subset h5) ((stn hs).subset h11) (gd r.l i) ((hR.m _ (Ag qom)).mono (stn hs)) (hrf.2 _ (Ag qom)))) ?_ U;refine rO tb 2 U ?_
  first|refine Ae (Aa U) (fun c16=> ?_) (fun c16=> ?_)|refine Bm (Aa U) (fun c16=> ?_) (fun c16=> ?_)
  ·refine rC tb 9 U (Aw (rX tb 2 U (Ai U (Ll U) ?_)));exact⟨_,⟨⟨_,rfl, .inr ⟨by omega,all_no (i:=i) qom (by simpa using c16)⟩⟩,rfl⟩,sbt⟩
  ·refine rC tb 4 U (y_ (Aq (T U) Ao qom) ?_ U);refine rO tb 2 U ?_;refine An (i+1) ?_ ?_ ⟨qat,trivial⟩ ⟨Aa U,Aa U,Aa U,trivial⟩ ?_
   ·refine⟨by omega,fun j hj=> ?_⟩
    by_cases e:j=i
    ·subst e;simpa using c16
    ·exact hno j qom
   ·omega
   ·exact sbt
 ·refine rC tb 2 U (Af (rX tb 8 U (Ai U (Ll U) ?_)));exact⟨_,⟨⟨_,rfl, .inl ⟨rfl,J6 fun j hj=>hno j qom⟩⟩,rfl⟩,sbt⟩
theorem pfcont_s {w0:World}{H:List (Nat × Obj)}(n:Nn)(hn:NetR w0 H n)(hok:NnOk n)(f:Flr)(hf:Arr w0 H f.q 1 encI f.links)(hfl:f.links.length≤1000000)(om:Om)(o:Odr)(hod:OdR om o)(ho:OdrOk n o)(hM:RxM w0 H om.m)(b4 b5 b11:Nat)(h4:Fnd H b4 (Cl (encNn n) 26))(h5:Fnd H b5 (Cl (encFl f) 29))(h11:Fnd H b11 (Cl (encOm om) 58))(r:Lr)(hR:LrM w0 H r)(hrf:r.l.length≤100∧∀ s∈r.l,s.l.length≤3000):
  FSpec Tryz.prog w0 55 #[.slice r.q r.l.length r.c, .func (.func 56) #[] #[.pointer (some ⟨b4,0,none⟩), .pointer (some ⟨b5,0,none⟩), .pointer (some ⟨b11,0,none⟩)]] H (Still (.bool (!allB n f o r)) H):=by
 refine Ap Tryz.func55 U ntmps55 U (rD tb 9 U (e_ (Am (qe2 U U) call110 (pfidx_s n (hn.mono sbt) hok f (hf.mono sbt) hfl om o hod ho (hM.mono sbt) b4 b5 b11 h4 h5 h11 r (hR.mono sbt) hrf)) ?_ U));rintro _ _ ⟨⟨k,rfl,hk⟩,rfl⟩;refine rO tb 5 U (Ai U (Ll U) ?_);exact⟨_,⟨by rcases hk with ⟨h1,h2⟩|⟨h1,h2⟩<;>rw[h2]<;>exact vbool (by simp;omega),rfl⟩,sbt⟩
theorem pfits_s {w0:World}{H:List (Nat × Obj)}(n:Nn)(hn:NetR w0 H n)(hok:NnOk n)(hcap:∀ x∈n.links,0≤x.cap∧x.cap≤1048576)(f:Flr)(hf:Arr w0 H f.q 1 encI f.links)(hfl:f.links.length≤1000000)(os:List Om)(os2:List Odr)(qo:Option Addr)(co:Nat)(hO:OsM w0 H qo os)(hoo:OsOk n os os2)(a:List Lr)(q1:Option Addr)(c1:Nat)(hA:ShM w0 H q1 a)(hsf:ShF a):
  FSpec Tryz.prog w0 19 #[.agg (encNn n).toArray, .agg (encFl f).toArray, .slice qo os.length co, .slice q1 a.length c1] H (fun v H'=>(∃ c:Int,v= .int .i64 c∧FitC n f os2 a c)∧H'=H):=by
 refine Ap Tryz.func19 U ntmps19 U ?_;have hfewL:=hok.fewL;have hno:=hoo.few;have hol:=hoo.r.len;have hna:=hsf.1;refine rD tb 2 U (e_ (Lt U cs_) ?_ U);rintro _ _ ⟨n4,rfl,rfl⟩;refine e_ (Lt U cs_) ?_ U;rintro _ _ ⟨n5,rfl,rfl⟩;refine rO tb 8 U (e_ (Am (qe2 U U) call54 (pformed_s os.length qo co qom a q1 c1 (hA.mono sbt) (fun x hx=>by have:=(hsf.2 x hx).1;omega))) ?_ U);rintro _ _ ⟨⟨t,rfl,ht⟩,rfl⟩
 first|refine A6 (Bc (T U)) U Ac ?_|refine A6 (By (T U)) U Ac ?_
 refine rO tb 2 U ?_
 first|refine Ae (Aa U) (fun c17=> ?_) (fun c17=> ?_)|refine Bm (Aa U) (fun c17=> ?_) (fun c17=> ?_)
 ·refine rC tb 7 U (Ai U (Ll U) ?_);exact⟨_,⟨⟨1,rfl, .inl ⟨fun h=>(by rw[hol] at h;rw[ht.2 h] at c17;cases c17),rfl⟩⟩,rfl⟩,sbt⟩
 ·have hfm:FormedP os2.length a:=by rw[hol];exact ht.1 (by simpa using c17)
  have hal:=hfm.1;refine rC tb 11 U ?_;refine Bb (X:=Nat) (V:=fun i=>[(20, .int .i64 (i:Nat))]) (C:=[(2,_),(3,_),(4,_),(5,_),(18,_),(19,_)]) (φ:=fun i=>i≤a.length∧∀ j,j<i→∀ k,k<(gd a j).l.length→holdsF n f (gd os2 j).e (gd os2 j).x (gd os2 j).y (gd (gd a j).l k).l=true) (μ:=fun i=>a.length - i) (x0:=0) ?_ ⟨Aa U,Aa U,Aa U,Aa U,Aa U,Aa U,trivial⟩ ⟨qat,trivial⟩ ?_
  ·exact⟨Nat.zero_le _,fun j hj=>by omega⟩
  rintro i ⟨hi,hp⟩;refine rD tb 6 U ?_;refine Ae (Aa U) (fun c21=> ?_) (fun c21=> ?_)
  ·have hra:=hsf.2 _ (Ag (l:=a) (i:=i) qom);have hod:=hoo.r.at' i qom;have ho1:=hoo.ok _ (Ag (l:=os2) (i:=i) qom);refine rC tb 7 U (y_ (Lq U U runUnderlying31 sizeOf79 qom (by first|exact rfl|exact hA.a.b (i:=i) qom)) ?_ U);refine y_ (Lo U isAgg79 (by first|exact c_o|exact cell1 ((hA.a.mono sbt).cs (i:=i) qom))) ?_ U;refine rO tb 8 U (y_ (Lq U U runUnderlying30 sizeOf58 qom (by first|exact rfl|exact hA.a.b (i:=i) qom|exact hO.a.b (i:=i) qom)) ?_ U);refine y_ (Lp U isAgg58 sizeOf58 U (by exact(hO.a.mono sbt).cs (i:=i) qom)) ?_ U;refine e_ (Aj zeroValue58 cs_) ?_ U;rintro _ _ ⟨n11,rfl,rfl⟩;refine A0 (Ls U U sizeOf58) U Ac ?_;rintro _ _ ⟨rfl,rfl⟩;refine rO tb 5 U (y_ (Bn (.cons (T U) (.cons (T U) (.cons (T U) .nil)))) ?_ U);refine e_ (Am (qe2 U U) call55 (pfcont_s n (hn.mono sbt) hok f (hf.mono sbt) hfl (gd os i) (gd os2 i) hod ho1 ((hO.m _ (Ag qom)).mono sbt) n4 n5 n11 fdd fdd fdd (gd a i) ((hA.m _ (Ag qom)).mono sbt) hra)) ?_ U;rintro _ _ ⟨rfl,rfl⟩;refine rO tb 2 U ?_
   first|refine Ae (Aa U) (fun c31=> ?_) (fun c31=> ?_)|refine Bm (Aa U) (fun c31=> ?_) (fun c31=> ?_)
   ·refine rC tb 8 U (Aw (rX tb 2 U (Ai U (Ll U) ?_)));exact⟨_,⟨⟨18,rfl, .inr (.inl ⟨⟨hfm,fun h=>(by rw[show allB n f (gd os2 i) (gd a i)=true from J6 fun k hk=>h i qom k hk] at c31;cases c31)⟩,rfl⟩)⟩,rfl⟩,sbt⟩
   ·refine rC tb 4 U (y_ (Aq (T U) Ao qom) ?_ U);refine rO tb 2 U ?_;refine An (i+1) ?_ ?_ ⟨qat,trivial⟩ ⟨Aa U,Aa U,Aa U,Aa U,Aa U,Aa U,trivial⟩ ?_
    ·refine⟨by omega,fun j hj=> ?_⟩
     by_cases ej:j=i
     ·subst ej;exact allB_at (by simpa using c31)
     ·exact hp j qom
    ·omega
    ·exact sbt
  ·have hall:AllH n f os2 a:=fun j hj=>hp j qom
   have hldo:=ldOk_of hoo hsf hfm hall;refine rC tb 2 U (Af (rX tb 5 U (y_ (Lp U isAgg26 sizeOf26 U qcs) ?_ U)));refine rO tb 2 U (e_ (Am (qe3 U U U) call24 (pload_s n (hn.mono sbt) qom os qo co (hO.mono sbt) a q1 c1 (hA.mono sbt) hldo)) ?_ U);rintro _ _ ⟨d,⟨rfl,hd⟩,rfl⟩;have hrep:(List.replicate n.links.length (0:Int)).length=n.links.length:=List.length_replicate ..;have hshl:(shT (List.replicate n.links.length (0:Int)) os a a.length).length=n.links.length:=by rw[Dd,List.length_replicate]
   refine rO tb 5 U ?_;refine Bb (X:=Nat) (V:=fun i=>[(38, .int .i64 (i:Nat))]) (C:=[(4,_),(36,_),(37,_)]) (φ:=fun i=>i≤n.links.length∧∀ k,k<i→ldAt os2 (shOf a) k≤16*(gd n.links k).cap) (μ:=fun i=>n.links.length - i) (x0:=0) ?_ ⟨Aa U,Aa U,Aa U,trivial⟩ ⟨qat,trivial⟩ ?_
   ·exact⟨Nat.zero_le _,fun j hj=>by omega⟩
   rintro i ⟨hi,hp2⟩;refine rD tb 6 U ?_;refine Ae (Aa U) (fun c39=> ?_) (fun c39=> ?_)
   ·have hle:=hcap _ (Ag (l:=n.links) (i:=i) qom);have hv:=sh_val hoo hldo (k:=i) qom;refine rC tb 7 U (y_ (Lq U U runUnderlying27 sizeOf3 qom (by first|exact rfl|exact hA.a.b (i:=i) qom|exact hO.a.b (i:=i) qom|exact hd.bas qom)) ?_ U);refine y_ (Lo U isAgg3 (by first|exact c_o|exact cell1 (((Av (w0:=w0) (d:=d) (enc:=encI) (sz:=1) (e:=3) (l:=(shT (List.replicate n.links.length (0:Int)) os a a.length)) (X:=H) (fun _=>rfl) (by rw[hshl];exact hd)).mono sbt).cs (i:=i) qom))) ?_ U;refine rO tb 8 U (y_ (Lo U isAgg23 qco) ?_ U);refine rO tb 1 U (y_ (Lq U U runUnderlying23 sizeOf61 qom (by first|exact rfl|exact hA.a.b (i:=i) qom|exact hO.a.b (i:=i) qom|exact hd.bas qom|exact hn.links.b (i:=i) qom)) ?_ U);refine rO tb 1 U (y_ (Lo U isAgg3 (by first|exact c_o|exact c_m (hn.links.f (i:=i) (j:=2) qom U))) ?_ U);refine y_ (Ei Ao (T U) qom) ?_ U;refine rO tb 3 U ?_;refine Ae (Aa U) (fun c51=> ?_) (fun c51=> ?_)
    ·refine rC tb 8 U (Aw (rX tb 2 U (Ai U (Ll U) ?_)));exact⟨_,⟨⟨19,rfl, .inr (.inr (.inl ⟨⟨⟨hfm,hall⟩,fun h=>(by have:=h i qom;omega)⟩,rfl⟩))⟩,rfl⟩,sbt⟩
    ·refine rC tb 4 U (y_ (Aq (T U) Ao qom) ?_ U);refine rO tb 2 U ?_;refine An (i+1) ?_ ?_ ⟨qat,trivial⟩ ⟨Aa U,Aa U,Aa U,trivial⟩ ?_
     ·refine⟨by omega,fun j hj=> ?_⟩
      by_cases ej:j=i
      ·subst ej;omega
      ·exact hp2 j qom
     ·omega
     ·exact sbt
   ·refine rC tb 2 U (Af (rX tb 8 U (Ai U (Ll U) ?_)));exact⟨_,⟨⟨0,rfl, .of hfm hall fun j hj=>hp2 j qom⟩,rfl⟩,sbt⟩
theorem zbs175_1_0 (a0:Int)(w:World):(Instr.buildSlice 175 1 #[(0, .int .i32 a0)]).run Tryz.prog w= .ok (.slice (some ⟨w.heap.size,0,none⟩) 1 1) (w.alloc (Cl [.int .i32 a0] 21)):=by kernel_rfl
theorem eqSlNil (a:Addr)(n c:Nat)(w:World):(Op.equal 27 (.slice (some a) n c) (.slice none 0 0)).run Tryz.prog w= .ok false w:=by kernel_rfl
theorem eqPtNil (a:Addr)(w:World):(Op.equal 105 (.pointer (some a)) (.pointer none)).run Tryz.prog w= .ok false w:=by kernel_rfl
theorem eqPtNil2 (w:World):(Op.equal 105 (.pointer none) (.pointer none)).run Tryz.prog w= .ok true w:=by kernel_rfl
theorem yl_eqSN {w0:World}{L:Fm}{H:List (Nat × Obj)}{ty yt:TypeId}{x y:Operand}{a:Addr}{n c:Nat}(hx:Ev L x (.slice (some a) n c))(hy:Ev L y (.slice none 0 0)):Yl Tryz.prog w0 (.binOp .eql 27 x y yt) ty L H (.bool false):=Bh U fun b' w=>by
 simp[exO,execOp,hx b',hy b',binOp,eqGuard,Sem.run_bind,Result.andThen,eqSlNil]
theorem yl_eqPN {w0:World}{L:Fm}{H:List (Nat × Obj)}{ty yt:TypeId}{x y:Operand}{a:Addr}(hx:Ev L x (.pointer (some a)))(hy:Ev L y (.pointer none)):Yl Tryz.prog w0 (.binOp .eql 105 x y yt) ty L H (.bool false):=Bh U fun b' w=>by
 simp[exO,execOp,hx b',hy b',binOp,eqGuard,Sem.run_bind,Result.andThen,eqPtNil]
theorem yl_eqPN2 {w0:World}{L:Fm}{H:List (Nat × Obj)}{ty yt:TypeId}{x y:Operand}(hx:Ev L x (.pointer none))(hy:Ev L y (.pointer none)):Yl Tryz.prog w0 (.binOp .eql 105 x y yt) ty L H (.bool true):=Bh U fun b' w=>by
 simp[exO,execOp,hx b',hy b',binOp,eqGuard,Sem.run_bind,Result.andThen,eqPtNil2]
abbrev encR (x:Int):List Value:=[.int .i32 x]
def keyR (rs:List Int):ByteArray:=rs.foldl (fun s n=>s++Utf8.encode n) ByteArray.empty
theorem yl_convR {P:Program}{w0:World}{L:Fm}{H:List (Nat × Obj)}{ty s t:TypeId}{x:Operand}{e c:Nat}{q:Option Addr}{rs:List Int}(hx:Ev L x (.slice q rs.length c))(hs:∀ w,(underlying s).run P w= .ok (.slice e) w)(he:∀ w,(underlying e).run P w= .ok (.int .i32) w)(ht:∀ w,(underlying t).run P w= .ok .string w)(hA:Arr w0 H q 1 encR rs):
  Yl P w0 (.convert s t x) ty L H (.string (keyR rs)):=Ju U fun H' hs' b w hO=>by
 have hA':=hA.mono hs';cases q with
 |none=>
  have hr:rs=[]:=by
   cases rs with
   |nil=>rfl
   |cons r rs=>have:=(hA' 0 r rfl).1;cases this
  subst hr;simp[exO,execOp,hx b,convert,hs,ht,he,Conv.runesToString,Sem.run_bind,Result.andThen,keyR]
 |some a=>
  have hl:(loadCells a rs.length).run P w= .ok (rs.map fun r=>Value.int .i32 r).toArray w:=by
   cases rs with
   |nil=>simp[loadCells,loadCellsFrom]
   |cons r rs=>
    have hb:some a=some ⟨a.block,a.off,none⟩:=(hA' 0 r U).1;have ha:a=⟨a.block,a.off,none⟩:=Option.some.inj hb;have h1:=Cu (P:=P) (b:=a.block) (o:=a.off) (w:=w) ((r::rs).map fun r=>Value.int .i32 r) 0 #[] (fun j v hj=>by
     rw[List.getElem?_map] at hj;obtain⟨u,h2,rfl⟩:=Option.map_eq_some_iff.1 hj;have h3:=(hA' j u h2).2 0 _ U w hO;rw[Nat.zero_add]
     simpa[bq,oq] using h3)
    rw[← ha,List.length_map] at h1;unfold loadCells;rw[h1];simp
  have hfold:∀ (B:Value→ByteArray→Sem (ForInStep ByteArray)),(∀ n s w,(B (.int .i32 n) s).run P w= .ok (.yield (s++Utf8.encode n)) w)→∀ (l:List Int) (s0:ByteArray) (w:World),((forIn (m:=Sem) (l.map fun r=>Value.int .i32 r).toArray s0 B).run P w)= .ok (l.foldl (fun s n=>s++Utf8.encode n) s0) w:=fun B hB l=>by
   induction l with
   |nil=>intro s0 w;simp[Sem.run]
   |cons r l ih=>
    intro s0 w;have:=ih (s0++Utf8.encode r) w;simp only[List.forIn_toArray,List.map_cons,List.forIn_cons,Sem.run_bind,hB,Result.andThen,List.foldl_cons] at this ⊢;exact this
  simp only[exO,execOp,hx b,convert,Sem.run_bind,hs,ht,he,Result.andThen,Conv.runesToString,hl];rw[hfold _ _ rs ByteArray.empty w]
  ·simp[Sem.run_pure,Result.andThen,keyR]
  ·intro n s w;simp[Sem.run]
theorem yl_convR0 {w0:World}{L:Fm}{H:List (Nat × Obj)}{ty s t:TypeId}{x:Operand}{c:Nat}{q:Option Addr}{rs:List Int}(hA:Arr w0 H q 1 encR rs)(hx:Ev L x (.slice q rs.length c))(hs:∀ w,(underlying s).run Tryz.prog w= .ok (.slice 21) w)(ht:∀ w,(underlying t).run Tryz.prog w= .ok .string w):Yl Tryz.prog w0 (.convert s t x) ty L H (.string (keyR rs)):=yl_convR hx hs runUnderlying21 ht hA
theorem yl_cvR {w0:World}{L:Fm}{H:List (Nat × Obj)}{ty t1 t2:TypeId}{x:Operand}{td:TypeDesc}{a:Int}(ha:0≤a∧a<128)(hx:Ev L x (.int .i64 a))(hs:∀ w,(underlying t1).run Tryz.prog w= .ok td w)(ht:∀ w,(underlying t2).run Tryz.prog w= .ok (.int .i32) w):Yl Tryz.prog w0 (.convert t1 t2 x) ty L H (.int .i32 a):=by
 have h:=Iu (P:=Tryz.prog) (w0:=w0) (H:=H) (ty:=ty) hx hs ht;have e:IntKind.i32.wrap a=a:=by
  unfold IntKind.wrap IntKind.bits IntKind.signed;simp;omega
 rwa [e] at h
theorem enc_small {a:Nat}(h:a<128):Utf8.encode (a:Int)=⟨#[UInt8.ofNat a]⟩:=by
 unfold Utf8.encode Utf8.valid;have h1:((decide (0≤(a:Int))&&decide ((a:Int)<0xD800))||(decide (0xE000≤(a:Int))&&decide ((a:Int)≤0x10FFFF)))=true:=by simp;omega
 simp only[h1,if_true,Int.toNat_natCast];rw[if_pos (show a<0x80 by omega)]
theorem key_data:∀ (ls:List Nat),(∀ x∈ls,x<128)→∀ s0:ByteArray,((toInts ls).foldl (fun s n=>s++Utf8.encode n) s0).data.toList=s0.data.toList++ls.map UInt8.ofNat
 |[],_,s0=>by simp[toInts]
 |x::ls,h,s0=>by
  have ih:=key_data ls (fun y hy=>h y (by simp[hy])) (s0++Utf8.encode (x:Int));rw[toInts,List.map_cons,List.foldl_cons];rw[toInts] at ih;rw[ih,enc_small (h x (by simp))];simp
theorem key_inj {a b:List Nat}(ha:∀ x∈a,x<128)(hb:∀ x∈b,x<128)(h:keyR (toInts a)=keyR (toInts b)):a=b:=by
 have h1:=key_data a ha ByteArray.empty;have h2:=key_data b hb ByteArray.empty;have h3:(keyR (toInts a)).data.toList=(keyR (toInts b)).data.toList:=by rw[h]
 unfold keyR at h3;rw[h1,h2] at h3;have h4:a.map UInt8.ofNat=b.map UInt8.ofNat:=List.append_cancel_left h3;clear h h1 h2 h3
 induction a generalizing b with
 |nil=>cases b with
  |nil=>rfl
  |cons y b=>cases h4
 |cons x a ih=>cases b with
  |nil=>cases h4
  |cons y b=>
   simp only[List.map_cons,List.cons.injEq] at h4;have hx:=ha x (by simp);have hy:=hb y (by simp);have e:x=y:=by
    have:=congrArg UInt8.toNat h4.1;simp at this;omega
   rw[e,ih (fun z hz=>ha z (by simp[hz])) (fun z hz=>hb z (by simp[hz])) h4.2]
theorem ti_take {ls:List Nat}{i:Nat}(h:i<ls.length):toInts (ls.take (i+1))=toInts (ls.take i)++[((gd ls i:Nat):Int)]:=by
 rw[Cf h];simp[toInts]
theorem key_s {w0:World}{H:List (Nat × Obj)}(ls:List Nat)(q:Option Addr)(c:Nat)(hA:Arr w0 H q 1 encU ls)(hl:ls.length≤1000000)(hs:∀ x∈ls,x<128):
  FSpec Tryz.prog w0 60 #[.slice q ls.length c] H (Still (.string (keyR (toInts ls))) H):=by
 refine Ap Tryz.func60 U ntmps60 U (rD tb 19 U ?_);refine Ba (X:=Nat × Sl) (V:=fun ⟨i,d⟩=>[(8, .int .i64 (i:Nat)),(3,slV d (toInts (ls.take i)).length)]) (C:=[(6,_),(7,_)]) (G:=fun ⟨i,d⟩=>slH d ((toInts (ls.take i)).flatMap encR) 21++H) (φ:=fun ⟨i,d⟩=>i≤ls.length∧SlOk d (toInts (ls.take i)).length 1) (μ:=fun ⟨i,d⟩=>ls.length - i) (x0:=(0, .nil)) ?_ ⟨Aa rfl,Aa rfl,trivial⟩ ⟨qat,qat,trivial⟩ sb0 ?_
 ·exact⟨Nat.zero_le _,rfl⟩
 rintro⟨i,d⟩ ⟨hi,hd⟩;refine rD tb 6 U ?_;refine Ae (Aa U) (fun c9=> ?_) (fun c9=> ?_)
 ·have hsx:=hs _ (Ag (l:=ls) (i:=i) qom);have he:=ti_take (ls:=ls) (i:=i) qom;refine rC tb 6 U (y_ (Lq U U runUnderlying27 sizeOf3 qom (by first|exact rfl|exact hA.b (i:=i) qom)) ?_ U);refine y_ (Lo U isAgg3 (by first|exact c_o|exact cell1 ((hA.mono sbt).cs (i:=i) qom))) ?_ U;refine rO tb 6 U (y_ (yl_cvR qom (T U) runUnderlying3 runUnderlying21) ?_ U);refine e_ (Ah (.cons (T U) .nil) (zbs175_1_0 _)) ?_ U;rintro _ _ ⟨n15,rfl,rfl⟩;refine e_ (A9 (((gd ls i:Nat):Int)) (by':=4) (enc:=encR) (l:=toInts (ls.take i)) qlc (T rfl) (T rfl) runUnderlying175 runUnderlying175 sizeOf21 typeInfo21 rfl zeroValue21 rfl (fun _=>rfl) rfl hd qde (by simp[toInts];omega)) ?_ rfl;rintro _ _ ⟨d2,rfl,hd2,rfl⟩;refine rO tb 5 U (y_ (Aq (T U) Ao qom) ?_ U);refine rO tb 2 U ?_;refine An ((i+1,d2)) ?_ ?_ ⟨qat,(by first|exact Aa U|(refine Bf (Aa U) (vint ?_);omega)|(refine Bf (Aa U) ?_;simp;done)|(refine Bf (Aa U) ?_;exact by rw[he])),trivial⟩ ⟨Aa U,Aa U,trivial⟩ ?_
  ·exact⟨by omega,by rw[he];exact hd2⟩
  ·first|omega|(simp only[];omega)
  ·show (slH d2 ((toInts (ls.take (i+1))).flatMap encR) 21++_).Sublist _;rw[he];exact sbt
 ·obtain rfl:i=ls.length:=by omega
  refine rC tb 2 U (Af (rX tb 5 U (y_ (yl_convR0 (rs:=toInts (ls.take ls.length)) ((Av (d:=d) (enc:=encR) (sz:=1) (e:=21) (X:=H) (fun _=>rfl) hd).mono sbt) (T U) runUnderlying175 runUnderlying9) (rO tb 4 U (Ai U (Ll U) ?_)) U)));exact⟨_,⟨by rw[List.take_length];rfl,rfl⟩,sbt⟩
abbrev encRt (n:Nn) (f:Flr) (v:Value):List Value:=encNn n++(encFl f++[v])
def rtH (br:Nat) (n:Nn) (f:Flr) (d:Sl) (ld:List Int):List (Nat × Obj):=(br,Cl (encRt n f (slV d ld.length)) 100)::slH d (ld.flatMap encI) 3
structure LdR (n:Nn) (ld:List Int):Prop where
 len:ld.length=n.links.length
 rng:∀ k,k<n.links.length→0≤gd ld k∧gd ld k≤1000000000000000
theorem findF_congr {n:Nn}{f g:Flr}(h1:f.links=g.links)(h2:f.node=g.node)(m:PM)(x y:Nat):findF n f m x y=findF n g m x y:=by
 obtain⟨q,c,l,d⟩:=f;obtain⟨q2,c2,l2,d2⟩:=g;simp only at h1 h2;subst h1 h2;rfl
theorem room_s {w0:World}{H:List (Nat × Obj)}(br:Nat)(n:Nn)(hn:NetR w0 H n)(hcap:∀ x∈n.links,0≤x.cap∧x.cap≤1048576)(f:Flr)(ld:List Int)(hld:LdR n ld)(ql:Option Addr)(cl:Nat)(hr:Fnd H br (Cl (encRt n f (.slice ql ld.length cl)) 100))(hL:Arr w0 H ql 1 encI ld)(k:Nat)(hk:k<n.links.length)(a:Int)(ha:0≤a∧a≤1048576):
  FSpec Tryz.prog w0 115 #[.pointer (some ⟨br,0,none⟩), .int .i64 (k:Int), .int .i64 a] H (Still (.bool (capB n ld k a)) H):=by
 refine Ap Tryz.func115 U ntmps115 U ?_;have hll:=hld.len;have hlr:=hld.rng k hk;have hc:=hcap _ (Ag (l:=n.links) (i:=k) hk);refine rD tb 6 U (Bg 21 [(0,true),(1,true),(2,true),(3,true),(4,true),(5,true),(6,true),(7,true),(8,true),(9,true),(10,true),(11,true),(12,true),(13,true),(14,true),(15,true),(16,true),(17,true),(18,true),(19,true),(20,true)] _ mixd qkr sb0 ?_ A7);refine rP tb 3 U ?_;refine o_y U (Lo U isAgg27 (by first|exact c_o|exact Br (by repeat (first|exact hr|refine Au ?_|refine A2 ?_)) U)) ?_ U Ac;refine rP tb 1 U (o_y U (Lq U U runUnderlying27 sizeOf3 qom (by first|exact rfl|exact hL.b (i:=k) qom)) ?_ U Ac);refine o_y U (Lo U isAgg3 (by first|exact c_o|exact cell1 ((hL.mono sbt).cs (i:=k) qom))) ?_ U Ac;refine rP tb 1 U (o_y U (Aq (T U) (T U) qom) ?_ U Ac);refine rP tb 4 U ?_;refine o_y U (Lo U isAgg23 (by first|exact c_o|exact Br (by repeat (first|exact hr|refine Au ?_|refine A2 ?_)) U)) ?_ U Ac;refine rP tb 1 U (o_y U (Lq U U runUnderlying23 sizeOf61 qom (by first|exact rfl|exact hL.b (i:=k) qom|exact hn.links.b (i:=k) hk)) ?_ U Ac);refine rP tb 1 U (o_y U (Lo U isAgg3 (by first|exact c_o|exact c_m (hn.links.f (i:=k) (j:=2) hk U))) ?_ U Ac);refine o_y U (Ei Ao (T U) qom) ?_ U Ac;refine rP tb 2 U (A5 U (rO tb 3 U (Ai U (Ll U) ?_)));exact⟨_,⟨rfl,rfl⟩,sbt⟩
theorem zbd29_1 (a0:Int)(w:World):(Instr.build 29 #[(1, .int .i64 a0)]).run Tryz.prog w= .ok (.agg #[.slice none 0 0, .int .i64 a0]) w:=by kernel_rfl
theorem zbs27_0_z  (w:World):(Instr.buildSlice 27 0 #[]).run Tryz.prog w= .ok (.slice (some ⟨w.heap.size,0,none⟩) 0 0) (w.alloc (Cl [] 3)):=by kernel_rfl
theorem Hy {n:Nn}{f:Flr}{ld:List Int}{a:Int}{k:Nat}(h:(k:Int)∈f.links∨capB n ld k a=false):fullL n f ld a (k+1)=fullL n f ld a k++[(k:Int)]:=by
 rw[fullL,if_pos h]
theorem fullL_no {n:Nn}{f:Flr}{ld:List Int}{a:Int}{k:Nat}(h: ¬ ((k:Int)∈f.links∨capB n ld k a=false)):fullL n f ld a (k+1)=fullL n f ld a k:=by
 rw[fullL,if_neg h]
theorem D4 {n:Nn}{f:Flr}{ld:List Int}{a:Int}:∀ k,(fullL n f ld a k).length≤k
 |0=>Nat.le_refl _
 |k+1=>by
  have:=D4 (n:=n) (f:=f) (ld:=ld) (a:=a) k;unfold fullL
  split
  ·simp;omega
  ·omega
theorem full_s {w0:World}{H:List (Nat × Obj)}(br:Nat)(n:Nn)(hn:NetR w0 H n)(hok:NnOk n)(hcap:∀ x∈n.links,0≤x.cap∧x.cap≤1048576)(f:Flr)(hf:Arr w0 H f.q 1 encI f.links)(hfl:f.links.length≤1000000)(ld:List Int)(hld:LdR n ld)(ql:Option Addr)(cl:Nat)(hr:Fnd H br (Cl (encRt n f (.slice ql ld.length cl)) 100))(hL:Arr w0 H ql 1 encI ld)(a:Int)(ha:0≤a∧a≤1048576):
  FSpec Tryz.prog w0 113 #[.pointer (some ⟨br,0,none⟩), .int .i64 a] H (fun v H'=>∃ d:Sl,(v= .agg (encFl ⟨slQ d,slC d,fullL n f ld a n.links.length,f.node⟩).toArray∧SlOk d (fullL n f ld a n.links.length).length 1)∧H'=slH d ((fullL n f ld a n.links.length).flatMap encI) 3++H):=by
 refine Ap Tryz.func113 U ntmps113 U ?_;have hfewL:=hok.fewL;refine rD tb 2 U (e_ (Aj zeroValue29 cs_) ?_ U);rintro _ _ ⟨n4,rfl,rfl⟩;refine rO tb 8 U ?_;refine y_ (Lo U isAgg3 (by first|exact c_o|exact Br (by repeat (first|exact hr|refine Au ?_|refine A2 ?_)) U)) ?_ U;refine y_ (Ay (.cons (T U) .nil) (zbd29_1 _)) (e_ (Aj zeroValue29 cs_) ?_ U) U;rintro _ _ ⟨n5,rfl,rfl⟩;refine A0 (Ls U U sizeOf29) U Ac ?_;rintro _ _ ⟨rfl,rfl⟩;refine rO tb 9 U ?_;refine y_ (Lo U isAgg23 (by first|exact c_o|exact Br (by repeat (first|exact hr|refine Au ?_|refine A2 ?_)) U)) ?_ U;refine rO tb 5 U ?_;refine Ba (X:=Nat × Sl) (V:=fun ⟨k,d⟩=>[(19, .int .i64 (k:Nat))]) (C:=[(0,_),(1,_),(4,_),(5,_),(18,_)]) (G:=fun ⟨k,d⟩=>(n5,Cl [slV d (fullL n f ld a k).length, .int .i64 f.node] 29)::(slH d ((fullL n f ld a k).flatMap encI) 3++((n4,Cl [.slice none 0 0, .int .i64 0] 29)::H))) (φ:=fun ⟨k,d⟩=>k≤n.links.length∧SlOk d (fullL n f ld a k).length 1) (μ:=fun ⟨k,d⟩=>n.links.length - k) (x0:=(0, .nil)) ?_ ⟨Aa rfl,Aa rfl,Aa rfl,Aa rfl,Aa rfl,trivial⟩ ⟨qat,trivial⟩ sb0 ?_
 ·exact⟨Nat.zero_le _,rfl⟩
 rintro⟨k,d⟩ ⟨hk,hd⟩;refine rD tb 6 U ?_;refine Ae (Aa U) (fun c20=> ?_) (fun c20=> ?_)
 ·refine rC tb 16 U ?_;refine y_ (Lo U isAgg27 (by first|exact c_o|exact Br (by repeat (first|exact hr|refine Au ?_|refine A2 ?_)) U)) ?_ U;refine rO tb 1 U (y_ (Ax (qe2 U U) call121 (fun H' hs=>hasI_s f.links f.q f.c (k:Int) (hf.mono (stn hs)) qom)) ?_ U);refine rO tb 1 U ?_;refine A4 (s:=29) (Aa U) (fun c29=> ?_) (fun c29=> ?_)
  ·refine rO tb 11 U (y_ (Lo U isAgg27 qco) ?_ U);refine rO tb 1 U (e_ (Ah (.cons (T U) .nil) (Dm _)) ?_ U);rintro _ _ ⟨n39,rfl,rfl⟩;refine e_ (A9 ((k:Int)) (by':=8) (enc:=encI) (l:=fullL n f ld a k) qlc (T U) (T U) runUnderlying27 runUnderlying27 sizeOf3 typeInfo3 U zeroValue3 U (fun _=>rfl) U hd qde (by have:=D4 (n:=n) (f:=f) (ld:=ld) (a:=a) k;omega)) ?_ U;rintro _ _ ⟨d2,rfl,hd2,rfl⟩;refine rO tb 1 U ?_
   first|refine A0 (Ls U U sizeOf27) U Ac ?_|refine A0 (Bt (T U) (T U) U sizeOf27) U Ac ?_|refine A0 (Bl (T U) (T U) U sizeOf27) U Ac ?_
   rintro _ _ ⟨rfl,rfl⟩;refine kO tb 3 [0,1,4,5,18,19] rfl U (rG tb 1 U (y_ (Aq (T U) Ao qom) ?_ U));refine rO tb 2 U ?_;have he:=Hy (n:=n) (f:=f) (ld:=ld) (a:=a) (k:=k) (.inl c29);refine An ((k+1,d2)) ?_ ?_ ⟨qat,trivial⟩ ⟨Aa U,Aa U,Aa U,Aa U,Aa U,trivial⟩ ?_
   ·exact⟨by omega,by rw[he];exact hd2⟩
   ·first|omega|(simp only[];omega)
   ·(show ((n5,Cl [slV d2 (fullL n f ld a (k+1)).length,_] 29)::(slH d2 ((fullL n f ld a (k+1)).flatMap encI) 3++_)).Sublist _;rw[he];exact sbt)
  ·refine rO tb 3 U (A6 (Ax (qe3 U U U) call115 (fun H' hs=>room_s br n (hn.mono (stn hs)) hcap f ld hld ql cl ((stn hs).subset hr) (hL.mono (stn hs)) k qom a ha)) U (Az U U (Aa U)) ?_);refine A6 (Bc (T U)) U (Az U U (Aa U)) ?_;refine rO tb 3 U ?_;refine Ae (Aa U) (fun c35=> ?_) (fun c35=> ?_)
   ·refine rC tb 2 U (y_ (Lo U isAgg27 qco) ?_ U);refine rO tb 1 U (e_ (Ah (.cons (T U) .nil) (Dm _)) ?_ U);rintro _ _ ⟨n39,rfl,rfl⟩;refine e_ (A9 ((k:Int)) (by':=8) (enc:=encI) (l:=fullL n f ld a k) qlc (T U) (T U) runUnderlying27 runUnderlying27 sizeOf3 typeInfo3 U zeroValue3 U (fun _=>rfl) U hd qde (by have:=D4 (n:=n) (f:=f) (ld:=ld) (a:=a) k;omega)) ?_ U;rintro _ _ ⟨d2,rfl,hd2,rfl⟩;refine rO tb 1 U ?_
    first|refine A0 (Ls U U sizeOf27) U Ac ?_|refine A0 (Bt (T U) (T U) U sizeOf27) U Ac ?_|refine A0 (Bl (T U) (T U) U sizeOf27) U Ac ?_
    rintro _ _ ⟨rfl,rfl⟩;refine kO tb 3 [0,1,4,5,18,19] rfl U (rG tb 1 U (y_ (Aq (T U) Ao qom) ?_ U));refine rO tb 2 U ?_;have he:=Hy (n:=n) (f:=f) (ld:=ld) (a:=a) (k:=k) (.inr (decide_eq_false c35));refine An ((k+1,d2)) ?_ ?_ ⟨qat,trivial⟩ ⟨Aa U,Aa U,Aa U,Aa U,Aa U,trivial⟩ ?_
    ·exact⟨by omega,by rw[he];exact hd2⟩
    ·first|omega|(simp only[];omega)
    ·(show ((n5,Cl [slV d2 (fullL n f ld a (k+1)).length,_] 29)::(slH d2 ((fullL n f ld a (k+1)).flatMap encI) 3++_)).Sublist _;rw[he];exact sbt)
   ·refine rC tb 4 U (y_ (Aq (T U) Ao qom) ?_ U);refine rO tb 2 U ?_;have he:=fullL_no (n:=n) (f:=f) (ld:=ld) (a:=a) (k:=k) (by rintro(h|h);exact c29 h;exact c35 (of_decide_eq_false h));refine An ((k+1,d)) ?_ ?_ ⟨qat,trivial⟩ ⟨Aa U,Aa U,Aa U,Aa U,Aa U,trivial⟩ ?_
    ·exact⟨by omega,by rw[he];exact hd⟩
    ·first|omega|(simp only[];omega)
    ·first|(show ((n5,Cl [slV d2 (fullL n f ld a (k+1)).length,_] 29)::(slH d2 ((fullL n f ld a (k+1)).flatMap encI) 3++_)).Sublist _;rw[he];exact sbt)|(show ((n5,Cl [slV d (fullL n f ld a (k+1)).length,_] 29)::(slH d ((fullL n f ld a (k+1)).flatMap encI) 3++_)).Sublist _;rw[he];exact sbt)
 ·obtain rfl:k=n.links.length:=by omega
  refine rC tb 2 U (Af (rX tb 4 U (y_ (Lp U isAgg29 sizeOf29 U qcs) ?_ U)));refine A0 (Ls U U sizeOf29) U Ac ?_;rintro _ _ ⟨rfl,rfl⟩;refine rO tb 3 U (Ai U (.cellA (Aa U) isAgg29 sizeOf29 U qcs .nil) ?_);exact⟨_,⟨d,⟨rfl,hd⟩,rfl⟩,sbt⟩
theorem clone_s {w0:World}{H:List (Nat × Obj)}(ld:List Int)(q:Addr)(c:Nat)(hL:Arr w0 H (some q) 1 encI ld)(hl:ld.length≤1000000):
  FSpec Tryz.prog w0 155 #[.slice (some q) ld.length c] H (fun v H'=>∃ d:Sl,(v=slV d ld.length∧SlOk d ld.length 1)∧H'=slH d (ld.flatMap encI) 3++H):=by
 refine Ap Tryz.func155 U ntmps155 U (rD tb 9 U (y_ (yl_eqSN (T U) Ao) (rO tb 7 U (e_ (Ah .nil (zbs27_0_z)) ?_ U)) U));rintro _ _ ⟨n5,rfl,rfl⟩;refine rO tb 1 U (e_ (Gk (ld) (by':=8) (by exact rfl) (by repeat (first|exact locH1|exact LocL.h|apply LocL.t|apply LocL.a)) (T U) (T U) runUnderlying27 runUnderlying27 sizeOf3 typeInfo3 U zeroValue3 U (fun _=>rfl) (fun _=>rfl) qde qom ((hL.mono sbt))) ?_ U);rintro _ _ ⟨d2,rfl,hd2,rfl⟩;refine rO tb 4 U (Ai U (Ll U) ?_);exact⟨_,⟨d2,⟨rfl,hd2⟩,rfl⟩,sbt⟩
theorem perm_mid (A R H:List (Nat × Obj)):(A++(R++H)).Perm (R++(A++H)):=by
 rw[← List.append_assoc,← List.append_assoc];exact List.perm_append_comm.append_right H
theorem perm_mid3 (A B R H:List (Nat × Obj))(e5 e4:Nat × Obj):(A++(B++(e5::e4::(R++H)))).Perm (R++(A++(B++(e5::e4::H)))):=by
 have h:=perm_mid (A++(B++[e5,e4])) R H
 simpa only[List.append_assoc,List.cons_append,List.nil_append] using h
theorem takeF_cons (n:Nn)(a:Int)(k:Nat)(ks:List Nat)(ld:List Int):takeF n a (k::ks) ld=if capB n ld k a then takeF n a ks (ld.set k (gd ld k+a)) else none:=rfl
theorem cap_le {n:Nn}(hcap:∀ x∈n.links,0≤x.cap∧x.cap≤1048576){ld:List Int}(hld:LdR n ld){k:Nat}(hk:k<n.links.length){a:Int}(ha:0≤a)(h:capB n ld k a=true):LdR n (ld.set k (gd ld k+a)):=by
 have h1:gd ld k+a≤16*(gd n.links k).cap:=of_decide_eq_true h;have h2:=hcap _ (Ag (l:=n.links) hk);have h3:=hld.rng k hk;refine⟨by rw[List.length_set,hld.len],fun j hj=> ?_⟩
 by_cases e:k=j
 ·subst e;rw[Ar (by rw[List.length_set,hld.len];exact hk),List.getElem_set_self];omega
 ·rw[F5 e];exact hld.rng j hj
theorem take_s {w0:World}{H:List (Nat × Obj)}(br:Nat)(n:Nn)(hn:NetR w0 H n)(hok:NnOk n)(hcap:∀ x∈n.links,0≤x.cap∧x.cap≤1048576)(f:Flr)(hf:Arr w0 H f.q 1 encI f.links)(hfl:f.links.length≤1000000)(ld:List Int)(hld:LdR n ld)(b:Nat)(ls:List Nat)(q:Option Addr)(c:Nat)(hA:Arr w0 H q 1 encU ls)(hl:ls.length≤1000000)(hlt:∀ x∈ls,x<n.links.length)(a:Int)(ha:0≤a∧a≤1048576):
  FSpec Tryz.prog w0 114 #[.pointer (some ⟨br,0,none⟩), .slice q ls.length c, .int .i64 a] (rtH br n f (Sl.blk b ld.length []) ld++H) (fun v H'=>∃ y:Sl,(v= .bool (takeF n a ls ld).isSome∧SlOk y ld.length 1∧((takeF n a ls ld).isSome=true→y=(Sl.blk b ld.length [])))∧H'=rtH br n f y ((takeF n a ls ld).getD ld)++H):=by
 refine Ap Tryz.func114 U ntmps114 U ?_;have hfewL:=hok.fewL;have hll:=hld.len;unfold rtH;rw[List.cons_append];refine rD tb 10 U (y_ (Lo U isAgg27 qco) ?_ U);refine e_ (Am (qe1 U) call155 (clone_s ld ⟨b,0,none⟩ ld.length ((Av (w0:=w0) (d:=(Sl.blk b ld.length [])) (enc:=encI) (sz:=1) (e:=3) (l:=ld) (X:=H) (fun _=>rfl) (show SlOk (Sl.blk b ld.length []) ld.length 1 from ⟨Nat.le_refl _,by simp⟩)).mono sbt) qom)) ?_ U;rintro _ _ ⟨dc,⟨rfl,hdc⟩,rfl⟩;refine rO tb 12 U ?_;refine Ba (X:=Nat × List Int) (V:=fun ⟨i,l2⟩=>[(17, .int .i64 (i:Nat))]) (C:=[(0,_),(2,_),(7,_),(15,_),(16,_)]) (G:=fun ⟨i,l2⟩=>slH dc (ld.flatMap encI) 3++((br,Cl (encRt n f (slV (Sl.blk b ld.length []) ld.length)) 100)::(slH (Sl.blk b ld.length []) (l2.flatMap encI) 3++H))) (φ:=fun ⟨i,l2⟩=>i≤ls.length∧l2.length=ld.length∧LdR n l2∧takeF n a ls ld=takeF n a (ls.drop i) l2) (μ:=fun ⟨i,l2⟩=>ls.length - i) (x0:=(0,ld)) ?_ ⟨Aa rfl,Aa rfl,Aa rfl,Aa rfl,Aa rfl,trivial⟩ ⟨qat,trivial⟩ sb0 ?_
 ·exact⟨Nat.zero_le _,rfl,hld,rfl⟩
 rintro⟨i,l2⟩ ⟨hi,hl2,hlr2,htk⟩;refine rD tb 6 U ?_;refine Ae (Aa U) (fun c18=> ?_) (fun c18=> ?_)
 ·have hxs:=hlt _ (Ag (l:=ls) (i:=i) qom);have hdr:ls.drop i=(gd ls i)::ls.drop (i+1):=by rw[List.drop_eq_getElem_cons qom,Ar qom]
  rw[hdr,takeF_cons] at htk;have hlv:=hlr2.rng _ hxs;refine rC tb 6 U (y_ (Lq U U runUnderlying27 sizeOf3 qom (by first|exact rfl|exact hA.b (i:=i) qom)) ?_ U);refine y_ (Lo U isAgg3 (by first|exact c_o|exact cell1 ((hA.mono sbt).cs (i:=i) qom))) ?_ U;refine rO tb 9 U ?_;refine y_ (Ax (qe3 U U U) call115 (fun H' hs=>room_s br n (hn.mono (stn hs)) hcap f l2 hlr2 (some ⟨b,0,none⟩) ld.length (hs.subset (by rw[hl2];exact fdd)) ((Av (w0:=w0) (d:=(Sl.blk b ld.length [])) (enc:=encI) (sz:=1) (e:=3) (l:=l2) (X:=H) (fun _=>rfl) (by rw[hl2];exact(show SlOk (Sl.blk b ld.length []) ld.length 1 from ⟨Nat.le_refl _,by simp⟩))).mono (stn hs)) (gd ls i) hxs a ha)) ?_ U;refine A6 (Bc (T U)) U Ac ?_;refine rO tb 2 U ?_;refine Ae (Aa U) (fun c25=> ?_) (fun c25=> ?_)
  ·have hno:takeF n a ls ld=none:=by rw[htk,if_neg (by rw[show capB n l2 (gd ls i) a=false from decide_eq_false c25];decide)]
   refine rC tb 6 U (e_ (Bl (T U) (T U) U sizeOf27) ?_ U);rintro _ _ ⟨rfl,rfl⟩;refine El List.perm_middle (rO tb 11 U (Aw (rX tb 2 U (Ai U (Ll U) ?_))));rw[hno];exact⟨_,⟨dc,⟨rfl,hdc,fun h=>by cases h⟩,rfl⟩,sbt⟩
  ·have hcb:capB n l2 (gd ls i) a=true:=decide_eq_true (Classical.not_not.1 c25);rw[if_pos hcb] at htk;refine rC tb 6 U (y_ (Lo U isAgg27 qco) ?_ U);refine rO tb 1 U (y_ (Lq U U runUnderlying27 sizeOf3 qom (by exact rfl)) ?_ U);refine y_ (Lo U isAgg3 (by first|exact c_o|exact cell1 (((Av (w0:=w0) (d:=(Sl.blk b ld.length [])) (enc:=encI) (sz:=1) (e:=3) (l:=l2) (X:=H) (fun _=>rfl) (by rw[hl2];exact(show SlOk (Sl.blk b ld.length []) ld.length 1 from ⟨Nat.le_refl _,by simp⟩))).mono sbt).cs (i:=(gd ls i)) qom))) ?_ U;refine rO tb 1 U (y_ (Aq (T U) (T U) qom) ?_ U);refine y_ (Lq U U runUnderlying27 sizeOf3 qom (by exact rfl)) ?_ U;refine e_ (Bx (d:=(Sl.blk b ld.length [])) (l:=l2) (e:=3) (enc:=encI) (sz:=1) (i:=(gd ls i)) (gd l2 (gd ls i)+a) (fun _=>rfl) qlc (T U) (T U) (.one U) U sizeOf3 qom (by rw[hl2];exact(show SlOk (Sl.blk b ld.length []) ld.length 1 from ⟨Nat.le_refl _,by simp⟩))) ?_ U;rintro _ _ ⟨rfl,rfl⟩;refine rO tb 4 U (y_ (Aq (T U) Ao qom) ?_ U);refine rO tb 2 U ?_;refine An ((i+1,l2.set (gd ls i) (gd l2 (gd ls i)+a))) ?_ ?_ ⟨qat,trivial⟩ ⟨Aa U,Aa U,Aa U,Aa U,Aa U,trivial⟩ ?_
   ·exact⟨by omega,by rw[List.length_set,hl2],cap_le hcap hlr2 hxs ha.1 hcb,htk⟩
   ·first|omega|(simp only[];omega)
   ·exact sbt
 ·refine rC tb 2 U (Af (rX tb 8 U (Ai U (Ll U) ?_)));have hyes:takeF n a ls ld=some l2:=by rw[htk,List.drop_of_length_le qom];rfl
  rw[hyes];exact⟨_,⟨(Sl.blk b ld.length []),⟨rfl,(show SlOk (Sl.blk b ld.length []) ld.length 1 from ⟨Nat.le_refl _,by simp⟩),fun _=>rfl⟩,by show _=(br,Cl (encRt n f (slV (Sl.blk b ld.length []) l2.length)) 100)::(slH (Sl.blk b ld.length []) (l2.flatMap encI) 3++H);rw[hl2]⟩,sbt⟩
theorem find_lt {n:Nn}(hok:NnOk n){f:Flr}{o:Odr}(ho:OdrOk n o){ld:List Int}{a:Int}{l:List Nat}(h:findF n (fullF n f ld a) (mOf o.e) o.x o.y=(l,0)):holdsF n f o.e o.x o.y (toInts l)=true∧∀ k∈l,k<n.links.length:=by
 have h1:=(find_yes hok ho.mce ho.x (by rw[h])).1;rw[h] at h1;have h2:=holds_full h1;refine⟨h2,fun k hk=> ?_⟩;have:=(Ee h2 (k:Int) (List.mem_map.2 ⟨k,hk,rfl⟩)).2.1;omega
theorem Jh {n:Nn}{f:Flr}{o:Odr}{ld:List Int}{l:List Nat}(h:findF n (fullF n f ld o.amt) (mOf o.e) o.x o.y=(l,0)):partF n f o ld=(takeF n o.amt l ld).map fun ld'=>(l,ld'):=by
 unfold partF;rw[h];simp
theorem J7 {n:Nn}{f:Flr}{o:Odr}{ld:List Int}{l:List Nat}{c:Int}(h:findF n (fullF n f ld o.amt) (mOf o.e) o.x o.y=(l,c))(hc: ¬ c=0):partF n f o ld=none:=by
 unfold partF;rw[h];simp[hc]
theorem part_s {w0:World}{H:List (Nat × Obj)}(br:Nat)(n:Nn)(hn:NetR w0 H n)(hok:NnOk n)(hcap:∀ x∈n.links,0≤x.cap∧x.cap≤1048576)(f:Flr)(hf:Arr w0 H f.q 1 encI f.links)(hfl:f.links.length≤1000000)(o:Odr)(ho:OdrOk n o)(om:Om)(hod:OdR om o)(ld:List Int)(hld:LdR n ld)(m:Mc)(hm:McOk w0 H m)(hmpl:m.pl=mOf o.e)(b:Nat)(l:List Nat)(c:Int)(hlc:findF n (fullF n f ld o.amt) (mOf o.e) o.x o.y=(l,c))(hln:l.length≤1000000):
  FSpec Tryz.prog w0 58 #[.pointer (some ⟨br,0,none⟩), .agg (encOm om).toArray, .agg (encMc m).toArray] (rtH br n f (Sl.blk b ld.length []) ld++H) (fun v H'=>∃ y:Sl × Sl,(v= .tuple #[slV y.1 l.length, .bool (partF n f o ld).isSome]∧SlOk y.1 l.length 1∧SlOk y.2 ld.length 1∧((partF n f o ld).isSome=true→y.2=(Sl.blk b ld.length [])))∧H'=(rtH br n f y.2 ((partF n f o ld).elim ld (·.2))++slH y.1 (l.flatMap encU) 3)++H):=by
 refine Ap Tryz.func58 U ntmps58 U ?_;have hfewL:=hok.fewL;have hmce:=ho.mce;have hpm:PMok m.pl:=by rw[hmpl];exact hmce.ok
 have hsr:Srt m.names:=show Srt m.pl.names by rw[hmpl];exact hmce.sr
 have hnl:m.names.length≤4611686018427387903:=(show m.pl.names.length≤4611686018427387903 by rw[hmpl];exact Nat.le_trans ho.nm qom);have hr:=(show Fnd (rtH br n f (Sl.blk b ld.length []) ld++H) br (Cl (encRt n f (slV (Sl.blk b ld.length []) ld.length)) 100) from A3);have hL:=(show Arr w0 (rtH br n f (Sl.blk b ld.length []) ld++H) (slQ (Sl.blk b ld.length [])) 1 encI ld from (Av (w0:=w0) (d:=(Sl.blk b ld.length [])) (enc:=encI) (sz:=1) (l:=ld) (X:=H) (e:=3) (fun _=>rfl) (show SlOk (Sl.blk b ld.length []) ld.length 1 from ⟨Nat.le_refl _,by simp⟩)).mono (List.Sublist.cons (br,Cl (encRt n f (slV (Sl.blk b ld.length []) ld.length)) 100) (List.Sublist.refl _)));have hox:=ho.x;have hoa:0≤o.amt∧o.amt≤1048576:=⟨ho.a0,ho.a1⟩;rw[hod.eq];refine rD tb 2 U (e_ (Lt U cs_) ?_ U);rintro _ _ ⟨n4,rfl,rfl⟩;refine e_ (Lt U cs_) ?_ U;rintro _ _ ⟨n5,rfl,rfl⟩;refine rO tb 5 U (Bg 19 [(0,true),(1,true),(2,true),(3,true),(4,true),(5,true),(6,true),(8,true),(9,true),(10,true),(11,true),(12,true),(7,false),(13,false),(14,true),(15,true),(16,true),(17,true),(18,true)] _ mixd qkr sb0 ?_ A7);refine rP tb 3 U ?_;refine o_y U (Lp U isAgg26 sizeOf26 U (by exact Bj (l:=encRt n f (slV (Sl.blk b ld.length []) ld.length)) (o:=0) (k:=3) (by repeat (first|exact hr|refine Au ?_|refine A2 ?_)))) ?_ U Ac;refine rP tb 2 U (o_y U (Lo U isAgg3 qco) ?_ U Ac);refine o_y U (Lp U isAgg68 sizeOf68 U qcs) ?_ U Ac;refine rP tb 1 U (o_y U (Lo U isAgg3 qco) ?_ U Ac);refine rP tb 1 U (o_y U (Lo U isAgg3 qco) ?_ U Ac);refine o_e U (Am (qe2 U U) call113 (full_s br n (hn.mono sbt) hok hcap f (hf.mono sbt) hfl ld hld (slQ (Sl.blk b ld.length [])) (slC (Sl.blk b ld.length [])) (by repeat (first|exact hr|refine Au ?_|refine A2 ?_)) (hL.mono sbt) o.amt hoa)) ?_ U Ac;rintro _ _ ⟨dF,⟨rfl,hdF⟩,rfl⟩;have hfll:=D4 (n:=n) (f:=f) (ld:=ld) (a:=o.amt) n.links.length;refine⟨sbt,(o_e U (Am (.cons (T U) (.cons (T U) (.cons (T U) (.cons (T U) (.cons (T U) .nil))))) call36 (findE_s n ⟨slQ dF,slC dF,fullL n f ld o.amt n.links.length,f.node⟩ m ⟨hn.mono sbt,(Av (w0:=w0) (d:=dF) (enc:=encI) (sz:=1) (e:=3) (fun _=>rfl) hdF).mono sbt,hm.mono sbt⟩ ⟨hok,by show (fullL n f ld o.amt n.links.length).length≤_;omega,hpm,hsr,hnl⟩ o.x hox o.y (l:=l) (c:=c) (hf:=(findF_congr (f:=⟨slQ dF,slC dF,fullL n f ld o.amt n.links.length,f.node⟩) (g:=fullF n f ld o.amt) U U m.pl o.x o.y).trans (by rw[hmpl];exact hlc)))) ?_ U Ac)⟩;rintro _ _ ⟨dK,⟨rfl,hdK⟩,rfl⟩;refine⟨sbt,(rP tb 5 U (A5 U (rO tb 4 U (y_ (Bp (T U)) (El (perm_mid3 (slH dK (l.flatMap encU) 3) (slH dF ((fullL n f ld o.amt n.links.length).flatMap encI) 3) (rtH br n f (Sl.blk b ld.length []) ld) H _ _) (rO tb 3 U ?_)) U))))⟩;refine A4 (s:=30) (Aa U) (fun c30=> ?_) (fun c30=> ?_)
 ·have hc0:c=0:=c30;subst hc0;rw[Jh hlc];refine rO tb 3 U (A6 (Lo U isAgg3 qco) U (Az U U (Aa U)) ?_);refine A0 (Am (qe3 U U U) call114 (A8 (rtH br n f (Sl.blk b ld.length []) ld) .h (take_s br n (hn.mono sbt) hok hcap f (hf.mono sbt) hfl ld hld b l (slQ dK) (slC dK) ((Av (w0:=w0) (d:=dK) (enc:=encU) (sz:=1) (e:=3) (X:=[]) (fun _=>rfl) hdK).mono (by rw[List.append_nil];exact List.sublist_append_left _ _)) hln (find_lt hok ho hlc).2 o.amt hoa))) U (Az U U (Aa U)) ?_;rintro _ _ ⟨dy,⟨rfl,hdy,hdb⟩,rfl⟩;refine kO tb 5 [6,7] rfl U (rG tb 1 U (Ai U (.tmp (Aa U) (Ll U)) ?_));have he:(takeF n o.amt l ld).getD ld=((takeF n o.amt l ld).map fun ld'=>(l,ld')).elim ld (·.2):=by cases takeF n o.amt l ld<;>rfl
  simp only[he];exact⟨_,⟨(dK,dy),⟨by rw[Option.isSome_map];rfl,hdK,hdy,fun h=>hdb (by simpa using h)⟩,rfl⟩,by rw[List.append_assoc];exact sbt⟩
 ·rw[J7 hlc c30];refine kO tb 10 [6,7] rfl U (rG tb 1 U (Ai U (.tmp (Aa U) (Ll U)) ?_));exact⟨_,⟨(dK,(Sl.blk b ld.length [])),⟨rfl,hdK,(show SlOk (Sl.blk b ld.length []) ld.length 1 from ⟨Nat.le_refl _,by simp⟩),fun h=>by cases h⟩,rfl⟩,by rw[List.append_assoc];exact sbt⟩
end Go.Proofs.YtpkijiejccngcaaGreatDoor
