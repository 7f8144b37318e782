/-
  A part of what LawG rests on: the logic, walks and plain laws. No condition.
-/
import Derived.Test.YtpkijiejccngcaaGreatDoorPG4
import Derived.Test.YtpkijiejccngcaaGreatDoorRows
import Derived.WalkKit
import Derived.ProofKit
import Derived.OpenShut
import Derived.Lib.SmallJoins
import Derived.Deep.SlicePairs
import Derived.Shelf.SlSortCmp.WholeK
import Derived.Shelf.SlSortCmp.NoneTotal
namespace Go.Proofs.YtpkijiejccngcaaGreatDoor
open _root_.Go.Proofs.Tryz
open Go.RowKit
set_option linter.unusedVariables false
set_option linter.unusedSimpArgs false
set_option linter.unusedSectionVars false
set_option maxRecDepth 100000
def cstN (pr:List Int) (ls:List Nat):Int:=sI ls fun k=>gd pr k
structure Cert (ts:Pl→List (Pl × Nat)) (pr:List Int) (p0:Pl) (L:Pl→Int→Prop):Prop where
 start:L p0 0
 step:∀ p c,L p c→∀ x∈ts p,∃ d,L x.1 d∧d≤c+gd pr x.2
 ach:∀ p c,L p c→∃ ls,Chn ts p0 ls p∧cstN pr ls=c
theorem Cert.low {ts:Pl→List (Pl × Nat)}{pr:List Int}{p0:Pl}{L:Pl→Int→Prop}(h:Cert ts pr p0 L){ls:List Nat}{q:Pl}(hc:Chn ts p0 ls q):∃ d,L q d∧d≤cstN pr ls:=by
 induction hc with
 |nil=>exact⟨0,h.start,by simp[cstN,sI]⟩
 | @snoc ls q r l hc hm ih=>
  obtain⟨d,h1,h2⟩:=ih;obtain⟨e,h3,h4⟩:=h.step q d h1 _ hm;refine⟨e,h3,?_⟩;unfold cstN at *;rw[Fl];simp only[sI];simp only at h4;omega
def BestIs (L:Pl→Int→Prop) (fnd:Pl→Bool):Option Int→Prop
 |none=>∀ p d,fnd p=true→¬ L p d
 |some c=>(∃ p,fnd p=true∧L p c)∧∀ p d,fnd p=true→L p d→c≤d
abbrev RS:=List (Pl × Int) × List Pl
def rlx (pr:List Int) (p:Pl) (s:RS) (x:Pl × Nat):RS:=
 match look s.1 p,look s.1 x.1 with
 |some cp,none=>(upsert s.1 x.1 (cp+gd pr x.2),s.2++[x.1])
 |some cp,some d=>if cp+gd pr x.2<d then (upsert s.1 x.1 (cp+gd pr x.2),s.2++[x.1]) else s
 |none,_=>s
def rlxs (pr:List Int) (p:Pl) (s:RS) (l:List (Pl × Nat)):RS:=l.foldl (rlx pr p) s
section
variable {K:Type} [DecidableEq K]
theorem F5 {l:List (K × Int)}{k:K}{v:Int}(h:look l k=some v):(k,v)∈l:=by
 induction l with
 |nil=>cases h
 |cons e l ih=>
  rw[By] at h
  split at h
  ·rename_i he;obtain⟨a,b⟩:=e;simp at he h;subst he h;simp
  ·exact List.mem_cons_of_mem _ (ih h)
theorem look_some {l:List (K × Int)}{k:K}(h:k∈l.map (·.1)):∃ v,look l k=some v:=by
 induction l with
 |nil=>cases h
 |cons e l ih=>
  rw[By]
  split
  ·exact⟨_,rfl⟩
  ·rename_i he;rw[List.map_cons,List.mem_cons] at h;rcases h with h|h
   ·exact absurd h.symm he
   ·exact ih h
theorem upsert_none {l:List (K × Int)}{k:K}(v:Int)(h:look l k=none):upsert l k v=l++[(k,v)]:=by
 unfold look at h;unfold upsert;cases hf:findI k l 0 with
 |none=>rfl
 |some p=>rw[hf] at h;cases h
theorem keys_upsert {l:List (K × Int)}{k:K}(v:Int){d:Int}(h:look l k=some d):(upsert l k v).map (·.1)=l.map (·.1):=by
 induction l with
 |nil=>cases h
 |cons e l ih=>
  rw[By] at h;rw[D7]
  split
  ·rename_i he;simp[he]
  ·rename_i he;rw[if_neg he] at h;simp[ih h]
theorem sum_upsert {l:List (K × Int)}{k:K}(v:Int){d:Int}(h:look l k=some d):sI (upsert l k v) (·.2)=sI l (·.2) - d+v:=by
 induction l with
 |nil=>cases h
 |cons e l ih=>
  rw[By] at h;rw[D7]
  split
  ·rename_i he;rw[if_pos he] at h;simp at h;simp only[sI];omega
  ·rename_i he;rw[if_neg he] at h;simp only[sI];rw[ih h];omega
end
structure RI (ts:Pl→List (Pl × Nat)) (pr:List Int) (p0:Pl) (Pd:Pl→Prop) (N:Nat) (p:Pl) (rest:List (Pl × Nat)) (s:RS):Prop where
 nd:(s.1.map (·.1)).Nodup
 ok:∀ e∈s.1,Pd e.1
 start:look s.1 p0=some 0
 ach:∀ q c,look s.1 q=some c→∃ ls,Chn ts p0 ls q∧cstN pr ls=c
 rng:∀ e∈s.1,0≤e.2∧e.2≤1048576*((s.1.length:Int) - 1)
 que:∀ q∈s.2,∃ c,look s.1 q=some c
 cls:∀ q c,look s.1 q=some c→q∉s.2→∀ x∈ts q,(q=p∧x∈rest)∨∃ d,look s.1 x.1=some d∧d≤c+gd pr x.2
def phi (N:Nat) (s:RS):Int:=((N:Int) - s.1.length)*(1048576*N+1)+sI s.1 (·.2)
theorem look_pr {l:List (Pl × Int)}{q:Pl}{c:Int}{b:Int}(h:look l q=some c)(hr:∀ e∈l,0≤e.2∧e.2≤b):0≤c∧c≤b:=hr _ (F5 h)
theorem RI.few {ts:Pl→List (Pl × Nat)}{pr:List Int}{p0:Pl}{Pd:Pl→Prop}{N:Nat}{p:Pl}{rest:List (Pl × Nat)}{s:RS}(h:RI ts pr p0 Pd N p rest s)(hN:∀ l:List Pl,l.Nodup→(∀ p∈l,Pd p)→l.length≤N):s.1.length≤N:=by
 have:=hN _ h.nd fun q hq=>by
  obtain⟨e,he,rfl⟩:=List.mem_map.1 hq;exact h.ok e he
 simpa using this
theorem cst_snoc (pr:List Int)(ls:List Nat)(k:Nat):cstN pr (ls++[k])=cstN pr ls+gd pr k:=by
 unfold cstN;rw[Fl];simp[sI]
theorem RI.low {ts:Pl→List (Pl × Nat)}{pr:List Int}{p0:Pl}{Pd:Pl→Prop}{N:Nat}{p:Pl}{x:Pl × Nat}{rest:List (Pl × Nat)}{s:RS}(h:RI ts pr p0 Pd N p (x::rest) s)(hN:∀ l:List Pl,l.Nodup→(∀ p∈l,Pd p)→l.length≤N)
  (hx:x∈ts p) (hpx:Pd x.1) (hpr:0≤gd pr x.2∧gd pr x.2≤1048576) {cp:Int} (hp:look s.1 p=some cp) (hl:∀ d,look s.1 x.1=some d→cp+gd pr x.2<d):
  RI ts pr p0 Pd N p rest (upsert s.1 x.1 (cp+gd pr x.2),s.2++[x.1])∧phi N (upsert s.1 x.1 (cp+gd pr x.2),s.2++[x.1])+1≤phi N s:=by
 have hcp:=look_pr hp h.rng;have hlen:=h.few hN
 -- what is in the map then
 have hmem:∀ e∈upsert s.1 x.1 (cp+gd pr x.2),e=(x.1,cp+gd pr x.2)∨e∈s.1:=fun e he=>by
  unfold upsert at he
  split at he
  ·rename_i i v hf;rcases List.mem_or_eq_of_mem_set he with h1|h1
   ·exact .inr h1
   ·exact .inl h1
  ·rw[List.mem_append,List.mem_singleton] at he;exact he.symm
 have hmono:∀ q c,look s.1 q=some c→∃ d,look (upsert s.1 x.1 (cp+gd pr x.2)) q=some d∧d≤c:=fun q c hq=>by
  rw[Ck]
  by_cases e:x.1=q
  ·subst e;rw[if_pos rfl];exact⟨_,rfl,by have:=hl _ hq;omega⟩
  ·rw[if_neg e];exact⟨c,hq,Int.le_refl _⟩
 have key:((upsert s.1 x.1 (cp+gd pr x.2)).map (·.1)).Nodup∧s.1.length≤(upsert s.1 x.1 (cp+gd pr x.2)).length∧(∀ e∈upsert s.1 x.1 (cp+gd pr x.2),0≤e.2∧e.2≤1048576*(((upsert s.1 x.1 (cp+gd pr x.2)).length:Int) - 1))∧phi N (upsert s.1 x.1 (cp+gd pr x.2),s.2++[x.1])+1≤phi N s:=by
  cases hd:look s.1 x.1 with
  |none=>
   have hu:=upsert_none (cp+gd pr x.2) hd;have hnew:((s.1++[(x.1,cp+gd pr x.2)]).map (·.1)).Nodup:=by
    rw[List.map_append,List.map_cons,List.map_nil];refine List.nodup_append.2 ⟨h.nd,by simp,fun a ha b hb=> ?_⟩;simp at hb;subst hb;rintro rfl;obtain⟨v,hv⟩:=look_some ha;rw[hd] at hv;cases hv
   have hlen1:s.1.length+1≤N:=by
    have:=hN _ hnew fun q hq=>by
     obtain⟨e,he,rfl⟩:=List.mem_map.1 hq;rcases List.mem_append.1 he with he|he
     ·exact h.ok e he
     ·simp at he;subst he;exact hpx
    simpa using this
   rw[hu];refine⟨hnew,by simp,fun e he=> ?_,?_⟩
   ·rw[List.length_append,List.length_singleton];rcases List.mem_append.1 he with he|he
    ·have:=h.rng e he;omega
    ·simp at he;subst he;simp only[];omega
   ·unfold phi;rw[Fl,List.length_append];simp only[sI,List.length_singleton];have e1:((N:Int) - ((s.1.length+1:Nat):Int))*(1048576*N+1)=((N:Int) - s.1.length)*(1048576*N+1) - (1048576*N+1):=by
     rw[show ((s.1.length+1:Nat):Int)=(s.1.length:Int)+1 by omega,← Int.sub_sub,Int.sub_mul _ 1,Int.one_mul]
    rw[e1];omega
  |some d=>
   have hk:=keys_upsert (cp+gd pr x.2) hd;have hll:(upsert s.1 x.1 (cp+gd pr x.2)).length=s.1.length:=by
    have:=congrArg List.length hk
    simpa using this
   have hlt:=hl d hd;have hdr:=look_pr hd h.rng;refine⟨by rw[hk];exact h.nd,by omega,fun e he=> ?_,?_⟩
   ·rw[hll];rcases hmem e he with rfl|he
    ·simp only[];omega
    ·exact h.rng e he
   ·unfold phi;simp only[hll];rw[sum_upsert _ hd];omega
 obtain⟨k1,k2,k3,k4⟩:=key;refine⟨⟨k1,fun e he=> ?_,?_,fun q c hq=> ?_,k3,fun q hq=> ?_,fun q c hq hn y hy=> ?_⟩,k4⟩
 ·rcases hmem e he with rfl|he
  ·exact hpx
  ·exact h.ok e he
 ·show look (upsert s.1 x.1 _) p0=_;rw[Ck]
  by_cases e:x.1=p0
  ·have:=hl 0 (by rw[e];exact h.start);omega
  ·rw[if_neg e];exact h.start
 ·change look (upsert s.1 x.1 (cp+gd pr x.2)) q=some c at hq
  rw[Ck] at hq
  split at hq
  ·rename_i e;subst e;obtain rfl:=Option.some.inj hq;obtain⟨ls,h1,h2⟩:=h.ach p cp hp;exact⟨ls++[x.2], .snoc h1 hx,by rw[cst_snoc,h2]⟩
  ·exact h.ach q c hq
 ·rw[List.mem_append,List.mem_singleton] at hq;show ∃ c,look (upsert s.1 x.1 _) q=_;rcases hq with hq|rfl
  ·obtain⟨c,hc⟩:=h.que q hq;obtain⟨d,hd,_⟩:=hmono q c hc;exact⟨d,hd⟩
  ·rw[Ck,if_pos rfl];exact⟨_,rfl⟩
 ·change look (upsert s.1 x.1 (cp+gd pr x.2)) q=some c at hq
  change q∉s.2++[x.1] at hn
  rw[List.mem_append,List.mem_singleton,not_or] at hn;rw[Ck,if_neg (fun e=>hn.2 e.symm)] at hq;rcases h.cls q c hq hn.1 y hy with ⟨h1,h2⟩|⟨d,h1,h2⟩
  ·rw[List.mem_cons] at h2;rcases h2 with rfl|h2
   ·right;subst h1;rw[hp] at hq;obtain rfl:=Option.some.inj hq;refine⟨_,by show look (upsert s.1 y.1 _) y.1=_;rw[Ck,if_pos rfl],Int.le_refl _⟩
   ·exact .inl ⟨h1,h2⟩
  ·right;obtain⟨d',h3,h4⟩:=hmono y.1 d h1;exact⟨d',h3,by omega⟩
theorem RI.stay {ts:Pl→List (Pl × Nat)}{pr:List Int}{p0:Pl}{Pd:Pl→Prop}{N:Nat}{p:Pl}{x:Pl × Nat}{rest:List (Pl × Nat)}{s:RS}(h:RI ts pr p0 Pd N p (x::rest) s){cp d:Int}(hp:look s.1 p=some cp)(hd:look s.1 x.1=some d)(hl:d≤cp+gd pr x.2):RI ts pr p0 Pd N p rest s:=
 ⟨h.nd,h.ok,h.start,h.ach,h.rng,h.que,fun q c hq hn y hy=>by
  rcases h.cls q c hq hn y hy with ⟨h1,h2⟩|h1
  ·rw[List.mem_cons] at h2;rcases h2 with rfl|h2
   ·subst h1;rw[hp] at hq;obtain rfl:=Option.some.inj hq;exact .inr ⟨d,hd,hl⟩
   ·exact .inl ⟨h1,h2⟩
  ·exact .inr h1⟩
theorem RI.all {ts:Pl→List (Pl × Nat)}{pr:List Int}{p0:Pl}{Pd:Pl→Prop}{N:Nat}(hN:∀ l:List Pl,l.Nodup→(∀ p∈l,Pd p)→l.length≤N)(hts:∀ p,Pd p→∀ x∈ts p,Pd x.1)(hpr:∀ p,∀ x∈ts p,0≤gd pr x.2∧gd pr x.2≤1048576){p:Pl}:
  ∀ (done rest:List (Pl × Nat)) {s:RS},ts p=done++rest→(∃ c,look s.1 p=some c)→RI ts pr p0 Pd N p rest s→(∃ c,look (rlxs pr p s rest).1 p=some c)∧RI ts pr p0 Pd N p [] (rlxs pr p s rest)∧phi N (rlxs pr p s rest)+(rlxs pr p s rest).2.length≤phi N s+s.2.length∧2*phi N (rlxs pr p s rest)+(rlxs pr p s rest).2.length≤2*phi N s+s.2.length
 |done,[],s,_,hp,h=>⟨hp,h,Int.le_refl _,Int.le_refl _⟩
 |done,x::rest,s,e,⟨cp,hp⟩,h=>by
  have hx:x∈ts p:=by rw[e];simp
  have hpx:Pd x.1:=hts p (h.ok _ (F5 hp)) x hx;have e':ts p=(done++[x])++rest:=by rw[e];simp
  have go:∀ s':RS,rlx pr p s x=s'→(∃ c,look s'.1 p=some c)→RI ts pr p0 Pd N p rest s'→phi N s'+s'.2.length≤phi N s+s.2.length→2*phi N s'+s'.2.length≤2*phi N s+s.2.length→(∃ c,look (rlxs pr p s (x::rest)).1 p=some c)∧RI ts pr p0 Pd N p [] (rlxs pr p s (x::rest))∧phi N (rlxs pr p s (x::rest))+(rlxs pr p s (x::rest)).2.length≤phi N s+s.2.length∧2*phi N (rlxs pr p s (x::rest))+(rlxs pr p s (x::rest)).2.length≤2*phi N s+s.2.length:=by
   rintro s' rfl h1 h2 h3 h4;have:=RI.all hN hts hpr (done++[x]) rest e' h1 h2;refine⟨this.1,this.2.1,?_,?_⟩
   ·have:=this.2.2.1;show phi N (rlxs pr p (rlx pr p s x) rest)+((rlxs pr p (rlx pr p s x) rest).2.length:Int)≤_;omega
   ·have:=this.2.2.2;show 2*phi N (rlxs pr p (rlx pr p s x) rest)+((rlxs pr p (rlx pr p s x) rest).2.length:Int)≤_;omega
  have lw:(∀ d,look s.1 x.1=some d→cp+gd pr x.2<d)→rlx pr p s x=(upsert s.1 x.1 (cp+gd pr x.2),s.2++[x.1])→(∃ c,look (rlxs pr p s (x::rest)).1 p=some c)∧RI ts pr p0 Pd N p [] (rlxs pr p s (x::rest))∧phi N (rlxs pr p s (x::rest))+(rlxs pr p s (x::rest)).2.length≤phi N s+s.2.length∧2*phi N (rlxs pr p s (x::rest))+(rlxs pr p s (x::rest)).2.length≤2*phi N s+s.2.length:=fun hl er=>by
   obtain⟨h1,h2⟩:=h.low hN hx hpx (hpr p x hx) hp hl;refine go _ er ?_ h1 ?_ ?_
   ·show ∃ c,look (upsert s.1 x.1 _) p=_;rw[Ck];split
    ·exact⟨_,rfl⟩
    ·exact⟨_,hp⟩
   ·simp only[List.length_append,List.length_singleton];omega
   ·simp only[List.length_append,List.length_singleton];omega
  cases hd:look s.1 x.1 with
  |none=>exact lw (fun d h=>by rw[hd] at h;cases h) (by unfold rlx;rw[hp,hd])
  |some d=>
   by_cases hc:cp+gd pr x.2<d
   ·refine lw (fun d' h=>by rw[hd] at h;obtain rfl:=Option.some.inj h;exact hc) (by unfold rlx;rw[hp,hd];simp only[];rw[if_pos hc])
   ·exact go s (by unfold rlx;rw[hp,hd];simp only[];rw[if_neg hc]) ⟨cp,hp⟩ (h.stay hp hd qom) (Int.le_refl _) (Int.le_refl _)
theorem RI.pop {ts:Pl→List (Pl × Nat)}{pr:List Int}{p0:Pl}{Pd:Pl→Prop}{N:Nat}{p p':Pl}{m:List (Pl × Int)}{q:List Pl}(h:RI ts pr p0 Pd N p' [] (m,p::q)):RI ts pr p0 Pd N p (ts p) (m,q)∧∃ c,look m p=some c:=
 ⟨⟨h.nd,h.ok,h.start,h.ach,h.rng,fun a ha=>h.que a (List.mem_cons_of_mem _ ha),fun a c ha hn x hx=>by
  by_cases e:a=p
  ·subst e;exact .inl ⟨rfl,hx⟩
  ·rcases h.cls a c ha (by simp[e];exact hn) x hx with ⟨_,h1⟩|h1
   ·cases h1
   ·exact .inr h1⟩,h.que p (by simp)⟩
theorem RI.done {ts:Pl→List (Pl × Nat)}{pr:List Int}{p0:Pl}{Pd:Pl→Prop}{N:Nat}{p:Pl}{m:List (Pl × Int)}(h:RI ts pr p0 Pd N p [] (m,[])):Cert ts pr p0 (fun p c=>look m p=some c):=
 ⟨h.start,fun q c hq x hx=>by
  rcases h.cls q c hq (by simp) x hx with ⟨_,h1⟩|h1
  ·cases h1
  ·exact h1,h.ach⟩
theorem RI.init (ts:Pl→List (Pl × Nat))(pr:List Int){p0:Pl}{Pd:Pl→Prop}(N:Nat)(hp:Pd p0):RI ts pr p0 Pd N p0 [] ([(p0,0)],[p0]):=by
 have h0:∀ q c,look [(p0,(0:Int))] q=some c→p0=q∧c=0:=fun q c h=>by
  rw[By] at h
  split at h
  ·rename_i e;exact⟨e,(Option.some.inj h).symm⟩
  ·cases h
 refine⟨by simp,fun e he=>by simp at he;subst he;exact hp,by rw[By,if_pos rfl],fun q c h=> ?_,fun e he=>by simp at he;subst he;simp,fun q hq=> ?_,fun q c h hn=> ?_⟩
 ·obtain⟨rfl,rfl⟩:=h0 q c h;exact⟨[], .nil,rfl⟩
 ·simp at hq;subst hq;exact⟨0,by rw[By,if_pos rfl]⟩
 ·obtain⟨rfl,_⟩:=h0 q c h;simp at hn
def relF (ts:Pl→List (Pl × Nat)) (pr:List Int):Nat→RS→Option (List (Pl × Int))
 |0,_=>none
 |_+1,(m,[])=>some m
 |f+1,(m,p::q)=>relF ts pr f (rlxs pr p (m,q) (ts p))
def bestF (fnd:Pl→Bool):List (Pl × Int)→Option Int
 |[]=>none
 |e::l=>match bestF fnd l with
  |none=>if fnd e.1 then some e.2 else none
  |some c=>if fnd e.1&&decide (e.2<c) then some e.2 else some c
theorem bestF_is (fnd:Pl→Bool):∀ l:List (Pl × Int),BestIs (fun p c=>(p,c)∈l) fnd (bestF fnd l)
 |[]=>fun p d _ h=>by cases h
 |e::l=>by
  have ih:=bestF_is fnd l;obtain⟨p,c⟩:=e;unfold bestF;cases hb:bestF fnd l with
  |none=>
   rw[hb] at ih;simp only[]
   split
   ·rename_i hf;refine⟨⟨p,hf,by simp⟩,fun q d hq hd=> ?_⟩;rcases List.mem_cons.1 hd with h|h
    ·cases h;exact Int.le_refl _
    ·exact absurd h (ih q d hq)
   ·rename_i hf;intro q d hq hd;rcases List.mem_cons.1 hd with h|h
    ·cases h;exact hf hq
    ·exact ih q d hq h
  |some b=>
   rw[hb] at ih;obtain⟨⟨q0,h1,h2⟩,h3⟩:=ih;simp only[]
   split
   ·rename_i hf;simp only[Bool.and_eq_true,decide_eq_true_eq] at hf;refine⟨⟨p,hf.1,by simp⟩,fun q d hq hd=> ?_⟩;rcases List.mem_cons.1 hd with h|h
    ·cases h;exact Int.le_refl _
    ·have:=h3 q d hq h;omega
   ·rename_i hf;simp only[Bool.and_eq_true,decide_eq_true_eq,not_and] at hf;refine⟨⟨q0,h1,by simp[h2]⟩,fun q d hq hd=> ?_⟩;rcases List.mem_cons.1 hd with h|h
    ·cases h;have:=hf hq;omega
    ·exact h3 q d hq h
theorem Fj {l:List (Pl × Int)}(h:(l.map (·.1)).Nodup){p:Pl}{c:Int}(hm:(p,c)∈l):look l p=some c:=by
 induction l with
 |nil=>cases hm
 |cons e l ih=>
  rw[List.map_cons,List.nodup_cons] at h;rw[By];rcases List.mem_cons.1 hm with h1|h1
  ·subst h1;simp
  ·rw[if_neg,ih h.2 h1];intro e';exact h.1 (e' ▸ List.mem_map.2 ⟨_,h1,rfl⟩)
theorem BestIs.congr {L L':Pl→Int→Prop}{fnd:Pl→Bool}(h:∀ p c,L p c↔L' p c){r:Option Int}(hb:BestIs L fnd r):BestIs L' fnd r:=by
 have:L=L':=by funext p c;exact propext (h p c)
 exact this ▸ hb
theorem cost_nat (pr:List Int)(ls:List Nat):costI pr (toInts ls)=cstN pr ls:=by
 unfold costI cstN toInts;rw[Kv];exact sI_congr fun k _=>by rw[Int.toNat_natCast]
theorem cost_int (pr:List Int)(ls:List Int):cstN pr (ls.map Int.toNat)=costI pr ls:=by
 unfold costI cstN;rw[Kv]
theorem price_none {n:Nn}{f:Flr}{o:Odr}(pr:List Int)(h:f.node=o.x):PriceIs n f o pr none:=fun ls=>by
 unfold holdsF;simp[h]
theorem price_of {n:Nn}{f:Flr}{m:PM}{o:Odr}{pr:List Int}(hm:McE m o.e)(hf: ¬ f.node=o.x){L:Pl→Int→Prop}(hc:Cert (movesF n f m) pr (p0F n m o.x) L){r:Option Int}(hb:BestIs L (fndF o.y m) r):PriceIs n f o pr r:=by
 have key:∀ ls,holdsF n f o.e o.x o.y ls=true→∃ q d,fndF o.y m q=true∧L q d∧d≤costI pr ls:=fun ls h=>by
  obtain⟨_,q,h1,h2⟩:=holds_chn hm h;obtain⟨d,h3,h4⟩:=hc.low h1;rw[cost_int] at h4;exact⟨q,d,h2,h3,h4⟩
 cases r with
 |none=>
  intro ls;cases h:holdsF n f o.e o.x o.y ls
  ·rfl
  ·obtain⟨q,d,h1,h2,_⟩:=key ls h;exact absurd h2 (hb q d h1)
 |some c=>
  obtain⟨⟨q,h1,h2⟩,h3⟩:=hb;obtain⟨ls,h4,h5⟩:=hc.ach q c h2;refine⟨⟨toInts ls,chn_holds hm hf h4 h1,by rw[cost_nat,h5]⟩,fun l2 h=> ?_⟩;obtain⟨p,d,g1,g2,g3⟩:=key l2 h;have:=h3 p d g1 g2;omega
theorem lx_tri:∀ (a b:List Nat),putS.lxB a b=true∨a=b∨putS.lxB b a=true
 |[],[]=> .inr (.inl rfl)
 |[],_::_=> .inl rfl
 |_::_,[]=> .inr (.inr rfl)
 |a::x,b::y=>by
  unfold putS.lxB;rcases Nat.lt_trichotomy a b with h|h|h
  ·left;simp[h]
  ·subst h;rcases lx_tri x y with h|h|h
   ·left;simp[h]
   ·right;left;rw[h]
   ·right;right;simp[h]
  ·right;right;simp[h]
theorem lx_irr:∀ a:List Nat,putS.lxB a a=false
 |[]=>rfl
 |a::x=>by unfold putS.lxB;simp[lx_irr x]
theorem Ht:∀ {a b c:List Nat},putS.lxB a b=true→putS.lxB b c=true→putS.lxB a c=true
 |[],b,[],h1,h2=>by cases b<;>cases h2
 |[],b,_::_,_,_=>rfl
 |a::x,[],c,h1,_=>by cases h1
 |a::x,b::y,[],_,h2=>by cases h2
 |a::x,b::y,c::z,h1,h2=>by
  unfold putS.lxB at *;simp only[Bool.or_eq_true,decide_eq_true_eq,Bool.and_eq_true] at *;rcases h1 with h1|⟨rfl,h1⟩
  ·rcases h2 with h2|⟨rfl,h2⟩
   ·left;omega
   ·left;exact h1
  ·rcases h2 with h2|⟨rfl,h2⟩
   ·left;exact h2
   ·right;exact⟨rfl,Ht h1 h2⟩
abbrev SrtS (own:List Sha):Prop:=own.Pairwise fun a b=>putS.lxB a.l b.l=true
theorem putS_mem {ls:List Nat}:∀ {own:List Sha} {s:Sha},s∈putS ls own→s.l=ls∨s∈own
 |[],s,h=>by simp[putS] at h;subst h;exact .inl rfl
 |x::r,s,h=>by
  unfold putS at h
  split at h
  ·rcases List.mem_cons.1 h with rfl|h
   ·exact .inl U
   ·exact .inr (by simp[h])
  ·split at h
   ·rcases List.mem_cons.1 h with rfl|h
    ·exact .inl U
    ·exact .inr h
   ·rcases List.mem_cons.1 h with rfl|h
    ·exact .inr (by simp)
    ·rcases putS_mem h with h|h
     ·exact .inl h
     ·exact .inr (by simp[h])
theorem I4 (ls:List Nat):∀ {own:List Sha},SrtS own→SrtS (putS ls own)
 |[],_=>by simp[putS,SrtS]
 |x::r,h=>by
  have h':=List.pairwise_cons.1 h;unfold putS
  split
  ·rename_i e;exact List.pairwise_cons.2 ⟨fun y hy=>by have:=h'.1 y hy;rw[e] at this;exact this,h'.2⟩
  ·rename_i hne
   split
   ·rename_i hl;refine List.pairwise_cons.2 ⟨fun y hy=> ?_,h⟩;rcases List.mem_cons.1 hy with rfl|hy
    ·exact hl
    ·exact Ht hl (h'.1 y hy)
   ·rename_i hl;refine List.pairwise_cons.2 ⟨fun y hy=> ?_,I4 ls h'.2⟩;rcases putS_mem hy with hy|hy
    ·rw[hy];rcases lx_tri x.l ls with h1|h1|h1
     ·exact h1
     ·exact absurd h1 hne
     ·exact absurd h1 (by simpa using hl)
    ·exact h'.1 y hy
theorem srt_eq:∀ {a b:List Sha},SrtS a→SrtS b→a.Perm b→a=b
 |[],b,_,_,h=>(List.Perm.nil_eq h)
 |x::a,[],_,_,h=>by cases (List.Perm.symm h).nil_eq
 |x::a,y::b,ha,hb,h=>by
  have ha':=List.pairwise_cons.1 ha;have hb':=List.pairwise_cons.1 hb;have e:x=y:=by
   have h1:x∈y::b:=h.subset (by simp);have h2:y∈x::a:=h.symm.subset (by simp);rcases List.mem_cons.1 h1 with e|h1
   ·exact e
   ·rcases List.mem_cons.1 h2 with e|h2
    ·exact e.symm
    ·have g1:=hb'.1 x h1;have g2:=ha'.1 y h2;have:=Ht g1 g2;rw[lx_irr] at this;cases this
  subst e;rw[srt_eq ha'.2 hb'.2 ((List.perm_cons x).1 h)]
def putU (ls:List Nat):List Sha→List Sha
 |[]=>[⟨ls,1⟩]
 |s::r=>if s.l=ls then ⟨ls,s.p+1⟩::r else s::putU ls r
theorem putU_perm (ls:List Nat):∀ {own:List Sha},SrtS own→(putU ls own).Perm (putS ls own)
 |[],_=>List.Perm.refl _
 |x::r,h=>by
  have h':=List.pairwise_cons.1 h;unfold putU putS
  split
  ·exact List.Perm.refl _
  ·rename_i hne
   split
   ·rename_i hl;have:∀ {r:List Sha},(∀ s∈r,putS.lxB ls s.l=true)→(putU ls r).Perm (⟨ls,1⟩::r):=fun {r}=>by
     induction r with
     |nil=>intro _;exact List.Perm.refl _
     |cons y r ih=>
      intro hr;unfold putU;have hy:=hr y (by simp);rw[if_neg (fun e=>by rw[e,lx_irr] at hy;cases hy)];exact((ih fun s hs=>hr s (by simp[hs])).cons y).trans (List.Perm.swap _ _ _)
    exact((this fun s hs=>Ht hl (h'.1 s hs)).cons x).trans (List.Perm.swap _ _ _)
   ·exact(putU_perm ls h'.2).cons x
theorem putU_congr (ls:List Nat):∀ {a b:List Sha},(a.map Sha.l).Nodup→a.Perm b→(putU ls a).Perm (putU ls b):=by
 have split:∀ {a:List Sha},(a.map Sha.l).Nodup→∀ s∈a,s.l=ls→∃ r,a.Perm (s::r)∧(putU ls a).Perm (⟨ls,s.p+1⟩::r):=fun {a}=>by
  induction a with
  |nil=>intro _ s hs;cases hs
  |cons x a ih=>
   intro hn s hs e;rw[List.map_cons,List.nodup_cons] at hn;rcases List.mem_cons.1 hs with rfl|hs
   ·refine⟨a,List.Perm.refl _,?_⟩;unfold putU;rw[if_pos e]
   ·have hne: ¬ x.l=ls:=fun e2=>hn.1 (by rw[e2,← e];exact List.mem_map.2 ⟨s,hs,rfl⟩)
    obtain⟨r,h1,h2⟩:=ih hn.2 s hs e;refine⟨x::r,(h1.cons x).trans (List.Perm.swap _ _ _),?_⟩;unfold putU;rw[if_neg hne];exact(h2.cons x).trans (List.Perm.swap _ _ _)
 have none:∀ {a:List Sha},(∀ s∈a,¬ s.l=ls)→putU ls a=a++[⟨ls,1⟩]:=fun {a}=>by
  induction a with
  |nil=>intro _;rfl
  |cons x a ih=>
   intro h;unfold putU;rw[if_neg (h x (by simp)),ih fun s hs=>h s (by simp[hs])];rfl
 intro a b hn hp;have hnb:(b.map Sha.l).Nodup:=(hp.map _).nodup_iff.1 hn
 by_cases h:∃ s∈a,s.l=ls
 ·obtain⟨s,hs,e⟩:=h;obtain⟨r1,h1,h2⟩:=split hn s hs e;obtain⟨r2,h3,h4⟩:=split hnb s (hp.subset hs) e;have:(s::r1).Perm (s::r2):=(h1.symm.trans hp).trans h3;exact(h2.trans (((List.perm_cons s).1 this).cons _)).trans h4.symm
 ·have ha:∀ s∈a,¬ s.l=ls:=fun s hs e=>h ⟨s,hs,e⟩
  rw[none ha,none fun s hs=>ha s (hp.symm.subset hs)];exact hp.append_right _
structure OdR (m:Om) (o:Odr):Prop where
 x:m.x=o.x
 y:m.y=o.y
 amt:m.amt=o.amt
 e:Is m.m o.e
structure OsR (os:List Om) (os':List Odr):Prop where
 len:os'.length=os.length
 at':∀ i,i<os.length→OdR (gd os i) (gd os' i)
abbrev rowOf (r:Lr):List Lan:=r.l.map Lm.lan
abbrev shOf (a:List Lr):List (List Lan):=a.map rowOf
theorem gd_zip {α β:Type}[Inhabited α] [Inhabited β]:∀ {a:List α} {b:List β} {i:Nat},i<a.length→i<b.length→(a.zip b)[i]? =some (gd a i,gd b i)
 |[],b,i,h,_=>by cases h
 |x::a,[],i,_,h=>by cases h
 |x::a,y::b,0,_,_=>rfl
 |x::a,y::b,i+1,h1,h2=>by
  rw[List.zip_cons_cons,List.getElem?_cons_succ,gd_zip (by simpa using h1) (by simpa using h2)];rfl
theorem zip_take {α β:Type}[Inhabited α] [Inhabited β] {a:List α}{b:List β}{i:Nat}(h1:i<a.length)(h2:i<b.length):(a.zip b).take (i+1)=(a.zip b).take i++[(gd a i,gd b i)]:=by
 rw[List.take_add_one,gd_zip h1 h2];rfl
theorem Jy {a:List Lr}{i:Nat}(h:i<a.length):gd (shOf a) i=rowOf (gd a i):=Bu h
theorem shT_gd {z:List Int}{N:Nat}(hz:z.length=N){os:List Om}{os':List Odr}(hos:OsR os os'){a:List Lr}(hl:a.length=os.length)(hx:∀ r∈a,∀ s∈r.l,∀ x∈s.l,0≤x∧x<N)(k:Nat):∀ i,i≤a.length→gd (shT z os a i) k=gd z k+sI ((os'.zip (shOf a)).take i) fun x=>ordLd x.1.amt x.2 k
 |0,_=>by simp[shT,sI]
 |i+1,h=>by
  rw[shT,I3 (fun s hs x hx'=>by rw[B5,hz];exact hx _ (Af qom) s hs x hx'),shT_gd hz hos hl hx k i qom,zip_take (by rw[hos.len];omega) (by rw[List.length_map];omega),Fl,Jy qom];have:=(hos.at' i qom).amt;rw[this];show gd z k+_+ordLd (gd os' i).amt (rowOf (gd a i)) k=_;simp only[sI];omega
theorem shT_ld {N:Nat}{os:List Om}{os':List Odr}(hos:OsR os os'){a:List Lr}(hl:a.length=os.length)(hx:∀ r∈a,∀ s∈r.l,∀ x∈s.l,0≤x∧x<N){k:Nat}(hk:k<N):gd (shT (List.replicate N 0) os a a.length) k=ldAt os' (shOf a) k:=by
 rw[shT_gd (by simp) hos hl hx k _ (Nat.le_refl _),Gn hk,List.take_of_length_le (by simp[hos.len,hl])];unfold ldAt;omega
def AllH (n:Nn) (f:Flr) (os:List Odr) (a:List Lr):Prop:=∀ i,i<a.length→∀ k,k<(gd a i).l.length→holdsF n f (gd os i).e (gd os i).x (gd os i).y (gd (gd a i).l k).l=true
def CapP (n:Nn) (os:List Odr) (a:List Lr):Prop:=∀ k,k<n.links.length→ldAt os (shOf a) k≤16*(gd n.links k).cap
def FitC (n:Nn) (f:Flr) (os:List Odr) (a:List Lr) (c:Int):Prop:=
 (¬ FormedP os.length a∧c=1)∨((FormedP os.length a∧¬ AllH n f os a)∧c=18)∨(((FormedP os.length a∧AllH n f os a)∧¬ CapP n os a)∧c=19)∨(((FormedP os.length a∧AllH n f os a)∧CapP n os a)∧c=0)
theorem FitC.uniq {n:Nn}{f:Flr}{os:List Odr}{a:List Lr}{c d:Int}(h1:FitC n f os a c)(h2:FitC n f os a d):c=d:=by
 rcases h1 with ⟨a1,b1⟩|⟨⟨a1,a2⟩,b1⟩|⟨⟨⟨a1,a2⟩,a3⟩,b1⟩|⟨⟨⟨a1,a2⟩,a3⟩,b1⟩<;>rcases h2 with ⟨e1,f1⟩|⟨⟨e1,e2⟩,f1⟩|⟨⟨⟨e1,e2⟩,e3⟩,f1⟩|⟨⟨⟨e1,e2⟩,e3⟩,f1⟩<;>first|(exfalso;simp_all;done)|omega
theorem FitC.ok {n:Nn}{f:Flr}{os:List Odr}{a:List Lr}(h:FitC n f os a 0):FormedP os.length a∧AllH n f os a∧CapP n os a:=by
 rcases h with ⟨_,h⟩|⟨_,h⟩|⟨_,h⟩|⟨h,_⟩
 ·omega
 ·omega
 ·omega
 ·exact⟨h.1.1,h.1.2,h.2⟩
theorem FitC.of {n:Nn}{f:Flr}{os:List Odr}{a:List Lr}(h1:FormedP os.length a)(h2:AllH n f os a)(h3:CapP n os a):FitC n f os a 0:= .inr (.inr (.inr ⟨⟨⟨h1,h2⟩,h3⟩,rfl⟩))
theorem row_sum (r:Lr):sI r.l Lm.p=sI (rowOf r) Lan.p:=by
 unfold rowOf;rw[Kv];rfl
structure Qu where
 n:Nat
 pre:List Value
 cap:Nat
 junk:List Value
 post:List Value
abbrev quQ (d:Qu):Option Addr:=some ⟨d.n,d.pre.length,none⟩
abbrev quV (d:Qu) (k:Nat):Value:= .slice (quQ d) k d.cap
abbrev quO (d:Qu) (cells:List Value) (e:TypeId):Obj:=Cl (d.pre++(cells++(d.junk++d.post))) e
def QuOk (d:Qu) (k sz:Nat):Prop:=k≤d.cap∧d.junk.length=(d.cap - k)*sz
theorem qu_arr {α:Type}{w0:World}{H:List (Nat × Obj)}{d:Qu}{sz:Nat}{enc:α→List Value}{l:List α}{e:TypeId}(he:∀ x,(enc x).length=sz)(hf:Fnd H d.n (quO d (l.flatMap enc) e)):Arr w0 H (quQ d) sz enc l:=fun i x hi=>⟨rfl,fun j v hj=>by
 refine Bo hf ?_;show (d.pre++(l.flatMap enc++(d.junk++d.post)))[d.pre.length+i*sz+j]? =some v;have h1:=Gv he l i x j v hi hj;have h2:=(List.getElem?_eq_some_iff.1 h1).1;rw[List.getElem?_append_right qom,show d.pre.length+i*sz+j - d.pre.length=i*sz+j by omega,List.getElem?_append_left h2];exact h1⟩
theorem qu_pop {α:Type}{d:Qu}{sz k:Nat}{enc:α→List Value}{x:α}{l:List α}(e:TypeId)(he:∀ x,(enc x).length=sz)(h:QuOk d (l.length+1) sz):∃ d':Qu,slD (quQ d) d.cap 1 sz=quQ d'∧d.cap - 1=d'.cap∧d'.n=d.n∧quO d ((x::l).flatMap enc) e=quO d' (l.flatMap enc) e∧QuOk d' l.length sz:=by
 obtain⟨h1,h2⟩:=h
 by_cases hc:d.cap=1
 ·have hl:l=[]:=List.eq_nil_of_length_eq_zero qom;subst hl;have hj:d.junk=[]:=List.eq_nil_of_length_eq_zero (by rw[h2,hc];simp);refine⟨⟨d.n,d.pre,0,[],enc x++d.post⟩,?_,by rw[hc],rfl,?_,⟨Nat.le_refl _,by simp⟩⟩
  ·unfold slD;rw[if_pos hc]
  ·simp[hj]
 ·refine⟨⟨d.n,d.pre++enc x,d.cap - 1,d.junk,d.post⟩,?_,rfl,rfl,?_,⟨by simp only[];omega,?_⟩⟩
  ·unfold slD;rw[if_neg hc];simp[quQ,H4,List.length_append,he]
  ·simp[List.append_assoc]
  ·simp only[];rw[h2];congr 1;omega
section
variable {P:Program} {w0:World} {L:Fm} {ty:TypeId} {x y:Operand} {t t2 e:TypeId}
theorem setL_mid:∀ (vs pre l post:List Value),l.length=vs.length→setL (pre++(l++post)) pre.length vs=pre++(vs++post)
 |[],pre,l,post,h=>by
  have:l=[]:=List.eq_nil_of_length_eq_zero h;simp[setL,this]
 |v::vs,pre,[],post,h=>by simp at h
 |v::vs,pre,y::l,post,h=>by
  rw[setL];have e3:(pre++(y::l++post)).set pre.length v=(pre++[v])++(l++post):=by simp
  rw[e3];have:=setL_mid vs (pre++[v]) l post (by simpa using h);simp only[List.length_append,List.length_cons,List.length_nil,Nat.zero_add] at this;rw[this];simp
theorem eff_appQ {α:Type}{enc:α→List Value}(v:α){H R:List (Nat × Obj)}{F:List (Nat × Obj)→List (Nat × Obj)}{d:Qu}{l:List α}{n sz by':Nat}{z:Value}{i0:TypeInfo}{e2:TypeId}(hl:LocL H [(d.n,quO d (l.flatMap enc) e)] R F)(hx:Ev L x (quV d l.length))(hy:Ev L y (.slice (some ⟨n,0,none⟩) 1 1))
  (ht:∀ w,(underlying t).run P w= .ok (.slice e) w) (ht2:∀ w,(underlying t2).run P w= .ok (.slice e2) w) (hz:∀ w,(sizeOf e).run P w= .ok sz w) (hi:∀ w,(typeInfo e).run P w= .ok i0 w) (hby:i0.bytes=by') (hzv:∀ w,(zeroValue e).run P w= .ok z w) (hzs:z.cells.size=sz)
  (he:∀ u,(enc u).length=sz) (h1:(enc v).all oneB=true) (hok:QuOk d l.length sz) (hb0:by'≠0) (hb:(2*(l.length+1)+600)*by'≤281474976710656) (hn:Cells w0 H n 0 (enc v):=by exact A3):
  Eff P w0 (.call {callee:= .builtin .append,args:= #[x,y],argTypes:= #[t,t2]}) ty L H (fun u H'=>∃ d':Qu,u=quV d' (l.length+1)∧QuOk d' (l.length+1) sz∧H'=F [(d'.n,quO d' ((l++[v]).flatMap enc) e)]):=
 ⟨rfl,fun b w hO=>by
  have h1':∀ v'∈enc v,oneB v'=true:=fun u hu=>List.all_eq_true.1 h1 u hu
  have hp:=hl.perm;have hO':=Bx hO hp.1;have hcl:=Ce he l;have hfirst:=Dh (P:=P) (sz:=sz) (m:=1) (c:=1) (q:=some ⟨n,0,none⟩) (new:=enc v) hO (.inr U) (by rw[he,Nat.one_mul]) (by simpa[bq,oq] using hn);have hA:Arr w0 H (quQ d) sz enc l:=fun i a hi=>⟨rfl,fun j u hj w' hO2=>(qu_arr (w0:=w0) (H:=[(d.n,quO d (l.flatMap enc) e)]++R) he A2 i a hi).2 j u hj w' (Bx hO2 hp.1)⟩
  have hcells:Cells w0 H (bq (quQ d)) (oq (quQ d)) (l.flatMap enc):=hA.all he;have hold:(Builtin.firstCells sz l.length (quV d l.length)).run P w= .ok (l.flatMap enc).toArray w:=Dh (P:=P) hO (.inr U) hcl hcells;have start:∀ R,(exO (ev (lk L b)) (.call {callee:= .builtin .append,args:= #[x,y],argTypes:= #[t,t2]}) ty).run P w=R↔(do let v ← Builtin.append_ #[t,t2] ty #[quV d l.length, .slice (some ⟨n,0,none⟩) 1 1];pure (Next.value v):Sem Next).run P w=R:=fun R=>by
   simp[exO,execOp,resolve,invoke,builtin,hx b,hy b,Sem.run_bind,Result.andThen]
  obtain⟨hk1,hk2⟩:=hok
  by_cases hcap:l.length+1≤d.cap
  ·have hhas:w.heap[d.n]? =some (quO d (l.flatMap enc) e):=hO'.has (d.n,quO d (l.flatMap enc) e) (by simp);have hmul:(d.cap - l.length)*sz=(d.cap - (l.length+1))*sz+1*sz:=by rw[← Nat.add_mul];congr 1;omega
   have hst:=Dp (P:=P) (n:=d.n) (o:=d.pre.length+l.length*sz) (t:=e) (enc v) 0 (d.pre++(l.flatMap enc++(d.junk++d.post))) w hhas h1' (by simp only[List.length_append,hcl,he,hk2];omega);have hset:setL (d.pre++(l.flatMap enc++(d.junk++d.post))) (d.pre.length+l.length*sz+0) (enc v)=d.pre++((l++[v]).flatMap enc++(d.junk.drop sz++d.post)):=by
    have e1:d.junk=d.junk.take sz++d.junk.drop sz:=(List.take_append_drop _ _).symm;have e2:(d.junk.take sz).length=(enc v).length:=by rw[List.length_take,he,hk2];omega
    have:=setL_mid (enc v) (d.pre++l.flatMap enc) (d.junk.take sz) (d.junk.drop sz++d.post) e2;rw[Nat.add_zero,show d.pre.length+l.length*sz=(d.pre++l.flatMap enc).length by rw[List.length_append,hcl]];have e4:d.pre++(l.flatMap enc++(d.junk++d.post))=d.pre++l.flatMap enc++(d.junk.take sz++(d.junk.drop sz++d.post)):=by
     conv=>lhs;rw[e1]
     simp only[List.append_assoc]
    rw[e4,this];simp[List.append_assoc]
   rw[hset] at hst;have:(exO (ev (lk L b)) (.call {callee:= .builtin .append,args:= #[x,y],argTypes:= #[t,t2]}) ty).run P w= .ok (.value (.slice (quQ d) (l.length+1) d.cap)) (w.putObj d.n (Cl (d.pre++((l++[v]).flatMap enc++(d.junk.drop sz++d.post))) e)):=by
    rw[start];simp[Builtin.append_,ht,ht2,hz,Builtin.lenOf,hfirst,hcap,H4,hst,Sem.run_bind,Result.andThen]
   rw[this];refine⟨F [(d.n,Cl (d.pre++((l++[v]).flatMap enc++(d.junk.drop sz++d.post))) e)],Bx (hO'.put .h) (hp.2 [(d.n,Cl (d.pre++((l++[v]).flatMap enc++(d.junk.drop sz++d.post))) e)]).symm,⟨d.n,d.pre,d.cap,d.junk.drop sz,d.post⟩,rfl,⟨hcap,?_⟩,rfl⟩;simp only[List.length_drop];rw[hk2,hmul];omega
  ·have hlt:d.cap<l.length+1:=by omega
   have hnc:=nextcap_le hlt;have hgrow: ¬ 281474976710656<Builtin.nextslicecap (l.length+1) d.cap*by':=by
    have:=Nat.mul_le_mul_right by' hnc
    omega
   let cap':=(Question.appendCap (l.length+1) d.cap e).cut (w.tape w.drawn (Question.appendCap (l.length+1) d.cap e))
   have hcap2:l.length+1≤cap':=by simp only[cap',Question.cut];omega
   let w1:World:=w.drew
   have hO1:Own w0 H w1:=hO.drawn;have hfirst1:=Dh (P:=P) (sz:=sz) (m:=1) (c:=1) (q:=some ⟨n,0,none⟩) (new:=enc v) hO1 (.inr U) (by rw[he,Nat.one_mul]) (by simpa[bq,oq] using hn);have hold1:(Builtin.firstCells sz l.length (quV d l.length)).run P w1= .ok (l.flatMap enc).toArray w1:=Dh (P:=P) hO1 (.inr U) hcl hcells;have hroom:(askRoom (cap'*by')).run P w1= .ok () w1:=by
    unfold askRoom;split<;>simp[mark,Sem.run]
   let junk:=(Builtin.zeroCells z.cells (cap' - (l.length+1))).toList
   have this:(exO (ev (lk L b)) (.call {callee:= .builtin .append,args:= #[x,y],argTypes:= #[t,t2]}) ty).run P w= .ok (.value (.slice (some ⟨w.heap.size,0,none⟩) (l.length+1) cap')) (w1.alloc (Cl ((l.flatMap enc++enc v)++junk) e)):=by
    rw[start];have harr:(l.flatMap enc).toArray++((enc v).toArray++Builtin.zeroCells z.cells (cap' - (l.length+1)))=((l.flatMap enc++enc v)++junk).toArray:=by
     apply Array.ext';simp[junk]
    have hnr:(newRow e ((l.flatMap enc).toArray++((enc v).toArray++Builtin.zeroCells z.cells (cap' - (l.length+1))))).run P w1= .ok ⟨w.heap.size,0,none⟩ (w1.alloc (Cl ((l.flatMap enc++enc v)++junk) e)):=by
     rw[harr];exact E8 (P:=P) w1 e ((l.flatMap enc++enc v)++junk)
    have hcut:(Question.appendCap (l.length+1) d.cap e).cut (w.tape w.drawn (Question.appendCap (l.length+1) d.cap e))=cap':=rfl;have hw1:w.drew=w1:=rfl;simp[Builtin.append_,ht,ht2,hz,hi,hby,hb0,Builtin.lenOf,hcap,hgrow,Question.forced,hcut,hw1,hroom,hold1,hfirst1,hzv,hnr,Sem.run_bind,Result.andThen, -List.append_assoc]
   rw[this];have hO2:=(Bx hO1 hp.1).alloc (Cl ((l.flatMap enc++enc v)++junk) e);refine⟨F [(w.heap.size,quO ⟨w.heap.size,[],cap',junk,[]⟩ ((l++[v]).flatMap enc) e)],?_,⟨w.heap.size,[],cap',junk,[]⟩,rfl,⟨hcap2,by simp only[junk];rw[zero_len hzs]⟩,rfl⟩;refine Bx ?_ (hp.2 _).symm;have hsub:((w.heap.size,Cl ((l.flatMap enc++enc v)++junk) e)::R).Sublist ((w1.heap.size,Cl ((l.flatMap enc++enc v)++junk) e)::([(d.n,quO d (l.flatMap enc) e)]++R)):=List.Sublist.cons_cons _ (List.sublist_append_right _ _);have hO3:=hO2.sub hsub;have ee:quO ⟨w.heap.size,[],cap',junk,[]⟩ ((l++[v]).flatMap enc) e=Cl ((l.flatMap enc++enc v)++junk) e:=by simp[List.flatMap_append]
   rw[ee];exact hO3⟩
end
theorem zbd119_0_1 (a0:Int)(a1:Int)(w:World):(Instr.build 119 #[(0, .int .i64 a0),(1, .int .i64 a1)]).run Tryz.prog w= .ok (.agg #[.int .i64 a0, .int .i64 a1]) w:=by kernel_rfl
theorem zbs27_1_0 (a0:Int)(w:World):(Instr.buildSlice 27 1 #[(0, .int .i64 a0)]).run Tryz.prog w= .ok (.slice (some ⟨w.heap.size,0,none⟩) 1 1) (w.alloc (Cl [.int .i64 a0] 3)):=by kernel_rfl
theorem OdrOk.mce {n:Nn}{o:Odr}(h:OdrOk n o):McE (mOf o.e) o.e:=⟨(build_ok h.lv h.bd).1,(build_ok h.lv h.bd).2,build_acc h.lv h.bd⟩
theorem OdrOk.nm {n:Nn}{o:Odr}(h:OdrOk n o):(mOf o.e).names.length≤64:=by
 rw[build_names h.bd];exact letF_few h.lv
abbrev omO (o:Odr) (m:Rxm):Om:=⟨o.x,o.y,o.amt,m⟩
def PrR (n:Nn) (f:Flr) (o:Odr) (pr:List Int) (v:Value):Prop:=∃ r:Option Int,v= .tuple #[.int .i64 (r.getD 0), .bool r.isSome]∧PriceIs n f o pr r∧∀ c,r=some c→0≤c∧c≤1048576*2400
theorem prR_none {n:Nn}{f:Flr}{o:Odr}{pr:List Int}(h:PriceIs n f o pr none):PrR n f o pr (.tuple #[.int .i64 0, .bool false]):=⟨none,rfl,h,fun c hc=>by cases hc⟩
theorem prR_best {n:Nn}{f:Flr}{o:Odr}{pr:List Int}{b:Int}(h:PriceIs n f o pr (if b<0 then none else some b))(hb:b≤1048576*2400){u:Int}(hu:u=if b<0 then 0 else b):PrR n f o pr (.tuple #[.int .i64 u, .bool (decide (b≥0))]):=by
 subst hu;refine⟨if b<0 then none else some b,?_,h,fun c hc=> ?_⟩
 ·split
  ·rw[decide_eq_false qom];rfl
  ·rw[decide_eq_true qom];rfl
 ·split at hc
  ·cases hc
  ·obtain rfl:=Option.some.inj hc;omega
theorem zbs126_1_0 (a0:Int)(a1:Int)(w:World):(Instr.buildSlice 126 1 #[(0, .agg #[.int .i64 a0, .int .i64 a1])]).run Tryz.prog w= .ok (.slice (some ⟨w.heap.size,0,none⟩) 1 1) (w.alloc (Cl [.int .i64 a0, .int .i64 a1] 119)):=by kernel_rfl
abbrev encJv (x:Int):Value:= .int .i64 x
theorem yl_lk1 {w0:World}{H:List (Nat × Obj)}{L:Fm}{x y:Operand}{ty:TypeId}{r:Nat}{l:List (Pl × Int)}{p:Pl}(hx:Ev L x (.map (some r)))(hy:Ev L y (encPK p))(hf:Fnd H r (mapO encPK encJv l)):
  Yl Tryz.prog w0 (.lookup 122 x y false) ty L H (.int .i64 ((look l p).getD 0)):=by
 have h:=Es (P:=Tryz.prog) (w0:=w0) (ty:=ty) (keyP74 (V:=Int)) hx hy U runUnderlying122 zeroValue3 hf;cases hl:look l p with
 |none=>rw[hl] at h;exact h
 |some b=>rw[hl] at h;exact h
theorem yl_lk2 {w0:World}{H:List (Nat × Obj)}{L:Fm}{x y:Operand}{ty:TypeId}{r:Nat}{l:List (Pl × Int)}{p:Pl}(hx:Ev L x (.map (some r)))(hy:Ev L y (encPK p))(hf:Fnd H r (mapO encPK encJv l)):
  Yl Tryz.prog w0 (.lookup 122 x y true) ty L H (.tuple #[.int .i64 ((look l p).getD 0), .bool (look l p).isSome]):=by
 have h:=yl_lookup2 (P:=Tryz.prog) (w0:=w0) (ty:=ty) (keyP74 (V:=Int)) hx hy U runUnderlying122 zeroValue3 hf;cases hl:look l p with
 |none=>rw[hl] at h;exact h
 |some b=>rw[hl] at h;exact h
theorem yl_lk3 {w0:World}{H:List (Nat × Obj)}{L:Fm}{x y:Operand}{ty:TypeId}{r:Nat}{l:List (Pl × Int)}{p:Pl}{c:Int}(hc:look l p=some c)(hx:Ev L x (.map (some r)))(hy:Ev L y (encPK p))(hf:Fnd H r (mapO encPK encJv l)):
  Yl Tryz.prog w0 (.lookup 122 x y false) ty L H (.int .i64 c):=by
 have h:=yl_lk1 (w0:=w0) (ty:=ty) hx hy hf;rw[hc] at h;exact h
theorem LocL.h1 {e:Nat × Obj}{X:List (Nat × Obj)}:LocL (e::X) [e] X (fun M'=>M'++X):=show LocL ([e]++X) [e] X _ from .h
def rlH (b7 b6 b5 nm:Nat) (p:Pl) (d:Qu) (s:RS):List (Nat × Obj):=[(b7,Cl (encPl p) 119),(b6,Cl [quV d s.2.length] 126),(d.n,quO d (s.2.flatMap encPl) 119),(b5,Cl [.map (some nm)] 122),(nm,mapO encPK encJv s.1)]
theorem I5 (b7 b6 b5 nm:Nat)(p:Pl)(d:Qu)(s:RS)(R:List (Nat × Obj)):rlH b7 b6 b5 nm p d s++R=(b7,Cl (encPl p) 119)::(b6,Cl [quV d s.2.length] 126)::(d.n,quO d (s.2.flatMap encPl) 119)::(b5,Cl [.map (some nm)] 122)::(nm,mapO encPK encJv s.1)::R:=rfl
theorem rlx_yes {pr:List Int}{p:Pl}{s:RS}{x:Pl × Nat}{cp:Int}(hp:look s.1 p=some cp)(h:∀ d,look s.1 x.1=some d→cp+gd pr x.2<d):rlx pr p s x=(upsert s.1 x.1 (cp+gd pr x.2),s.2++[x.1]):=by
 unfold rlx;rw[hp];cases hd:look s.1 x.1 with
 |none=>rfl
 |some d=>simp only[];rw[if_pos (h d hd)]
theorem rlx_no {pr:List Int}{p:Pl}{s:RS}{x:Pl × Nat}{cp d:Int}(hp:look s.1 p=some cp)(hd:look s.1 x.1=some d)(h: ¬ cp+gd pr x.2<d):rlx pr p s x=s:=by
 unfold rlx;rw[hp,hd];simp only[];rw[if_neg h]
theorem RI.one {ts:Pl→List (Pl × Nat)}{pr:List Int}{p0:Pl}{Pd:Pl→Prop}{N:Nat}(hN:∀ l:List Pl,l.Nodup→(∀ p∈l,Pd p)→l.length≤N)(hts:∀ p,Pd p→∀ x∈ts p,Pd x.1)(hpr:∀ p,∀ x∈ts p,0≤gd pr x.2∧gd pr x.2≤1048576){p:Pl}{x:Pl × Nat}{rest:List (Pl × Nat)}{s:RS}(hx:x∈ts p)(hp:∃ c,look s.1 p=some c)(h:RI ts pr p0 Pd N p (x::rest) s):
  (∃ c,look (rlx pr p s x).1 p=some c)∧RI ts pr p0 Pd N p rest (rlx pr p s x)∧phi N (rlx pr p s x)+(rlx pr p s x).2.length≤phi N s+s.2.length∧2*phi N (rlx pr p s x)+(rlx pr p s x).2.length≤2*phi N s+s.2.length:=by
 obtain⟨cp,hp⟩:=hp;have hpx:Pd x.1:=hts p (h.ok _ (F5 hp)) x hx
 by_cases hl:∀ d,look s.1 x.1=some d→cp+gd pr x.2<d
 ·rw[rlx_yes hp hl];obtain⟨h1,h2⟩:=h.low hN hx hpx (hpr p x hx) hp hl;refine⟨?_,h1,?_,?_⟩
  ·show ∃ c,look (upsert s.1 x.1 _) p=_;rw[Ck];split
   ·exact⟨_,rfl⟩
   ·exact⟨_,hp⟩
  ·simp only[List.length_append,List.length_singleton];omega
  ·simp only[List.length_append,List.length_singleton];omega
 ·obtain⟨d,hd,hc⟩:∃ d,look s.1 x.1=some d∧¬ cp+gd pr x.2<d:=by
   refine Classical.byContradiction fun hn=>hl fun d hd=> ?_
   refine Classical.byContradiction fun hc=>hn ⟨d,hd,hc⟩
  rw[rlx_no hp hd hc];exact⟨⟨cp,hp⟩,h.stay hp hd qom,Int.le_refl _,Int.le_refl _⟩
theorem Kx {ts:Pl→List (Pl × Nat)}{pr:List Int}{p0:Pl}{Pd:Pl→Prop}{N:Nat}{p:Pl}{rest:List (Pl × Nat)}{s:RS}(hN:∀ l:List Pl,l.Nodup→(∀ p∈l,Pd p)→l.length≤N)(h:RI ts pr p0 Pd N p rest s):0≤phi N s:=by
 unfold phi;have h1:=h.few hN;have h2:0≤sI s.1 (·.2):=Fz fun e he=>(h.rng e he).1
 have h3:0≤((N:Int) - s.1.length)*(1048576*N+1):=Int.mul_nonneg qom qom;omega
theorem paft_s {w0:World}{H:List (Nat × Obj)}(n:Nn)(hn:NetR w0 H n)(m:Mc)(hm:McOk w0 H m)(hsr:Srt m.names)(hl:m.names.length≤4611686018427387903)(hp:PMok m.pl)(b10 b4:Nat)(h10:Fnd H b10 (Cl (encMc m) 68))(h4:Fnd H b4 (Cl (encNn n) 26))(st node:Nat)(hst:st<m.rows.length)(hx:node<n.nodes.length):
  FSpec Tryz.prog w0 73 #[.int .i64 (st:Int), .int .i64 (node:Int), .pointer (some ⟨b10,0,none⟩), .pointer (some ⟨b4,0,none⟩)] H (Still (.agg (encPl (node,afterF m.pl st (nmF n node))).toArray) H):=by
 refine Ao Tryz.func73 U ntmps73 U ?_;obtain⟨hr1,hr2⟩:=Gc hp hst;have hle:=lbF_le m.names (nmF n node);refine rD tb 2 U (e_ (Ai zeroValue119 cs_) ?_ U);rintro _ _ ⟨n6,rfl,rfl⟩;refine rO tb 3 U (Bh 14 [(0,true),(1,true),(2,true),(3,true),(4,true),(5,true),(6,true),(7,true),(8,true),(9,true),(10,true),(11,true),(12,true),(13,true)] _ mixd qkr sb0 ?_ A8);refine rP tb 1 U ?_;refine o_y U (Lb U isAgg64 (by first|exact c_o|exact Bo (by repeat (first|exact h10|refine Aq ?_|refine Ax ?_)) U)) ?_ U Ac;refine rP tb 1 U ?_;refine o_y U (Lb U isAgg22 (by first|exact c_o|exact Bo (by repeat (first|exact h4|refine Aq ?_|refine Ax ?_)) U)) ?_ U Ac;refine rP tb 1 U (o_y U (Ld U U runUnderlying22 sizeOf85 qom (by first|exact rfl|exact hn.nodes.b (i:=node) hx)) ?_ U Ac);refine rP tb 1 U (o_y U (Lb U isAgg9 (by first|exact c_o|exact c_m (hn.nodes.f0 (i:=node) hx U))) ?_ U Ac);refine o_y U (Ay (qe2 U U) call74 (fun H' hs=>bs_s m.names _ _ (nmF n node) (hm.a1.mono (stn hs)) hsr hl)) (rP tb 5 U (A7 U (rO tb 6 U ?_))) U Ac;refine A5 (A9 (T U)) U Ac ?_;refine rO tb 2 U ?_;refine Ad (Aa U) (fun c22=> ?_) (fun c22=> ?_)
 ·have hlt:lett m.names (nmF n node)=m.names.length:=by unfold lett;rw[if_neg c22]
  refine rC tb 2 U ?_;refine y_ (Lb U isAgg64 (by first|exact c_o|exact Bo (by repeat (first|exact h10|refine Aq ?_|refine Ax ?_)) U)) ?_ U;refine rO tb 8 U ?_;refine y_ (Lb U isAgg65 (by first|exact c_o|exact Bo (by repeat (first|exact h10|refine Aq ?_|refine Ax ?_)) U)) ?_ U;refine rO tb 1 U (y_ (Ld U U runUnderlying65 sizeOf27 qom (by first|exact rfl|exact hn.nodes.b (i:=node) hx|exact hm.a2.b (i:=st) hst)) ?_ U);refine y_ (Lb U isAgg27 (by first|exact c_o|exact cell1 ((hm.a2.mono sbt).cs (i:=st) hst))) ?_ U;refine rO tb 1 U (y_ (Ld U U runUnderlying27 sizeOf3 qom (by first|exact rfl|exact hn.nodes.b (i:=node) hx|exact hm.a2.b (i:=st) hst|exact(hm.r (gd m.rows st) (Af hst)).b (i:=0) qom)) ?_ U);refine y_ (Lb U isAgg3 (by first|exact c_o|exact cell1 (((hm.r _ (Af hst)).mono sbt).cs (i:=m.names.length) qom))) ?_ U;refine y_ (A0 (.cons (T U) (.cons (T U) .nil)) (zbd119_0_1 _ _)) ?_ U;refine Aw (Le U U sizeOf119) U Ac ?_;rintro _ _ ⟨rfl,rfl⟩;refine kO tb 2 [6] rfl U (rG tb 1 U (Ah U (.cellA (Aa U) isAgg119 sizeOf119 U qcs .nil) ?_));exact⟨_,⟨by show _=Value.agg (encPl (node,nx m.pl st (lett m.names (nmF n node)))).toArray;rw[Hy,hlt];rfl,rfl⟩,sbt⟩
 ·obtain⟨k,hk⟩:∃ k,k=lbF m.names (nmF n node):=⟨_,rfl⟩;have hlt:lett m.names (nmF n node)=k:=by unfold lett;rw[if_pos (Classical.not_not.1 c22),hk]
  simp only[← hk];refine rC tb 6 U ?_;refine y_ (Lb U isAgg65 (by first|exact c_o|exact Bo (by repeat (first|exact h10|refine Aq ?_|refine Ax ?_)) U)) ?_ U;refine rO tb 1 U (y_ (Ld U U runUnderlying65 sizeOf27 qom (by first|exact rfl|exact hn.nodes.b (i:=node) hx|exact hm.a2.b (i:=st) hst)) ?_ U);refine y_ (Lb U isAgg27 (by first|exact c_o|exact cell1 ((hm.a2.mono sbt).cs (i:=st) hst))) ?_ U;refine rO tb 1 U (y_ (Ld U U runUnderlying27 sizeOf3 qom (by first|exact rfl|exact hn.nodes.b (i:=node) hx|exact hm.a2.b (i:=st) hst|exact(hm.r (gd m.rows st) (Af hst)).b (i:=0) qom)) ?_ U);refine y_ (Lb U isAgg3 (by first|exact c_o|exact cell1 (((hm.r _ (Af hst)).mono sbt).cs (i:=m.names.length) qom)|exact cell1 (((hm.r _ (Af hst)).mono sbt).cs (i:=k) qom))) ?_ U;refine y_ (A0 (.cons (T U) (.cons (T U) .nil)) (zbd119_0_1 _ _)) ?_ U;refine Aw (Le U U sizeOf119) U Ac ?_;rintro _ _ ⟨rfl,rfl⟩;refine rO tb 3 U (Ah U (.cellA (Aa U) isAgg119 sizeOf119 U qcs .nil) ?_);exact⟨_,⟨by show _=Value.agg (encPl (node,nx m.pl st (lett m.names (nmF n node)))).toArray;rw[Hy,hlt];rfl,rfl⟩,sbt⟩
theorem rlx1_s {w0:World}{H:List (Nat × Obj)}(b7 b6 b5 nm:Nat)(pr:List Int)(p:Pl)(d:Qu)(s:RS)(hd:QuOk d s.2.length 2)(x:Pl × Nat)(hp:∃ c,look s.1 p=some c∧0≤c∧c≤1048576*2400)(hpr:0≤gd pr x.2∧gd pr x.2≤1048576)(hq:s.2.length≤7000000000000):
  FSpec Tryz.prog w0 124 #[.agg (encPl x.1).toArray, .int .i64 (gd pr x.2), .pointer (some ⟨b5,0,none⟩), .pointer (some ⟨b7,0,none⟩), .pointer (some ⟨b6,0,none⟩)] (rlH b7 b6 b5 nm p d s++H) (fun _ H'=>∃ d':Qu,QuOk d' (rlx pr p s x).2.length 2∧H'=rlH b7 b6 b5 nm p d' (rlx pr p s x)++H):=by
 refine Ao Tryz.func124 U ntmps124 U ?_;obtain⟨cp,hcp,hc0,hc1⟩:=hp;rw[I5];refine rD tb 2 U (e_ (Lf U cs_) ?_ U);rintro _ _ ⟨n5,rfl,rfl⟩;refine rO tb 4 U (y_ (Lb U isAgg122 qco) ?_ U);refine y_ (Lc U isAgg119 sizeOf119 U qcs) ?_ U;refine y_ (yl_lk2 (l:=s.1) (p:=x.1) (T U) (T U) fdd) ?_ U;refine rO tb 10 U ?_
 first|refine A5 (A9 (T U)) U Ac ?_|refine A5 (B0 (T U)) U Ac ?_
 refine rO tb 1 U ?_
 first|refine A4 (s:=17) (Aa U) (fun c17=> ?_) (fun c17=> ?_)|refine Ej (s:=17) (Aa U) (fun c17=> ?_) (fun c17=> ?_)
 ·have hlow:∀ c,look s.1 x.1=some c→cp+gd pr x.2<c:=fun c h=>by rw[h] at c17;cases c17
  refine rO tb 12 U (Bh 7 [(0,true),(1,true),(2,true),(3,true),(4,true),(5,true),(6,true)] _ mixd qkr sb0 ?_ A8);refine o_y U (Lb U isAgg122 qco) ?_ U Ac;refine o_y U (Lc U isAgg119 sizeOf119 U qcs) ?_ U Ac;refine o_y U (Lb U isAgg122 qco) ?_ U Ac;refine o_y U (Lc U isAgg119 sizeOf119 U qcs) ?_ U Ac;refine o_y U (yl_lk3 (l:=s.1) (p:=p) hcp (T U) (T U) fdd) ?_ U Ac;refine rP tb 1 U (o_y U (Av (T U) (T U) qom) ?_ U Ac);refine A7 U (e_ (Cg (l:=s.1) (encV:=encJv) x.1 (cp+gd pr x.2) (keyP74 (V:=Int)) (T U) (T U) U (T U) U runUnderlying122) ?_ U);rintro _ _ ⟨rfl,rfl⟩;refine rO tb 3 U (y_ (Lb U isAgg126 qco) ?_ U);refine y_ (Lc U isAgg119 sizeOf119 U qcs) ?_ U;refine e_ (Aj (.cons (T U) .nil) (zbs126_1_0 _ _)) ?_ U;rintro _ _ ⟨n35,rfl,rfl⟩;refine e_ (eff_appQ (d:=d) (l:=s.2) (enc:=encPl) (by':=16) x.1 (by repeat (first|exact LocL.h1|apply LocL.t)) (T U) (T U) runUnderlying126 runUnderlying126 sizeOf119 typeInfo119 U zeroValue119 U (fun _=>rfl) U hd qde qom) ?_ U;rintro _ _ ⟨d',rfl,hd',rfl⟩;simp only[List.cons_append,List.nil_append];refine Aw (Le U U sizeOf126) U Ac ?_;rintro _ _ ⟨rfl,rfl⟩;refine rO tb 1 U (Cv U .nil ?_);rw[rlx_yes hcp hlow];exact⟨_,⟨d',by simpa using hd',by(rw[I5,List.length_append];done)⟩,sbt⟩
 ·obtain⟨dx,hdx⟩:∃ c,look s.1 x.1=some c:=by
   cases h:look s.1 x.1 with
   |none=>rw[h] at c17;cases c17
   |some c=>exact⟨c,rfl⟩
  refine A5 (Lb U isAgg122 qco) U (Az U U (Aa U)) ?_;refine A5 (Lc U isAgg119 sizeOf119 U qcs) U (Az U U (Aa U)) ?_;refine A5 (yl_lk3 (l:=s.1) (p:=p) hcp (T U) (T U) fdd) U (Az U U (Aa U)) ?_;refine rO tb 1 U (A5 (Av (T U) (T U) qom) U (Az U U (Aa U)) ?_);refine rO tb 5 U ?_;refine Ad (Aa U) (fun c25=> ?_) (fun c25=> ?_)
  ·have hlow:∀ c,look s.1 x.1=some c→cp+gd pr x.2<c:=fun c h=>by rw[hdx] at h;obtain rfl:=Option.some.inj h;simpa[hdx] using c25
   refine rC tb 1 U (Bh 7 [(0,true),(1,true),(2,true),(3,true),(4,true),(5,true),(6,true)] _ mixd qkr sb0 ?_ A8);refine o_y U (Lb U isAgg122 qco) ?_ U Ac;refine o_y U (Lc U isAgg119 sizeOf119 U qcs) ?_ U Ac;refine o_y U (Lb U isAgg122 qco) ?_ U Ac;refine o_y U (Lc U isAgg119 sizeOf119 U qcs) ?_ U Ac;refine o_y U (yl_lk3 (l:=s.1) (p:=p) hcp (T U) (T U) fdd) ?_ U Ac;refine rP tb 1 U (o_y U (Av (T U) (T U) qom) ?_ U Ac);refine A7 U (e_ (Cg (l:=s.1) (encV:=encJv) x.1 (cp+gd pr x.2) (keyP74 (V:=Int)) (T U) (T U) U (T U) U runUnderlying122) ?_ U);rintro _ _ ⟨rfl,rfl⟩;refine rO tb 3 U (y_ (Lb U isAgg126 qco) ?_ U);refine y_ (Lc U isAgg119 sizeOf119 U qcs) ?_ U;refine e_ (Aj (.cons (T U) .nil) (zbs126_1_0 _ _)) ?_ U;rintro _ _ ⟨n35,rfl,rfl⟩;refine e_ (eff_appQ (d:=d) (l:=s.2) (enc:=encPl) (by':=16) x.1 (by repeat (first|exact LocL.h1|apply LocL.t)) (T U) (T U) runUnderlying126 runUnderlying126 sizeOf119 typeInfo119 U zeroValue119 U (fun _=>rfl) U hd qde qom) ?_ U;rintro _ _ ⟨d',rfl,hd',rfl⟩;simp only[List.cons_append,List.nil_append];refine Aw (Le U U sizeOf126) U Ac ?_;rintro _ _ ⟨rfl,rfl⟩;refine rO tb 1 U (Cv U .nil ?_);rw[rlx_yes hcp hlow];exact⟨_,⟨d',by simpa using hd',by(rw[I5,List.length_append];done)⟩,sbt⟩
  ·refine rC tb 1 U (Cv U .nil ?_);rw[rlx_no hcp hdx (by simpa[hdx] using c25)];exact⟨_,⟨d,hd,rfl⟩,sbt⟩
abbrev upL (n:Nn) (f:Flr) (x:Nat):List Nat:=(outF n x).filter (upF n f)
theorem mv_drop {n:Nn}{f:Flr}{m:PM}{p:Pl}{i:Nat}(h:i<(upL n f p.1).length):(movesF n f m p).drop i=mvF n m p.2 (gd (upL n f p.1) i)::(movesF n f m p).drop (i+1):=by
 have hl:i<(movesF n f m p).length:=by simpa[movesF] using h
 rw[List.drop_eq_getElem_cons hl]
 congr 1
 simp only[movesF,List.getElem_map];rw[An h]
theorem up_mem {n:Nn}{f:Flr}{x l:Nat}(h:l∈upL n f x):l<n.links.length∧(gd n.links l).src=x∧upF n f l=true:=by
 rw[List.mem_filter] at h;have:=(Fx n x l n.links.length).1 h.1;exact⟨this.1,this.2,h.2⟩
theorem RI.any {ts:Pl→List (Pl × Nat)}{pr:List Int}{p0:Pl}{Pd:Pl→Prop}{N:Nat}{p:Pl}{s:RS}(h:RI ts pr p0 Pd N p [] s)(p':Pl):RI ts pr p0 Pd N p' [] s:=
 ⟨h.nd,h.ok,h.start,h.ach,h.rng,h.que,fun q c hq hn x hx=>(h.cls q c hq hn x hx).elim (fun h1=>by cases h1.2) .inr⟩
theorem RI.val {ts:Pl→List (Pl × Nat)}{pr:List Int}{p0:Pl}{Pd:Pl→Prop}{p:Pl}{rest:List (Pl × Nat)}{s:RS}(hN:∀ l:List Pl,l.Nodup→(∀ p∈l,Pd p)→l.length≤2400)(h:RI ts pr p0 Pd 2400 p rest s){q:Pl}{c:Int}(hq:look s.1 q=some c):0≤c∧c≤1048576*2400:=by
 have h1:=h.few hN;have h2:=look_pr hq h.rng;omega
theorem mv_pr {n:Nn}{f:Flr}{m:PM}{pr:List Int}(hpl:pr.length=n.links.length)(hpr:∀ i,i<pr.length→0≤gd pr i∧gd pr i≤1048576)(p:Pl):∀ x∈movesF n f m p,0≤gd pr x.2∧gd pr x.2≤1048576:=fun x hx=>by
 obtain⟨r,l⟩:=x;have:=(mem_moves.1 hx).1.1;exact hpr l qom
theorem Jz {n:Nn}(hok:NnOk n){m:PM}(hp:PMok m):∀ l:List Pl,l.Nodup→(∀ p∈l,PlOk n m p)→l.length≤2400:=fun l h1 h2=>Nat.le_trans (Kq n m l h1 h2) (NPl_le hok hp)
structure StpM (w0:World) (H:List (Nat × Obj)) (n:Nn) (f:Flr) (m:Mc) (pr:List Int) (b13 b12 b10 b4 bp:Nat) (rows:List RowQ) (qo qp:Option Addr) (co cp:Nat):Prop where
 net:NetR w0 H n
 mc:McOk w0 H m
 h13:Fnd H b13 (Cl [.slice qo rows.length co] 65)
 h12:Fnd H b12 (Cl [.func (.func 73) #[] #[.pointer (some ⟨b10,0,none⟩), .pointer (some ⟨b4,0,none⟩)]] 121)
 h10:Fnd H b10 (Cl (encMc m) 68)
 h4:Fnd H b4 (Cl (encNn n) 26)
 hb:Fnd H bp (Cl [.slice qp pr.length cp] 27)
 o:Arr w0 H qo 1 encRQ rows
 r:∀ r∈rows,Arr w0 H r.q 1 encU r.l
 p:Arr w0 H qp 1 encI pr
theorem StpM.mono {w0:World}{H H':List (Nat × Obj)}{n:Nn}{f:Flr}{m:Mc}{pr:List Int}{b13 b12 b10 b4 bp:Nat}{rows:List RowQ}{qo qp:Option Addr}{co cp:Nat}(h:StpM w0 H n f m pr b13 b12 b10 b4 bp rows qo qp co cp)(hs:H.Sublist H':=by exact sbt):StpM w0 H' n f m pr b13 b12 b10 b4 bp rows qo qp co cp:=
 ⟨h.net.mono hs,h.mc.mono hs,hs.subset h.h13,hs.subset h.h12,hs.subset h.h10,hs.subset h.h4,hs.subset h.hb,h.o.mono hs,fun r hr=>(h.r r hr).mono hs,h.p.mono hs⟩
structure StpOk (n:Nn) (f:Flr) (m:Mc) (pr:List Int) (rows:List RowQ):Prop where
 ok:NnOk n
 pm:PMok m.pl
 sr:Srt m.names
 nl:m.names.length≤4611686018427387903
 rl:rows.length=n.nodes.length
 up:∀ i,i<n.nodes.length→(gd rows i).l=upL n f i
 pl:pr.length=n.links.length
 pr:∀ i,i<pr.length→0≤gd pr i∧gd pr i≤1048576
theorem locRl {b7 b6 b5 nm:Nat}{p:Pl}{d:Qu}{s:RS}{R:List (Nat × Obj)}:LocL ((b7,Cl (encPl p) 119)::(b6,Cl [quV d s.2.length] 126)::(d.n,quO d (s.2.flatMap encPl) 119)::(b5,Cl [.map (some nm)] 122)::(nm,mapO encPK encJv s.1)::R) (rlH b7 b6 b5 nm p d s) R (fun M'=>M'++R):=by
 rw[← I5];exact .h
theorem stp_s {w0:World}{H:List (Nat × Obj)}(b7 b6 b5 nm:Nat)(n:Nn)(f:Flr)(m:Mc)(pr:List Int)(b13 b12 b10 b4 bp:Nat)(rows:List RowQ)(qo qp:Option Addr)(co cp:Nat)(hM:StpM w0 H n f m pr b13 b12 b10 b4 bp rows qo qp co cp)(hO:StpOk n f m pr rows)(p0:Pl)(p:Pl)(hpo:PlOk n m.pl p)(d0:Qu)(s0:RS)(hd0:QuOk d0 s0.2.length 2)(hri0:RI (movesF n f m.pl) pr p0 (PlOk n m.pl) 2400 p (movesF n f m.pl p) s0)(hp0:∃ c,look s0.1 p=some c)(hph:phi 2400 s0+s0.2.length≤6500000000000):
  FSpec Tryz.prog w0 76 #[.agg (encPl p).toArray, .func (.func 124) #[] #[.pointer (some ⟨b5,0,none⟩), .pointer (some ⟨b7,0,none⟩), .pointer (some ⟨b6,0,none⟩)], .pointer (some ⟨b13,0,none⟩), .pointer (some ⟨b12,0,none⟩), .pointer (some ⟨b4,0,none⟩), .pointer (some ⟨bp,0,none⟩)] (rlH b7 b6 b5 nm p d0 s0++H) (fun _ H'=>∃ y:Qu × RS,(QuOk y.1 y.2.2.length 2∧RI (movesF n f m.pl) pr p0 (PlOk n m.pl) 2400 p ([]) y.2∧phi 2400 y.2+y.2.2.length≤phi 2400 s0+s0.2.length∧2*phi 2400 y.2+y.2.2.length≤2*phi 2400 s0+s0.2.length)∧H'=rlH b7 b6 b5 nm p y.1 y.2++H):=by
 refine Ao Tryz.func76 U ntmps76 U ?_;have hrl:=hO.rl;have hpx:=hpo.1;have hps:p.2<m.rows.length:=by have:=hpo.2;rw[show m.pl.next.length=m.rows.length from List.length_map ..] at this;exact this
 have hup:=hO.up p.1 hpx;have hpl:=hO.pl;have hfl:=hO.ok.fewL;have hN:=Jz hO.ok hO.pm;have hrw:(gd rows p.1).l.length≤n.links.length:=by rw[hup];exact Nat.le_trans (List.length_filter_le _ _) (G3 n p.1 _)
 refine rD tb 2 U (e_ (Lf U cs_) ?_ U);rintro _ _ ⟨n6,rfl,rfl⟩;refine rO tb 4 U ?_;refine y_ (Lb U isAgg65 (by first|exact c_o|exact Bo (by repeat (first|exact hM.h13|refine Aq ?_|refine Ax ?_)) U)) ?_ U;refine rO tb 1 U (y_ (Lb U isAgg3 qco) ?_ U);refine y_ (Ld U U runUnderlying65 sizeOf27 qom (by first|exact rfl|exact hM.o.b (i:=p.1) qom)) ?_ U;refine y_ (Lb U isAgg27 (by first|exact c_o|exact cell1 ((hM.o.mono sbt).cs (i:=p.1) qom))) ?_ U;refine rO tb 5 U ?_;refine Ba (X:=Nat × RS × Qu) (V:=fun ⟨i,s,d⟩=>[(16, .int .i64 (i:Nat))]) (C:=[(1,_),(3,_),(4,_),(5,_),(6,_),(14,_),(15,_)]) (G:=fun ⟨i,s,d⟩=>(n6,Cl (encPl p) 119)::(rlH b7 b6 b5 nm p d s++H)) (φ:=fun ⟨i,s,d⟩=>i≤(gd rows p.1).l.length∧QuOk d s.2.length 2∧(∃ c,look s.1 p=some c)∧RI (movesF n f m.pl) pr p0 (PlOk n m.pl) 2400 p ((movesF n f m.pl p).drop i) s∧phi 2400 s+s.2.length≤phi 2400 s0+s0.2.length∧2*phi 2400 s+s.2.length≤2*phi 2400 s0+s0.2.length) (μ:=fun ⟨i,s,d⟩=>(gd rows p.1).l.length - i) (x0:=(0,s0,d0)) ?_ ⟨Aa rfl,Aa rfl,Aa rfl,Aa rfl,Aa rfl,Aa rfl,Aa rfl,trivial⟩ ⟨qat,trivial⟩ sb0 ?_
 ·exact⟨Nat.zero_le _,hd0,hp0,hri0,Int.le_refl _,Int.le_refl _⟩
 rintro⟨i,s,d⟩ ⟨hi,hd,hpp,hri,hb1,hb2⟩;refine rD tb 6 U ?_;refine Ad (Aa U) (fun c17=> ?_) (fun c17=> ?_)
 ·have hil:i<(upL n f p.1).length:=by rw[← hup];omega
  have hlm:(gd (gd rows p.1).l i)∈upL n f p.1:=by rw[hup];exact Af hil
  obtain⟨hl1,hl2,hl3⟩:=up_mem hlm;have hle:=hO.ok.ends _ (Af (l:=n.links) (i:=(gd (gd rows p.1).l i)) hl1);have hph0:=Kx hN hri;have hdr:=mv_drop (m:=m.pl) hil;rw[← hup] at hdr;rw[hdr] at hri;obtain⟨g1,g2,g3,g4⟩:=RI.one hN (Ip hO.ok hO.pm) (mv_pr hpl hO.pr) (by unfold movesF;exact List.mem_map.2 ⟨_,hlm,rfl⟩) hpp hri;refine rC tb 6 U (y_ (Ld U U runUnderlying27 sizeOf3 qom (by first|exact rfl|exact hM.o.b (i:=p.1) qom|exact(hM.r (gd rows p.1) (Af qom)).b (i:=i) qom)) ?_ U);refine y_ (Lb U isAgg3 (by first|exact c_o|exact cell1 (((hM.r (gd rows p.1) (Af qom)).mono sbt).cs (i:=i) qom))) ?_ U;refine rO tb 3 U (Bh 15 [(0,true),(1,true),(2,true),(3,true),(4,true),(5,true),(6,true),(7,true),(8,true),(9,true),(10,true),(11,true),(12,true),(13,true),(14,true)] _ mixd qkr sb0 ?_ A8);refine rP tb 1 U ?_;refine o_y U (Lb U isAgg121 (by first|exact c_o|exact Bo (by repeat (first|exact hM.h12|refine Aq ?_|refine Ax ?_)) U)) ?_ U Ac;refine rP tb 1 U (o_y U (Lb U isAgg3 qco) ?_ U Ac);refine rP tb 1 U ?_;refine o_y U (Lb U isAgg23 (by first|exact c_o|exact Bo (by repeat (first|exact hM.h4|refine Aq ?_|refine Ax ?_)) U)) ?_ U Ac;refine rP tb 1 U (o_y U (Ld U U runUnderlying23 sizeOf61 qom (by first|exact rfl|exact hM.o.b (i:=p.1) qom|exact(hM.r (gd rows p.1) (Af qom)).b (i:=i) qom|exact hM.net.links.b (i:=(gd (gd rows p.1).l i)) qom)) ?_ U Ac);refine rP tb 1 U (o_y U (Lb U isAgg3 (by first|exact c_o|exact c_m (hM.net.links.f (i:=(gd (gd rows p.1).l i)) (j:=1) qom U))) ?_ U Ac);refine o_y U (Cn (T U) (qe2 U U) call73 (fun H' hs=>paft_s n (hM.net.mono (stn hs)) m (hM.mc.mono (stn hs)) hO.sr hO.nl hO.pm b10 b4 ((stn hs).subset hM.h10) ((stn hs).subset hM.h4) p.2 (gd n.links (gd (gd rows p.1).l i)).dst hps qom)) ?_ U Ac;refine o_y U (Lb U isAgg27 (by first|exact c_o|exact Bo (by repeat (first|exact hM.hb|refine Aq ?_|refine Ax ?_)) U)) ?_ U Ac;refine rP tb 1 U (o_y U (Ld U U runUnderlying27 sizeOf3 qom (by first|exact rfl|exact hM.o.b (i:=p.1) qom|exact(hM.r (gd rows p.1) (Af qom)).b (i:=i) qom|exact hM.net.links.b (i:=(gd (gd rows p.1).l i)) qom|exact hM.p.b (i:=(gd (gd rows p.1).l i)) qom)) ?_ U Ac);refine o_y U (Lb U isAgg3 (by first|exact c_o|exact cell1 ((hM.p.mono sbt).cs (i:=(gd (gd rows p.1).l i)) qom))) ?_ U Ac;refine A7 rfl (e_ (C3 (T rfl) (qe2 rfl rfl) call124 (A6 (rlH b7 b6 b5 nm p d s) qlc (rlx1_s (H:=(n6,Cl (encPl p) 119)::H) b7 b6 b5 nm pr p d s hd (mvF n m.pl p.2 (gd (gd rows p.1).l i)) (by obtain⟨c,hc⟩:=hpp;exact⟨c,hc,hri.val hN hc⟩) (hO.pr _ (by show (gd (gd rows p.1).l i)<_;omega)) qom))) ?_ rfl);rintro _ _ ⟨d2,hd2,rfl⟩;refine rO tb 4 U (y_ (Av (T U) Ap qom) ?_ U);refine rO tb 2 U ?_;refine Ar ((i+1,rlx pr p s (mvF n m.pl p.2 (gd (gd rows p.1).l i)),d2)) ?_ ?_ ⟨qat,trivial⟩ ⟨Aa U,Aa U,Aa U,Aa U,Aa U,Aa U,Aa U,trivial⟩ ?_
  ·exact⟨by omega,hd2,g1,g2,Int.le_trans g3 hb1,Int.le_trans g4 hb2⟩
  ·first|omega|(simp only[];omega)
  ·exact sbt
 ·refine rC tb 2 U (Ag (rX tb 1 U (Cv U .nil ?_)));have hdn:(movesF n f m.pl p).drop i=[]:=List.drop_eq_nil_of_le (by rw[show (movesF n f m.pl p).length=(upL n f p.1).length from List.length_map ..,← hup];omega);rw[hdn] at hri;exact⟨_,⟨(d,s),⟨hd,hri,hb1,hb2⟩,rfl⟩,sbt⟩
theorem phi_fst {N:Nat}{s t:RS}(h:s.1=t.1):phi N s=phi N t:=by unfold phi;rw[h]
theorem relax_s {w0:World}{H:List (Nat × Obj)}(n:Nn)(f:Flr)(m:Mc)(pr:List Int)(b13 b12 b10 b4 bp:Nat)(rows:List RowQ)(qo qp:Option Addr)(co cp:Nat)(hM:StpM w0 H n f m pr b13 b12 b10 b4 bp rows qo qp co cp)(hO:StpOk n f m pr rows)(p0:Pl)(hp0:PlOk n m.pl p0):
  FSpec Tryz.prog w0 75 #[.agg (encPl p0).toArray, .func (.func 76) #[] #[.pointer (some ⟨b13,0,none⟩), .pointer (some ⟨b12,0,none⟩), .pointer (some ⟨b4,0,none⟩), .pointer (some ⟨bp,0,none⟩)]] H (fun v H'=>∃ y:Nat × List (Pl × Int),(v= .map (some y.1)∧RI (movesF n f m.pl) pr p0 (PlOk n m.pl) 2400 p0 ([]) (y.2,[]))∧H'=[(y.1,mapO encPK encJv y.2)]++H):=by
 refine Ao Tryz.func75 U ntmps75 U ?_;have hN:=Jz hO.ok hO.pm;refine rD tb 2 U (e_ (Lf U cs_) ?_ U);rintro _ _ ⟨n2,rfl,rfl⟩;refine rO tb 6 U (e_ D6 ?_ U);rintro _ _ ⟨n8,rfl,rfl⟩;refine y_ (Lc U isAgg119 sizeOf119 U qcs) ?_ U;refine e_ (F8 (l:=[]) (encV:=encJv) p0 (0:Int) (keyP74 (V:=Int)) (T U) (T U) U Ap U runUnderlying122) ?_ U;rintro _ _ ⟨rfl,rfl⟩;refine rO tb 1 U (e_ (Ai zeroValue122 cs_) ?_ U);rintro _ _ ⟨n5,rfl,rfl⟩;refine Aw (Le U U sizeOf122) U Ac ?_;rintro _ _ ⟨rfl,rfl⟩;refine rO tb 4 U (y_ (Lc U isAgg119 sizeOf119 U qcs) ?_ U);refine e_ (Aj (.cons (T U) .nil) (zbs126_1_0 _ _)) ?_ U;rintro _ _ ⟨n12,rfl,rfl⟩;refine e_ (Ai zeroValue126 cs_) ?_ U;rintro _ _ ⟨n6,rfl,rfl⟩;refine Aw (Le U U sizeOf126) U Ac ?_;rintro _ _ ⟨rfl,rfl⟩;refine rO tb 7 U ?_;refine Ba (X:=List (Pl × Int) × List Pl × Qu) (V:=fun ⟨m1,q,d⟩=>[]) (C:=[(1,_),(5,_),(6,_)]) (G:=fun ⟨m1,q,d⟩=>(n6,Cl [quV d q.length] 126)::(d.n,quO d (q.flatMap encPl) 119)::(n5,Cl [.map (some n8)] 122)::(n8,mapO encPK encJv m1)::(n2,Cl (encPl p0) 119)::H) (φ:=fun ⟨m1,q,d⟩=>QuOk d q.length 2∧RI (movesF n f m.pl) pr p0 (PlOk n m.pl) 2400 p0 ([]) (m1,q)∧phi 2400 (m1,q)+q.length≤6500000000000) (μ:=fun ⟨m1,q,d⟩=>2*(phi 2400 (m1,q)).toNat+q.length) (x0:=([(p0,0)],[p0],⟨n12,[],1,[],[]⟩)) ?_ ⟨Aa rfl,Aa rfl,Aa rfl,trivial⟩ trivial sb0 ?_
 ·exact⟨⟨Nat.le_refl _,rfl⟩,RI.init _ _ _ hp0,by simp[phi,sI]⟩
 rintro⟨m1,q,d⟩ ⟨hd,hri,hb1⟩;refine rD tb 4 U (y_ (Lb U isAgg126 qco) ?_ U);refine rO tb 4 U ?_;refine Ad (Aa U) (fun c15=> ?_) (fun c15=> ?_)
 ·obtain rfl:q=[]:=List.eq_nil_of_length_eq_zero qom;refine rC tb 3 U (Ag (rX tb 4 U (y_ (Lb U isAgg122 qco) ?_ U)));refine rO tb 5 U (Ah U (K9 U) ?_);exact⟨_,⟨(n8,m1),⟨rfl,hri⟩,rfl⟩,sbt⟩
 ·obtain⟨p,q2,rfl⟩:∃ p q2,q=p::q2:=by
   cases q with
   |nil=>exact absurd rfl c15
   |cons p q2=>exact⟨p,q2,rfl⟩
  refine rC tb 4 U (y_ (Lb U isAgg126 qco) ?_ U);refine y_ (Bi (T U) Ap runUnderlying126 sizeOf119 qom (by exact rfl)) ?_ U;refine y_ (Lc U isAgg119 sizeOf119 U (by exact(show Cells w0 _ _ _ (encPl p) from (qu_arr (w0:=w0) (l:=p::q2) (enc:=encPl) (sz:=2) (fun _=>rfl) fdd).cs (i:=0) (by simp)))) ?_ U;refine e_ (Ai zeroValue119 cs_) ?_ U;rintro _ _ ⟨n7,rfl,rfl⟩;refine Aw (Le U U sizeOf119) U Ac ?_;rintro _ _ ⟨rfl,rfl⟩;refine rO tb 4 U (y_ (Lb U isAgg126 qco) ?_ U);refine y_ (C5 (k:=1) (T U) Ap runUnderlying126 sizeOf119 (by simp)) ?_ U;refine Aw (Le U U sizeOf126) U Ac ?_;rintro _ _ ⟨rfl,rfl⟩;refine rO tb 4 U (y_ (Lc U isAgg119 sizeOf119 U qcs) ?_ U);obtain⟨d2,e1,e2,e3,e4,hd2⟩:=qu_pop (k:=0) 119 (enc:=encPl) (x:=p) (l:=q2) (fun _=>rfl) hd;obtain⟨hr2,hpp⟩:=hri.pop;have hpo:=hri.ok _ (F5 hpp.choose_spec);have hln:(p::q2).length - 1=q2.length:=by simp
  rw[e1,e2,e4,← e3,hln];refine y_ (Bl (.cons (T U) (.cons (T U) (.cons (T U) .nil)))) (e_ (C3 (T U) (qe2 U U) call76 (A6 (rlH n7 n6 n5 n8 p d2 (m1,q2)) (locRl (p:=p) (d:=d2) (s:=(m1,q2))) (stp_s (H:=(n2,Cl (encPl p0) 119)::H) n7 n6 n5 n8 n f m pr b13 b12 b10 b4 bp rows qo qp co cp hM.mono hO p0 p hpo d2 (m1,q2) hd2 hr2 hpp (by rw[phi_fst (s:=(m1,q2)) (t:=(m1,p::q2)) rfl];simp only[List.length_cons] at hb1 ⊢;omega)))) ?_ U) U;rintro _ _ ⟨⟨d3,m3,q3⟩,⟨hd3,hri3,hb3,hb4⟩,rfl⟩;have hpe:phi 2400 (m1,q2)=phi 2400 (m1,p::q2):=phi_fst U;have hb3:phi 2400 (m3,q3)+(q3.length:Int)≤phi 2400 (m1,q2)+(q2.length:Int):=hb3;have hb4:2*phi 2400 (m3,q3)+(q3.length:Int)≤2*phi 2400 (m1,q2)+(q2.length:Int):=hb4;have hph3:0≤phi 2400 (m3,q3):=Kx hN hri3;have hph0:=Kx hN hri;simp only[I5];refine rO tb 2 U ?_;refine Ar ((m3,q3,d3)) ?_ ?_ trivial ⟨Aa U,Aa U,Aa U,trivial⟩ ?_
  ·exact⟨hd3,hri3.any _,by show phi 2400 (m3,q3)+(q3.length:Int)≤_;simp only[List.length_cons] at hb1;omega⟩
  ·show 2*(phi 2400 (m3,q3)).toNat+q3.length<2*(phi 2400 (m1,p::q2)).toNat+(p::q2).length;simp only[List.length_cons];omega
  ·exact sbt
theorem rep_row (N:Nat):List.replicate N (Value.slice none 0 0)=(List.replicate N (⟨.nil,[]⟩:Row)).flatMap encRow++[]:=by
 induction N with
 |zero=>rfl
 |succ N ih=>rw[List.replicate_succ,List.replicate_succ,ih];simp[slQ,slC]
def rowsM (rs:List Row):List (Nat × Obj):=rs.flatMap fun r=>slH r.d (r.l.flatMap encU) 3
theorem rowsM_rep (N:Nat):rowsM (List.replicate N (⟨.nil,[]⟩:Row))=[]:=by
 induction N with
 |zero=>rfl
 |succ N ih=>rw[List.replicate_succ];unfold rowsM at *;rw[List.flatMap_cons,ih];rfl
theorem rowsM_split {rs:List Row}{i:Nat}(h:i<rs.length):rowsM rs=rowsM (rs.take i)++(slH (gd rs i).d ((gd rs i).l.flatMap encU) 3++rowsM (rs.drop (i+1))):=by
 have e:rs=rs.take i++gd rs i::rs.drop (i+1):=by
  rw[An h,← List.drop_eq_getElem_cons h,List.take_append_drop]
 conv=>lhs;rw[e]
 unfold rowsM;rw[List.flatMap_append,List.flatMap_cons]
theorem rowsM_set {rs:List Row}{i:Nat}(h:i<rs.length)(r:Row):rowsM (rs.set i r)=rowsM (rs.take i)++(slH r.d (r.l.flatMap encU) 3++rowsM (rs.drop (i+1))):=by
 rw[List.set_eq_take_append_cons_drop,if_pos h];unfold rowsM;rw[List.flatMap_append,List.flatMap_cons]
theorem locRow {rs:List Row}{i:Nat}(h:i<rs.length)(X:List (Nat × Obj)):LocL (rowsM rs++X) (slH (gd rs i).d ((gd rs i).l.flatMap encU) 3) (rowsM (rs.take i)++(rowsM (rs.drop (i+1))++X)) (fun M'=>rowsM (rs.take i)++(M'++(rowsM (rs.drop (i+1))++X))):=by
 rw[rowsM_split h,List.append_assoc,List.append_assoc];exact .a .h
theorem rowsM_sub {rs:List Row}{r:Row}(h:r∈rs):(slH r.d (r.l.flatMap encU) 3).Sublist (rowsM rs):=by
 induction rs with
 |nil=>cases h
 |cons a rs ih=>
  unfold rowsM at *;rw[List.flatMap_cons];rcases List.mem_cons.1 h with rfl|h
  ·exact List.sublist_append_left _ _
  ·exact(ih h).trans (List.sublist_append_right _ _)
def toQ (r:Row):RowQ:=⟨slQ r.d,slC r.d,r.l⟩
theorem arrQ {w0:World}{H:List (Nat × Obj)}{q:Option Addr}{rs:List Row}(h:Arr w0 H q 1 encRow rs):Arr w0 H q 1 encRQ (rs.map toQ):=fun i x hi=>by
 rw[List.getElem?_map] at hi;obtain⟨r,h1,rfl⟩:=Option.map_eq_some_iff.1 hi;exact h i r h1
theorem upK_le {n:Nn}{f:Flr}(x k:Nat):((outK n x k).filter (upF n f)).length≤k:=Nat.le_trans (List.length_filter_le _ _) (G3 n x k)
abbrev upK (n:Nn) (f:Flr) (x k:Nat):List Nat:=(outK n x k).filter (upF n f)
theorem upK_yes {n:Nn}{f:Flr}{k:Nat}(hu:upF n f k=true):upK n f (gd n.links k).src (k+1)=upK n f (gd n.links k).src k++[k]:=by
 unfold upK;rw[Dx,if_pos rfl,List.filter_append];simp[hu]
theorem upK_no {n:Nn}{f:Flr}{x k:Nat}(hu:upF n f k=false∨¬ (gd n.links k).src=x):upK n f x (k+1)=upK n f x k:=by
 unfold upK;rw[Dx]
 split
 ·rename_i h;rcases hu with hu|hu
  ·rw[List.filter_append];simp[hu]
  ·exact absurd h hu
 ·rfl
theorem seen_le':∀ {n:Nat} {seen:List Nat},seen.Nodup→(∀ i∈seen,i<n)→seen.length≤n
 |n,seen,h1,h2=>by
  have:=List.Nodup.length_le_of_subset h1 (l₂:=List.range n) (fun i hi=>List.mem_range.2 (h2 i hi))
  simpa using this
theorem seen_lt' {n i:Nat}{seen:List Nat}(hn:seen.Nodup)(hs:∀ i∈seen,i<n)(hi:i∉seen)(hl:i<n):seen.length<n:=by
 have:=seen_le' (n:=n) (seen:=i::seen) (List.nodup_cons.2 ⟨hi,hn⟩) (fun j hj=>by rcases List.mem_cons.1 hj with rfl|h;exact hl;exact hs j h);simp at this;omega
def BestK (fnd:Pl→Bool) (l:List (Pl × Int)) (seen:List Nat) (b:Int):Prop:=(b= -1∧∀ i∈seen,∀ p c,l[i]? =some (p,c)→fnd p=false)∨(0≤b∧(∃ p,fnd p=true∧(p,b)∈l)∧∀ i∈seen,∀ p c,l[i]? =some (p,c)→fnd p=true→b≤c)
theorem BestK.skip {fnd:Pl→Bool}{l:List (Pl × Int)}{seen:List Nat}{b:Int}{i:Nat}{p:Pl}{c:Int}(h:BestK fnd l seen b)(hi:l[i]? =some (p,c))(hf:fnd p=false∨0≤b∧b≤c):BestK fnd l (seen++[i]) b:=by
 rcases h with ⟨h1,h2⟩|⟨h1,h2,h4⟩
 ·refine .inl ⟨h1,fun j hj q d hq=> ?_⟩;rcases List.mem_append.1 hj with hj|hj
  ·exact h2 j hj q d hq
  ·simp at hj;subst hj;rw[hi] at hq;cases hq;rcases hf with hf|hf
   ·exact hf
   ·omega
 ·refine .inr ⟨h1,h2,fun j hj q d hq hqf=> ?_⟩;rcases List.mem_append.1 hj with hj|hj
  ·exact h4 j hj q d hq hqf
  ·simp at hj;subst hj;rw[hi] at hq;cases hq;rcases hf with hf|hf
   ·rw[hf] at hqf;cases hqf
   ·exact hf.2
theorem BestK.take {fnd:Pl→Bool}{l:List (Pl × Int)}{seen:List Nat}{b:Int}{i:Nat}{p:Pl}{c:Int}(h:BestK fnd l seen b)(hi:l[i]? =some (p,c))(hf:fnd p=true)(h0:0≤c)(hb:b<0∨c<b):BestK fnd l (seen++[i]) c:=by
 refine .inr ⟨h0,⟨p,hf,List.mem_of_getElem? hi⟩,fun j hj q d hq hqf=> ?_⟩;rcases List.mem_append.1 hj with hj|hj
 ·rcases h with ⟨h1,h2⟩|⟨h1,_,h4⟩
  ·rw[h2 j hj q d hq] at hqf;cases hqf
  ·have:=h4 j hj q d hq hqf;omega
 ·simp at hj;subst hj;rw[hi] at hq;cases hq;exact Int.le_refl _
theorem BestK.is {fnd:Pl→Bool}{l:List (Pl × Int)}{seen:List Nat}{b:Int}(h:BestK fnd l seen b)(hnd:(l.map (·.1)).Nodup)(hall:∀ i,i<l.length→i∈seen):BestIs (fun p c=>look l p=some c) fnd (if b<0 then none else some b):=by
 have key:∀ p c,look l p=some c→∃ i∈seen,l[i]? =some (p,c):=fun p c hl=>by
  obtain⟨i,hi,e⟩:=List.getElem_of_mem (F5 hl);exact⟨i,hall i hi,by rw[List.getElem?_eq_getElem hi,e]⟩
 rcases h with ⟨h1,h2⟩|⟨h1,⟨p,h3,h4⟩,h5⟩
 ·subst h1;intro p d hf hl;obtain⟨i,hi,e⟩:=key p d hl;rw[h2 i hi p d e] at hf;cases hf
 ·rw[if_neg qom];refine⟨⟨p,h3,Fj hnd h4⟩,fun q d hf hl=> ?_⟩;obtain⟨i,hi,e⟩:=key q d hl;exact h5 i hi q d e hf
theorem pprice_s {w0:World}{H:List (Nat × Obj)}(n:Nn)(hn:NetR w0 H n)(hok:NnOk n)(f:Flr)(hf:Arr w0 H f.q 1 encI f.links)(hfl:f.links.length≤1000000)(o:Odr)(ho:OdrOk n o)(m:Rxm)(hI:Is m o.e)(hM:RxM w0 H m)(hz:m.sz≤90000)(pr:List Int)(qp:Option Addr)(cp:Nat)(hP:Arr w0 H qp 1 encI pr)(hpl:pr.length=n.links.length)(hpr:∀ i,i<pr.length→0≤gd pr i∧gd pr i≤1048576):
  FSpec Tryz.prog w0 32 #[.agg (encNn n).toArray, .agg (encFl f).toArray, .agg (encOm (omO o m)).toArray, .slice qp pr.length cp] H (fun v H'=>PrR n f o pr v∧H'=H):=by
 refine Ao Tryz.func32 U ntmps32 U ?_;have hx:=ho.x;have hfewL:=hok.fewL;have hfewN:=hok.fewN;refine rD tb 2 U (e_ (Lf U cs_) ?_ U);rintro _ _ ⟨n4,rfl,rfl⟩;refine e_ (Lf U cs_) ?_ U;rintro _ _ ⟨n5,rfl,rfl⟩;refine e_ (Lf U cs_) ?_ U;rintro _ _ ⟨n6,rfl,rfl⟩;refine e_ (Lf U cs_) ?_ U;rintro _ _ ⟨n7,rfl,rfl⟩;refine rO tb 7 U ?_;refine y_ (Lc U isAgg56 sizeOf56 U (by exact Bk (l:=encOm (omO o m)) (o:=3) (k:=3) fdd)) ?_ U;refine e_ (Ak (qe1 U) call35 (buildM_s m o.e hI (hM.mono sbt) ho.lv (pm:=(buildF leastF o.e).1) (cc:=(buildF leastF o.e).2) U)) ?_ U;rintro _ _ ⟨mc,Mb,⟨rfl,hmpl,hmc⟩,rfl⟩;have hme2:McE mc.pl o.e:=by rw[hmpl];exact ho.mce
 have hpm:=hme2.ok;have hsr:Srt mc.names:=hme2.sr;have hnl:mc.names.length≤4611686018427387903:=(show mc.pl.names.length≤4611686018427387903 by rw[hmpl];exact Nat.le_trans ho.nm qom);have hrl:mc.pl.next.length=mc.rows.length:=List.length_map ..;have h0r:0<mc.rows.length:=by have:=hpm.some';omega
 refine rO tb 3 U (e_ (Ai zeroValue68 cs_) ?_ U);rintro _ _ ⟨n10,rfl,rfl⟩;refine Aw (Le U U sizeOf68) U Ac ?_;rintro _ _ ⟨rfl,rfl⟩;refine rO tb 7 U (y_ (Lb U isAgg3 qco) ?_ U);refine rO tb 1 U (y_ (Lb U isAgg3 qco) ?_ U);refine rO tb 3 U ?_;refine Ad (Aa U) (fun c30=> ?_) (fun c30=> ?_)
 ·refine rC tb 8 U (Ah U (.tmp (Aa U) (K9 U)) ?_);exact⟨_,⟨prR_none (price_none pr (by have h:(o.x:Int)=f.node:=c30;exact h.symm)),rfl⟩,sbt⟩
 ·refine rC tb 4 U (y_ (Bl (.cons (T U) (.cons (T U) .nil))) (e_ (Ai zeroValue121 cs_) ?_ U) U);rintro _ _ ⟨n12,rfl,rfl⟩;refine Aw (Le U U sizeOf121) U Ac ?_;rintro _ _ ⟨rfl,rfl⟩;refine rO tb 5 U (y_ (Lb U isAgg22 qco) ?_ U);refine rO tb 1 U (e_ (B7 (by':=24) (k:=n.nodes.length) (T U) runUnderlying65 sizeOf27 typeInfo27 U zeroValue27 U qom qom) ?_ U);rintro _ _ ⟨n35,rfl,rfl⟩;rw[rep_row n.nodes.length];refine e_ (Ai zeroValue65 cs_) ?_ U;rintro _ _ ⟨n13,rfl,rfl⟩;refine Aw (Le U U sizeOf65) U Ac ?_;rintro _ _ ⟨rfl,rfl⟩;refine rO tb 6 U (y_ (Lb U isAgg23 qco) ?_ U);refine kO tb 4 [4,5,6,7,10,12,13,37,38,39] rfl U (rG tb 1 U ?_);refine Ba (X:=Nat × List Row) (V:=fun ⟨k,rows⟩=>[(39, .int .i64 (k:Nat))]) (C:=[(4,_),(5,_),(6,_),(7,_),(10,_),(12,_),(13,_),(37,_),(38,_)]) (G:=fun ⟨k,rows⟩=>(n13,Cl [.slice (some ⟨n35,0,none⟩) n.nodes.length n.nodes.length] 65)::(slH (Sl.blk n35 n.nodes.length []) (rows.flatMap encRow) 27++(rowsM rows++((n12,Cl [.func (.func 73) #[] #[.pointer (some ⟨n10,0,none⟩), .pointer (some ⟨n4,0,none⟩)]] 121)::(n10,Cl (encMc mc) 68)::(Mb++((n7,Cl [.slice qp pr.length cp] 27)::(n6,Cl (encOm (omO o m)) 58)::(n5,Cl (encFl f) 29)::(n4,Cl (encNn n) 26)::H)))))) (φ:=fun ⟨k,rows⟩=>k≤n.links.length∧rows.length=n.nodes.length∧(∀ i,i<n.nodes.length→(gd rows i).l=upK n f i k)∧(∀ r∈rows,SlOk r.d r.l.length 1)) (μ:=fun ⟨k,rows⟩=>n.links.length - k) (x0:=(0,List.replicate n.nodes.length ⟨.nil,[]⟩)) ?_ ⟨Aa rfl,Aa rfl,Aa rfl,Aa rfl,Aa rfl,Aa rfl,Aa rfl,Aa rfl,Aa rfl,trivial⟩ ⟨qat,trivial⟩ (by show (_::(_++(rowsM (List.replicate n.nodes.length (⟨.nil,[]⟩:Row))++_))).Sublist _;rw[rowsM_rep];exact sbt) ?_
  ·exact⟨Nat.zero_le _,List.length_replicate ..,fun i hi=>by rw[An (by simpa using hi)];simp[upK,outK],fun r hr=>by rw[List.eq_of_mem_replicate hr];rfl⟩
  rintro⟨k,rows⟩ ⟨hk,hrn,hro,hso⟩;refine rD tb 6 U ?_;refine Ad (Aa U) (fun c40=> ?_) (fun c40=> ?_)
  ·have hle:=hok.ends _ (Af (l:=n.links) (i:=k) qom);have hrw:=hro (gd n.links k).src qom;refine rC tb 7 U (y_ (Ld U U runUnderlying23 sizeOf61 qom (by first|exact rfl|exact hn.links.b (i:=k) qom)) ?_ U);refine y_ (Lc U isAgg61 sizeOf61 U (by exact(hn.links.mono sbt).cs (i:=k) qom)) ?_ U;refine e_ (Ai zeroValue61 cs_) ?_ U;rintro _ _ ⟨n15,rfl,rfl⟩;refine rO tb 1 U ?_;refine Aw (Le U U sizeOf61) U Ac ?_;rintro _ _ ⟨rfl,rfl⟩;refine rO tb 4 U (y_ (Lc U isAgg26 sizeOf26 U qcs) ?_ U);refine y_ (Lc U isAgg29 sizeOf29 U qcs) ?_ U;refine rO tb 1 U (y_ (Ay (qe3 U U U) call71 (fun H' hs=>K4 n (hn.mono (stn hs)) f (hf.mono (stn hs)) qom k qom)) ?_ U);refine rO tb 2 U ?_
   first|refine Ad (Aa U) (fun c47=> ?_) (fun c47=> ?_)|refine Bq (Aa U) (fun c47=> ?_) (fun c47=> ?_)
   ·refine I9 10 12 ((n15,Cl (encLn (gd n.links k)) 61)::(n13,Cl [.slice (some ⟨n35,0,none⟩) n.nodes.length n.nodes.length] 65)::(slH (Sl.blk n35 n.nodes.length []) (rows.flatMap encRow) 27++((n12,Cl [.func (.func 73) #[] #[.pointer (some ⟨n10,0,none⟩), .pointer (some ⟨n4,0,none⟩)]] 121)::(n10,Cl (encMc mc) 68)::(Mb++((n7,Cl [.slice qp pr.length cp] 27)::(n6,Cl (encOm (omO o m)) 58)::(n5,Cl (encFl f) 29)::(n4,Cl (encNn n) 26)::H))))) ((n15,Cl (encLn (gd n.links k)) 61)::(n13,Cl [.slice (some ⟨n35,0,none⟩) n.nodes.length n.nodes.length] 65)::(slH (Sl.blk n35 n.nodes.length []) (rows.flatMap encRow) 27++((n12,Cl [.func (.func 73) #[] #[.pointer (some ⟨n10,0,none⟩), .pointer (some ⟨n4,0,none⟩)]] 121)::(n10,Cl (encMc mc) 68)::(Mb++((n7,Cl [.slice qp pr.length cp] 27)::(n6,Cl (encOm (omO o m)) 58)::(n5,Cl (encFl f) 29)::(n4,Cl (encNn n) 26)::H))))) mixd qkr (by exact sbt) (by exact sbt) ?_ A8;refine w_y (i:=0) U qkr (Lb U isAgg65 qco) ?_ U Ac;refine w_y (i:=1) U qkr (De (T U) fa61_0) ?_ U Ac;refine w_y (i:=2) U qkr (Lb U isAgg3 qco) ?_ U Ac;refine Bv [7,6,3] qkr U (i:=3) U qkr (Lb U isAgg65 qco) ?_ U Ac;refine Bv [7,6,5,4] qkr U (i:=4) U qkr (De (T U) fa61_0) ?_ U Ac;refine Bv [7,6,5] qkr U (i:=5) U qkr (Lb U isAgg3 qco) ?_ U Ac;refine Bv [7,6] qkr U (i:=6) U qkr (Ld U U runUnderlying65 sizeOf27 qom (by exact rfl)) ?_ U Ac;refine Bv [7] qkr U (i:=7) U qkr (Lb U isAgg27 (by first|exact c_o|exact cell1 (((A1 (w0:=w0) (d:=(Sl.blk n35 n.nodes.length [])) (enc:=encRow) (sz:=1) (e:=27) (l:=rows) (X:=H) (fun _=>rfl) (show SlOk (Sl.blk n35 n.nodes.length []) rows.length 1 from ⟨by omega,by simp;omega⟩)).mono sbt).cs (i:=(gd n.links k).src) qom))) ?_ U Ac;refine Bv [9,8] qkr U (i:=8) U qkr (Br (T U)) ?_ U Ac;refine Cb (i:=9) qkr qkr ?_;refine Dq U (Aj (.cons (T U) .nil) (zbs27_1_0 _)) ?_ U Ac qkr;rintro _ _ ⟨n57,rfl,rfl⟩;refine⟨sbt,(Cb (i:=10) qkr qkr ?_)⟩;refine C6 U (Bg (k) (by':=8) (enc:=encU) (l:=(gd rows (gd n.links k).src).l) (d:=(gd rows (gd n.links k).src).d) (by repeat (first|exact locRow (i:=(gd n.links k).src) qom _|apply LocL.a|apply LocL.t)) (T U) (T U) runUnderlying27 runUnderlying27 sizeOf3 typeInfo3 U zeroValue3 U (fun _=>rfl) U (hso _ (Af qom)) qde (by rw[hrw];have:(upK n f (gd n.links k).src k).length≤k:=upK_le _ _;omega)) ?_ U Ac qkr;rintro _ _ ⟨d2,rfl,hd2,rfl⟩;refine⟨sbt,(w_y (i:=11) U qkr (Ld U U runUnderlying65 sizeOf27 qom (by exact rfl)) ?_ U Ac)⟩;refine Gr qkr U ?_;refine e_ (B4 (d:=(Sl.blk n35 n.nodes.length [])) (l:=rows) (e:=27) (enc:=encRow) (sz:=1) (i:=(gd n.links k).src) (⟨d2,(gd rows (gd n.links k).src).l++[k]⟩:Row) (fun _=>rfl) qlc (T U) (T U) (.one U) U sizeOf27 qom (show SlOk (Sl.blk n35 n.nodes.length []) rows.length 1 from ⟨by omega,by simp;omega⟩)) ?_ U;rintro _ _ ⟨rfl,rfl⟩;refine kO tb 3 [4,5,6,7,10,12,13,37,38,39] rfl U (rG tb 1 U (y_ (Av (T U) Ap qom) ?_ U));refine rO tb 2 U ?_;refine Ar ((k+1,rows.set (gd n.links k).src (⟨d2,(gd rows (gd n.links k).src).l++[k]⟩:Row))) ?_ ?_ ⟨qat,trivial⟩ ⟨Aa U,Aa U,Aa U,Aa U,Aa U,Aa U,Aa U,Aa U,Aa U,trivial⟩ ?_
    ·refine⟨by omega,by rw[List.length_set,hrn],fun i hi=> ?_,fun r hr=> ?_⟩
     ·by_cases e:i=(gd n.links k).src
      ·subst e;rw[An (by rw[List.length_set];omega),List.getElem_set_self,upK_yes c47,← hrw]
      ·rw[upK_no (.inr (fun h=>e h.symm)),← hro i hi];exact congrArg Row.l (F0 (fun h=>e h.symm))
     ·rcases List.mem_or_eq_of_mem_set hr with h|rfl
      ·exact hso r h
      ·exact hd2
    ·first|omega|(simp only[];omega)
    ·(show ((n13,_)::(slH (Sl.blk n35 n.nodes.length []) ((rows.set (gd n.links k).src (⟨d2,(gd rows (gd n.links k).src).l++[k]⟩:Row)).flatMap encRow) 27++(rowsM (rows.set (gd n.links k).src (⟨d2,(gd rows (gd n.links k).src).l++[k]⟩:Row))++_))).Sublist _;rw[rowsM_set qom,List.append_assoc,List.append_assoc];exact sbt)
   ·refine rC tb 4 U (y_ (Av (T U) Ap qom) ?_ U);refine rO tb 2 U ?_;refine Ar ((k+1,rows)) ?_ ?_ ⟨qat,trivial⟩ ⟨Aa U,Aa U,Aa U,Aa U,Aa U,Aa U,Aa U,Aa U,Aa U,trivial⟩ ?_
    ·exact⟨by omega,hrn,fun i hi=>by rw[upK_no (.inl (by simpa using c47))];exact hro i hi,hso⟩
    ·first|omega|(simp only[];omega)
    ·first|(show ((n13,_)::(slH (Sl.blk n35 n.nodes.length []) ((rows.set (gd n.links k).src (⟨d2,(gd rows (gd n.links k).src).l++[k]⟩:Row)).flatMap encRow) 27++(rowsM (rows.set (gd n.links k).src (⟨d2,(gd rows (gd n.links k).src).l++[k]⟩:Row))++_))).Sublist _;rw[rowsM_set qom,List.append_assoc,List.append_assoc];exact sbt)|exact sbt
  ·obtain rfl:k=n.links.length:=by omega
   have hstM:StpM w0 ((n13,Cl [.slice (some ⟨n35,0,none⟩) n.nodes.length n.nodes.length] 65)::(slH (Sl.blk n35 n.nodes.length []) (rows.flatMap encRow) 27++(rowsM rows++((n12,Cl [.func (.func 73) #[] #[.pointer (some ⟨n10,0,none⟩), .pointer (some ⟨n4,0,none⟩)]] 121)::(n10,Cl (encMc mc) 68)::(Mb++((n7,Cl [.slice qp pr.length cp] 27)::(n6,Cl (encOm (omO o m)) 58)::(n5,Cl (encFl f) 29)::(n4,Cl (encNn n) 26)::H)))))) n f mc pr n13 n12 n10 n4 n7 (rows.map toQ) (some ⟨n35,0,none⟩) qp n.nodes.length cp:=
    ⟨hn.mono sbt,hmc.mono sbt,by rw[List.length_map,hrn];exact A2,fdd,fdd,fdd,fdd,arrQ ((A1 (d:=(Sl.blk n35 n.nodes.length [])) (enc:=encRow) (sz:=1) (e:=27) (l:=rows) (X:=H) (fun _=>rfl) (show SlOk (Sl.blk n35 n.nodes.length []) rows.length 1 from ⟨by omega,by simp;omega⟩)).mono sbt),fun r hr=>by
     obtain⟨u,hu,rfl⟩:=List.mem_map.1 hr;exact(A1 (X:=[]) (e:=3) (enc:=encU) (fun _=>rfl) (hso u hu)).mono (by rw[List.append_nil];exact(rowsM_sub hu).trans (List.Sublist.cons _ (List.Sublist.trans (List.sublist_append_left _ _) (List.sublist_append_right _ _)))),hP.mono sbt⟩
   have hstO:StpOk n f mc pr (rows.map toQ):=⟨hok,hpm,hsr,hnl,by rw[List.length_map,hrn],fun i hi=>by rw[Bu qom];exact hro i hi,hpl,hpr⟩;refine rC tb 2 U (Ag (rX tb 4 U (y_ (Lb U isAgg121 qco) ?_ U)));refine rO tb 1 U (y_ (Lb U isAgg3 qco) ?_ U);refine y_ (Cn (T U) (.cons Ap (.cons (T U) .nil)) call73 (fun H' hs=>paft_s n (hn.mono (stn hs)) mc (hmc.mono (stn hs)) hsr hnl hpm n10 n4 (hs.subset (show Fnd _ n10 (Cl (encMc mc) 68) from fdd)) (hs.subset (show Fnd _ n4 (Cl (encNn n) 26) from fdd)) 0 o.x h0r hx)) ?_ U;refine y_ (Bl (.cons (T U) (.cons (T U) (.cons (T U) (.cons (T U) .nil))))) (e_ (Ak (qe2 U U) call75 (relax_s n f mc pr n13 n12 n10 n4 n7 (rows.map toQ) (some ⟨n35,0,none⟩) qp n.nodes.length cp (hstM.mono sbt) hstO (p0F n mc.pl o.x) (Ky hpm hx))) ?_ U) U;rintro _ _ ⟨⟨nm,mm⟩,⟨rfl,hri⟩,rfl⟩;have hcert:=hri.done;have hN:=Jz hok hpm;refine rO tb 12 U ?_;refine e_ (eff_rangeMap (m:=nm) (l:=mm) (encK:=encPK) (encV:=encJv) (T U) (show Fnd _ nm (mapO encPK encJv mm) from fdd) runUnderlying122) ?_ U;rintro _ _ ⟨n68,rfl,rfl⟩;refine rO tb 3 U ?_;refine Ba (X:=List Nat × Int) (V:=fun ⟨seen,b⟩=>[(17, .int .i64 b)]) (C:=[(6,_),(10,_),(68,_)]) (G:=fun ⟨seen,b⟩=>(n68,itO nm mm.length seen mm.length)::([(nm,mapO encPK encJv mm)]++((n13,Cl [.slice (some ⟨n35,0,none⟩) n.nodes.length n.nodes.length] 65)::(slH (Sl.blk n35 n.nodes.length []) (rows.flatMap encRow) 27++(rowsM rows++((n12,Cl [.func (.func 73) #[] #[.pointer (some ⟨n10,0,none⟩), .pointer (some ⟨n4,0,none⟩)]] 121)::(n10,Cl (encMc mc) 68)::(Mb++((n7,Cl [.slice qp pr.length cp] 27)::(n6,Cl (encOm (omO o m)) 58)::(n5,Cl (encFl f) 29)::(n4,Cl (encNn n) 26)::H)))))))) (φ:=fun ⟨seen,b⟩=>BestK (fndF o.y mc.pl) mm seen b∧seen.Nodup∧∀ i∈seen,i<mm.length) (μ:=fun ⟨seen,b⟩=>mm.length - seen.length) (x0:=([], -1)) ?_ ⟨Aa rfl,Aa rfl,Aa rfl,trivial⟩ ⟨qat,trivial⟩ sb0 ?_
   ·exact⟨.inl ⟨rfl,fun i hi=>by cases hi⟩,List.nodup_nil,fun i hi=>by cases hi⟩
   rintro⟨seen,b⟩ ⟨hb,hsn,hlt⟩;refine rD tb 2 U ?_;refine e_ (eff_next (m:=nm) (l:=mm) (encK:=encPK) (encV:=encJv) (T U) (show Fnd _ nm (mapO encPK encJv mm) from fdd) (by repeat (first|exact Loc.h|apply Loc.t))) ?_ U;rintro _ _ (⟨i,⟨p,c⟩,hip,hni,rfl,rfl⟩|⟨hall,rfl,rfl⟩)
   ·refine rO tb 4 U ?_;refine Cj (Aa U) ?_;refine rC tb 5 U ?_;refine y_ (yl_entry (m:=nm) (l:=mm) (encK:=encPK) (encV:=encJv) (T U) (show Fnd _ nm (mapO encPK encJv mm) from fdd) (by repeat (first|exact A2|refine Aq ?_)) hip) ?_ U;refine y_ (Ew (T U) U) ?_ U;have hil:=(List.getElem?_eq_some_iff.1 hip).1;have hpc:(p,c)∈mm:=List.mem_of_getElem? hip;have hpo:PlOk n mc.pl p:=hri.ok _ hpc;have hcv:=hri.val hN (Fj hri.nd hpc);have hsl:=seen_lt' hsn hlt hni hil;have hac:p.2<mc.acc.length:=by
     have h1:=hpo.2;have h2:=hpm.acc;have h3:mc.pl.acc.length=mc.acc.length:=rfl;omega
    refine rO tb 1 U (e_ (Ai zeroValue119 cs_) ?_ U);rintro _ _ ⟨n18,rfl,rfl⟩;refine Aw (Le U U sizeOf119) U Ac ?_;rintro _ _ ⟨rfl,rfl⟩;refine rO tb 6 U (y_ (Lb U isAgg3 qco) ?_ U);refine rO tb 1 U (y_ (Lb U isAgg3 qco) ?_ U);refine rO tb 2 U ?_;refine A4 (s:=79) (Aa U) (fun c79=> ?_) (fun c79=> ?_)
    ·have e168:p.1=o.y:=by
      have h:(p.1:Int)=(o.y:Int):=c79;omega
     refine rO tb 1 U (A5 (Lb U isAgg66 qco) U (Az U U (Aa U)) ?_);refine rO tb 1 U (A5 (Lb U isAgg3 qco) U (Az U U (Aa U)) ?_);refine A5 (Ld U U runUnderlying66 sizeOf4 qom (by first|exact rfl|exact hn.links.b (i:=k) qom|exact hmc.a3.b (i:=p.2) hac)) U (Az U U (Aa U)) ?_;refine A5 (Lb U isAgg4 (by first|exact c_o|exact cell1 ((hmc.a3.mono sbt).cs (i:=p.2) hac))) U (Az U U (Aa U)) ?_;refine rO tb 2 U ?_
     first|refine A4 (s:=87) (Aa U) (fun c87=> ?_) (fun c87=> ?_)|refine Ej (s:=87) (Aa U) (fun c87=> ?_) (fun c87=> ?_)
     ·refine rO tb 3 U ?_;refine A4 (s:=90) (Aa U) (fun c90=> ?_) (fun c90=> ?_)
      ·refine kO tb 7 [6,10,17,19,68,95] rfl U (rG tb 6 U ?_);refine Ar ((seen++[i],c)) ?_ ?_ ⟨qat,trivial⟩ ⟨Aa U,Aa U,Aa U,trivial⟩ ?_
       ·refine⟨hb.take hip (by unfold fndF;show (decide (p.1=o.y)&&gd mc.acc p.2)=true;rw[c87,decide_eq_true e168];rfl) hcv.1 qom,?_,fun j hj=> ?_⟩
        ·rw[List.nodup_append];exact⟨hsn,by simp,by intro a ha b hb;simp at hb;subst hb;rintro rfl;exact hni ha⟩
        ·rcases List.mem_append.1 hj with h|h
         ·exact hlt j h
         ·simp at h;subst h;exact hil
       ·show mm.length - (seen++[i]).length<mm.length - seen.length;rw[List.length_append,List.length_singleton];omega
       ·exact sbt
      ·refine kO tb 7 [6,10,17,19,68,95] rfl U ?_;refine Ad (Aa U) (fun c95=> ?_) (fun c95=> ?_)
       ·refine rC tb 5 U ?_;refine Ar ((seen++[i],c)) ?_ ?_ ⟨qat,trivial⟩ ⟨Aa U,Aa U,Aa U,trivial⟩ ?_
        ·refine⟨hb.take hip (by unfold fndF;show (decide (p.1=o.y)&&gd mc.acc p.2)=true;rw[c87,decide_eq_true e168];rfl) hcv.1 qom,?_,fun j hj=> ?_⟩
         ·rw[List.nodup_append];exact⟨hsn,by simp,by intro a ha b hb;simp at hb;subst hb;rintro rfl;exact hni ha⟩
         ·rcases List.mem_append.1 hj with h|h
          ·exact hlt j h
          ·simp at h;subst h;exact hil
        ·show mm.length - (seen++[i]).length<mm.length - seen.length;rw[List.length_append,List.length_singleton];omega
        ·exact sbt
       ·refine rC tb 2 U ?_;refine Ar ((seen++[i],b)) ?_ ?_ ⟨qat,trivial⟩ ⟨Aa U,Aa U,Aa U,trivial⟩ ?_
        ·refine⟨hb.skip hip (.inr ⟨by omega,by omega⟩),?_,fun j hj=> ?_⟩
         ·rw[List.nodup_append];exact⟨hsn,by simp,by intro a ha b hb;simp at hb;subst hb;rintro rfl;exact hni ha⟩
         ·rcases List.mem_append.1 hj with h|h
          ·exact hlt j h
          ·simp at h;subst h;exact hil
        ·show mm.length - (seen++[i]).length<mm.length - seen.length;rw[List.length_append,List.length_singleton];omega
        ·exact sbt
     ·refine kO tb 10 [6,10,17,19,68,95] rfl U (rG tb 3 U ?_);refine Ar ((seen++[i],b)) ?_ ?_ ⟨qat,trivial⟩ ⟨Aa U,Aa U,Aa U,trivial⟩ ?_
      ·refine⟨hb.skip hip (.inl (by unfold fndF;show (decide (p.1=o.y)&&gd mc.acc p.2)=false;(rw[c87,Bool.and_false];done))),?_,fun j hj=> ?_⟩
       ·rw[List.nodup_append];exact⟨hsn,by simp,by intro a ha b hb;simp at hb;subst hb;rintro rfl;exact hni ha⟩
       ·rcases List.mem_append.1 hj with h|h
        ·exact hlt j h
        ·simp at h;subst h;exact hil
      ·show mm.length - (seen++[i]).length<mm.length - seen.length;rw[List.length_append,List.length_singleton];omega
      ·exact sbt
    ·have e168: ¬ p.1=o.y:=fun h=>c79 (by show (p.1:Int)=(o.y:Int);rw[h])
     refine kO tb 18 [6,10,17,19,68,95] rfl U (rG tb 3 U ?_);refine Ar ((seen++[i],b)) ?_ ?_ ⟨qat,trivial⟩ ⟨Aa U,Aa U,Aa U,trivial⟩ ?_
     ·refine⟨hb.skip hip (.inl (by unfold fndF;show (decide (p.1=o.y)&&gd mc.acc p.2)=false;first|(rw[c87,Bool.and_false];done)|(rw[decide_eq_false e168];rfl))),?_,fun j hj=> ?_⟩
      ·rw[List.nodup_append];exact⟨hsn,by simp,by intro a ha b hb;simp at hb;subst hb;rintro rfl;exact hni ha⟩
      ·rcases List.mem_append.1 hj with h|h
       ·exact hlt j h
       ·simp at h;subst h;exact hil
     ·show mm.length - (seen++[i]).length<mm.length - seen.length;rw[List.length_append,List.length_singleton];omega
     ·exact sbt
   ·refine rO tb 4 U ?_;refine H7 (Aa U) ?_;refine rC tb 2 U (Ag (rX tb 5 U (y_ (J4 (T U) Ap) (rO tb 7 U (Ah U (.tmp (Aa U) (K9 U)) ?_)) U)));have hbb:b≤1048576*2400:=by
     rcases hb with ⟨h1,_⟩|⟨_,⟨p,_,h2⟩,_⟩
     ·omega
     ·exact(hri.val hN (Fj hri.nd h2)).2
    exact⟨_,⟨prR_best (price_of hme2 (fun h=>c30 (by show (o.x:Int)=f.node;exact h.symm)) hcert (hb.is hri.nd hall)) hbb qom,rfl⟩,sbt⟩
theorem relF_some {ts:Pl→List (Pl × Nat)}{pr:List Int}{p0:Pl}{Pd:Pl→Prop}{N:Nat}(hN:∀ l:List Pl,l.Nodup→(∀ p∈l,Pd p)→l.length≤N)(hts:∀ p,Pd p→∀ x∈ts p,Pd x.1)(hpr:∀ p,∀ x∈ts p,0≤gd pr x.2∧gd pr x.2≤1048576):∀ (f:Nat) {p:Pl} {s:RS},RI ts pr p0 Pd N p [] s→2*phi N s+s.2.length<f→∃ m,relF ts pr f s=some m∧RI ts pr p0 Pd N p0 [] (m,[])
 |0,p,s,h,hf=>by have:=Kx hN h;omega
 |f+1,p,(m0,[]),h,hf=>⟨m0,rfl,h.any _⟩
 |f+1,p,(m0,p'::q),h,hf=>by
  obtain⟨h1,h2⟩:=h.pop;obtain⟨_,h3,_,h5⟩:=h1.all hN hts hpr [] _ rfl h2;have e:phi N (m0,q)=phi N (m0,p'::q):=phi_fst U;obtain⟨m,h6,h7⟩:=relF_some hN hts hpr f h3 (by
   have h5':2*phi N (rlxs pr p' (m0,q) (ts p'))+((rlxs pr p' (m0,q) (ts p')).2.length:Int)≤2*phi N (m0,q)+(q.length:Int):=h5;simp only[List.length_cons] at hf;omega)
  exact⟨m,h6,h7⟩
def priceF (n:Nn) (f:Flr) (o:Odr) (pr:List Int):Option Int:=if f.node=o.x then none else
 match relF (movesF n f (mOf o.e)) pr 13000000000000 ([(p0F n (mOf o.e) o.x,0)],[p0F n (mOf o.e) o.x]) with
 |some m=>bestF (fndF o.y (mOf o.e)) m
 |none=>none
theorem priceF_is {n:Nn}(hok:NnOk n)(f:Flr){o:Odr}(ho:OdrOk n o){pr:List Int}(hpl:pr.length=n.links.length)(hpr:∀ i,i<pr.length→0≤gd pr i∧gd pr i≤1048576):PriceIs n f o pr (priceF n f o pr)∧∀ c,priceF n f o pr=some c→0≤c∧c≤1048576*2400:=by
 unfold priceF
 split
 ·rename_i h;exact⟨price_none pr h,fun c hc=>by cases hc⟩
 ·rename_i hf;have hpm:=ho.mce.ok;have hN:=Jz hok hpm;obtain⟨m,h1,h2⟩:=relF_some hN (Ip hok hpm) (mv_pr hpl hpr) 13000000000000 (RI.init (movesF n f (mOf o.e)) pr 2400 (Ky hpm ho.x)) (by simp[phi,sI]);rw[h1];have hb:=bestF_is (fndF o.y (mOf o.e)) m;have hb2:BestIs (fun p c=>look m p=some c) (fndF o.y (mOf o.e)) (bestF (fndF o.y (mOf o.e)) m):=hb.congr fun p c=>⟨Fj h2.nd,F5⟩
  refine⟨price_of ho.mce hf h2.done hb2,fun c hc=> ?_⟩;have hc:bestF (fndF o.y (mOf o.e)) m=some c:=hc;rw[hc] at hb2;obtain⟨⟨p,_,h3⟩,_⟩:=hb2;exact h2.val hN h3
theorem prR_F {n:Nn}(hok:NnOk n){f:Flr}{o:Odr}(ho:OdrOk n o){pr:List Int}(hpl:pr.length=n.links.length)(hpr:∀ i,i<pr.length→0≤gd pr i∧gd pr i≤1048576){v:Value}(h:PrR n f o pr v):v= .tuple #[.int .i64 ((priceF n f o pr).getD 0), .bool (priceF n f o pr).isSome]:=by
 obtain⟨r,rfl,h1,_⟩:=h;rw[PriceIs.uniq h1 (priceF_is hok f ho hpl hpr).1]
def rngB (pr:List Int):Bool:=pr.all fun p=>decide (0≤p∧p≤1048576)
def roomF (n:Nn) (f:Flr) (pr:List Int) (k:Nat):Int:=sI (List.range k) fun k=>if upF n f k then gd pr k*(gd n.links k).cap else 0
def askF (n:Nn) (f:Flr) (pr:List Int) (os:List Odr):Int:=sI os fun o=>o.amt*(priceF n f o pr).getD 0
def refF (n:Nn) (f:Flr) (os:List Odr) (pr:List Int):Bool:=decide (pr.length=n.links.length)&&(rngB pr&&((os.all fun o=>(priceF n f o pr).isSome)&&decide (roomF n f pr n.links.length<askF n f pr os)))
theorem rngB_at {pr:List Int}(h:rngB pr=true):∀ i,i<pr.length→0≤gd pr i∧gd pr i≤1048576:=fun i hi=>by
 have:=List.all_eq_true.1 h _ (Af hi)
 simpa using this
theorem rngB_of {pr:List Int}(h:∀ i,i<pr.length→0≤gd pr i∧gd pr i≤1048576):rngB pr=true:=List.all_eq_true.2 fun x hx=>by
 obtain⟨i,hi,rfl⟩:=List.getElem_of_mem hx;have:=h i hi;rw[An hi] at this
 simpa using this
theorem rngB_no {pr:List Int}{i:Nat}(hi:i<pr.length)(h: ¬ (0≤gd pr i∧gd pr i≤1048576)):rngB pr=false:=by
 cases hb:rngB pr
 ·rfl
 ·exact absurd (rngB_at hb i hi) h
theorem OdR.eq {m:Om}{o:Odr}(h:OdR m o):m=omO o m.m:=by
 obtain⟨a,b,c,d⟩:=m;have h1:a=o.x:=h.x;have h2:b=o.y:=h.y;have h3:c=o.amt:=h.amt;subst h1 h2 h3;rfl
theorem mul_rng {a b A B:Int}(ha:0≤a∧a≤A)(hb:0≤b∧b≤B):0≤a*b∧a*b≤A*B:=by
 refine⟨Int.mul_nonneg ha.1 hb.1,?_⟩;have h1:=Int.mul_le_mul_of_nonneg_left hb.2 ha.1;have h2:=Int.mul_le_mul_of_nonneg_right ha.2 (show (0:Int)≤B by omega);omega
theorem Gp (n:Nn)(f:Flr)(pr:List Int)(k:Nat):roomF n f pr (k+1)=roomF n f pr k+if upF n f k then gd pr k*(gd n.links k).cap else 0:=by
 unfold roomF;rw[List.range_succ,Fl];simp[sI]
theorem askF_take {n:Nn}{f:Flr}{pr:List Int}{os:List Odr}{i:Nat}(h:i<os.length):askF n f pr (os.take (i+1))=askF n f pr (os.take i)+(gd os i).amt*(priceF n f (gd os i) pr).getD 0:=by
 unfold askF;rw[Ch h,Fl];simp[sI]
structure OsOk (n:Nn) (os:List Om) (os':List Odr):Prop where
 r:OsR os os'
 ok:∀ o∈os',OdrOk n o
 z:∀ m∈os,m.m.sz≤90000
 few:os.length≤200
theorem ppriceF_s {w0:World}{H:List (Nat × Obj)}(n:Nn)(hn:NetR w0 H n)(hok:NnOk n)(f:Flr)(hf:Arr w0 H f.q 1 encI f.links)(hfl:f.links.length≤1000000)(om:Om)(o:Odr)(hod:OdR om o)(ho:OdrOk n o)(hM:RxM w0 H om.m)(hz:om.m.sz≤90000)(pr:List Int)(qp:Option Addr)(cp:Nat)(hP:Arr w0 H qp 1 encI pr)(hpl:pr.length=n.links.length)(hpr:∀ i,i<pr.length→0≤gd pr i∧gd pr i≤1048576):
  FSpec Tryz.prog w0 32 #[.agg (encNn n).toArray, .agg (encFl f).toArray, .agg (encOm om).toArray, .slice qp pr.length cp] H (Still (.tuple #[.int .i64 ((priceF n f o pr).getD 0), .bool (priceF n f o pr).isSome]) H):=by
 rw[hod.eq];refine(pprice_s n hn hok f hf hfl o ho om.m hod.e hM hz pr qp cp hP hpl hpr).mono ?_;rintro v H' ⟨hv,rfl⟩;exact⟨prR_F hok ho hpl hpr hv,rfl⟩
theorem prng_s {w0:World}{H:List (Nat × Obj)}(a:Int):
  FSpec Tryz.prog w0 70 #[.int .i64 a] H (Still (.bool (!decide (0≤a∧a≤1048576))) H):=by
 refine Ao Tryz.func70 U ntmps70 U (rD tb 8 U (y_ (Ay (.cons (T U) (.cons Ap (.cons Ap .nil))) call46 (fun H' hs=>F4 a 0 1048576)) ?_ U));refine A5 (A9 (T U)) U Ac ?_;refine rO tb 4 U (Ah U (K9 U) ?_);exact⟨_,⟨vbool decide_not,rfl⟩,sbt⟩
theorem pidx_s {w0:World}{H:List (Nat × Obj)}(pr:List Int)(qp:Option Addr)(cp:Nat)(hP:Arr w0 H qp 1 encI pr)(hp1:pr.length≤1000000):
  FSpec Tryz.prog w0 120 #[.slice qp pr.length cp, .func (.func 70) #[] #[]] H (fun v H'=>(∃ k:Int,v= .int .i64 k∧((k= -1∧rngB pr=true)∨(0≤k∧rngB pr=false)))∧H'=H):=by
 refine Ao Tryz.func120 U ntmps120 U (rD tb 14 U ?_);refine Bd (X:=Nat) (V:=fun i=>[(8, .int .i64 (i:Nat))]) (C:=[(0,_),(1,_),(7,_)]) (φ:=fun i=>i≤pr.length∧∀ j,j<i→0≤gd pr j∧gd pr j≤1048576) (μ:=fun i=>pr.length - i) (x0:=0) ?_ ⟨Aa U,Aa U,Aa U,trivial⟩ ⟨qat,trivial⟩ ?_
 ·exact⟨Nat.zero_le _,fun j hj=>by omega⟩
 rintro i ⟨hi,hno⟩;refine rD tb 6 U ?_;refine Ad (Aa U) (fun c9=> ?_) (fun c9=> ?_)
 ·refine rC tb 15 U (y_ (Ld U U runUnderlying27 sizeOf3 qom (by first|exact rfl|exact hP.b (i:=i) qom)) ?_ U);refine y_ (Lb U isAgg3 (by first|exact c_o|exact cell1 ((hP.mono sbt).cs (i:=i) qom))) ?_ U;refine y_ (Cn (T U) (qe1 U) call70 (fun H' hs=>prng_s (gd pr i))) (rO tb 2 U ?_) U
  first|refine Ad (Aa U) (fun c16=> ?_) (fun c16=> ?_)|refine Bq (Aa U) (fun c16=> ?_) (fun c16=> ?_)
  ·refine rC tb 9 U (As (rX tb 2 U (Ah U (K9 U) ?_)));exact⟨_,⟨⟨_,rfl, .inr ⟨by omega,rngB_no (i:=i) qom (fun hh=>by rw[decide_eq_true hh] at c16;cases c16)⟩⟩,rfl⟩,sbt⟩
  ·refine rC tb 4 U (y_ (Av (T U) Ap qom) ?_ U);refine rO tb 2 U ?_;refine Ar (i+1) ?_ ?_ ⟨qat,trivial⟩ ⟨Aa U,Aa U,Aa U,trivial⟩ ?_
   ·refine⟨by omega,fun j hj=> ?_⟩
    by_cases e:j=i
    ·subst e;simpa using c16
    ·exact hno j qom
   ·omega
   ·exact sbt
 ·refine rC tb 2 U (Ag (rX tb 8 U (Ah U (K9 U) ?_)));exact⟨_,⟨⟨_,rfl, .inl ⟨rfl,rngB_of fun j hj=>hno j qom⟩⟩,rfl⟩,sbt⟩
theorem all_no {α:Type}[Inhabited α] {p:α→Bool}{l:List α}{i:Nat}(h:i<l.length)(hp:p (gd l i)=false):l.all p=false:=List.all_eq_false.2 ⟨_,Af h,by rw[hp];decide⟩
theorem all_yes {α:Type}[Inhabited α] {p:α→Bool}{l:List α}(h:∀ i,i<l.length→p (gd l i)=true):l.all p=true:=List.all_eq_true.2 fun x hx=>by
 obtain⟨i,hi,rfl⟩:=List.getElem_of_mem hx;have:=h i hi
 rwa [An hi] at this
theorem pcont_s {w0:World}{H:List (Nat × Obj)}(pr:List Int)(qp:Option Addr)(cp:Nat)(hP:Arr w0 H qp 1 encI pr)(hp1:pr.length≤1000000):
  FSpec Tryz.prog w0 69 #[.slice qp pr.length cp, .func (.func 70) #[] #[]] H (Still (.bool (!rngB pr)) H):=by
 refine Ao Tryz.func69 U ntmps69 U (rD tb 9 U (e_ (Ak (qe2 U U) call120 (pidx_s pr qp cp (hP.mono sbt) hp1)) ?_ U));rintro _ _ ⟨⟨k,rfl,hk⟩,rfl⟩;refine rO tb 5 U (Ah U (K9 U) ?_);exact⟨_,⟨by rcases hk with ⟨h1,h2⟩|⟨h1,h2⟩<;>rw[h2]<;>exact vbool (by simp;omega),rfl⟩,sbt⟩
theorem prefuted_s {w0:World}{H:List (Nat × Obj)}(n:Nn)(hn:NetR w0 H n)(hok:NnOk n)(hcap:∀ x∈n.links,0≤x.cap∧x.cap≤1048576)(f:Flr)(hf:Arr w0 H f.q 1 encI f.links)(hfl:f.links.length≤1000000)(os:List Om)(os2:List Odr)(qo:Option Addr)(co:Nat)(hO:OsM w0 H qo os)(hoo:OsOk n os os2)(pr:List Int)(qp:Option Addr)(cp:Nat)(hP:Arr w0 H qp 1 encI pr)(hp1:pr.length≤1000000):
  FSpec Tryz.prog w0 29 #[.agg (encNn n).toArray, .agg (encFl f).toArray, .slice qo os.length co, .slice qp pr.length cp] H (Still (.bool (refF n f os2 pr)) H):=by
 refine Ao Tryz.func29 U ntmps29 U ?_;have hfewL:=hok.fewL;have hno:=hoo.few;have hol:=hoo.r.len;refine rD tb 2 U (e_ (Lf U cs_) ?_ U);rintro _ _ ⟨n4,rfl,rfl⟩;refine e_ (Lf U cs_) ?_ U;rintro _ _ ⟨n5,rfl,rfl⟩;refine rO tb 9 U (y_ (Lb U isAgg23 qco) ?_ U);refine rO tb 3 U ?_;refine A4 (s:=23) (Aa U) (fun c23=> ?_) (fun c23=> ?_)
 ·refine rO tb 13 U (Ah U (K9 U) ?_);exact⟨_,⟨vbool (by unfold refF;rw[decide_eq_false qom];rfl),rfl⟩,sbt⟩
 ·have hpn:pr.length=n.links.length:=by omega
  refine rO tb 1 U (A5 (Ay (.cons (T U) (.cons J1 .nil)) call69 (fun H' hs=>pcont_s pr qp cp (hP.mono (stn hs)) hp1)) U (Az U U (Aa U)) (rO tb 3 U ?_))
  first|refine Ad (Aa U) (fun c26=> ?_) (fun c26=> ?_)|refine Bq (Aa U) (fun c26=> ?_) (fun c26=> ?_)
  ·refine rC tb 7 U (Ah U (K9 U) ?_);exact⟨_,⟨vbool (by unfold refF;rw[show rngB pr=false by simpa using c26];simp),rfl⟩,sbt⟩
  ·have hrb:rngB pr=true:=by simpa using c26
   have hrn:=rngB_at hrb;refine rC tb 17 U ?_;refine Bd (X:=Nat × Int) (V:=fun ⟨i,rm⟩=>[(29, .int .i64 (i:Nat)),(9, .int .i64 rm)]) (C:=[(2,_),(3,_),(4,_),(5,_),(10,_),(27,_),(28,_)]) (φ:=fun ⟨i,rm⟩=>i≤pr.length∧rm=roomF n f pr i∧(0≤roomF n f pr i∧roomF n f pr i≤1099511627776*i)) (μ:=fun ⟨i,rm⟩=>pr.length - i) (x0:=(0,0)) ?_ ⟨Aa rfl,Aa rfl,Aa rfl,Aa rfl,Aa rfl,Aa rfl,Aa rfl,trivial⟩ ⟨qat,qat,trivial⟩ ?_
   ·exact⟨Nat.zero_le _,by simp[roomF,sI],by simp[roomF,sI]⟩
   rintro⟨i,rm⟩ ⟨hi,hrm,hrr⟩;refine rD tb 6 U ?_;refine Ad (Aa U) (fun c30=> ?_) (fun c30=> ?_)
   ·have hle:=hcap _ (Af (l:=n.links) (i:=i) qom);have hpi:=hrn i qom;have hmul:=mul_rng hpi hle;refine rC tb 7 U (y_ (Ld U U runUnderlying27 sizeOf3 qom (by first|exact rfl|exact hP.b (i:=i) qom)) ?_ U);refine y_ (Lb U isAgg3 (by first|exact c_o|exact cell1 ((hP.mono sbt).cs (i:=i) qom))) ?_ U;refine rO tb 6 U (y_ (Lc U isAgg26 sizeOf26 U qcs) ?_ U);refine y_ (Lc U isAgg29 sizeOf29 U qcs) ?_ U;refine rO tb 1 U (y_ (Ay (qe3 U U U) call71 (fun H' hs=>K4 n (hn.mono (stn hs)) f (hf.mono (stn hs)) qom i qom)) ?_ U);refine rO tb 2 U ?_
    first|refine Ad (Aa U) (fun c37=> ?_) (fun c37=> ?_)|refine Bq (Aa U) (fun c37=> ?_) (fun c37=> ?_)
    ·refine rC tb 4 U (y_ (Lb U isAgg23 qco) ?_ U);refine rO tb 1 U (y_ (Ld U U runUnderlying23 sizeOf61 qom (by first|exact rfl|exact hP.b (i:=i) qom|exact hn.links.b (i:=i) qom)) ?_ U);refine rO tb 1 U (y_ (Lb U isAgg3 (by first|exact c_o|exact c_m (hn.links.f (i:=i) (j:=2) qom U))) ?_ U);refine y_ (H3 (T U) (T U) qom) ?_ U;refine y_ (Av (T U) (T U) qom) ?_ U;refine kO tb 4 [2,3,4,5,9,10,27,28,29] rfl U (rG tb 1 U (y_ (Av (T U) Ap qom) ?_ U));refine rO tb 2 U ?_;refine Ar ((i+1,rm+gd pr i*(gd n.links i).cap)) ?_ ?_ ⟨qat,qat,trivial⟩ ⟨Aa U,Aa U,Aa U,Aa U,Aa U,Aa U,Aa U,trivial⟩ ?_
     ·refine⟨by omega,by rw[Gp,if_pos c37,hrm],?_⟩;rw[Gp,if_pos c37];omega
     ·first|omega|(simp only[];omega)
     ·exact sbt
    ·refine rC tb 4 U (y_ (Av (T U) Ap qom) ?_ U);refine rO tb 2 U ?_;refine Ar ((i+1,rm)) ?_ ?_ ⟨qat,qat,trivial⟩ ⟨Aa U,Aa U,Aa U,Aa U,Aa U,Aa U,Aa U,trivial⟩ ?_
     ·have hif: ¬ upF n f i=true:=by simpa using c37
      refine⟨by omega,by rw[Gp,if_neg hif,hrm,Int.add_zero],?_⟩;rw[Gp,if_neg hif];omega
     ·first|omega|(simp only[];omega)
     ·exact sbt
   ·obtain rfl:i=pr.length:=by omega
    refine rC tb 2 U (Ag (rX tb 11 U ?_));refine Bd (X:=Nat × Int) (V:=fun ⟨i,ak⟩=>[(51, .int .i64 (i:Nat)),(10, .int .i64 ak)]) (C:=[(3,_),(4,_),(5,_),(9,_),(49,_),(50,_)]) (φ:=fun ⟨i,ak⟩=>i≤os.length∧ak=askF n f pr (os2.take i)∧(0≤askF n f pr (os2.take i)∧askF n f pr (os2.take i)≤2638827906662400*i)∧(∀ j,j<i→(priceF n f (gd os2 j) pr).isSome=true)) (μ:=fun ⟨i,ak⟩=>os.length - i) (x0:=(0,0)) ?_ ⟨Aa rfl,Aa rfl,Aa rfl,Aa rfl,Aa rfl,Aa rfl,trivial⟩ ⟨qat,qat,trivial⟩ ?_
    ·exact⟨Nat.zero_le _,by simp[askF,sI],by simp[askF,sI],fun j hj=>by omega⟩
    rintro⟨i,ak⟩ ⟨hi,has,hsr,hss⟩;refine rD tb 6 U ?_;refine Ad (Aa U) (fun c52=> ?_) (fun c52=> ?_)
    ·have hod:=hoo.r.at' i qom;have ho1:=hoo.ok _ (Af (l:=os2) (i:=i) qom);have hprI:=(priceF_is hok f ho1 hpn hrn).2;have hpv:0≤(priceF n f (gd os2 i) pr).getD 0∧(priceF n f (gd os2 i) pr).getD 0≤1048576*2400:=by
      cases hq:priceF n f (gd os2 i) pr with
      |none=>simp
      |some c=>simpa using hprI c hq
     have ha0:=ho1.a0;have ha1:=ho1.a1;have hmul:=mul_rng ⟨ha0,ha1⟩ hpv;have hamt:=hod.amt;refine rC tb 6 U (y_ (Ld U U runUnderlying30 sizeOf58 qom (by first|exact rfl|exact hP.b (i:=i) qom|exact hn.links.b (i:=i) qom|exact hO.a.b (i:=i) qom)) ?_ U);refine y_ (Lc U isAgg58 sizeOf58 U (by exact(hO.a.mono sbt).cs (i:=i) qom)) ?_ U;refine e_ (Ai zeroValue58 cs_) ?_ U;rintro _ _ ⟨n14,rfl,rfl⟩;refine Aw (Le U U sizeOf58) U Ac ?_;rintro _ _ ⟨rfl,rfl⟩;refine rO tb 4 U (y_ (Lc U isAgg26 sizeOf26 U qcs) ?_ U);refine y_ (Lc U isAgg29 sizeOf29 U qcs) ?_ U;refine y_ (Lc U isAgg58 sizeOf58 U qcs) ?_ U;refine rO tb 1 U (y_ (Ay (qe4 U U U U) call32 (fun H' hs=>ppriceF_s n (hn.mono (stn hs)) hok f (hf.mono (stn hs)) hfl (gd os i) (gd os2 i) hod ho1 ((hO.m _ (Af qom)).mono (stn hs)) (hoo.z _ (Af qom)) pr qp cp (hP.mono (stn hs)) hpn hrn)) ?_ U);refine rO tb 11 U ?_
     first|refine A5 (A9 (T U)) U Ac ?_|refine A5 (B0 (T U)) U Ac ?_
     refine rO tb 2 U ?_
     first|refine Ad (Aa U) (fun c64=> ?_) (fun c64=> ?_)|refine Bq (Aa U) (fun c64=> ?_) (fun c64=> ?_)
     ·refine rC tb 9 U (As (rX tb 2 U (Ah U (K9 U) ?_)));exact⟨_,⟨vbool (by unfold refF;rw[all_no (l:=os2) (i:=i) qom (by simpa using c64)];simp),rfl⟩,sbt⟩
     ·refine rC tb 5 U (y_ (Lb U isAgg3 qco) ?_ U);refine rO tb 1 U (y_ (H3 (T U) (T U) (by rw[hamt];omega)) ?_ U);refine y_ (Av (T U) (T U) (by rw[hamt];omega)) ?_ U;refine kO tb 4 [3,4,5,9,10,49,50,51] rfl U (rG tb 1 U (y_ (Av (T U) Ap qom) ?_ U));refine rO tb 2 U ?_;refine Ar ((i+1,ak+(gd os i).amt*(priceF n f (gd os2 i) pr).getD 0)) ?_ ?_ ⟨qat,qat,trivial⟩ ⟨Aa U,Aa U,Aa U,Aa U,Aa U,Aa U,trivial⟩ ?_
      ·refine⟨by omega,by rw[askF_take qom,has,hamt],?_,fun j hj=> ?_⟩
       ·rw[askF_take qom];omega
       ·by_cases e:j=i
        ·subst e;simpa using c64
        ·exact hss j qom
      ·first|omega|(simp only[];omega)
      ·exact sbt
    ·refine rC tb 2 U (Ag (rX tb 11 U (Ah U (K9 U) ?_)));have hin:os2.take i=os2:=List.take_of_length_le qom;rw[hin] at has;exact⟨_,⟨vbool (by unfold refF;rw[decide_eq_true hpn,hrb,all_yes fun j hj=>hss j qom,has,hrm,hpn];rfl),rfl⟩,sbt⟩
theorem rholdsO_s {w0:World}{H:List (Nat × Obj)}(n:Nn)(hn:NetR w0 H n)(hok:NnOk n)(f:Flr)(hf:Arr w0 H f.q 1 encI f.links)(hfl:f.links.length≤1000000)(om:Om)(o:Odr)(hod:OdR om o)(ho:OdrOk n o)(hM:RxM w0 H om.m)(ls:List Int)(q:Option Addr)(c:Nat)(hA:Arr w0 H q 1 encI ls)(hlen:ls.length≤3000):
  FSpec Tryz.prog w0 34 #[.agg (encNn n).toArray, .agg (encFl f).toArray, .agg (encRx om.m).toArray, .int .i64 om.x, .int .i64 om.y, .slice q ls.length c] H (Still (.bool (holdsF n f o.e o.x o.y ls)) H):=by
 rw[hod.x,hod.y];exact rholds_s n hn hok f hf qom om.m o.e hod.e hM ho.lv o.x o.y ho.x ls q c hA qom
theorem pholdsO_s {w0:World}{H:List (Nat × Obj)}(n:Nn)(hn:NetR w0 H n)(hok:NnOk n)(f:Flr)(hf:Arr w0 H f.q 1 encI f.links)(hfl:f.links.length≤1000000)(om:Om)(o:Odr)(hod:OdR om o)(ho:OdrOk n o)(hM:RxM w0 H om.m)(ls:List Int)(q:Option Addr)(c:Nat)(hA:Arr w0 H q 1 encI ls)(hlen:ls.length≤3000):
  FSpec Tryz.prog w0 57 #[.agg (encNn n).toArray, .agg (encFl f).toArray, .agg (encRx om.m).toArray, .int .i64 om.x, .int .i64 om.y, .slice q ls.length c] H (Still (.bool (holdsF n f o.e o.x o.y ls)) H):=by
 rw[hod.x,hod.y];exact holds_s n hn hok f hf qom om.m o.e hod.e hM ho.lv o.x o.y ho.x ls q c hA qom
def ShF (a:List Lr):Prop:=a.length≤100∧∀ r∈a,r.l.length≤100∧∀ s∈r.l,s.l.length≤3000
theorem J0 {n:Nn}{f:Flr}{os:List Om}{os2:List Odr}{a:List Lr}(hoo:OsOk n os os2)(hs:ShF a)(h1:FormedP os2.length a)(h2:AllH n f os2 a):LdOk n.links.length os a:=by
 have hol:=hoo.r.len;refine⟨by rw[h1.1,hol],hs.1,fun m hm=> ?_,fun r hr=>⟨(hs.2 r hr).1,fun s hss=> ?_⟩⟩
 ·obtain⟨i,hi,rfl⟩:=List.getElem_of_mem hm;have h3:=hoo.r.at' i hi;have h4:=hoo.ok _ (Af (l:=os2) (i:=i) qom);rw[An hi] at h3;rw[h3.amt];exact⟨h4.a0,h4.a1⟩
 ·obtain⟨i,hi,rfl⟩:=List.getElem_of_mem hr;obtain⟨k,hk,rfl⟩:=List.getElem_of_mem hss;have h3:=(h1.2 i hi).1 k (by rw[An hi];exact hk);have h4:=h2 i hi k (by rw[An hi];exact hk);rw[An hi,An hk] at h4;have h5:=h3.1;have h6:=h3.2.1;rw[An hi,An hk] at h5 h6;have:=((hs.2 _ hr).2 _ hss);exact⟨h5,h6,by omega,fun x hx=>⟨(Ea h4 x hx).1,(Ea h4 x hx).2.1⟩⟩
theorem sh_val {n:Nn}{os:List Om}{os2:List Odr}{a:List Lr}(hoo:OsOk n os os2)(hl:LdOk n.links.length os a){k:Nat}(hk:k<n.links.length):gd (shT (List.replicate n.links.length (0:Int)) os a a.length) k=ldAt os2 (shOf a) k:=
 shT_ld hoo.r hl.len (fun r hr s hs x hx=>((hl.lan r hr).2 s hs).2.2.2 x hx) hk
theorem rfits_s {w0:World}{H:List (Nat × Obj)}(n:Nn)(hn:NetR w0 H n)(hok:NnOk n)(hcap:∀ x∈n.links,0≤x.cap∧x.cap≤1048576)(f:Flr)(hf:Arr w0 H f.q 1 encI f.links)(hfl:f.links.length≤1000000)(os:List Om)(os2:List Odr)(qo:Option Addr)(co:Nat)(hO:OsM w0 H qo os)(hoo:OsOk n os os2)(a:List Lr)(q1:Option Addr)(c1:Nat)(hA:ShM w0 H q1 a)(hsf:ShF a):
  FSpec Tryz.prog w0 20 #[.agg (encNn n).toArray, .agg (encFl f).toArray, .slice qo os.length co, .slice q1 a.length c1] H (fun v H'=>(∃ c:Int,v= .int .i64 c∧FitC n f os2 a c)∧H'=H):=by
 refine Ao Tryz.func20 U ntmps20 U ?_;have hfewL:=hok.fewL;have hno:=hoo.few;have hol:=hoo.r.len;have hna:=hsf.1;refine rD tb 2 U (e_ (Lf U cs_) ?_ U);rintro _ _ ⟨n4,rfl,rfl⟩;refine e_ (Lf U cs_) ?_ U;rintro _ _ ⟨n5,rfl,rfl⟩;refine rO tb 8 U (e_ (Ak (qe2 U U) call21 (rformed_s os.length qo co qom a q1 c1 (hA.mono sbt) (fun x hx=>by have:=(hsf.2 x hx).1;omega))) ?_ U);rintro _ _ ⟨⟨t,rfl,ht⟩,rfl⟩
 first|refine A5 (A9 (T U)) U Ac ?_|refine A5 (B0 (T U)) U Ac ?_
 refine rO tb 2 U ?_
 first|refine Ad (Aa U) (fun c17=> ?_) (fun c17=> ?_)|refine Bq (Aa U) (fun c17=> ?_) (fun c17=> ?_)
 ·refine rC tb 7 U (Ah U (K9 U) ?_);exact⟨_,⟨⟨1,rfl, .inl ⟨fun h=>(by rw[hol] at h;rw[ht.2 h] at c17;cases c17),rfl⟩⟩,rfl⟩,sbt⟩
 ·have hfm:FormedP os2.length a:=by rw[hol];exact ht.1 (by simpa using c17)
  have hal:=hfm.1;refine rC tb 9 U ?_;refine Bd (X:=Nat) (V:=fun i=>[(9, .int .i64 (i:Nat))]) (C:=[(2,_),(3,_),(4,_),(5,_)]) (φ:=fun i=>i≤a.length∧∀ j,j<i→∀ k,k<(gd a j).l.length→holdsF n f (gd os2 j).e (gd os2 j).x (gd os2 j).y (gd (gd a j).l k).l=true) (μ:=fun i=>a.length - i) (x0:=0) ?_ ⟨Aa U,Aa U,Aa U,Aa U,trivial⟩ ⟨qat,trivial⟩ ?_
  ·exact⟨Nat.zero_le _,fun j hj=>by omega⟩
  rintro i ⟨hi,hp⟩;refine rD tb 9 U ?_;refine Ad (Aa U) (fun c21=> ?_) (fun c21=> ?_)
  ·have hra:=hsf.2 _ (Af (l:=a) (i:=i) qom);have hod:=hoo.r.at' i qom;have ho1:=hoo.ok _ (Af (l:=os2) (i:=i) qom);refine rC tb 10 U ?_;refine Bd (X:=Nat) (V:=fun k=>[(10, .int .i64 (k:Nat))]) (C:=[(2,_),(3,_),(4,_),(5,_),(9,_)]) (φ:=fun k=>k≤(gd a i).l.length∧∀ j,j<k→holdsF n f (gd os2 i).e (gd os2 i).x (gd os2 i).y (gd (gd a i).l j).l=true) (μ:=fun k=>(gd a i).l.length - k) (x0:=0) ?_ ⟨Aa U,Aa U,Aa U,Aa U,Aa U,trivial⟩ ⟨qat,trivial⟩ ?_
   ·exact⟨Nat.zero_le _,fun j hj=>by omega⟩
   rintro k ⟨hk1,hk⟩;refine rD tb 6 U (y_ (Bi (T U) (T U) runUnderlying31 sizeOf79 qom (by first|exact rfl|exact hA.a.b (i:=i) qom)) ?_ U);refine y_ (Lb U isAgg79 (by first|exact c_o|exact cell1 ((hA.a.mono sbt).cs (i:=i) qom))) ?_ U;refine rO tb 4 U ?_;refine Ad (Aa U) (fun c30=> ?_) (fun c30=> ?_)
   ·refine rC tb 5 U (Bh 27 [(0,true),(1,true),(2,true),(3,true),(4,true),(5,true),(6,true),(7,true),(8,true),(9,true),(10,true),(11,true),(12,true),(13,true),(14,true),(15,true),(16,true),(17,true),(18,true),(19,true),(20,true),(21,true),(22,true),(23,true),(24,true),(25,true),(26,true)] _ mixd qkr sb0 ?_ A8);refine o_y U (Lc U isAgg26 sizeOf26 U qcs) ?_ U Ac;refine o_y U (Lc U isAgg29 sizeOf29 U qcs) ?_ U Ac;refine rP tb 2 U (o_y U (Bi (T U) (T U) runUnderlying30 sizeOf58 qom (by first|exact rfl|exact hA.a.b (i:=i) qom|exact(hA.m (gd a i) (Af qom)).a.b (i:=k) qom|exact hO.a.b (i:=i) qom)) ?_ U Ac);refine rP tb 1 U (o_y U (Lc U isAgg56 sizeOf56 U (by exact cells_app3 (l1:=[.int .i64 (gd os i).x, .int .i64 (gd os i).y, .int .i64 (gd os i).amt]) U ((hO.a.mono sbt).cs (i:=i) qom))) ?_ U Ac);refine rP tb 2 U (o_y U (Bi (T U) (T U) runUnderlying30 sizeOf58 qom (by first|exact rfl|exact hA.a.b (i:=i) qom|exact(hA.m (gd a i) (Af qom)).a.b (i:=k) qom|exact hO.a.b (i:=i) qom)) ?_ U Ac);refine rP tb 1 U (o_y U (Lb U isAgg3 (by first|exact c_o|exact c_m (hO.a.f0 (i:=i) qom U))) ?_ U Ac);refine rP tb 2 U (o_y U (Bi (T U) (T U) runUnderlying30 sizeOf58 qom (by first|exact rfl|exact hA.a.b (i:=i) qom|exact(hA.m (gd a i) (Af qom)).a.b (i:=k) qom|exact hO.a.b (i:=i) qom)) ?_ U Ac);refine rP tb 1 U (o_y U (Lb U isAgg3 (by first|exact c_o|exact c_m (hO.a.f (i:=i) (j:=1) qom U))) ?_ U Ac);refine rP tb 2 U (o_y U (Bi (T U) (T U) runUnderlying31 sizeOf79 qom (by first|exact rfl|exact hA.a.b (i:=i) qom)) ?_ U Ac);refine o_y U (Lb U isAgg79 (by first|exact c_o|exact cell1 ((hA.a.mono sbt).cs (i:=i) qom))) ?_ U Ac;refine rP tb 1 U (o_y U (Ld U U runUnderlying79 sizeOf77 qom (by first|exact rfl|exact hA.a.b (i:=i) qom|exact(hA.m (gd a i) (Af qom)).a.b (i:=k) qom)) ?_ U Ac);refine rP tb 1 U (o_y U (Lb U isAgg27 (by first|exact c_o|exact c_m ((hA.m (gd a i) (Af qom)).a.f0 (i:=k) qom U))) ?_ U Ac);refine o_y U (Ay (.cons (T U) (.cons (T U) (.cons (T U) (.cons (T U) (.cons (T U) (.cons (T U) .nil)))))) call34 (fun H' hs=>rholdsO_s n (hn.mono (stn hs)) hok f (hf.mono (stn hs)) hfl (gd os i) (gd os2 i) hod ho1 ((hO.m _ (Af qom)).mono (stn hs)) (gd (gd a i).l k).l _ _ (((hA.m _ (Af (i:=i) qom)).m _ (Af (i:=k) qom)).a.mono (stn hs)) (hra.2 _ (Af qom)))) ?_ U Ac;refine rP tb 1 U (A7 U (kO tb 2 [2,3,4,5,9,10,11] rfl U (rG tb 3 U ?_)))
    first|refine A5 (A9 (T U)) U Ac ?_|refine A5 (B0 (T U)) U Ac ?_
    refine rO tb 2 U ?_
    first|refine Ad (Aa U) (fun c60=> ?_) (fun c60=> ?_)|refine Bq (Aa U) (fun c60=> ?_) (fun c60=> ?_)
    ·refine rC tb 8 U (As (rX tb 3 U (As (rX tb 2 U (Ah U (K9 U) ?_)))));exact⟨_,⟨⟨18,rfl, .inr (.inl ⟨⟨hfm,fun h=>(by rw[h i qom k qom] at c60;cases c60)⟩,rfl⟩)⟩,rfl⟩,sbt⟩
    ·refine rC tb 5 U (y_ (Av (T U) Ap qom) ?_ U);refine rO tb 2 U ?_;refine Ar (k+1) ?_ ?_ ⟨qat,trivial⟩ ⟨Aa U,Aa U,Aa U,Aa U,Aa U,trivial⟩ ?_
     ·refine⟨by omega,fun j hj=> ?_⟩
      by_cases ej:j=k
      ·subst ej;simpa using c60
      ·exact hk j qom
     ·omega
     ·exact sbt
   ·refine rC tb 2 U (Ag (rX tb 5 U (y_ (Av (T U) Ap qom) ?_ U)));refine rO tb 2 U ?_;refine Ar (i+1) ?_ ?_ ⟨qat,trivial⟩ ⟨Aa U,Aa U,Aa U,Aa U,trivial⟩ ?_
    ·refine⟨by omega,fun j hj=> ?_⟩
     by_cases ej:j=i
     ·subst ej;exact fun k2 hk2=>hk k2 qom
     ·exact hp j qom
    ·omega
    ·exact sbt
  ·have hall:AllH n f os2 a:=fun j hj=>hp j qom
   have hldo:=J0 hoo hsf hfm hall;refine rC tb 2 U (Ag (rX tb 4 U (y_ (Lc U isAgg26 sizeOf26 U qcs) ?_ U)));refine rO tb 2 U (e_ (Ak (qe3 U U U) call25 (rload_s n (hn.mono sbt) qom os qo co (hO.mono sbt) a q1 c1 (hA.mono sbt) hldo)) ?_ U);rintro _ _ ⟨d,⟨rfl,hd⟩,rfl⟩;have hrep:(List.replicate n.links.length (0:Int)).length=n.links.length:=List.length_replicate ..;have hshl:(shT (List.replicate n.links.length (0:Int)) os a a.length).length=n.links.length:=by rw[B5,List.length_replicate]
   refine rO tb 10 U ?_;refine Bd (X:=Nat) (V:=fun i=>[(13, .int .i64 (i:Nat))]) (C:=[(4,_),(12,_)]) (φ:=fun i=>i≤n.links.length∧∀ k,k<i→ldAt os2 (shOf a) k≤16*(gd n.links k).cap) (μ:=fun i=>n.links.length - i) (x0:=0) ?_ ⟨Aa U,Aa U,trivial⟩ ⟨qat,trivial⟩ ?_
   ·exact⟨Nat.zero_le _,fun j hj=>by omega⟩
   rintro i ⟨hi,hp2⟩;refine rD tb 9 U ?_;refine Ad (Aa U) (fun c68=> ?_) (fun c68=> ?_)
   ·have hle:=hcap _ (Af (l:=n.links) (i:=i) qom);have hv:=sh_val hoo hldo (k:=i) qom;refine rC tb 5 U (Bh 12 [(0,true),(1,true),(2,true),(3,true),(4,true),(5,true),(6,true),(7,true),(8,true),(9,true),(10,true),(11,true)] _ mixd qkr sb0 ?_ A8);refine rP tb 2 U (o_y U (Ld U U runUnderlying27 sizeOf3 qom (by first|exact rfl|exact hA.a.b (i:=i) qom|exact(hA.m (gd a i) (Af qom)).a.b (i:=k) qom|exact hO.a.b (i:=i) qom|exact hd.bas qom)) ?_ U Ac);refine o_y U (Lb U isAgg3 (by first|exact c_o|exact cell1 (((A1 (w0:=w0) (d:=d) (enc:=encI) (sz:=1) (e:=3) (l:=(shT (List.replicate n.links.length (0:Int)) os a a.length)) (X:=H) (fun _=>rfl) (by rw[hshl];rw[hrep] at hd;exact hd)).mono sbt).cs (i:=i) qom))) ?_ U Ac;refine rP tb 1 U (o_y U (Lb U isAgg23 qco) ?_ U Ac);refine rP tb 1 U (o_y U (Ld U U runUnderlying23 sizeOf61 qom (by first|exact rfl|exact hA.a.b (i:=i) qom|exact(hA.m (gd a i) (Af qom)).a.b (i:=k) qom|exact hO.a.b (i:=i) qom|exact hd.bas qom|exact hn.links.b (i:=i) qom)) ?_ U Ac);refine rP tb 1 U (o_y U (Lb U isAgg3 (by first|exact c_o|exact c_m (hn.links.f (i:=i) (j:=2) qom U))) ?_ U Ac);refine o_y U (H3 Ap (T U) qom) ?_ U Ac;refine rP tb 1 U (A7 U (rO tb 2 U ?_));refine Ad (Aa U) (fun c82=> ?_) (fun c82=> ?_)
    ·refine rC tb 8 U (As (rX tb 2 U (Ah U (K9 U) ?_)));exact⟨_,⟨⟨19,rfl, .inr (.inr (.inl ⟨⟨⟨hfm,hall⟩,fun h=>(by have:=h i qom;omega)⟩,rfl⟩))⟩,rfl⟩,sbt⟩
    ·refine rC tb 5 U (y_ (Av (T U) Ap qom) ?_ U);refine rO tb 2 U ?_;refine Ar (i+1) ?_ ?_ ⟨qat,trivial⟩ ⟨Aa U,Aa U,trivial⟩ ?_
     ·refine⟨by omega,fun j hj=> ?_⟩
      by_cases ej:j=i
      ·subst ej;omega
      ·exact hp2 j qom
     ·omega
     ·exact sbt
   ·refine rC tb 2 U (Ag (rX tb 8 U (Ah U (K9 U) ?_)));exact⟨_,⟨⟨0,rfl, .of hfm hall fun j hj=>hp2 j qom⟩,rfl⟩,sbt⟩
theorem pfit1_s {w0:World}{H:List (Nat × Obj)}(n:Nn)(hn:NetR w0 H n)(hok:NnOk n)(f:Flr)(hf:Arr w0 H f.q 1 encI f.links)(hfl:f.links.length≤1000000)(om:Om)(o:Odr)(hod:OdR om o)(ho:OdrOk n o)(hM:RxM w0 H om.m)(b4 b5 b11:Nat)(h4:Fnd H b4 (Cl (encNn n) 26))(h5:Fnd H b5 (Cl (encFl f) 29))(h11:Fnd H b11 (Cl (encOm om) 58))(s:Lm)(hS:LmM w0 H s)(hsl:s.l.length≤3000):
  FSpec Tryz.prog w0 56 #[.agg (encLm s).toArray, .pointer (some ⟨b4,0,none⟩), .pointer (some ⟨b5,0,none⟩), .pointer (some ⟨b11,0,none⟩)] H (Still (.bool (!holdsF n f o.e o.x o.y s.l)) H):=by
 refine Ao Tryz.func56 U ntmps56 U (rD tb 2 U (e_ (Lf U cs_) ?_ U));rintro _ _ ⟨n4,rfl,rfl⟩;refine rO tb 5 U ?_;refine y_ (Lc U isAgg26 sizeOf26 U (by exact(C2 (by repeat (first|exact h4|refine Aq ?_|refine Ax ?_))))) ?_ U;refine y_ (Lc U isAgg29 sizeOf29 U (by exact(C2 (by repeat (first|exact h5|refine Aq ?_|refine Ax ?_))))) ?_ U;refine rO tb 1 U ?_;refine y_ (Lc U isAgg56 sizeOf56 U (by exact Bk (l:=encOm om) (o:=3) (k:=3) (by repeat (first|exact h11|refine Aq ?_|refine Ax ?_)))) ?_ U;refine rO tb 1 U ?_;refine y_ (Lb U isAgg3 (by first|exact c_o|exact Bo (by repeat (first|exact h11|refine Aq ?_|refine Ax ?_)) U)) ?_ U;refine rO tb 1 U ?_;refine y_ (Lb U isAgg3 (by first|exact c_o|exact Bo (by repeat (first|exact h11|refine Aq ?_|refine Ax ?_)) U)) ?_ U;refine rO tb 1 U (y_ (Lb U isAgg27 qco) ?_ U);refine y_ (Ay (.cons (T U) (.cons (T U) (.cons (T U) (.cons (T U) (.cons (T U) (.cons (T U) .nil)))))) call57 (fun H' hs=>pholdsO_s n (hn.mono (stn hs)) hok f (hf.mono (stn hs)) hfl om o hod ho (hM.mono (stn hs)) s.l _ _ (hS.a.mono (stn hs)) hsl)) ?_ U
 first|refine A5 (A9 (T U)) U Ac ?_|refine A5 (B0 (T U)) U Ac ?_
 refine rO tb 4 U (Ah U (K9 U) ?_);exact⟨_,⟨rfl,rfl⟩,sbt⟩
def allB (n:Nn) (f:Flr) (o:Odr) (r:Lr):Bool:=r.l.all fun s=>holdsF n f o.e o.x o.y s.l
theorem allB_at {n:Nn}{f:Flr}{o:Odr}{r:Lr}(h:allB n f o r=true):∀ k,k<r.l.length→holdsF n f o.e o.x o.y (gd r.l k).l=true:=fun k hk=>List.all_eq_true.1 h _ (Af hk)
theorem pfidx_s {w0:World}{H:List (Nat × Obj)}(n:Nn)(hn:NetR w0 H n)(hok:NnOk n)(f:Flr)(hf:Arr w0 H f.q 1 encI f.links)(hfl:f.links.length≤1000000)(om:Om)(o:Odr)(hod:OdR om o)(ho:OdrOk n o)(hM:RxM w0 H om.m)(b4 b5 b11:Nat)(h4:Fnd H b4 (Cl (encNn n) 26))(h5:Fnd H b5 (Cl (encFl f) 29))(h11:Fnd H b11 (Cl (encOm om) 58))(r:Lr)(hR:LrM w0 H r)(hrf:r.l.length≤100∧∀ s∈r.l,s.l.length≤3000):
  FSpec Tryz.prog w0 110 #[.slice r.q r.l.length r.c, .func (.func 56) #[] #[.pointer (some ⟨b4,0,none⟩), .pointer (some ⟨b5,0,none⟩), .pointer (some ⟨b11,0,none⟩)]] H (fun v H'=>(∃ k:Int,v= .int .i64 k∧((k= -1∧allB n f o r=true)∨(0≤k∧allB n f o r=false)))∧H'=H):=by
 refine Ao Tryz.func110 U ntmps110 U ?_;have hr1:=hrf.1;refine rD tb 14 U ?_;refine Bd (X:=Nat) (V:=fun i=>[(8, .int .i64 (i:Nat))]) (C:=[(0,_),(1,_),(7,_)]) (φ:=fun i=>i≤r.l.length∧∀ j,j<i→holdsF n f o.e o.x o.y (gd r.l j).l=true) (μ:=fun i=>r.l.length - i) (x0:=0) ?_ ⟨Aa U,Aa U,Aa U,trivial⟩ ⟨qat,trivial⟩ ?_
 ·exact⟨Nat.zero_le _,fun j hj=>by omega⟩
 rintro i ⟨hi,hno⟩;refine rD tb 6 U ?_;refine Ad (Aa U) (fun c9=> ?_) (fun c9=> ?_)
 ·refine rC tb 15 U (y_ (Ld U U runUnderlying79 sizeOf77 qom (by first|exact rfl|exact hR.a.b (i:=i) qom)) ?_ U);refine y_ (Lc U isAgg77 sizeOf77 U (by exact(hR.a.mono sbt).cs (i:=i) qom)) ?_ U;refine y_ (Cn (T U) (qe1 U) call56 (fun H' hs=>pfit1_s n (hn.mono (stn hs)) hok f (hf.mono (stn hs)) hfl om o hod ho (hM.mono (stn hs)) b4 b5 b11 ((stn hs).subset h4) ((stn hs).subset h5) ((stn hs).subset h11) (gd r.l i) ((hR.m _ (Af qom)).mono (stn hs)) (hrf.2 _ (Af qom)))) ?_ U;refine rO tb 2 U ?_
  first|refine Ad (Aa U) (fun c16=> ?_) (fun c16=> ?_)|refine Bq (Aa U) (fun c16=> ?_) (fun c16=> ?_)
  ·refine rC tb 9 U (As (rX tb 2 U (Ah U (K9 U) ?_)));exact⟨_,⟨⟨_,rfl, .inr ⟨by omega,all_no (i:=i) qom (by simpa using c16)⟩⟩,rfl⟩,sbt⟩
  ·refine rC tb 4 U (y_ (Av (T U) Ap qom) ?_ U);refine rO tb 2 U ?_;refine Ar (i+1) ?_ ?_ ⟨qat,trivial⟩ ⟨Aa U,Aa U,Aa U,trivial⟩ ?_
   ·refine⟨by omega,fun j hj=> ?_⟩
    by_cases e:j=i
    ·subst e;simpa using c16
    ·exact hno j qom
   ·omega
   ·exact sbt
 ·refine rC tb 2 U (Ag (rX tb 8 U (Ah U (K9 U) ?_)));exact⟨_,⟨⟨_,rfl, .inl ⟨rfl,all_yes fun j hj=>hno j qom⟩⟩,rfl⟩,sbt⟩
theorem pfcont_s {w0:World}{H:List (Nat × Obj)}(n:Nn)(hn:NetR w0 H n)(hok:NnOk n)(f:Flr)(hf:Arr w0 H f.q 1 encI f.links)(hfl:f.links.length≤1000000)(om:Om)(o:Odr)(hod:OdR om o)(ho:OdrOk n o)(hM:RxM w0 H om.m)(b4 b5 b11:Nat)(h4:Fnd H b4 (Cl (encNn n) 26))(h5:Fnd H b5 (Cl (encFl f) 29))(h11:Fnd H b11 (Cl (encOm om) 58))(r:Lr)(hR:LrM w0 H r)(hrf:r.l.length≤100∧∀ s∈r.l,s.l.length≤3000):
  FSpec Tryz.prog w0 55 #[.slice r.q r.l.length r.c, .func (.func 56) #[] #[.pointer (some ⟨b4,0,none⟩), .pointer (some ⟨b5,0,none⟩), .pointer (some ⟨b11,0,none⟩)]] H (Still (.bool (!allB n f o r)) H):=by
 refine Ao Tryz.func55 U ntmps55 U (rD tb 9 U (e_ (Ak (qe2 U U) call110 (pfidx_s n (hn.mono sbt) hok f (hf.mono sbt) hfl om o hod ho (hM.mono sbt) b4 b5 b11 h4 h5 h11 r (hR.mono sbt) hrf)) ?_ U));rintro _ _ ⟨⟨k,rfl,hk⟩,rfl⟩;refine rO tb 5 U (Ah U (K9 U) ?_);exact⟨_,⟨by rcases hk with ⟨h1,h2⟩|⟨h1,h2⟩<;>rw[h2]<;>exact vbool (by simp;omega),rfl⟩,sbt⟩
theorem pfits_s {w0:World}{H:List (Nat × Obj)}(n:Nn)(hn:NetR w0 H n)(hok:NnOk n)(hcap:∀ x∈n.links,0≤x.cap∧x.cap≤1048576)(f:Flr)(hf:Arr w0 H f.q 1 encI f.links)(hfl:f.links.length≤1000000)(os:List Om)(os2:List Odr)(qo:Option Addr)(co:Nat)(hO:OsM w0 H qo os)(hoo:OsOk n os os2)(a:List Lr)(q1:Option Addr)(c1:Nat)(hA:ShM w0 H q1 a)(hsf:ShF a):
  FSpec Tryz.prog w0 19 #[.agg (encNn n).toArray, .agg (encFl f).toArray, .slice qo os.length co, .slice q1 a.length c1] H (fun v H'=>(∃ c:Int,v= .int .i64 c∧FitC n f os2 a c)∧H'=H):=by
 refine Ao Tryz.func19 U ntmps19 U ?_;have hfewL:=hok.fewL;have hno:=hoo.few;have hol:=hoo.r.len;have hna:=hsf.1;refine rD tb 2 U (e_ (Lf U cs_) ?_ U);rintro _ _ ⟨n4,rfl,rfl⟩;refine e_ (Lf U cs_) ?_ U;rintro _ _ ⟨n5,rfl,rfl⟩;refine rO tb 8 U (e_ (Ak (qe2 U U) call54 (pformed_s os.length qo co qom a q1 c1 (hA.mono sbt) (fun x hx=>by have:=(hsf.2 x hx).1;omega))) ?_ U);rintro _ _ ⟨⟨t,rfl,ht⟩,rfl⟩
 first|refine A5 (A9 (T U)) U Ac ?_|refine A5 (B0 (T U)) U Ac ?_
 refine rO tb 2 U ?_
 first|refine Ad (Aa U) (fun c17=> ?_) (fun c17=> ?_)|refine Bq (Aa U) (fun c17=> ?_) (fun c17=> ?_)
 ·refine rC tb 7 U (Ah U (K9 U) ?_);exact⟨_,⟨⟨1,rfl, .inl ⟨fun h=>(by rw[hol] at h;rw[ht.2 h] at c17;cases c17),rfl⟩⟩,rfl⟩,sbt⟩
 ·have hfm:FormedP os2.length a:=by rw[hol];exact ht.1 (by simpa using c17)
  have hal:=hfm.1;refine rC tb 11 U ?_;refine Bd (X:=Nat) (V:=fun i=>[(20, .int .i64 (i:Nat))]) (C:=[(2,_),(3,_),(4,_),(5,_),(18,_),(19,_)]) (φ:=fun i=>i≤a.length∧∀ j,j<i→∀ k,k<(gd a j).l.length→holdsF n f (gd os2 j).e (gd os2 j).x (gd os2 j).y (gd (gd a j).l k).l=true) (μ:=fun i=>a.length - i) (x0:=0) ?_ ⟨Aa U,Aa U,Aa U,Aa U,Aa U,Aa U,trivial⟩ ⟨qat,trivial⟩ ?_
  ·exact⟨Nat.zero_le _,fun j hj=>by omega⟩
  rintro i ⟨hi,hp⟩;refine rD tb 6 U ?_;refine Ad (Aa U) (fun c21=> ?_) (fun c21=> ?_)
  ·have hra:=hsf.2 _ (Af (l:=a) (i:=i) qom);have hod:=hoo.r.at' i qom;have ho1:=hoo.ok _ (Af (l:=os2) (i:=i) qom);refine rC tb 7 U (y_ (Ld U U runUnderlying31 sizeOf79 qom (by first|exact rfl|exact hA.a.b (i:=i) qom)) ?_ U);refine y_ (Lb U isAgg79 (by first|exact c_o|exact cell1 ((hA.a.mono sbt).cs (i:=i) qom))) ?_ U;refine rO tb 8 U (y_ (Ld U U runUnderlying30 sizeOf58 qom (by first|exact rfl|exact hA.a.b (i:=i) qom|exact hO.a.b (i:=i) qom)) ?_ U);refine y_ (Lc U isAgg58 sizeOf58 U (by exact(hO.a.mono sbt).cs (i:=i) qom)) ?_ U;refine e_ (Ai zeroValue58 cs_) ?_ U;rintro _ _ ⟨n11,rfl,rfl⟩;refine Aw (Le U U sizeOf58) U Ac ?_;rintro _ _ ⟨rfl,rfl⟩;refine rO tb 5 U (y_ (Bl (.cons (T U) (.cons (T U) (.cons (T U) .nil)))) ?_ U);refine e_ (Ak (qe2 U U) call55 (pfcont_s n (hn.mono sbt) hok f (hf.mono sbt) hfl (gd os i) (gd os2 i) hod ho1 ((hO.m _ (Af qom)).mono sbt) n4 n5 n11 fdd fdd fdd (gd a i) ((hA.m _ (Af qom)).mono sbt) hra)) ?_ U;rintro _ _ ⟨rfl,rfl⟩;refine rO tb 2 U ?_
   first|refine Ad (Aa U) (fun c31=> ?_) (fun c31=> ?_)|refine Bq (Aa U) (fun c31=> ?_) (fun c31=> ?_)
   ·refine rC tb 8 U (As (rX tb 2 U (Ah U (K9 U) ?_)));exact⟨_,⟨⟨18,rfl, .inr (.inl ⟨⟨hfm,fun h=>(by rw[show allB n f (gd os2 i) (gd a i)=true from all_yes fun k hk=>h i qom k hk] at c31;cases c31)⟩,rfl⟩)⟩,rfl⟩,sbt⟩
   ·refine rC tb 4 U (y_ (Av (T U) Ap qom) ?_ U);refine rO tb 2 U ?_;refine Ar (i+1) ?_ ?_ ⟨qat,trivial⟩ ⟨Aa U,Aa U,Aa U,Aa U,Aa U,Aa U,trivial⟩ ?_
    ·refine⟨by omega,fun j hj=> ?_⟩
     by_cases ej:j=i
     ·subst ej;exact allB_at (by simpa using c31)
     ·exact hp j qom
    ·omega
    ·exact sbt
  ·have hall:AllH n f os2 a:=fun j hj=>hp j qom
   have hldo:=J0 hoo hsf hfm hall;refine rC tb 2 U (Ag (rX tb 5 U (y_ (Lc U isAgg26 sizeOf26 U qcs) ?_ U)));refine rO tb 2 U (e_ (Ak (qe3 U U U) call24 (Jx n (hn.mono sbt) qom os qo co (hO.mono sbt) a q1 c1 (hA.mono sbt) hldo)) ?_ U);rintro _ _ ⟨d,⟨rfl,hd⟩,rfl⟩;have hrep:(List.replicate n.links.length (0:Int)).length=n.links.length:=List.length_replicate ..;have hshl:(shT (List.replicate n.links.length (0:Int)) os a a.length).length=n.links.length:=by rw[B5,List.length_replicate]
   refine rO tb 5 U ?_;refine Bd (X:=Nat) (V:=fun i=>[(38, .int .i64 (i:Nat))]) (C:=[(4,_),(36,_),(37,_)]) (φ:=fun i=>i≤n.links.length∧∀ k,k<i→ldAt os2 (shOf a) k≤16*(gd n.links k).cap) (μ:=fun i=>n.links.length - i) (x0:=0) ?_ ⟨Aa U,Aa U,Aa U,trivial⟩ ⟨qat,trivial⟩ ?_
   ·exact⟨Nat.zero_le _,fun j hj=>by omega⟩
   rintro i ⟨hi,hp2⟩;refine rD tb 6 U ?_;refine Ad (Aa U) (fun c39=> ?_) (fun c39=> ?_)
   ·have hle:=hcap _ (Af (l:=n.links) (i:=i) qom);have hv:=sh_val hoo hldo (k:=i) qom;refine rC tb 7 U (y_ (Ld U U runUnderlying27 sizeOf3 qom (by first|exact rfl|exact hA.a.b (i:=i) qom|exact hO.a.b (i:=i) qom|exact hd.bas qom)) ?_ U);refine y_ (Lb U isAgg3 (by first|exact c_o|exact cell1 (((A1 (w0:=w0) (d:=d) (enc:=encI) (sz:=1) (e:=3) (l:=(shT (List.replicate n.links.length (0:Int)) os a a.length)) (X:=H) (fun _=>rfl) (by rw[hshl];exact hd)).mono sbt).cs (i:=i) qom))) ?_ U;refine rO tb 8 U (y_ (Lb U isAgg23 qco) ?_ U);refine rO tb 1 U (y_ (Ld U U runUnderlying23 sizeOf61 qom (by first|exact rfl|exact hA.a.b (i:=i) qom|exact hO.a.b (i:=i) qom|exact hd.bas qom|exact hn.links.b (i:=i) qom)) ?_ U);refine rO tb 1 U (y_ (Lb U isAgg3 (by first|exact c_o|exact c_m (hn.links.f (i:=i) (j:=2) qom U))) ?_ U);refine y_ (H3 Ap (T U) qom) ?_ U;refine rO tb 3 U ?_;refine Ad (Aa U) (fun c51=> ?_) (fun c51=> ?_)
    ·refine rC tb 8 U (As (rX tb 2 U (Ah U (K9 U) ?_)));exact⟨_,⟨⟨19,rfl, .inr (.inr (.inl ⟨⟨⟨hfm,hall⟩,fun h=>(by have:=h i qom;omega)⟩,rfl⟩))⟩,rfl⟩,sbt⟩
    ·refine rC tb 4 U (y_ (Av (T U) Ap qom) ?_ U);refine rO tb 2 U ?_;refine Ar (i+1) ?_ ?_ ⟨qat,trivial⟩ ⟨Aa U,Aa U,Aa U,trivial⟩ ?_
     ·refine⟨by omega,fun j hj=> ?_⟩
      by_cases ej:j=i
      ·subst ej;omega
      ·exact hp2 j qom
     ·omega
     ·exact sbt
   ·refine rC tb 2 U (Ag (rX tb 8 U (Ah U (K9 U) ?_)));exact⟨_,⟨⟨0,rfl, .of hfm hall fun j hj=>hp2 j qom⟩,rfl⟩,sbt⟩
theorem zbs175_1_0 (a0:Int)(w:World):(Instr.buildSlice 175 1 #[(0, .int .i32 a0)]).run Tryz.prog w= .ok (.slice (some ⟨w.heap.size,0,none⟩) 1 1) (w.alloc (Cl [.int .i32 a0] 21)):=by kernel_rfl
theorem eqSlNil (a:Addr)(n c:Nat)(w:World):(Op.equal 27 (.slice (some a) n c) (.slice none 0 0)).run Tryz.prog w= .ok false w:=by kernel_rfl
theorem eqPtNil (a:Addr)(w:World):(Op.equal 105 (.pointer (some a)) (.pointer none)).run Tryz.prog w= .ok false w:=by kernel_rfl
theorem eqPtNil2 (w:World):(Op.equal 105 (.pointer none) (.pointer none)).run Tryz.prog w= .ok true w:=by kernel_rfl
theorem yl_eqSN {w0:World}{L:Fm}{H:List (Nat × Obj)}{ty yt:TypeId}{x y:Operand}{a:Addr}{n c:Nat}(hx:Ev L x (.slice (some a) n c))(hy:Ev L y (.slice none 0 0)):Yl Tryz.prog w0 (.binOp .eql 27 x y yt) ty L H (.bool false):=Bf U fun b' w=>by
 simp[exO,execOp,hx b',hy b',binOp,eqGuard,Sem.run_bind,Result.andThen,eqSlNil]
theorem yl_eqPN {w0:World}{L:Fm}{H:List (Nat × Obj)}{ty yt:TypeId}{x y:Operand}{a:Addr}(hx:Ev L x (.pointer (some a)))(hy:Ev L y (.pointer none)):Yl Tryz.prog w0 (.binOp .eql 105 x y yt) ty L H (.bool false):=Bf U fun b' w=>by
 simp[exO,execOp,hx b',hy b',binOp,eqGuard,Sem.run_bind,Result.andThen,eqPtNil]
theorem yl_eqPN2 {w0:World}{L:Fm}{H:List (Nat × Obj)}{ty yt:TypeId}{x y:Operand}(hx:Ev L x (.pointer none))(hy:Ev L y (.pointer none)):Yl Tryz.prog w0 (.binOp .eql 105 x y yt) ty L H (.bool true):=Bf U fun b' w=>by
 simp[exO,execOp,hx b',hy b',binOp,eqGuard,Sem.run_bind,Result.andThen,eqPtNil2]
abbrev encR (x:Int):List Value:=[.int .i32 x]
def keyR (rs:List Int):ByteArray:=rs.foldl (fun s n=>s++Utf8.encode n) ByteArray.empty
theorem yl_convR {P:Program}{w0:World}{L:Fm}{H:List (Nat × Obj)}{ty s t:TypeId}{x:Operand}{e c:Nat}{q:Option Addr}{rs:List Int}(hx:Ev L x (.slice q rs.length c))(hs:∀ w,(underlying s).run P w= .ok (.slice e) w)(he:∀ w,(underlying e).run P w= .ok (.int .i32) w)(ht:∀ w,(underlying t).run P w= .ok .string w)(hA:Arr w0 H q 1 encR rs):
  Yl P w0 (.convert s t x) ty L H (.string (keyR rs)):=Jj U fun H' hs' b w hO=>by
 have hA':=hA.mono hs';cases q with
 |none=>
  have hr:rs=[]:=by
   cases rs with
   |nil=>rfl
   |cons r rs=>have:=(hA' 0 r rfl).1;cases this
  subst hr;simp[exO,execOp,hx b,convert,hs,ht,he,Conv.runesToString,Sem.run_bind,Result.andThen,keyR]
 |some a=>
  have hl:(loadCells a rs.length).run P w= .ok (rs.map fun r=>Value.int .i32 r).toArray w:=by
   cases rs with
   |nil=>simp[loadCells,loadCellsFrom]
   |cons r rs=>
    have hb:some a=some ⟨a.block,a.off,none⟩:=(hA' 0 r U).1;have ha:a=⟨a.block,a.off,none⟩:=Option.some.inj hb;have h1:=Cq (P:=P) (b:=a.block) (o:=a.off) (w:=w) ((r::rs).map fun r=>Value.int .i32 r) 0 #[] (fun j v hj=>by
     rw[List.getElem?_map] at hj;obtain⟨u,h2,rfl⟩:=Option.map_eq_some_iff.1 hj;have h3:=(hA' j u h2).2 0 _ U w hO;rw[Nat.zero_add]
     simpa[bq,oq] using h3)
    rw[← ha,List.length_map] at h1;unfold loadCells;rw[h1];simp
  have hfold:∀ (B:Value→ByteArray→Sem (ForInStep ByteArray)),(∀ n s w,(B (.int .i32 n) s).run P w= .ok (.yield (s++Utf8.encode n)) w)→∀ (l:List Int) (s0:ByteArray) (w:World),((forIn (m:=Sem) (l.map fun r=>Value.int .i32 r).toArray s0 B).run P w)= .ok (l.foldl (fun s n=>s++Utf8.encode n) s0) w:=fun B hB l=>by
   induction l with
   |nil=>intro s0 w;simp[Sem.run]
   |cons r l ih=>
    intro s0 w;have:=ih (s0++Utf8.encode r) w;simp only[List.forIn_toArray,List.map_cons,List.forIn_cons,Sem.run_bind,hB,Result.andThen,List.foldl_cons] at this ⊢;exact this
  simp only[exO,execOp,hx b,convert,Sem.run_bind,hs,ht,he,Result.andThen,Conv.runesToString,hl];rw[hfold _ _ rs ByteArray.empty w]
  ·simp[Sem.run_pure,Result.andThen,keyR]
  ·intro n s w;simp[Sem.run]
theorem yl_convR0 {w0:World}{L:Fm}{H:List (Nat × Obj)}{ty s t:TypeId}{x:Operand}{c:Nat}{q:Option Addr}{rs:List Int}(hA:Arr w0 H q 1 encR rs)(hx:Ev L x (.slice q rs.length c))(hs:∀ w,(underlying s).run Tryz.prog w= .ok (.slice 21) w)(ht:∀ w,(underlying t).run Tryz.prog w= .ok .string w):Yl Tryz.prog w0 (.convert s t x) ty L H (.string (keyR rs)):=yl_convR hx hs runUnderlying21 ht hA
theorem yl_cvR {w0:World}{L:Fm}{H:List (Nat × Obj)}{ty t1 t2:TypeId}{x:Operand}{td:TypeDesc}{a:Int}(ha:0≤a∧a<128)(hx:Ev L x (.int .i64 a))(hs:∀ w,(underlying t1).run Tryz.prog w= .ok td w)(ht:∀ w,(underlying t2).run Tryz.prog w= .ok (.int .i32) w):Yl Tryz.prog w0 (.convert t1 t2 x) ty L H (.int .i32 a):=by
 have h:=G1 (P:=Tryz.prog) (w0:=w0) (H:=H) (ty:=ty) hx hs ht;have e:IntKind.i32.wrap a=a:=by
  unfold IntKind.wrap IntKind.bits IntKind.signed;simp;omega
 rwa [e] at h
theorem enc_small {a:Nat}(h:a<128):Utf8.encode (a:Int)=⟨#[UInt8.ofNat a]⟩:=by
 unfold Utf8.encode Utf8.valid;have h1:((decide (0≤(a:Int))&&decide ((a:Int)<0xD800))||(decide (0xE000≤(a:Int))&&decide ((a:Int)≤0x10FFFF)))=true:=by simp;omega
 simp only[h1,if_true,Int.toNat_natCast];rw[if_pos (show a<0x80 by omega)]
theorem key_data:∀ (ls:List Nat),(∀ x∈ls,x<128)→∀ s0:ByteArray,((toInts ls).foldl (fun s n=>s++Utf8.encode n) s0).data.toList=s0.data.toList++ls.map UInt8.ofNat
 |[],_,s0=>by simp[toInts]
 |x::ls,h,s0=>by
  have ih:=key_data ls (fun y hy=>h y (by simp[hy])) (s0++Utf8.encode (x:Int));rw[toInts,List.map_cons,List.foldl_cons];rw[toInts] at ih;rw[ih,enc_small (h x (by simp))];simp
theorem key_inj {a b:List Nat}(ha:∀ x∈a,x<128)(hb:∀ x∈b,x<128)(h:keyR (toInts a)=keyR (toInts b)):a=b:=by
 have h1:=key_data a ha ByteArray.empty;have h2:=key_data b hb ByteArray.empty;have h3:(keyR (toInts a)).data.toList=(keyR (toInts b)).data.toList:=by rw[h]
 unfold keyR at h3;rw[h1,h2] at h3;have h4:a.map UInt8.ofNat=b.map UInt8.ofNat:=List.append_cancel_left h3;clear h h1 h2 h3
 induction a generalizing b with
 |nil=>cases b with
  |nil=>rfl
  |cons y b=>cases h4
 |cons x a ih=>cases b with
  |nil=>cases h4
  |cons y b=>
   simp only[List.map_cons,List.cons.injEq] at h4;have hx:=ha x (by simp);have hy:=hb y (by simp);have e:x=y:=by
    have:=congrArg UInt8.toNat h4.1;simp at this;omega
   rw[e,ih (fun z hz=>ha z (by simp[hz])) (fun z hz=>hb z (by simp[hz])) h4.2]
theorem ti_take {ls:List Nat}{i:Nat}(h:i<ls.length):toInts (ls.take (i+1))=toInts (ls.take i)++[((gd ls i:Nat):Int)]:=by
 rw[Ch h];simp[toInts]
theorem key_s {w0:World}{H:List (Nat × Obj)}(ls:List Nat)(q:Option Addr)(c:Nat)(hA:Arr w0 H q 1 encU ls)(hl:ls.length≤1000000)(hs:∀ x∈ls,x<128):
  FSpec Tryz.prog w0 60 #[.slice q ls.length c] H (Still (.string (keyR (toInts ls))) H):=by
 refine Ao Tryz.func60 U ntmps60 U (rD tb 19 U ?_);refine Ba (X:=Nat × Sl) (V:=fun ⟨i,d⟩=>[(8, .int .i64 (i:Nat)),(3,slV d (toInts (ls.take i)).length)]) (C:=[(6,_),(7,_)]) (G:=fun ⟨i,d⟩=>slH d ((toInts (ls.take i)).flatMap encR) 21++H) (φ:=fun ⟨i,d⟩=>i≤ls.length∧SlOk d (toInts (ls.take i)).length 1) (μ:=fun ⟨i,d⟩=>ls.length - i) (x0:=(0, .nil)) ?_ ⟨Aa rfl,Aa rfl,trivial⟩ ⟨qat,qat,trivial⟩ sb0 ?_
 ·exact⟨Nat.zero_le _,rfl⟩
 rintro⟨i,d⟩ ⟨hi,hd⟩;refine rD tb 6 U ?_;refine Ad (Aa U) (fun c9=> ?_) (fun c9=> ?_)
 ·have hsx:=hs _ (Af (l:=ls) (i:=i) qom);have he:=ti_take (ls:=ls) (i:=i) qom;refine rC tb 6 U (y_ (Ld U U runUnderlying27 sizeOf3 qom (by first|exact rfl|exact hA.b (i:=i) qom)) ?_ U);refine y_ (Lb U isAgg3 (by first|exact c_o|exact cell1 ((hA.mono sbt).cs (i:=i) qom))) ?_ U;refine rO tb 6 U (y_ (yl_cvR qom (T U) runUnderlying3 runUnderlying21) ?_ U);refine e_ (Aj (.cons (T U) .nil) (zbs175_1_0 _)) ?_ U;rintro _ _ ⟨n15,rfl,rfl⟩;refine e_ (Bg (((gd ls i:Nat):Int)) (by':=4) (enc:=encR) (l:=toInts (ls.take i)) qlc (T rfl) (T rfl) runUnderlying175 runUnderlying175 sizeOf21 typeInfo21 rfl zeroValue21 rfl (fun _=>rfl) rfl hd qde (by simp[toInts];omega)) ?_ rfl;rintro _ _ ⟨d2,rfl,hd2,rfl⟩;refine rO tb 5 U (y_ (Av (T U) Ap qom) ?_ U);refine rO tb 2 U ?_;refine Ar ((i+1,d2)) ?_ ?_ ⟨qat,(by first|exact Aa U|(refine Be (Aa U) (vint ?_);omega)|(refine Be (Aa U) ?_;simp;done)|(refine Be (Aa U) ?_;exact by rw[he])),trivial⟩ ⟨Aa U,Aa U,trivial⟩ ?_
  ·exact⟨by omega,by rw[he];exact hd2⟩
  ·first|omega|(simp only[];omega)
  ·show (slH d2 ((toInts (ls.take (i+1))).flatMap encR) 21++_).Sublist _;rw[he];exact sbt
 ·obtain rfl:i=ls.length:=by omega
  refine rC tb 2 U (Ag (rX tb 5 U (y_ (yl_convR0 (rs:=toInts (ls.take ls.length)) ((A1 (d:=d) (enc:=encR) (sz:=1) (e:=21) (X:=H) (fun _=>rfl) hd).mono sbt) (T U) runUnderlying175 runUnderlying9) (rO tb 4 U (Ah U (K9 U) ?_)) U)));exact⟨_,⟨by rw[List.take_length];rfl,rfl⟩,sbt⟩
abbrev encRt (n:Nn) (f:Flr) (v:Value):List Value:=encNn n++(encFl f++[v])
def rtH (br:Nat) (n:Nn) (f:Flr) (d:Sl) (ld:List Int):List (Nat × Obj):=(br,Cl (encRt n f (slV d ld.length)) 100)::slH d (ld.flatMap encI) 3
structure LdR (n:Nn) (ld:List Int):Prop where
 len:ld.length=n.links.length
 rng:∀ k,k<n.links.length→0≤gd ld k∧gd ld k≤1000000000000000
theorem findF_congr {n:Nn}{f g:Flr}(h1:f.links=g.links)(h2:f.node=g.node)(m:PM)(x y:Nat):findF n f m x y=findF n g m x y:=by
 obtain⟨q,c,l,d⟩:=f;obtain⟨q2,c2,l2,d2⟩:=g;simp only at h1 h2;subst h1 h2;rfl
theorem room_s {w0:World}{H:List (Nat × Obj)}(br:Nat)(n:Nn)(hn:NetR w0 H n)(hcap:∀ x∈n.links,0≤x.cap∧x.cap≤1048576)(f:Flr)(ld:List Int)(hld:LdR n ld)(ql:Option Addr)(cl:Nat)(hr:Fnd H br (Cl (encRt n f (.slice ql ld.length cl)) 100))(hL:Arr w0 H ql 1 encI ld)(k:Nat)(hk:k<n.links.length)(a:Int)(ha:0≤a∧a≤1048576):
  FSpec Tryz.prog w0 115 #[.pointer (some ⟨br,0,none⟩), .int .i64 (k:Int), .int .i64 a] H (Still (.bool (capB n ld k a)) H):=by
 refine Ao Tryz.func115 U ntmps115 U ?_;have hll:=hld.len;have hlr:=hld.rng k hk;have hc:=hcap _ (Af (l:=n.links) (i:=k) hk);refine rD tb 6 U (Bh 21 [(0,true),(1,true),(2,true),(3,true),(4,true),(5,true),(6,true),(7,true),(8,true),(9,true),(10,true),(11,true),(12,true),(13,true),(14,true),(15,true),(16,true),(17,true),(18,true),(19,true),(20,true)] _ mixd qkr sb0 ?_ A8);refine rP tb 3 U ?_;refine o_y U (Lb U isAgg27 (by first|exact c_o|exact Bo (by repeat (first|exact hr|refine Aq ?_|refine Ax ?_)) U)) ?_ U Ac;refine rP tb 1 U (o_y U (Ld U U runUnderlying27 sizeOf3 qom (by first|exact rfl|exact hL.b (i:=k) qom)) ?_ U Ac);refine o_y U (Lb U isAgg3 (by first|exact c_o|exact cell1 ((hL.mono sbt).cs (i:=k) qom))) ?_ U Ac;refine rP tb 1 U (o_y U (Av (T U) (T U) qom) ?_ U Ac);refine rP tb 4 U ?_;refine o_y U (Lb U isAgg23 (by first|exact c_o|exact Bo (by repeat (first|exact hr|refine Aq ?_|refine Ax ?_)) U)) ?_ U Ac;refine rP tb 1 U (o_y U (Ld U U runUnderlying23 sizeOf61 qom (by first|exact rfl|exact hL.b (i:=k) qom|exact hn.links.b (i:=k) hk)) ?_ U Ac);refine rP tb 1 U (o_y U (Lb U isAgg3 (by first|exact c_o|exact c_m (hn.links.f (i:=k) (j:=2) hk U))) ?_ U Ac);refine o_y U (H3 Ap (T U) qom) ?_ U Ac;refine rP tb 2 U (A7 U (rO tb 3 U (Ah U (K9 U) ?_)));exact⟨_,⟨rfl,rfl⟩,sbt⟩
theorem zbd29_1 (a0:Int)(w:World):(Instr.build 29 #[(1, .int .i64 a0)]).run Tryz.prog w= .ok (.agg #[.slice none 0 0, .int .i64 a0]) w:=by kernel_rfl
theorem zbs27_0_z  (w:World):(Instr.buildSlice 27 0 #[]).run Tryz.prog w= .ok (.slice (some ⟨w.heap.size,0,none⟩) 0 0) (w.alloc (Cl [] 3)):=by kernel_rfl
theorem fullL_yes {n:Nn}{f:Flr}{ld:List Int}{a:Int}{k:Nat}(h:(k:Int)∈f.links∨capB n ld k a=false):fullL n f ld a (k+1)=fullL n f ld a k++[(k:Int)]:=by
 rw[fullL,if_pos h]
theorem fullL_no {n:Nn}{f:Flr}{ld:List Int}{a:Int}{k:Nat}(h: ¬ ((k:Int)∈f.links∨capB n ld k a=false)):fullL n f ld a (k+1)=fullL n f ld a k:=by
 rw[fullL,if_neg h]
theorem Hu {n:Nn}{f:Flr}{ld:List Int}{a:Int}:∀ k,(fullL n f ld a k).length≤k
 |0=>Nat.le_refl _
 |k+1=>by
  have:=Hu (n:=n) (f:=f) (ld:=ld) (a:=a) k;unfold fullL
  split
  ·simp;omega
  ·omega
theorem full_s {w0:World}{H:List (Nat × Obj)}(br:Nat)(n:Nn)(hn:NetR w0 H n)(hok:NnOk n)(hcap:∀ x∈n.links,0≤x.cap∧x.cap≤1048576)(f:Flr)(hf:Arr w0 H f.q 1 encI f.links)(hfl:f.links.length≤1000000)(ld:List Int)(hld:LdR n ld)(ql:Option Addr)(cl:Nat)(hr:Fnd H br (Cl (encRt n f (.slice ql ld.length cl)) 100))(hL:Arr w0 H ql 1 encI ld)(a:Int)(ha:0≤a∧a≤1048576):
  FSpec Tryz.prog w0 113 #[.pointer (some ⟨br,0,none⟩), .int .i64 a] H (fun v H'=>∃ d:Sl,(v= .agg (encFl ⟨slQ d,slC d,fullL n f ld a n.links.length,f.node⟩).toArray∧SlOk d (fullL n f ld a n.links.length).length 1)∧H'=slH d ((fullL n f ld a n.links.length).flatMap encI) 3++H):=by
 refine Ao Tryz.func113 U ntmps113 U ?_;have hfewL:=hok.fewL;refine rD tb 2 U (e_ (Ai zeroValue29 cs_) ?_ U);rintro _ _ ⟨n4,rfl,rfl⟩;refine rO tb 8 U ?_;refine y_ (Lb U isAgg3 (by first|exact c_o|exact Bo (by repeat (first|exact hr|refine Aq ?_|refine Ax ?_)) U)) ?_ U;refine y_ (A0 (.cons (T U) .nil) (zbd29_1 _)) (e_ (Ai zeroValue29 cs_) ?_ U) U;rintro _ _ ⟨n5,rfl,rfl⟩;refine Aw (Le U U sizeOf29) U Ac ?_;rintro _ _ ⟨rfl,rfl⟩;refine rO tb 9 U ?_;refine y_ (Lb U isAgg23 (by first|exact c_o|exact Bo (by repeat (first|exact hr|refine Aq ?_|refine Ax ?_)) U)) ?_ U;refine rO tb 5 U ?_;refine Ba (X:=Nat × Sl) (V:=fun ⟨k,d⟩=>[(19, .int .i64 (k:Nat))]) (C:=[(0,_),(1,_),(4,_),(5,_),(18,_)]) (G:=fun ⟨k,d⟩=>(n5,Cl [slV d (fullL n f ld a k).length, .int .i64 f.node] 29)::(slH d ((fullL n f ld a k).flatMap encI) 3++((n4,Cl [.slice none 0 0, .int .i64 0] 29)::H))) (φ:=fun ⟨k,d⟩=>k≤n.links.length∧SlOk d (fullL n f ld a k).length 1) (μ:=fun ⟨k,d⟩=>n.links.length - k) (x0:=(0, .nil)) ?_ ⟨Aa rfl,Aa rfl,Aa rfl,Aa rfl,Aa rfl,trivial⟩ ⟨qat,trivial⟩ sb0 ?_
 ·exact⟨Nat.zero_le _,rfl⟩
 rintro⟨k,d⟩ ⟨hk,hd⟩;refine rD tb 6 U ?_;refine Ad (Aa U) (fun c20=> ?_) (fun c20=> ?_)
 ·refine rC tb 16 U ?_;refine y_ (Lb U isAgg27 (by first|exact c_o|exact Bo (by repeat (first|exact hr|refine Aq ?_|refine Ax ?_)) U)) ?_ U;refine rO tb 1 U (y_ (Ay (qe2 U U) call121 (fun H' hs=>hasI_s f.links f.q f.c (k:Int) (hf.mono (stn hs)) qom)) ?_ U);refine rO tb 1 U ?_;refine A4 (s:=29) (Aa U) (fun c29=> ?_) (fun c29=> ?_)
  ·refine rO tb 11 U (y_ (Lb U isAgg27 qco) ?_ U);refine rO tb 1 U (e_ (Aj (.cons (T U) .nil) (zbs27_1_0 _)) ?_ U);rintro _ _ ⟨n39,rfl,rfl⟩;refine e_ (Bg ((k:Int)) (by':=8) (enc:=encI) (l:=fullL n f ld a k) qlc (T U) (T U) runUnderlying27 runUnderlying27 sizeOf3 typeInfo3 U zeroValue3 U (fun _=>rfl) U hd qde (by have:=Hu (n:=n) (f:=f) (ld:=ld) (a:=a) k;omega)) ?_ U;rintro _ _ ⟨d2,rfl,hd2,rfl⟩;refine rO tb 1 U ?_
   first|refine Aw (Le U U sizeOf27) U Ac ?_|refine Aw (Bs (T U) (T U) U sizeOf27) U Ac ?_|refine Aw (Bj (T U) (T U) U sizeOf27) U Ac ?_
   rintro _ _ ⟨rfl,rfl⟩;refine kO tb 3 [0,1,4,5,18,19] rfl U (rG tb 1 U (y_ (Av (T U) Ap qom) ?_ U));refine rO tb 2 U ?_;have he:=fullL_yes (n:=n) (f:=f) (ld:=ld) (a:=a) (k:=k) (.inl c29);refine Ar ((k+1,d2)) ?_ ?_ ⟨qat,trivial⟩ ⟨Aa U,Aa U,Aa U,Aa U,Aa U,trivial⟩ ?_
   ·exact⟨by omega,by rw[he];exact hd2⟩
   ·first|omega|(simp only[];omega)
   ·(show ((n5,Cl [slV d2 (fullL n f ld a (k+1)).length,_] 29)::(slH d2 ((fullL n f ld a (k+1)).flatMap encI) 3++_)).Sublist _;rw[he];exact sbt)
  ·refine rO tb 3 U (A5 (Ay (qe3 U U U) call115 (fun H' hs=>room_s br n (hn.mono (stn hs)) hcap f ld hld ql cl ((stn hs).subset hr) (hL.mono (stn hs)) k qom a ha)) U (Az U U (Aa U)) ?_);refine A5 (A9 (T U)) U (Az U U (Aa U)) ?_;refine rO tb 3 U ?_;refine Ad (Aa U) (fun c35=> ?_) (fun c35=> ?_)
   ·refine rC tb 2 U (y_ (Lb U isAgg27 qco) ?_ U);refine rO tb 1 U (e_ (Aj (.cons (T U) .nil) (zbs27_1_0 _)) ?_ U);rintro _ _ ⟨n39,rfl,rfl⟩;refine e_ (Bg ((k:Int)) (by':=8) (enc:=encI) (l:=fullL n f ld a k) qlc (T U) (T U) runUnderlying27 runUnderlying27 sizeOf3 typeInfo3 U zeroValue3 U (fun _=>rfl) U hd qde (by have:=Hu (n:=n) (f:=f) (ld:=ld) (a:=a) k;omega)) ?_ U;rintro _ _ ⟨d2,rfl,hd2,rfl⟩;refine rO tb 1 U ?_
    first|refine Aw (Le U U sizeOf27) U Ac ?_|refine Aw (Bs (T U) (T U) U sizeOf27) U Ac ?_|refine Aw (Bj (T U) (T U) U sizeOf27) U Ac ?_
    rintro _ _ ⟨rfl,rfl⟩;refine kO tb 3 [0,1,4,5,18,19] rfl U (rG tb 1 U (y_ (Av (T U) Ap qom) ?_ U));refine rO tb 2 U ?_;have he:=fullL_yes (n:=n) (f:=f) (ld:=ld) (a:=a) (k:=k) (.inr (decide_eq_false c35));refine Ar ((k+1,d2)) ?_ ?_ ⟨qat,trivial⟩ ⟨Aa U,Aa U,Aa U,Aa U,Aa U,trivial⟩ ?_
    ·exact⟨by omega,by rw[he];exact hd2⟩
    ·first|omega|(simp only[];omega)
    ·(show ((n5,Cl [slV d2 (fullL n f ld a (k+1)).length,_] 29)::(slH d2 ((fullL n f ld a (k+1)).flatMap encI) 3++_)).Sublist _;rw[he];exact sbt)
   ·refine rC tb 4 U (y_ (Av (T U) Ap qom) ?_ U);refine rO tb 2 U ?_;have he:=fullL_no (n:=n) (f:=f) (ld:=ld) (a:=a) (k:=k) (by rintro(h|h);exact c29 h;exact c35 (of_decide_eq_false h));refine Ar ((k+1,d)) ?_ ?_ ⟨qat,trivial⟩ ⟨Aa U,Aa U,Aa U,Aa U,Aa U,trivial⟩ ?_
    ·exact⟨by omega,by rw[he];exact hd⟩
    ·first|omega|(simp only[];omega)
    ·first|(show ((n5,Cl [slV d2 (fullL n f ld a (k+1)).length,_] 29)::(slH d2 ((fullL n f ld a (k+1)).flatMap encI) 3++_)).Sublist _;rw[he];exact sbt)|(show ((n5,Cl [slV d (fullL n f ld a (k+1)).length,_] 29)::(slH d ((fullL n f ld a (k+1)).flatMap encI) 3++_)).Sublist _;rw[he];exact sbt)
 ·obtain rfl:k=n.links.length:=by omega
  refine rC tb 2 U (Ag (rX tb 4 U (y_ (Lc U isAgg29 sizeOf29 U qcs) ?_ U)));refine Aw (Le U U sizeOf29) U Ac ?_;rintro _ _ ⟨rfl,rfl⟩;refine rO tb 3 U (Ah U (.cellA (Aa U) isAgg29 sizeOf29 U qcs .nil) ?_);exact⟨_,⟨d,⟨rfl,hd⟩,rfl⟩,sbt⟩
theorem clone_s {w0:World}{H:List (Nat × Obj)}(ld:List Int)(q:Addr)(c:Nat)(hL:Arr w0 H (some q) 1 encI ld)(hl:ld.length≤1000000):
  FSpec Tryz.prog w0 155 #[.slice (some q) ld.length c] H (fun v H'=>∃ d:Sl,(v=slV d ld.length∧SlOk d ld.length 1)∧H'=slH d (ld.flatMap encI) 3++H):=by
 refine Ao Tryz.func155 U ntmps155 U (rD tb 9 U (y_ (yl_eqSN (T U) Ap) (rO tb 7 U (e_ (Aj .nil (zbs27_0_z)) ?_ U)) U));rintro _ _ ⟨n5,rfl,rfl⟩;refine rO tb 1 U (e_ (eff_appEmp (ld) (by':=8) (by exact rfl) (by repeat (first|exact locH1|exact LocL.h|apply LocL.t|apply LocL.a)) (T U) (T U) runUnderlying27 runUnderlying27 sizeOf3 typeInfo3 U zeroValue3 U (fun _=>rfl) (fun _=>rfl) qde qom ((hL.mono sbt))) ?_ U);rintro _ _ ⟨d2,rfl,hd2,rfl⟩;refine rO tb 4 U (Ah U (K9 U) ?_);exact⟨_,⟨d2,⟨rfl,hd2⟩,rfl⟩,sbt⟩
theorem perm_mid (A R H:List (Nat × Obj)):(A++(R++H)).Perm (R++(A++H)):=by
 rw[← List.append_assoc,← List.append_assoc];exact List.perm_append_comm.append_right H
theorem perm_mid3 (A B R H:List (Nat × Obj))(e5 e4:Nat × Obj):(A++(B++(e5::e4::(R++H)))).Perm (R++(A++(B++(e5::e4::H)))):=by
 have h:=perm_mid (A++(B++[e5,e4])) R H
 simpa only[List.append_assoc,List.cons_append,List.nil_append] using h
theorem takeF_cons (n:Nn)(a:Int)(k:Nat)(ks:List Nat)(ld:List Int):takeF n a (k::ks) ld=if capB n ld k a then takeF n a ks (ld.set k (gd ld k+a)) else none:=rfl
theorem cap_le {n:Nn}(hcap:∀ x∈n.links,0≤x.cap∧x.cap≤1048576){ld:List Int}(hld:LdR n ld){k:Nat}(hk:k<n.links.length){a:Int}(ha:0≤a)(h:capB n ld k a=true):LdR n (ld.set k (gd ld k+a)):=by
 have h1:gd ld k+a≤16*(gd n.links k).cap:=of_decide_eq_true h;have h2:=hcap _ (Af (l:=n.links) hk);have h3:=hld.rng k hk;refine⟨by rw[List.length_set,hld.len],fun j hj=> ?_⟩
 by_cases e:k=j
 ·subst e;rw[An (by rw[List.length_set,hld.len];exact hk),List.getElem_set_self];omega
 ·rw[F0 e];exact hld.rng j hj
theorem take_s {w0:World}{H:List (Nat × Obj)}(br:Nat)(n:Nn)(hn:NetR w0 H n)(hok:NnOk n)(hcap:∀ x∈n.links,0≤x.cap∧x.cap≤1048576)(f:Flr)(hf:Arr w0 H f.q 1 encI f.links)(hfl:f.links.length≤1000000)(ld:List Int)(hld:LdR n ld)(b:Nat)(ls:List Nat)(q:Option Addr)(c:Nat)(hA:Arr w0 H q 1 encU ls)(hl:ls.length≤1000000)(hlt:∀ x∈ls,x<n.links.length)(a:Int)(ha:0≤a∧a≤1048576):
  FSpec Tryz.prog w0 114 #[.pointer (some ⟨br,0,none⟩), .slice q ls.length c, .int .i64 a] (rtH br n f (Sl.blk b ld.length []) ld++H) (fun v H'=>∃ y:Sl,(v= .bool (takeF n a ls ld).isSome∧SlOk y ld.length 1∧((takeF n a ls ld).isSome=true→y=(Sl.blk b ld.length [])))∧H'=rtH br n f y ((takeF n a ls ld).getD ld)++H):=by
 refine Ao Tryz.func114 U ntmps114 U ?_;have hfewL:=hok.fewL;have hll:=hld.len;unfold rtH;rw[List.cons_append];refine rD tb 10 U (y_ (Lb U isAgg27 qco) ?_ U);refine e_ (Ak (qe1 U) call155 (clone_s ld ⟨b,0,none⟩ ld.length ((A1 (w0:=w0) (d:=(Sl.blk b ld.length [])) (enc:=encI) (sz:=1) (e:=3) (l:=ld) (X:=H) (fun _=>rfl) (show SlOk (Sl.blk b ld.length []) ld.length 1 from ⟨Nat.le_refl _,by simp⟩)).mono sbt) qom)) ?_ U;rintro _ _ ⟨dc,⟨rfl,hdc⟩,rfl⟩;refine rO tb 12 U ?_;refine Ba (X:=Nat × List Int) (V:=fun ⟨i,l2⟩=>[(17, .int .i64 (i:Nat))]) (C:=[(0,_),(2,_),(7,_),(15,_),(16,_)]) (G:=fun ⟨i,l2⟩=>slH dc (ld.flatMap encI) 3++((br,Cl (encRt n f (slV (Sl.blk b ld.length []) ld.length)) 100)::(slH (Sl.blk b ld.length []) (l2.flatMap encI) 3++H))) (φ:=fun ⟨i,l2⟩=>i≤ls.length∧l2.length=ld.length∧LdR n l2∧takeF n a ls ld=takeF n a (ls.drop i) l2) (μ:=fun ⟨i,l2⟩=>ls.length - i) (x0:=(0,ld)) ?_ ⟨Aa rfl,Aa rfl,Aa rfl,Aa rfl,Aa rfl,trivial⟩ ⟨qat,trivial⟩ sb0 ?_
 ·exact⟨Nat.zero_le _,rfl,hld,rfl⟩
 rintro⟨i,l2⟩ ⟨hi,hl2,hlr2,htk⟩;refine rD tb 6 U ?_;refine Ad (Aa U) (fun c18=> ?_) (fun c18=> ?_)
 ·have hxs:=hlt _ (Af (l:=ls) (i:=i) qom);have hdr:ls.drop i=(gd ls i)::ls.drop (i+1):=by rw[List.drop_eq_getElem_cons qom,An qom]
  rw[hdr,takeF_cons] at htk;have hlv:=hlr2.rng _ hxs;refine rC tb 6 U (y_ (Ld U U runUnderlying27 sizeOf3 qom (by first|exact rfl|exact hA.b (i:=i) qom)) ?_ U);refine y_ (Lb U isAgg3 (by first|exact c_o|exact cell1 ((hA.mono sbt).cs (i:=i) qom))) ?_ U;refine rO tb 9 U ?_;refine y_ (Ay (qe3 U U U) call115 (fun H' hs=>room_s br n (hn.mono (stn hs)) hcap f l2 hlr2 (some ⟨b,0,none⟩) ld.length (hs.subset (by rw[hl2];exact fdd)) ((A1 (w0:=w0) (d:=(Sl.blk b ld.length [])) (enc:=encI) (sz:=1) (e:=3) (l:=l2) (X:=H) (fun _=>rfl) (by rw[hl2];exact(show SlOk (Sl.blk b ld.length []) ld.length 1 from ⟨Nat.le_refl _,by simp⟩))).mono (stn hs)) (gd ls i) hxs a ha)) ?_ U;refine A5 (A9 (T U)) U Ac ?_;refine rO tb 2 U ?_;refine Ad (Aa U) (fun c25=> ?_) (fun c25=> ?_)
  ·have hno:takeF n a ls ld=none:=by rw[htk,if_neg (by rw[show capB n l2 (gd ls i) a=false from decide_eq_false c25];decide)]
   refine rC tb 6 U (e_ (Bj (T U) (T U) U sizeOf27) ?_ U);rintro _ _ ⟨rfl,rfl⟩;refine Fb List.perm_middle (rO tb 11 U (As (rX tb 2 U (Ah U (K9 U) ?_))));rw[hno];exact⟨_,⟨dc,⟨rfl,hdc,fun h=>by cases h⟩,rfl⟩,sbt⟩
  ·have hcb:capB n l2 (gd ls i) a=true:=decide_eq_true (Classical.not_not.1 c25);rw[if_pos hcb] at htk;refine rC tb 6 U (y_ (Lb U isAgg27 qco) ?_ U);refine rO tb 1 U (y_ (Ld U U runUnderlying27 sizeOf3 qom (by exact rfl)) ?_ U);refine y_ (Lb U isAgg3 (by first|exact c_o|exact cell1 (((A1 (w0:=w0) (d:=(Sl.blk b ld.length [])) (enc:=encI) (sz:=1) (e:=3) (l:=l2) (X:=H) (fun _=>rfl) (by rw[hl2];exact(show SlOk (Sl.blk b ld.length []) ld.length 1 from ⟨Nat.le_refl _,by simp⟩))).mono sbt).cs (i:=(gd ls i)) qom))) ?_ U;refine rO tb 1 U (y_ (Av (T U) (T U) qom) ?_ U);refine y_ (Ld U U runUnderlying27 sizeOf3 qom (by exact rfl)) ?_ U;refine e_ (B4 (d:=(Sl.blk b ld.length [])) (l:=l2) (e:=3) (enc:=encI) (sz:=1) (i:=(gd ls i)) (gd l2 (gd ls i)+a) (fun _=>rfl) qlc (T U) (T U) (.one U) U sizeOf3 qom (by rw[hl2];exact(show SlOk (Sl.blk b ld.length []) ld.length 1 from ⟨Nat.le_refl _,by simp⟩))) ?_ U;rintro _ _ ⟨rfl,rfl⟩;refine rO tb 4 U (y_ (Av (T U) Ap qom) ?_ U);refine rO tb 2 U ?_;refine Ar ((i+1,l2.set (gd ls i) (gd l2 (gd ls i)+a))) ?_ ?_ ⟨qat,trivial⟩ ⟨Aa U,Aa U,Aa U,Aa U,Aa U,trivial⟩ ?_
   ·exact⟨by omega,by rw[List.length_set,hl2],cap_le hcap hlr2 hxs ha.1 hcb,htk⟩
   ·first|omega|(simp only[];omega)
   ·exact sbt
 ·refine rC tb 2 U (Ag (rX tb 8 U (Ah U (K9 U) ?_)));have hyes:takeF n a ls ld=some l2:=by rw[htk,List.drop_of_length_le qom];rfl
  rw[hyes];exact⟨_,⟨(Sl.blk b ld.length []),⟨rfl,(show SlOk (Sl.blk b ld.length []) ld.length 1 from ⟨Nat.le_refl _,by simp⟩),fun _=>rfl⟩,by show _=(br,Cl (encRt n f (slV (Sl.blk b ld.length []) l2.length)) 100)::(slH (Sl.blk b ld.length []) (l2.flatMap encI) 3++H);rw[hl2]⟩,sbt⟩
theorem find_lt {n:Nn}(hok:NnOk n){f:Flr}{o:Odr}(ho:OdrOk n o){ld:List Int}{a:Int}{l:List Nat}(h:findF n (fullF n f ld a) (mOf o.e) o.x o.y=(l,0)):holdsF n f o.e o.x o.y (toInts l)=true∧∀ k∈l,k<n.links.length:=by
 have h1:=(find_yes hok ho.mce ho.x (by rw[h])).1;rw[h] at h1;have h2:=holds_full h1;refine⟨h2,fun k hk=> ?_⟩;have:=(Ea h2 (k:Int) (List.mem_map.2 ⟨k,hk,rfl⟩)).2.1;omega
theorem part_yes {n:Nn}{f:Flr}{o:Odr}{ld:List Int}{l:List Nat}(h:findF n (fullF n f ld o.amt) (mOf o.e) o.x o.y=(l,0)):partF n f o ld=(takeF n o.amt l ld).map fun ld'=>(l,ld'):=by
 unfold partF;rw[h];simp
theorem part_no {n:Nn}{f:Flr}{o:Odr}{ld:List Int}{l:List Nat}{c:Int}(h:findF n (fullF n f ld o.amt) (mOf o.e) o.x o.y=(l,c))(hc: ¬ c=0):partF n f o ld=none:=by
 unfold partF;rw[h];simp[hc]
theorem part_s {w0:World}{H:List (Nat × Obj)}(br:Nat)(n:Nn)(hn:NetR w0 H n)(hok:NnOk n)(hcap:∀ x∈n.links,0≤x.cap∧x.cap≤1048576)(f:Flr)(hf:Arr w0 H f.q 1 encI f.links)(hfl:f.links.length≤1000000)(o:Odr)(ho:OdrOk n o)(om:Om)(hod:OdR om o)(ld:List Int)(hld:LdR n ld)(m:Mc)(hm:McOk w0 H m)(hmpl:m.pl=mOf o.e)(b:Nat)(l:List Nat)(c:Int)(hlc:findF n (fullF n f ld o.amt) (mOf o.e) o.x o.y=(l,c))(hln:l.length≤1000000):
  FSpec Tryz.prog w0 58 #[.pointer (some ⟨br,0,none⟩), .agg (encOm om).toArray, .agg (encMc m).toArray] (rtH br n f (Sl.blk b ld.length []) ld++H) (fun v H'=>∃ y:Sl × Sl,(v= .tuple #[slV y.1 l.length, .bool (partF n f o ld).isSome]∧SlOk y.1 l.length 1∧SlOk y.2 ld.length 1∧((partF n f o ld).isSome=true→y.2=(Sl.blk b ld.length [])))∧H'=(rtH br n f y.2 ((partF n f o ld).elim ld (·.2))++slH y.1 (l.flatMap encU) 3)++H):=by
 refine Ao Tryz.func58 U ntmps58 U ?_;have hfewL:=hok.fewL;have hmce:=ho.mce;have hpm:PMok m.pl:=by rw[hmpl];exact hmce.ok
 have hsr:Srt m.names:=show Srt m.pl.names by rw[hmpl];exact hmce.sr
 have hnl:m.names.length≤4611686018427387903:=(show m.pl.names.length≤4611686018427387903 by rw[hmpl];exact Nat.le_trans ho.nm qom);have hr:=(show Fnd (rtH br n f (Sl.blk b ld.length []) ld++H) br (Cl (encRt n f (slV (Sl.blk b ld.length []) ld.length)) 100) from A2);have hL:=(show Arr w0 (rtH br n f (Sl.blk b ld.length []) ld++H) (slQ (Sl.blk b ld.length [])) 1 encI ld from (A1 (w0:=w0) (d:=(Sl.blk b ld.length [])) (enc:=encI) (sz:=1) (l:=ld) (X:=H) (e:=3) (fun _=>rfl) (show SlOk (Sl.blk b ld.length []) ld.length 1 from ⟨Nat.le_refl _,by simp⟩)).mono (List.Sublist.cons (br,Cl (encRt n f (slV (Sl.blk b ld.length []) ld.length)) 100) (List.Sublist.refl _)));have hox:=ho.x;have hoa:0≤o.amt∧o.amt≤1048576:=⟨ho.a0,ho.a1⟩;rw[hod.eq];refine rD tb 2 U (e_ (Lf U cs_) ?_ U);rintro _ _ ⟨n4,rfl,rfl⟩;refine e_ (Lf U cs_) ?_ U;rintro _ _ ⟨n5,rfl,rfl⟩;refine rO tb 5 U (Bh 19 [(0,true),(1,true),(2,true),(3,true),(4,true),(5,true),(6,true),(8,true),(9,true),(10,true),(11,true),(12,true),(7,false),(13,false),(14,true),(15,true),(16,true),(17,true),(18,true)] _ mixd qkr sb0 ?_ A8);refine rP tb 3 U ?_;refine o_y U (Lc U isAgg26 sizeOf26 U (by exact Bk (l:=encRt n f (slV (Sl.blk b ld.length []) ld.length)) (o:=0) (k:=3) (by repeat (first|exact hr|refine Aq ?_|refine Ax ?_)))) ?_ U Ac;refine rP tb 2 U (o_y U (Lb U isAgg3 qco) ?_ U Ac);refine o_y U (Lc U isAgg68 sizeOf68 U qcs) ?_ U Ac;refine rP tb 1 U (o_y U (Lb U isAgg3 qco) ?_ U Ac);refine rP tb 1 U (o_y U (Lb U isAgg3 qco) ?_ U Ac);refine o_e U (Ak (qe2 U U) call113 (full_s br n (hn.mono sbt) hok hcap f (hf.mono sbt) hfl ld hld (slQ (Sl.blk b ld.length [])) (slC (Sl.blk b ld.length [])) (by repeat (first|exact hr|refine Aq ?_|refine Ax ?_)) (hL.mono sbt) o.amt hoa)) ?_ U Ac;rintro _ _ ⟨dF,⟨rfl,hdF⟩,rfl⟩;have hfll:=Hu (n:=n) (f:=f) (ld:=ld) (a:=o.amt) n.links.length;refine⟨sbt,(o_e U (Ak (.cons (T U) (.cons (T U) (.cons (T U) (.cons (T U) (.cons (T U) .nil))))) call36 (findE_s n ⟨slQ dF,slC dF,fullL n f ld o.amt n.links.length,f.node⟩ m ⟨hn.mono sbt,(A1 (w0:=w0) (d:=dF) (enc:=encI) (sz:=1) (e:=3) (fun _=>rfl) hdF).mono sbt,hm.mono sbt⟩ ⟨hok,by show (fullL n f ld o.amt n.links.length).length≤_;omega,hpm,hsr,hnl⟩ o.x hox o.y (l:=l) (c:=c) (hf:=(findF_congr (f:=⟨slQ dF,slC dF,fullL n f ld o.amt n.links.length,f.node⟩) (g:=fullF n f ld o.amt) U U m.pl o.x o.y).trans (by rw[hmpl];exact hlc)))) ?_ U Ac)⟩;rintro _ _ ⟨dK,⟨rfl,hdK⟩,rfl⟩;refine⟨sbt,(rP tb 5 U (A7 U (rO tb 4 U (y_ (Br (T U)) (Fb (perm_mid3 (slH dK (l.flatMap encU) 3) (slH dF ((fullL n f ld o.amt n.links.length).flatMap encI) 3) (rtH br n f (Sl.blk b ld.length []) ld) H _ _) (rO tb 3 U ?_)) U))))⟩;refine A4 (s:=30) (Aa U) (fun c30=> ?_) (fun c30=> ?_)
 ·have hc0:c=0:=c30;subst hc0;rw[part_yes hlc];refine rO tb 3 U (A5 (Lb U isAgg3 qco) U (Az U U (Aa U)) ?_);refine Aw (Ak (qe3 U U U) call114 (A6 (rtH br n f (Sl.blk b ld.length []) ld) .h (take_s br n (hn.mono sbt) hok hcap f (hf.mono sbt) hfl ld hld b l (slQ dK) (slC dK) ((A1 (w0:=w0) (d:=dK) (enc:=encU) (sz:=1) (e:=3) (X:=[]) (fun _=>rfl) hdK).mono (by rw[List.append_nil];exact List.sublist_append_left _ _)) hln (find_lt hok ho hlc).2 o.amt hoa))) U (Az U U (Aa U)) ?_;rintro _ _ ⟨dy,⟨rfl,hdy,hdb⟩,rfl⟩;refine kO tb 5 [6,7] rfl U (rG tb 1 U (Ah U (.tmp (Aa U) (K9 U)) ?_));have he:(takeF n o.amt l ld).getD ld=((takeF n o.amt l ld).map fun ld'=>(l,ld')).elim ld (·.2):=by cases takeF n o.amt l ld<;>rfl
  simp only[he];exact⟨_,⟨(dK,dy),⟨by rw[Option.isSome_map];rfl,hdK,hdy,fun h=>hdb (by simpa using h)⟩,rfl⟩,by rw[List.append_assoc];exact sbt⟩
 ·rw[part_no hlc c30];refine kO tb 10 [6,7] rfl U (rG tb 1 U (Ah U (.tmp (Aa U) (K9 U)) ?_));exact⟨_,⟨(dK,(Sl.blk b ld.length [])),⟨rfl,hdK,(show SlOk (Sl.blk b ld.length []) ld.length 1 from ⟨Nat.le_refl _,by simp⟩),fun h=>by cases h⟩,rfl⟩,by rw[List.append_assoc];exact sbt⟩
end Go.Proofs.YtpkijiejccngcaaGreatDoor
namespace Go.Proofs.YtpkijiejccngcaaGreatDoor
open _root_.Go.Proofs.Tryz
open Go.ChangeShapes Go.WideShapes Go.ChangeAt Go.RowKit Go.Joins Go.Deep
set_option linter.unusedVariables false
set_option linter.unusedSimpArgs false
set_option linter.unusedSectionVars false
set_option maxRecDepth 100000
theorem below_cell {W w:World}{p:Addr}{v:Value}(hb:Below W.heap.size W w)(h:W.cell? p=some v):w.cell? p=some v:=by
 have hlt:=World.block_lt_of_cell? _ _ h;have:=hb.block p.block hlt;unfold World.cell? at h ⊢;rw[this];exact h
theorem cell_arg {W:World}{p:Addr}{v:Value}(h:W.cell? p=some v):Cell W [] p v:=fun w hO=>below_cell hO.below h
theorem I6 {H:Type}(d:DataW H):1≤Rows.uptoBulk d:=by
 cases d with
 |lit l=>cases l<;>simp[Rows.uptoBulk]
 |nil=>simp[Rows.uptoBulk]
 |ptr d=>simp[Rows.uptoBulk]
 |slice elems spare=>simp[Rows.uptoBulk]
 |agg parts=>simp[Rows.uptoBulk]
 |iface t d=>simp[Rows.uptoBulk]
 |map entries=>simp[Rows.uptoBulk]
 |held h=>simp[Rows.uptoBulk]
theorem blk_sum {H:Type}{f:Nat→Nat}{D:Nat→DataW H}:∀ (l:List Nat),(∀ i∈l,f i≤Rows.uptoBulk (D i))→(l.map f).sum≤Rows.uptoBulkAll (l.map D)
 |[],_=>Nat.le_refl _
 |x::l,h=>by
  have h1:=h x (by simp);have h2:=blk_sum l fun i hi=>h i (by simp[hi])
  simp only[List.map_cons,List.sum_cons,Rows.uptoBulkAll];omega
theorem blk_mem {H:Type}{D:Nat→DataW H}:∀ {l:List Nat} {i:Nat},i∈l→Rows.uptoBulk (D i)≤Rows.uptoBulkAll (l.map D)
 |x::l,i,h=>by
  simp only[List.map_cons,Rows.uptoBulkAll];rcases List.mem_cons.1 h with rfl|h
  ·exact Nat.le_add_right _ _
  ·have:=blk_mem (D:=D) h;omega
section
variable {H:Type} {enc:TypeId × Value→H} {P:Program} {W:World} {b0:Nat} {sp1:Nat→Bool} {held:Bool}
theorem Ec {α:Type}{t e sz fuel:Nat}{cs:List Value}{x:DataW H × List MemPlace}{el:α→List Value}{φ:α→Prop}{szf:α→Nat}(ht:P.underlying t=some (.slice e))(hc:P.cellsOf e=sz)(hsz:0<sz)
  (hel:∀ n cs y,Rows.uptoBulk y.1<Rows.uptoBulk x.1→DataW.trod enc P W b0 sp1 held n e cs=some y→∃ u:α,cs=el u∧φ u∧szf u≤Rows.uptoBulk y.1) (h:DataW.trod enc P W b0 sp1 held fuel t cs=some x):
  ∃ (q:Option Addr) (l:List α) (cap:Nat),cs=[.slice q l.length cap]∧Arr W [] q sz el l∧l.length≤cap∧l.length≤9223372036854775807∧(∀ u∈l,φ u)∧(l.map szf).sum+1≤Rows.uptoBulk x.1:=by
 rcases open_slice ht h with ⟨rfl,rfl⟩|⟨a,len,cap,m,n,D,Pl,rfl,hb,hl,hm,hmm,rfl,hx⟩
 ·exact⟨none,[],0,rfl,fun i u hi=>by simp at hi,by simp,by simp,by simp,by simp[Rows.uptoBulk]⟩
 have hlm:len≤m:=by rw[hmm];split<;>omega
 have hlen:len≤9223372036854775807:=by unfold maxLen at hm;omega
 cases len with
 |zero=>exact⟨some a,[],cap,rfl,fun i u hi=>by simp at hi,by simp,by simp,by simp,by simp[Rows.uptoBulk]⟩
 |succ k=>
  have hbk:Rows.uptoBulkAll ((List.range (k+1)).map D)+1≤Rows.uptoBulk (DataW.slice ((List.range (k+1)).map D) ((List.range (m - (k+1))).map fun j=>D (k+1+j))):=by
   simp only[Rows.uptoBulk];omega
  have each:∀ i,i<k+1→∃ u:α,W.cells? b0 (a.add (i*sz)) sz=some (el u)∧φ u∧szf u≤Rows.uptoBulk (D i):=fun i hi=>by
   obtain⟨cs',h1,h2⟩:=hx i qom;rw[hc] at h1;have h3:=blk_mem (D:=D) (List.mem_range.2 hi);obtain⟨u,rfl,hu⟩:=hel _ _ _ (by simp only[];omega) h2;exact⟨u,h1,hu⟩
  obtain⟨u0,h00,hu0⟩:=each 0 qom
  letI:Inhabited α:=⟨u0⟩
  obtain⟨f,hf⟩:=choose_lt each;refine⟨some a,(List.range (k+1)).map f,cap,by simp,fun i u hi=> ?_,by simpa using hl,by simpa using hlen,fun u hu=> ?_,?_⟩
  ·have hik:i<k+1:=by have:=(List.getElem?_eq_some_iff.1 hi).1;simpa using this
   have hfu:f i=u:=by simpa[hik] using hi
   obtain⟨sb,so,spot⟩:=a;obtain⟨_,hl0,hc0⟩:=World.cells?_some h00;have hspot:spot=none:=by
    have h6:=(hc0 0 hsz).trans (List.getElem?_eq_getElem qom)
    simpa[Addr.add] using World.cell?_spot h6
   subst hspot;refine⟨rfl,fun j v hj=>cell_arg ?_⟩;obtain⟨_,hl1,hc1⟩:=World.cells?_some (hf i hik).1;rw[hfu] at hl1 hc1;have hjl:=(List.getElem?_eq_some_iff.1 hj).1;have h5:=hc1 j qom;rw[add_add,add_plain] at h5;have h6:=h5.trans hj;rw[← Nat.add_assoc] at h6;exact h6
  ·obtain⟨i,hi,rfl⟩:=List.mem_map.1 hu;exact(hf i (List.mem_range.1 hi)).2.1
  ·have:=blk_sum (f:=fun i=>szf (f i)) (D:=D) (List.range (k+1)) fun i hi=>(hf i (List.mem_range.1 hi)).2.2
   rw[List.map_map];have e:(szf ∘ f)=fun i=>szf (f i):=rfl
   rw[e];simp only[] at hbk ⊢;omega
end
theorem cells3:Tryz.prog.cellsOf 3=1:=by kernel_rfl
theorem cells4:Tryz.prog.cellsOf 4=1:=by kernel_rfl
theorem cells9:Tryz.prog.cellsOf 9=1:=by kernel_rfl
theorem cells22:Tryz.prog.cellsOf 54=1:=by kernel_rfl
theorem cells24:Tryz.prog.cellsOf 56=3:=by kernel_rfl
theorem cells42:Tryz.prog.cellsOf 27=1:=by kernel_rfl
theorem cells52:Tryz.prog.cellsOf 22=1:=by kernel_rfl
theorem cells53:Tryz.prog.cellsOf 23=1:=by kernel_rfl
theorem cells54:Tryz.prog.cellsOf 24=1:=by kernel_rfl
theorem cells56:Tryz.prog.cellsOf 26=3:=by kernel_rfl
theorem cells58:Tryz.prog.cellsOf 29=2:=by kernel_rfl
theorem cells71:Tryz.prog.cellsOf 61=3:=by kernel_rfl
theorem cells138:Tryz.prog.cellsOf 85=4:=by kernel_rfl
theorem cells154:Tryz.prog.cellsOf 88=2:=by kernel_rfl
theorem own_knob:ownKnob Tryz.prog.godebug=none:=by kernel_rfl
theorem i64_bd {n:Int}(h:(Lit.int .i64 n).wf=true): -9223372036854775808≤n∧n≤9223372036854775807:=by
 have:=bounds_i64 h;exact this
theorem sum_len {α:Type}(l:List α):(l.map fun _=>1).sum=l.length:=by
 induction l with
 |nil=>rfl
 |cons x l ih=>simp only[List.map_cons,List.sum_cons,List.length_cons,ih];omega
theorem sum_mem {α:Type}{f:α→Nat}:∀ {l:List α} {x:α},x∈l→f x≤(l.map f).sum
 |y::l,x,h=>by
  simp only[List.map_cons,List.sum_cons];rcases List.mem_cons.1 h with rfl|h
  ·omega
  ·have:=sum_mem (f:=f) h;omega
theorem szL_sum:∀ l:List Rxm,szL l=(l.map Rxm.sz).sum
 |[]=>rfl
 |x::l=>by simp only[szL,List.map_cons,List.sum_cons,szL_sum l]
section
variable {H:Type} {enc:TypeId × Value→H} {W:World} {b0 n:Nat} {sp1:Nat→Bool} {held:Bool} {y:DataW H × List MemPlace} {cs:List Value}
theorem Ei {c:Value}(h:DataW.trod enc Tryz.prog W b0 sp1 held n 3 [c]=some y):∃ a:Int,c= .int .i64 a∧(-9223372036854775808≤a∧a≤9223372036854775807):=by
 obtain⟨a,e0,_,wa⟩:=DataW.trod_int underlying3 h;simp at e0;exact⟨a,e0,i64_bd wa⟩
theorem rd_str (h:DataW.trod enc Tryz.prog W b0 sp1 held n 9 cs=some y):∃ u:ByteArray,cs=encS u∧u.size≤9223372036854775807:=by
 obtain⟨s,e0,_,ws⟩:=DataW.trod_string underlying9 h;exact⟨s,e0,by unfold maxLen at ws;omega⟩
theorem rd_ints (h:DataW.trod enc Tryz.prog W b0 sp1 held n 27 cs=some y):∃ (q:Option Addr) (l:List Int) (cap:Nat),cs=[.slice q l.length cap]∧Arr W [] q 1 encI l∧l.length≤cap∧l.length≤9223372036854775807∧(∀ u∈l, -9223372036854775808≤u∧u≤9223372036854775807)∧l.length+1≤Rows.uptoBulk y.1:=by
 obtain⟨q,l,cap,e,a,c,b,f,s⟩:=Ec (el:=encI) (φ:=fun u=> -9223372036854775808≤u∧u≤9223372036854775807) (szf:=fun _=>1) underlying27 cells3 qom (fun n cs y _ h=>by
  obtain⟨a,e0,_,wa⟩:=DataW.trod_int underlying3 h;exact⟨a,e0,i64_bd wa,I6 _⟩) h
 rw[sum_len] at s;exact⟨q,l,cap,e,a,c,b,f,s⟩
theorem rd_rx:∀ (N:Nat) {n:Nat} {y:DataW H × List MemPlace} {cs:List Value},Rows.uptoBulk y.1≤N→DataW.trod enc Tryz.prog W b0 sp1 held n 56 cs=some y→∃ u:Rxm,cs=encRx u∧RxM W [] u∧u.sz≤Rows.uptoBulk y.1
 |0,n,y,cs,hN,_=>by have:=I6 y.1;omega
 |N+1,n,y,cs,hN,h=>by
  obtain⟨xs,m,rfl,rfl,hlen,hxl,hall⟩:=DataW.trod_struct underlying56 h;rw[cells24] at hlen
  match xs,hxl,cs,hlen with
  |[x0,x1,x2],_,[c0,c1,c2],_=>
   have f0:DataW.trod enc Tryz.prog W b0 sp1 held m 3 [c0]=some x0:=by have:=hall 0 _ rfl;simpa[cells3] using this
   have f1:DataW.trod enc Tryz.prog W b0 sp1 held m 9 [c1]=some x1:=by have:=hall 1 _ rfl;simpa[cells9] using this
   have f2:DataW.trod enc Tryz.prog W b0 sp1 held m 54 [c2]=some x2:=by have:=hall 2 _ rfl;simpa[cells22] using this
   have hb:Rows.uptoBulk x2.1+2≤Rows.uptoBulk (DataW.agg (H:=H) ([x0,x1,x2].map (·.1))):=by
    have:=I6 x0.1;have:=I6 x1.1;simp only[Rows.uptoBulk,Rows.uptoBulkAll,List.map_cons,List.map_nil] at *;omega
   have hN':Rows.uptoBulk (DataW.agg (H:=H) ([x0,x1,x2].map (·.1)))≤N+1:=hN;obtain⟨k,rfl,_⟩:=Ei f0;obtain⟨s,e1,hs⟩:=rd_str f1;obtain⟨q,l,cap,e2,ha,hc,hl,hf,hsum⟩:=Ec (el:=encRx) (φ:=RxM W []) (szf:=Rxm.sz) underlying54 cells24 qom (fun n cs y hy h=>rd_rx N qom h) f2;simp at e1 e2;refine⟨.mk k s q cap l,by rw[e1,e2];rfl, .mk ha hf hs hl,?_⟩;rw[Ff,show (Rxm.mk k s q cap l).args=l from rfl,szL_sum];exact Nat.le_trans (by omega:1+(l.map Rxm.sz).sum≤Rows.uptoBulk x2.1+2) hb
theorem rd_node (h:DataW.trod enc Tryz.prog W b0 sp1 held n 85 cs=some y):∃ u:Nod,cs=encN u∧u.name.size≤9223372036854775807:=by
 obtain⟨xs,m,rfl,hx,hlen,hxl,hall⟩:=DataW.trod_struct underlying85 h;rw[cells138] at hlen
 match xs,hxl,cs,hlen with
 |[x0,x1,x2,x3],_,[c0,c1,c2,c3],_=>
  have f0:DataW.trod enc Tryz.prog W b0 sp1 held m 9 [c0]=some x0:=by have:=hall 0 _ rfl;simpa[cells9] using this
  have f1:DataW.trod enc Tryz.prog W b0 sp1 held m 4 [c1]=some x1:=by have:=hall 1 _ rfl;simpa[cells4] using this
  have f2:DataW.trod enc Tryz.prog W b0 sp1 held m 3 [c2]=some x2:=by have:=hall 2 _ rfl;simpa[cells3] using this
  have f3:DataW.trod enc Tryz.prog W b0 sp1 held m 3 [c3]=some x3:=by have:=hall 3 _ rfl;simpa[cells3] using this
  obtain⟨s,e0,hs⟩:=rd_str f0;obtain⟨b,e1,_⟩:=DataW.trod_bool underlying4 f1;obtain⟨a2,rfl,_⟩:=Ei f2;obtain⟨a3,rfl,_⟩:=Ei f3;simp at e0 e1;exact⟨⟨s,b,a2,a3⟩,by rw[e0,e1],hs⟩
theorem rd_link (h:DataW.trod enc Tryz.prog W b0 sp1 held n 61 cs=some y):∃ u:Lnk,cs=encL u∧True:=by
 obtain⟨xs,m,rfl,hx,hlen,hxl,hall⟩:=DataW.trod_struct underlying61 h;rw[cells71] at hlen
 match xs,hxl,cs,hlen with
 |[x0,x1,x2],_,[c0,c1,c2],_=>
  have f0:DataW.trod enc Tryz.prog W b0 sp1 held m 3 [c0]=some x0:=by have:=hall 0 _ rfl;simpa[cells3] using this
  have f1:DataW.trod enc Tryz.prog W b0 sp1 held m 3 [c1]=some x1:=by have:=hall 1 _ rfl;simpa[cells3] using this
  have f2:DataW.trod enc Tryz.prog W b0 sp1 held m 3 [c2]=some x2:=by have:=hall 2 _ rfl;simpa[cells3] using this
  obtain⟨a0,rfl,_⟩:=Ei f0;obtain⟨a1,rfl,_⟩:=Ei f1;obtain⟨a2,rfl,_⟩:=Ei f2;exact⟨⟨a0,a1,a2⟩,rfl,trivial⟩
theorem rd_edge (h:DataW.trod enc Tryz.prog W b0 sp1 held n 88 cs=some y):∃ u:Edg,cs=encE u∧u.name.size≤9223372036854775807:=by
 obtain⟨xs,m,rfl,hx,hlen,hxl,hall⟩:=DataW.trod_struct underlying88 h;rw[cells154] at hlen
 match xs,hxl,cs,hlen with
 |[x0,x1],_,[c0,c1],_=>
  have f0:DataW.trod enc Tryz.prog W b0 sp1 held m 9 [c0]=some x0:=by have:=hall 0 _ rfl;simpa[cells9] using this
  have f1:DataW.trod enc Tryz.prog W b0 sp1 held m 3 [c1]=some x1:=by have:=hall 1 _ rfl;simpa[cells3] using this
  obtain⟨s,e0,hs⟩:=rd_str f0;obtain⟨a1,rfl,_⟩:=Ei f1;simp at e0;exact⟨⟨s,a1⟩,by rw[e0],hs⟩
theorem open_net {base:Nat}{r:_root_.Go.Reach}{v:Value}{d:DataW H}{p:List MemPlace}(hv:Value.okWide Tryz.prog W r base 26 v)(h:DataW.Trod enc Tryz.prog W b0 sp1 held 26 v d p):∃ n:Nm,v= .agg (encNm n).toArray∧NetM W [] n:=by
 obtain⟨cs,rfl,hsz⟩:=okWide_struct underlying26 hv;obtain⟨fuel,hf⟩:=h;obtain⟨xs,m,rfl,hx,hlen,hxl,hall⟩:=DataW.trod_struct underlying26 hf;obtain⟨l⟩:=cs;simp only[Value.cells,cells56] at hlen hall
 match xs,hxl,l,hlen with
 |[x0,x1,x2],_,[c0,c1,c2],_=>
  have f0:DataW.trod enc Tryz.prog W b0 sp1 held m 22 [c0]=some x0:=by have:=hall 0 _ rfl;simpa[cells52] using this
  have f1:DataW.trod enc Tryz.prog W b0 sp1 held m 23 [c1]=some x1:=by have:=hall 1 _ rfl;simpa[cells53] using this
  have f2:DataW.trod enc Tryz.prog W b0 sp1 held m 24 [c2]=some x2:=by have:=hall 2 _ rfl;simpa[cells54] using this
  obtain⟨q0,l0,k0,e0,a0,_,b0,s0,_⟩:=Ec (el:=encN) (szf:=fun _=>0) underlying22 cells138 qom (fun n cs y _ h=>by obtain⟨u,h1,h2⟩:=rd_node h;exact⟨u,h1,h2,Nat.zero_le _⟩) f0;obtain⟨q1,l1,k1,e1,a1,_,b1,_,_⟩:=Ec (el:=encL) (szf:=fun _=>0) underlying23 cells71 qom (fun n cs y _ h=>by obtain⟨u,h1,h2⟩:=rd_link h;exact⟨u,h1,h2,Nat.zero_le _⟩) f1;obtain⟨q2,l2,k2,e2,a2,_,b2,s2,_⟩:=Ec (el:=encE) (szf:=fun _=>0) underlying24 cells154 qom (fun n cs y _ h=>by obtain⟨u,h1,h2⟩:=rd_edge h;exact⟨u,h1,h2,Nat.zero_le _⟩) f2;simp at e0 e1 e2;exact⟨⟨l0,l1,l2,q0,k0,q1,k1,q2,k2⟩,by rw[e0,e1,e2],⟨a0,a1,a2,b0,b1,b2,s0,s2⟩⟩
theorem open_fail {base:Nat}{r:_root_.Go.Reach}{v:Value}{d:DataW H}{p:List MemPlace}(hv:Value.okWide Tryz.prog W r base 29 v)(h:DataW.Trod enc Tryz.prog W b0 sp1 held 29 v d p):∃ f:Flr,v= .agg (encFl f).toArray∧Arr W [] f.q 1 encI f.links∧f.links.length≤9223372036854775807:=by
 obtain⟨cs,rfl,hsz⟩:=okWide_struct underlying29 hv;obtain⟨fuel,hf⟩:=h;obtain⟨xs,m,rfl,hx,hlen,hxl,hall⟩:=DataW.trod_struct underlying29 hf;obtain⟨l⟩:=cs;simp only[Value.cells,cells58] at hlen hall
 match xs,hxl,l,hlen with
 |[x0,x1],_,[c0,c1],_=>
  have f0:DataW.trod enc Tryz.prog W b0 sp1 held m 27 [c0]=some x0:=by have:=hall 0 _ rfl;simpa[cells42] using this
  have f1:DataW.trod enc Tryz.prog W b0 sp1 held m 3 [c1]=some x1:=by have:=hall 1 _ rfl;simpa[cells3] using this
  obtain⟨q,l,cap,e,a,_,b,_,_⟩:=rd_ints f0;obtain⟨k,rfl,_⟩:=Ei f1;simp at e;exact⟨⟨q,cap,l,k⟩,by rw[e],a,b⟩
end
end Go.Proofs.YtpkijiejccngcaaGreatDoor
namespace Go.Proofs.YtpkijiejccngcaaGreatDoor
open _root_.Go.Proofs.Tryz
open Go.RowKit Go.Sort Go.Shelf Go.Proofs
set_option linter.unusedVariables false
set_option linter.unusedSimpArgs false
set_option linter.unusedSectionVars false
set_option maxRecDepth 100000
section
variable {α:Type} [Inhabited α] {enc:α→List Value} {k:Nat}
theorem flat_get2 (he:∀ x,(enc x).length=k)(l:List α)(t:Nat)(ht:t<l.length*k):(l.flatMap enc)[t]? =some ((enc l[t / k]!)[t % k]!):=by
 have hk:0<k:=by
  rcases Nat.eq_zero_or_pos k with h|h
  ·subst h;simp at ht
  ·exact h
 have h1:t / k<l.length:=by rw[Nat.div_lt_iff_lt_mul hk];exact ht
 have h2:t % k<k:=Nat.mod_lt _ hk;have h3:l[t / k]? =some l[t / k]! :=by simp[h1]
 have h4:(enc l[t / k]!)[t % k]? =some ((enc l[t / k]!)[t % k]!):=by
  have:t % k<(enc l[t / k]!).length:=by rw[he];exact h2
  rw[List.getElem?_eq_getElem this,getElem!_pos (enc l[t / k]!) (t % k) this]
 have:=Gv he l (t / k) (l[t / k]!) (t % k) ((enc l[t / k]!)[t % k]!) h3 h4;rw[show t / k*k+t % k=t from by rw[Nat.mul_comm];exact Nat.div_add_mod t k] at this;exact this
theorem flatK_list (he:∀ x,(enc x).length=k)(l:List α):flatK enc k l.toArray=(l.flatMap enc).toArray:=by
 apply Array.ext_getElem?;intro t
 by_cases ht:t<l.length*k
 ·have h1:=flat_get2 he l t ht;have h2:(l.flatMap enc).toArray[t]? =some ((enc l[t / k]!)[t % k]!):=by rw[List.getElem?_toArray];exact h1
  rw[h2];simp[flatK,ht]
 ·rw[Array.getElem?_eq_none (by simp;omega),Array.getElem?_eq_none (by simp only[List.size_toArray];rw[Ce he];omega)]
variable {w0 w:World} {n:Nat} {junk:List Value} {e:TypeId} {X:List (Nat × Obj)}
theorem own_holdsK (he:∀ x,(enc x).length=k){l:List α}(hO:Own w0 ((n,Cl (l.flatMap enc++junk) e)::X) w):HoldsK enc k w n 0 l.toArray:=by
 unfold HoldsK;rw[flatK_list he];have:l.flatMap enc=(l.flatMap enc).map id:=by simp
 rw[this] at hO;exact own_holds hO
theorem own_rowK (he:∀ x,(enc x).length=k){l l':List α}(hO:Own w0 ((n,Cl (l.flatMap enc++junk) e)::X) w)(hl:l.length=l'.length)(q:Nat)(os:Array Obj):Own w0 ((n,Cl (l'.flatMap enc++junk) e)::X) (sortWorldK enc k w n 0 q l'.toArray os):=by
 unfold sortWorldK putRowK;rw[flatK_list he];have e1:l.flatMap enc=(l.flatMap enc).map id:=by simp
 have e2:l'.flatMap enc=(l'.flatMap enc).map id:=by simp
 rw[e1] at hO;rw[e2];have:=own_row (enc:=id) hO (l':=(l'.flatMap enc)) (by rw[Ce he,Ce he,hl]) q os
 simpa using this
end
theorem sorted_list {α:Type}[Inhabited α] {lt:α→α→Bool}{l:List α}{d:Array α}(hp:PermIn 0 l.length l.toArray d)(hs:SortedIn lt 0 l.length d):d.toList.Perm l∧d.toList.Pairwise (fun a b=>lt b a=false):=by
 obtain⟨h1,_,h3⟩:=hp;have hsz:d.size=l.length:=by simpa using h1
 have e1:d.extract 0 l.length=d:=by rw[← hsz];simp
 have e2:l.toArray.extract 0 l.length=l.toArray:=by simp
 rw[e1,e2] at h3;refine⟨h3,?_⟩;rw[List.pairwise_iff_getElem];intro i j hi hj hij;have hi':i<d.size:=by simpa using hi
 have hj':j<d.size:=by simpa using hj
 have:=hs i j (Nat.zero_le _) hij qom;rw[getElem!_pos d i hi',getElem!_pos d j hj'] at this
 simpa using this
end Go.Proofs.YtpkijiejccngcaaGreatDoor
namespace Go.Proofs.YtpkijiejccngcaaGreatDoor
open _root_.Go.Proofs.Tryz
open Go.RowKit
set_option linter.unusedVariables false
set_option linter.unusedSimpArgs false
set_option linter.unusedSectionVars false
set_option maxRecDepth 100000
theorem cmpL_self:∀ a:List Int,cmpL a a=0
 |[]=>rfl
 |x::a=>by rw[cmpL,if_neg qom,if_neg qom,cmpL_self a]
theorem cmpL_eq0:∀ {a b:List Int},cmpL a b=0→a=b
 |[],[],_=>rfl
 |[],_::_,h=>by cases h
 |_::_,[],h=>by cases h
 |x::a,y::b,h=>by
  rw[cmpL] at h
  split at h
  ·cases h
  ·split at h
   ·cases h
   ·rw[show x=y by omega,cmpL_eq0 h]
theorem cmpL_lt:∀ {a b:List Int},cmpL a b<0↔0<cmpL b a
 |[],[]=>by simp[cmpL]
 |[],_::_=>by simp[cmpL]
 |_::_,[]=>by simp[cmpL]
 |x::a,y::b=>by
  rw[cmpL,cmpL]
  by_cases h1:x<y
  ·rw[if_pos h1,if_neg qom,if_pos h1];simp
  ·rw[if_neg h1]
   by_cases h2:y<x
   ·rw[if_pos h2,if_pos h2];simp
   ·rw[if_neg h2,if_neg h2,if_neg h1];exact cmpL_lt
theorem Gq:∀ {a b c:List Int},cmpL a b<0→cmpL b c<0→cmpL a c<0
 |[],b,[],h1,h2=>by
  cases b with
  |nil=>exact h1
  |cons y b=>simp[cmpL] at h2
 |[],_,_::_,_,_=>by simp[cmpL]
 |x::a,[],c,h1,_=>by simp[cmpL] at h1
 |x::a,y::b,[],_,h2=>by simp[cmpL] at h2
 |x::a,y::b,z::c,h1,h2=>by
  rw[cmpL] at h1 h2 ⊢
  by_cases e1:x<y
  ·by_cases e2:y<z
   ·rw[if_pos qom];decide
   ·rw[if_neg e2] at h2
    by_cases e3:z<y
    ·rw[if_pos e3] at h2;omega
    ·rw[if_pos qom];decide
  ·rw[if_neg e1] at h1
   by_cases e4:y<x
   ·rw[if_pos e4] at h1;omega
   ·rw[if_neg e4] at h1;obtain rfl:x=y:=by omega
    by_cases e2:x<z
    ·rw[if_pos e2];decide
    ·rw[if_neg e2] at h2 ⊢
     by_cases e3:z<x
     ·rw[if_pos e3] at h2;omega
     ·rw[if_neg e3] at h2 ⊢;exact Gq h1 h2
theorem cmpL_tri (a b:List Int):cmpL a b<0∨a=b∨cmpL b a<0:=by
 rcases Int.lt_trichotomy (cmpL a b) 0 with h|h|h
 ·exact .inl h
 ·exact .inr (.inl (cmpL_eq0 h))
 ·exact .inr (.inr (cmpL_lt.2 h))
theorem lxB_cmp:∀ {a b:List Nat},putS.lxB a b=true↔cmpL (toInts a) (toInts b)<0
 |[],[]=>by simp[putS.lxB,toInts,cmpL]
 |[],_::_=>by simp[putS.lxB,toInts,cmpL]
 |_::_,[]=>by simp[putS.lxB,toInts,cmpL]
 |x::a,y::b=>by
  have ih:=lxB_cmp (a:=a) (b:=b);simp only[toInts,List.map_cons] at ih ⊢;rw[putS.lxB,cmpL]
  by_cases h1:x<y
  ·rw[if_pos qom];simp[h1]
  ·rw[if_neg qom]
   by_cases h2:y<x
   ·rw[if_pos qom];simp[h1];omega
   ·rw[if_neg qom];obtain rfl:x=y:=by omega
    simp only[h1,decide_false,Bool.false_or,decide_true,Bool.true_and];exact ih
theorem lcmp_s {w0:World}{H:List (Nat × Obj)}(x y:Lm)(hx:LmM w0 H x)(hy:LmM w0 H y):
  FSpec Tryz.prog w0 62 #[.agg (encLm x).toArray, .agg (encLm y).toArray] H (Still (.int .i64 (cmpL x.l y.l)) H):=by
 refine Ao Tryz.func62 U ntmps62 U (rD tb 2 U (e_ (Lf U cs_) ?_ U));rintro _ _ ⟨n2,rfl,rfl⟩;refine e_ (Lf U cs_) ?_ U;rintro _ _ ⟨n3,rfl,rfl⟩;refine rO tb 6 U (y_ (Lb U isAgg27 qco) ?_ U);refine rO tb 1 U (y_ (Lb U isAgg27 qco) ?_ U);refine y_ (Ay (qe2 U U) call63 (fun H' hs=>scmp_s x.l y.l _ _ _ _ (hx.a.mono (stn hs)) (hy.a.mono (stn hs)) hx.n hy.n)) (rO tb 4 U (Ah U (K9 U) ?_)) U;exact⟨_,⟨rfl,rfl⟩,sbt⟩
def laysSF_ren:Go.Shelf.Ren:=⟨fun|6=>61|15=>117|14=>116|28=>164|29=>165|20=>156|21=>157|22=>158|23=>159|24=>160|25=>161|26=>162|27=>163|46=>183|47=>184|48=>185|49=>186|50=>187|57=>205|n=>n,fun|22=>79|24=>77|25=>108|3=>3|39=>178|0=>0|53=>225|55=>138|4=>4|46=>219|45=>218|50=>52|5=>5|9=>9|66=>238|70=>242|76=>255|77=>256|n=>n,fun|n=>n⟩
theorem laysSF:Go.Proofs.SlLaysF0.n6 Tryz.prog laysSF_ren:={
 mixed:=by kernel_rfl,
 f6:=⟨"slices.SortFunc[[]interlace/api.Lane,interlace/api.Lane]",by decide,Tryz.func61.trans (congrArg some qkr)⟩,
 f14:=⟨"slices.pdqsortCmpFunc[interlace/api.Lane]",by decide,Tryz.func116.trans (congrArg some qkr)⟩,
 f15:=Tryz.func117.trans (congrArg some qkr),
 f20:=⟨"slices.insertionSortCmpFunc[interlace/api.Lane]",by decide,Tryz.func156.trans (congrArg some qkr)⟩,
 f21:=⟨"slices.heapSortCmpFunc[interlace/api.Lane]",by decide,Tryz.func157.trans (congrArg some qkr)⟩,
 f22:=⟨"slices.breakPatternsCmpFunc[interlace/api.Lane]",by decide,Tryz.func158.trans (congrArg some qkr)⟩,
 f23:=⟨"slices.choosePivotCmpFunc[interlace/api.Lane]",by decide,Tryz.func159.trans (congrArg some qkr)⟩,
 f24:=⟨"slices.reverseRangeCmpFunc[interlace/api.Lane]",by decide,Tryz.func160.trans (congrArg some qkr)⟩,
 f25:=⟨"slices.partialInsertionSortCmpFunc[interlace/api.Lane]",by decide,Tryz.func161.trans (congrArg some qkr)⟩,
 f26:=⟨"slices.partitionEqualCmpFunc[interlace/api.Lane]",by decide,Tryz.func162.trans (congrArg some qkr)⟩,
 f27:=⟨"slices.partitionCmpFunc[interlace/api.Lane]",by decide,Tryz.func163.trans (congrArg some qkr)⟩,
 f28:=Tryz.func164.trans (congrArg some qkr),
 f29:=Tryz.func165.trans (congrArg some qkr),
 f46:=⟨"slices.siftDownCmpFunc[interlace/api.Lane]",by decide,Tryz.func183.trans (congrArg some qkr)⟩,
 f47:=Tryz.func184.trans (congrArg some qkr),
 f48:=Tryz.func185.trans (congrArg some qkr),
 f49:=⟨"slices.medianAdjacentCmpFunc[interlace/api.Lane]",by decide,Tryz.func186.trans (congrArg some qkr)⟩,
 f50:=⟨"slices.medianCmpFunc[interlace/api.Lane]",by decide,Tryz.func187.trans (congrArg some qkr)⟩,
 f57:=⟨"slices.order2CmpFunc[interlace/api.Lane]",by decide,Tryz.func205.trans (congrArg some qkr)⟩,
 t0:=underlying0,
 a0:=isAgg0,
 z0:=sizeOf0,
 v0:=zeroValue0,
 t3:=underlying3,
 a3:=isAgg3,
 z3:=sizeOf3,
 v3:=zeroValue3,
 t4:=underlying4,
 a4:=isAgg4,
 z4:=sizeOf4,
 v4:=zeroValue4,
 t5:=underlying5,
 a5:=isAgg5,
 z5:=sizeOf5,
 v5:=zeroValue5,
 t9:=underlying9,
 a9:=isAgg9,
 z9:=sizeOf9,
 v9:=zeroValue9,
 t22:=underlying79,
 a22:=isAgg79,
 z22:=sizeOf79,
 v22:=zeroValue79,
 t25:=underlying108,
 a25:=isAgg108,
 z25:=sizeOf108,
 v25:=zeroValue108,
 t39:=underlying178,
 a39:=isAgg178,
 z39:=sizeOf178,
 v39:=zeroValue178,
 t45:=underlying218,
 a45:=isAgg218,
 z45:=sizeOf218,
 v45:=zeroValue218,
 t46:=underlying219,
 a46:=isAgg219,
 z46:=sizeOf219,
 v46:=zeroValue219,
 t50:=underlying52,
 a50:=isAgg52,
 z50:=sizeOf52,
 v50:=zeroValue52,
 t53:=underlying225,
 a53:=isAgg225,
 z53:=sizeOf225,
 v53:=zeroValue225,
 t55:=underlying138,
 a55:=isAgg138,
 z55:=sizeOf138,
 v55:=zeroValue138,
 t66:=underlying238,
 a66:=isAgg238,
 z66:=sizeOf238,
 v66:=zeroValue238,
 t70:=underlying242,
 a70:=isAgg242,
 z70:=sizeOf242,
 v70:=zeroValue242,
 t76:=underlying255,
 a76:=isAgg255,
 z76:=sizeOf255,
 v76:=zeroValue255,
 t77:=underlying256,
 a77:=isAgg256,
 z77:=sizeOf256,
 v77:=zeroValue256}
abbrev LanV (w0:World) (H:List (Nat × Obj)):Type:={s:Lm // LmM w0 H s}
instance lanVI (w0:World) (H:List (Nat × Obj)):Inhabited (LanV w0 H):=⟨⟨⟨none,0,[],0⟩,fun i x hi=>by simp at hi,Nat.zero_le _⟩⟩
def encLv {w0:World} {H:List (Nat × Obj)} (x:LanV w0 H):List Value:=encLm x.1
def cmpLV {w0:World} {H:List (Nat × Obj)} (x y:LanV w0 H):Int:=cmpL x.1.l y.1.l
theorem ltV {w0:World}{H:List (Nat × Obj)}(x y:LanV w0 H):Go.Proofs.ltOf cmpLV x y=decide (cmpL x.1.l y.1.l<0):=rfl
theorem swoV {w0:World}{H:List (Nat × Obj)}:Go.Sort.SWO (Go.Proofs.ltOf (cmpLV (w0:=w0) (H:=H))) where
 irrefl x:=by rw[ltV,cmpL_self];rfl
 trans x y z h1 h2:=by rw[ltV,decide_eq_true_iff] at *;exact Gq h1 h2
 ntrans x y z h1 h2:=by
  rw[ltV,decide_eq_false_iff_not] at *;intro h3;rcases cmpL_tri x.1.l y.1.l with h|h|h
  ·exact h1 h
  ·rw[h] at h3;exact h2 h3
  ·rcases cmpL_tri y.1.l z.1.l with g|g|g
   ·exact h2 g
   ·rw[← g] at h3;exact h1 h3
   ·have:=Gq h3 (Gq g h);rw[cmpL_self] at this;omega
theorem lm_world {w0 W:World}{H:List (Nat × Obj)}{s:Lm}(hs:LmM w0 H s)(hO:Own w0 H W):LmM W [] s:=⟨fun i x hi=>⟨(hs.a i x hi).1,fun j v hj=>cell_arg ((hs.a i x hi).2 j v hj W hO)⟩,hs.n⟩
theorem cmpLaysV {w0 w:World}{H:List (Nat × Obj)}{blk:Nat}{junk:List Value}{zs:List (LanV w0 H)}(hO:Own w0 ((blk,Cl (zs.flatMap encLv++junk) 77)::H) w):Go.Proofs.CmpLays Tryz.prog 62 #[] (encLv (w0:=w0) (H:=H)) 2 cmpLV blk 0 zs.toArray.size w:=fun m os dk hdk x y=>by
 have hW:=own_rowK (enc:=encLv (w0:=w0) (H:=H)) (k:=2) (l':=dk.toList) (fun _=>rfl) hO (by rw[show dk.toList.length=dk.size from Array.length_toList ..,hdk];rfl) m os;rw[show dk.toList.toArray=dk by simp] at hW;have hW2:Own w0 H _:=hW.sub (List.sublist_cons_self _ _);have h:=lcmp_s (w0:=Go.Proofs.sortWorldK encLv 2 w blk 0 m dk os) (H:=[]) x.1 y.1 (lm_world x.2 hW2) (lm_world y.2 hW2) _ (Own.start _);refine h.mono fun e w' hh=> ?_
 obtain⟨v,H',he,hO',hv,hH⟩:=hh;subst hv;subst hH;exact⟨he,own_grown hO'⟩
open Go.Sort Go.Proofs in
theorem sortL_none (p:Option Addr)(cap:Nat)(w:World):
  Calls Tryz.prog 61 #[.slice p 0 cap, .func (.func 62) #[] #[]] w fun e w'=>e= .returned (.tuple #[])∧w'=w:=AnyF.slices_SortFunc_none laysSF p cap _ w
theorem lv_list {w0:World}{H:List (Nat × Obj)}:∀ {zs:List Lm},(∀ s∈zs,LmM w0 H s)→∃ l:List (LanV w0 H),l.map Subtype.val=zs
 |[],_=>⟨[],rfl⟩
 |s::zs,h=>by
  obtain⟨l,hl⟩:=lv_list (zs:=zs) fun x hx=>h x (by simp[hx])
  exact⟨⟨s,h s (by simp)⟩::l,by simp[hl]⟩
open Go.Sort Go.Proofs in
theorem sortL_s {w0:World}{H:List (Nat × Obj)}(d:Sl)(zs:List Lm)(hok:SlOk d zs.length 2)(hsz:zs.length≤1000000)(hz:∀ s∈zs,LmM w0 H s):
  FSpec Tryz.prog w0 61 #[slV d zs.length, .func (.func 62) #[] #[]] (slH d (zs.flatMap encLm) 77++H) (fun v H'=>∃ ks:List Lm,(v= .tuple #[]∧ks.Perm zs∧ks.Pairwise (fun a b=> ¬ cmpL b.l a.l<0))∧H'=slH d (ks.flatMap encLm) 77++H):=fun w hO=>by
 cases d with
 |nil=>
  have:zs=[]:=List.eq_nil_of_length_eq_zero hok;subst this;exact(sortL_none none 0 w).mono fun e w' ⟨he,hw⟩=>⟨_,_,he,hw ▸ hO,[],⟨rfl,List.Perm.refl _,List.Pairwise.nil⟩,by simp[slH]⟩
 |blk n cap junk=>
  simp only[slH,List.singleton_append,List.cons_append,List.nil_append,slQ,slC] at hO hsz ⊢;obtain⟨l,rfl⟩:=lv_list hz;have hfm:∀ l:List (LanV w0 H),(l.map Subtype.val).flatMap encLm=l.flatMap encLv:=fun l=>by rw[List.flatMap_map];rfl
  rw[hfm] at hO;have hcon:=AnyQ.slices_SortFunc laysSF 2 isAgg77 sizeOf77 (encLv (w0:=w0) (H:=H)) (fun _=>rfl) (fun x v hv=>by simp[encLv] at hv;rcases hv with rfl|rfl<;>rfl) cmpLV swoV 62 #[] n 0 cap l.toArray w call62 (cmpLaysV hO) (own_holdsK (enc:=encLv (w0:=w0) (H:=H)) (k:=2) (fun _=>rfl) hO) (own_lt hO) (by simp at hsz ⊢;omega);rw[List.size_toArray] at hcon
  change Calls Tryz.prog 61 _ _ _ at hcon
  rw[List.length_map];refine hcon.mono fun e w' ⟨he,d',q,os,hp,hs,hw⟩=> ?_
  obtain⟨h1,h2⟩:=sorted_list hp hs;have hO':=own_rowK (enc:=encLv (w0:=w0) (H:=H)) (k:=2) (l':=d'.toList) (fun _=>rfl) hO h1.length_eq.symm q os;rw[show d'.toList.toArray=d' by simp] at hO';refine⟨_,_,he,hw ▸ hO',d'.toList.map Subtype.val,⟨rfl,h1.map _,?_⟩,by rw[hfm]⟩;rw[List.pairwise_map];exact h2.imp fun {a b} h=>by rw[ltV,decide_eq_false_iff_not] at h;exact h
def prcF (n:Nn) (ld:List Int) (a:Int) (k:Nat):List Int:=(List.range k).map fun j=>if capB n ld j a then 0 else 1
theorem Ed (n:Nn)(ld:List Int)(a:Int)(k:Nat):(prcF n ld a k).length=k:=by simp[prcF]
theorem prcF_succ (n:Nn)(ld:List Int)(a:Int)(k:Nat):prcF n ld a (k+1)=prcF n ld a k++[if capB n ld k a then 0 else 1]:=by
 unfold prcF;rw[List.range_succ,List.map_append];rfl
abbrev prcZ (n:Nn) (ld:List Int) (a:Int) (N k:Nat):List Int:=prcF n ld a k++List.replicate (N - k) 0
theorem prcZ_len {n:Nn}{ld:List Int}{a:Int}{N k:Nat}(h:k≤N):(prcZ n ld a N k).length=N:=by
 rw[List.length_append,Ed,List.length_replicate];omega
theorem prcZ_no {n:Nn}{ld:List Int}{a:Int}{N k:Nat}(h:k<N)(hc:capB n ld k a=false):(prcZ n ld a N k).set k 1=prcZ n ld a N (k+1):=by
 unfold prcZ;rw[prcF_succ,hc,show N - k=(N - (k+1))+1 by omega,List.replicate_succ,List.set_append_right _ _ (by rw[Ed];exact Nat.le_refl _),Ed,Nat.sub_self];simp
theorem prcZ_yes {n:Nn}{ld:List Int}{a:Int}{N k:Nat}(h:k<N)(hc:capB n ld k a=true):prcZ n ld a N (k+1)=prcZ n ld a N k:=by
 unfold prcZ;rw[prcF_succ,hc,show N - k=(N - (k+1))+1 by omega,List.replicate_succ];simp
theorem prcZ_end (n:Nn)(ld:List Int)(a:Int)(N:Nat):prcZ n ld a N N=prcF n ld a N:=by unfold prcZ;simp
def stuckF (n:Nn) (f:Flr) (os:List Odr) (o:Odr) (ld:List Int):List Int × Int:=
 if (findF n f (mOf o.e) o.x o.y).2=0 then (if refF n f os (prcF n ld o.amt n.links.length) then (prcF n ld o.amt n.links.length,19) else (prcF n ld o.amt n.links.length,27)) else ([],18)
theorem stuck_s {w0:World}{H:List (Nat × Obj)}(br:Nat)(n:Nn)(hn:NetR w0 H n)(hok:NnOk n)(hcap:∀ x∈n.links,0≤x.cap∧x.cap≤1048576)(f:Flr)(hf:Arr w0 H f.q 1 encI f.links)(hfl:f.links.length≤1000000)(os:List Om)(os2:List Odr)(qo:Option Addr)(co:Nat)(hO:OsM w0 H qo os)(hoo:OsOk n os os2)(o:Odr)(ho:OdrOk n o)(om:Om)(hod:OdR om o)(ld:List Int)(hld:LdR n ld)(m:Mc)(hm:McOk w0 H m)(hmpl:m.pl=mOf o.e)(y:Sl)(hy:SlOk y ld.length 1)(hln:(findF n f (mOf o.e) o.x o.y).1.length≤1000000):
  FSpec Tryz.prog w0 59 #[.pointer (some ⟨br,0,none⟩), .slice qo os.length co, .agg (encOm om).toArray, .agg (encMc m).toArray] (rtH br n f y ld++H) (fun v H'=>∃ d:Sl,(v= .tuple #[.slice none 0 0,slV d (stuckF n f os2 o ld).1.length, .int .i64 (stuckF n f os2 o ld).2]∧SlOk d (stuckF n f os2 o ld).1.length 1)∧H'=slH d ((stuckF n f os2 o ld).1.flatMap encI) 3++H):=by
 refine Ao Tryz.func59 U ntmps59 U ?_;have hfewL:=hok.fewL;have hmce:=ho.mce;have hpm:PMok m.pl:=by rw[hmpl];exact hmce.ok
 have hsr:Srt m.names:=show Srt m.pl.names by rw[hmpl];exact hmce.sr
 have hnl:m.names.length≤4611686018427387903:=(show m.pl.names.length≤4611686018427387903 by rw[hmpl];exact Nat.le_trans ho.nm qom);have hox:=ho.x;have hoa:0≤o.amt∧o.amt≤1048576:=⟨ho.a0,ho.a1⟩;obtain⟨l,c,hlc⟩:∃ l c,findF n f (mOf o.e) o.x o.y=(l,c):=⟨_,_,rfl⟩;have hr:=(show Fnd (rtH br n f y ld++H) br (Cl (encRt n f (slV y ld.length)) 100) from A2);have hL:=(show Arr w0 (rtH br n f y ld++H) (slQ y) 1 encI ld from (A1 (w0:=w0) (d:=y) (enc:=encI) (sz:=1) (l:=ld) (X:=H) (e:=3) (fun _=>rfl) hy).mono (List.Sublist.cons (br,Cl (encRt n f (slV y ld.length)) 100) (List.Sublist.refl _)));have hll:=hld.len;rw[hod.eq];refine rD tb 2 U (e_ (Lf U cs_) ?_ U);rintro _ _ ⟨n6,rfl,rfl⟩;refine e_ (Lf U cs_) ?_ U;rintro _ _ ⟨n7,rfl,rfl⟩;refine rO tb 7 U (Bh 19 [(0,true),(1,true),(2,true),(3,true),(4,true),(5,true),(6,true),(7,true),(8,true),(9,true),(10,true),(11,true),(12,true),(13,false),(14,true),(15,true),(16,true),(17,true),(18,true)] _ mixd qkr sb0 ?_ A8);refine rP tb 3 U ?_;refine o_y U (Lc U isAgg26 sizeOf26 U (by exact Bk (l:=encRt n f (slV y ld.length)) (o:=0) (k:=3) (by repeat (first|exact hr|refine Aq ?_|refine Ax ?_)))) ?_ U Ac;refine rP tb 3 U ?_;refine o_y U (Lc U isAgg29 sizeOf29 U (by exact Bk (l:=encRt n f (slV y ld.length)) (o:=3) (k:=2) (by repeat (first|exact hr|refine Aq ?_|refine Ax ?_)))) ?_ U Ac;refine o_y U (Lc U isAgg68 sizeOf68 U qcs) ?_ U Ac;refine rP tb 1 U (o_y U (Lb U isAgg3 qco) ?_ U Ac);refine rP tb 1 U (o_y U (Lb U isAgg3 qco) ?_ U Ac);refine o_e U (Ak (.cons (T U) (.cons (T U) (.cons (T U) (.cons (T U) (.cons (T U) .nil))))) call36 (findE_s n f m ⟨hn.mono sbt,hf.mono sbt,hm.mono sbt⟩ ⟨hok,by omega,hpm,hsr,hnl⟩ o.x hox o.y (l:=l) (c:=c) (hf:=by rw[hmpl];exact hlc))) ?_ U Ac;rintro _ _ ⟨dK,⟨rfl,hdK⟩,rfl⟩;refine⟨sbt,(rP tb 5 U (A7 U (rO tb 8 U ?_)))⟩;refine Ad (Aa U) (fun c33=> ?_) (fun c33=> ?_)
 ·have hst:stuckF n f os2 o ld=([],18):=by unfold stuckF;rw[hlc,if_neg c33]
  refine rC tb 9 U (Ah U (.tmp (Aa U) (.tmp (Aa U) (K9 U))) ?_);rw[hst];exact⟨_,⟨.nil,⟨rfl,rfl⟩,rfl⟩,sbt⟩
 ·have hc0:(findF n f (mOf o.e) o.x o.y).2=0:=by rw[hlc];exact Classical.not_not.1 c33
  refine rC tb 8 U ?_;refine y_ (Lb U isAgg23 qco) ?_ U;refine rO tb 1 U (e_ (B7 (by':=8) (k:=n.links.length) (T U) runUnderlying27 sizeOf3 typeInfo3 U zeroValue3 U qom qom) ?_ U);rintro _ _ ⟨n40,rfl,rfl⟩;rw[rep_enc n.links.length];refine kO tb 3 [0,1,6,13] rfl U (rG tb 9 U ?_);refine Ba (X:=Nat) (V:=fun k=>[(43, .int .i64 (k:Nat))]) (C:=[(0,_),(1,_),(6,_),(13,_),(42,_)]) (G:=fun k=>slH (Sl.blk n40 n.links.length []) ((prcZ n ld o.amt n.links.length k).flatMap encI) 3++(slH dK (l.flatMap encU) 3++((n7,Cl (encMc m) 68)::(n6,Cl (encOm (omO o om.m)) 58)::(rtH br n f y ld++H)))) (φ:=fun k=>k≤n.links.length) (μ:=fun k=>n.links.length - k) (x0:=0) ?_ ⟨Aa U,Aa U,Aa U,Aa U,Aa U,trivial⟩ ⟨qat,trivial⟩ sb0 ?_
  ·exact Nat.zero_le _
  rintro k hk;refine rD tb 6 U ?_;refine Ad (Aa U) (fun c44=> ?_) (fun c44=> ?_)
  ·refine rC tb 15 U (y_ (Lb U isAgg3 qco) ?_ U);refine y_ (Ay (qe3 U U U) call115 (fun H' hs=>room_s br n (hn.mono (stn hs)) hcap f ld hld (slQ y) (slC y) ((stn hs).subset (show Fnd _ br (Cl (encRt n f (slV y ld.length)) 100) from (by repeat (first|exact hr|refine Aq ?_|refine Ax ?_)))) (hL.mono (stn hs)) k qom o.amt hoa)) ?_ U;refine A5 (A9 (T U)) U Ac ?_;refine rO tb 2 U ?_;refine Ad (Aa U) (fun c51=> ?_) (fun c51=> ?_)
   ·refine rC tb 3 U (y_ (Ld U U runUnderlying27 sizeOf3 qom (by exact rfl)) ?_ U);refine e_ (B4 (d:=(Sl.blk n40 n.links.length [])) (l:=(prcZ n ld o.amt n.links.length k)) (e:=3) (enc:=encI) (sz:=1) (i:=k) (1:Int) (fun _=>rfl) qlc (T U) Ap (.one U) U sizeOf3 (by rw[prcZ_len hk];omega) (show SlOk (Sl.blk n40 n.links.length []) (prcZ n ld o.amt n.links.length k).length 1 from by rw[prcZ_len hk];exact⟨Nat.le_refl _,by simp⟩)) ?_ U;rintro _ _ ⟨rfl,rfl⟩;refine rO tb 4 U (y_ (Av (T U) Ap qom) ?_ U);refine rO tb 2 U ?_;have he:=prcZ_no (n:=n) (ld:=ld) (a:=o.amt) (N:=n.links.length) (k:=k) qom (decide_eq_false c51);refine Ar (k+1) ?_ ?_ ⟨qat,trivial⟩ ⟨Aa U,Aa U,Aa U,Aa U,Aa U,trivial⟩ ?_
    ·show k+1≤_;omega
    ·omega
    ·show (slH (Sl.blk n40 n.links.length []) ((prcZ n ld o.amt n.links.length (k+1)).flatMap encI) 3++_).Sublist _;(rw[← he];exact sbt)
   ·refine rC tb 4 U (y_ (Av (T U) Ap qom) ?_ U);refine rO tb 2 U ?_;have he:=prcZ_yes (n:=n) (ld:=ld) (a:=o.amt) (N:=n.links.length) (k:=k) qom (decide_eq_true (Classical.not_not.1 c51));refine Ar (k+1) ?_ ?_ ⟨qat,trivial⟩ ⟨Aa U,Aa U,Aa U,Aa U,Aa U,trivial⟩ ?_
    ·show k+1≤_;omega
    ·omega
    ·show (slH (Sl.blk n40 n.links.length []) ((prcZ n ld o.amt n.links.length (k+1)).flatMap encI) 3++_).Sublist _;(rw[← he];exact sbt)
  ·obtain rfl:k=n.links.length:=by omega
   simp only[prcZ_end];have hpl:=Ed n ld o.amt n.links.length;refine rC tb 2 U (Ag (rX tb 4 U (Bh 11 [(0,true),(1,true),(2,true),(3,true),(4,true),(5,true),(6,true),(7,true),(8,true),(9,true),(10,true)] _ mixd qkr sb0 ?_ A8)));refine rP tb 3 U ?_;refine o_y U (Lc U isAgg26 sizeOf26 U (by exact Bk (l:=encRt n f (slV y ld.length)) (o:=0) (k:=3) (by repeat (first|exact hr|refine Aq ?_|refine Ax ?_)))) ?_ U Ac;refine rP tb 3 U ?_;refine o_y U (Lc U isAgg29 sizeOf29 U (by exact Bk (l:=encRt n f (slV y ld.length)) (o:=3) (k:=2) (by repeat (first|exact hr|refine Aq ?_|refine Ax ?_)))) ?_ U Ac;refine rP tb 2 U (o_y U (Ay (qe4 U U U U) call29 (fun H' hs=>(by have h:=prefuted_s (w0:=w0) (H:=H') n (hn.mono (stn hs)) hok hcap f (hf.mono (stn hs)) hfl os os2 qo co (hO.mono (stn hs)) hoo (prcF n ld o.amt n.links.length) (slQ (Sl.blk n40 n.links.length [])) (slC (Sl.blk n40 n.links.length [])) ((A1 (w0:=w0) (d:=(Sl.blk n40 n.links.length [])) (enc:=encI) (sz:=1) (e:=3) (l:=(prcF n ld o.amt n.links.length)) (X:=[]) (fun _=>rfl) (by rw[Ed];exact⟨Nat.le_refl _,by simp⟩)).mono (by rw[List.append_nil];exact(List.sublist_append_left _ _).trans hs)) (by rw[Ed];omega);rw[Ed] at h;exact h))) ?_ U Ac);refine A7 U (rO tb 2 U ?_)
   first|refine Ad (Aa U) (fun c66=> ?_) (fun c66=> ?_)|refine Bq (Aa U) (fun c66=> ?_) (fun c66=> ?_)
   ·have hst:stuckF n f os2 o ld=((prcF n ld o.amt n.links.length),19):=by unfold stuckF;rw[if_pos hc0,if_pos c66]
    refine rC tb 10 U (Ah U (.tmp (Aa U) (.tmp (Aa U) (K9 U))) ?_);rw[hst];exact⟨_,⟨(Sl.blk n40 n.links.length []),⟨by rw[hpl];rfl,by rw[hpl];exact⟨Nat.le_refl _,by simp⟩⟩,rfl⟩,sbt⟩
   ·have hst:stuckF n f os2 o ld=((prcF n ld o.amt n.links.length),27):=by unfold stuckF;rw[if_pos hc0,if_neg (by rw[c66];decide)]
    refine rC tb 11 U (Ah U (.tmp (Aa U) (.tmp (Aa U) (K9 U))) ?_);rw[hst];exact⟨_,⟨(Sl.blk n40 n.links.length []),⟨by rw[hpl];rfl,by rw[hpl];exact⟨Nat.le_refl _,by simp⟩⟩,rfl⟩,sbt⟩
abbrev encSk (s:ByteArray):Value:= .string s
abbrev encPt (b:Nat):Value:= .pointer (some ⟨b,0,none⟩)
theorem ba_beq (a b:ByteArray):(a==b)=decide (b=a):=by
 obtain⟨a⟩:=a;obtain⟨b⟩:=b;have e:((⟨a⟩:ByteArray)==⟨b⟩)=(a==b):=rfl;rw[e]
 by_cases h:b=a
 ·subst h;simp
 ·rw[decide_eq_false (fun e=>h (ByteArray.mk.inj e))];simp;exact fun e=>h e.symm
theorem keyStr {V:Type}:KeyOk (V:=V) Tryz.prog 9 encSk:=keyOk_now runUnderlying9 (fun b k w=>by cases b<;>kernel_rfl) (fun k k'=>by
  simp only[Instr.sameNow];rw[ba_beq]) (fun k=>by
  have:=ba_beq k k;simp[Instr.sameBits,this])
structure Ent where
 b:Nat
 s:Lm
instance:Inhabited Ent:=⟨⟨0,default⟩⟩
abbrev entM (es:List Ent):List (ByteArray × Nat):=es.map fun e=>(keyR e.s.l,e.b)
def entH (es:List Ent):List (Nat × Obj):=es.reverse.map fun e=>(e.b,Cl (encLm e.s) 77)
theorem entH_app (es:List Ent)(e:Ent):entH (es++[e])=(e.b,Cl (encLm e.s) 77)::entH es:=by
 unfold entH;rw[List.reverse_append];rfl
theorem entH_fnd {es:List Ent}{i:Nat}(h:i<es.length):Fnd (entH es) (gd es i).b (Cl (encLm (gd es i).s) 77):=by
 unfold entH Fnd;exact List.mem_map.2 ⟨gd es i,by rw[List.mem_reverse];exact Af h,rfl⟩
theorem upd_map {β:Type}{g:β→Nat × Obj}{X:List (Nat × Obj)}:∀ {l:List β} {k:Nat} {y x:β} {b:Nat} {o o':Obj},l[k]? =some x→g x=(b,o)→g y=(b,o')→Upd (l.map g++X) b o o' ((l.set k y).map g++X)
 |[],k,y,x,b,o,o',h,_,_=>by simp at h
 |a::l,0,y,x,b,o,o',h,h1,h2=>by
  simp at h;subst h;rw[List.map_cons,h1,List.set_cons_zero,List.map_cons,h2];exact .h
 |a::l,k+1,y,x,b,o,o',h,h1,h2=>by
  rw[List.map_cons,List.set_cons_succ,List.map_cons];exact .t (upd_map (by simpa using h) h1 h2)
theorem entH_upd {es:List Ent}{i:Nat}(h:i<es.length)(s:Lm)(X:List (Nat × Obj)):Upd (entH es++X) (gd es i).b (Cl (encLm (gd es i).s) 77) (Cl (encLm s) 77) (entH (es.set i ⟨(gd es i).b,s⟩)++X):=by
 have e:(es.set i ⟨(gd es i).b,s⟩).reverse=es.reverse.set (es.length - 1 - i) ⟨(gd es i).b,s⟩:=by
  apply List.ext_getElem?;intro j
  by_cases hj:j<es.length
  ·rw[List.getElem?_reverse (by simpa using hj),List.length_set,List.getElem?_set,List.getElem?_set,List.getElem?_reverse hj]
   by_cases e:i=es.length - 1 - j
   ·rw[if_pos e,if_pos h,if_pos (show es.length - 1 - i=j by omega),if_pos (by simp;omega)]
   ·rw[if_neg e,if_neg qom]
  ·rw[List.getElem?_eq_none (by simp;omega),List.getElem?_eq_none (by simp;omega)]
 unfold entH;rw[e];refine upd_map (x:=gd es i) ?_ U U;rw[List.getElem?_reverse qom,show es.length - 1 - (es.length - 1 - i)=i by omega];exact B2 h
theorem look_memG {K V:Type}[DecidableEq K] {l:List (K × V)}(h:(l.map (·.1)).Nodup){k:K}{v:V}(hm:(k,v)∈l):look l k=some v:=by
 induction l with
 |nil=>cases hm
 |cons e l ih=>
  rw[List.map_cons,List.nodup_cons] at h;rw[By];rcases List.mem_cons.1 hm with h1|h1
  ·subst h1;simp
  ·rw[if_neg,ih h.2 h1];intro e';exact h.1 (e' ▸ List.mem_map.2 ⟨_,h1,rfl⟩)
theorem look_noneG {K V:Type}[DecidableEq K] {l:List (K × V)}{k:K}(h:∀ e∈l,¬ e.1=k):look l k=none:=by
 induction l with
 |nil=>rfl
 |cons e l ih=>
  rw[By,if_neg (h e (by simp)),ih fun x hx=>h x (by simp[hx])]
theorem upsert_noneG {K V:Type}[DecidableEq K] {l:List (K × V)}{k:K}(v:V)(h:look l k=none):upsert l k v=l++[(k,v)]:=by
 unfold look at h;unfold upsert;cases hf:findI k l 0 with
 |none=>rfl
 |some p=>rw[hf] at h;cases h
structure EsR (n:Nn) (w0:World) (M:List (Nat × Obj)) (k:Nat) (es:List Ent) (own:List Sha):Prop where
 len:own.length=es.length
 l:∀ i,i<es.length→(gd es i).s.l=toInts (gd own i).l
 p:∀ i,i<es.length→(gd es i).s.p=(gd own i).p
 lt:∀ i,i<es.length→∀ x∈(gd own i).l,x<n.links.length
 nd:(own.map Sha.l).Nodup
 m:∀ i,i<es.length→LmM w0 M (gd es i).s
 pk:∀ i,i<es.length→(gd own i).p≤k
 ek:es.length≤k
theorem EsR.mono {n:Nn}{w0:World}{M M':List (Nat × Obj)}{k:Nat}{es:List Ent}{own:List Sha}(h:EsR n w0 M k es own)(hs:M.Sublist M'):EsR n w0 M' k es own:=
 ⟨h.len,h.l,h.p,h.lt,h.nd,fun i hi=>(h.m i hi).mono hs,h.pk,h.ek⟩
theorem nd_at {own:List Sha}(h:(own.map Sha.l).Nodup){i j:Nat}(hi:i<own.length)(hj:j<own.length)(e:(gd own i).l=(gd own j).l):i=j:=by
 have h1:(own.map Sha.l)[i]'(by simpa using hi)=(own.map Sha.l)[j]'(by simpa using hj):=by
  rw[List.getElem_map,List.getElem_map,← An hi,← An hj];exact e
 exact(List.getElem_inj h).1 h1
theorem es_key {n:Nn}(hN:n.links.length≤128){w0:World}{M:List (Nat × Obj)}{k:Nat}{es:List Ent}{own:List Sha}(h:EsR n w0 M k es own){ls:List Nat}(hls:∀ x∈ls,x<n.links.length){i:Nat}(hi:i<es.length):keyR (gd es i).s.l=keyR (toInts ls)↔(gd own i).l=ls:=by
 rw[h.l i hi];exact⟨fun e=>key_inj (fun x hx=>by have:=h.lt i hi x hx;omega) (fun x hx=>by have:=hls x hx;omega) e,fun e=>by rw[e]⟩
theorem es_nd {n:Nn}(hN:n.links.length≤128){w0:World}{M:List (Nat × Obj)}{k:Nat}{es:List Ent}{own:List Sha}(h:EsR n w0 M k es own):((entM es).map (·.1)).Nodup:=by
 rw[List.map_map,List.nodup_iff_pairwise_ne,List.pairwise_iff_getElem];intro i j hi hj hij;have hi':i<es.length:=by simpa using hi
 have hj':j<es.length:=by simpa using hj
 simp only[List.getElem_map,Function.comp];rw[← An hi',← An hj',h.l j hj'];intro e;have e2:=(es_key hN h (h.lt j hj') hi').1 e;have hl:=h.len;have:=nd_at h.nd qom qom e2;omega
theorem es_find {n:Nn}(hN:n.links.length≤128){w0:World}{M:List (Nat × Obj)}{k:Nat}{es:List Ent}{own:List Sha}(h:EsR n w0 M k es own){ls:List Nat}(hls:∀ x∈ls,x<n.links.length):(∃ i,i<es.length∧(gd own i).l=ls∧look (entM es) (keyR (toInts ls))=some (gd es i).b)∨((∀ i,i<es.length→¬ (gd own i).l=ls)∧look (entM es) (keyR (toInts ls))=none):=by
 by_cases hx:∃ i,i<es.length∧(gd own i).l=ls
 ·obtain⟨i,hi,e⟩:=hx;refine .inl ⟨i,hi,e,look_memG (es_nd hN h) ?_⟩;rw[← (es_key hN h hls hi).2 e];exact List.mem_map.2 ⟨_,Af hi,rfl⟩
 ·have hno:∀ i,i<es.length→¬ (gd own i).l=ls:=fun i hi e=>hx ⟨i,hi,e⟩
  refine .inr ⟨hno,look_noneG fun e he hk=> ?_⟩;obtain⟨u,hu,rfl⟩:=List.mem_map.1 he;obtain⟨i,hi,rfl⟩:=List.getElem_of_mem hu;rw[← An hi] at hk;exact hno i hi ((es_key hN h hls hi).1 hk)
theorem putU_at:∀ {own:List Sha} {i:Nat} {ls:List Nat},(own.map Sha.l).Nodup→i<own.length→(gd own i).l=ls→putU ls own=own.set i ⟨ls,(gd own i).p+1⟩
 |[],i,ls,_,h,_=>by cases h
 |s::own,0,ls,_,_,e=>by
  have e:s.l=ls:=e;unfold putU;rw[if_pos e];rfl
 |s::own,i+1,ls,hn,h,e=>by
  rw[List.map_cons,List.nodup_cons] at hn;have hi:i<own.length:=by simpa using h
  have e:(gd own i).l=ls:=e;have hne: ¬ s.l=ls:=fun e2=>hn.1 (by rw[e2,← e];exact List.mem_map.2 ⟨_,Af hi,rfl⟩)
  unfold putU;rw[if_neg hne,putU_at hn.2 hi e];rfl
theorem putU_none:∀ {own:List Sha} {ls:List Nat},(∀ i,i<own.length→¬ (gd own i).l=ls)→putU ls own=own++[⟨ls,1⟩]
 |[],ls,_=>rfl
 |s::own,ls,h=>by
  have h0: ¬ s.l=ls:=h 0 (by simp);unfold putU;rw[if_neg h0,putU_none fun i hi=>h (i+1) (by simpa using hi)];rfl
theorem EsR.more {n:Nn}{w0:World}{M:List (Nat × Obj)}{k:Nat}{es:List Ent}{own:List Sha}(h:EsR n w0 M k es own){i:Nat}(hi:i<es.length){ls:List Nat}(e:(gd own i).l=ls):EsR n w0 M (k+1) (es.set i ⟨(gd es i).b,⟨(gd es i).s.q,(gd es i).s.c,(gd es i).s.l,(gd es i).s.p+1⟩⟩) (putU ls own):=by
 have hl:=h.len;rw[putU_at h.nd qom e];have g1:∀ j,j<es.length→gd (es.set i ⟨(gd es i).b,⟨(gd es i).s.q,(gd es i).s.c,(gd es i).s.l,(gd es i).s.p+1⟩⟩) j=if j=i then ⟨(gd es i).b,⟨(gd es i).s.q,(gd es i).s.c,(gd es i).s.l,(gd es i).s.p+1⟩⟩ else gd es j:=fun j hj=>by
  by_cases e1:j=i
  ·subst e1;rw[if_pos rfl,An (by simpa using hj),List.getElem_set_self]
  ·rw[if_neg e1,F0 (fun h=>e1 h.symm)]
 have g2:∀ j,j<es.length→gd (own.set i ⟨ls,(gd own i).p+1⟩) j=if j=i then ⟨ls,(gd own i).p+1⟩ else gd own j:=fun j hj=>by
  by_cases e1:j=i
  ·subst e1;rw[if_pos rfl,An (by rw[List.length_set];omega),List.getElem_set_self]
  ·rw[if_neg e1,F0 (fun h=>e1 h.symm)]
 refine⟨by rw[List.length_set,List.length_set,hl],fun j hj=> ?_,fun j hj=> ?_,fun j hj=> ?_,?_,fun j hj=> ?_,fun j hj=> ?_,by rw[List.length_set];have:=h.ek;omega⟩
 ·rw[List.length_set] at hj;rw[g1 j hj,g2 j hj]
  split
  ·rw[← e];exact h.l i hi
  ·exact h.l j hj
 ·rw[List.length_set] at hj;rw[g1 j hj,g2 j hj]
  split
  ·show (gd es i).s.p+1=(((gd own i).p+1:Nat):Int);rw[h.p i hi];omega
  ·exact h.p j hj
 ·rw[List.length_set] at hj;rw[g2 j hj]
  split
  ·rw[← e];exact h.lt i hi
  ·exact h.lt j hj
 ·have:(own.set i ⟨ls,(gd own i).p+1⟩).map Sha.l=own.map Sha.l:=by
   rw[List.map_set];apply List.ext_getElem?;intro j;rw[List.getElem?_set]
   split
   ·rename_i e1;subst e1;rw[List.length_map,if_pos qom,List.getElem?_map,B2 qom];show some ls=some (gd own i).l;rw[e]
   ·rfl
  rw[this];exact h.nd
 ·rw[List.length_set] at hj;rw[g1 j hj]
  split
  ·exact⟨(h.m i hi).a,(h.m i hi).n⟩
  ·exact h.m j hj
 ·rw[List.length_set] at hj;rw[g2 j hj];have h1:=h.pk i hi;have h2:=h.pk j hj
  split
  ·show (gd own i).p+1≤_;omega
  ·omega
theorem EsR.new {n:Nn}{w0:World}{M:List (Nat × Obj)}{k:Nat}{es:List Ent}{own:List Sha}(h:EsR n w0 M k es own){ls:List Nat}(hls:∀ x∈ls,x<n.links.length)(hno:∀ i,i<es.length→¬ (gd own i).l=ls){b:Nat}{q:Option Addr}{c:Nat}(hA:LmM w0 M ⟨q,c,toInts ls,1⟩):EsR n w0 M (k+1) (es++[⟨b,⟨q,c,toInts ls,1⟩⟩]) (putU ls own):=by
 have hl:=h.len;rw[putU_none fun i hi=>hno i qom];have g1:∀ j,j<es.length+1→gd (es++[⟨b,⟨q,c,toInts ls,1⟩⟩]) j=if j<es.length then gd es j else ⟨b,⟨q,c,toInts ls,1⟩⟩:=fun j hj=>by
  split
  ·rename_i h1;unfold gd;simp[List.getD,List.getElem?_append_left h1]
  ·rename_i h1;obtain rfl:j=es.length:=by omega
   unfold gd;simp[List.getD]
 have g2:∀ j,j<es.length+1→gd (own++[(⟨ls,1⟩:Sha)]) j=if j<es.length then gd own j else ⟨ls,1⟩:=fun j hj=>by
  split
  ·rename_i h1;unfold gd;simp[List.getD,List.getElem?_append_left (show j<own.length by omega)]
  ·rename_i h1;obtain rfl:j=own.length:=by omega
   unfold gd;simp[List.getD]
 have hlen:(es++[(⟨b,⟨q,c,toInts ls,1⟩⟩:Ent)]).length=es.length+1:=by simp
 refine⟨by simp[hl],fun j hj=> ?_,fun j hj=> ?_,fun j hj=> ?_,?_,fun j hj=> ?_,fun j hj=> ?_,by have:=h.ek;omega⟩
 ·rw[hlen] at hj;rw[g1 j hj,g2 j hj]
  split
  ·exact h.l j (by assumption)
  ·rfl
 ·rw[hlen] at hj;rw[g1 j hj,g2 j hj]
  split
  ·exact h.p j (by assumption)
  ·rfl
 ·rw[hlen] at hj;rw[g2 j hj]
  split
  ·exact h.lt j (by assumption)
  ·exact hls
 ·rw[List.map_append,List.map_cons,List.map_nil];refine List.nodup_append.2 ⟨h.nd,by simp,fun a ha c hc=> ?_⟩;simp at hc;subst hc;rintro rfl;obtain⟨s,hs,e⟩:=List.mem_map.1 ha;obtain⟨i,hi,rfl⟩:=List.getElem_of_mem hs;rw[← An hi] at e;exact hno i qom e
 ·rw[hlen] at hj;rw[g1 j hj]
  split
  ·exact h.m j (by assumption)
  ·exact hA
 ·rw[hlen] at hj;rw[g2 j hj]
  split
  ·have:=h.pk j (by assumption);omega
  ·show 1≤k+1;omega
end Go.Proofs.YtpkijiejccngcaaGreatDoor
