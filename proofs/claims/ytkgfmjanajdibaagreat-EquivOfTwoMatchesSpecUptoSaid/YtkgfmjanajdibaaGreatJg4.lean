/-
  A part of what LawG rests on: the logic, walks and plain laws. No condition.
-/
import Derived.Test.YtkgfmjanajdibaaGreatJg3
import Derived.KernelRfl
namespace Go.Proofs.YtkgfmjanajdibaaGreat
open _root_.Go.Proofs.Tryz
open Go.RowKit
set_option linter.unusedVariables false
set_option linter.unusedSimpArgs false
set_option linter.unusedSectionVars false
set_option maxRecDepth 100000
variable {w0:World}{H:Mm}
theorem zbd25_z  (w:World):(Instr.build 25 #[]).run prog w= .ok (.agg #[Vi 0, .string ⟨#[]⟩,Vi 0,Vi 0, .slice none 0 0]) w:=by kernel_rfl
theorem sameP0_s (m:Pdm):
  FSpec prog w0 194 #[.agg (encPd m).toArray, .agg #[Vi 0, .string ⟨#[]⟩,Vi 0,Vi 0, .slice none 0 0]] H (SomB H):=by
 refine Am func194 U ntmps194 U (rDt 2 U (e_ (Ot U cs_) ?_ U));rintro _ _ ⟨n2,rfl,rfl⟩;refine e_ (Ot U cs_) ?_ U;rintro _ _ ⟨n3,rfl,rfl⟩;refine rOt 7 U (y_ (Om U isAgg3 qco) ?_ U);refine rOt 1 U (y_ (Om U isAgg3 qco) ?_ U);refine rOt 2 U ?_;refine Aq (s:=12) (Aa U) (fun c12=> ?_) (fun c12=> ?_)
 ·refine kO tb 31 [2,3,41] rfl U (rGt 8 U (Ai U (Ol U) ?_));exact⟨_,⟨_,rfl,rfl⟩,sbt⟩
 ·refine rOt 1 U (A6 (Om U isAgg9 qco) U (A7 U U (Aa U)) ?_);refine rOt 1 U (A6 (Om U isAgg9 qco) U (A7 U U (Aa U)) ?_);refine A6 (yl_neSD (T U) (T U)) U (A7 U U (Aa U)) (rOt 2 U ?_);refine Aq (s:=19) (Aa U) (fun c19=> ?_) (fun c19=> ?_)
  ·refine kO tb 24 [2,3,41] rfl U (rGt 8 U (Ai U (Ol U) ?_));exact⟨_,⟨_,rfl,rfl⟩,sbt⟩
  ·refine rOt 1 U (A6 (Om U isAgg3 qco) U (A7 U U (Aa U)) ?_);refine rOt 1 U (A6 (Om U isAgg3 qco) U (A7 U U (Aa U)) ?_);refine rOt 3 U ?_;refine Aq (s:=26) (Aa U) (fun c26=> ?_) (fun c26=> ?_)
   ·refine kO tb 17 [2,3,41] rfl U (rGt 8 U (Ai U (Ol U) ?_));exact⟨_,⟨_,rfl,rfl⟩,sbt⟩
   ·refine rOt 1 U (A6 (Om U isAgg3 qco) U (A7 U U (Aa U)) ?_);refine rOt 1 U (A6 (Om U isAgg3 qco) U (A7 U U (Aa U)) ?_);refine rOt 3 U ?_;refine Aq (s:=33) (Aa U) (fun c33=> ?_) (fun c33=> ?_)
    ·refine kO tb 10 [2,3,41] rfl U (rGt 8 U (Ai U (Ol U) ?_));exact⟨_,⟨_,rfl,rfl⟩,sbt⟩
    ·refine rOt 1 U (A6 (Om U isAgg23 qco) U (A7 U U (Aa U)) ?_);refine rOt 2 U (A6 (Om U isAgg23 qco) U (A7 U U (Aa U)) ?_);refine kO tb 5 [2,3,41] rfl U ?_;refine jcd U (fun c41=> ?_) (fun c41=> ?_)
     ·refine rCt 7 U (Ai U (Ol U) ?_);exact⟨_,⟨_,rfl,rfl⟩,sbt⟩
     ·refine rCt 9 U ?_;refine A8 (X:=Nat) (V:=fun i=>[(5,Vi (i:Nat))]) (C:=[(2,_),(3,_)]) (G:=fun i=>(n3,Cl [Vi 0, .string ⟨#[]⟩,Vi 0,Vi 0, .slice none 0 0] 25)::(n2,Cl (encPd m) 25)::H) (φ:=fun i=>True) (μ:=fun i=>0) (x0:=0) ?_ (kg U) qkg sb0 ?_
      ·trivial
      rintro i _;refine rDt 5 U (y_ (Om U isAgg23 qco) ?_ U);refine rOt 4 U ?_;refine jcd U (fun c46=> ?_) (fun c46=> ?_)
      ·exfalso;have h9:((i:Nat):Int)<(m.subs.length:Nat):=c46;omega
      ·refine rCt 2 U (An (rXt 8 U (Ai U (Ol U) ?_)));exact⟨_,⟨_,rfl,rfl⟩,sbt⟩
def NmP (m:Pdm):Prop:=∀ a∈prtP m,a.nm.size<=9223372036854775807
def NmO (m:Pom):Prop:=∀ a∈prtO m,a.nm.size<=9223372036854775807/\NmP a.pr
theorem prtPL_mem {l:List Pdm}{a b:Pdm}(ha:a∈l)(hb:b∈prtP a):b∈prtPL l:=by
 induction l with
 |nil=>cases ha
 |cons x l ih=>
  rw[prtPL];rcases List.mem_cons.1 ha with rfl|ha
  ·exact List.mem_append.2 (.inl hb)
  ·exact List.mem_append.2 (.inr (ih ha))
theorem prtOL_mem {l:List Pom}{a b:Pom}(ha:a∈l)(hb:b∈prtO a):b∈prtOL l:=by
 induction l with
 |nil=>cases ha
 |cons x l ih=>
  rw[prtOL];rcases List.mem_cons.1 ha with rfl|ha
  ·exact List.mem_append.2 (.inl hb)
  ·exact List.mem_append.2 (.inr (ih ha))
theorem NmP.self {m:Pdm}(h:NmP m):m.nm.size<=9223372036854775807:=h m (by rw[Dx];simp)
theorem NmO.self {m:Pom}(h:NmO m):m.nm.size<=9223372036854775807/\NmP m.pr:=h m (by rw[De];simp)
theorem NmP.sub {m a:Pdm}(h:NmP m)(ha:a∈m.subs):NmP a:=fun b hb=>h b (by rw[Dx];exact List.mem_cons_of_mem _ (prtPL_mem ha hb))
theorem NmO.sub {m a:Pom}(h:NmO m)(ha:a∈m.subs):NmO a:=fun b hb=>h b (by rw[De];exact List.mem_cons_of_mem _ (prtOL_mem ha hb))
abbrev SayB (p:Prop) (H:Mm):Value->Mm->Prop:=fun u H'=>∃ b:Bool,(u= .bool b/\(b=true->p))/\H'=H
theorem Jp {α:Type}[Inhabited α] {l:List α}{p:α->Prop}(h:∀ j,j<l.length->p (gd l j)):∀ a∈l,p a:=fun a ha=>by
 obtain⟨i,hi,e⟩:=List.getElem_of_mem ha;have:=h i hi
 rwa [Ar hi,e] at this
def FmPS (w0:World) (N:Nat):Prop:=∀ {H:Mm} {m:Pdm},PdM w0 H m->m.sz<=N->NmP m->FSpec prog w0 195 #[.agg (encPd m).toArray] H (SayB (FmP m) H)
def FmOS (w0:World) (N:Nat):Prop:=∀ {H:Mm} {m:Pom},PoM w0 H m->m.sz<=N->NmO m->FSpec prog w0 160 #[.agg (encPo m).toArray] H (SayB (FmO m) H)
theorem fmP_step {N:Nat}(hN:N<=1000000000)(ih:FmPS w0 N){m:Pdm}(hM:PdM w0 H m)(hm:m.sz<=N+1)(hz:NmP m):
  FSpec prog w0 195 #[.agg (encPd m).toArray] H (SayB (FmP m) H):=by
 refine Am func195 U ntmps195 U ?_;have hsz:=Gb m;have hln:=Ig m.subs;refine rDt 2 U (e_ (Ot U cs_) ?_ U);rintro _ _ ⟨n1,rfl,rfl⟩;refine rOt 6 U (y_ (Om U isAgg9 qco) ?_ U);refine e_ (Ah (evq1 U) call193 (named_s m.nm hz.self)) ?_ U;rintro _ _ ⟨b9,rfl,rfl⟩;refine rOt 3 U ?_;refine Fl (X:=Bool) (V:=fun x4=>[(4, .bool x4)]) (C:=[(1,_),(3,_)]) (φ:=fun x4=>(x4=true->0<=m.val)) (kg U) ?_ ?_
 ·refine rDt 2 U (y_ (Om U isAgg3 qco) ?_ U);refine rOt 2 U ?_;refine Aq (s:=16) (Aa U) (fun c16=> ?_) (fun c16=> ?_)
  ·refine rOt 1 U (A6 (Om U isAgg3 qco) U (A7 U U (Aa U)) ?_);refine rOt 4 U ?_;refine Be (decide (m.val<=65535)) ?_ qkg (kg U) sbt;intro h;exact c16
  ·refine rOt 6 U ?_;refine Be (false) ?_ qkg (kg U) sbt;intro h;first|exact c16|cases h
 rintro x4 hv4;refine Fl (X:=Bool) (V:=fun x5=>[(5, .bool x5)]) (C:=[(1,_),(3,_),(4,_)]) (φ:=fun x5=>True) (kg U) ?_ ?_
 ·refine rDt 2 U (y_ (Om U isAgg9 qco) ?_ U);refine y_ (Eu (T U) Al) (rOt 1 U ?_) U;refine Aq (s:=24) (Aa U) (fun c24=> ?_) (fun c24=> ?_)
  ·refine rOt 1 U (A6 (Om U isAgg3 qco) U (A7 U U (Aa U)) ?_);refine rOt 3 U ?_;refine Aq (s:=29) (Aa U) (fun c29=> ?_) (fun c29=> ?_)
   ·refine rOt 1 U (A6 (Om U isAgg3 qco) U (A7 U U (Aa U)) ?_);refine rOt 4 U ?_;refine Be (decide (m.to=0)) ?_ qkg (kg U) sbt
    trivial
   ·refine rOt 6 U ?_;refine Be (false) ?_ qkg (kg U) sbt
    trivial
  ·refine rOt 11 U ?_;refine Be (false) ?_ qkg (kg U) sbt
   trivial
 rintro x5 _;refine rCt 10 U ?_;refine Fl (X:=Bool × Nat) (V:=fun ⟨b6,n6⟩=>[(6,Vi (n6:Nat)),(7, .bool b6)]) (C:=[(1,_)]) (φ:=fun ⟨b6,n6⟩=>(b6=true->LcP m n6)) (kg U) ?_ ?_
 ·refine rDt 3 U (y_ (Om U isAgg3 qco) ?_ U);refine rOt 10 U ?_;refine jcd U (fun c36=> ?_) (fun c36=> ?_)
  ·refine rCt 2 U ?_
   first|refine Cx (Aa U) ?_|refine Cx (Cb (Aa U) (vbool (decide_eq_true c36))) ?_
   refine rCt 5 U ?_;refine Be ((x5,0)) ?_ qkg (kg U) sbt;intro h;unfold LcP
   first|(exact absurd h qde)|omega
  ·refine rCt 5 U ?_;refine jcd U (fun c36=> ?_) (fun c36=> ?_)
   ·refine rCt 5 U ?_;refine Be ((x5,0)) ?_ qkg (kg U) sbt;intro h;unfold LcP
    first|(exact absurd h qde)|omega
   ·refine rCt 6 U ?_;refine jcd U (fun c40=> ?_) (fun c40=> ?_)
    ·refine rCt 3 U ?_
     first|refine Aq (s:=43) (Aa U) (fun c43=> ?_) (fun c43=> ?_)|refine C0 (s:=43) (Aa U) (fun c43=> ?_) (fun c43=> ?_)
     ·refine rOt 3 U ?_
      first|refine Aq (s:=46) (Aa U) (fun c46=> ?_) (fun c46=> ?_)|refine C0 (s:=46) (Aa U) (fun c46=> ?_) (fun c46=> ?_)
      ·refine rOt 1 U (A6 (Om U isAgg3 qco) U (A7 U U (Aa U)) ?_);refine rOt 5 U ?_;refine Be ((decide (m.to=0),0)) ?_ qkg (kg U) sbt;intro h;unfold LcP
       first|(exact absurd h qde)|omega|(have:=hv4 c46;omega)
      ·refine rOt 7 U ?_;refine Be ((false,0)) ?_ qkg (kg U) sbt;intro h;unfold LcP
       (exact absurd h qde)
     ·refine rOt 10 U ?_;refine Be ((false,0)) ?_ qkg (kg U) sbt;intro h;unfold LcP
      (exact absurd h qde)
    ·refine rCt 6 U ?_;refine jcd U (fun c51=> ?_) (fun c51=> ?_)
     ·refine rCt 3 U ?_
      first|refine Aq (s:=54) (Aa U) (fun c54=> ?_) (fun c54=> ?_)|refine C0 (s:=54) (Aa U) (fun c54=> ?_) (fun c54=> ?_)
      ·refine rOt 3 U ?_
       first|refine Aq (s:=57) (Aa U) (fun c57=> ?_) (fun c57=> ?_)|refine C0 (s:=57) (Aa U) (fun c57=> ?_) (fun c57=> ?_)
       ·refine rOt 1 U (A6 (Om U isAgg3 qco) U (A7 U U (Aa U)) ?_);refine rOt 3 U ?_;refine Aq (s:=62) (Aa U) (fun c62=> ?_) (fun c62=> ?_)
        ·refine rOt 1 U (A6 (Om U isAgg3 qco) U (A7 U U (Aa U)) ?_);refine rOt 5 U ?_;refine Be ((decide (m.to<=16),0)) ?_ qkg (kg U) sbt;intro h;unfold LcP
         first|(exact absurd h qde)|omega|(have:=hv4 c46;omega)|(have:=hv4 c57;omega)
        ·refine rOt 7 U ?_;refine Be ((false,0)) ?_ qkg (kg U) sbt;intro h;unfold LcP
         (exact absurd h qde)
       ·refine rOt 12 U ?_;refine Be ((false,0)) ?_ qkg (kg U) sbt;intro h;unfold LcP
        (exact absurd h qde)
      ·refine rOt 15 U ?_;refine Be ((false,0)) ?_ qkg (kg U) sbt;intro h;unfold LcP
       (exact absurd h qde)
     ·refine rCt 6 U ?_;refine jcd U (fun c67=> ?_) (fun c67=> ?_)
      ·refine rCt 3 U ?_
       first|refine Aq (s:=70) (Aa U) (fun c70=> ?_) (fun c70=> ?_)|refine C0 (s:=70) (Aa U) (fun c70=> ?_) (fun c70=> ?_)
       ·refine rOt 1 U (A6 (Om U isAgg3 qco) U (A7 U U (Aa U)) ?_);refine rOt 3 U ?_;refine Aq (s:=75) (Aa U) (fun c75=> ?_) (fun c75=> ?_)
        ·refine rOt 1 U (A6 (Om U isAgg3 qco) U (A7 U U (Aa U)) ?_);refine rOt 1 U (A6 (Om U isAgg3 qco) U (A7 U U (Aa U)) ?_);refine rOt 3 U ?_;refine Aq (s:=82) (Aa U) (fun c82=> ?_) (fun c82=> ?_)
         ·refine rOt 1 U (A6 (Om U isAgg3 qco) U (A7 U U (Aa U)) ?_);refine rOt 5 U ?_;refine Be ((decide (m.to<=65535),0)) ?_ qkg (kg U) sbt;intro h;unfold LcP
          first|(exact absurd h qde)|omega
         ·refine rOt 7 U ?_;refine Be ((false,0)) ?_ qkg (kg U) sbt;intro h;unfold LcP
          (exact absurd h qde)
        ·refine rOt 14 U ?_;refine Be ((false,0)) ?_ qkg (kg U) sbt;intro h;unfold LcP
         (exact absurd h qde)
       ·refine rOt 19 U ?_;refine Be ((false,0)) ?_ qkg (kg U) sbt;intro h;unfold LcP
        (exact absurd h qde)
      ·refine rCt 6 U ?_;refine jcd U (fun c87=> ?_) (fun c87=> ?_)
       ·refine rCt 10 U ?_;refine Be ((x5,1)) ?_ qkg (kg U) sbt;intro h;unfold LcP
        first|(exact absurd h qde)|omega
       ·refine rCt 7 U ?_;refine jcd U (fun c90=> ?_) (fun c90=> ?_)
        ·refine rCt 2 U ?_
         first|refine Cx (Aa U) ?_|refine Cx (Cb (Aa U) (vbool (decide_eq_true c90))) ?_
         refine rCt 10 U ?_;refine Be ((x5,2)) ?_ qkg (kg U) sbt;intro h;unfold LcP
         first|(exact absurd h qde)|omega
        ·refine rCt 5 U ?_;refine jcd U (fun c90=> ?_) (fun c90=> ?_)
         ·refine rCt 10 U ?_;refine Be ((x5,2)) ?_ qkg (kg U) sbt;intro h;unfold LcP
          first|(exact absurd h qde)|omega
         ·refine rCt 6 U ?_;refine jcd U (fun c94=> ?_) (fun c94=> ?_)
          ·refine rCt 2 U (y_ (Om U isAgg9 qco) ?_ U);refine y_ (Eu (T U) Al) (rOt 1 U ?_) U;refine Aq (s:=99) (Aa U) (fun c99=> ?_) (fun c99=> ?_)
           ·refine rOt 1 U (A6 (Om U isAgg3 qco) U (A7 U U (Aa U)) ?_);refine rOt 3 U ?_;refine Aq (s:=104) (Aa U) (fun c104=> ?_) (fun c104=> ?_)
            ·refine rOt 1 U (A6 (Om U isAgg3 qco) U (A7 U U (Aa U)) ?_);refine rOt 1 U (A6 (Om U isAgg3 qco) U (A7 U U (Aa U)) ?_);refine rOt 3 U ?_;refine Aq (s:=111) (Aa U) (fun c111=> ?_) (fun c111=> ?_)
             ·refine rOt 1 U (A6 (Om U isAgg3 qco) U (A7 U U (Aa U)) ?_);refine rOt 5 U ?_;refine Be ((decide (m.to<=1073741824),0)) ?_ qkg (kg U) sbt;intro h;unfold LcP
              first|(exact absurd h qde)|omega
             ·refine rOt 7 U ?_;refine Be ((false,0)) ?_ qkg (kg U) sbt;intro h;unfold LcP
              (exact absurd h qde)
            ·refine rOt 14 U ?_;refine Be ((false,0)) ?_ qkg (kg U) sbt;intro h;unfold LcP
             (exact absurd h qde)
           ·refine rOt 19 U ?_;refine Be ((false,0)) ?_ qkg (kg U) sbt;intro h;unfold LcP
            (exact absurd h qde)
          ·refine rCt 2 U ?_;refine Be ((false,0)) ?_ qkg (kg U) sbt;intro h;unfold LcP
           (exact absurd h qde)
 rintro⟨b6,n6⟩ hx6;refine rCt 4 U ?_
 first|refine A6 (Bt (T U)) U Ad ?_|refine A6 (Bq (T U)) U Ad ?_
 refine rOt 1 U ?_
 first|refine Aq (s:=118) (Aa U) (fun c118=> ?_) (fun c118=> ?_)|refine C0 (s:=118) (Aa U) (fun c118=> ?_) (fun c118=> ?_)
 ·skip
  refine rOt 16 U (Ai U (Ol U) ?_);exact⟨_,⟨false,⟨rfl,fun h=>by cases h⟩,rfl⟩,sbt⟩
 ·have hb6:=hx6 (by simpa using c118);refine rOt 1 U (A6 (Om U isAgg23 qco) U (A7 U U (Aa U)) ?_);refine rOt 6 U ?_;refine jcd U (fun c124=> ?_) (fun c124=> ?_)
  ·skip
   refine rCt 7 U (Ai U (Ol U) ?_);exact⟨_,⟨false,⟨rfl,fun h=>by cases h⟩,rfl⟩,sbt⟩
  ·have hn6:m.subs.length=n6:=by have h9: ¬ ¬ ((m.subs.length:Nat):Int)=(n6:Nat):=c124;omega
   refine rCt 9 U ?_;refine A8 (X:=Nat) (V:=fun i=>[(8,Vi (i:Nat))]) (C:=[(1,_),(6,_)]) (G:=fun i=>(n1,Cl (encPd m) 25)::H) (φ:=fun i=>i<=n6/\∀ j,j<i->FmP (gd m.subs j)) (μ:=fun i=>n6 - i) (x0:=0) ?_ (kg U) qkg sb0 ?_
   ·exact⟨Nat.zero_le _,fun j hj=>absurd hj (Nat.not_lt_zero _)⟩
   rintro i ⟨hi,hfm⟩;refine rDt 8 U ?_;refine jcd U (fun c127=> ?_) (fun c127=> ?_)
   ·have hin:i<n6:=Int.ofNat_lt.1 c127;have hi2:i<m.subs.length:=by omega
    have hss:=Eh (Ax hi2);refine rCt 7 U (y_ (Om U isAgg23 qco) ?_ U);refine rOt 1 U (y_ (Oo U U runUnderlying23 sizeOf25 qom (by first|exact rfl|exact hM.arr.b (i:=i) hi2)) ?_ U);refine y_ (On U isAgg25 sizeOf25 U (by exact(hM.arr.mono sbt).cs (i:=i) hi2)) ?_ U;refine e_ (Ah (evq1 U) call195 (ih ((hM.sub (Ax hi2)).mono sbt) qom (hz.sub (Ax hi2)))) ?_ U;rintro _ _ ⟨b1,⟨rfl,hb1⟩,rfl⟩;refine rOt 6 U ?_
    first|refine A6 (Bt (T U)) U Ad ?_|refine A6 (Bq (T U)) U Ad ?_
    refine rOt 2 U ?_
    first|refine jcd U (fun c137=> ?_) (fun c137=> ?_)|refine jcn U (fun c137=> ?_) (fun c137=> ?_)
    ·skip
     refine rCt 8 U (Bg (rXt 2 U (Ai U (Ol U) ?_)));exact⟨_,⟨false,⟨rfl,fun h=>by cases h⟩,rfl⟩,sbt⟩
    ·have hbt:b1=true:=by simpa using c137
     refine rCt 5 U (y_ (Aw (T U) Al qom) ?_ U);refine rOt 2 U ?_;refine Au (i+1) ?_ ?_ qkg (kg U) ?_
     ·refine⟨hin,fun j hj=> ?_⟩
      by_cases e:j=i
      ·subst e;exact hb1 hbt
      ·exact hfm j qom
     ·omega
     ·exact sbt
   ·obtain rfl:i=n6:=by have h9: ¬ ((i:Nat):Int)<(n6:Nat):=c127;omega
    refine rCt 2 U (An (rXt 8 U (Ai U (Ol U) ?_)));exact⟨_,⟨true,⟨rfl,fun _=> .mk (by rw[hn6];exact hb6) (Jp (by rw[hn6];exact hfm))⟩,rfl⟩,sbt⟩
theorem fmO_step {N:Nat}(hN:N<=1000000000)(ih:FmOS w0 N)(ihP:FmPS w0 N){m:Pom}(hM:PoM w0 H m)(hm:m.sz<=N+1)(hz:NmO m):
  FSpec prog w0 160 #[.agg (encPo m).toArray] H (SayB (FmO m) H):=by
 refine Am func160 U ntmps160 U ?_;have hsz:=Dy m;have hln:=F0 m.subs;refine rDt 2 U (e_ (Ot U cs_) ?_ U);rintro _ _ ⟨n1,rfl,rfl⟩;refine rOt 6 U (y_ (Om U isAgg9 qco) ?_ U);refine e_ (Ah (evq1 U) call193 (named_s m.nm hz.self.1)) ?_ U;rintro _ _ ⟨b9,rfl,rfl⟩;refine rOt 6 U ?_;refine y_ (On U isAgg25 sizeOf25 U (by exact Lz fndq)) ?_ U;refine y_ (A1 .nil (zbd25_z)) (e_ (Ah (evq2 U U) call194 (sameP0_s m.pr)) ?_ U) U;rintro _ _ ⟨b8,rfl,rfl⟩;refine rOt 3 U ?_;refine Fl (X:=Bool) (V:=fun x5=>[(5, .bool x5)]) (C:=[(1,_),(3,_),(4,_)]) (φ:=fun x5=>True) (kg U) ?_ ?_
 ·refine rDt 2 U (y_ (Om U isAgg9 qco) ?_ U);refine y_ (Eu (T U) Al) (rOt 1 U ?_) U;refine Aq (s:=20) (Aa U) (fun c20=> ?_) (fun c20=> ?_)
  ·refine rOt 1 U (A6 (Om U isAgg3 qco) U (A7 U U (Aa U)) ?_);refine rOt 4 U ?_;refine Be (decide (m.n=0)) ?_ qkg (kg U) sbt
   trivial
  ·refine rOt 6 U ?_;refine Be (false) ?_ qkg (kg U) sbt
   trivial
 rintro x5 _;refine rCt 10 U ?_;refine Fl (X:=Bool × Nat) (V:=fun ⟨b6,n6⟩=>[(6,Vi (n6:Nat)),(7, .bool b6)]) (C:=[(1,_)]) (φ:=fun ⟨b6,n6⟩=>(b6=true->LcO m n6)) (kg U) ?_ ?_
 ·refine rDt 3 U (y_ (Om U isAgg3 qco) ?_ U);refine rOt 9 U ?_;refine jcd U (fun c27=> ?_) (fun c27=> ?_)
  ·refine rCt 2 U ?_;refine y_ (On U isAgg25 sizeOf25 U (by exact Lz fndq)) ?_ U;refine e_ (Ah (evq1 U) call195 (ihP (hM.pred.mono sbt) qom hz.self.2)) ?_ U;rintro _ _ ⟨b2,⟨rfl,hb2⟩,rfl⟩;refine rOt 1 U ?_
   first|refine Aq (s:=32) (Aa U) (fun c32=> ?_) (fun c32=> ?_)|refine C0 (s:=32) (Aa U) (fun c32=> ?_) (fun c32=> ?_)
   ·refine rOt 5 U ?_;refine Be ((x5,0)) ?_ qkg (kg U) sbt;intro h;unfold LcO
    first|(exact absurd h qde)|omega|(have:=hb2 c32;exact .inl ⟨rfl, .inl ⟨c27,this⟩⟩)
   ·refine rOt 5 U ?_;refine Be ((false,0)) ?_ qkg (kg U) sbt;intro h;unfold LcO
    (exact absurd h qde)
  ·refine rCt 6 U ?_;refine jcd U (fun c35=> ?_) (fun c35=> ?_)
   ·refine rCt 3 U ?_
    first|refine Aq (s:=38) (Aa U) (fun c38=> ?_) (fun c38=> ?_)|refine C0 (s:=38) (Aa U) (fun c38=> ?_) (fun c38=> ?_)
    ·refine rOt 3 U ?_
     first|refine Aq (s:=41) (Aa U) (fun c41=> ?_) (fun c41=> ?_)|refine C0 (s:=41) (Aa U) (fun c41=> ?_) (fun c41=> ?_)
     ·refine rOt 1 U (A6 (Om U isAgg3 qco) U (A7 U U (Aa U)) ?_);refine rOt 3 U ?_;refine Aq (s:=46) (Aa U) (fun c46=> ?_) (fun c46=> ?_)
      ·refine rOt 1 U (A6 (Om U isAgg3 qco) U (A7 U U (Aa U)) ?_);refine rOt 5 U ?_;refine Be ((decide (m.n<=65535),0)) ?_ qkg (kg U) sbt;intro h;unfold LcO
       first|(exact absurd h qde)|omega
      ·refine rOt 7 U ?_;refine Be ((false,0)) ?_ qkg (kg U) sbt;intro h;unfold LcO
       (exact absurd h qde)
     ·refine rOt 12 U ?_;refine Be ((false,0)) ?_ qkg (kg U) sbt;intro h;unfold LcO
      (exact absurd h qde)
    ·refine rOt 15 U ?_;refine Be ((false,0)) ?_ qkg (kg U) sbt;intro h;unfold LcO
     (exact absurd h qde)
   ·refine rCt 7 U ?_;refine jcd U (fun c51=> ?_) (fun c51=> ?_)
    ·refine rCt 2 U ?_
     first|refine Cx (Aa U) ?_|refine Cx (Cb (Aa U) (vbool (decide_eq_true c51))) ?_
     refine rCt 4 U ?_
     first|refine Aq (s:=55) (Aa U) (fun c55=> ?_) (fun c55=> ?_)|refine C0 (s:=55) (Aa U) (fun c55=> ?_) (fun c55=> ?_)
     ·refine rOt 9 U ?_;refine Be ((x5,2)) ?_ qkg (kg U) sbt;intro h;unfold LcO
      first|(exact absurd h qde)|omega
     ·refine rOt 9 U ?_;refine Be ((false,2)) ?_ qkg (kg U) sbt;intro h;unfold LcO
      (exact absurd h qde)
    ·refine rCt 5 U ?_;refine jcd U (fun c51=> ?_) (fun c51=> ?_)
     ·refine rCt 4 U ?_
      first|refine Aq (s:=55) (Aa U) (fun c55=> ?_) (fun c55=> ?_)|refine C0 (s:=55) (Aa U) (fun c55=> ?_) (fun c55=> ?_)
      ·refine rOt 9 U ?_;refine Be ((x5,2)) ?_ qkg (kg U) sbt;intro h;unfold LcO
       first|(exact absurd h qde)|omega
      ·refine rOt 9 U ?_;refine Be ((false,2)) ?_ qkg (kg U) sbt;intro h;unfold LcO
       (exact absurd h qde)
     ·refine rCt 6 U ?_;refine jcd U (fun c58=> ?_) (fun c58=> ?_)
      ·refine rCt 4 U ?_
       first|refine Aq (s:=61) (Aa U) (fun c61=> ?_) (fun c61=> ?_)|refine C0 (s:=61) (Aa U) (fun c61=> ?_) (fun c61=> ?_)
       ·refine rOt 9 U ?_;refine Be ((x5,1)) ?_ qkg (kg U) sbt;intro h;unfold LcO
        first|(exact absurd h qde)|omega
       ·refine rOt 9 U ?_;refine Be ((false,1)) ?_ qkg (kg U) sbt;intro h;unfold LcO
        (exact absurd h qde)
      ·refine rCt 2 U ?_;refine Be ((false,0)) ?_ qkg (kg U) sbt;intro h;unfold LcO
       (exact absurd h qde)
 rintro⟨b6,n6⟩ hx6;refine rCt 4 U ?_
 first|refine A6 (Bt (T U)) U Ad ?_|refine A6 (Bq (T U)) U Ad ?_
 refine rOt 1 U ?_
 first|refine Aq (s:=66) (Aa U) (fun c66=> ?_) (fun c66=> ?_)|refine C0 (s:=66) (Aa U) (fun c66=> ?_) (fun c66=> ?_)
 ·skip
  refine rOt 16 U (Ai U (Ol U) ?_);exact⟨_,⟨false,⟨rfl,fun h=>by cases h⟩,rfl⟩,sbt⟩
 ·have hb6:=hx6 (by simpa using c66);refine rOt 1 U (A6 (Om U isAgg26 qco) U (A7 U U (Aa U)) ?_);refine rOt 6 U ?_;refine jcd U (fun c72=> ?_) (fun c72=> ?_)
  ·skip
   refine rCt 7 U (Ai U (Ol U) ?_);exact⟨_,⟨false,⟨rfl,fun h=>by cases h⟩,rfl⟩,sbt⟩
  ·have hn6:m.subs.length=n6:=by have h9: ¬ ¬ ((m.subs.length:Nat):Int)=(n6:Nat):=c72;omega
   refine rCt 9 U ?_;refine A8 (X:=Nat) (V:=fun i=>[(8,Vi (i:Nat))]) (C:=[(1,_),(6,_)]) (G:=fun i=>(n1,Cl (encPo m) 28)::H) (φ:=fun i=>i<=n6/\∀ j,j<i->FmO (gd m.subs j)) (μ:=fun i=>n6 - i) (x0:=0) ?_ (kg U) qkg sb0 ?_
   ·exact⟨Nat.zero_le _,fun j hj=>absurd hj (Nat.not_lt_zero _)⟩
   rintro i ⟨hi,hfm⟩;refine rDt 8 U ?_;refine jcd U (fun c75=> ?_) (fun c75=> ?_)
   ·have hin:i<n6:=Int.ofNat_lt.1 c75;have hi2:i<m.subs.length:=by omega
    have hss:=D1 (Ax hi2);refine rCt 7 U (y_ (Om U isAgg26 qco) ?_ U);refine rOt 1 U (y_ (Oo U U runUnderlying26 sizeOf28 qom (by first|exact rfl|exact hM.arr.b (i:=i) hi2)) ?_ U);refine y_ (On U isAgg28 sizeOf28 U (by exact(hM.arr.mono sbt).cs (i:=i) hi2)) ?_ U;refine e_ (Ah (evq1 U) call160 (ih ((hM.sub (Ax hi2)).mono sbt) qom (hz.sub (Ax hi2)))) ?_ U;rintro _ _ ⟨b1,⟨rfl,hb1⟩,rfl⟩;refine rOt 6 U ?_
    first|refine A6 (Bt (T U)) U Ad ?_|refine A6 (Bq (T U)) U Ad ?_
    refine rOt 2 U ?_
    first|refine jcd U (fun c85=> ?_) (fun c85=> ?_)|refine jcn U (fun c85=> ?_) (fun c85=> ?_)
    ·skip
     refine rCt 8 U (Bg (rXt 2 U (Ai U (Ol U) ?_)));exact⟨_,⟨false,⟨rfl,fun h=>by cases h⟩,rfl⟩,sbt⟩
    ·have hbt:b1=true:=by simpa using c85
     refine rCt 5 U (y_ (Aw (T U) Al qom) ?_ U);refine rOt 2 U ?_;refine Au (i+1) ?_ ?_ qkg (kg U) ?_
     ·refine⟨hin,fun j hj=> ?_⟩
      by_cases e:j=i
      ·subst e;exact hb1 hbt
      ·exact hfm j qom
     ·omega
     ·exact sbt
   ·obtain rfl:i=n6:=by have h9: ¬ ((i:Nat):Int)<(n6:Nat):=c75;omega
    refine rCt 2 U (An (rXt 8 U (Ai U (Ol U) ?_)));exact⟨_,⟨true,⟨rfl,fun _=> .mk (by rw[hn6];exact hb6) (Jp (by rw[hn6];exact hfm))⟩,rfl⟩,sbt⟩
theorem fmP_s {w0:World}(N:Nat)(hN:N<=1000000000):FmPS w0 N:=by
 induction N with
 |zero=>intro H m _ h _;have:=Gb m;omega
 |succ N ih=>
  have ih:FmPS w0 N:=ih qom;intro H m hM hm hz;exact fmP_step qom ih hM hm hz
theorem fmO_s {w0:World}(N:Nat)(hN:N<=1000000000):FmOS w0 N:=by
 induction N with
 |zero=>intro H m _ h _;have:=Dy m;omega
 |succ N ih=>
  have ih:FmOS w0 N:=ih qom;intro H m hM hm hz;exact fmO_step qom ih (fmP_s N qom) hM hm hz
theorem limit_s (n:Nat)(d:Int):
  FSpec prog w0 192 #[szV n d] H (fun u H'=>∃ e:Int,(u=Vi e/\(e=0->n<=200))/\H'=H):=by
 refine Am func192 U ntmps192 U (rDt 2 U (e_ (Ot U cs_) ?_ U));rintro _ _ ⟨n1,rfl,rfl⟩;refine rOt 7 U (y_ (Om U isAgg3 qco) ?_ U);refine rOt 2 U ?_;refine Aq (s:=6) (Aa U) (fun c6=> ?_) (fun c6=> ?_)
 ·skip
  refine rOt 14 U (Ai U (Ol U) ?_);exact⟨_,⟨2,⟨rfl,fun h=>absurd h qde⟩,rfl⟩,sbt⟩
 ·have hn:n<=200:=by have h9: ¬ ((n:Nat):Int)>200:=c6;omega
  refine rOt 1 U (A6 (Om U isAgg3 qco) U (A7 U U (Aa U)) ?_);refine rOt 4 U ?_;refine jcd U (fun c10=> ?_) (fun c10=> ?_)
  ·refine rCt 7 U (Ai U (Ol U) ?_);exact⟨_,⟨2,⟨rfl,fun h=>absurd h qde⟩,rfl⟩,sbt⟩
  ·refine rCt 8 U (Ai U (Ol U) ?_);exact⟨_,⟨0,⟨rfl,fun h=>hn⟩,rfl⟩,sbt⟩
theorem formed_s (n:Nat)(d:Int)(b:Bool):
  FSpec prog w0 159 #[szV n d, .bool b] H (fun u H'=>∃ e:Int,(u=Vi e/\(e=0->n<=200/\b=true))/\H'=H):=by
 refine Am func159 U ntmps159 U (rDt 2 U (e_ (Ot U cs_) ?_ U));rintro _ _ ⟨n2,rfl,rfl⟩;refine rOt 5 U (y_ (On U isAgg122 sizeOf122 U qcs) ?_ U);refine e_ (Ah (evq1 U) call192 (limit_s n d)) ?_ U;rintro _ _ ⟨e1,⟨rfl,he1⟩,rfl⟩;refine rOt 9 U ?_;refine Aq (s:=10) (Aa U) (fun c10=> ?_) (fun c10=> ?_)
 ·refine rOt 1 U ?_
  first|refine A6 (Bt (T U)) U (A7 U U (Aa U)) ?_|refine A6 (Bq (T U)) U (A7 U U (Aa U)) ?_
  refine rOt 3 U ?_
  first|refine jcd U (fun c13=> ?_) (fun c13=> ?_)|refine jcn U (fun c13=> ?_) (fun c13=> ?_)
  ·refine rCt 7 U (Ai U (Ol U) ?_);exact⟨_,⟨1,⟨rfl,fun h=>absurd h qde⟩,rfl⟩,sbt⟩
  ·refine rCt 9 U (Ai U (Ol U) ?_);exact⟨_,⟨e1,⟨rfl,fun h=>⟨he1 h,by simpa using c13⟩⟩,rfl⟩,sbt⟩
 ·refine rOt 15 U (Ai U (Ol U) ?_);exact⟨_,⟨e1,⟨rfl,fun h=>absurd h c10⟩,rfl⟩,sbt⟩
theorem checkO_s {m:Pom}(hM:PoM w0 H m)(hm:m.sz<=1000000000)(hz:NmO m):
  FSpec prog w0 125 #[.agg (encPo m).toArray] H (fun u H'=>∃ e:Int,(u=Vi e/\(e=0->m.nd<=200/\FmO m))/\H'=H):=by
 refine Am func125 U ntmps125 U (rDt 2 U (e_ (Ot U cs_) ?_ U));rintro _ _ ⟨n1,rfl,rfl⟩;refine rOt 4 U (Bf 3 [(0,true),(2,true),(1,false)] ((n1,Cl (encPo m) 28)::H) mixd qkr sb0 ?_ Bh);refine o_y U (On U isAgg28 sizeOf28 U qcs) ?_ U Ad;refine o_y U (On U isAgg28 sizeOf28 U qcs) ?_ U Ad;refine o_e U (Ah (evq1 U) call77 (szO_s _ hm (hM.mono sbt) (Nat.le_refl _))) ?_ U Ad;rintro _ _ ⟨z1,⟨rfl,y1,x1⟩,rfl⟩;refine⟨sbt,(Av U (e_ (Ah (evq1 U) call160 (fmO_s _ hm (hM.mono sbt) (Nat.le_refl _) hz)) ?_ U))⟩;rintro _ _ ⟨b1,⟨rfl,hb1⟩,rfl⟩;refine e_ (Ah (evq2 U U) call159 (formed_s _ _ _)) ?_ U;rintro _ _ ⟨e1,⟨rfl,he1⟩,rfl⟩;refine rOt 4 U (Ai U (Ol U) ?_);exact⟨_,⟨e1,⟨rfl,fun h=>⟨(he1 h).1,hb1 (he1 h).2⟩⟩,rfl⟩,sbt⟩
theorem Kd7 (a0:Int)(a1:ByteArray)(a2 a3:Int)(a4:Option Addr)(a4n a4c:Nat)(w:World):(Instr.buildSlice 23 1 #[(0, .agg #[Vi a0, .string a1,Vi a2,Vi a3, .slice a4 a4n a4c])]).run prog w= .ok (.slice (some ⟨w.heap.size,0,none⟩) 1 1) (w.alloc (Cl [Vi a0, .string a1,Vi a2,Vi a3, .slice a4 a4n a4c] 25)):=by kernel_rfl
theorem Kd8 (a0 a1:Int)(a2:ByteArray)(a3 a4:Int)(a5:Option Addr)(a5n a5c:Nat)(a6:ByteArray)(a7:Int)(a8:Option Addr)(a8n a8c:Nat)(w:World):(Instr.buildSlice 26 1 #[(0, .agg #[Vi a0,Vi a1, .string a2,Vi a3,Vi a4, .slice a5 a5n a5c, .string a6,Vi a7, .slice a8 a8n a8c])]).run prog w= .ok (.slice (some ⟨w.heap.size,0,none⟩) 1 1) (w.alloc (Cl [Vi a0,Vi a1, .string a2,Vi a3,Vi a4, .slice a5 a5n a5c, .string a6,Vi a7, .slice a8 a8n a8c] 28)):=by kernel_rfl
def PrP (w0:World) (N:Nat):Prop:=∀ {H:Mm} {m:Pdm},PdM w0 H m->m.sz<=N->FSpec prog w0 161 #[.agg (encPd m).toArray] H (fun u H'=>∃ d:Sl,(u=slV d (prtP m).length/\SlOk d (prtP m).length 5)/\H'=slH d ((prtP m).flatMap encPd) 25++H)
theorem prtP_step {N:Nat}(hN:N<=1000000000)(ih:PrP w0 N){m:Pdm}(hM:PdM w0 H m)(hm:m.sz<=N+1):
  FSpec prog w0 161 #[.agg (encPd m).toArray] H (fun u H'=>∃ d:Sl,(u=slV d (prtP m).length/\SlOk d (prtP m).length 5)/\H'=slH d ((prtP m).flatMap encPd) 25++H):=by
 refine Am func161 U ntmps161 U ?_;have hsz:=Gb m;have hln:=Ig m.subs;have hpm:=Dx m;refine rDt 2 U (e_ (Ot U cs_) ?_ U);rintro _ _ ⟨n1,rfl,rfl⟩;refine rOt 5 U (y_ (On U isAgg25 sizeOf25 U qcs) ?_ U);refine e_ (Bb (.cons (T U) .nil) (Kd7 _ _ _ _ _ _ _)) ?_ U;rintro _ _ ⟨n6,rfl,rfl⟩;refine rOt 10 U ?_;refine A8 (X:=Nat × Sl) (V:=fun ⟨i,d⟩=>[(3,slV d (m::prtPL (m.subs.take i)).length),(4,Vi (i:Nat))]) (C:=[(1,_)]) (G:=fun ⟨i,d⟩=>slH d ((m::prtPL (m.subs.take i)).flatMap encPd) 25++((n1,Cl (encPd m) 25)::H)) (φ:=fun ⟨i,d⟩=>i<=m.subs.length/\SlOk d (m::prtPL (m.subs.take i)).length 5) (μ:=fun ⟨i,d⟩=>m.subs.length - i) (x0:=(0, .blk n6 1 [])) ?_ (kg U) qkg (by exact List.Sublist.refl _) ?_
 ·exact⟨Nat.zero_le _,Nat.le_refl _,rfl⟩
 rintro⟨i,d⟩ ⟨hi,hd⟩;refine rDt 5 U (y_ (Om U isAgg23 qco) ?_ U);refine rOt 4 U ?_;refine jcd U (fun c11=> ?_) (fun c11=> ?_)
 ·have hi2:i<m.subs.length:=Int.ofNat_lt.1 c11;have htk:=prtPL_take hi2;have hss:=Eh (Ax hi2);have hl1:=prtPL_len (m.subs.take i);have hl2:=szPL_all (l:=m.subs) i;have hl3:=J7 (gd m.subs i);have e9:(m::prtPL (m.subs.take (i+1)))=(m::prtPL (m.subs.take i))++prtP (gd m.subs i):=by rw[htk];rfl
  refine rCt 7 U (y_ (Om U isAgg23 qco) ?_ U);refine rOt 1 U (y_ (Oo U U runUnderlying23 sizeOf25 qom (by first|exact rfl|exact hM.arr.b (i:=i) hi2)) ?_ U);refine y_ (On U isAgg25 sizeOf25 U (by exact(hM.arr.mono sbt).cs (i:=i) hi2)) ?_ U;refine e_ (Ah (evq1 U) call161 (ih ((hM.sub (Ax hi2)).mono sbt) qom)) ?_ U;rintro _ _ ⟨d2,⟨rfl,hd2⟩,rfl⟩;refine e_ (Bu (enc:=encPd) (l:=m::prtPL (m.subs.take i)) (prtP (gd m.subs i)) (by':=64) (.a .h) (T U) (T U) runUnderlying23 runUnderlying23 sizeOf25 typeInfo25 U zeroValue25 U (fun _=>rfl) (fun _=>rfl) hd qde (by rw[List.length_cons];omega) ((B3 (w0:=w0) (e:=25) (X:=[]) (enc:=encPd) (fun _=>rfl) hd2).mono (by rw[List.append_nil];exact List.sublist_append_left _ _))) ?_ U;rintro _ _ ⟨d3,rfl,hd3,rfl⟩;refine rOt 6 U (y_ (Aw (T U) Al qom) ?_ U);refine rOt 2 U ?_;refine Au ((i+1,d3)) ?_ ?_ ⟨(by first|exact Aa U|(refine Cb (Aa U) (vint ?_);omega)|(refine Cb (Aa U) ?_;simp;done)|(refine Cb (Aa U) ?_;exact(by rw[e9,List.length_append]))),qat,trivial⟩ (kg U) ?_
  ·exact⟨hi2,by rw[e9,List.length_append];exact hd3⟩
  ·first|omega|(simp only[];omega)
  ·dsimp only;rw[e9];exact List.sublist_append_right _ _
 ·obtain rfl:i=m.subs.length:=by have h9: ¬ ((i:Nat):Int)<(m.subs.length:Nat):=c11;omega
  have htl:m.subs.take m.subs.length=m.subs:=List.take_length;refine rCt 2 U (An (rXt 9 U (Ai U (Ol U) ?_)));exact⟨_,⟨d,⟨by rw[hpm,htl] at *;rfl,by rw[hpm];rw[htl] at hd;exact hd⟩,rfl⟩,by dsimp only;rw[hpm,htl];exact sbt⟩
theorem prtP_s {w0:World}(N:Nat)(hN:N<=1000000000):PrP w0 N:=by
 induction N with
 |zero=>intro H m _ h;have:=Gb m;omega
 |succ N ih=>
  have ih:PrP w0 N:=ih qom;intro H m hM hm;exact prtP_step qom ih hM hm
def PrO (w0:World) (N:Nat):Prop:=∀ {H:Mm} {m:Pom},PoM w0 H m->m.sz<=N->FSpec prog w0 126 #[.agg (encPo m).toArray] H (fun u H'=>∃ d:Sl,(u=slV d (prtO m).length/\SlOk d (prtO m).length 9)/\H'=slH d ((prtO m).flatMap encPo) 28++H)
theorem prtO_step {N:Nat}(hN:N<=1000000000)(ih:PrO w0 N){m:Pom}(hM:PoM w0 H m)(hm:m.sz<=N+1):
  FSpec prog w0 126 #[.agg (encPo m).toArray] H (fun u H'=>∃ d:Sl,(u=slV d (prtO m).length/\SlOk d (prtO m).length 9)/\H'=slH d ((prtO m).flatMap encPo) 28++H):=by
 refine Am func126 U ntmps126 U ?_;have hsz:=Dy m;have hln:=F0 m.subs;have hpm:=De m;refine rDt 2 U (e_ (Ot U cs_) ?_ U);rintro _ _ ⟨n1,rfl,rfl⟩;refine rOt 5 U (y_ (On U isAgg28 sizeOf28 U qcs) ?_ U);refine e_ (Bb (.cons (T U) .nil) (Kd8 _ _ _ _ _ _ _ _ _ _ _ _ _)) ?_ U;rintro _ _ ⟨n6,rfl,rfl⟩;refine rOt 10 U ?_;refine A8 (X:=Nat × Sl) (V:=fun ⟨i,d⟩=>[(3,slV d (m::prtOL (m.subs.take i)).length),(4,Vi (i:Nat))]) (C:=[(1,_)]) (G:=fun ⟨i,d⟩=>slH d ((m::prtOL (m.subs.take i)).flatMap encPo) 28++((n1,Cl (encPo m) 28)::H)) (φ:=fun ⟨i,d⟩=>i<=m.subs.length/\SlOk d (m::prtOL (m.subs.take i)).length 9) (μ:=fun ⟨i,d⟩=>m.subs.length - i) (x0:=(0, .blk n6 1 [])) ?_ (kg U) qkg (by exact List.Sublist.refl _) ?_
 ·exact⟨Nat.zero_le _,Nat.le_refl _,rfl⟩
 rintro⟨i,d⟩ ⟨hi,hd⟩;refine rDt 5 U (y_ (Om U isAgg26 qco) ?_ U);refine rOt 4 U ?_;refine jcd U (fun c11=> ?_) (fun c11=> ?_)
 ·have hi2:i<m.subs.length:=Int.ofNat_lt.1 c11;have htk:=prtOL_take hi2;have hss:=D1 (Ax hi2);have hl1:=prtOL_len (m.subs.take i);have hl2:=Gz (l:=m.subs) i;have hl3:=prtO_len (gd m.subs i);have e9:(m::prtOL (m.subs.take (i+1)))=(m::prtOL (m.subs.take i))++prtO (gd m.subs i):=by rw[htk];rfl
  refine rCt 7 U (y_ (Om U isAgg26 qco) ?_ U);refine rOt 1 U (y_ (Oo U U runUnderlying26 sizeOf28 qom (by first|exact rfl|exact hM.arr.b (i:=i) hi2)) ?_ U);refine y_ (On U isAgg28 sizeOf28 U (by exact(hM.arr.mono sbt).cs (i:=i) hi2)) ?_ U;refine e_ (Ah (evq1 U) call126 (ih ((hM.sub (Ax hi2)).mono sbt) qom)) ?_ U;rintro _ _ ⟨d2,⟨rfl,hd2⟩,rfl⟩;refine e_ (Bu (enc:=encPo) (l:=m::prtOL (m.subs.take i)) (prtO (gd m.subs i)) (by':=120) (.a .h) (T U) (T U) runUnderlying26 runUnderlying26 sizeOf28 typeInfo28 U zeroValue28 U (fun _=>rfl) (fun _=>rfl) hd qde (by rw[List.length_cons];omega) ((B3 (w0:=w0) (e:=28) (X:=[]) (enc:=encPo) (fun _=>rfl) hd2).mono (by rw[List.append_nil];exact List.sublist_append_left _ _))) ?_ U;rintro _ _ ⟨d3,rfl,hd3,rfl⟩;refine rOt 6 U (y_ (Aw (T U) Al qom) ?_ U);refine rOt 2 U ?_;refine Au ((i+1,d3)) ?_ ?_ ⟨(by first|exact Aa U|(refine Cb (Aa U) (vint ?_);omega)|(refine Cb (Aa U) ?_;simp;done)|(refine Cb (Aa U) ?_;exact(by rw[e9,List.length_append]))),qat,trivial⟩ (kg U) ?_
  ·exact⟨hi2,by rw[e9,List.length_append];exact hd3⟩
  ·first|omega|(simp only[];omega)
  ·dsimp only;rw[e9];exact List.sublist_append_right _ _
 ·obtain rfl:i=m.subs.length:=by have h9: ¬ ((i:Nat):Int)<(m.subs.length:Nat):=c11;omega
  have htl:m.subs.take m.subs.length=m.subs:=List.take_length;refine rCt 2 U (An (rXt 9 U (Ai U (Ol U) ?_)));exact⟨_,⟨d,⟨by rw[hpm,htl] at *;rfl,by rw[hpm];rw[htl] at hd;exact hd⟩,rfl⟩,by dsimp only;rw[hpm,htl];exact sbt⟩
theorem prtO_s {w0:World}(N:Nat)(hN:N<=1000000000):PrO w0 N:=by
 induction N with
 |zero=>intro H m _ h;have:=Dy m;omega
 |succ N ih=>
  have ih:PrO w0 N:=ih qom;intro H m hM hm;exact prtO_step qom ih hM hm
theorem Kc6 (a0:ByteArray)(a1 a2:Int)(w:World):(Instr.build 127 #[(0, .string a0),(1,Vi a1),(2,Vi a2)]).run prog w= .ok (.agg #[.string a0,Vi a1,Vi a2]) w:=by kernel_rfl
theorem rport_s :
  FSpec prog w0 129 #[] H (Still (.agg (encF portFd).toArray) H):=by
 refine Am func129 U ntmps129 U (rDt 2 U (e_ (Ag zeroValue127 cs_) ?_ U));rintro _ _ ⟨n0,rfl,rfl⟩;refine rOt 4 U (y_ (A1 (.cons Al (.cons Al (.cons Al .nil))) (Kc6 _ _ _)) ?_ U);refine Bo (Oq U U sizeOf127) U Ad ?_;rintro _ _ ⟨rfl,rfl⟩;refine rOt 3 U (Ai U (.cellA (Aa U) isAgg127 sizeOf127 U qcs .nil) ?_);exact⟨_,⟨rfl,rfl⟩,sbt⟩
theorem Hn (fl:List Fd)(q:Option Addr)(c:Nat)(hA:Arr w0 H q 3 encF fl)(hl:fl.length<=1000000)(nm:ByteArray):
  FSpec prog w0 82 #[.slice q fl.length c, .string nm] H (Still (.tuple #[.agg (encF (fndFd fl nm).1).toArray, .bool (fndFd fl nm).2]) H):=by
 refine Am func82 U ntmps82 U (rDt 2 U (e_ (Ag zeroValue127 cs_) ?_ U));rintro _ _ ⟨n4,rfl,rfl⟩;refine rOt 7 U (y_ (Eu (T U) Al) (rOt 2 U ?_) U);refine jcd U (fun c8=> ?_) (fun c8=> ?_)
 ·have hp:nm=portN:=nm_eq.1 c8;refine rCt 2 U (y_ (Ao .nil call129 (fun H' hs=>rport_s)) ?_ U);refine Bo (Oq U U sizeOf127) U Ad ?_;rintro _ _ ⟨rfl,rfl⟩;refine rOt 5 U (Ai U (.cellA (Aa U) isAgg127 sizeOf127 U qcs (Ol U)) ?_);exact⟨_,⟨by unfold fndFd;rw[if_pos hp];rfl,rfl⟩,sbt⟩
 ·have hp: ¬ nm=portN:=fun e=>c8 (nm_eq.2 e)
  refine rCt 9 U ?_;refine A8 (X:=Nat) (V:=fun k=>[(6,Vi (k:Nat))]) (C:=[(0,_),(1,_),(4,_)]) (G:=fun k=>(n4,Cl [.string ⟨#[]⟩,Vi 0,Vi 0] 127)::H) (φ:=fun k=>k<=fl.length/\idxF nm fl 0=idxF nm (fl.drop k) k) (μ:=fun k=>fl.length - k) (x0:=0) ?_ (kg U) qkg sb0 ?_
  ·exact⟨Nat.zero_le _,rfl⟩
  rintro k ⟨hk,hix⟩;refine rDt 9 U ?_;refine jcd U (fun c13=> ?_) (fun c13=> ?_)
  ·have hk2:k<fl.length:=by have h9:((k:Nat):Int)<(fl.length:Nat):=c13;omega
   refine rCt 8 U (y_ (Oo U U runUnderlying22 sizeOf127 qom (by first|exact rfl|exact(hA k (gd fl k) (Cy qom)).1)) ?_ U);refine rOt 1 U (y_ (Om U isAgg9 (by first|exact c_o|exact(hA.mono sbt).cs (i:=k) qom 0 _ U)) ?_ U);refine rOt 1 U (y_ (Eu (T U) (T U)) (rOt 2 U ?_) U);refine jcd U (fun c22=> ?_) (fun c22=> ?_)
   ·have heq:(gd fl k).nm=nm:=nm_eq.1 c22;refine rCt 4 U (y_ (Oo U U runUnderlying22 sizeOf127 qom (by first|exact rfl|exact(hA k (gd fl k) (Cy qom)).1)) ?_ U);refine y_ (On U isAgg127 sizeOf127 U (by exact(hA.mono sbt).cs (i:=k) qom)) ?_ U;refine Bo (Oq U U sizeOf127) U Ad ?_;rintro _ _ ⟨rfl,rfl⟩;refine rOt 6 U (Bg (rXt 2 U (Ai U (.cellA (Aa U) isAgg127 sizeOf127 U qcs (Ol U)) ?_)));exact⟨_,⟨by unfold fndFd;rw[if_neg hp,hix,Iv qom,if_pos heq];rfl,rfl⟩,sbt⟩
   ·have hne: ¬ (gd fl k).nm=nm:=fun e=>c22 (nm_eq.2 e)
    refine rCt 5 U (y_ (Aw (T U) Al qom) ?_ U);refine rOt 2 U ?_;refine Au (k+1) ?_ ?_ qkg (kg U) ?_
    ·exact⟨by omega,by rw[hix,Iv qom,if_neg hne]⟩
    ·omega
    ·exact sbt
  ·obtain rfl:k=fl.length:=by have h9: ¬ ((k:Nat):Int)<(fl.length:Nat):=c13;omega
   refine rCt 2 U (An (rXt 4 U (y_ (A1 .nil (zbd67_z)) ?_ U)));refine Bo (Oq U U sizeOf127) U Ad ?_;rintro _ _ ⟨rfl,rfl⟩;refine rOt 4 U (Ai U (.cellA (Aa U) isAgg127 sizeOf127 U qcs (Ol U)) ?_);exact⟨_,⟨by unfold fndFd;rw[if_neg hp,hix,List.drop_length];rfl,rfl⟩,sbt⟩
theorem pow_step (k:Nat):2 ^ k*2=2 ^ (k+1):=(Nat.pow_succ 2 k).symm
theorem yl_dbl {P:Program}{w0:World}{L:Fm}{H:Mm}{ty xt yt:TypeId}{x y:Operand}{k:Nat}(hx:Ev L x (Vi ((2 ^ k:Nat):Int)))(hy:Ev L y (Vi 2))(hk:k<16):Yl P w0 (.binOp .mul xt x y yt) ty L H (Vi ((2 ^ (k+1):Nat):Int)):=by
 have h1:2 ^ k<=2 ^ 16:=Nat.pow_le_pow_right qom qom;have h:=yl_mul2 (P:=P) (w0:=w0) (H:=H) (ty:=ty) (xt:=xt) (yt:=yt) hx hy qom
 rwa [pow_step] at h
theorem rpower_s (n:Nat)(hn:n<=16):
  FSpec prog w0 152 #[Vi (n:Nat)] H (Still (Vi ((2 ^ n:Nat):Int)) H):=by
 refine Am func152 U ntmps152 U (rDt 17 U ?_);refine Ij (X:=Nat) (V:=fun k=>[(3,Vi ((2 ^ k:Nat):Int)),(4,Vi (k:Nat))]) (C:=[(0,_)]) (φ:=fun k=>k<=n) (μ:=fun k=>n - k) (x0:=0) ?_ (kg U) qkg ?_
 ·exact Nat.zero_le _
 rintro k hk;refine rDt 8 U ?_;refine jcd U (fun c7=> ?_) (fun c7=> ?_)
 ·have hk2:k<n:=by have h9:((k:Nat):Int)<(n:Nat):=c7;omega
  refine rCt 6 U (y_ (yl_dbl (T U) Al (by have h9:((k:Nat):Int)<(n:Nat):=c7;omega)) ?_ U);refine rOt 6 U (y_ (Aw (T U) Al qom) ?_ U);refine rOt 2 U ?_;refine Au (k+1) ?_ ?_ qkg (kg U) ?_
  ·omega
  ·omega
  ·exact sbt
 ·obtain rfl:k=n:=by have h9: ¬ ((k:Nat):Int)<(n:Nat):=c7;omega
  refine rCt 2 U (An (rXt 9 U (Ai U (Ol U) ?_)));exact⟨_,⟨rfl,rfl⟩,sbt⟩
theorem Gk (f:Fd)(hf:f.w<=16):
  FSpec prog w0 112 #[.agg (encF f).toArray] H (Still (Vi (((2 ^ f.w:Nat):Int) - 1)) H):=by
 refine Am func112 U ntmps112 U (rDt 2 U (e_ (Ot U cs_) ?_ U));rintro _ _ ⟨n1,rfl,rfl⟩;refine rOt 6 U (y_ (Om U isAgg3 qco) ?_ U);refine y_ (Ao (evq1 U) call152 (fun H' hs=>rpower_s f.w hf)) (y_ (E2 (T U) Al (by have h1:2 ^ f.w<=2 ^ 16:=Nat.pow_le_pow_right qom hf;revert h1;generalize 2 ^ f.w=p;intro h1;omega)) ?_ U) U;refine rOt 4 U (Ai U (Ol U) ?_);exact⟨_,⟨rfl,rfl⟩,sbt⟩
theorem pow_c (w:Nat):((2 ^ w:Nat):Int)=(2:Int) ^ w:=by simp
abbrev SayE (p:Prop) (H:Mm):Value->Mm->Prop:=fun u H'=>∃ e:Int,(u=Vi e/\(e=0->p))/\H'=H
abbrev FlA (w0:World) (H:Mm) (q:Option Addr) (fl:List Fd):Prop:=Arr w0 H q 3 encF fl
theorem fitP_of {fl:List Fd}{m:Pdm}(hfd:(fndFd fl m.nm).2=true)(h1: ¬ m.kind=5->m.val<=((2 ^ (fndFd fl m.nm).1.w:Nat):Int) - 1)(h2:m.kind=5->m.to<=((2 ^ (fndFd fl m.nm).1.w:Nat):Int) - 1)(h4:m.kind=4->m.to<=(fndFd fl m.nm).1.w):FitP fl m:=by
 rw[pow_c] at h1 h2;exact⟨fun hk=>⟨hfd,h1 qom,h4⟩,fun hk=>⟨hfd,h2 hk⟩⟩
theorem fitsP_s (fl:List Fd)(hfl:FlOk fl)(q:Option Addr)(c:Nat)(hA:FlA w0 H q fl)(m:Pdm):
  FSpec prog w0 162 #[.slice q fl.length c, .agg (encPd m).toArray] H (SayE (FitP fl m) H):=by
 refine Am func162 U ntmps162 U ?_;have hfew:=hfl.few;refine rDt 2 U (e_ (Ot U cs_) ?_ U);rintro _ _ ⟨n3,rfl,rfl⟩;refine rOt 7 U (y_ (Om U isAgg3 qco) ?_ U);refine rOt 2 U ?_;refine Aq (s:=11) (Aa U) (fun c11=> ?_) (fun c11=> ?_)
 ·refine rOt 1 U (A6 (Om U isAgg3 qco) U (A7 U U (Aa U)) ?_);refine rOt 3 U ?_;refine Aq (s:=16) (Aa U) (fun c16=> ?_) (fun c16=> ?_)
  ·refine rOt 1 U (A6 (Om U isAgg3 qco) U (A7 U U (Aa U)) ?_);refine rOt 4 U ?_;refine jcd U (fun c20=> ?_) (fun c20=> ?_)
   ·refine rCt 7 U (Ai U (Ol U) ?_)
    first|exact⟨_,⟨_,⟨rfl,fun h=>absurd h qde⟩,rfl⟩,sbt⟩|exact⟨_,⟨_,⟨rfl,fun _=>⟨fun hk=>by exfalso;omega,fun hk=>by exfalso;omega⟩⟩,rfl⟩,sbt⟩
   ·refine rCt 6 U (y_ (Om U isAgg9 qco) ?_ U);refine y_ (Ao (evq2 U U) call82 (fun H' hs=>Hn fl q c (hA.mono (stn hs)) qom m.nm)) ?_ U;refine rOt 3 U (e_ (Ag zeroValue127 cs_) ?_ U);rintro _ _ ⟨n5,rfl,rfl⟩;refine Bo (Oq U U sizeOf127) U Ad ?_;rintro _ _ ⟨rfl,rfl⟩;refine rOt 7 U ?_
    first|refine A6 (Bt (T U)) U Ad ?_|refine A6 (Bq (T U)) U Ad ?_
    refine rOt 2 U ?_
    first|refine jcd U (fun c29=> ?_) (fun c29=> ?_)|refine jcn U (fun c29=> ?_) (fun c29=> ?_)
    ·skip
     refine rCt 7 U (Ai U (Ol U) ?_);exact⟨_,⟨_,⟨rfl,fun h=>absurd h qde⟩,rfl⟩,sbt⟩
    ·have hfd:(fndFd fl m.nm).2=true:=by simpa using c29
     refine rCt 5 U (y_ (Om U isAgg3 qco) ?_ U);refine kO tb 3 [3,5,7] rfl U (rGt 4 U (y_ (Om U isAgg3 qco) ?_ U));refine rOt 3 U ?_;refine jcd U (fun c34=> ?_) (fun c34=> ?_)
     ·refine rCt 2 U (y_ (Om U isAgg3 qco) ?_ U);refine rOt 7 U (y_ (On U isAgg127 sizeOf127 U qcs) ?_ U);refine y_ (Ao (evq1 U) call112 (fun H' hs=>Gk _ (hfl.all _ (Da hfd)).w16)) (rOt 2 U ?_) U;refine Aq (s:=41) (Aa U) (fun c41=> ?_) (fun c41=> ?_)
      ·refine rOt 21 U (Ai U (Ol U) ?_);exact⟨_,⟨_,⟨rfl,fun h=>absurd h qde⟩,rfl⟩,sbt⟩
      ·refine rOt 1 U (A6 (Om U isAgg3 qco) U (A7 U U (Aa U)) ?_);refine rOt 2 U ?_;refine Aq (s:=45) (Aa U) (fun c45=> ?_) (fun c45=> ?_)
       ·refine rOt 1 U (A6 (Om U isAgg3 qco) U (A7 U U (Aa U)) ?_);refine rOt 1 U (A6 (Om U isAgg3 qco) U (A7 U U (Aa U)) ?_);refine rOt 5 U ?_;refine jcd U (fun c52=> ?_) (fun c52=> ?_)
        ·refine rCt 7 U (Ai U (Ol U) ?_);exact⟨_,⟨_,⟨rfl,fun h=>absurd h qde⟩,rfl⟩,sbt⟩
        ·refine rCt 8 U (Ai U (Ol U) ?_)
         first|exact⟨_,⟨_,⟨rfl,fun h=>absurd h qde⟩,rfl⟩,sbt⟩|exact⟨_,⟨_,⟨rfl,fun _=>⟨fun hk=>by exfalso;omega,fun hk=>by exfalso;omega⟩⟩,rfl⟩,sbt⟩
       ·refine rOt 18 U (Ai U (Ol U) ?_)
        first|exact⟨_,⟨_,⟨rfl,fun h=>absurd h qde⟩,rfl⟩,sbt⟩|exact⟨_,⟨_,⟨rfl,fun _=>⟨fun hk=>by exfalso;omega,fun hk=>by exfalso;omega⟩⟩,rfl⟩,sbt⟩|exact⟨_,⟨_,⟨rfl,fun _=>fitP_of hfd (fun h5=>by generalize ((2 ^ (fndFd fl m.nm).1.w:Nat):Int)=P at *;omega) (fun h5=>by generalize ((2 ^ (fndFd fl m.nm).1.w:Nat):Int)=P at *;omega) (fun h4=>by omega)⟩,rfl⟩,sbt⟩
     ·refine rCt 6 U (y_ (On U isAgg127 sizeOf127 U qcs) ?_ U);refine y_ (Ao (evq1 U) call112 (fun H' hs=>Gk _ (hfl.all _ (Da hfd)).w16)) (rOt 2 U ?_) U;refine Aq (s:=41) (Aa U) (fun c41=> ?_) (fun c41=> ?_)
      ·refine rOt 21 U (Ai U (Ol U) ?_);exact⟨_,⟨_,⟨rfl,fun h=>absurd h qde⟩,rfl⟩,sbt⟩
      ·refine rOt 1 U (A6 (Om U isAgg3 qco) U (A7 U U (Aa U)) ?_);refine rOt 2 U ?_;refine Aq (s:=45) (Aa U) (fun c45=> ?_) (fun c45=> ?_)
       ·refine rOt 1 U (A6 (Om U isAgg3 qco) U (A7 U U (Aa U)) ?_);refine rOt 1 U (A6 (Om U isAgg3 qco) U (A7 U U (Aa U)) ?_);refine rOt 5 U ?_;refine jcd U (fun c52=> ?_) (fun c52=> ?_)
        ·refine rCt 7 U (Ai U (Ol U) ?_);exact⟨_,⟨_,⟨rfl,fun h=>absurd h qde⟩,rfl⟩,sbt⟩
        ·refine rCt 8 U (Ai U (Ol U) ?_)
         first|exact⟨_,⟨_,⟨rfl,fun h=>absurd h qde⟩,rfl⟩,sbt⟩|exact⟨_,⟨_,⟨rfl,fun _=>⟨fun hk=>by exfalso;omega,fun hk=>by exfalso;omega⟩⟩,rfl⟩,sbt⟩
       ·refine rOt 18 U (Ai U (Ol U) ?_)
        first|exact⟨_,⟨_,⟨rfl,fun h=>absurd h qde⟩,rfl⟩,sbt⟩|exact⟨_,⟨_,⟨rfl,fun _=>⟨fun hk=>by exfalso;omega,fun hk=>by exfalso;omega⟩⟩,rfl⟩,sbt⟩
  ·refine rOt 13 U (y_ (Om U isAgg9 qco) ?_ U);refine y_ (Ao (evq2 U U) call82 (fun H' hs=>Hn fl q c (hA.mono (stn hs)) qom m.nm)) ?_ U;refine rOt 3 U (e_ (Ag zeroValue127 cs_) ?_ U);rintro _ _ ⟨n5,rfl,rfl⟩;refine Bo (Oq U U sizeOf127) U Ad ?_;rintro _ _ ⟨rfl,rfl⟩;refine rOt 7 U ?_
   first|refine A6 (Bt (T U)) U Ad ?_|refine A6 (Bq (T U)) U Ad ?_
   refine rOt 2 U ?_
   first|refine jcd U (fun c29=> ?_) (fun c29=> ?_)|refine jcn U (fun c29=> ?_) (fun c29=> ?_)
   ·skip
    refine rCt 7 U (Ai U (Ol U) ?_);exact⟨_,⟨_,⟨rfl,fun h=>absurd h qde⟩,rfl⟩,sbt⟩
   ·have hfd:(fndFd fl m.nm).2=true:=by simpa using c29
    refine rCt 5 U (y_ (Om U isAgg3 qco) ?_ U);refine kO tb 3 [3,5,7] rfl U (rGt 4 U (y_ (Om U isAgg3 qco) ?_ U));refine rOt 3 U ?_;refine jcd U (fun c34=> ?_) (fun c34=> ?_)
    ·refine rCt 2 U (y_ (Om U isAgg3 qco) ?_ U);refine rOt 7 U (y_ (On U isAgg127 sizeOf127 U qcs) ?_ U);refine y_ (Ao (evq1 U) call112 (fun H' hs=>Gk _ (hfl.all _ (Da hfd)).w16)) (rOt 2 U ?_) U;refine Aq (s:=41) (Aa U) (fun c41=> ?_) (fun c41=> ?_)
     ·refine rOt 21 U (Ai U (Ol U) ?_);exact⟨_,⟨_,⟨rfl,fun h=>absurd h qde⟩,rfl⟩,sbt⟩
     ·refine rOt 1 U (A6 (Om U isAgg3 qco) U (A7 U U (Aa U)) ?_);refine rOt 2 U ?_;refine Aq (s:=45) (Aa U) (fun c45=> ?_) (fun c45=> ?_)
      ·refine rOt 1 U (A6 (Om U isAgg3 qco) U (A7 U U (Aa U)) ?_);refine rOt 1 U (A6 (Om U isAgg3 qco) U (A7 U U (Aa U)) ?_);refine rOt 5 U ?_;refine jcd U (fun c52=> ?_) (fun c52=> ?_)
       ·refine rCt 7 U (Ai U (Ol U) ?_);exact⟨_,⟨_,⟨rfl,fun h=>absurd h qde⟩,rfl⟩,sbt⟩
       ·refine rCt 8 U (Ai U (Ol U) ?_)
        first|exact⟨_,⟨_,⟨rfl,fun h=>absurd h qde⟩,rfl⟩,sbt⟩|exact⟨_,⟨_,⟨rfl,fun _=>⟨fun hk=>by exfalso;omega,fun hk=>by exfalso;omega⟩⟩,rfl⟩,sbt⟩
      ·refine rOt 18 U (Ai U (Ol U) ?_)
       first|exact⟨_,⟨_,⟨rfl,fun h=>absurd h qde⟩,rfl⟩,sbt⟩|exact⟨_,⟨_,⟨rfl,fun _=>⟨fun hk=>by exfalso;omega,fun hk=>by exfalso;omega⟩⟩,rfl⟩,sbt⟩
    ·refine rCt 6 U (y_ (On U isAgg127 sizeOf127 U qcs) ?_ U);refine y_ (Ao (evq1 U) call112 (fun H' hs=>Gk _ (hfl.all _ (Da hfd)).w16)) (rOt 2 U ?_) U;refine Aq (s:=41) (Aa U) (fun c41=> ?_) (fun c41=> ?_)
     ·refine rOt 21 U (Ai U (Ol U) ?_);exact⟨_,⟨_,⟨rfl,fun h=>absurd h qde⟩,rfl⟩,sbt⟩
     ·refine rOt 1 U (A6 (Om U isAgg3 qco) U (A7 U U (Aa U)) ?_);refine rOt 2 U ?_;refine Aq (s:=45) (Aa U) (fun c45=> ?_) (fun c45=> ?_)
      ·refine rOt 1 U (A6 (Om U isAgg3 qco) U (A7 U U (Aa U)) ?_);refine rOt 1 U (A6 (Om U isAgg3 qco) U (A7 U U (Aa U)) ?_);refine rOt 5 U ?_;refine jcd U (fun c52=> ?_) (fun c52=> ?_)
       ·refine rCt 7 U (Ai U (Ol U) ?_);exact⟨_,⟨_,⟨rfl,fun h=>absurd h qde⟩,rfl⟩,sbt⟩
       ·refine rCt 8 U (Ai U (Ol U) ?_)
        first|exact⟨_,⟨_,⟨rfl,fun h=>absurd h qde⟩,rfl⟩,sbt⟩|exact⟨_,⟨_,⟨rfl,fun _=>⟨fun hk=>by exfalso;omega,fun hk=>by exfalso;omega⟩⟩,rfl⟩,sbt⟩|exact⟨_,⟨_,⟨rfl,fun _=>fitP_of hfd (fun h5=>by generalize ((2 ^ (fndFd fl m.nm).1.w:Nat):Int)=P at *;omega) (fun h5=>by generalize ((2 ^ (fndFd fl m.nm).1.w:Nat):Int)=P at *;omega) (fun h4=>by omega)⟩,rfl⟩,sbt⟩
      ·refine rOt 18 U (Ai U (Ol U) ?_)
       first|exact⟨_,⟨_,⟨rfl,fun h=>absurd h qde⟩,rfl⟩,sbt⟩|exact⟨_,⟨_,⟨rfl,fun _=>⟨fun hk=>by exfalso;omega,fun hk=>by exfalso;omega⟩⟩,rfl⟩,sbt⟩
 ·refine rOt 18 U (y_ (Om U isAgg9 qco) ?_ U);refine y_ (Ao (evq2 U U) call82 (fun H' hs=>Hn fl q c (hA.mono (stn hs)) qom m.nm)) ?_ U;refine rOt 3 U (e_ (Ag zeroValue127 cs_) ?_ U);rintro _ _ ⟨n5,rfl,rfl⟩;refine Bo (Oq U U sizeOf127) U Ad ?_;rintro _ _ ⟨rfl,rfl⟩;refine rOt 7 U ?_
  first|refine A6 (Bt (T U)) U Ad ?_|refine A6 (Bq (T U)) U Ad ?_
  refine rOt 2 U ?_
  first|refine jcd U (fun c29=> ?_) (fun c29=> ?_)|refine jcn U (fun c29=> ?_) (fun c29=> ?_)
  ·skip
   refine rCt 7 U (Ai U (Ol U) ?_);exact⟨_,⟨_,⟨rfl,fun h=>absurd h qde⟩,rfl⟩,sbt⟩
  ·have hfd:(fndFd fl m.nm).2=true:=by simpa using c29
   refine rCt 5 U (y_ (Om U isAgg3 qco) ?_ U);refine kO tb 3 [3,5,7] rfl U (rGt 4 U (y_ (Om U isAgg3 qco) ?_ U));refine rOt 3 U ?_;refine jcd U (fun c34=> ?_) (fun c34=> ?_)
   ·refine rCt 2 U (y_ (Om U isAgg3 qco) ?_ U);refine rOt 7 U (y_ (On U isAgg127 sizeOf127 U qcs) ?_ U);refine y_ (Ao (evq1 U) call112 (fun H' hs=>Gk _ (hfl.all _ (Da hfd)).w16)) (rOt 2 U ?_) U;refine Aq (s:=41) (Aa U) (fun c41=> ?_) (fun c41=> ?_)
    ·refine rOt 21 U (Ai U (Ol U) ?_);exact⟨_,⟨_,⟨rfl,fun h=>absurd h qde⟩,rfl⟩,sbt⟩
    ·refine rOt 1 U (A6 (Om U isAgg3 qco) U (A7 U U (Aa U)) ?_);refine rOt 2 U ?_;refine Aq (s:=45) (Aa U) (fun c45=> ?_) (fun c45=> ?_)
     ·refine rOt 1 U (A6 (Om U isAgg3 qco) U (A7 U U (Aa U)) ?_);refine rOt 1 U (A6 (Om U isAgg3 qco) U (A7 U U (Aa U)) ?_);refine rOt 5 U ?_;refine jcd U (fun c52=> ?_) (fun c52=> ?_)
      ·refine rCt 7 U (Ai U (Ol U) ?_);exact⟨_,⟨_,⟨rfl,fun h=>absurd h qde⟩,rfl⟩,sbt⟩
      ·refine rCt 8 U (Ai U (Ol U) ?_)
       first|exact⟨_,⟨_,⟨rfl,fun h=>absurd h qde⟩,rfl⟩,sbt⟩|exact⟨_,⟨_,⟨rfl,fun _=>⟨fun hk=>by exfalso;omega,fun hk=>by exfalso;omega⟩⟩,rfl⟩,sbt⟩
     ·refine rOt 18 U (Ai U (Ol U) ?_)
      first|exact⟨_,⟨_,⟨rfl,fun h=>absurd h qde⟩,rfl⟩,sbt⟩|exact⟨_,⟨_,⟨rfl,fun _=>⟨fun hk=>by exfalso;omega,fun hk=>by exfalso;omega⟩⟩,rfl⟩,sbt⟩
   ·refine rCt 6 U (y_ (On U isAgg127 sizeOf127 U qcs) ?_ U);refine y_ (Ao (evq1 U) call112 (fun H' hs=>Gk _ (hfl.all _ (Da hfd)).w16)) (rOt 2 U ?_) U;refine Aq (s:=41) (Aa U) (fun c41=> ?_) (fun c41=> ?_)
    ·refine rOt 21 U (Ai U (Ol U) ?_);exact⟨_,⟨_,⟨rfl,fun h=>absurd h qde⟩,rfl⟩,sbt⟩
    ·refine rOt 1 U (A6 (Om U isAgg3 qco) U (A7 U U (Aa U)) ?_);refine rOt 2 U ?_;refine Aq (s:=45) (Aa U) (fun c45=> ?_) (fun c45=> ?_)
     ·refine rOt 1 U (A6 (Om U isAgg3 qco) U (A7 U U (Aa U)) ?_);refine rOt 1 U (A6 (Om U isAgg3 qco) U (A7 U U (Aa U)) ?_);refine rOt 5 U ?_;refine jcd U (fun c52=> ?_) (fun c52=> ?_)
      ·refine rCt 7 U (Ai U (Ol U) ?_);exact⟨_,⟨_,⟨rfl,fun h=>absurd h qde⟩,rfl⟩,sbt⟩
      ·refine rCt 8 U (Ai U (Ol U) ?_)
       first|exact⟨_,⟨_,⟨rfl,fun h=>absurd h qde⟩,rfl⟩,sbt⟩|exact⟨_,⟨_,⟨rfl,fun _=>⟨fun hk=>by exfalso;omega,fun hk=>by exfalso;omega⟩⟩,rfl⟩,sbt⟩
     ·refine rOt 18 U (Ai U (Ol U) ?_)
      first|exact⟨_,⟨_,⟨rfl,fun h=>absurd h qde⟩,rfl⟩,sbt⟩|exact⟨_,⟨_,⟨rfl,fun _=>⟨fun hk=>by exfalso;omega,fun hk=>by exfalso;omega⟩⟩,rfl⟩,sbt⟩|exact⟨_,⟨_,⟨rfl,fun _=>fitP_of hfd (fun h5=>by generalize ((2 ^ (fndFd fl m.nm).1.w:Nat):Int)=P at *;omega) (fun h5=>by generalize ((2 ^ (fndFd fl m.nm).1.w:Nat):Int)=P at *;omega) (fun h4=>by omega)⟩,rfl⟩,sbt⟩
theorem fitsAll_s (fl:List Fd)(hfl:FlOk fl)(q:Option Addr)(c:Nat)(hA:FlA w0 H q fl){m:Pdm}(hM:PdM w0 H m)(hm:m.sz<=1000000000):
  FSpec prog w0 127 #[.slice q fl.length c, .agg (encPd m).toArray] H (SayE (∀ a∈prtP m,FitP fl a) H):=by
 refine Am func127 U ntmps127 U ?_;have hpl:=J7 m;refine rDt 2 U (e_ (Ot U cs_) ?_ U);rintro _ _ ⟨n3,rfl,rfl⟩;refine rOt 5 U (y_ (On U isAgg25 sizeOf25 U qcs) ?_ U);refine e_ (Ah (evq1 U) call161 (prtP_s _ hm (hM.mono sbt) (Nat.le_refl _))) ?_ U;rintro _ _ ⟨d,⟨rfl,hd⟩,rfl⟩;have hdA:Arr w0 (slH d ((prtP m).flatMap encPd) 25) (slQ d) 5 encPd (prtP m):=by have:=B3 (w0:=w0) (e:=25) (X:=[]) (enc:=encPd) (fun _=>rfl) hd;rwa [List.append_nil] at this
 refine rOt 10 U ?_;refine A8 (X:=Nat) (V:=fun i=>[(6,Vi (i:Nat))]) (C:=[(0,_),(5,_)]) (G:=fun i=>slH d ((prtP m).flatMap encPd) 25++((n3,Cl (encPd m) 25)::H)) (φ:=fun i=>i<=(prtP m).length/\∀ j,j<i->FitP fl (gd (prtP m) j)) (μ:=fun i=>(prtP m).length - i) (x0:=0) ?_ (kg U) qkg sb0 ?_
 ·exact⟨Nat.zero_le _,fun j hj=>absurd hj (Nat.not_lt_zero _)⟩
 rintro i ⟨hi,hf⟩;refine rDt 9 U ?_;refine jcd U (fun c13=> ?_) (fun c13=> ?_)
 ·have hi2:i<(prtP m).length:=by have h9:((i:Nat):Int)<((prtP m).length:Nat):=c13;omega
  refine rCt 9 U (y_ (Oo U U runUnderlying23 sizeOf25 qom (by first|exact rfl|exact hdA.b (i:=i) hi2)) ?_ U);refine y_ (On U isAgg25 sizeOf25 U (by exact(hdA.mono (by repeat (first|exact List.sublist_append_left _ _|refine List.Sublist.cons _ ?_))).cs (i:=i) hi2)) ?_ U;refine e_ (Ah (evq2 U U) call162 (fitsP_s fl hfl q c (hA.mono sbt) (gd (prtP m) i))) ?_ U;rintro _ _ ⟨e1,⟨rfl,he1⟩,rfl⟩;refine rOt 9 U ?_;refine jcd U (fun c23=> ?_) (fun c23=> ?_)
  ·skip
   refine rCt 9 U (Bg (rXt 2 U (Ai U (Ol U) ?_)));exact⟨_,⟨e1,⟨rfl,fun h=>absurd h c23⟩,rfl⟩,by exact sbt⟩
  ·have he0:e1=0:=Classical.not_not.1 c23;refine rCt 5 U (y_ (Aw (T U) Al qom) ?_ U);refine rOt 2 U ?_;refine Au (i+1) ?_ ?_ qkg (kg U) ?_
   ·refine⟨hi2,fun j hj=> ?_⟩
    by_cases e:j=i
    ·subst e;exact he1 he0
    ·exact hf j qom
   ·omega
   ·exact sbt
 ·obtain rfl:i=(prtP m).length:=by have h9: ¬ ((i:Nat):Int)<((prtP m).length:Nat):=c13;omega
  refine rCt 2 U (An (rXt 8 U (Ai U (Ol U) ?_)));exact⟨_,⟨0,⟨rfl,fun _=>Jp hf⟩,rfl⟩,by exact sbt⟩
theorem Gc {fl:List Fd}{m:Pom}(h1:m.kind=1->∀ a∈prtP m.pr,FitP fl a)(h2:m.kind=2->(fndFd fl m.nm).2=true/\m.n<=((2 ^ (fndFd fl m.nm).1.w:Nat):Int) - 1):FitO fl m:=⟨h1,fun hk=>by have:=h2 hk;rw[pow_c] at this;exact this⟩
theorem po_prc {b o:Nat}{m:Pom}(h:Cells w0 H b o (encPo m)):Cells w0 H b (o+1) (encPd m.pr):=fun i v hi=>by
 have hl:=(List.getElem?_eq_some_iff.1 hi).1;have:=h (1+i) v (by
  show (Vi m.kind::(encPd m.pr++[.string m.nm,Vi m.n, .slice m.q m.subs.length m.cap]):List Value)[1+i]? =some v;rw[show 1+i=i+1 by omega,List.getElem?_cons_succ,List.getElem?_append_left hl];exact hi)
 rwa [<- Nat.add_assoc] at this
theorem rpolicy_s (fl:List Fd)(hfl:FlOk fl)(q:Option Addr)(c:Nat)(hA:FlA w0 H q fl){m:Pom}(hM:PoM w0 H m)(hm:m.sz<=1000000000)(hz:NmO m):
  FSpec prog w0 80 #[.slice q fl.length c, .agg (encPo m).toArray] H (SayE (m.nd<=200/\FmO m/\∀ a∈prtO m,FitO fl a) H):=by
 refine Am func80 U ntmps80 U ?_;have hpl:=prtO_len m;have hfew:=hfl.few;refine rDt 2 U (e_ (Ot U cs_) ?_ U);rintro _ _ ⟨n3,rfl,rfl⟩;refine rOt 5 U (y_ (On U isAgg28 sizeOf28 U qcs) ?_ U);refine e_ (Ah (evq1 U) call125 (checkO_s (hM.mono sbt) hm hz)) ?_ U;rintro _ _ ⟨e1,⟨rfl,he1⟩,rfl⟩;refine rOt 10 U ?_;refine jcd U (fun c13=> ?_) (fun c13=> ?_)
 ·skip
  refine rCt 8 U (Ai U (Ol U) ?_)
  first|exact⟨_,⟨_,⟨rfl,fun h=>absurd h qde⟩,rfl⟩,by exact sbt⟩|exact⟨_,⟨_,⟨rfl,fun h=>absurd h (by assumption)⟩,rfl⟩,by exact sbt⟩
 ·obtain⟨hnd,hfo⟩:=he1 (Classical.not_not.1 c13);refine rCt 4 U (y_ (On U isAgg28 sizeOf28 U qcs) ?_ U);refine e_ (Ah (evq1 U) call126 (prtO_s _ hm (hM.mono sbt) (Nat.le_refl _))) ?_ U;rintro _ _ ⟨d,⟨rfl,hd⟩,rfl⟩;have hdA:Arr w0 (slH d ((prtO m).flatMap encPo) 28) (slQ d) 9 encPo (prtO m):=by have:=B3 (w0:=w0) (e:=28) (X:=[]) (enc:=encPo) (fun _=>rfl) hd;rwa [List.append_nil] at this
  refine rOt 10 U ?_;refine A8 (X:=Nat) (V:=fun i=>[(7,Vi (i:Nat)),(5,Vi 0)]) (C:=[(0,_),(6,_)]) (G:=fun i=>slH d ((prtO m).flatMap encPo) 28++((n3,Cl (encPo m) 28)::H)) (φ:=fun i=>i<=(prtO m).length/\∀ j,j<i->FitO fl (gd (prtO m) j)) (μ:=fun i=>(prtO m).length - i) (x0:=0) ?_ (kg U) ⟨qat,(by first|exact Aa U|(refine Cb (Aa U) (vint ?_);omega)),trivial⟩ sb0 ?_
  ·exact⟨Nat.zero_le _,fun j hj=>absurd hj (Nat.not_lt_zero _)⟩
  rintro i ⟨hi,hf⟩;refine rDt 9 U ?_;refine jcd U (fun c20=> ?_) (fun c20=> ?_)
  ·have hi2:i<(prtO m).length:=by have h9:((i:Nat):Int)<((prtO m).length:Nat):=c20;omega
   have hmi:=prtO_M hM _ (Ax hi2);have hms:=prtO_sz _ (Ax hi2);have hmz:=Dy (gd (prtO m) i);refine rCt 9 U (y_ (Oo U U runUnderlying26 sizeOf28 qom (by first|exact rfl|exact hdA.b (i:=i) hi2)) ?_ U);refine rOt 1 U ?_;refine y_ (Om U isAgg3 (by first|exact c_o|exact(hdA.mono (by repeat (first|exact List.sublist_append_left _ _|refine List.Sublist.cons _ ?_))).cs (i:=i) hi2 0 _ U)) ?_ U;refine rOt 3 U ?_;refine jcd U (fun c28=> ?_) (fun c28=> ?_)
   ·refine rCt 4 U (y_ (Oo U U runUnderlying26 sizeOf28 qom (by first|exact rfl|exact hdA.b (i:=i) hi2)) ?_ U);refine rOt 1 U ?_;refine y_ (On U isAgg25 sizeOf25 U (by exact po_prc ((hdA.mono (by repeat (first|exact List.sublist_append_left _ _|refine List.Sublist.cons _ ?_))).cs (i:=i) hi2))) ?_ U;refine e_ (Ah (evq2 U U) call127 (fitsAll_s fl hfl q c (hA.mono sbt) (m:=(gd (prtO m) i).pr) ((hmi.pred).mono sbt) qom)) ?_ U;rintro _ _ ⟨e2,⟨rfl,he2⟩,rfl⟩;refine rOt 8 U (y_ (Oo U U runUnderlying26 sizeOf28 qom (by first|exact rfl|exact hdA.b (i:=i) hi2)) ?_ U);refine rOt 1 U ?_;refine y_ (Om U isAgg3 (by first|exact c_o|exact(hdA.mono (by repeat (first|exact List.sublist_append_left _ _|refine List.Sublist.cons _ ?_))).cs (i:=i) hi2 0 _ U)) ?_ U;refine rOt 3 U ?_;refine jcd U (fun c41=> ?_) (fun c41=> ?_)
    ·refine rCt 5 U (y_ (Oo U U runUnderlying26 sizeOf28 qom (by first|exact rfl|exact hdA.b (i:=i) hi2)) ?_ U);refine rOt 1 U ?_;refine y_ (Om U isAgg9 (by first|exact c_o|exact(hdA.mono (by repeat (first|exact List.sublist_append_left _ _|refine List.Sublist.cons _ ?_))).cs (i:=i) hi2 6 _ U)) ?_ U;refine y_ (Ao (evq2 U U) call82 (fun H' hs=>Hn fl q c (hA.mono (stn hs)) qom (gd (prtO m) i).nm)) ?_ U;refine rOt 3 U (e_ (Ag zeroValue127 cs_) ?_ U);rintro _ _ ⟨n8,rfl,rfl⟩;refine Bo (Oq U U sizeOf127) U Ad ?_;rintro _ _ ⟨rfl,rfl⟩;refine kO tb 3 [0,5,6,7,8,9] rfl U (rGt 3 U ?_)
     first|refine A6 (Bt (T U)) U Ad ?_|refine A6 (Bq (T U)) U Ad ?_
     refine rOt 2 U ?_
     first|refine jcd U (fun c53=> ?_) (fun c53=> ?_)|refine jcn U (fun c53=> ?_) (fun c53=> ?_)
     ·skip
      refine rCt 10 U ?_;refine jcd U (fun c63=> ?_) (fun c63=> ?_)
      ·skip
       refine rCt 9 U (Bg (rXt 2 U (Ai U (Ol U) ?_)));exact⟨_,⟨_,⟨rfl,fun h=>absurd h qde⟩,rfl⟩,by exact sbt⟩
      ·have he0:=Classical.not_not.1 c63;refine rCt 5 U (y_ (Aw (T U) Al qom) ?_ U);refine rOt 2 U ?_;refine Au (i+1) ?_ ?_ ⟨qat,(by first|exact Aa U|(refine Cb (Aa U) (vint ?_);omega)),trivial⟩ (kg U) ?_
       ·refine⟨hi2,fun j hj=> ?_⟩
        by_cases e:j=i
        ·subst e;exact Gc (fun hk=>by exact he2 (by first|assumption|omega)) (fun hk=>by first|(exact⟨hfd,by generalize ((2 ^ (fndFd fl (gd (prtO m) j).nm).1.w:Nat):Int)=P at *;omega⟩)|(exfalso;omega))
        ·exact hf j qom
       ·omega
       ·exact sbt
     ·have hfd:(fndFd fl (gd (prtO m) i).nm).2=true:=by simpa using c53
      refine rCt 1 U (Bf 8 (plq8 []) ((n8,Cl (encF (fndFd fl (gd (prtO m) i).nm).1) 127)::(slH d ((prtO m).flatMap encPo) 28++((n3,Cl (encPo m) 28)::H))) mixd qkr sbt ?_ Bh);refine rPt 2 U (o_y U (Oo U U runUnderlying26 sizeOf28 qom (by first|exact rfl|exact hdA.b (i:=i) hi2)) ?_ U Ad);refine rPt 1 U ?_;refine o_y U (Om U isAgg3 (by first|exact c_o|exact(hdA.mono (by repeat (first|exact List.sublist_append_left _ _|refine List.Sublist.cons _ ?_))).cs (i:=i) hi2 7 _ U)) ?_ U Ad;refine o_y U (On U isAgg127 sizeOf127 U qcs) ?_ U Ad;refine o_y U (Ao (evq1 U) call112 (fun H' hs=>Gk _ (hfl.all _ (Da hfd)).w16)) (rPt 1 U (Av U (rOt 2 U ?_))) U Ad;refine jcd U (fun c61=> ?_) (fun c61=> ?_)
      ·refine rCt 10 U ?_;refine jcd U (fun c63=> ?_) (fun c63=> ?_)
       ·skip
        refine rCt 9 U (Bg (rXt 2 U (Ai U (Ol U) ?_)));exact⟨_,⟨_,⟨rfl,fun h=>absurd h qde⟩,rfl⟩,by exact sbt⟩
       ·have he0:=Classical.not_not.1 c63;refine rCt 5 U (y_ (Aw (T U) Al qom) ?_ U);refine rOt 2 U ?_;refine Au (i+1) ?_ ?_ ⟨qat,(by first|exact Aa U|(refine Cb (Aa U) (vint ?_);omega)),trivial⟩ (kg U) ?_
        ·refine⟨hi2,fun j hj=> ?_⟩
         by_cases e:j=i
         ·subst e;exact Gc (fun hk=>by exact he2 (by first|assumption|omega)) (fun hk=>by(exact⟨hfd,by generalize ((2 ^ (fndFd fl (gd (prtO m) j).nm).1.w:Nat):Int)=P at *;omega⟩))
         ·exact hf j qom
        ·omega
        ·exact sbt
      ·refine rCt 8 U ?_;refine jcd U (fun c63=> ?_) (fun c63=> ?_)
       ·skip
        refine rCt 9 U (Bg (rXt 2 U (Ai U (Ol U) ?_)))
        first|exact⟨_,⟨_,⟨rfl,fun h=>absurd h qde⟩,rfl⟩,by exact sbt⟩|exact⟨_,⟨_,⟨rfl,fun h=>absurd h (by assumption)⟩,rfl⟩,by exact sbt⟩
       ·have he0:=Classical.not_not.1 c63;refine rCt 5 U (y_ (Aw (T U) Al qom) ?_ U);refine rOt 2 U ?_;refine Au (i+1) ?_ ?_ ⟨qat,(by first|exact Aa U|(refine Cb (Aa U) (vint ?_);omega)),trivial⟩ (kg U) ?_
        ·refine⟨hi2,fun j hj=> ?_⟩
         by_cases e:j=i
         ·subst e;exact Gc (fun hk=>by exact he2 (by assumption)) (fun hk=>by(exact⟨hfd,by generalize ((2 ^ (fndFd fl (gd (prtO m) j).nm).1.w:Nat):Int)=P at *;omega⟩))
         ·exact hf j qom
        ·omega
        ·exact sbt
    ·refine kC tb 8 [0,5,6,7,63] rfl U ?_;refine jcd U (fun c63=> ?_) (fun c63=> ?_)
     ·skip
      refine rCt 9 U (Bg (rXt 2 U (Ai U (Ol U) ?_)))
      first|exact⟨_,⟨_,⟨rfl,fun h=>absurd h qde⟩,rfl⟩,by exact sbt⟩|exact⟨_,⟨_,⟨rfl,fun h=>absurd h (by assumption)⟩,rfl⟩,by exact sbt⟩
     ·have he0:=Classical.not_not.1 c63;refine rCt 5 U (y_ (Aw (T U) Al qom) ?_ U);refine rOt 2 U ?_;refine Au (i+1) ?_ ?_ ⟨qat,(by first|exact Aa U|(refine Cb (Aa U) (vint ?_);omega)),trivial⟩ (kg U) ?_
      ·refine⟨hi2,fun j hj=> ?_⟩
       by_cases e:j=i
       ·subst e;exact Gc (fun hk=>by exact he2 (by assumption)) (fun hk=>by first|(exact⟨hfd,by generalize ((2 ^ (fndFd fl (gd (prtO m) j).nm).1.w:Nat):Int)=P at *;omega⟩)|(exfalso;omega))
       ·exact hf j qom
      ·omega
      ·exact sbt
   ·refine rCt 7 U (y_ (Oo U U runUnderlying26 sizeOf28 qom (by first|exact rfl|exact hdA.b (i:=i) hi2)) ?_ U);refine rOt 1 U ?_;refine y_ (Om U isAgg3 (by first|exact c_o|exact(hdA.mono (by repeat (first|exact List.sublist_append_left _ _|refine List.Sublist.cons _ ?_))).cs (i:=i) hi2 0 _ U)) ?_ U;refine rOt 3 U ?_;refine jcd U (fun c41=> ?_) (fun c41=> ?_)
    ·refine rCt 5 U (y_ (Oo U U runUnderlying26 sizeOf28 qom (by first|exact rfl|exact hdA.b (i:=i) hi2)) ?_ U);refine rOt 1 U ?_;refine y_ (Om U isAgg9 (by first|exact c_o|exact(hdA.mono (by repeat (first|exact List.sublist_append_left _ _|refine List.Sublist.cons _ ?_))).cs (i:=i) hi2 6 _ U)) ?_ U;refine y_ (Ao (evq2 U U) call82 (fun H' hs=>Hn fl q c (hA.mono (stn hs)) qom (gd (prtO m) i).nm)) ?_ U;refine rOt 3 U (e_ (Ag zeroValue127 cs_) ?_ U);rintro _ _ ⟨n8,rfl,rfl⟩;refine Bo (Oq U U sizeOf127) U Ad ?_;rintro _ _ ⟨rfl,rfl⟩;refine kO tb 3 [0,5,6,7,8,9] rfl U (rGt 3 U ?_)
     first|refine A6 (Bt (T U)) U Ad ?_|refine A6 (Bq (T U)) U Ad ?_
     refine rOt 2 U ?_
     first|refine jcd U (fun c53=> ?_) (fun c53=> ?_)|refine jcn U (fun c53=> ?_) (fun c53=> ?_)
     ·skip
      refine rCt 10 U ?_;refine jcd U (fun c63=> ?_) (fun c63=> ?_)
      ·skip
       refine rCt 9 U (Bg (rXt 2 U (Ai U (Ol U) ?_)));exact⟨_,⟨_,⟨rfl,fun h=>absurd h qde⟩,rfl⟩,by exact sbt⟩
      ·have he0:=Classical.not_not.1 c63;refine rCt 5 U (y_ (Aw (T U) Al qom) ?_ U);refine rOt 2 U ?_;refine Au (i+1) ?_ ?_ ⟨qat,(by first|exact Aa U|(refine Cb (Aa U) (vint ?_);omega)),trivial⟩ (kg U) ?_
       ·refine⟨hi2,fun j hj=> ?_⟩
        by_cases e:j=i
        ·subst e;exact Gc (fun hk=>by first|exact he2 (by first|assumption|omega)|(exfalso;omega)) (fun hk=>by first|(exact⟨hfd,by generalize ((2 ^ (fndFd fl (gd (prtO m) j).nm).1.w:Nat):Int)=P at *;omega⟩)|(exfalso;omega))
        ·exact hf j qom
       ·omega
       ·exact sbt
     ·have hfd:(fndFd fl (gd (prtO m) i).nm).2=true:=by simpa using c53
      refine rCt 1 U (Bf 8 (plq8 []) ((n8,Cl (encF (fndFd fl (gd (prtO m) i).nm).1) 127)::(slH d ((prtO m).flatMap encPo) 28++((n3,Cl (encPo m) 28)::H))) mixd qkr sbt ?_ Bh);refine rPt 2 U (o_y U (Oo U U runUnderlying26 sizeOf28 qom (by first|exact rfl|exact hdA.b (i:=i) hi2)) ?_ U Ad);refine rPt 1 U ?_;refine o_y U (Om U isAgg3 (by first|exact c_o|exact(hdA.mono (by repeat (first|exact List.sublist_append_left _ _|refine List.Sublist.cons _ ?_))).cs (i:=i) hi2 7 _ U)) ?_ U Ad;refine o_y U (On U isAgg127 sizeOf127 U qcs) ?_ U Ad;refine o_y U (Ao (evq1 U) call112 (fun H' hs=>Gk _ (hfl.all _ (Da hfd)).w16)) (rPt 1 U (Av U (rOt 2 U ?_))) U Ad;refine jcd U (fun c61=> ?_) (fun c61=> ?_)
      ·refine rCt 10 U ?_;refine jcd U (fun c63=> ?_) (fun c63=> ?_)
       ·skip
        refine rCt 9 U (Bg (rXt 2 U (Ai U (Ol U) ?_)));exact⟨_,⟨_,⟨rfl,fun h=>absurd h qde⟩,rfl⟩,by exact sbt⟩
       ·have he0:=Classical.not_not.1 c63;refine rCt 5 U (y_ (Aw (T U) Al qom) ?_ U);refine rOt 2 U ?_;refine Au (i+1) ?_ ?_ ⟨qat,(by first|exact Aa U|(refine Cb (Aa U) (vint ?_);omega)),trivial⟩ (kg U) ?_
        ·refine⟨hi2,fun j hj=> ?_⟩
         by_cases e:j=i
         ·subst e;exact Gc (fun hk=>by first|exact he2 (by first|assumption|omega)|(exfalso;omega)) (fun hk=>by(exact⟨hfd,by generalize ((2 ^ (fndFd fl (gd (prtO m) j).nm).1.w:Nat):Int)=P at *;omega⟩))
         ·exact hf j qom
        ·omega
        ·exact sbt
      ·refine rCt 8 U ?_;refine jcd U (fun c63=> ?_) (fun c63=> ?_)
       ·skip
        refine rCt 9 U (Bg (rXt 2 U (Ai U (Ol U) ?_)))
        first|exact⟨_,⟨_,⟨rfl,fun h=>absurd h qde⟩,rfl⟩,by exact sbt⟩|exact⟨_,⟨_,⟨rfl,fun h=>absurd h (by assumption)⟩,rfl⟩,by exact sbt⟩
       ·have he0:=Classical.not_not.1 c63;refine rCt 5 U (y_ (Aw (T U) Al qom) ?_ U);refine rOt 2 U ?_;refine Au (i+1) ?_ ?_ qkg (kg U) ?_
        ·refine⟨hi2,fun j hj=> ?_⟩
         by_cases e:j=i
         ·subst e;exact Gc (fun hk=>by first|exact he2 (by first|assumption|omega)|(exfalso;omega)) (fun hk=>by(exact⟨hfd,by generalize ((2 ^ (fndFd fl (gd (prtO m) j).nm).1.w:Nat):Int)=P at *;omega⟩))
         ·exact hf j qom
        ·omega
        ·exact sbt
    ·refine rCt 8 U ?_;refine jcd U (fun c63=> ?_) (fun c63=> ?_)
     ·skip
      refine rCt 9 U (Bg (rXt 2 U (Ai U (Ol U) ?_)))
      first|exact⟨_,⟨_,⟨rfl,fun h=>absurd h qde⟩,rfl⟩,by exact sbt⟩|exact⟨_,⟨_,⟨rfl,fun h=>absurd h (by assumption)⟩,rfl⟩,by exact sbt⟩
     ·have he0:=Classical.not_not.1 c63;refine rCt 5 U (y_ (Aw (T U) Al qom) ?_ U);refine rOt 2 U ?_;refine Au (i+1) ?_ ?_ qkg (kg U) ?_
      ·refine⟨hi2,fun j hj=> ?_⟩
       by_cases e:j=i
       ·subst e;exact Gc (fun hk=>by first|exact he2 (by first|assumption|omega)|(exfalso;omega)) (fun hk=>by first|(exact⟨hfd,by generalize ((2 ^ (fndFd fl (gd (prtO m) j).nm).1.w:Nat):Int)=P at *;omega⟩)|(exfalso;omega))
       ·exact hf j qom
      ·omega
      ·exact sbt
  ·obtain rfl:i=(prtO m).length:=by have h9: ¬ ((i:Nat):Int)<((prtO m).length:Nat):=c20;omega
   refine rCt 2 U (An (rXt 8 U (Ai U (Ol U) ?_)))
   first|exact⟨_,⟨_,⟨rfl,fun h=>absurd h qde⟩,rfl⟩,by exact sbt⟩|exact⟨_,⟨_,⟨rfl,fun h=>absurd h (by assumption)⟩,rfl⟩,by exact sbt⟩|exact⟨_,⟨0,⟨rfl,fun _=>⟨hnd,hfo,Jp hf⟩⟩,rfl⟩,by exact sbt⟩
theorem field84 (a:Nat)(d:Int)(w:World):(Instr.field 122 (szV a d) 0).run prog w= .ok (Vi (a:Nat)) w:=by kernel_rfl
structure Fi where
 nm:ByteArray
 pos:Int
 w:Int
instance:Inhabited Fi:=⟨⟨default,0,0⟩⟩
abbrev encFi (f:Fi):List Value:=[.string f.nm,Vi f.pos,Vi f.w]
structure PlOk (f:Fi):Prop where
 w1:1<=f.w
 w16:f.w<=16
 a1:16<=f.pos
 a2:f.pos<=143
 fit:f.pos % 16+f.w<=16
def Dj (f g:Fi):Prop:=f.pos+f.w<=g.pos\/g.pos+g.w<=f.pos
structure FisOk (l:List Fi):Prop where
 few:l.length<=16
 pl:∀ j,j<l.length->PlOk (gd l j)
 dj:∀ i j,i<j->j<l.length->Dj (gd l i) (gd l j)
def Fi.fd (f:Fi):Fd:=⟨f.nm,f.pos.toNat,f.w.toNat⟩
theorem FisOk.fl {l:List Fi}(h:FisOk l):FlOk (l.map Fi.fd):=by
 have hall:∀ f∈l,PlOk f:=Jp h.pl;refine⟨fun f hf=> ?_,?_,by rw[List.length_map];exact h.few⟩
 ·obtain⟨g,hg,rfl⟩:=List.mem_map.1 hf;have p:=hall g hg;obtain⟨p1,p2,p3,p4,p5⟩:=p;obtain⟨nm,pos,w⟩:=g
  dsimp only at p1 p2 p3 p4 p5
  obtain⟨a,rfl⟩:=Int.eq_ofNat_of_zero_le (show 0<=pos by omega);obtain⟨b,rfl⟩:=Int.eq_ofNat_of_zero_le (show 0<=w by omega);refine⟨⟨?_,?_,?_,?_⟩,?_,?_⟩<;>dsimp only[Fi.fd]<;>simp only[Int.toNat_natCast]<;>omega
 ·rw[List.pairwise_map,List.pairwise_iff_getElem];intro i j hi hj hij;have hd:=h.dj i j hij hj;have p:=h.pl i hi;have q:=h.pl j hj;rw[Ar hi] at hd p;rw[Ar hj] at hd q
  revert hd p q
  generalize l[i]=f
  generalize l[j]=g;intro hd p q;obtain⟨p1,p2,p3,p4,p5⟩:=p;obtain⟨q1,q2,q3,q4,q5⟩:=q;unfold Dj at hd
  dsimp only[Fi.fd]
  omega
theorem FisOk.enc {l:List Fi}(h:FisOk l):l.map encFi=(l.map Fi.fd).map encF:=by
 have hall:∀ f∈l,PlOk f:=Jp h.pl;rw[List.map_map];refine List.map_congr_left fun f hf=> ?_
 have p:=hall f hf;obtain⟨p1,p2,p3,p4,p5⟩:=p;obtain⟨nm,pos,w⟩:=f
 dsimp only at p1 p2 p3 p4 p5
 obtain⟨a,rfl⟩:=Int.eq_ofNat_of_zero_le (show 0<=pos by omega);obtain⟨b,rfl⟩:=Int.eq_ofNat_of_zero_le (show 0<=w by omega)
 rfl
theorem fname_s (s:ByteArray)(hs9:s.size<=9223372036854775807):
  FSpec prog w0 120 #[.string s] H (SomB H):=by
 refine Am func120 U ntmps120 U (rDt 12 U ?_);refine A8 (X:=Nat) (V:=fun i=>[(3,Vi (i:Nat))]) (C:=[(0,_)]) (G:=fun i=>H) (φ:=fun i=>i<=s.size) (μ:=fun i=>s.size - i) (x0:=0) ?_ (kg U) qkg sb0 ?_
 ·exact Nat.zero_le _
 rintro i hi;refine rDt 5 U (y_ (Fo (T U) runUnderlying9) (rOt 3 U ?_) U);refine jcd U (fun c9=> ?_) (fun c9=> ?_)
 ·refine rCt 4 U ?_;refine Fl (X:=Bool) (V:=fun b4=>[(4, .bool b4)]) (C:=[(0,_),(3,_)]) (φ:=fun b4=>True) (kg U) ?_ ?_
  ·refine rDt 3 U (y_ (F2 (T U) (T U) runUnderlying9 (by have h9:((i:Nat):Int)<(s.size:Nat):=c9;omega)) ?_ U);refine rOt 2 U ?_;refine Aq (s:=16) (Aa U) (fun c16=> ?_) (fun c16=> ?_)
   ·refine rOt 2 U (A6 (F2 (T U) (T U) runUnderlying9 (by have h9:((i:Nat):Int)<(s.size:Nat):=c9;omega)) U (A7 U U (Aa U)) ?_);refine rOt 4 U ?_;refine Be (_) ?_ qkg (kg U) sbt
    trivial
   ·refine rOt 7 U ?_;refine Be (_) ?_ qkg (kg U) sbt
    trivial
  rintro b4 _;refine Fl (X:=Bool) (V:=fun b5=>[(5, .bool b5)]) (C:=[(0,_),(3,_),(4,_)]) (φ:=fun b5=>True) (kg U) ?_ ?_
  ·refine rDt 3 U (y_ (F2 (T U) (T U) runUnderlying9 (by have h9:((i:Nat):Int)<(s.size:Nat):=c9;omega)) ?_ U);refine rOt 2 U ?_;refine Aq (s:=26) (Aa U) (fun c26=> ?_) (fun c26=> ?_)
   ·refine rOt 2 U (A6 (F2 (T U) (T U) runUnderlying9 (by have h9:((i:Nat):Int)<(s.size:Nat):=c9;omega)) U (A7 U U (Aa U)) ?_);refine rOt 3 U ?_;refine Aq (s:=32) (Aa U) (fun c32=> ?_) (fun c32=> ?_)
    ·refine rOt 7 U ?_;refine Be (_) ?_ qkg (kg U) sbt
     trivial
    ·refine rOt 2 U (A6 (F2 (T U) (T U) runUnderlying9 (by have h9:((i:Nat):Int)<(s.size:Nat):=c9;omega)) U (A7 U U (Aa U)) ?_);refine rOt 4 U ?_;refine Be (_) ?_ qkg (kg U) sbt
     trivial
   ·refine rOt 8 U (A6 (F2 (T U) (T U) runUnderlying9 (by have h9:((i:Nat):Int)<(s.size:Nat):=c9;omega)) U (A7 U U (Aa U)) ?_);refine rOt 4 U ?_;refine Be (_) ?_ qkg (kg U) sbt
    trivial
  rintro b5 _;refine rCt 3 U ?_
  first|refine A6 (Bt (T U)) U Ad ?_|refine A6 (Bq (T U)) U Ad ?_
  refine rOt 1 U ?_
  first|refine Aq (s:=40) (Aa U) (fun c40=> ?_) (fun c40=> ?_)|refine C0 (s:=40) (Aa U) (fun c40=> ?_) (fun c40=> ?_)
  ·refine rOt 1 U ?_
   first|refine A6 (Bt (T U)) U (A7 U U (Aa U)) ?_|refine A6 (Bq (T U)) U (A7 U U (Aa U)) ?_
   refine rOt 1 U ?_
   first|refine Aq (s:=43) (Aa U) (fun c43=> ?_) (fun c43=> ?_)|refine C0 (s:=43) (Aa U) (fun c43=> ?_) (fun c43=> ?_)
   ·refine rOt 15 U (Bg (rXt 2 U (Ai U (Ol U) ?_)));exact⟨_,⟨_,rfl,rfl⟩,sbt⟩
   ·refine rOt 6 U ?_;refine jcd U (fun c47=> ?_) (fun c47=> ?_)
    ·refine rCt 8 U (Bg (rXt 2 U (Ai U (Ol U) ?_)));exact⟨_,⟨_,rfl,rfl⟩,sbt⟩
    ·refine rCt 5 U (y_ (Aw (T U) Al (by have h9:((i:Nat):Int)<(s.size:Nat):=c9;omega)) ?_ U);refine rOt 2 U ?_;refine Au (i+1) ?_ ?_ qkg (kg U) ?_
     ·have h9:((i:Nat):Int)<(s.size:Nat):=c9;omega
     ·have h9:((i:Nat):Int)<(s.size:Nat):=c9;omega
     ·exact sbt
  ·refine rOt 15 U (y_ (Aw (T U) Al (by have h9:((i:Nat):Int)<(s.size:Nat):=c9;omega)) ?_ U);refine rOt 2 U ?_;refine Au (i+1) ?_ ?_ qkg (kg U) ?_
   ·have h9:((i:Nat):Int)<(s.size:Nat):=c9;omega
   ·have h9:((i:Nat):Int)<(s.size:Nat):=c9;omega
   ·exact sbt
 ·refine rCt 2 U (An (rXt 5 U (y_ (Fo (T U) runUnderlying9) (rOt 2 U ?_) U)));refine Aq (s:=51) (Aa U) (fun c51=> ?_) (fun c51=> ?_)
  ·refine rOt 1 U (A6 (Fo (T U) runUnderlying9) U (A7 U U (Aa U)) (rOt 6 U (Ai U (Ol U) ?_)));exact⟨_,⟨_,rfl,rfl⟩,sbt⟩
  ·refine rOt 8 U (Ai U (Ol U) ?_);exact⟨_,⟨_,rfl,rfl⟩,sbt⟩
theorem place_s (f:Fi):
  FSpec prog w0 121 #[.agg (encFi f).toArray] H (SayB (PlOk f) H):=by
 refine Am func121 U ntmps121 U (rDt 2 U (e_ (Ot U cs_) ?_ U));rintro _ _ ⟨n1,rfl,rfl⟩;refine rOt 6 U (y_ (Om U isAgg3 qco) ?_ U);refine rOt 2 U ?_;refine Aq (s:=6) (Aa U) (fun c6=> ?_) (fun c6=> ?_)
 ·refine rOt 1 U (A6 (Om U isAgg3 qco) U (A7 U U (Aa U)) ?_);refine rOt 3 U ?_;refine Aq (s:=11) (Aa U) (fun c11=> ?_) (fun c11=> ?_)
  ·refine rOt 1 U (A6 (Om U isAgg3 qco) U (A7 U U (Aa U)) ?_);refine rOt 3 U ?_;refine Aq (s:=16) (Aa U) (fun c16=> ?_) (fun c16=> ?_)
   ·refine rOt 1 U (A6 (Om U isAgg3 qco) U (A7 U U (Aa U)) ?_);refine rOt 3 U ?_;refine Aq (s:=21) (Aa U) (fun c21=> ?_) (fun c21=> ?_)
    ·refine rOt 1 U (A6 (Om U isAgg3 qco) U (A7 U U (Aa U)) ?_);refine A6 (Mj (T U) Al qom) U (A7 U U (Aa U)) ?_;refine rOt 1 U (A6 (Om U isAgg3 qco) U (A7 U U (Aa U)) ?_);refine A6 (Aw (T U) (T U) qom) U (A7 U U (Aa U)) ?_;refine kO tb 5 [2] rfl U (rGt 1 U (Ai U (Ol U) ?_))
     first|exact⟨_,⟨false,⟨rfl,fun h=>by cases h⟩,rfl⟩,sbt⟩|exact⟨_,⟨_,⟨rfl,fun h=>⟨by omega,by omega,by omega,by omega,of_decide_eq_true h⟩⟩,rfl⟩,sbt⟩
    ·refine kO tb 11 [2] rfl U (rGt 1 U (Ai U (Ol U) ?_));exact⟨_,⟨false,⟨rfl,fun h=>by cases h⟩,rfl⟩,sbt⟩
   ·refine kO tb 16 [2] rfl U (rGt 1 U (Ai U (Ol U) ?_));exact⟨_,⟨false,⟨rfl,fun h=>by cases h⟩,rfl⟩,sbt⟩
  ·refine kO tb 21 [2] rfl U (rGt 1 U (Ai U (Ol U) ?_));exact⟨_,⟨false,⟨rfl,fun h=>by cases h⟩,rfl⟩,sbt⟩
 ·refine kO tb 26 [2] rfl U (rGt 1 U (Ai U (Ol U) ?_));exact⟨_,⟨false,⟨rfl,fun h=>by cases h⟩,rfl⟩,sbt⟩
theorem common_s (f g:Fi)(hf:PlOk f)(hg:PlOk g):
  FSpec prog w0 122 #[.agg (encFi f).toArray, .agg (encFi g).toArray] H (fun u H'=>∃ b:Bool,(u= .bool b/\(b=false->Dj f g))/\H'=H):=by
 refine Am func122 U ntmps122 U ?_;obtain⟨f1,f2,f3,f4,f5⟩:=hf;obtain⟨g1,g2,g3,g4,g5⟩:=hg;refine rDt 2 U (e_ (Ot U cs_) ?_ U);rintro _ _ ⟨n2,rfl,rfl⟩;refine e_ (Ot U cs_) ?_ U;rintro _ _ ⟨n3,rfl,rfl⟩;refine rOt 6 U (y_ (Om U isAgg3 qco) ?_ U);refine rOt 1 U (y_ (Om U isAgg3 qco) ?_ U);refine rOt 1 U (y_ (Om U isAgg3 qco) ?_ U);refine y_ (Aw (T U) (T U) qom) ?_ U;refine rOt 2 U ?_;refine Aq (s:=13) (Aa U) (fun c13=> ?_) (fun c13=> ?_)
 ·refine rOt 1 U (A6 (Om U isAgg3 qco) U (A7 U U (Aa U)) ?_);refine rOt 1 U (A6 (Om U isAgg3 qco) U (A7 U U (Aa U)) ?_);refine rOt 1 U (A6 (Om U isAgg3 qco) U (A7 U U (Aa U)) ?_);refine A6 (Aw (T U) (T U) qom) U (A7 U U (Aa U)) ?_;refine rOt 6 U (Ai U (Ol U) ?_)
  first|exact⟨_,⟨_,⟨rfl,fun h=>by unfold Dj;omega⟩,rfl⟩,sbt⟩|exact⟨_,⟨_,⟨rfl,fun h=>by unfold Dj;have h9:=of_decide_eq_false h;omega⟩,rfl⟩,sbt⟩
 ·refine rOt 13 U (Ai U (Ol U) ?_);exact⟨_,⟨_,⟨rfl,fun h=>by unfold Dj;omega⟩,rfl⟩,sbt⟩
theorem check_s (fl:List Fi)(q:Option Addr)(c:Nat)(hA:Arr w0 H q 3 encFi fl)(hnm:∀ f∈fl,f.nm.size<=9223372036854775807):
  FSpec prog w0 76 #[.slice q fl.length c] H (SayE (FisOk fl) H):=by
 refine Am func76 U ntmps76 U (rDt 13 U ?_);refine jcd U (fun c11=> ?_) (fun c11=> ?_)
 ·skip
  refine rCt 7 U (Ai U (Ol U) ?_);exact⟨_,⟨_,⟨rfl,fun h=>absurd h qde⟩,rfl⟩,sbt⟩
 ·have hfew:fl.length<=16:=by have h9: ¬ ((fl.length:Nat):Int)>16:=c11;omega
  refine rCt 9 U ?_;refine A8 (X:=Nat) (V:=fun k=>[(3,Vi (k:Nat))]) (C:=[(0,_)]) (G:=fun k=>H) (φ:=fun k=>k<=fl.length/\(∀ j,j<k->PlOk (gd fl j))/\∀ a b,a<b->b<k->Dj (gd fl a) (gd fl b)) (μ:=fun k=>fl.length - k) (x0:=0) ?_ (kg U) qkg sb0 ?_
  ·exact⟨Nat.zero_le _,fun j hj=>absurd hj (Nat.not_lt_zero _),fun a b _ hj=>absurd hj (Nat.not_lt_zero _)⟩
  rintro k ⟨hk,hpl,hdj⟩;refine rDt 9 U ?_;refine jcd U (fun c15=> ?_) (fun c15=> ?_)
  ·have hk2:k<fl.length:=by have h9:((k:Nat):Int)<(fl.length:Nat):=c15;omega
   refine rCt 8 U (y_ (Oo U U runUnderlying22 sizeOf127 qom (by first|exact rfl|exact(hA k (gd fl k) (Cy qom)).1)) ?_ U);refine rOt 1 U (y_ (Om U isAgg9 (by first|exact c_o|exact(hA.mono sbt).cs (i:=k) qom 0 _ U)) ?_ U);refine e_ (Ah (evq1 U) call120 (fname_s (gd fl k).nm (hnm _ (Ax qom)))) ?_ U;rintro _ _ ⟨b1,rfl,hh⟩;obtain rfl:=hh.symm;refine rOt 7 U ?_
   first|refine A6 (Bt (T U)) U Ad ?_|refine A6 (Bq (T U)) U Ad ?_
   refine rOt 1 U ?_
   first|refine Aq (s:=26) (Aa U) (fun c26=> ?_) (fun c26=> ?_)|refine C0 (s:=26) (Aa U) (fun c26=> ?_) (fun c26=> ?_)
   ·refine rOt 19 U (Bg (rXt 2 U (Ai U (Ol U) ?_)));exact⟨_,⟨_,⟨rfl,fun h=>absurd h qde⟩,rfl⟩,sbt⟩
   ·refine rOt 2 U (A6 (Oo U U runUnderlying22 sizeOf127 qom (by first|exact rfl|exact(hA k (gd fl k) (Cy qom)).1)) U (A7 U U (Aa U)) ?_);refine rOt 1 U (A6 (Om U isAgg9 (by first|exact c_o|exact(hA.mono sbt).cs (i:=k) qom 0 _ U)) U (A7 U U (Aa U)) ?_);refine A6 (Eu (T U) Al) U (A7 U U (Aa U)) (rOt 3 U ?_);refine jcd U (fun c33=> ?_) (fun c33=> ?_)
    ·refine rCt 9 U (Bg (rXt 2 U (Ai U (Ol U) ?_)));exact⟨_,⟨_,⟨rfl,fun h=>absurd h qde⟩,rfl⟩,sbt⟩
    ·refine rCt 9 U ?_;refine A8 (X:=Nat) (V:=fun i=>[(5,Vi (i:Nat))]) (C:=[(0,_),(3,_)]) (G:=fun i=>H) (φ:=fun i=>i<=k) (μ:=fun i=>k - i) (x0:=0) ?_ (kg U) qkg sb0 ?_
     ·exact Nat.zero_le _
     rintro i hi;refine rDt 8 U ?_;refine jcd U (fun c36=> ?_) (fun c36=> ?_)
     ·have hi2:i<k:=by have h9:((i:Nat):Int)<(k:Nat):=c36;omega
      refine rCt 5 U (Bf 11 (plq11 []) _ mixd qkr sb0 ?_ Bh);refine rPt 2 U (o_y U (Oo U U runUnderlying22 sizeOf127 qom (by first|exact rfl|exact(hA k (gd fl k) (Cy qom)).1)) ?_ U Ad);refine rPt 1 U (o_y U (Om U isAgg9 (by first|exact c_o|exact(hA.mono sbt).cs (i:=i) qom 0 _ U)) ?_ U Ad);refine rPt 2 U (o_y U (Cd (T U) (T U) runUnderlying22 sizeOf127 qom (by first|exact rfl|exact(hA k (gd fl k) (Cy qom)).1)) ?_ U Ad);refine rPt 1 U (o_y U (Om U isAgg9 (by first|exact c_o|exact(hA.mono sbt).cs (i:=k) qom 0 _ U)) ?_ U Ad);refine o_y U (Eu (T U) (T U)) (Av U (rOt 2 U ?_)) U Ad;refine jcd U (fun c49=> ?_) (fun c49=> ?_)
      ·refine rCt 8 U (Bg (rXt 4 U (Bg (rXt 2 U (Ai U (Ol U) ?_)))));exact⟨_,⟨_,⟨rfl,fun h=>absurd h qde⟩,rfl⟩,sbt⟩
      ·refine rCt 5 U (y_ (Aw (T U) Al qom) ?_ U);refine rOt 2 U ?_;refine Au (i+1) ?_ ?_ qkg (kg U) ?_
       ·omega
       ·omega
       ·exact sbt
     ·skip
      refine rCt 2 U (An (rXt 6 U (y_ (Cd (T U) (T U) runUnderlying22 sizeOf127 qom (by first|exact rfl|exact(hA k (gd fl k) (Cy qom)).1)) ?_ U)));refine y_ (On U isAgg127 sizeOf127 U (by exact(hA.mono sbt).cs (i:=k) qom)) ?_ U;refine e_ (Ah (evq1 U) call121 (place_s (gd fl k))) ?_ U;rintro _ _ ⟨b2,⟨rfl,hp2⟩,hh⟩;obtain rfl:=hh.symm;refine rOt 7 U ?_
      first|refine A6 (Bt (T U)) U Ad ?_|refine A6 (Bq (T U)) U Ad ?_
      refine rOt 2 U ?_
      first|refine jcd U (fun c56=> ?_) (fun c56=> ?_)|refine jcn U (fun c56=> ?_) (fun c56=> ?_)
      ·skip
       refine rCt 9 U (Bg (rXt 2 U (Ai U (Ol U) ?_)));exact⟨_,⟨_,⟨rfl,fun h=>absurd h qde⟩,rfl⟩,sbt⟩
      ·have hpk:PlOk (gd fl k):=hp2 (by simpa using c56);refine rCt 8 U ?_;refine A8 (X:=Nat) (V:=fun i=>[(7,Vi (i:Nat))]) (C:=[(0,_),(3,_)]) (G:=fun i=>H) (φ:=fun i=>i<=k/\∀ j,j<i->Dj (gd fl j) (gd fl k)) (μ:=fun i=>k - i) (x0:=0) ?_ (kg U) qkg sb0 ?_
       ·exact⟨Nat.zero_le _,fun j hj=>absurd hj (Nat.not_lt_zero _)⟩
       rintro i ⟨hi,hdi2⟩;refine rDt 8 U ?_;refine jcd U (fun c59=> ?_) (fun c59=> ?_)
       ·have hi2:i<k:=by have h9:((i:Nat):Int)<(k:Nat):=c59;omega
        refine rCt 5 U (Bf 8 (plq8 []) _ mixd qkr sb0 ?_ Bh);refine rPt 2 U (o_y U (Oo U U runUnderlying22 sizeOf127 qom (by first|exact rfl|exact(hA k (gd fl k) (Cy qom)).1)) ?_ U Ad);refine o_y U (On U isAgg127 sizeOf127 U (by exact(hA.mono sbt).cs (i:=i) qom)) ?_ U Ad;refine rPt 2 U (o_y U (Cd (T U) (T U) runUnderlying22 sizeOf127 qom (by first|exact rfl|exact(hA k (gd fl k) (Cy qom)).1)) ?_ U Ad);refine o_y U (On U isAgg127 sizeOf127 U (by exact(hA.mono sbt).cs (i:=k) qom)) ?_ U Ad;refine Av U (e_ (Ah (evq2 U U) call122 (common_s (gd fl i) (gd fl k) (hpl i qom) hpk)) ?_ U);rintro _ _ ⟨b3,⟨rfl,hd3⟩,hh⟩;obtain rfl:=hh.symm;refine rOt 8 U ?_
        first|refine jcd U (fun c71=> ?_) (fun c71=> ?_)|refine jcn U (fun c71=> ?_) (fun c71=> ?_)
        ·skip
         refine rCt 8 U (Bg (rXt 3 U (Bg (rXt 2 U (Ai U (Ol U) ?_)))));exact⟨_,⟨_,⟨rfl,fun h=>absurd h qde⟩,rfl⟩,sbt⟩
        ·have hdi:Dj (gd fl i) (gd fl k):=hd3 (by simpa using c71);refine rCt 5 U (y_ (Aw (T U) Al qom) ?_ U);refine rOt 2 U ?_;refine Au (i+1) ?_ ?_ qkg (kg U) ?_
         ·refine⟨hi2,fun j hj=> ?_⟩
          by_cases e:j=i
          ·rw[e];exact hdi
          ·exact hdi2 j qom
         ·omega
         ·exact sbt
       ·obtain rfl:k=i:=by have h9: ¬ ((i:Nat):Int)<(k:Nat):=c59;omega
        refine rCt 2 U (An (rXt 5 U (y_ (Aw (T U) Al qom) ?_ U)));refine rOt 2 U ?_;refine Au (k+1) ?_ ?_ qkg (kg U) ?_
        ·refine⟨hk2,fun j hj=> ?_,fun a b hab hb=> ?_⟩
         ·by_cases e:j=k
          ·rw[e];exact hpk
          ·exact hpl j qom
         ·by_cases e:b=k
          ·rw[e];exact hdi2 a qom
          ·exact hdj a b hab qom
        ·omega
        ·exact sbt
  ·obtain rfl:k=fl.length:=by have h9: ¬ ((k:Nat):Int)<(fl.length:Nat):=c15;omega
   refine rCt 2 U (An (rXt 8 U (Ai U (Ol U) ?_)))
   first|exact⟨_,⟨_,⟨rfl,fun h=>absurd h qde⟩,rfl⟩,sbt⟩|exact⟨_,⟨0,⟨rfl,fun _=>⟨hfew,hpl,hdj⟩⟩,rfl⟩,sbt⟩
def exF:List Fd:=[⟨⟨#[100,115,116]⟩,16,8⟩,⟨⟨#[115,114,99]⟩,24,8⟩,⟨⟨#[107,105,110,100]⟩,33,3⟩]
theorem en_new {fl:List Fd}(hfl:FlOk fl){dx db:Sl}(hdx:SlOk dx fl.length 3)(hdb:SlOk db (bsF fl).length 1)(most:Int)(p m:Nat):En w0 (slH db ((bsF fl).flatMap encB1) 3++(slH dx (fl.flatMap encF) 127++H)) (NewD fl most dx db p m) fl:=
 ⟨B3 (w0:=w0) (e:=3) (enc:=encB1) (fun _=>rfl) hdb,Eg hfl,(B3 (w0:=w0) (e:=127) (X:=H) (enc:=encF) (fun _=>rfl) hdx).mono (List.sublist_append_right _ _),rfl,by have:=hfl.few;show fl.length<=1000000;omega⟩
theorem Cl'.trans {D:Hd->Hd->Prop}{h m g:Hd}(a:Cl' D h m)(b:Cl' D m g):Cl' D h g:=by
 induction a with
 |base=>exact b
 |step a _ ih=>exact .step a (ih b)
theorem Cl'.one {D:Hd->Hd->Prop}{h g:Hd}(a:D h g):Cl' D h g:= .step a (.base _)
section
variable {bs:List Nat} {t:Int} {x y z:Po}
variable {p q:Pd}
theorem G0 {f:Fd}{h:Hd}{n b:Nat}(hb:b<160):hbit (fset f h n) b=if f.pos<=b/\b<f.pos+f.w then n.testBit (f.pos+f.w - 1 - b) else hbit h b:=by
 unfold fset;exact Br _ hb
theorem fset_fset {f:Fd}{h:Hd}{n m:Nat}:fset f (fset f h n) m=fset f h m:=C5 (Bz _ _ _) (Bz _ _ _) fun b hb=>by
 rw[G0 hb,G0 hb,G0 hb]
 split<;>rfl
theorem fset_self {f:Fd}(hf:FdOk f){h:Hd}(hh:HdOk h):fset f h (fget f h)=h:=C5 (Bz _ _ _) hh fun b hb=>by
 rw[G0 hb]
 split
 ·rename_i h1;rw[Dg,decide_eq_true qom,Bool.true_and]
  congr 1;omega
 ·rfl
end
def bsE:List Nat:=[0,1,2,3,4,5,6,7,8,9,10,11,12,13,14,15,16,17,18,19,20,21,22,23,24,25,26,27,28,29,30,31,33,34,35]
abbrev exD:Fd:=⟨⟨#[100,115,116]⟩,16,8⟩
abbrev exS:Fd:=⟨⟨#[115,114,99]⟩,24,8⟩
abbrev exK:Fd:=⟨⟨#[107,105,110,100]⟩,33,3⟩
theorem raw_ex:rawF (portFd::exF)=bsE:=by kernel_rfl
theorem Bp:bsF exF=bsE:=by
 unfold bsF;rw[raw_ex];refine List.mergeSort_of_pairwise ?_;have:(bsE.Pairwise fun x y=>x<=y):=by unfold bsE;decide
 exact this.imp fun h=>decide_eq_true h
theorem Db:FlOk exF:=by
 refine⟨fun f hf=> ?_,by unfold exF;simp,by decide⟩;simp only[exF,List.mem_cons,List.not_mem_nil,or_false] at hf;rcases hf with rfl|rfl|rfl<;>exact⟨⟨by decide,by decide,by decide,by decide⟩,by decide,by decide⟩
theorem inD:FIn bsE exD:=Bp ▸ Jn Db (by unfold exF;simp)
theorem inK:FIn bsE exK:=Bp ▸ Jn Db (by unfold exF;simp)
theorem inS:FIn bsE exS:=Bp ▸ Jn Db (by unfold exF;simp)
def sQ (t:List Nat):Fs:=⟨4810363371590,2,0,t⟩
theorem rsQ (t:List Nat):Rs 70 (nsE 70) (sQ t):=⟨wf_E 70,rfl,by show 4810363371590<2 ^ (36*2);decide,fun i=>by
  match i with
  |0=>
   show gN 4810363371590 0=_
   rfl
  |1=>
   show gN 4810363371590 1=_
   rfl
  |i+2=>
   show gN 4810363371590 (i+2)=_;rw[gN_eq,Nat.div_eq_of_lt]
   ·rfl
   ·have:2 ^ (36*2)<=2 ^ (36*(i+2)):=Nat.pow_le_pow_right qde qom;exact Nat.lt_of_lt_of_le (by show 4810363371590<2 ^ (36*2);decide) this,fun i=>by
  match i with
  |0=>decide
  |1=>decide
  |i+2=>exact⟨by show (0:Nat)<128;decide,by show (0:Nat)<16384;decide,by show (0:Nat)<16384;decide⟩,fun x hx=>by cases hx⟩
noncomputable def rnC (N:Nat) (bs:List Nat) (f:Fd) (l:List (Nat × Nat)):FsT:=List.rec (motive:=fun _=>FsT) (fun s id=>some (id,s)) (fun x _ ih s id=>bO (stC (fun k=>mkP f x.2 (gd bs k)) (fun k=>vlP f x.1 x.2 (gd bs k)) bs.length s 1) fun y=>bO (apCA eOrC N y.2 id y.1) fun z=>ih z.2 z.1) l
noncomputable def truT (N:Nat) (bs:List Nat) (tick:Int):Pd->Fs->Option (Nat × Fs)
 | .tru,s=>some (1,s)
 | .fls,s=>some (0,s)
 | .eq f n,s=>stC (fun k=>mkP f f.w (gd bs k)) (fun k=>vlP f n f.w (gd bs k)) bs.length s 1
 | .no a,s=>bO (truT N bs tick a s) fun x=>apCA eNotC N x.2 x.1 x.1
 | .rng f n m,s=>rnC N bs f (rgF f.w m (m+1) n) s 0
 | .time n m,s=>some (if n<=tick/\tick<m then 1 else 0,s)
 |_,_=>none
noncomputable def polT (N:Nat) (bs:List Nat) (tick:Int) (r:Nat):Po->Fs->Option (Nat × Fs)
 | .fil p,s=>bO (truT N bs tick p s) fun x=>bO (rlC (fun _=>false) (fun _=>false) bs.length x.2 1) fun i=>apCA eAndC N i.2 x.1 i.1
 | .set f n,s=>rlC (fun k=>mkP f f.w (gd bs k)) (fun k=>vlP f n f.w (gd bs k)) bs.length s 1
 | .uni a b,s=>bO (polT N bs tick r a s) fun x=>bO (polT N bs tick r b x.2) fun y=>apCA eOrC N y.2 x.1 y.1
 | .seq a b,s=>bO (polT N bs tick r a s) fun x=>bO (polT N bs tick r b x.2) fun y=>seCA N y.2 x.1 y.1
 | .star a,s=>bO (polT N bs tick r a s) fun x=>bO (rlC (fun _=>false) (fun _=>false) bs.length x.2 1) fun i=>bO (apCA eOrC N i.2 i.1 x.1) fun o=>srC N r o.2 o.1
noncomputable def dmB (N:Nat) (ih:Kc->Fs->Nat->Option (Nat × Kc × Fs)):Kc->Fs->Nat->Option (Nat × Kc × Fs):=fun kc s a=>
 fz a fun a=>oC (lkC kc a) (fun id=>some (id,kc,s)) (bO (ih kc s (loC s a)) fun x=>bO (ih x.2.1 x.2.2 (hiC s a)) fun y=>bO (iB (Nat.beq (Nat.mod (lvC s a) 2) 0) (mkC y.2.2 (lvC s a) x.1 y.1) (apCA eOrC N y.2.2 x.1 y.1)) fun z=>some (z.1,(a,z.1)::y.2.1,z.2))
noncomputable def dmC (N k:Nat):Kc->Fs->Nat->Option (Nat × Kc × Fs):=Nat.rec (motive:=fun _=>Kc->Fs->Nat->Option (Nat × Kc × Fs)) (fun _ _ _=>none) (fun _ ih=>dmB N ih) k
theorem dmC_succ (N k:Nat)(kc:Kc)(s:Fs)(a:Nat):dmC N (k+1) kc s a=dmB N (dmC N k) kc s a:=rfl
noncomputable def domC (N:Nat) (bs:List Nat) (s:Fs) (a:Nat):Option (Nat × Fs):=bO (dmC N (N+1) [(0,0),(1,1)] s a) fun x=>bO (rlC (fun _=>false) (fun _=>false) bs.length x.2.2 1) fun i=>apCA eAndC N i.2 x.1 i.1
def Rd (kn:Kd) (kc:Kc):Prop:=∀ a,lkC kc a=look kn a
theorem rd_put {kn:Kd}{kc:Kc}(h:Rd kn kc)(a id:Nat):Rd (upsert kn a id) ((a,id)::kc):=fun b=>by
 rw[Dp];show iB (Nat.beq a b) (some id) (lkC kc b)=_;rw[C6]
 by_cases e:a=b
 ·subst e;rw[if_pos (nbeq.2 rfl),if_pos rfl]
 ·rw[if_neg (fun e2=>e (nbeq.1 e2)),if_neg e];exact h b
theorem rd_0:Rd [(0,0),(1,1)] [(0,0),(1,1)]:=fun a=>by
 rw[Dh,Dh];show iB (Nat.beq 0 a) (some 0) (iB (Nat.beq 1 a) (some 1) none)=_;simp only[C6,nbeq];rfl
section
variable {N most:Nat} {ns:Ns} {s:Fs} {bs:List Nat}
theorem dm_sim (hm:16384<=most)(hN:N<128):∀ (k:Nat) {kn:Kd} {kc kc':Kc} {ns:Ns} {s s':Fs} {a id:Nat},Rs N ns s->Rd kn kc->dmC N k kc s a=some (id,kc',s')->∃ kn' ms,dmF most k kn ns a=some (id,kn',ms)/\Rs N ms s'/\Rd kn' kc'
 |0,kn,kc,kc',ns,s,s',a,id,_,_,h=>by cases h
 |k+1,kn,kc,kc',ns,s,s',a,id,hs,hk,h=>by
  rw[dmC_succ] at h;unfold dmB at h;simp only[K7] at h;rw[hk a] at h;rw[dmF];cases h1:look kn a with
  |some i=>
   rw[h1] at h;obtain⟨rfl,h2⟩:=Prod.mk.inj (Option.some.inj h);obtain⟨rfl,rfl⟩:=Prod.mk.inj h2;exact⟨kn,ns,rfl,hs,hk⟩
  |none=>
   rw[h1,Lb,hs.lo,hs.hi,hs.lv] at h;obtain⟨⟨l,kc1,s1⟩,h3,h⟩:=A4 h;obtain⟨kn1,ns1,f1,hs1,hk1⟩:=dm_sim hm hN k hs hk h3;obtain⟨⟨r,kc2,s2⟩,h4,h⟩:=A4 h;obtain⟨kn2,ns2,f2,hs2,hk2⟩:=dm_sim hm hN k hs1 hk1 h4;simp only[] at h;obtain⟨⟨i,s3⟩,h5,h⟩:=A4 h;obtain⟨rfl,h6⟩:=Prod.mk.inj (Option.some.inj h);obtain⟨rfl,rfl⟩:=Prod.mk.inj h6;rw[C6,show Nat.mod (lvl ns a) 2=lvl ns a % 2 from rfl] at h5
   by_cases e:lvl ns a % 2=0
   ·rw[if_pos (nbeq.2 e)] at h5;obtain⟨ns3,f3,hs3⟩:=Hf hm hN hs2 h5;refine⟨_,ns3,?_,hs3,rd_put hk2 _ _⟩;simp only[f1,f2,f3];rw[if_pos e];rfl
   ·rw[if_neg (fun e2=>e (nbeq.1 e2))] at h5;obtain⟨ns3,f3,hs3⟩:=D2 hm hN J3 hs2 h5;refine⟨_,ns3,?_,hs3,rd_put hk2 _ _⟩;simp only[f1,f2];rw[if_neg e];unfold orF;rw[f3];rfl
theorem dom_sim (hm:16384<=most)(hN:N<128){s':Fs}{a id:Nat}(hs:Rs N ns s)(h:domC N bs s a=some (id,s')):∃ ms,domF most bs ns a=some (id,ms)/\Rs N ms s':=by
 obtain⟨⟨x,kc,s1⟩,h1,h⟩:=A4 h;obtain⟨kn,ns1,f1,hs1,_⟩:=dm_sim hm hN _ hs rd_0 h1;obtain⟨⟨i,s2⟩,h2,h⟩:=A4 h;obtain⟨ns2,f2,hs2⟩:=Jl hm hN _ _ _ hs1 h2;obtain⟨ns3,f3,hs3⟩:=D2 hm hN eAnd_C hs2 h;refine⟨ns3,?_,hs3⟩;unfold domF;rw[hs.w.lv0,f1];show filF most bs ns1 x=_;unfold filF relF;simp only[f2];exact f3
theorem rn_sim (hm:16384<=most)(hN:N<128)(f:Fd):∀ (l:List (Nat × Nat)) {ns:Ns} {s s':Fs} {i id:Nat},Rs N ns s->rnC N bs f l s i=some (id,s')->∃ ms,rnF most bs f l ns i=some (id,ms)/\Rs N ms s'
 |[],ns,s,s',i,id,hs,h=>by
  obtain⟨rfl,rfl⟩:=Prod.mk.inj (Option.some.inj h);exact⟨ns,rfl,hs⟩
 |x::l,ns,s,s',i,id,hs,h=>by
  have h:(bO (stC (fun k=>mkP f x.2 (gd bs k)) (fun k=>vlP f x.1 x.2 (gd bs k)) bs.length s 1) fun y=>bO (apCA eOrC N y.2 i y.1) fun z=>rnC N bs f l z.2 z.1)=some (id,s'):=h;obtain⟨⟨y,s1⟩,h1,h⟩:=A4 h;obtain⟨ns1,f1,hs1⟩:=Lw hm hN _ _ _ hs h1;obtain⟨⟨z,s2⟩,h2,h⟩:=A4 h;obtain⟨ns2,f2,hs2⟩:=D2 hm hN J3 hs1 h2;obtain⟨ns3,f3,hs3⟩:=rn_sim hm hN f l hs2 h;refine⟨ns3,?_,hs3⟩;rw[rnF];unfold setPF setF orF;simp only[f1,f2];exact f3
theorem truT_sim (hm:16384<=most)(hN:N<128)(tick:Int):∀ (p:Pd) {ns:Ns} {s s':Fs} {id:Nat},Rs N ns s->truT N bs tick p s=some (id,s')->∃ ms,truF most bs tick p ns=some (id,ms)/\Rs N ms s'
 | .tru,ns,s,s',id,hs,h=>by
  obtain⟨rfl,rfl⟩:=Prod.mk.inj (Option.some.inj h);exact⟨ns,rfl,hs⟩
 | .fls,ns,s,s',id,hs,h=>by
  obtain⟨rfl,rfl⟩:=Prod.mk.inj (Option.some.inj h);exact⟨ns,rfl,hs⟩
 | .eq f n,ns,s,s',id,hs,h=>Lw hm hN _ _ _ hs h
 | .no a,ns,s,s',id,hs,h=>by
  have h:(bO (truT N bs tick a s) fun x=>apCA eNotC N x.2 x.1 x.1)=some (id,s'):=h;obtain⟨⟨x,s1⟩,h1,h⟩:=A4 h;obtain⟨ns1,f1,hs1⟩:=truT_sim hm hN tick a hs h1;obtain⟨ns2,f2,hs2⟩:=D2 hm hN eNot_C hs1 h;exact⟨ns2,by rw[truF,f1];exact f2,hs2⟩
 | .rng f n m,ns,s,s',id,hs,h=>rn_sim hm hN f _ hs h
 | .time n m,ns,s,s',id,hs,h=>by
  obtain⟨rfl,rfl⟩:=Prod.mk.inj (Option.some.inj h);exact⟨ns,rfl,hs⟩
 | .pre ..,_,_,_,_,_,h=>by cases h
 | .and ..,_,_,_,_,_,h=>by cases h
 | .or ..,_,_,_,_,_,h=>by cases h
theorem Bv (hm:16384<=most)(hN:N<128)(tick:Int)(r:Nat):∀ (p:Po) {ns:Ns} {s s':Fs} {id:Nat},Rs N ns s->polT N bs tick r p s=some (id,s')->∃ ms,polF most bs tick r p ns=some (id,ms)/\Rs N ms s'
 | .fil p,ns,s,s',id,hs,h=>by
  have h:(bO (truT N bs tick p s) fun x=>bO (rlC (fun _=>false) (fun _=>false) bs.length x.2 1) fun i=>apCA eAndC N i.2 x.1 i.1)=some (id,s'):=h;obtain⟨⟨x,s1⟩,h1,h⟩:=A4 h;obtain⟨ns1,f1,hs1⟩:=truT_sim hm hN tick p hs h1;obtain⟨⟨i,s2⟩,h2,h⟩:=A4 h;obtain⟨ns2,f2,hs2⟩:=Jl hm hN _ _ _ hs1 h2;obtain⟨ns3,f3,hs3⟩:=D2 hm hN eAnd_C hs2 h;exact⟨ns3,by rw[polF,f1];show filF most bs ns1 x=_;unfold filF relF;simp only[f2];exact f3,hs3⟩
 | .set f n,ns,s,s',id,hs,h=>Jl hm hN _ _ _ hs h
 | .uni a b,ns,s,s',id,hs,h=>by
  have h:(bO (polT N bs tick r a s) fun x=>bO (polT N bs tick r b x.2) fun y=>apCA eOrC N y.2 x.1 y.1)=some (id,s'):=h;obtain⟨⟨x,s1⟩,h1,h⟩:=A4 h;obtain⟨ns1,f1,hs1⟩:=Bv hm hN tick r a hs h1;obtain⟨⟨y,s2⟩,h2,h⟩:=A4 h;obtain⟨ns2,f2,hs2⟩:=Bv hm hN tick r b hs1 h2;obtain⟨ns3,f3,hs3⟩:=D2 hm hN J3 hs2 h;exact⟨ns3,by rw[polF];simp only[f1,f2];exact f3,hs3⟩
 | .seq a b,ns,s,s',id,hs,h=>by
  have h:(bO (polT N bs tick r a s) fun x=>bO (polT N bs tick r b x.2) fun y=>seCA N y.2 x.1 y.1)=some (id,s'):=h;obtain⟨⟨x,s1⟩,h1,h⟩:=A4 h;obtain⟨ns1,f1,hs1⟩:=Bv hm hN tick r a hs h1;obtain⟨⟨y,s2⟩,h2,h⟩:=A4 h;obtain⟨ns2,f2,hs2⟩:=Bv hm hN tick r b hs1 h2;obtain⟨ns3,f3,hs3⟩:=Hg hm hN hs2 h;exact⟨ns3,by rw[polF];simp only[f1,f2];exact f3,hs3⟩
 | .star a,ns,s,s',id,hs,h=>by
  have h:(bO (polT N bs tick r a s) fun x=>bO (rlC (fun _=>false) (fun _=>false) bs.length x.2 1) fun i=>bO (apCA eOrC N i.2 i.1 x.1) fun o=>srC N r o.2 o.1)=some (id,s'):=h;obtain⟨⟨x,s1⟩,h1,h⟩:=A4 h;obtain⟨ns1,f1,hs1⟩:=Bv hm hN tick r a hs h1;obtain⟨⟨i,s2⟩,h2,h⟩:=A4 h;obtain⟨ns2,f2,hs2⟩:=Jl hm hN _ _ _ hs1 h2;obtain⟨⟨o,s3⟩,h3,h⟩:=A4 h;obtain⟨ns3,f3,hs3⟩:=D2 hm hN J3 hs2 h3;obtain⟨ns4,f4,hs4⟩:=sr_sim hm hN r hs3 h;refine⟨ns4,?_,hs4⟩;rw[polF];simp only[f1];unfold starF relF orF;simp only[f2,f3];exact f4
end
theorem arrPo2 {w0:World}{n:Nat}{a b:Pom}{t:TypeId}{H:Mm}(hf:Fnd H n (Cl (encPo a++encPo b) t)):Arr w0 H (some ⟨n,0,none⟩) 9 encPo [a,b]:=fun j x hj=>by
 refine⟨rfl,fun k v hk=> ?_⟩
 match j,hj with
 |0,hj=>
  have:a=x:=by simpa using hj
  subst this;exact Eb hf (by show (encPo a++encPo b)[0+0*9+k]? =some v;rw[show (0:Nat)+0*9+k=k by omega,List.getElem?_append_left (by exact(List.getElem?_eq_some_iff.1 hk).1)];exact hk)
 |1,hj=>
  have:b=x:=by simpa using hj
  subst this;exact Eb hf (by show (encPo a++encPo b)[0+1*9+k]? =some v;rw[show (0:Nat)+1*9+k=(encPo a).length+k by show 0+1*9+k=9+k;omega,List.getElem?_append_right qom,Nat.add_sub_cancel_left];exact hk)
abbrev nD:ByteArray:=⟨#[100,115,116]⟩
abbrev nK:ByteArray:=⟨#[107,105,110,100]⟩
abbrev mSet (nm:ByteArray) (n:Int):Pom:= .mk 2 pd0 nm n none 0 []
abbrev mFil (m:Pdm):Pom:= .mk 1 m ⟨#[]⟩ 0 none 0 []
abbrev mEq (nm:ByteArray) (n:Int):Pdm:= .mk 3 nm n 0 none 0 []
abbrev mNo (b:Nat) (m:Pdm):Pdm:= .mk 6 ⟨#[]⟩ 0 0 (some ⟨b,0,none⟩) 1 [m]
abbrev mTru:Pdm:= .mk 1 ⟨#[]⟩ 0 0 none 0 []
abbrev mOp2 (k:Int) (b:Nat) (x y:Pom):Pom:= .mk k pd0 ⟨#[]⟩ 0 (some ⟨b,0,none⟩) 2 [x,y]
section
variable {w0:World} {H R:Mm}
theorem C4 {k:Int}{b:Nat}{x y:Pom}(hf:Fnd R b (Cl (encPo x++encPo y) 28))(hx:PoM w0 R x)(hy:PoM w0 R y):PoM w0 R (mOp2 k b x y):= .mk C2 (arrPo2 hf) fun a ha=>by
 simp only[List.mem_cons,List.not_mem_nil,or_false] at ha;rcases ha with rfl|rfl
 ·exact hx
 ·exact hy
theorem C1 {k:Int}{s:ByteArray}{v t:Int}:PdM w0 R (.mk k s v t none 0 []):= .mk (fun i u hi=>by simp at hi) (fun a ha=>by simp at ha)
theorem arrPd1 {n:Nat}{a:Pdm}{t:TypeId}(hf:Fnd R n (Cl (encPd a) t)):Arr w0 R (some ⟨n,0,none⟩) 5 encPd [a]:=fun j x hj=>by
 refine⟨rfl,fun k v hk=> ?_⟩
 match j,hj with
 |0,hj=>
  have:a=x:=by simpa using hj
  subst this;exact Eb hf (by show (encPd a)[0+0*5+k]? =some v;rw[show (0:Nat)+0*5+k=k by omega];exact hk)
theorem pd_no {b:Nat}{m:Pdm}(hf:Fnd R b (Cl (encPd m) 25))(hx:PdM w0 R m):PdM w0 R (mNo b m):= .mk (arrPd1 hf) fun a ha=>by
 simp only[List.mem_singleton] at ha;subst ha;exact hx
theorem fndD:(fndFd exF nD).1=exD:=by kernel_rfl
theorem fndK:(fndFd exF nK).1=exK:=by kernel_rfl
theorem Cj {nm:ByteArray}{n:Nat}{f:Fd}(h:(fndFd exF nm).1=f):IsO exF (mSet nm n) (.set f n):=h ▸ .set U U
theorem is_eq {nm:ByteArray}{n:Nat}{f:Fd}(h:(fndFd exF nm).1=f):IsP exF (mEq nm n) (.eq f n):=h ▸ .eq U U
theorem pin (n:Nat)(h:n<4):(n:Nat)<2 ^ exD.w/\n<2 ^ exK.w:=⟨by show n<2 ^ 8;omega,by show n<2 ^ 3;omega⟩
end
instance:Inhabited Chm:=⟨⟨(hd0,hd0), .blk 0 0 [],[]⟩⟩
theorem yl_neF {P:Program}{w0:World}{L:Fm}{H:Mm}{ty xt yt:TypeId}{x y:Operand}{k:IntKind}{a c:Int}(hx:Ev L x (.int k a))(hy:Ev L y (.int k c))(h:a=c):Yl P w0 (.binOp .neq xt x y yt) ty L H (.bool false):=by
 have:=yl_neq (P:=P) (w0:=w0) (H:=H) (ty:=ty) (xt:=xt) (yt:=yt) hx hy
 rwa [decide_eq_false (fun e=>e h)] at this
theorem yl_eqT {P:Program}{w0:World}{L:Fm}{H:Mm}{ty xt yt:TypeId}{x y:Operand}{k:IntKind}{a c:Int}(hx:Ev L x (.int k a))(hy:Ev L y (.int k c))(h:a=c):Yl P w0 (.binOp .eql xt x y yt) ty L H (.bool true):=by
 have:=yl_eql (P:=P) (w0:=w0) (H:=H) (ty:=ty) (xt:=xt) (yt:=yt) hx hy
 rwa [decide_eq_true h] at this
theorem eqH0 (w:World):(Op.equal 32 (.agg (hdC hd0).toArray) (.agg (hdC hd0).toArray)).run prog w= .ok (decide True) w:=by kernel_rfl
theorem Ho {α:Type}{F:Option α}{z:α}{e:Int}{A B:Prop}(h:(F=some z/\e=0)\/(F=none/\A/\e=12/\B))(he:e=0):F=some z:=by
 rcases h with h|h
 ·exact h.1
 ·have:=h.2.2.1;omega
theorem eqHd {a b:Hd}(ha:HdOk a)(hb:HdOk b)(w:World):(Op.equal 32 (.agg (hdC a).toArray) (.agg (hdC b).toArray)).run prog w= .ok (decide (a=b)) w:=by
 obtain⟨a0,a1,a2,a3,a4,a5,a6,a7,a8,a9,rfl⟩:=hd10 ha;obtain⟨b0,b1,b2,b3,b4,b5,b6,b7,b8,b9,rfl⟩:=hd10 hb;unfold Op.equal Op.maxDepth;rw[run_equalIn_array (i:=prog.types.getD 3 default) w 9999 _ _ (show prog.underlying 32=some (.array 10 3) from by kernel_rfl) qkr];have h:=eqItems_ints 9998 3 .i64 .i64 qkr part3 [(a0:Int),(a1:Int),(a2:Int),(a3:Int),(a4:Int),(a5:Int),(a6:Int),(a7:Int),(a8:Int),(a9:Int)] [(b0:Int),(b1:Int),(b2:Int),(b3:Int),(b4:Int),(b5:Int),(b6:Int),(b7:Int),(b8:Int),(b9:Int)] w [0,1,2,3,4,5,6,7,8,9] (by simp);rw[show prog.cellsOf 3=1 from by kernel_rfl,show List.range 10=[0,1,2,3,4,5,6,7,8,9] from rfl];show (Op.eqItems (9998+1) 3 1 ([(a0:Int),(a1:Int),(a2:Int),(a3:Int),(a4:Int),(a5:Int),(a6:Int),(a7:Int),(a8:Int),(a9:Int)].map (Value.int .i64)).toArray ([(b0:Int),(b1:Int),(b2:Int),(b3:Int),(b4:Int),(b5:Int),(b6:Int),(b7:Int),(b8:Int),(b9:Int)].map (Value.int .i64)).toArray [0,1,2,3,4,5,6,7,8,9]).run prog w=_;rw[h];refine congrArg (fun r=>Result.ok r w) ?_;rw[Bool.eq_iff_iff];simp[gd];omega
theorem fget_le {f:Fd}(hf:FdOk f){h:Hd}(hh:HdOk h):fget f h*2 ^ (16 - f.pos % 16 - f.w)<=gd h (f.pos / 16):=by
 rw[Jz hf hh]
 generalize 2 ^ (16 - f.pos % 16 - f.w)=s;have h3:=Nat.div_mul_le_self (gd h (f.pos / 16)) s;have h4:gd h (f.pos / 16) / s % 2 ^ f.w<=gd h (f.pos / 16) / s:=Nat.mod_le _ _;exact Nat.le_trans (Nat.mul_le_mul_right _ h4) h3
theorem yl_addW {P:Program}{w0:World}{L:Fm}{H:Mm}{ty xt yt:TypeId}{x y:Operand}{a n v p:Nat}(hx:Ev L x (Vi (a:Nat)))(hy:Ev L y (Vi ((((n:Nat):Int) - ((v:Nat):Int))*((p:Nat):Int))))(h:v*p<=a/\a<=65535/\n*p<=65536):Yl P w0 (.binOp .add xt x y yt) ty L H (Vi ((a - v*p+n*p:Nat):Int)):=by
 have e:(a:Int)+(((n:Nat):Int) - ((v:Nat):Int))*((p:Nat):Int)=((a - v*p+n*p:Nat):Int):=by
  rw[Int.sub_mul,<- Int.natCast_mul,<- Int.natCast_mul];omega
 have h:=Aw (P:=P) (w0:=w0) (H:=H) (ty:=ty) (xt:=xt) (yt:=yt) hx hy (by rw[e];omega)
 rwa [e] at h
theorem yl_mulW {P:Program}{w0:World}{L:Fm}{H:Mm}{ty xt yt:TypeId}{x y:Operand}{n v p:Nat}(hx:Ev L x (Vi (((n:Nat):Int) - ((v:Nat):Int))))(hy:Ev L y (Vi (p:Nat)))(h:v*p<=65536/\n*p<=65536):Yl P w0 (.binOp .mul xt x y yt) ty L H (Vi ((((n:Nat):Int) - ((v:Nat):Int))*((p:Nat):Int))):=by
 have e:(((n:Nat):Int) - ((v:Nat):Int))*((p:Nat):Int)=((n*p:Nat):Int) - ((v*p:Nat):Int):=by
  rw[Int.sub_mul,<- Int.natCast_mul,<- Int.natCast_mul]
 exact Fn (P:=P) (w0:=w0) (H:=H) (ty:=ty) (xt:=xt) (yt:=yt) hx hy (by rw[e];omega)
theorem rlast_s (f:Fd)(hf:FdOk f):
  FSpec prog w0 130 #[.agg (encF f).toArray] H (Still (Vi ((2 ^ (16 - f.pos % 16 - f.w):Nat):Int)) H):=by
 refine Am func130 U ntmps130 U ?_;have h1:=hf.fit;have h2:=hf.lt;have h3:=hf.w16;have h4:=hf.w1;refine rDt 2 U (e_ (Ot U cs_) ?_ U);rintro _ _ ⟨n1,rfl,rfl⟩;refine rOt 6 U (y_ (Om U isAgg3 qco) ?_ U);refine y_ (Ga (c:=16) (T U) Al qom) ?_ U;refine y_ (Dd (a:=16) Al (T U) qom) ?_ U;refine rOt 1 U (y_ (Om U isAgg3 qco) ?_ U);refine y_ (Dd (T U) (T U) qom) ?_ U;refine y_ (Ao (evq1 U) call152 (fun H' hs=>rpower_s (16 - f.pos % 16 - f.w) qom)) ?_ U;refine rOt 4 U (Ai U (Ol U) ?_);exact⟨_,⟨rfl,rfl⟩,sbt⟩
theorem Gl (f:Fd)(hf:FdOk f)(h:Hd)(hh:HdOk h):
  FSpec prog w0 113 #[.agg (encF f).toArray, .agg (hdC h).toArray] H (Still (Vi (fget f h:Nat)) H):=by
 refine Am func113 U ntmps113 U ?_;have h1:=hf.fit;have h2:=hf.lt;have h3:=hf.w16;have h4:=hf.w1;have hlen:=hh.len;have hgl:=Cp hh (f.pos / 16);have hp:f.pos / 16<h.length:=by omega
 refine rDt 2 U (e_ (Ot U cs_) ?_ U);rintro _ _ ⟨n2,rfl,rfl⟩;refine e_ (Ot U cs_) ?_ U;rintro _ _ ⟨n3,rfl,rfl⟩;refine rOt 4 U (Bf 13 (plq13 []) _ mixd qkr sb0 ?_ Bh);refine rPt 1 U (o_y U (Om U isAgg3 qco) ?_ U Ad);refine o_y U (Dw (c:=16) (T U) Al qom) ?_ U Ad;refine o_y U (Bm (T U) (T U) runUnderlying32 sizeOf3 qom) ?_ U Ad;refine o_y U (Om U isAgg3 (by first|exact c_o|exact Ci (Ae fndq) hp)) ?_ U Ad;refine o_y U (On U isAgg127 sizeOf127 U qcs) ?_ U Ad;refine o_y U (Ao (evq1 U) call130 (fun H' hs=>rlast_s f hf)) (o_y U (Dw (T U) (T U) (by have:=Nat.two_pow_pos (16 - f.pos % 16 - f.w);omega)) ?_ U Ad) U Ad;refine rPt 1 U (o_y U (Om U isAgg3 qco) ?_ U Ad);refine o_y U (Ao (evq1 U) call152 (fun H' hs=>rpower_s f.w h3)) (o_y U (Ga (T U) (T U) (by have:=Nat.two_pow_pos f.w;omega)) ?_ U Ad) U Ad;refine rPt 1 U (Av U (rOt 3 U (Ai U (Ol U) ?_)));exact⟨_,⟨vint (by rw[Jz hf hh]),rfl⟩,sbt⟩
theorem rset_s (f:Fd)(hf:FdOk f)(h:Hd)(hh:HdOk h)(n:Nat)(hn:n<2 ^ f.w):
  FSpec prog w0 83 #[.agg (encF f).toArray, .agg (hdC h).toArray,Vi (n:Nat)] H (Still (.agg (hdC (fset f h n)).toArray) H):=by
 refine Am func83 U ntmps83 U ?_;have h1:=hf.fit;have h2:=hf.lt;have h3:=hf.w16;have h4:=hf.w1;have hlen:=hh.len;have hgl:=Cp hh (f.pos / 16);have hp:f.pos / 16<h.length:=by omega
 have hfl:=fget_le hf hh;have hgt:=Dk f h;have hpw:2 ^ f.w<=2 ^ 16:=Nat.pow_le_pow_right qom h3;have hpw:2 ^ f.w<=65536:=hpw;have hsl:2 ^ f.w*2 ^ (16 - f.pos % 16 - f.w)<=65536:=by rw[<- Nat.pow_add];exact C7 qom
 have hnl:n*2 ^ (16 - f.pos % 16 - f.w)<=2 ^ f.w*2 ^ (16 - f.pos % 16 - f.w):=Nat.mul_le_mul_right _ qom;have hfw:=fset_word hf hh hn;have hso:=Bz f h n;refine rDt 2 U (e_ (Ot U cs_) ?_ U);rintro _ _ ⟨n3,rfl,rfl⟩;refine e_ (Ot U cs_) ?_ U;rintro _ _ ⟨n4,rfl,rfl⟩;refine e_ (Ag zeroValue32 cs_) ?_ U;rintro _ _ ⟨n6,rfl,rfl⟩;refine rOt 4 U (y_ (On U isAgg127 sizeOf127 U qcs) ?_ U);refine y_ (On U isAgg32 sizeOf32 (Af hh) (by exact Ae fndq)) ?_ U;refine y_ (Ao (evq2 U U) call113 (fun H' hs=>Gl f hf h hh)) (rOt 4 U (Bf 16 (plq16 []) _ mixd qkr sb0 ?_ Bh)) U;refine rPt 1 U (o_y U (Om U isAgg3 qco) ?_ U Ad);refine o_y U (Dw (c:=16) (T U) Al qom) ?_ U Ad;refine rPt 1 U (o_y U (Om U isAgg3 qco) ?_ U Ad);refine o_y U (Dw (c:=16) (T U) Al qom) ?_ U Ad;refine o_y U (Bm (T U) (T U) runUnderlying32 sizeOf3 qom) ?_ U Ad;refine o_y U (Om U isAgg3 (by first|exact c_o|exact Ci (Ae fndq) hp)) ?_ U Ad;refine rPt 2 U (o_y U (E2 (T U) (T U) qom) ?_ U Ad);refine o_y U (On U isAgg127 sizeOf127 U qcs) ?_ U Ad;refine o_y U (Ao (evq1 U) call130 (fun H' hs=>rlast_s f hf)) (o_y U (yl_mulW (T U) (T U) qom) ?_ U Ad) U Ad;refine o_y U (yl_addW (T U) (T U) qom) ?_ U Ad;refine o_y U (Bm (T U) (T U) runUnderlying32 sizeOf3 qom) ?_ U Ad;refine Av U (e_ (Ct (T U) (T U) U sizeOf3 (hs:=Gx hp)) ?_ U);rintro _ _ ⟨rfl,rfl⟩;rw[<- hfw];refine rOt 4 U ?_;refine y_ (On U isAgg32 sizeOf32 (Af hso) (by exact Ae fndq)) ?_ U;refine e_ (Oq U U sizeOf32 .agg (Bc _) (Af hso) updq (by rw[Af hso];rfl)) ?_ U;rintro _ _ ⟨rfl,rfl⟩;refine rOt 3 U (Ai U (.cellA (Aa U) isAgg32 sizeOf32 (Af hso) qcs .nil) ?_);exact⟨_,⟨rfl,rfl⟩,sbt⟩
theorem cmp_at {a b:List Nat}{k:Nat}(h1:k<a.length)(h2:k<b.length)(h:cmpL a b=cmpL (a.drop k) (b.drop k)):(gd a k<gd b k->cmpL a b= -1)/\(gd b k<gd a k->cmpL a b=1)/\(gd a k=gd b k->cmpL a b=cmpL (a.drop (k+1)) (b.drop (k+1))):=by
 rw[h,cmpL_drop h1 h2];unfold cmpI;refine⟨fun e=> ?_,fun e=> ?_,fun e=> ?_⟩
 ·rw[if_pos (show ((gd a k:Nat):Int)<(gd b k:Nat) by omega)];rfl
 ·rw[if_neg (show ¬ ((gd a k:Nat):Int)<(gd b k:Nat) by omega),if_pos (show ((gd b k:Nat):Int)<(gd a k:Nat) by omega)];rfl
 ·rw[if_neg (show ¬ ((gd a k:Nat):Int)<(gd b k:Nat) by omega),if_neg (show ¬ ((gd b k:Nat):Int)<(gd a k:Nat) by omega)];rfl
theorem loc_nil {α:Type}{e:TypeId}{X:Mm}{enc:α->List Value}:LocL X (slH .nil (([]:List α).flatMap enc) e) X (fun M'=>M'++X):=show LocL ([]++X) [] X (fun M'=>M'++X) from .h
abbrev HsA (w0:World) (H:Mm) (l:List Hd) (q:Option Addr) (c:Nat):Prop:=Arr w0 H q 10 encHd l/\(∀ x∈l,HdOk x)/\l.length<=c
theorem HsA.mono {w0:World}{H H':Mm}{l:List Hd}{q:Option Addr}{c:Nat}(h:HsA w0 H l q c)(hs:H.Sublist H'):HsA w0 H' l q c:=⟨h.1.mono hs,h.2⟩
theorem HsA.hd {l:List Hd}{q:Option Addr}{c:Nat}(h:HsA w0 H l q c):Arr w0 H q 10 hdC l:=arr_hd h.1 h.2.1
theorem HsA.ok {l:List Hd}{q:Option Addr}{c k:Nat}(h:HsA w0 H l q c)(hk:k<l.length):HdOk (gd l k):=h.2.1 _ (Ax hk)
theorem cmp18_s (a b:Hd)(ha:HdOk a)(hb:HdOk b):
  FSpec prog w0 30 #[.agg (hdC a).toArray, .agg (hdC b).toArray] H (Still (Vi (cmpL a b)) H):=by
 refine Am func30 U ntmps30 U ?_;have hla:=ha.len;have hlb:=hb.len;refine rDt 2 U (e_ (Ot U cs_) ?_ U);rintro _ _ ⟨n2,rfl,rfl⟩;refine e_ (Ot U cs_) ?_ U;rintro _ _ ⟨n3,rfl,rfl⟩;refine rOt 10 U ?_;refine A8 (X:=Nat) (V:=fun k=>[(5,Vi (k:Nat))]) (C:=[(2,_),(3,_)]) (G:=fun k=>(n3,Cl (hdC b) 32)::(n2,Cl (hdC a) 32)::H) (φ:=fun k=>k<=10/\cmpL a b=cmpL (a.drop k) (b.drop k)) (μ:=fun k=>10 - k) (x0:=0) ?_ (kg U) qkg sb0 ?_
 ·exact⟨Nat.zero_le _,rfl⟩
 rintro k ⟨hk,hd⟩;refine rDt 7 U ?_;refine jcd U (fun c7=> ?_) (fun c7=> ?_)
 ·have hk2:k<10:=by have h9:((k:Nat):Int)<10:=c7;omega
  obtain⟨hl,hg,he⟩:=cmp_at qom qom hd;refine rCt 6 U (Bf 7 (plq7 []) _ mixd qkr sb0 ?_ Bh);refine rPt 1 U (o_y U (Bm (T U) (T U) runUnderlying32 sizeOf3 qom) ?_ U Ad);refine o_y U (Om U isAgg3 (by first|exact c_o|exact Ci (Ae fndq) (show k<a.length by omega))) ?_ U Ad;refine rPt 1 U (o_y U (Bm (T U) (T U) runUnderlying32 sizeOf3 qom) ?_ U Ad);refine o_y U (Om U isAgg3 (by first|exact c_o|exact Ci (Ae fndq) (show k<b.length by omega))) ?_ U Ad;refine rPt 1 U (Av U (rOt 2 U ?_));refine jcd U (fun c16=> ?_) (fun c16=> ?_)
  ·refine rCt 9 U (Bg (rXt 2 U (Ai U (Ol U) ?_)));exact⟨_,⟨vint (hl qom).symm,rfl⟩,sbt⟩
  ·refine rCt 3 U (Bf 7 (plq7 []) _ mixd qkr sb0 ?_ Bh);refine rPt 1 U (o_y U (Bm (T U) (T U) runUnderlying32 sizeOf3 qom) ?_ U Ad);refine o_y U (Om U isAgg3 (by first|exact c_o|exact Ci (Ae fndq) (show k<a.length by omega))) ?_ U Ad;refine rPt 1 U (o_y U (Bm (T U) (T U) runUnderlying32 sizeOf3 qom) ?_ U Ad);refine o_y U (Om U isAgg3 (by first|exact c_o|exact Ci (Ae fndq) (show k<b.length by omega))) ?_ U Ad;refine rPt 1 U (Av U (rOt 2 U ?_));refine jcd U (fun c23=> ?_) (fun c23=> ?_)
   ·refine rCt 8 U (Bg (rXt 2 U (Ai U (Ol U) ?_)));exact⟨_,⟨vint (hg qom).symm,rfl⟩,sbt⟩
   ·refine rCt 5 U (y_ (Aw (T U) Al qom) ?_ U);refine rOt 2 U ?_;refine Au (k+1) ?_ ?_ qkg (kg U) ?_
    ·exact⟨hk2,he qom⟩
    ·omega
    ·exact sbt
 ·obtain rfl:k=10:=by have h9: ¬ ((k:Nat):Int)<10:=c7;omega
  refine rCt 2 U (An (rXt 8 U (Ai U (Ol U) ?_)));exact⟨_,⟨vint (by rw[hd,List.drop_of_length_le qom,List.drop_of_length_le qom];rfl),rfl⟩,sbt⟩
theorem rin_s (l:List Hd)(q:Option Addr)(c:Nat)(hA:HsA w0 H l q c)(h:Hd)(hh:HdOk h)(hlen:l.length<=1000000):
  FSpec prog w0 131 #[.slice q l.length c, .agg (hdC h).toArray] H (Still (.bool (decide (h∈l))) H):=by
 refine Am func131 U ntmps131 U (rDt 2 U (e_ (Ot U cs_) ?_ U));rintro _ _ ⟨n3,rfl,rfl⟩;refine rOt 10 U ?_;refine A8 (X:=Nat) (V:=fun k=>[(5,Vi (k:Nat))]) (C:=[(0,_),(3,_)]) (G:=fun k=>(n3,Cl (hdC h) 32)::H) (φ:=fun k=>k<=l.length/\∀ j,j<k->gd l j≠h) (μ:=fun k=>l.length - k) (x0:=0) ?_ (kg U) qkg sb0 ?_
 ·exact⟨Nat.zero_le _,fun j hj=>absurd hj (Nat.not_lt_zero _)⟩
 rintro k ⟨hk,hn⟩;refine rDt 9 U ?_;refine jcd U (fun c9=> ?_) (fun c9=> ?_)
 ·have hk2:k<l.length:=Int.ofNat_lt.1 c9;refine rCt 5 U (Bf 6 (plq6 []) _ mixd qkr sb0 ?_ Bh);refine rPt 2 U (o_y U (Oo U U runUnderlying58 sizeOf32 qom (by first|exact rfl|exact hA.1.b (i:=k) qom)) ?_ U Ad);refine o_y U (On U isAgg32 sizeOf32 (Af (hA.ok (k:=k) qom)) (by exact((hA.mono sbt).hd).cs (i:=k) qom)) ?_ U Ad;refine o_y U (On U isAgg32 sizeOf32 (Af hh) qcs) ?_ U Ad;refine o_y U (G8 (T U) (T U) qkr (eqHd (hA.ok (k:=k) qom) hh)) ?_ U Ad;refine Av U (rOt 2 U ?_);refine jcd U (fun c17=> ?_) (fun c17=> ?_)
  ·refine rCt 8 U (Bg (rXt 2 U (Ai U (Ol U) ?_)));exact⟨_,⟨congrArg Value.bool (decide_eq_true (by have e:gd l k=h:=c17;rw[<- e];exact Ax hk2)).symm,rfl⟩,sbt⟩
  ·refine rCt 5 U (y_ (Aw (T U) Al qom) ?_ U);refine rOt 2 U ?_;refine Au (k+1) ?_ ?_ qkg (kg U) ?_
   ·refine⟨hk2,fun j hj=> ?_⟩
    by_cases e:j=k
    ·rw[e];exact c17
    ·exact hn j qom
   ·omega
   ·exact sbt
 ·obtain rfl:k=l.length:=by have h9: ¬ ((k:Nat):Int)<(l.length:Nat):=c9;omega
  refine rCt 2 U (An (rXt 8 U (Ai U (Ol U) ?_)));exact⟨_,⟨congrArg Value.bool (decide_eq_false (fun hm=>(Jp (p:=fun x=>x≠h) hn) h hm U)).symm,rfl⟩,sbt⟩
theorem eq_of_gd {α:Type}[Inhabited α] {l m:List α}(hl:l.length=m.length)(h:∀ j,j<l.length->gd l j=gd m j):l=m:=List.ext_getElem hl fun i h1 h2=>by
 have:=h i h1
 rwa [Ar h1,Ar h2] at this
theorem put_found {l:List Hd}{h:Hd}{k:Nat}(hk:k<l.length)(e:gd l k=h)(x:Hd):x∈l↔x∈l\/x=h:=⟨.inl,fun hx=>by
 rcases hx with hx|rfl
 ·exact hx
 ·rw[<- e];exact Ax hk⟩
theorem Li {l:List Hd}{h:Hd}{k:Nat}(x:Hd):x∈l.take k++[h]++l.drop k↔x∈l\/x=h:=by
 have:x∈l↔x∈l.take k\/x∈l.drop k:=by
  rw[<- List.mem_append,List.take_append_drop]
 simp only[List.mem_append,List.mem_singleton,this]
 constructor
 ·rintro((a|a)|a)
  ·exact .inl (.inl a)
  ·exact .inr a
  ·exact .inl (.inr a)
 ·rintro((a|a)|a)
  ·exact .inl (.inl a)
  ·exact .inr a
  ·exact .inl (.inr a)
theorem put_up {l:List Hd}{h:Hd}{k:Nat}(hu:l.Pairwise hLt)(hlt:∀ j,j<k->j<l.length->hLt (gd l j) h)(hge:k<l.length->hLt h (gd l k)):(l.take k++[h]++l.drop k).Pairwise hLt:=by
 have hd:∀ x∈l.drop k,hLt h x:=fun x hx=>by
  by_cases hk:k<l.length
  ·have h0:=hge hk;rw[List.drop_eq_getElem_cons hk] at hx;have hu2:(l.drop k).Pairwise hLt:=hu.sublist (List.drop_sublist _ _);rw[List.drop_eq_getElem_cons hk] at hu2;rw[Ar hk] at h0;rcases List.mem_cons.1 hx with rfl|hx
   ·exact h0
   ·exact h0.trans ((List.pairwise_cons.1 hu2).1 x hx)
  ·rw[List.drop_of_length_le qom] at hx;cases hx
 have ht:∀ x∈l.take k,hLt x h:=fun x hx=>by
  obtain⟨j,hj,e⟩:=List.getElem_of_mem hx;rw[List.length_take] at hj;have:=hlt j qom qom;rw[Ar qom] at this;rw[List.getElem_take] at e
  rwa [e] at this
 refine List.pairwise_append.2 ⟨List.pairwise_append.2 ⟨hu.sublist (List.take_sublist _ _),List.pairwise_singleton ..,fun x hx y hy=> ?_⟩,hu.sublist (List.drop_sublist _ _),fun x hx y hy=> ?_⟩
 ·rw[List.mem_singleton.1 hy];exact ht x hx
 ·rcases List.mem_append.1 hx with hx|hx
  ·exact(ht x hx).trans (hd y hy)
  ·rw[List.mem_singleton.1 hx];exact hd y hy
abbrev PutK (w0:World) (l:List Hd) (h:Hd) (H:Mm):Value->Mm->Prop:=fun u H'=>∃ (l':List Hd) (q:Option Addr) (c:Nat) (X:Mm),(u= .slice q l'.length c/\HsA w0 (X++H) l' q c/\l'.Pairwise hLt/\(∀ x,x∈l'↔x∈l\/x=h)/\l'.length<=l.length+1)/\H'=X++H
theorem sl_cap {d:Sl}{n sz:Nat}(h:SlOk d n sz):n<=slC d:=by
 cases d with
 |nil=>have:n=0:=h;omega
 |blk b cap junk=>exact h.1
theorem L0 {w0:World}{X:Mm}{d:Sl}{l:List Hd}(hok:SlOk d l.length 10)(hl:∀ x∈l,HdOk x):HsA w0 (slH d (l.flatMap encHd) 32++X) l (slQ d) (slC d):=⟨B3 (w0:=w0) (e:=32) (X:=X) (enc:=encHd) C8 hok,hl,sl_cap hok⟩
theorem rput_s (l:List Hd)(q:Option Addr)(c:Nat)(hA:HsA w0 H l q c)(hu:l.Pairwise hLt)(h:Hd)(hh:HdOk h)(hlen:l.length<=100000):
  FSpec prog w0 87 #[.slice q l.length c, .agg (hdC h).toArray] H (PutK w0 l h H):=by
 refine Am func87 U ntmps87 U (rDt 2 U (e_ (Ot U cs_) ?_ U));rintro _ _ ⟨n3,rfl,rfl⟩;refine rOt 10 U ?_;refine A8 (X:=Nat) (V:=fun k=>[(5,Vi (k:Nat))]) (C:=[(0,_),(3,_)]) (G:=fun k=>(n3,Cl (hdC h) 32)::H) (φ:=fun k=>k<=l.length/\∀ j,j<k->hLt (gd l j) h) (μ:=fun k=>l.length - k) (x0:=0) ?_ (kg U) qkg sb0 ?_
 ·exact⟨Nat.zero_le _,fun j hj=>absurd hj (Nat.not_lt_zero _)⟩
 rintro k ⟨hk,hn⟩;refine rDt 2 U (Bf 13 (plq13 []) _ mixd qkr sb0 ?_ Bh);refine rPt 5 U ?_;refine Mn (s:=11) (Aa U) (fun c11=> ?_) (fun c11=> ?_)
 ·have hk2:k<l.length:=Int.ofNat_lt.1 c11;refine rPt 2 U (o_y U (Oo U U runUnderlying58 sizeOf32 qom (by first|exact rfl|exact hA.1.b (i:=k) qom)) ?_ U (A7 U U (Aa U)));refine o_y U (On U isAgg32 sizeOf32 (Af (hA.ok (k:=k) qom)) (by exact((hA.mono sbt).hd).cs (i:=k) qom)) ?_ U (A7 U U (Aa U));refine o_y U (On U isAgg32 sizeOf32 (Af hh) qcs) ?_ U (A7 U U (Aa U));refine o_y U (Ao (evq2 U U) call30 (fun H' hs=>cmp18_s (gd l k) h (hA.ok (k:=k) qom) hh)) ?_ U (A7 U U (Aa U));refine rPt 2 U (Av U (rOt 2 U ?_));refine jcd U (fun c19=> ?_) (fun c19=> ?_)
  ·have hlk:=(Ex (hA.ok (k:=k) hk2) hh).1 c19;refine rCt 5 U (y_ (Aw (T U) Al qom) ?_ U);refine rOt 3 U ?_;refine Au (k+1) ?_ ?_ qkg (kg U) ?_
   ·refine⟨hk2,fun j hj=> ?_⟩
    by_cases e:j=k
    ·rw[e];exact hlk
    ·exact hn j qom
   ·omega
   ·exact sbt
  ·skip
   refine rCt 2 U (An (rXt 4 U (Bf 12 (plq12 []) _ mixd qkr sb0 ?_ Bh)));refine rPt 5 U ?_;refine Mn (s:=26) (Aa U) (fun c26=> ?_) (fun c26=> ?_)
   ·skip
    refine rPt 2 U (o_y U (Oo U U runUnderlying58 sizeOf32 qom (by first|exact rfl|exact hA.1.b (i:=k) qom)) ?_ U (A7 U U (Aa U)));refine o_y U (On U isAgg32 sizeOf32 (Af (hA.ok (k:=k) qom)) (by exact((hA.mono sbt).hd).cs (i:=k) qom)) ?_ U (A7 U U (Aa U));refine o_y U (On U isAgg32 sizeOf32 (Af hh) qcs) ?_ U (A7 U U (Aa U));refine o_y U (G8 (T U) (T U) qkr (eqHd (hA.ok (k:=k) qom) hh)) ?_ U (A7 U U (Aa U));refine rPt 1 U (Av U (rOt 2 U ?_));refine jcd U (fun c33=> ?_) (fun c33=> ?_)
    ·have hfk:gd l k=h:=c33;refine kC tb 6 [4] rfl U (rGt 2 U (Ai U (Ol U) ?_));exact⟨_,⟨l,q,c,[(n3,Cl (hdC h) 32)],⟨rfl,hA.mono sbt,hu,put_found hk2 hfk,by omega⟩,rfl⟩,sbt⟩
    ·have hnk: ¬ gd l k=h:=c33;have htk:(l.take k).length=k:=by rw[List.length_take];omega
     have hgk:hLt h (gd l k):=((H8 (hA.ok (k:=k) hk2) hh).resolve_left (fun e=>c19 ((Ex (hA.ok (k:=k) hk2) hh).2 e))).resolve_left hnk;refine rCt 12 U (y_ (yl_sliceH  (T U) (T U) runUnderlying58 sizeOf32 qom) ?_ U);refine e_ (Bu (enc:=encHd) (d:= .nil) (l:=[]) (l.take k) (by':=80) loc_nil (T U) (by rw[htk];exact T U) runUnderlying58 runUnderlying58 sizeOf32 typeInfo32 U zeroValue32 U C8 C9 U qde (by simp only[List.length_nil];omega) ((hA.1.mono sbt).take k)) ?_ U;rintro _ _ ⟨d1,rfl,hd1,rfl⟩;rw[show ([]:List Hd).length+(l.take k).length=(l.take k).length from Nat.zero_add _] at hd1 ⊢;rw[List.nil_append];refine kO tb 3 [0,3,5,6] rfl U (rGt 3 U (y_ (On U isAgg32 sizeOf32 (Af hh) qcs) ?_ U));refine e_ (Bb (.cons (T U) .nil) (bs42 hh)) ?_ U;rintro _ _ ⟨n42,rfl,rfl⟩;rw[<- E1 hh];refine e_ (Cg (enc:=encHd) (d:=d1) (l:=l.take k) h (by':=80) locq (T U) (T U) runUnderlying58 runUnderlying58 sizeOf32 typeInfo32 U zeroValue32 U C8 (C9 _) hd1 qde qom) ?_ U;rintro _ _ ⟨d2,rfl,hd2,rfl⟩;rw[show (l.take k).length+1=(l.take k++[h]).length from (by simp)] at hd2 ⊢;refine rOt 8 U (y_ (yl_sliceL  (T U) (T U) runUnderlying58 sizeOf32 qom) ?_ U);refine e_ (Bu (enc:=encHd) (d:=d2) (l:=(l.take k++[h])) (l.drop k) (by':=80) locq (T U) (by rw[List.length_drop];exact T U) runUnderlying58 runUnderlying58 sizeOf32 typeInfo32 U zeroValue32 U C8 C9 hd2 qde (by simp only[List.length_append,List.length_singleton,List.length_drop];omega) ((hA.1.mono sbt).drop hA.2.2 k)) ?_ U;rintro _ _ ⟨d3,rfl,hd3,rfl⟩;rw[show (l.take k++[h]).length+(l.drop k).length=(l.take k++[h]++l.drop k).length from (List.length_append).symm] at hd3 ⊢;refine rOt 4 U (Ai U (Ol U) ?_);exact⟨_,⟨l.take k++[h]++l.drop k,slQ d3,slC d3,slH d3 ((l.take k++[h]++l.drop k).flatMap encHd) 32,⟨rfl,L0 hd3 (fun x hx=>((Li x).1 hx).elim (hA.2.1 x) (fun e=>e ▸ hh)),put_up hu (fun j hj _=>hn j hj) (fun h9=>by exact hgk),Li,by simp only[List.length_append,List.length_take,List.length_drop,List.length_singleton];omega⟩,rfl⟩,sbt⟩
   ·exfalso;have h9: ¬ ((k:Nat):Int)<(l.length:Nat):=c26;omega
 ·have hkl:k=l.length:=by have h9: ¬ ((k:Nat):Int)<(l.length:Nat):=c11;omega
  refine rPt 8 U (Av U (rOt 5 U (An (rXt 4 U (Bf 12 (plq12 []) _ mixd qkr sb0 ?_ Bh)))));refine rPt 5 U ?_;refine Mn (s:=26) (Aa U) (fun c26=> ?_) (fun c26=> ?_)
  ·exfalso;have h9:((k:Nat):Int)<(l.length:Nat):=c26;omega
  ·have htk:(l.take k).length=k:=by rw[List.length_take];omega
   refine rPt 7 U (Av U (rOt 15 U (y_ (yl_sliceH  (T U) (T U) runUnderlying58 sizeOf32 qom) ?_ U)));refine e_ (Bu (enc:=encHd) (d:= .nil) (l:=[]) (l.take k) (by':=80) loc_nil (T U) (by rw[htk];exact T U) runUnderlying58 runUnderlying58 sizeOf32 typeInfo32 U zeroValue32 U C8 C9 U qde (by simp only[List.length_nil];omega) ((hA.1.mono sbt).take k)) ?_ U;rintro _ _ ⟨d1,rfl,hd1,rfl⟩;rw[show ([]:List Hd).length+(l.take k).length=(l.take k).length from Nat.zero_add _] at hd1 ⊢;rw[List.nil_append];refine kO tb 3 [0,3,5,6] rfl U (rGt 3 U (y_ (On U isAgg32 sizeOf32 (Af hh) qcs) ?_ U));refine e_ (Bb (.cons (T U) .nil) (bs42 hh)) ?_ U;rintro _ _ ⟨n42,rfl,rfl⟩;rw[<- E1 hh];refine e_ (Cg (enc:=encHd) (d:=d1) (l:=l.take k) h (by':=80) locq (T U) (T U) runUnderlying58 runUnderlying58 sizeOf32 typeInfo32 U zeroValue32 U C8 (C9 _) hd1 qde qom) ?_ U;rintro _ _ ⟨d2,rfl,hd2,rfl⟩;rw[show (l.take k).length+1=(l.take k++[h]).length from (by simp)] at hd2 ⊢;refine rOt 8 U (y_ (yl_sliceL  (T U) (T U) runUnderlying58 sizeOf32 qom) ?_ U);refine e_ (Bu (enc:=encHd) (d:=d2) (l:=(l.take k++[h])) (l.drop k) (by':=80) locq (T U) (by rw[List.length_drop];exact T U) runUnderlying58 runUnderlying58 sizeOf32 typeInfo32 U zeroValue32 U C8 C9 hd2 qde (by simp only[List.length_append,List.length_singleton,List.length_drop];omega) ((hA.1.mono sbt).drop hA.2.2 k)) ?_ U;rintro _ _ ⟨d3,rfl,hd3,rfl⟩;rw[show (l.take k++[h]).length+(l.drop k).length=(l.take k++[h]++l.drop k).length from (List.length_append).symm] at hd3 ⊢;refine rOt 4 U (Ai U (Ol U) ?_);exact⟨_,⟨l.take k++[h]++l.drop k,slQ d3,slC d3,slH d3 ((l.take k++[h]++l.drop k).flatMap encHd) 32,⟨rfl,L0 hd3 (fun x hx=>((Li x).1 hx).elim (hA.2.1 x) (fun e=>e ▸ hh)),put_up hu (fun j hj _=>hn j hj) (fun h9=>by first|exact hgk|omega),Li,by simp only[List.length_append,List.length_take,List.length_drop,List.length_singleton];omega⟩,rfl⟩,sbt⟩
theorem zbs42_0_z  (w:World):(Instr.buildSlice 58 0 #[]).run prog w= .ok (.slice (some ⟨w.heap.size,0,none⟩) 0 0) (w.alloc (Cl [] 32)):=by kernel_rfl
abbrev SetK (w0:World) (p:List Hd->Prop) (H:Mm):Value->Mm->Prop:=fun u H'=>∃ (l':List Hd) (q:Option Addr) (c:Nat),u= .slice q l'.length c/\HsA w0 H' l' q c/\l'.Pairwise hLt/\p l'/\H.Sublist H'
theorem J8 (a b:List Hd)(q1 q2:Option Addr)(c1 c2:Nat)(hA:HsA w0 H a q1 c1)(hu:a.Pairwise hLt)(hB:HsA w0 H b q2 c2)(hla:a.length<=10000)(hlb:b.length<=10000):
  FSpec prog w0 37 #[.slice q1 a.length c1, .slice q2 b.length c2] H (SetK w0 (fun l=>(∀ x,x∈l↔x∈a\/x∈b)/\l.length<=a.length+b.length) H):=by
 refine Am func37 U ntmps37 U (rDt 7 U (e_ (Bb .nil (zbs42_0_z)) ?_ U));rintro _ _ ⟨n7,rfl,rfl⟩;refine rOt 1 U (e_ (Bu (enc:=encHd) (d:= .blk n7 0 []) (l:=[]) a (by':=80) loc_e (T U) (T U) runUnderlying58 runUnderlying58 sizeOf32 typeInfo32 U zeroValue32 U C8 C9 ⟨Nat.le_refl _,rfl⟩ qde (by simp only[List.length_nil];omega) (hA.1.mono sbt)) ?_ U);rintro _ _ ⟨d1,rfl,hd1,rfl⟩;rw[show ([]:List Hd).length+a.length=a.length from Nat.zero_add _] at hd1 ⊢;rw[List.nil_append];refine rOt 10 U ?_;refine A8 (X:=Nat × List Hd × Option Addr × Nat × Mm) (V:=fun ⟨i,l,q,c,M⟩=>[(5, .slice q l.length c),(6,Vi (i:Nat))]) (C:=[(1,_)]) (G:=fun ⟨i,l,q,c,M⟩=>M) (φ:=fun ⟨i,l,q,c,M⟩=>i<=b.length/\HsA w0 M l q c/\l.Pairwise hLt/\(∀ x,x∈l↔x∈a\/x∈b.take i)/\l.length<=a.length+i/\H.Sublist M) (μ:=fun ⟨i,l,q,c,M⟩=>b.length - i) (x0:=(0,a,slQ d1,slC d1,slH d1 (a.flatMap encHd) 32++H)) ?_ (kg U) qkg sb0 ?_
 ·exact⟨Nat.zero_le _,L0 hd1 hA.2.1,hu,fun x=>by simp,by omega,List.sublist_append_right _ _⟩
 rintro⟨i,l,q,c,M⟩ ⟨hi,hL,hul,hm,hn,hHM⟩;refine rDt 9 U ?_;refine jcd U (fun c13=> ?_) (fun c13=> ?_)
 ·have hi2:i<b.length:=Int.ofNat_lt.1 c13;refine rCt 8 U (y_ (Oo U U runUnderlying58 sizeOf32 qom (by first|exact rfl|exact hB.1.b (i:=i) qom)) ?_ U);refine y_ (On U isAgg32 sizeOf32 (Af (hB.ok (k:=i) qom)) (by exact((hB.mono hHM).hd).cs (i:=i) qom)) ?_ U;refine e_ (Ah (evq2 U U) call87 (rput_s l q c hL hul (gd b i) (hB.ok (k:=i) hi2) qom)) ?_ U;rintro _ _ ⟨l2,q3,c3,X2,⟨rfl,hL2,hul2,hm2,hn2⟩,rfl⟩;refine rOt 6 U (y_ (Aw (T U) Al qom) ?_ U);refine rOt 2 U ?_;refine Au ((i+1,l2,q3,c3,X2++M)) ?_ ?_ qkg (kg U) ?_
  ·refine⟨hi2,hL2,hul2,fun x=> ?_,by omega,hHM.trans (List.sublist_append_right _ _)⟩;rw[hm2,hm,List.take_succ_eq_append_getElem hi2,List.mem_append,List.mem_singleton,<- Ar hi2,or_assoc]
  ·first|omega|(simp only[];omega)
  ·exact sb0
 ·obtain rfl:i=b.length:=by have h9: ¬ ((i:Nat):Int)<(b.length:Nat):=c13;omega
  refine rCt 2 U (An (rXt 9 U (Ai U (Ol U) ?_)));exact⟨_,⟨l,q,c,rfl,hL,hul,⟨by rw[List.take_length] at hm;exact hm,hn⟩,hHM⟩,sb0⟩
section
variable {fl:List Fd} {m:Pdm} {p:Pd}
theorem inv1 (hI:IsP fl m p)(hk:m.kind=1):p= .tru:=by cases hI<;>first|rfl|omega
theorem inv2 (hI:IsP fl m p)(hk:m.kind=2):p= .fls:=by cases hI<;>first|rfl|omega
theorem inv9 (hI:IsP fl m p)(hk:m.kind=9):p= .time m.val m.to:=by
 cases hI with
 |tim _ h1 h2=>rw[h1,h2]
 |_=>omega
theorem inv6 (hI:IsP fl m p)(hk:m.kind=6):∃ x,0<m.subs.length/\p= .no x/\IsP fl (gd m.subs 0) x:=by
 cases hI with
 |no _ h1 h2=>rw[h1];exact⟨_,Nat.zero_lt_one,rfl,h2⟩
 |_=>omega
theorem inv7 (hI:IsP fl m p)(hk:m.kind=7):∃ x y,1<m.subs.length/\p= .and x y/\IsP fl (gd m.subs 0) x/\IsP fl (gd m.subs 1) y:=by
 cases hI with
 |and _ h1 h2 h3=>rw[h1];exact⟨_,_,Nat.lt_succ_self _,rfl,h2,h3⟩
 |_=>omega
theorem inv8 (hI:IsP fl m p)(hk:m.kind=8):∃ x y,1<m.subs.length/\p= .or x y/\IsP fl (gd m.subs 0) x/\IsP fl (gd m.subs 1) y:=by
 cases hI with
 |or _ h1 h2 h3=>rw[h1];exact⟨_,_,Nat.lt_succ_self _,rfl,h2,h3⟩
 |_=>omega
theorem inv3 (hI:IsP fl m p)(hk:m.kind=3):∃ n:Nat,m.val=n/\p= .eq (fndFd fl m.nm).1 n:=by
 cases hI with
 |eq _ h1=>exact⟨_,h1,rfl⟩
 |_=>omega
theorem inv4 (hI:IsP fl m p)(hk:m.kind=4):∃ n k:Nat,m.val=n/\m.to=k/\p= .pre (fndFd fl m.nm).1 n k:=by
 cases hI with
 |pre _ h1 h2=>exact⟨_,_,h1,h2,rfl⟩
 |_=>omega
theorem inv5 (hI:IsP fl m p)(h1: ¬ m.kind=1)(h2: ¬ m.kind=2)(h3: ¬ m.kind=3)(h4: ¬ m.kind=4)(h6: ¬ m.kind=6)(h7: ¬ m.kind=7)(h8: ¬ m.kind=8)(h9: ¬ m.kind=9):∃ n k:Nat,m.val=n/\m.to=k/\p= .rng (fndFd fl m.nm).1 n k:=by
 cases hI with
 |rng _ h1 h2=>exact⟨_,_,h1,h2,rfl⟩
 |_=>omega
theorem invF {bs:List Nat}(hI:IsP fl m p)(hF:p.Fit bs)(h1: ¬ m.kind=1)(h2: ¬ m.kind=2)(h6: ¬ m.kind=6)(h7: ¬ m.kind=7)(h8: ¬ m.kind=8)(h9: ¬ m.kind=9):FdOk (fndFd fl m.nm).1:=by
 cases hI with
 |eq _ _=>exact hF.1.ok
 |pre _ _ _=>exact hF.1.ok
 |rng _ _ _=>exact hF.1.ok
 |_=>omega
end
theorem yl_subV {P:Program}{w0:World}{L:Fm}{H:Mm}{ty xt yt:TypeId}{x y:Operand}{a c:Nat}{v:Int}(hx:Ev L x (Vi (a:Nat)))(hy:Ev L y (Vi v))(hv:v=(c:Nat))(h:c<=a/\a<=1000000000):Yl P w0 (.binOp .sub xt x y yt) ty L H (Vi ((a - c:Nat):Int)):=by subst hv;exact Dd hx hy h
theorem yl_quoV {P:Program}{w0:World}{L:Fm}{H:Mm}{ty xt yt:TypeId}{x y:Operand}{a c:Nat}{v:Int}(hx:Ev L x (Vi v))(hy:Ev L y (Vi (c:Nat)))(hv:v=(a:Nat))(h:a<=1000000000/\1<=c):Yl P w0 (.binOp .quo xt x y yt) ty L H (Vi ((a / c:Nat):Int)):=by subst hv;exact Dw hx hy h
def HoS (w0:World) (fl:List Fd) (q:Option Addr) (c:Nat) (tick:Int) (N:Nat):Prop:=∀ {H:Mm} {m:Pdm} {p:Pd} {h:Hd},FlA w0 H q fl->PdM w0 H m->m.sz<=N->IsP fl m p->p.Fit (bsF fl)->HdOk h->FSpec prog w0 81 #[.slice q fl.length c, .agg (encPd m).toArray, .agg (hdC h).toArray,Vi tick] H (Still (.bool (holdsP tick p h)) H)
theorem yl_dbl2 {P:Program}{w0:World}{L:Fm}{H:Mm}{ty xt yt:TypeId}{x y:Operand}{k:Nat}(hx:Ev L x (Vi 2))(hy:Ev L y (Vi ((2 ^ k:Nat):Int)))(hk:k<16):Yl P w0 (.binOp .mul xt x y yt) ty L H (Vi ((2 ^ (k+1):Nat):Int)):=by
 have h1:2 ^ k<=2 ^ 16:=Nat.pow_le_pow_right qom qom;have h1:2 ^ k<=65536:=h1;rw[show 2 ^ (k+1)=2*2 ^ k by rw[Nat.pow_succ,Nat.mul_comm]]
 revert hy h1
 generalize 2 ^ k=z;intro hy h1;have h:=Fn (P:=P) (w0:=w0) (H:=H) (ty:=ty) (xt:=xt) (yt:=yt) hx hy qom
 rwa [show (2:Int)*(z:Int)=((2*z:Nat):Int) by omega] at h
theorem rpow13_s (n:Nat)(hn:n<=16):
  FSpec prog w0 128 #[Vi (n:Nat)] H (Still (Vi ((2 ^ n:Nat):Int)) H):=by
 refine Am func128 U ntmps128 U (rDt 17 U ?_);refine Ij (X:=Nat) (V:=fun k=>[(3,Vi ((2 ^ k:Nat):Int)),(4,Vi (k:Nat))]) (C:=[(0,_)]) (φ:=fun k=>k<=n) (μ:=fun k=>n - k) (x0:=0) ?_ (kg U) qkg ?_
 ·exact Nat.zero_le _
 rintro k hk;refine rDt 8 U ?_;refine jcd U (fun c7=> ?_) (fun c7=> ?_)
 ·have hk2:k<n:=by have h9:((k:Nat):Int)<(n:Nat):=c7;omega
  refine rCt 6 U (y_ (yl_dbl2 Al (T U) (by have h9:((k:Nat):Int)<(n:Nat):=c7;omega)) ?_ U);refine rOt 6 U (y_ (Aw (T U) Al qom) ?_ U);refine rOt 2 U ?_;refine Au (k+1) ?_ ?_ qkg (kg U) ?_
  ·omega
  ·omega
  ·exact sbt
 ·obtain rfl:k=n:=by have h9: ¬ ((k:Nat):Int)<(n:Nat):=c7;omega
  refine rCt 2 U (An (rXt 9 U (Ai U (Ol U) ?_)));exact⟨_,⟨rfl,rfl⟩,sbt⟩
theorem holds_step {fl:List Fd}(hfl:FlOk fl){q:Option Addr}{c:Nat}{tick:Int}{N:Nat}(hN:N<=1000000000)(ih:HoS w0 fl q c tick N){m:Pdm}{p:Pd}{h:Hd}(hA:FlA w0 H q fl)(hM:PdM w0 H m)(hm:m.sz<=N+1)(hI:IsP fl m p)(hF:p.Fit (bsF fl))(hh:HdOk h):
  FSpec prog w0 81 #[.slice q fl.length c, .agg (encPd m).toArray, .agg (hdC h).toArray,Vi tick] H (Still (.bool (holdsP tick p h)) H):=by
 refine Am func81 U ntmps81 U ?_;have hsz:=Gb m;have hfew:=hfl.few;refine rDt 2 U (e_ (Ot U cs_) ?_ U);rintro _ _ ⟨n5,rfl,rfl⟩;refine e_ (Ot U cs_) ?_ U;rintro _ _ ⟨n6,rfl,rfl⟩;refine rOt 7 U (y_ (Om U isAgg3 qco) ?_ U);refine rOt 9 U ?_;refine jcd U (fun c19=> ?_) (fun c19=> ?_)
 ·obtain rfl:=inv1 hI c19;refine rCt 8 U (Ai U (Ol U) ?_);exact⟨_,⟨rfl,rfl⟩,by exact sbt⟩
 ·skip
  refine rCt 6 U ?_;refine jcd U (fun c21=> ?_) (fun c21=> ?_)
  ·obtain rfl:=inv2 hI c21;refine rCt 8 U (Ai U (Ol U) ?_);exact⟨_,⟨rfl,rfl⟩,by exact sbt⟩
  ·skip
   refine rCt 6 U ?_;refine jcd U (fun c23=> ?_) (fun c23=> ?_)
   ·obtain rfl:=inv9 hI c23;refine rCt 3 U (y_ (Om U isAgg3 qco) ?_ U);refine rOt 3 U ?_;refine Aq (s:=29) (Aa U) (fun c29=> ?_) (fun c29=> ?_)
    ·refine rOt 2 U (A6 (Om U isAgg3 qco) U (A7 U U (Aa U)) ?_);refine rOt 8 U (Ai U (Ol U) ?_)
     first|exact⟨_,⟨rfl,rfl⟩,by exact sbt⟩|(refine⟨_,⟨congrArg Value.bool ?_,rfl⟩,by exact sbt⟩;simp only[holdsP];rw[Bool.eq_iff_iff];simp only[Bool.and_eq_true,Bool.or_eq_true,decide_eq_true_eq,beq_iff_eq,Bool.false_eq_true,true_and,false_and];all_goals omega)
    ·refine rOt 11 U (Ai U (Ol U) ?_);exact⟨_,⟨congrArg Value.bool (by rw[holdsP,decide_eq_false c29,Bool.false_and]),rfl⟩,by exact sbt⟩
   ·skip
    refine rCt 6 U ?_;refine jcd U (fun c35=> ?_) (fun c35=> ?_)
    ·obtain⟨x6,hl0,rfl,hx⟩:=inv6 hI c35;have hF:x6.Fit (bsF fl):=hF;refine rCt 1 U (Bf 10 (plq10 []) _ mixd qkr sb0 ?_ Bh);refine rPt 2 U (o_y U (Om U isAgg23 qco) ?_ U Ad);refine o_y U (Cd (T U) Al runUnderlying23 sizeOf25 qom (by first|exact rfl|exact hM.arr.b (i:=0) qom)) ?_ U Ad;refine o_y U (On U isAgg25 sizeOf25 U (by exact(hM.arr.mono sbt).cs (i:=0) qom)) ?_ U Ad;refine o_y U (On U isAgg32 sizeOf32 (Af hh) qcs) ?_ U Ad;refine rPt 1 U (o_y U (Ao (evq4 U U U U) call81 (fun H' hs=>ih (hA.mono (stn hs)) ((hM.sub (Ax qom)).mono (stn hs)) (by have:=Eh (Ax (l:=m.subs) (i:=0) qom);omega) hx hF hh)) ?_ U Ad)
     first|refine o_y U (Bt (T U)) ?_ U Ad|refine o_y U (Bq (T U)) ?_ U Ad
     refine rPt 1 U (Av U (rOt 5 U (Ai U (Ol U) ?_)));exact⟨_,⟨rfl,rfl⟩,by exact sbt⟩
    ·skip
     refine rCt 6 U ?_;refine jcd U (fun c46=> ?_) (fun c46=> ?_)
     ·obtain⟨x7,y7,hl0,rfl,hx,hy⟩:=inv7 hI c46;have hF:x7.Fit (bsF fl)/\y7.Fit (bsF fl):=hF;refine rCt 1 U (Bf 9 (plq9 []) _ mixd qkr sb0 ?_ Bh);refine rPt 2 U (o_y U (Om U isAgg23 qco) ?_ U Ad);refine o_y U (Cd (T U) Al runUnderlying23 sizeOf25 qom (by first|exact rfl|exact hM.arr.b (i:=0) qom)) ?_ U Ad;refine o_y U (On U isAgg25 sizeOf25 U (by exact(hM.arr.mono sbt).cs (i:=0) qom)) ?_ U Ad;refine o_y U (On U isAgg32 sizeOf32 (Af hh) qcs) ?_ U Ad;refine rPt 1 U (o_y U (Ao (evq4 U U U U) call81 (fun H' hs=>ih (hA.mono (stn hs)) ((hM.sub (Ax qom)).mono (stn hs)) (by have:=Eh (Ax (l:=m.subs) (i:=0) qom);omega) hx hF.1 hh)) ?_ U Ad);refine rPt 1 U (Av U (rOt 3 U (Bf 9 (plq9 []) _ mixd qkr sb0 ?_ Bh)));refine rPt 2 U (o_y U (Om U isAgg23 qco) ?_ U Ad);refine o_y U (Cd (T U) Al runUnderlying23 sizeOf25 qom (by first|exact rfl|exact hM.arr.b (i:=0) qom)) ?_ U Ad;refine o_y U (On U isAgg25 sizeOf25 U (by exact(hM.arr.mono sbt).cs (i:=1) qom)) ?_ U Ad;refine o_y U (On U isAgg32 sizeOf32 (Af hh) qcs) ?_ U Ad;refine rPt 1 U (o_y U (Ao (evq4 U U U U) call81 (fun H' hs=>ih (hA.mono (stn hs)) ((hM.sub (Ax qom)).mono (stn hs)) (by have:=Eh (Ax (l:=m.subs) (i:=1) qom);omega) hy hF.2 hh)) ?_ U Ad);refine rPt 1 U (Av U (kO tb 2 [9,10] rfl U (rGt 4 U ?_)))
      first|refine Aq (s:=65) (Aa U) (fun c65=> ?_) (fun c65=> ?_)|refine C0 (s:=65) (Aa U) (fun c65=> ?_) (fun c65=> ?_)
      ·refine rOt 8 U (Ai U (Ol U) ?_);exact⟨_,⟨congrArg Value.bool (by simp only[holdsP,c65,Bool.true_and]),rfl⟩,by exact sbt⟩
      ·refine rOt 8 U (Ai U (Ol U) ?_);exact⟨_,⟨congrArg Value.bool (by simp only[holdsP,c65,Bool.false_and]),rfl⟩,by exact sbt⟩
     ·skip
      refine rCt 6 U ?_;refine jcd U (fun c68=> ?_) (fun c68=> ?_)
      ·obtain⟨x8,y8,hl0,rfl,hx,hy⟩:=inv8 hI c68;have hF:x8.Fit (bsF fl)/\y8.Fit (bsF fl):=hF;refine rCt 1 U (Bf 9 (plq9 []) _ mixd qkr sb0 ?_ Bh);refine rPt 2 U (o_y U (Om U isAgg23 qco) ?_ U Ad);refine o_y U (Cd (T U) Al runUnderlying23 sizeOf25 qom (by first|exact rfl|exact hM.arr.b (i:=0) qom)) ?_ U Ad;refine o_y U (On U isAgg25 sizeOf25 U (by exact(hM.arr.mono sbt).cs (i:=0) qom)) ?_ U Ad;refine o_y U (On U isAgg32 sizeOf32 (Af hh) qcs) ?_ U Ad;refine rPt 1 U (o_y U (Ao (evq4 U U U U) call81 (fun H' hs=>ih (hA.mono (stn hs)) ((hM.sub (Ax qom)).mono (stn hs)) (by have:=Eh (Ax (l:=m.subs) (i:=0) qom);omega) hx hF.1 hh)) ?_ U Ad);refine rPt 1 U (Av U (rOt 3 U (Bf 9 (plq9 []) _ mixd qkr sb0 ?_ Bh)));refine rPt 2 U (o_y U (Om U isAgg23 qco) ?_ U Ad);refine o_y U (Cd (T U) Al runUnderlying23 sizeOf25 qom (by first|exact rfl|exact hM.arr.b (i:=0) qom)) ?_ U Ad;refine o_y U (On U isAgg25 sizeOf25 U (by exact(hM.arr.mono sbt).cs (i:=1) qom)) ?_ U Ad;refine o_y U (On U isAgg32 sizeOf32 (Af hh) qcs) ?_ U Ad;refine rPt 1 U (o_y U (Ao (evq4 U U U U) call81 (fun H' hs=>ih (hA.mono (stn hs)) ((hM.sub (Ax qom)).mono (stn hs)) (by have:=Eh (Ax (l:=m.subs) (i:=1) qom);omega) hy hF.2 hh)) ?_ U Ad);refine rPt 1 U (Av U (kO tb 2 [11,12] rfl U (rGt 4 U ?_)))
       first|refine Aq (s:=87) (Aa U) (fun c87=> ?_) (fun c87=> ?_)|refine C0 (s:=87) (Aa U) (fun c87=> ?_) (fun c87=> ?_)
       ·refine rOt 8 U (Ai U (Ol U) ?_);exact⟨_,⟨congrArg Value.bool (by simp only[holdsP,c87,Bool.true_or]),rfl⟩,by exact sbt⟩
       ·refine rOt 8 U (Ai U (Ol U) ?_);exact⟨_,⟨congrArg Value.bool (by simp only[holdsP,c87,Bool.false_or]),rfl⟩,by exact sbt⟩
      ·have hfd:=invF hI hF c19 c21 c35 c46 c68 c23;have hpw:2 ^ (fndFd fl m.nm).1.w<=2 ^ 16:=Nat.pow_le_pow_right qom hfd.w16;have hpw:2 ^ (fndFd fl m.nm).1.w<=65536:=hpw;refine rCt 7 U (y_ (Om U isAgg9 qco) ?_ U);refine y_ (Ao (evq2 U U) call82 (fun H' hs=>Hn fl q c (hA.mono (stn hs)) qom m.nm)) ?_ U;refine rOt 3 U (e_ (Ag zeroValue127 cs_) ?_ U);rintro _ _ ⟨n13,rfl,rfl⟩;refine Bo (Oq U U sizeOf127) U Ad ?_;rintro _ _ ⟨rfl,rfl⟩;refine rOt 5 U (y_ (On U isAgg127 sizeOf127 U qcs) ?_ U);refine y_ (On U isAgg32 sizeOf32 (Af hh) qcs) ?_ U;refine y_ (Ao (evq2 U U) call113 (fun H' hs=>Gl (fndFd fl m.nm).1 hfd h hh)) (kO tb 3 [5,13,15] rfl U (rGt 4 U (y_ (Om U isAgg3 qco) ?_ U))) U;refine rOt 9 U ?_;refine jcd U (fun c102=> ?_) (fun c102=> ?_)
       ·obtain⟨n3,hva,rfl⟩:=inv3 hI c102;refine rCt 4 U (y_ (Om U isAgg3 qco) ?_ U);refine rOt 7 U (Ai U (Ol U) ?_)
        first|exact⟨_,⟨rfl,rfl⟩,by exact sbt⟩|(refine⟨_,⟨congrArg Value.bool ?_,rfl⟩,by exact sbt⟩;simp only[holdsP];rw[Bool.eq_iff_iff];simp only[Bool.and_eq_true,Bool.or_eq_true,decide_eq_true_eq,beq_iff_eq,Bool.false_eq_true,true_and,false_and];all_goals omega)
       ·skip
        refine rCt 6 U ?_;refine jcd U (fun c108=> ?_) (fun c108=> ?_)
        ·obtain⟨n4,k4,hva,hto,rfl⟩:=inv4 hI c108;have hF:FIn (bsF fl) (fndFd fl m.nm).1/\n4<2 ^ (fndFd fl m.nm).1.w/\k4<=(fndFd fl m.nm).1.w:=hF;have hkw:k4<=(fndFd fl m.nm).1.w/\(fndFd fl m.nm).1.w<=1000000000:=⟨hF.2.2,by have:=hfd.w16;omega⟩;refine rCt 3 U (y_ (Om U isAgg3 qco) ?_ U);refine rOt 1 U (y_ (Om U isAgg3 qco) ?_ U);refine y_ (yl_subV (c:=k4) (T U) (T U) hto hkw) (y_ (Ao (evq1 U) call128 (fun H' hs=>rpow13_s ((fndFd fl m.nm).1.w - k4) (by have:=hfd.w16;omega))) ?_ U) U;refine rOt 4 U (Bf 9 (plq9 []) _ mixd qkr sb0 ?_ Bh);refine rPt 2 U (o_y U (Dw (T U) (T U) (by have:=Nat.two_pow_pos ((fndFd fl m.nm).1.w - k4);have:=Dk (fndFd fl m.nm).1 h;omega)) ?_ U Ad);refine rPt 1 U (o_y U (Om U isAgg3 qco) ?_ U Ad);refine rPt 1 U (o_y U (yl_quoV (T U) (T U) hva (by have:=Nat.two_pow_pos ((fndFd fl m.nm).1.w - k4);omega)) ?_ U Ad);refine rPt 2 U (Av U (rOt 5 U (Ai U (Ol U) ?_)))
         first|exact⟨_,⟨rfl,rfl⟩,by exact sbt⟩|(refine⟨_,⟨congrArg Value.bool ?_,rfl⟩,by exact sbt⟩;simp only[holdsP];rw[Bool.eq_iff_iff];simp only[Bool.and_eq_true,Bool.or_eq_true,decide_eq_true_eq,beq_iff_eq,Bool.false_eq_true,true_and,false_and];all_goals omega)
        ·obtain⟨n5,k5,hva,hto,rfl⟩:=inv5 hI c19 c21 c102 c108 c35 c46 c68 c23;refine rCt 6 U (y_ (Om U isAgg3 qco) ?_ U);refine rOt 3 U ?_;refine Aq (s:=128) (Aa U) (fun c128=> ?_) (fun c128=> ?_)
         ·refine rOt 2 U (A6 (Om U isAgg3 qco) U (A7 U U (Aa U)) ?_);refine rOt 6 U (Ai U (Ol U) ?_)
          first|exact⟨_,⟨rfl,rfl⟩,by exact sbt⟩|(refine⟨_,⟨congrArg Value.bool ?_,rfl⟩,by exact sbt⟩;simp only[holdsP];rw[Bool.eq_iff_iff];simp only[Bool.and_eq_true,Bool.or_eq_true,decide_eq_true_eq,beq_iff_eq,Bool.false_eq_true,true_and,false_and];all_goals omega)
         ·refine rOt 9 U (Ai U (Ol U) ?_);exact⟨_,⟨congrArg Value.bool (by rw[holdsP,decide_eq_false (show ¬ n5<=fget (fndFd fl m.nm).1 h by omega),Bool.false_and]),rfl⟩,by exact sbt⟩
theorem holds_s {w0:World}{fl:List Fd}(hfl:FlOk fl){q:Option Addr}{c:Nat}{tick:Int}(N:Nat)(hN:N<=1000000000):HoS w0 fl q c tick N:=by
 induction N with
 |zero=>intro H m p h _ _ h3;have:=Gb m;omega
 |succ N ih=>
  have ih:HoS w0 fl q c tick N:=ih qom;intro H m p h hA hM hm hI hF hh;exact holds_step hfl qom ih hA hM hm hI hF hh
def SetIs (w0:World) (P:Hd->Prop) (H:Mm) (l:List Hd) (q:Option Addr) (c:Nat):Prop:=HsA w0 H l q c/\l.Pairwise hLt/\(∀ g,g∈l↔P g)/\l.length<=256
abbrev EvK13 (w0:World) (P:Hd->Prop) (H:Mm):Value->Mm->Prop:=fun u H'=>∃ (l:List Hd) (q:Option Addr) (c:Nat) (e:Int),u= .tuple #[.slice q l.length c,Vi e]/\((e=0->SetIs w0 P H' l q c)/\0<=e/\e<=2)/\H.Sublist H'
def EvS13 (w0:World) (fl:List Fd) (q:Option Addr) (c:Nat) (tick:Int) (N:Nat):Prop:=∀ {H:Mm} {m:Pom} {p:Po} {h:Hd},FlA w0 H q fl->PoM w0 H m->m.sz<=N->IsO fl m p->p.Fit (bsF fl)->HdOk h->FSpec prog w0 35 #[.slice q fl.length c, .agg (encPo m).toArray, .agg (hdC h).toArray,Vi tick] H (EvK13 w0 (den tick p h) H)
theorem hs_nil :HsA w0 H [] none 0:=⟨fun i u hi=>by simp at hi,fun x hx=>by simp at hx,Nat.le_refl _⟩
theorem image_s {fl:List Fd}(hfl:FlOk fl){q:Option Addr}{c:Nat}{tick:Int}{N:Nat}(ih:EvS13 w0 fl q c tick N){m:Pom}{p:Po}(hA:FlA w0 H q fl)(hM:PoM w0 H m)(hm:m.sz<=N)(hI:IsO fl m p)(hF:p.Fit (bsF fl))(hl:List Hd)(qh:Option Addr)(ch:Nat)(hB:HsA w0 H hl qh ch)(hlen:hl.length<=1000):
  FSpec prog w0 85 #[.slice q fl.length c, .agg (encPo m).toArray, .slice qh hl.length ch,Vi tick] H (EvK13 w0 (fun g=>∃ x,x∈hl/\den tick p x g) H):=by
 refine Am func85 U ntmps85 U (rDt 2 U (e_ (Ot U cs_) ?_ U));rintro _ _ ⟨n5,rfl,rfl⟩;refine rOt 16 U ?_;refine A8 (X:=Nat × List Hd × Option Addr × Nat × Mm) (V:=fun ⟨k,l,ql,cl,M⟩=>[(10, .slice ql l.length cl),(11,Vi (k:Nat))]) (C:=[(0,_),(2,_),(3,_),(5,_)]) (G:=fun ⟨k,l,ql,cl,M⟩=>M) (φ:=fun ⟨k,l,ql,cl,M⟩=>k<=hl.length/\HsA w0 M l ql cl/\l.Pairwise hLt/\(∀ g,g∈l↔∃ x,x∈hl.take k/\den tick p x g)/\l.length<=256/\((n5,Cl (encPo m) 28)::H).Sublist M) (μ:=fun ⟨k,l,ql,cl,M⟩=>hl.length - k) (x0:=(0,[],none,0,(n5,Cl (encPo m) 28)::H)) ?_ (kg U) qkg sb0 ?_
 ·exact⟨Nat.zero_le _,hs_nil, .nil,fun g=>by simp,by simp,sb0⟩
 rintro⟨k,l,ql,cl,M⟩ ⟨hk,hL,hul,hmm,hn,hHM⟩;refine rDt 9 U ?_;refine jcd U (fun c17=> ?_) (fun c17=> ?_)
 ·have hk2:k<hl.length:=Int.ofNat_lt.1 c17;refine rCt 5 U (Bf 13 (plq7 [(7,false),(8,true),(9,true),(10,true),(11,true),(12,true)]) _ mixd qkr sb0 ?_ Bh);refine rPt 1 U (o_y U (On U isAgg28 sizeOf28 U (by exact Ae (Fnd.mono fnd_h hHM))) ?_ U Ad);refine rPt 2 U (o_y U (Oo U U runUnderlying58 sizeOf32 qom (by first|exact rfl|exact hB.1.b (i:=k) qom)) ?_ U Ad);refine o_y U (On U isAgg32 sizeOf32 (Af (hB.ok (k:=k) qom)) (by exact((hB.mono ((List.sublist_cons_self _ _).trans hHM)).hd).cs (i:=k) qom)) ?_ U Ad;refine rPt 1 U (o_e U (Ah (evq4 U U U U) call35 (ih (hA.mono ((List.sublist_cons_self _ _).trans hHM)) (hM.mono ((List.sublist_cons_self _ _).trans hHM)) hm hI hF (hB.ok (k:=k) hk2))) ?_ U Ad);rintro _ M2 ⟨l2,q2,c2,e2,rfl,⟨he2,ge2⟩,hM2⟩;refine⟨(by assumption),?_⟩;refine rPt 5 U (Av U (rOt 9 U ?_));refine jcd U (fun c32=> ?_) (fun c32=> ?_)
  ·skip
   refine rCt 11 U (Bg (rXt 2 U (Ai U (.tmp (Aa U) (Ol U)) ?_)));exact⟨_,⟨[],none,0,e2,rfl,⟨fun h9=>absurd h9 c32,ge2⟩,((List.sublist_cons_self _ _).trans hHM).trans hM2⟩,sb0⟩
  ·have hZ2:=he2 (Classical.not_not.1 c32);refine rCt 6 U (e_ (Ah (evq2 U U) call37 (J8 l l2 ql q2 cl c2 (hL.mono hM2) hul hZ2.1 qom (by have:=hZ2.2.2.2;omega))) ?_ U);rintro _ M3 ⟨l3,q3,c3,rfl,hL3,hul3,⟨hm3,hn3⟩,hM3⟩;refine kO tb 10 [0,2,3,5,10,11,39] rfl U ?_;refine jcd U (fun c39=> ?_) (fun c39=> ?_)
   ·skip
    refine rCt 9 U (Bg (rXt 2 U (Ai U (.tmp (Aa U) (Ol U)) ?_)));exact⟨_,⟨[],none,0,2,rfl,⟨fun h9=>absurd h9 qde,by decide⟩,((List.sublist_cons_self _ _).trans hHM).trans (hM2.trans hM3)⟩,sb0⟩
   ·have hz3:l3.length<=256:=by have h9: ¬ ((l3.length:Nat):Int)>256:=c39;omega
    refine rCt 5 U (y_ (Aw (T U) Al qom) ?_ U);refine rOt 2 U ?_;refine Au ((k+1,l3,q3,c3,M3)) ?_ ?_ qkg (kg U) ?_
    ·refine⟨hk2,hL3,hul3,fun g=> ?_,hz3,hHM.trans (hM2.trans hM3)⟩;rw[hm3,hmm,hZ2.2.2.1,List.take_succ_eq_append_getElem hk2,<- Ar hk2]
     constructor
     ·rintro(⟨x,h1,h2⟩|h2)
      ·exact⟨x,List.mem_append.2 (.inl h1),h2⟩
      ·exact⟨_,List.mem_append.2 (.inr (List.mem_singleton.2 U)),h2⟩
     ·rintro⟨x,h1,h2⟩;rcases List.mem_append.1 h1 with h1|h1
      ·exact .inl ⟨x,h1,h2⟩
      ·rw[List.mem_singleton.1 h1] at h2;exact .inr h2
    ·first|omega|(simp only[];omega)
    ·exact sbt
 ·obtain rfl:k=hl.length:=by have h9: ¬ ((k:Nat):Int)<(hl.length:Nat):=c17;omega
  refine rCt 2 U (An (rXt 10 U (Ai U (.tmp (Aa U) (Ol U)) ?_)));exact⟨_,⟨l,ql,cl,0,rfl,⟨fun _=>⟨hL,hul,by rw[List.take_length] at hmm;exact hmm,hn⟩,Int.le_refl _,by decide⟩,((List.sublist_cons_self _ _).trans hHM)⟩,sb0⟩
theorem G1 {α:Type}:∀ {l m:List α},l.Nodup->(∀ x∈l,x∈m)->l.length<=m.length
 |[],m,_,_=>Nat.zero_le _
 |x::l,m,hn,hs=>by
  obtain⟨m1,m2,rfl⟩:=List.append_of_mem (hs x (by simp));obtain⟨hx,hn⟩:=List.nodup_cons.1 hn;have:=G1 (m:=m1++m2) hn fun y hy=>by
   have h1:=hs y (List.mem_cons_of_mem _ hy);simp only[List.mem_append,List.mem_cons] at h1 ⊢;rcases h1 with h1|rfl|h1
   ·exact .inl h1
   ·exact(hx hy).elim
   ·exact .inr h1
  simp only[List.length_append,List.length_cons] at this ⊢;omega
theorem up_nodup {l:List Hd}(h:l.Pairwise hLt):l.Nodup:=h.imp fun h e=>by subst e;exact h.irr
def frN (o l:List Hd) (j:Nat):List Hd:=(l.take j).filter fun x=> !decide (x∈o)
theorem frN_yes {o l:List Hd}{j:Nat}(hj:j<l.length)(h:gd l j∉o):frN o l (j+1)=frN o l j++[gd l j]:=by
 unfold frN;rw[List.take_succ_eq_append_getElem hj,List.filter_append,<- Ar hj];simp[h]
theorem Na {o l:List Hd}{j:Nat}(hj:j<l.length)(h:gd l j∈o):frN o l (j+1)=frN o l j:=by
 unfold frN;rw[List.take_succ_eq_append_getElem hj,List.filter_append,<- Ar hj];simp[h]
theorem frN_mem {o l:List Hd}{x:Hd}:x∈frN o l l.length↔x∈l/\x∉o:=by unfold frN;simp
theorem Lj (o l:List Hd)(j:Nat):(frN o l j).length<=l.length:=by unfold frN;exact Nat.le_trans (List.length_filter_le _ _) (by simp;omega)
structure ClI (D:Hd->Hd->Prop) (h:Hd) (o f:List Hd):Prop where
 up:o.Pairwise hLt
 hin:h∈o
 cl:∀ g,g∈o->Cl' D h g
 sub:∀ x∈f,x∈o
 done:∀ x,x∈o->x∈f\/∀ g,D x g->g∈o
theorem cli_end {D:Hd->Hd->Prop}{h:Hd}{o:List Hd}(h9:ClI D h o [])(g:Hd):g∈o↔Cl' D h g:=by
 have key:∀ {x y:Hd},Cl' D x y->x∈o->y∈o:=by
  intro x y a
  induction a with
  |base=>exact id
  |step b _ ih=>exact fun hx=>ih (((h9.done _ hx).resolve_left (by simp)) _ b)
 exact⟨h9.cl g,fun a=>key a h9.hin⟩
theorem cli_next {D:Hd->Hd->Prop}{h:Hd}{o f l o':List Hd}(h9:ClI D h o f)(hl:∀ g,g∈l↔∃ x,x∈f/\D x g)(hu:o'.Pairwise hLt)(ho:∀ x,x∈o'↔x∈o\/x∈frN o l l.length):ClI D h o' (frN o l l.length):=by
 refine⟨hu,(ho h).2 (.inl h9.hin),fun g hg=> ?_,fun x hx=>(ho x).2 (.inr hx),fun x hx=> ?_⟩
 ·rcases(ho g).1 hg with hg|hg
  ·exact h9.cl g hg
  ·obtain⟨x,hx,d⟩:=(hl g).1 (frN_mem.1 hg).1;exact(h9.cl x (h9.sub x hx)).trans (.one d)
 ·rcases(ho x).1 hx with hx|hx
  ·refine .inr fun g d=> ?_
   rcases h9.done x hx with hf|hf
   ·by_cases hg:g∈o
    ·exact(ho g).2 (.inl hg)
    ·exact(ho g).2 (.inr (frN_mem.2 ⟨(hl g).2 ⟨x,hf,d⟩,hg⟩))
   ·exact(ho g).2 (.inl (hf g d))
  ·exact .inl hx
theorem cli_grow {o l o':List Hd}(hu:o.Pairwise hLt)(ho:∀ x,x∈o'↔x∈o\/x∈frN o l l.length):o.length<=o'.length/\(¬ (frN o l l.length).length=0->o.length+1<=o'.length):=by
 refine⟨G1 (up_nodup hu) fun x hx=>(ho x).2 (.inl hx),fun h0=> ?_⟩
 match hf:frN o l l.length,h0 with
 |y::r,_=>
  have hy:y∈frN o l l.length:=by rw[hf];simp
  have:=G1 (l:=y::o) (m:=o') (List.nodup_cons.2 ⟨(frN_mem.1 hy).2,up_nodup hu⟩) fun x hx=>by
   rcases List.mem_cons.1 hx with rfl|hx
   ·exact(ho _).2 (.inr hy)
   ·exact(ho x).2 (.inl hx)
  simpa using this
 |[],h0=>exact absurd rfl h0
theorem Nb {n:Nat}{h:Hd}(hf:Fnd H n (Cl (hdC h) 32))(hh:HdOk h):HsA w0 H [h] (some ⟨n,0,none⟩) 1:=⟨fun j x hj=>by
 refine⟨rfl,fun k v hk=> ?_⟩
 match j,hj with
 |0,hj=>
  have:h=x:=by simpa using hj
  subst this;rw[E1 hh] at hk;exact Eb hf (by rw[show oq (some (⟨n,0,none⟩:Addr))+0*10+k=k by show 0+0*10+k=k;omega];exact hk),fun x hx=>by rw[List.mem_singleton.1 hx];exact hh,Nat.le_refl _⟩
theorem fr_ok {o l:List Hd}{j:Nat}(h:∀ x∈l,HdOk x):∀ x∈frN o l j,HdOk x:=fun x hx=>h x (List.mem_of_mem_take (List.mem_filter.1 hx).1)
abbrev ClK (w0:World) (P:Hd->Prop) (H:Mm):Value->Mm->Prop:=fun u H'=>∃ (l:List Hd) (q:Option Addr) (c:Nat) (r e:Int),u= .tuple #[.slice q l.length c,Vi r,Vi e]/\((e=0->SetIs w0 P H' l q c)/\0<=e/\e<=2)/\H.Sublist H'
theorem closure_s {fl:List Fd}(hfl:FlOk fl){q:Option Addr}{c:Nat}{tick:Int}{N:Nat}(ih:EvS13 w0 fl q c tick N){m:Pom}{p:Po}(hA:FlA w0 H q fl)(hM:PoM w0 H m)(hm:m.sz<=N)(hI:IsO fl m p)(hF:p.Fit (bsF fl)){h:Hd}(hh:HdOk h):
  FSpec prog w0 86 #[.slice q fl.length c, .agg (encPo m).toArray, .agg (hdC h).toArray,Vi tick] H (ClK w0 (Cl' (den tick p) h) H):=by
 refine Am func86 U ntmps86 U (rDt 2 U (e_ (Ot U cs_) ?_ U));rintro _ _ ⟨n5,rfl,rfl⟩;refine e_ (Ot U cs_) ?_ U;rintro _ _ ⟨n6,rfl,rfl⟩;refine rOt 7 U (y_ (On U isAgg32 sizeOf32 (Af hh) qcs) ?_ U);refine e_ (Bb (.cons (T U) .nil) (bs42 hh)) ?_ U;rintro _ _ ⟨n19,rfl,rfl⟩;refine rOt 5 U (y_ (On U isAgg32 sizeOf32 (Af hh) qcs) ?_ U);refine e_ (Bb (.cons (T U) .nil) (bs42 hh)) ?_ U;rintro _ _ ⟨n21,rfl,rfl⟩;refine rOt 10 U ?_;refine A8 (X:=List Hd × Option Addr × Nat × List Hd × Option Addr × Nat × Int × Mm) (V:=fun ⟨o,qo,co,f,qf,cf,r,M⟩=>[(11, .slice qo o.length co),(12, .slice qf f.length cf),(13,Vi r)]) (C:=[(0,_),(3,_),(5,_)]) (G:=fun ⟨o,qo,co,f,qf,cf,r,M⟩=>M) (φ:=fun ⟨o,qo,co,f,qf,cf,r,M⟩=>ClI (den tick p) h o f/\HsA w0 M o qo co/\HsA w0 M f qf cf/\o.length<=256/\f.length<=256/\0<=r/\r+1<=o.length/\((n5,Cl (encPo m) 28)::H).Sublist M) (μ:=fun ⟨o,qo,co,f,qf,cf,r,M⟩=>2*(257 - o.length)+(if f.length=0 then 0 else 1)) (x0:=([h],some ⟨n19,0,none⟩,1,[h],some ⟨n21,0,none⟩,1,0,((n21,Cl (hdC h) 32)::(n19,Cl (hdC h) 32)::(n6,Cl (hdC h) 32)::(n5,Cl (encPo m) 28)::H))) ?_ (kg U) qkg sbt ?_
 ·exact⟨⟨List.pairwise_singleton ..,by simp,fun g hg=>by rw[List.mem_singleton.1 hg];exact .base _,fun x hx=>hx,fun x hx=> .inl hx⟩,Nb fndq hh,Nb fndq hh,by simp,by simp,Int.le_refl _,by simp,sbt⟩
 rintro⟨o,qo,co,f,qf,cf,r,M⟩ ⟨hcl,ho,hf,hon,hfn0,hr0,hr1,hHM⟩;refine rDt 8 U ?_;refine jcd U (fun c24=> ?_) (fun c24=> ?_)
 ·have hf0: ¬ f.length=0:=by have h9:((f.length:Nat):Int)>0:=c24;omega
  refine rCt 6 U (y_ (On U isAgg28 sizeOf28 U (by exact Ae (Fnd.mono fnd_h hHM))) ?_ U);refine rOt 2 U (e_ (Ah (evq4 U U U U) call85 (image_s hfl ih (hA.mono ((List.sublist_cons_self _ _).trans hHM)) (hM.mono ((List.sublist_cons_self _ _).trans hHM)) hm hI hF f qf cf hf qom)) ?_ U);rintro _ M2 ⟨l2,q2,c2,e2,rfl,⟨he2,ge2⟩,hM2⟩;refine rOt 14 U ?_;refine jcd U (fun c34=> ?_) (fun c34=> ?_)
  ·skip
   refine rCt 11 U (Bg (rXt 2 U (Ai U (.tmp (Aa U) (.tmp (Aa U) (Ol U))) ?_)));exact⟨_,⟨[],none,0,0,e2,rfl,⟨fun h9=>absurd h9 c34,ge2⟩,((List.sublist_cons_self _ _).trans hHM).trans hM2⟩,sb0⟩
  ·have hZ2:=he2 (Classical.not_not.1 c34);have hL2:=hZ2.1;have hl2n:=hZ2.2.2.2;refine rCt 14 U ?_;refine A8 (X:=Nat × Sl) (V:=fun ⟨j,d⟩=>[(12,slV d (frN o l2 j).length),(16,Vi (j:Nat))]) (C:=[(0,_),(3,_),(5,_),(11,_),(13,_),(14,_)]) (G:=fun ⟨j,d⟩=>slH d ((frN o l2 j).flatMap encHd) 32++M2) (φ:=fun ⟨j,d⟩=>j<=l2.length/\SlOk d (frN o l2 j).length 10) (μ:=fun ⟨j,d⟩=>l2.length - j) (x0:=(0, .nil)) ?_ (kg U) qkg (by exact sb0) ?_
   ·exact⟨Nat.zero_le _,rfl⟩
   rintro⟨j,d⟩ ⟨hj,hd⟩;refine rDt 9 U ?_;refine jcd U (fun c39=> ?_) (fun c39=> ?_)
   ·have hj2:j<l2.length:=Int.ofNat_lt.1 c39;refine rCt 9 U (y_ (Oo U U runUnderlying58 sizeOf32 qom (by first|exact rfl|exact hL2.1.b (i:=j) qom)) ?_ U);refine y_ (On U isAgg32 sizeOf32 (Af (hL2.ok (k:=j) qom)) (by exact((hL2.mono (List.sublist_append_right _ _)).hd).cs (i:=j) qom)) ?_ U;refine y_ (Ao (evq2 U U) call131 (fun H' hs=>rin_s o qo co ((ho.mono (hM2.trans (List.sublist_append_right _ _))).mono hs) (gd l2 j) (hL2.ok (k:=j) hj2) qom)) ?_ U;refine rOt 6 U ?_;refine A6 (Bt (T U)) U Ad ?_;refine rOt 2 U ?_;refine jcd U (fun c49=> ?_) (fun c49=> ?_)
    ·have hnew:gd l2 j∉o:=by simpa using c49
     refine rCt 4 U (y_ (Oo U U runUnderlying58 sizeOf32 qom (by first|exact rfl|exact hL2.1.b (i:=j) qom)) ?_ U);refine y_ (On U isAgg32 sizeOf32 (Af (hL2.ok (k:=j) qom)) (by exact((hL2.mono (List.sublist_append_right _ _)).hd).cs (i:=j) qom)) ?_ U;refine e_ (Bb (.cons (T U) .nil) (bs42 (hL2.ok (k:=j) hj2))) ?_ U;rintro _ _ ⟨n55,rfl,rfl⟩;rw[<- E1 (hL2.ok (k:=j) hj2)];refine e_ (Cg (enc:=encHd) (d:=d) (l:=frN o l2 j) (gd l2 j) (by':=80) locq (T U) (T U) runUnderlying58 runUnderlying58 sizeOf32 typeInfo32 U zeroValue32 U C8 (C9 _) hd qde (by have:=Lj o l2 j;omega)) ?_ U;rintro _ _ ⟨d2,rfl,hd2,rfl⟩;rw[show (frN o l2 j).length+1=(frN o l2 j++[gd l2 j]).length from (by simp)] at hd2 ⊢;rw[<- frN_yes hj2 hnew] at hd2 ⊢;refine rOt 6 U (y_ (Aw (T U) Al qom) ?_ U);refine rOt 2 U ?_;refine Au ((j+1,d2)) ?_ ?_ qkg (kg U) ?_
     ·exact⟨hj2,hd2⟩
     ·first|omega|(simp only[];omega)
     ·first|(dsimp only;rw[Na hj2 hold];exact sb0)|exact sbt
    ·have hold:gd l2 j∈o:=by simpa using c49
     refine rCt 5 U (y_ (Aw (T U) Al qom) ?_ U);refine rOt 2 U ?_;refine Au ((j+1,d)) ?_ ?_ ⟨(by first|exact Aa U|(refine Cb (Aa U) (vint ?_);omega)|(refine Cb (Aa U) ?_;simp;done)|(refine Cb (Aa U) ?_;exact(by rw[Na hj2 hold]))),qat,trivial⟩ (kg U) ?_
     ·exact⟨hj2,by rw[Na hj2 hold];exact hd⟩
     ·first|omega|(simp only[];omega)
     ·(dsimp only;rw[Na hj2 hold];exact sb0)
   ·obtain rfl:j=l2.length:=by have h9: ¬ ((j:Nat):Int)<(l2.length:Nat):=c39;omega
    refine rCt 2 U (An (rXt 6 U (e_ (Ah (evq2 U U) call37 (J8 o (frN o l2 l2.length) qo (slQ d) co (slC d) (ho.mono (hM2.trans (List.sublist_append_right _ _))) hcl.up (L0 hd (fr_ok hL2.2.1)) qom (by have:=Lj o l2 l2.length;omega))) ?_ U)));rintro _ M3 ⟨l3,q3,c3,rfl,hL3,hul3,⟨hm3,hn3⟩,hM3⟩;obtain⟨hg1,hg2⟩:=cli_grow hcl.up hm3;refine rOt 11 U ?_;refine jcd U (fun c62=> ?_) (fun c62=> ?_)
    ·skip
     refine rCt 10 U (Bg (rXt 2 U (Ai U (.tmp (Aa U) (.tmp (Aa U) (Ol U))) ?_)));exact⟨_,⟨[],none,0,0,2,rfl,⟨fun h9=>absurd h9 qde,by decide⟩,((List.sublist_cons_self _ _).trans hHM).trans (hM2.trans ((List.sublist_append_right _ _).trans hM3))⟩,sb0⟩
    ·have hz3:l3.length<=256:=by have h9: ¬ ((l3.length:Nat):Int)>256:=c62;omega
     refine rCt 9 U ?_;refine jcd U (fun c65=> ?_) (fun c65=> ?_)
     ·have hfn: ¬ (frN o l2 l2.length).length=0:=by have h9:(((frN o l2 l2.length).length:Nat):Int)>0:=c65;omega
      have hg3:=hg2 hfn;refine rCt 2 U (y_ (Aw (T U) Al qom) ?_ U);refine rOt 3 U ?_;refine Au ((l3,q3,c3,frN o l2 l2.length,slQ d,slC d,r+1,M3)) ?_ ?_ qkg (kg U) ?_
      ·refine⟨cli_next hcl hZ2.2.2.1 hul3 hm3,hL3,(L0 (X:=M2) hd (fr_ok hL2.2.1)).mono hM3,hz3,by have:=Lj o l2 l2.length;omega,by omega,by omega,hHM.trans (hM2.trans ((List.sublist_append_right _ _).trans hM3))⟩
      ·dsimp only;(rw[if_neg hf0,if_neg hfn];omega)
      ·exact sb0
     ·have hfn:(frN o l2 l2.length).length=0:=by have h9: ¬ (((frN o l2 l2.length).length:Nat):Int)>0:=c65;omega
      refine rCt 2 U ?_;refine Au ((l3,q3,c3,frN o l2 l2.length,slQ d,slC d,r,M3)) ?_ ?_ qkg (kg U) ?_
      ·refine⟨cli_next hcl hZ2.2.2.1 hul3 hm3,hL3,(L0 (X:=M2) hd (fr_ok hL2.2.1)).mono hM3,hz3,by have:=Lj o l2 l2.length;omega,by omega,by omega,hHM.trans (hM2.trans ((List.sublist_append_right _ _).trans hM3))⟩
      ·dsimp only;first|(rw[if_neg hf0,if_neg hfn];omega)|(rw[if_neg hf0,if_pos hfn];omega)
      ·exact sb0
 ·obtain rfl:f=[]:=List.eq_nil_of_length_eq_zero (by have h9: ¬ ((f.length:Nat):Int)>0:=c24;omega);refine rCt 2 U (An (rXt 12 U (Ai U (.tmp (Aa U) (.tmp (Aa U) (Ol U))) ?_)));exact⟨_,⟨o,qo,co,r,0,rfl,⟨fun _=>⟨ho,hcl.up,cli_end hcl,hon⟩,Int.le_refl _,by decide⟩,((List.sublist_cons_self _ _).trans hHM)⟩,sb0⟩
section
variable {fl:List Fd} {m:Pom} {p:Po}
theorem oinv1 (hI:IsO fl m p)(hk:m.kind=1):∃ x,p= .fil x/\IsP fl m.pr x:=by
 cases hI with
 |fil _ h=>exact⟨_,rfl,h⟩
 |_=>omega
theorem oinv2 (hI:IsO fl m p)(hk:m.kind=2):∃ n:Nat,m.n=n/\p= .set (fndFd fl m.nm).1 n:=by
 cases hI with
 |set _ h=>exact⟨_,h,rfl⟩
 |_=>omega
theorem oinv3 (hI:IsO fl m p)(hk:m.kind=3):∃ x y,1<m.subs.length/\p= .uni x y/\IsO fl (gd m.subs 0) x/\IsO fl (gd m.subs 1) y:=by
 cases hI with
 |uni _ h1 h2 h3=>rw[h1];exact⟨_,_,Nat.lt_succ_self _,rfl,h2,h3⟩
 |_=>omega
theorem oinv4 (hI:IsO fl m p)(hk:m.kind=4):∃ x y,1<m.subs.length/\p= .seq x y/\IsO fl (gd m.subs 0) x/\IsO fl (gd m.subs 1) y:=by
 cases hI with
 |seq _ h1 h2 h3=>rw[h1];exact⟨_,_,Nat.lt_succ_self _,rfl,h2,h3⟩
 |_=>omega
theorem oinv5 (hI:IsO fl m p)(h1: ¬ m.kind=1)(h2: ¬ m.kind=2)(h3: ¬ m.kind=3)(h4: ¬ m.kind=4):∃ x,0<m.subs.length/\p= .star x/\IsO fl (gd m.subs 0) x:=by
 cases hI with
 |star _ h1 h2=>rw[h1];exact⟨_,Nat.zero_lt_one,rfl,h2⟩
 |_=>omega
end
theorem rset_v (f:Fd)(hf:FdOk f)(h:Hd)(hh:HdOk h){v:Int}(n:Nat)(hv:v=(n:Nat))(hn:n<2 ^ f.w):
  FSpec prog w0 83 #[.agg (encF f).toArray, .agg (hdC h).toArray,Vi v] H (Still (.agg (hdC (fset f h n)).toArray) H):=by subst hv;exact rset_s f hf h hh n hn
abbrev BdK (l:List Hd) (q:Option Addr) (c:Nat) (H:Mm):Value->Mm->Prop:=fun u H'=>∃ (l':List Hd) (q':Option Addr) (c':Nat) (e:Int),(u= .tuple #[.slice q' l'.length c',Vi e]/\(e=0->l'=l/\q'=q/\c'=c/\l.length<=256)/\0<=e/\e<=2)/\H'=H
theorem bounded_s (l:List Hd)(q:Option Addr)(c:Nat):
  FSpec prog w0 84 #[.slice q l.length c] H (BdK l q c H):=by
 refine Am func84 U ntmps84 U (rDt 14 U ?_);refine jcd U (fun c6=> ?_) (fun c6=> ?_)
 ·refine rCt 8 U (Ai U (.tmp (Aa U) (Ol U)) ?_);exact⟨_,⟨[],none,0,2,⟨rfl,fun h=>absurd h qde,by decide⟩,rfl⟩,sbt⟩
 ·refine rCt 10 U (Ai U (.tmp (Aa U) (Ol U)) ?_);exact⟨_,⟨l,q,c,0,⟨rfl,fun _=>⟨rfl,rfl,rfl,by have h9: ¬ ((l.length:Nat):Int)>256:=c6;omega⟩,Int.le_refl _,by decide⟩,rfl⟩,sbt⟩
theorem set_uni {w0:World}{A B:Hd->Prop}{H H' H2:Mm}{l1 l2 l l':List Hd}{q1 q2 q q':Option Addr}{c1 c2 c c':Nat}{e:Int}(h1:SetIs w0 A H l1 q1 c1)(h2:SetIs w0 B H2 l2 q2 c2)(hL:HsA w0 H' l q c)(hu:l.Pairwise hLt)(hm:∀ x,x∈l↔x∈l1\/x∈l2)(he:e=0->l'=l/\q'=q/\c'=c/\l.length<=256):e=0->SetIs w0 (fun g=>A g\/B g) H' l' q' c':=fun h9=>by
 obtain⟨rfl,rfl,rfl,hn⟩:=he h9;exact⟨hL,hu,fun g=>by rw[hm,h1.2.2.1,h2.2.2.1],hn⟩
theorem rev_step {fl:List Fd}(hfl:FlOk fl){q:Option Addr}{c:Nat}{tick:Int}{N:Nat}(hN:N<=100000000)(ih:EvS13 w0 fl q c tick N){m:Pom}{p:Po}{h:Hd}(hA:FlA w0 H q fl)(hM:PoM w0 H m)(hm:m.sz<=N+1)(hI:IsO fl m p)(hF:p.Fit (bsF fl))(hh:HdOk h):
  FSpec prog w0 35 #[.slice q fl.length c, .agg (encPo m).toArray, .agg (hdC h).toArray,Vi tick] H (EvK13 w0 (den tick p h) H):=by
 refine Am func35 U ntmps35 U ?_;have hsz:=Dy m;have hfew:=hfl.few;refine rDt 2 U (e_ (Ot U cs_) ?_ U);rintro _ _ ⟨n5,rfl,rfl⟩;refine e_ (Ot U cs_) ?_ U;rintro _ _ ⟨n6,rfl,rfl⟩;refine rOt 8 U (y_ (Om U isAgg3 qco) ?_ U);refine rOt 9 U ?_;refine jcd U (fun c24=> ?_) (fun c24=> ?_)
 ·obtain⟨x1,rfl,hx⟩:=oinv1 hI c24;have hF:x1.Fit (bsF fl):=hF;refine rCt 4 U ?_;refine y_ (On U isAgg25 sizeOf25 U (by exact Lz fndq)) ?_ U;refine y_ (On U isAgg32 sizeOf32 (Af hh) qcs) ?_ U;refine rOt 1 U (y_ (Ao (evq4 U U U U) call81 (fun H' hs=>holds_s hfl 1000000000 (Nat.le_refl _) (hA.mono (stn hs)) (hM.pred.mono (stn hs)) qom hx hF hh)) ?_ U);refine rOt 9 U ?_
  first|refine jcd U (fun c32=> ?_) (fun c32=> ?_)|refine jcn U (fun c32=> ?_) (fun c32=> ?_)
  ·refine rCt 2 U (y_ (On U isAgg32 sizeOf32 (Af hh) qcs) ?_ U);refine e_ (Bb (.cons (T U) .nil) (bs42 hh)) ?_ U;rintro _ _ ⟨n34,rfl,rfl⟩;refine rOt 8 U (Ai U (.tmp (Aa U) (Ol U)) ?_);exact⟨_,⟨[h],some ⟨n34,0,none⟩,1,0,rfl,⟨fun _=>⟨Nb fndq hh,List.pairwise_singleton ..,fun g=>by simp[den,c32],by simp⟩,Int.le_refl _,by decide⟩,sbt⟩,sb0⟩
  ·refine rCt 11 U (Ai U (.tmp (Aa U) (Ol U)) ?_);exact⟨_,⟨[],none,0,0,rfl,⟨fun _=>⟨hs_nil, .nil,fun g=>by simp[den,c32],by simp⟩,Int.le_refl _,by decide⟩,sbt⟩,sb0⟩
 ·skip
  refine rCt 6 U ?_;refine jcd U (fun c35=> ?_) (fun c35=> ?_)
  ·obtain⟨nn,hnn,rfl⟩:=oinv2 hI c35;have hF:FIn (bsF fl) (fndFd fl m.nm).1/\nn<2 ^ (fndFd fl m.nm).1.w:=hF;refine rCt 4 U (y_ (Om U isAgg9 qco) ?_ U);refine y_ (Ao (evq2 U U) call82 (fun H' hs=>Hn fl q c (hA.mono (stn hs)) qom m.nm)) ?_ U;refine rOt 3 U (e_ (Ag zeroValue127 cs_) ?_ U);rintro _ _ ⟨n11,rfl,rfl⟩;refine Bo (Oq U U sizeOf127) U Ad ?_;rintro _ _ ⟨rfl,rfl⟩;refine rOt 5 U (y_ (On U isAgg127 sizeOf127 U qcs) ?_ U);refine y_ (On U isAgg32 sizeOf32 (Af hh) qcs) ?_ U;refine rOt 1 U (y_ (Om U isAgg3 qco) ?_ U);refine y_ (Ao (evq3 U U U) call83 (fun H' hs=>rset_v (fndFd fl m.nm).1 hF.1.ok h hh nn hnn hF.2)) (e_ (Bb (.cons (T U) .nil) (bs42 (Bz _ _ _))) ?_ U) U;rintro _ _ ⟨n49,rfl,rfl⟩;refine rOt 7 U (Ai U (.tmp (Aa U) (Ol U)) ?_);exact⟨_,⟨[fset (fndFd fl m.nm).1 h nn],some ⟨n49,0,none⟩,1,0,rfl,⟨fun _=>⟨Nb fndq (Bz _ _ _),List.pairwise_singleton ..,fun g=>by simp[den],by simp⟩,Int.le_refl _,by decide⟩,sbt⟩,sb0⟩
  ·skip
   refine rCt 6 U ?_;refine jcd U (fun c50=> ?_) (fun c50=> ?_)
   ·obtain⟨x3,y3,hl0,rfl,hx,hy⟩:=oinv3 hI c50;have hF:x3.Fit (bsF fl)/\y3.Fit (bsF fl):=hF;refine rCt 1 U (Bf 13 (plq7 [(7,false),(8,true),(9,true),(10,true),(11,true),(12,true)]) _ mixd qkr sb0 ?_ Bh);refine rPt 2 U (o_y U (Om U isAgg26 qco) ?_ U Ad);refine o_y U (Cd (T U) Al runUnderlying26 sizeOf28 qom (by first|exact rfl|exact hM.arr.b (i:=0) qom)) ?_ U Ad;refine o_y U (On U isAgg28 sizeOf28 U (by exact(hM.arr.mono ((show H.Sublist ((n6,Cl (hdC h) 32)::(n5,Cl (encPo m) 28)::H) by exact sbt))).cs (i:=0) qom)) ?_ U Ad;refine o_y U (On U isAgg32 sizeOf32 (Af hh) qcs) ?_ U Ad;refine rPt 1 U (o_e U (Ah (evq4 U U U U) call35 (ih (hA.mono ((show H.Sublist ((n6,Cl (hdC h) 32)::(n5,Cl (encPo m) 28)::H) by exact sbt))) ((hM.sub (Ax qom)).mono ((show H.Sublist ((n6,Cl (hdC h) 32)::(n5,Cl (encPo m) 28)::H) by exact sbt))) (by have:=D1 (Ax (l:=m.subs) (i:=0) qom);omega) hx hF.1 hh)) ?_ U Ad);rintro _ M2 ⟨l1,q1,c1,e1,rfl,⟨he1,ge1⟩,hM2⟩;refine⟨(by assumption),?_⟩;refine rPt 5 U (Av U (rOt 3 U (Bf 13 (plq7 [(7,false),(8,true),(9,true),(10,true),(11,true),(12,true)]) _ mixd qkr sb0 ?_ Bh)));refine rPt 2 U ?_;refine o_y U (Om U isAgg26 (by first|exact c_o|exact(Ae (Fnd.mono fndq hM2)) 8 _ U)) ?_ U Ad;refine o_y U (Cd (T U) Al runUnderlying26 sizeOf28 qom (by first|exact rfl|exact hM.arr.b (i:=0) qom)) ?_ U Ad;refine o_y U (On U isAgg28 sizeOf28 U (by exact(hM.arr.mono ((show H.Sublist ((n6,Cl (hdC h) 32)::(n5,Cl (encPo m) 28)::H) by exact sbt).trans hM2)).cs (i:=1) qom)) ?_ U Ad;refine o_y U (On U isAgg32 sizeOf32 (Af hh) (by exact Ae (Fnd.mono fndq hM2))) ?_ U Ad;refine rPt 1 U (o_e U (Ah (evq4 U U U U) call35 (ih (hA.mono ((show H.Sublist ((n6,Cl (hdC h) 32)::(n5,Cl (encPo m) 28)::H) by exact sbt).trans hM2)) ((hM.sub (Ax qom)).mono ((show H.Sublist ((n6,Cl (hdC h) 32)::(n5,Cl (encPo m) 28)::H) by exact sbt).trans hM2)) (by have:=D1 (Ax (l:=m.subs) (i:=1) qom);omega) hy hF.2 hh)) ?_ U Ad);rintro _ M3 ⟨l2,q2,c2,e2,rfl,⟨he2,ge2⟩,hM3⟩;refine⟨(by assumption),?_⟩;refine rPt 5 U (Av U (kO tb 2 [13,14,15,16] rfl U (rGt 6 U ?_)));refine Aq (s:=76) (Aa U) (fun c76=> ?_) (fun c76=> ?_)
    ·skip
     refine rOt 16 U (Ai U (.tmp (Aa U) (Ol U)) ?_);exact⟨_,⟨[],none,0,2,rfl,⟨fun h9=>absurd h9 qde,by decide⟩,(show H.Sublist ((n6,Cl (hdC h) 32)::(n5,Cl (encPo m) 28)::H) by exact sbt).trans (hM2.trans hM3)⟩,sb0⟩
    ·have hZ1:=he1 (Classical.not_not.1 c76);refine rOt 5 U ?_;refine jcd U (fun c79=> ?_) (fun c79=> ?_)
     ·skip
      refine rCt 10 U (Ai U (.tmp (Aa U) (Ol U)) ?_);exact⟨_,⟨[],none,0,2,rfl,⟨fun h9=>absurd h9 qde,by decide⟩,(show H.Sublist ((n6,Cl (hdC h) 32)::(n5,Cl (encPo m) 28)::H) by exact sbt).trans (hM2.trans hM3)⟩,sb0⟩
     ·have hZ2:=he2 (Classical.not_not.1 c79);refine rCt 6 U (e_ (Ah (evq2 U U) call37 (J8 l1 l2 q1 q2 c1 c2 (hZ1.1.mono hM3) hZ1.2.1 hZ2.1 (by have:=hZ1.2.2.2;omega) (by have:=hZ2.2.2.2;omega))) ?_ U);rintro _ M4 ⟨l4,q4,c4,rfl,hL4,hul4,⟨hm4,hn4⟩,hM4⟩;refine e_ (Ah (evq1 U) call84 (bounded_s l4 q4 c4)) ?_ U;rintro _ _ ⟨l5,q5,c5,e5,⟨rfl,he5,ge5⟩,rfl⟩;refine rOt 9 U (Ai U (.tmp (Aa U) (Ol U)) ?_);exact⟨_,⟨l5,q5,c5,e5,rfl,⟨set_uni hZ1 hZ2 hL4 hul4 hm4 he5,ge5⟩,(show H.Sublist ((n6,Cl (hdC h) 32)::(n5,Cl (encPo m) 28)::H) by exact sbt).trans (hM2.trans (hM3.trans hM4))⟩,sb0⟩
   ·skip
    refine rCt 6 U ?_;refine jcd U (fun c86=> ?_) (fun c86=> ?_)
    ·obtain⟨x4,y4,hl0,rfl,hx,hy⟩:=oinv4 hI c86;have hF:x4.Fit (bsF fl)/\y4.Fit (bsF fl):=hF;refine rCt 1 U (Bf 13 (plq7 [(7,false),(8,true),(9,true),(10,true),(11,true),(12,true)]) _ mixd qkr sb0 ?_ Bh);refine rPt 2 U (o_y U (Om U isAgg26 qco) ?_ U Ad);refine o_y U (Cd (T U) Al runUnderlying26 sizeOf28 qom (by first|exact rfl|exact hM.arr.b (i:=0) qom)) ?_ U Ad;refine o_y U (On U isAgg28 sizeOf28 U (by exact(hM.arr.mono ((show H.Sublist ((n6,Cl (hdC h) 32)::(n5,Cl (encPo m) 28)::H) by exact sbt))).cs (i:=0) qom)) ?_ U Ad;refine o_y U (On U isAgg32 sizeOf32 (Af hh) qcs) ?_ U Ad;refine rPt 1 U (o_e U (Ah (evq4 U U U U) call35 (ih (hA.mono ((show H.Sublist ((n6,Cl (hdC h) 32)::(n5,Cl (encPo m) 28)::H) by exact sbt))) ((hM.sub (Ax qom)).mono ((show H.Sublist ((n6,Cl (hdC h) 32)::(n5,Cl (encPo m) 28)::H) by exact sbt))) (by have:=D1 (Ax (l:=m.subs) (i:=0) qom);omega) hx hF.1 hh)) ?_ U Ad);rintro _ M2 ⟨l1,q1,c1,e1,rfl,⟨he1,ge1⟩,hM2⟩;refine⟨(by assumption),?_⟩;refine rPt 5 U (Av U (rOt 9 U ?_));refine jcd U (fun c100=> ?_) (fun c100=> ?_)
     ·skip
      refine kC tb 7 [8,9] rfl U (rGt 4 U (Ai U (.tmp (Aa U) (Ol U)) ?_));exact⟨_,⟨[],none,0,e1,rfl,⟨fun h9=>absurd h9 c100,ge1⟩,(show H.Sublist ((n6,Cl (hdC h) 32)::(n5,Cl (encPo m) 28)::H) by exact sbt).trans hM2⟩,sb0⟩
     ·have hZ1:=he1 (Classical.not_not.1 c100);refine rCt 6 U ?_;refine y_ (Om U isAgg26 (by first|exact c_o|exact(Ae (Fnd.mono fndq hM2)) 8 _ U)) ?_ U;refine y_ (Cd (T U) Al runUnderlying26 sizeOf28 qom (by first|exact rfl|exact hM.arr.b (i:=0) qom)) ?_ U;refine y_ (On U isAgg28 sizeOf28 U (by exact(hM.arr.mono ((show H.Sublist ((n6,Cl (hdC h) 32)::(n5,Cl (encPo m) 28)::H) by exact sbt).trans hM2)).cs (i:=1) qom)) ?_ U;refine rOt 2 U (e_ (Ah (evq4 U U U U) call85 (image_s hfl ih (hA.mono ((show H.Sublist ((n6,Cl (hdC h) 32)::(n5,Cl (encPo m) 28)::H) by exact sbt).trans hM2)) ((hM.sub (Ax qom)).mono ((show H.Sublist ((n6,Cl (hdC h) 32)::(n5,Cl (encPo m) 28)::H) by exact sbt).trans hM2)) (by have:=D1 (Ax (l:=m.subs) (i:=1) qom);omega) hy hF.2 l1 q1 c1 hZ1.1 (by have:=hZ1.2.2.2;omega))) ?_ U);rintro _ M3 ⟨l3,q3,c3,e3,rfl,⟨he3,ge3⟩,hM3⟩;refine kO tb 6 [8,9] rfl U (rGt 3 U (Ai U (.tmp (Aa U) (Ol U)) ?_));exact⟨_,⟨l3,q3,c3,e3,rfl,⟨(fun h9=>by obtain⟨z1,z2,z3,z4⟩:=he3 h9;exact⟨z1,z2,fun g=>by rw[z3];simp only[den,hZ1.2.2.1],z4⟩),ge3⟩,(show H.Sublist ((n6,Cl (hdC h) 32)::(n5,Cl (encPo m) 28)::H) by exact sbt).trans (hM2.trans hM3)⟩,sb0⟩
    ·obtain⟨x5,hl0,rfl,hx⟩:=oinv5 hI c24 c35 c50 c86;have hF:x5.Fit (bsF fl):=hF;refine rCt 4 U (Bf 15 (plq7 [(7,false),(8,true),(9,true),(10,true),(11,true),(12,true),(13,true),(14,true)]) _ mixd qkr sb0 ?_ Bh);refine rPt 2 U (o_y U (Om U isAgg26 qco) ?_ U Ad);refine o_y U (Cd (T U) Al runUnderlying26 sizeOf28 qom (by first|exact rfl|exact hM.arr.b (i:=0) qom)) ?_ U Ad;refine o_y U (On U isAgg28 sizeOf28 U (by exact(hM.arr.mono ((show H.Sublist ((n6,Cl (hdC h) 32)::(n5,Cl (encPo m) 28)::H) by exact sbt))).cs (i:=0) qom)) ?_ U Ad;refine o_y U (On U isAgg32 sizeOf32 (Af hh) qcs) ?_ U Ad;refine rPt 1 U (o_e U (Ah (evq4 U U U U) call86 (closure_s hfl ih (hA.mono (show H.Sublist ((n6,Cl (hdC h) 32)::(n5,Cl (encPo m) 28)::H) by exact sbt)) ((hM.sub (Ax qom)).mono ((show H.Sublist ((n6,Cl (hdC h) 32)::(n5,Cl (encPo m) 28)::H) by exact sbt))) (by have:=D1 (Ax (l:=m.subs) (i:=0) qom);omega) hx hF hh)) ?_ U Ad);rintro _ M2 ⟨l6,q6,c6,r6,e6,rfl,⟨he6,ge6⟩,hM2⟩;refine⟨(by assumption),?_⟩;refine rPt 7 U (Av U (kO tb 10 [8,9] rfl U (rGt 1 U (Ai U (.tmp (Aa U) (Ol U)) ?_))));exact⟨_,⟨l6,q6,c6,e6,rfl,⟨he6,ge6⟩,(show H.Sublist ((n6,Cl (hdC h) 32)::(n5,Cl (encPo m) 28)::H) by exact sbt).trans hM2⟩,sb0⟩
theorem rev_s {w0:World}{fl:List Fd}(hfl:FlOk fl){q:Option Addr}{c:Nat}{tick:Int}(N:Nat)(hN:N<=100000000):EvS13 w0 fl q c tick N:=by
 induction N with
 |zero=>intro H m p h _ _ h3;have:=Dy m;omega
 |succ N ih=>
  have ih:EvS13 w0 fl q c tick N:=ih qom;intro H m p h hA hM hm hI hF hh;exact rev_step hfl qom ih hA hM hm hI hF hh
section
variable {bs:List Nat} {ns:Ns} {a b:Nat} {t:Int} {x y:Po}
theorem dhF_ok (ns:Ns)(bs:List Nat)(a b:Nat):HdOk (dhF ns bs a b):=by unfold dhF bhF;exact Ck _
theorem Ch (ns:Ns)(bs:List Nat)(a b:Nat):HdOk (dfH ns bs a b):=by unfold dfH;split;exact Ay;exact dhF_ok _ _ _ _
end
theorem df_s {D:Sd}{v:Sv}{ns:Ns}{bs:List Nat}(hst:StOk D v ns)(hbs:BsOk bs)(hbe:D.bs=bs)(hS:(SM D v ns).Sublist H)(hB:Arr w0 H D.qb 1 encB1 bs){a b:Nat}(ha:a<ns.length)(hb:b<ns.length){g:Hd}(hg:dfH ns bs a b=g):
  FSpec prog w0 90 #[Pt (D.p) 0,Vi (a:Nat),Vi (b:Nat)] H (Still (.tuple #[.agg (hdC g).toArray, .bool (decide (a≠b))]) H):=by
 subst hbe;subst hg;exact differ_s hst hbs hS hB a b ha hb
theorem yl_eqAT {P:Program}{w0:World}{L:Fm}{H:Mm}{ty yt t:TypeId}{x y:Operand}{xs ys:Array Value}{q:Prop}[Decidable q] (hx:Ev L x (.agg xs))(hy:Ev L y (.agg ys))(hg:P.eqGuardType P.depth t=false)(he:∀ w,(Op.equal t (.agg xs) (.agg ys)).run P w= .ok (decide q) w)(hq:q):Yl P w0 (.binOp .eql t x y yt) ty L H (.bool true):=by
 have:=G8 (P:=P) (w0:=w0) (L:=L) (H:=H) (ty:=ty) (yt:=yt) hx hy hg he
 rwa [decide_eq_true hq] at this
abbrev errV (e:Int):Value:= .iface 33 (Vi e)
theorem Co {α:Type}{F:Option α}{z:α}{a:Nat}{e:Int}{B:Prop}(h:(F=some z/\e=0)\/(F=none/\a=0/\e=12/\B))(he: ¬ e=0):F=none/\a=0/\e=12/\B:=by
 rcases h with h|h
 ·exact absurd h.2 he
 ·exact h
theorem eqN_nil (w:World):(Op.equal 20 .nilIface .nilIface).run prog w= .ok true w:=by kernel_rfl
theorem eq20_err (e:Int)(w:World):(Op.equal 20 (errV e) .nilIface).run prog w= .ok false w:=by kernel_rfl
theorem ta_err (e:Int)(w:World):(Instr.typeAssert (errV e) 20 33 true).run prog w= .ok (.tuple #[Vi e, .bool true]) w:=by kernel_rfl
section
variable {w0:World} {L:Fm} {H:Mm} {ty yt:TypeId} {x:Operand} {e:Int}
theorem yl_eqN0 (hx:Ev L x .nilIface):Yl prog w0 (.binOp .eql 20 x (.const .nilIface) yt) ty L H (.bool true):=Bk U fun b w=>by
 have hc:ev (lk L b) (.const .nilIface)= .nilIface:=rfl;have hx':=hx b;simp[exO,execOp,hx',hc,binOp,eqGuard,eqN_nil,Sem.run_bind,Result.andThen]
theorem yl_eqN1 (hx:Ev L x (errV e)):Yl prog w0 (.binOp .eql 20 x (.const .nilIface) yt) ty L H (.bool false):=Bk U fun b w=>by
 have hc:ev (lk L b) (.const .nilIface)= .nilIface:=rfl;have hx':=hx b;simp[exO,execOp,hx',hc,binOp,eqGuard,eq20_err,Sem.run_bind,Result.andThen]
end
theorem Hp (a:Nat)(e:Int)(fv:Value)(hfv: ¬ e=0->fv=errV e):
  FSpecP prog w0 48 #[Vi (a:Nat),Vi e] H (fun u H9=>∃ x:Unit,(u=Vi (a:Nat)/\e=0)/\H9=H) fv (fun H9=> ¬ e=0/\H9=H):=by
 refine Bj func48 U ntmps48 U (rDt 12 U ?_);refine jcd U (fun c6=> ?_) (fun c6=> ?_)
 ·obtain rfl:=hfv c6;refine rCt 2 U (y_ (yl_mkIface (T U) (fun _=>rfl)) (p_ (effP_panic (K:=fun _ _=>False) (B:=fun H9=>H9=_) (T U) U) (fun _ _ h=>h.elim) ?_ U) U);rintro _ rfl
  repeat refine By ?_
  exact Bi ⟨c6,rfl⟩ sbt
 ·have he0:e=0:=Classical.not_not.1 c6;refine rCt 9 U (Bs U (Ol U) ?_);exact⟨_,⟨(),⟨rfl,he0⟩,rfl⟩,sbt⟩
theorem mustC_s (q:Option Addr)(n c:Nat)(e:Int)(fv:Value)(hfv: ¬ e=0->fv=errV e):
  FSpecP prog w0 60 #[.slice q n c,Vi e] H (fun u H9=>∃ x:Unit,(u= .slice q n c/\e=0)/\H9=H) fv (fun H9=> ¬ e=0/\H9=H):=by
 refine Bj func60 U ntmps60 U (rDt 12 U ?_);refine jcd U (fun c6=> ?_) (fun c6=> ?_)
 ·obtain rfl:=hfv c6;refine rCt 2 U (y_ (yl_mkIface (T U) (fun _=>rfl)) (p_ (effP_panic (K:=fun _ _=>False) (B:=fun H9=>H9=_) (T U) U) (fun _ _ h=>h.elim) ?_ U) U);rintro _ rfl
  repeat refine By ?_
  exact Bi ⟨c6,rfl⟩ sbt
 ·have he0:e=0:=Classical.not_not.1 c6;refine rCt 9 U (Bs U (Ol U) ?_);exact⟨_,⟨(),⟨rfl,he0⟩,rfl⟩,sbt⟩
theorem d_spec1 {P:Program}{w0:World}{f2:FuncId}{fn:Func}{id d1:Nat}{ts:Array TypeId}{ty1:TypeId}{p1:String}{af1:Array Edge}{rest:Code}{vs:List Value}{N:Nat}{u u':FrameMode}{val:Value}{H:Mm}{K:Value->Mm->Prop}
  (hf:P.funcs[f2]? =some fn) (hb:fn.body=some (.seq (.region id #[⟨some d1, .call {callee:= .builtin .recover,args:= #[],argTypes:=ts},ty1,p1,af1,none⟩] false) rest)) (hN:fn.ntmps=N) (hv:Nat.ble vs.length N=true) (h1:Nat.blt d1 N=true)
  (hu:∀ (c₀:Frame) (cs:List Frame),c₀.mode=u->(match recoverD (c₀::cs) with|some (v,cs')=>v=val/\cs'={c₀ with mode:=u'}::cs|none=> .nilIface=val/\c₀::cs={c₀ with mode:=u'}::cs))
  (h:J P none N w0 rest (retQ0 P fn w0 K) ((d1,val)::ini 0 vs) [] H) {w:World} (hO:Own w0 H w):
  CallsD P f2 vs.toArray u w fun e u'' w'=>∃ v,e= .returned v/\u''=u'/\∃ H',Own w0 H' w'/\K v H':=by
 have hv':vs.length<=N:=by simpa using hv
 refine callsD_of_wpS hf hb fun c₀ cs hm=>wpS_seq (wpS_region ?_)
 obtain⟨a0,ha0⟩:∃ a0:Act,a0={tmps:=vs.toArray++Array.replicate (fn.ntmps - vs.toArray.size) undef,defers:=[]}:=⟨_,rfl⟩;rw[<- ha0];have hsz:a0.tmps.size=N:=by subst ha0;simp[hN];omega
 have hfr:fr a0=lk (ini 0 vs) (fun _=>undef):=by
  subst ha0
  funext k
  rw[Jg];unfold fr;simp only[Nat.zero_le,if_true,Nat.sub_zero,Array.getD_eq_getD_getElem?]
  by_cases hk:k<vs.length
  ·simp[Array.getElem?_append,hk]
  ·simp only[List.size_toArray,Array.getElem?_append,hk,if_false];rw[List.getElem?_eq_none qom];simp only[Array.getElem?_replicate]
   split<;>rfl
 have hdf:a0.defers=[]:=by subst ha0;rfl
 have hf1:=H4 (d:=some d1) (v:=val) (N:=N) h1 hsz hfr;have hrest:=h (fun _=>undef) w hO (a0.put (some d1) val) (by rw[Df];exact hsz) hf1 (by rw[Cu];exact hdf);have hrec:(execOp a0.eval ⟨some d1, .call {callee:= .builtin .recover,args:= #[],argTypes:=ts},ty1,p1,af1,none⟩).run P w= .ok .recover w:=by
  simp[execOp,resolve,invoke,builtin,Sem.run_bind,Result.andThen]
 have fin:∀ a:Act,a=a0.put (some d1) val->rest.wpS P (bodyPostS P fn c₀ cs fun e u'' w'=>∃ v,e= .returned v/\u''=u'/\∃ H',Own w0 H' w'/\K v H') a ({c₀ with mode:=u'}::cs) w:=fun a ha=>by
  subst ha;refine wpS_of_wp ((wpIn_wide (n:=0)).1 (wpIn_mono hrest fun e a' w' hq=> ?_));obtain⟨_,hq⟩:=hq;cases e with
  |normal=>
   obtain⟨hd,v,H',hr,hO',hK⟩:=hq;exact⟨hd,u',rfl,v,hr _ U,v,rfl,rfl,H',hO',hK⟩
  |ret=>
   obtain⟨hd,v,H',hr,hO',hK⟩:=hq;exact⟨hd,u',rfl,v,hr _ U,v,rfl,rfl,H',hO',hK⟩
  |_=>exact hq.elim
 have hrd:=hu c₀ cs hm;show wpOpsS P _ _ [0] a0 (c₀::cs) w;unfold wpOpsS;simp only[List.getElem?_toArray,List.getElem?_cons_zero,Region.wanted,if_true,hrec];cases hc:recoverD (c₀::cs) with
 |none=>
  rw[hc] at hrd;obtain⟨hv2,hcs⟩:=hrd;simp only[];rw[hv2,hcs];unfold wpOpsS;exact fin _ U
 |some y=>
  obtain⟨v,cs'⟩:=y;rw[hc] at hrd;obtain⟨rfl,rfl⟩:=hrd;simp only[];unfold wpOpsS;exact fin _ U
theorem J9  (w:World):(Instr.build 32 #[]).run prog w= .ok (.agg #[Vi 0,Vi 0,Vi 0,Vi 0,Vi 0,Vi 0,Vi 0,Vi 0,Vi 0,Vi 0]) w:=by kernel_rfl
abbrev askCap (b6 b7 b8:Nat):List Value:=[Pt b6 0,Pt b7 0,Pt b8 0]
theorem askR_s (b6 b7 b8:Nat){w:World}(hO:Own w0 H w):CallsD prog 88 (askCap b6 b7 b8).toArray .returning w (fun e u'' w'=>∃ v,e= .returned v/\u''= .returning/\∃ H',Own w0 H' w'/\H'=H):=by
 refine d_spec1 (val:= .nilIface) (K:=fun _ H'=>H'=H) (N:=14) func88 U ntmps88 U U (fun c₀ cs hm=> ?_) ?_ hO
 ·have:recoverD (c₀::cs)=none:=by simp[recoverD,hm]
  rw[this];refine⟨rfl,?_⟩;obtain⟨_,_⟩:=c₀;simp only at hm;subst hm
  rfl
 ·skip
  refine rDt 3 U (y_ (yl_eqN0 (T U)) (rOt 7 U (Mt U .nil ?_)) U);exact⟨H,rfl,sbt⟩
theorem askP_s {w0:World}{R:Mm}(b6 b7 b8:Nat)(e:Int){w:World}(hO:Own w0 ((b8,Cl [Vi 0] 33)::(b7,Cl [.bool false] 4)::(b6,Cl ([Vi 0,Vi 0,Vi 0,Vi 0,Vi 0,Vi 0,Vi 0,Vi 0,Vi 0,Vi 0]) 32)::R) w):CallsD prog 88 (askCap b6 b7 b8).toArray (.panicking [{v:=errV e,recovered:=false}]) w (fun e1 u'' w'=>∃ u9,e1= .returned u9/\u''= .panicking [{v:=errV e,recovered:=true}]/\∃ H',Own w0 H' w'/\H'=((b8,Cl [Vi e] 33)::(b7,Cl [.bool false] 4)::(b6,Cl ([Vi 0,Vi 0,Vi 0,Vi 0,Vi 0,Vi 0,Vi 0,Vi 0,Vi 0,Vi 0]) 32)::R)):=by
 refine d_spec1 (val:=errV e) (K:=fun _ H'=>H'=((b8,Cl [Vi e] 33)::(b7,Cl [.bool false] 4)::(b6,Cl ([Vi 0,Vi 0,Vi 0,Vi 0,Vi 0,Vi 0,Vi 0,Vi 0,Vi 0,Vi 0]) 32)::R)) (N:=14) func88 U ntmps88 U U (fun c₀ cs hm=> ?_) ?_ hO
 ·have:recoverD (c₀::cs)=some (errV e,{c₀ with mode:= .panicking [{v:=errV e,recovered:=true}]}::cs):=by simp[recoverD,hm]
  rw[this];exact⟨rfl,rfl⟩
 ·skip
  refine rDt 3 U (y_ (yl_eqN1 (T U)) (rOt 5 U (y_ (yl_ta (T U) (ta_err e)) (rOt 11 U (y_ (A1 .nil (J9)) (rOt 1 U ?_) U)) U)) U);refine Bo (Oq U U sizeOf32) U Ad ?_;rintro _ _ ⟨rfl,rfl⟩;refine Bo (Aj (T U) Al sizeOf4) U Ad ?_;rintro _ _ ⟨rfl,rfl⟩;refine Bo (Oq U U sizeOf33) U Ad ?_;rintro _ _ ⟨rfl,rfl⟩;refine rOt 2 U (Mt U .nil ?_);exact⟨_,rfl,sbt⟩
theorem dropP {P:Program}{w0:World}{f:FuncId}{args:Array Value}{H R:Mm}{K0:Value->Prop}{fv:Value}{Ψ:Prop}(h:FSpecP P w0 f args H (fun u H'=>K0 u/\R.Sublist H') fv (fun H'=>Ψ/\R.Sublist H')):FSpecP P w0 f args H (fun u H'=>K0 u/\H'=R) fv (fun H'=>Ψ/\H'=R):=fun w hO=>(h w hO).mono fun e w' he=>by
 rcases he with ⟨v,H',a,b,c,d⟩|⟨a,H',b,c,d⟩
 ·exact .inl ⟨v,R,a,b.sub d,c,rfl⟩
 ·exact .inr ⟨a,R,b.sub d,c,rfl⟩
def noP (Q:Post):Post
 | .panic _,_,_,_=>False
 |e,σ,ds,w=>Q e σ ds w
section
variable {P:Program} {r:Option Nat} {N:Nat} {w0:World} {Q Q':Post} {L:Fm} {ds:List Deferred} {H:Mm}
theorem noP_le (e:Exit)(σ:Nat->Value)(ds:List Deferred)(w:World)(h:noP Q e σ ds w):Q e σ ds w:=by
 cases e<;>first|exact h|exact h.elim
theorem Hq (hq:∀ e σ ds w,Q' e σ ds w->Q e σ ds w):∀ (ks:List Kt) e σ ds w,postK P r N ks Q' e σ ds w->postK P r N ks Q e σ ds w
 |[]=>hq
 | .code c::ks=>fun e σ ds w h=>by
  have ih:=Hq hq ks;cases e<;>first
   |exact ih _ _ _ _ h
   |exact fun a hs hf hd=>wpIn_mono (h a hs hf hd) fun e a w ⟨h1,h2⟩=>⟨h1,ih _ _ _ _ h2⟩
 | .block id::ks=>fun e σ ds w h=>by
  have ih:=Hq hq ks;cases e with
  |exit i=>
   by_cases hi:i=id
   ·have h2:postK P r N ks Q' .normal σ ds w:=by
     have h3:(if i=id then postK P r N ks Q' .normal σ ds w else postK P r N ks Q' (.exit i) σ ds w):=h
     rwa [if_pos hi] at h3
    show (if i=id then postK P r N ks Q .normal σ ds w else postK P r N ks Q (.exit i) σ ds w);rw[if_pos hi];exact ih _ _ _ _ h2
   ·have h2:postK P r N ks Q' (.exit i) σ ds w:=by
     have h3:(if i=id then postK P r N ks Q' .normal σ ds w else postK P r N ks Q' (.exit i) σ ds w):=h
     rwa [if_neg hi] at h3
    show (if i=id then postK P r N ks Q .normal σ ds w else postK P r N ks Q (.exit i) σ ds w);rw[if_neg hi];exact ih _ _ _ _ h2
  |_=>exact ih _ _ _ _ h
 | .scope::ks=>fun e σ ds w h=>by
  have ih:=Hq hq ks;cases e<;>first|exact ih _ _ _ _ h|exact h.elim
theorem j_noP {c:Code}{ks:List Kt}(h:J P r N w0 c (postK P r N ks (noP Q)) L ds H):J P r N w0 c (postK P r N ks Q) L ds H:=fun b w hO a hs hf hd=>
 wpIn_mono (h b w hO a hs hf hd) fun e a' w' hq=>⟨hq.1,Hq noP_le _ _ _ _ _ hq.2⟩
theorem np_noP:NoPanic (noP Q):=⟨fun _ _ _ _ _ h=>h⟩
theorem np_allN {Q:Post}(h:NoPanic Q:=by repeat (first|exact np_noP|exact Jh|apply F8|apply G9|apply Ji|apply Gt|apply F3|apply Ey)):NoPanic Q:=h
theorem qn_normal (h:JQ w0 Q .normal L ds H):JQ w0 (noP Q) .normal L ds H:=h
theorem qn_ret (h:JQ w0 Q .ret L ds H):JQ w0 (noP Q) .ret L ds H:=h
end
theorem Kb3 (a0:Option Addr)(a1:Int)(w:World):(Instr.build 70 #[(0, .pointer a0),(1,Vi a1)]).run prog w= .ok (.agg #[.pointer a0,Vi a1]) w:=by kernel_rfl
def QuS (w0:World) (fl:List Fd) (tick:Int) (g:FuncId) (cap:List Value) (e:Int) (Φ:Hd->Bool->Prop) (Ψ:Prop) (H:Mm):Prop:=
 ∀ (dx db:Sl) (p mp:Nat) (v:Sv) (R:Mm),H.Sublist R->StOk (NewD fl 200000 dx db p mp) v (nsE (2*(bsF fl).length))->En w0 R (NewD fl 200000 dx db p mp) fl->FSpecP prog w0 g ([Value.agg #[Pt p 0,Vi tick]]++cap).toArray (SM (NewD fl 200000 dx db p mp) v (nsE (2*(bsF fl).length))++R) (fun u H'=>(∃ (h:Hd) (is:Bool),u= .tuple #[.agg (hdC h).toArray, .bool is]/\HdOk h/\Φ h is)/\R.Sublist H') (errV e) (fun H'=>Ψ/\R.Sublist H')
abbrev AskK (Φ:Hd->Bool->Prop) (e:Int) (Ψ:Prop) (H:Mm):Value->Mm->Prop:=fun u H'=>(∃ (h:Hd) (is:Bool) (e':Int),u= .tuple #[.agg (hdC h).toArray, .bool is,Vi e']/\HdOk h/\((e'=0/\Φ h is)\/(e'=e/\h=hd0/\is=false/\Ψ)))/\H'=H
theorem K8 (fl:List Fd)(hfl:FlOk fl)(q:Option Addr)(c:Nat)(hA:Arr w0 H q 3 encF fl)(tick:Int){g:FuncId}{cap:List Value}(e:Int){Φ:Hd->Bool->Prop}{Ψ:Prop}(hcg:∀ args w,(callFunc g args).run prog w= .ok (.enter g args) w)(hG:QuS w0 fl tick g cap e Φ Ψ H):
  FSpec prog w0 43 #[.slice q fl.length c,Vi tick, .func (.func g) #[] cap.toArray] H (AskK Φ e Ψ H):=by
 refine fn_specD (fv:=errV e) func43 U ntmps43 U call88 (rDt 2 U (e_ (Ag zeroValue32 cs_) ?_ U));rintro _ _ ⟨n6,rfl,rfl⟩;refine e_ (Ag zeroValue4 cs_) ?_ U;rintro _ _ ⟨n7,rfl,rfl⟩;refine e_ (Ag zeroValue33 cs_) ?_ U;rintro _ _ ⟨n8,rfl,rfl⟩;refine rOt 4 U (y_ (Bn (.cons (T U) (.cons (T U) (.cons (T U) .nil)))) (jl_defer (T U) (rOt 6 U (e_ (Ah (.cons (T U) (.cons Al .nil)) call89 (new_s fl hfl q c (hA.mono sbt) 200000 qom)) ?_ U))) U);rintro _ _ ⟨⟨dx,db,p,mp,v⟩,⟨rfl,hdx,hdb,hst⟩,rfl⟩
 dsimp only at hdx hdb hst
 refine rOt 1 U (y_ (A1 (.cons (T U) (.cons (T U) .nil)) (Kb3 _ _)) ?_ U);refine p_ (Cz (cap:=cap) (T rfl) (.cons (T rfl) .nil) hcg (dropP (hG dx db p mp v (slH db ((bsF fl).flatMap encB1) 3++(slH dx (fl.flatMap encF) 127++((n8,Cl [Vi 0] 33)::(n7,Cl [.bool false] 4)::(n6,Cl ([Vi 0,Vi 0,Vi 0,Vi 0,Vi 0,Vi 0,Vi 0,Vi 0,Vi 0,Vi 0]) 32)::H))) sbt hst ((en_new (w0:=w0) (H:=((n8,Cl [Vi 0] 33)::(n7,Cl [.bool false] 4)::(n6,Cl ([Vi 0,Vi 0,Vi 0,Vi 0,Vi 0,Vi 0,Vi 0,Vi 0,Vi 0,Vi 0]) 32)::H)) hfl hdx hdb 200000 p mp))))) ?_ (by rintro _ ⟨hΨ,rfl⟩;(repeat refine By ?_);refine dq_panic (KK:=fun H2=>H2=((n8,Cl [Vi e] 33)::(n7,Cl [.bool false] 4)::(n6,Cl ([Vi 0,Vi 0,Vi 0,Vi 0,Vi 0,Vi 0,Vi 0,Vi 0,Vi 0,Vi 0]) 32)::H)) (cap:=askCap n6 n7 n8) (vs:=[.agg (hdC hd0).toArray, .bool false,Vi e]) rfl ?_ fun w hO=>(askP_s (R:=H) n6 n7 n8 e (hO.sub sbt));rintro H2 rfl;exact⟨.cellA (Aa rfl) isAgg32 sizeOf32 rfl (by exact Ae fndq) (.cell (Aa rfl) isAgg4 qco (.cell (Aa rfl) isAgg33 qco .nil)),_,⟨⟨hd0,false,e,rfl,Ay, .inr ⟨rfl,rfl,rfl,hΨ⟩⟩,rfl⟩,sbt⟩) rfl;rintro _ _ ⟨⟨h,is,rfl,hh,hΦ⟩,rfl⟩;refine rOt 3 U (e_ (Oq U U sizeOf32 .agg (Bc _) (Af hh) updq (by rw[Af hh];rfl)) ?_ U);rintro _ _ ⟨rfl,rfl⟩;refine Bo (Oq U U sizeOf4) U Ad ?_;rintro _ _ ⟨rfl,rfl⟩;refine rOt 3 U (j_noP (Bf 3 [(0,true),(1,true),(2,false)] _ mixd qkr sb0 ?_ np_allN));refine o_y U (On U isAgg32 sizeOf32 (Af hh) (by exact Ae fndq)) ?_ U Ad;refine o_y U (Om U isAgg4 qco) ?_ U Ad;refine o_e U (Oq U U sizeOf32 .agg (Bc _) (Af hh) updq (rfl)) ?_ U Ad;rintro _ _ ⟨rfl,rfl⟩;refine⟨sbt,(Av U ?_)⟩;refine Bo (Oq U U sizeOf4) U Ad ?_;rintro _ _ ⟨rfl,rfl⟩;refine Bo (Aj (T U) Al sizeOf33) U Ad ?_;rintro _ _ ⟨rfl,rfl⟩;refine rOt 3 U ?_
 first|refine qn_normal ?_|refine qn_ret ?_
 refine dq_end (fv:=errV e) (cap:=askCap n6 n7 n8) (vs:=[.agg (hdC h).toArray, .bool is,Vi 0]) U (.cellA (Aa U) isAgg32 sizeOf32 (Af hh) (by exact Ae fndq) (.cell (Aa U) isAgg4 qco (.cell (Aa U) isAgg33 qco .nil))) ⟨_,⟨⟨h,is,0,rfl,hh, .inl ⟨rfl,hΦ⟩⟩,rfl⟩,sbt⟩ fun w hO=>askR_s n6 n7 n8 hO
theorem Ka3 {a0:Int}(w:World):(Instr.build 25 #[(0,Vi a0)]).run prog w= .ok (.agg #[Vi a0, .string ⟨#[]⟩,Vi 0,Vi 0, .slice none 0 0]) w:=by kernel_rfl
theorem E5 {w0:World}{D:Sd}{v:Sv}{ns:Ns}{R:Mm}(hst:StOk D v ns){fl:List Fd}(hE:En w0 R D fl)(m:Pom)(p:Po)(hI:IsO fl m p)(hF:p.Fit D.bs)(hM:PoM w0 R m)(tick:Int):
  FSpecP prog w0 46 #[.agg #[Pt (D.p) 0,Vi tick], .agg (encPo m).toArray] (SM D v ns++R) (OpK D (polF D.most.toNat D.bs tick (rdN D.bs) p ns) R) (errV 12) (OpB D (polF D.most.toNat D.bs tick (rdN D.bs) p ns) ns R):=by
 refine Bj func46 U ntmps46 U (rDt 2 U (e_ (Ot U cs_) ?_ U));rintro _ _ ⟨n2,rfl,rfl⟩;refine e_ (Ot U cs_) ?_ U;rintro _ _ ⟨n3,rfl,rfl⟩;refine rOt 6 U (y_ (Om U isAgg68 qco) ?_ U);refine y_ (On U isAgg28 sizeOf28 U qcs) ?_ U;refine rOt 1 U (y_ (Om U isAgg3 qco) ?_ U);refine e_ (Ah (evq3 U U U) call91 (B7 (M:=SM D v ns) (policy_s (R:=(n3,Cl (encPo m) 28)::(n2,Cl [Pt (D.p) 0,Vi tick] 70)::R) hst (hE.mono sbt) m p hI hF (hM.mono sbt) tick) locqc)) ?_ U;rintro _ _ ⟨⟨id,ee,v1,ns1⟩,⟨rfl,hc,hst1⟩,rfl⟩
 dsimp only at hc hst1
 refine rOt 2 U ?_;refine p_ (As (evq2 rfl rfl) call48 (Hp id ee (errV 12) (fun he=>by rw[(Co hc he).2.2.1]))) ?_ (by rintro _ ⟨he,rfl⟩;obtain⟨e1, -, -,rfl⟩:=Co hc he;(repeat refine By ?_);exact Bi ⟨(v1,_),⟨e1, .refl hst1.w,hst1⟩,rfl⟩ sbt) rfl;rintro _ _ ⟨⟨⟩,⟨rfl,he0⟩,rfl⟩;refine rOt 4 U (Bs U (Ol U) ?_);exact⟨_,⟨(id,v1,ns1),⟨rfl,Ho hc he0,hst1⟩,rfl⟩,sbt⟩
theorem qnone_s {w0:World}{D:Sd}{v:Sv}{ns:Ns}{R:Mm}(hst:StOk D v ns){fl:List Fd}(hE:En w0 R D fl)(tick:Int):
  FSpecP prog w0 55 #[.agg #[Pt (D.p) 0,Vi tick]] (SM D v ns++R) (OpK D (polF D.most.toNat D.bs tick (rdN D.bs) (.fil .fls) ns) R) (errV 12) (OpB D (polF D.most.toNat D.bs tick (rdN D.bs) (.fil .fls) ns) ns R):=by
 refine Bj func55 U ntmps55 U (rDt 2 U (e_ (Ot U cs_) ?_ U));rintro _ _ ⟨n1,rfl,rfl⟩;refine rOt 6 U (y_ (Om U isAgg68 qco) ?_ U);refine y_ (A1 (.cons Al .nil) (Ka3)) (rOt 1 U (y_ (Om U isAgg3 qco) ?_ U)) U;refine e_ (Ah (evq3 U U U) call97 (B7 (M:=SM D v ns) (filterm_s (R:=(n1,Cl [Pt (D.p) 0,Vi tick] 70)::R) hst (hE.mono sbt) (.mk 2 ⟨#[]⟩ 0 0 none 0 []) .fls (.fls U) trivial C1 tick) locqc)) ?_ U;rintro _ _ ⟨⟨id,ee,v1,ns1⟩,⟨rfl,hc,hst1⟩,rfl⟩
 dsimp only at hc hst1
 refine rOt 2 U ?_;refine p_ (As (evq2 rfl rfl) call48 (Hp id ee (errV 12) (fun he=>by rw[(Co hc he).2.2.1]))) ?_ (by rintro _ ⟨he,rfl⟩;obtain⟨e1, -, -,rfl⟩:=Co hc he;(repeat refine By ?_);exact Bi ⟨(v1,_),⟨e1, .refl hst1.w,hst1⟩,rfl⟩ sbt) rfl;rintro _ _ ⟨⟨⟩,⟨rfl,he0⟩,rfl⟩;refine rOt 4 U (Bs U (Ol U) ?_);exact⟨_,⟨(id,v1,ns1),⟨rfl,Ho hc he0,hst1⟩,rfl⟩,sbt⟩
theorem qall_s {w0:World}{D:Sd}{v:Sv}{ns:Ns}{R:Mm}(hst:StOk D v ns){fl:List Fd}(hE:En w0 R D fl)(tick:Int):
  FSpecP prog w0 58 #[.agg #[Pt (D.p) 0,Vi tick]] (SM D v ns++R) (OpK D (polF D.most.toNat D.bs tick (rdN D.bs) (.fil .tru) ns) R) (errV 12) (OpB D (polF D.most.toNat D.bs tick (rdN D.bs) (.fil .tru) ns) ns R):=by
 refine Bj func58 U ntmps58 U (rDt 2 U (e_ (Ot U cs_) ?_ U));rintro _ _ ⟨n1,rfl,rfl⟩;refine rOt 6 U (y_ (Om U isAgg68 qco) ?_ U);refine y_ (A1 (.cons Al .nil) (Ka3)) (rOt 1 U (y_ (Om U isAgg3 qco) ?_ U)) U;refine e_ (Ah (evq3 U U U) call97 (B7 (M:=SM D v ns) (filterm_s (R:=(n1,Cl [Pt (D.p) 0,Vi tick] 70)::R) hst (hE.mono sbt) (.mk 1 ⟨#[]⟩ 0 0 none 0 []) .tru (.tru U) trivial C1 tick) locqc)) ?_ U;rintro _ _ ⟨⟨id,ee,v1,ns1⟩,⟨rfl,hc,hst1⟩,rfl⟩
 dsimp only at hc hst1
 refine rOt 2 U ?_;refine p_ (As (evq2 rfl rfl) call48 (Hp id ee (errV 12) (fun he=>by rw[(Co hc he).2.2.1]))) ?_ (by rintro _ ⟨he,rfl⟩;obtain⟨e1, -, -,rfl⟩:=Co hc he;(repeat refine By ?_);exact Bi ⟨(v1,_),⟨e1, .refl hst1.w,hst1⟩,rfl⟩ sbt) rfl;rintro _ _ ⟨⟨⟩,⟨rfl,he0⟩,rfl⟩;refine rOt 4 U (Bs U (Ol U) ?_);exact⟨_,⟨(id,v1,ns1),⟨rfl,Ho hc he0,hst1⟩,rfl⟩,sbt⟩
theorem qdom_s {w0:World}{D:Sd}{v:Sv}{ns:Ns}{R:Mm}(hst:StOk D v ns){fl:List Fd}(hE:En w0 R D fl)(tick:Int)(a:Nat)(ha:a<ns.length):
  FSpecP prog w0 57 #[.agg #[Pt (D.p) 0,Vi tick],Vi (a:Nat)] (SM D v ns++R) (OpK D (domF D.most.toNat D.bs ns a) R) (errV 12) (OpB D (domF D.most.toNat D.bs ns a) ns R):=by
 refine Bj func57 U ntmps57 U (rDt 2 U (e_ (Ot U cs_) ?_ U));rintro _ _ ⟨n2,rfl,rfl⟩;refine rOt 6 U (y_ (Om U isAgg68 qco) ?_ U);refine rOt 1 U (e_ (Ah (evq2 U U) call98 (B7 (M:=SM D v ns) (domain_s (R:=(n2,Cl [Pt (D.p) 0,Vi tick] 70)::R) hst (hE.mono sbt) a ha) locqc)) ?_ U);rintro _ _ ⟨⟨id,ee,v1,ns1⟩,⟨rfl,hc,hst1⟩,rfl⟩
 dsimp only at hc hst1
 refine rOt 2 U ?_;refine p_ (As (evq2 rfl rfl) call48 (Hp id ee (errV 12) (fun he=>by rw[(Co hc he).2.2.1]))) ?_ (by rintro _ ⟨he,rfl⟩;obtain⟨e1, -, -,rfl⟩:=Co hc he;(repeat refine By ?_);exact Bi ⟨(v1,_),⟨e1, .refl hst1.w,hst1⟩,rfl⟩ sbt) rfl;rintro _ _ ⟨⟨⟩,⟨rfl,he0⟩,rfl⟩;refine rOt 4 U (Bs U (Ol U) ?_);exact⟨_,⟨(id,v1,ns1),⟨rfl,Ho hc he0,hst1⟩,rfl⟩,sbt⟩
theorem Ix {D:Sd}{v:Sv}{ns:Ns}{bs:List Nat}(hst:StOk D v ns)(hbs:BsOk bs)(hbe:D.bs=bs)(hS:(SM D v ns).Sublist H)(hB:Arr w0 H D.qb 1 encB1 bs)(tick:Int)(a b:Nat)(ha:a<ns.length)(hb:b<ns.length):
  FSpec prog w0 45 #[.agg #[Pt (D.p) 0,Vi tick],Vi (a:Nat),Vi (b:Nat)] H (Still (.tuple #[.agg (hdC (dfH ns bs a b)).toArray, .bool (!decide (a≠b))]) H):=by
 refine Am func45 U ntmps45 U (rDt 2 U (e_ (Ot U cs_) ?_ U));rintro _ _ ⟨n3,rfl,rfl⟩;refine e_ (Ag zeroValue32 cs_) ?_ U;rintro _ _ ⟨n6,rfl,rfl⟩;refine rOt 6 U (y_ (Om U isAgg68 qco) ?_ U);refine rOt 2 U (y_ (Ao (evq3 U U U) call90 (fun H' hs=>df_s hst hbs hbe ((hS.trans sbt).trans hs) ((hB.mono sbt).mono hs) ha hb U)) ?_ U);refine rOt 3 U (e_ (Ag zeroValue32 cs_) ?_ U);rintro _ _ ⟨n8,rfl,rfl⟩;refine e_ (Oq U U sizeOf32 .agg (Bc _) (Af (Ch _ _ _ _)) updq (by rw[Af (Ch _ _ _ _)];rfl)) ?_ U;rintro _ _ ⟨rfl,rfl⟩;refine rOt 5 U ?_;refine y_ (On U isAgg32 sizeOf32 (Af (Ch _ _ _ _)) (by exact Ae fndq)) ?_ U;refine rOt 1 U ?_;refine A6 (Bt (T U)) U Ad ?_;refine e_ (Oq U U sizeOf32 .agg (Bc _) (Af (Ch _ _ _ _)) updq (by rw[Af (Ch _ _ _ _)];rfl)) ?_ U;rintro _ _ ⟨rfl,rfl⟩;refine rOt 4 U (Ai U (.cellA (Aa U) isAgg32 sizeOf32 (Af (Ch _ _ _ _)) qcs (Ol U)) ?_);exact⟨_,⟨by rw[<- decide_not];rfl,rfl⟩,sbt⟩
def Pd.cut:Pd->Fd->Nat->Prop
 | .eq f n,g,c=>g=f/\(c=n\/c=n+1)
 | .pre f n m,g,c=>g=f/\(c=n - n % 2 ^ (f.w - m)\/c=n - n % 2 ^ (f.w - m)+2 ^ (f.w - m))
 | .rng f n m,g,c=>g=f/\(c=n\/c=m+1)
 | .no a,g,c=>a.cut g c
 | .and a b,g,c=>a.cut g c\/b.cut g c
 | .or a b,g,c=>a.cut g c\/b.cut g c
 |_,_,_=>False
def Po.cut:Po->Fd->Nat->Prop
 | .fil p,g,c=>p.cut g c
 | .set f n,g,c=>g=f/\(c=n\/c=n+1)
 | .uni a b,g,c=>a.cut g c\/b.cut g c
 | .seq a b,g,c=>a.cut g c\/b.cut g c
 | .star a,g,c=>a.cut g c
def Sm (F:List Fd) (K:Fd->Nat->Prop) (h h':Hd):Prop:=∀ f∈F,∀ c,K f c->(c<=fget f h↔c<=fget f h')
structure Tr (F:List Fd) (K:Fd->Nat->Prop) (h h' g g':Hd):Prop where
 eq:∀ f∈F,(fget f g=fget f h/\fget f g'=fget f h')\/(fget f g=fget f g'/\K f (fget f g)/\K f (fget f g+1))
 out:∀ b,b<160->(∀ f∈F,¬ (f.pos<=b/\b<f.pos+f.w))->hbit h b=hbit g b/\hbit h' b=hbit g' b
structure FsOk (F:List Fd):Prop where
 ok:∀ f∈F,FdOk f
 dj:∀ f∈F,∀ g∈F,f=g\/(f.pos+f.w<=g.pos\/g.pos+g.w<=f.pos)
theorem pw_or {l:List Fd}(h:l.Pairwise fun f g=>f.pos+f.w<=g.pos\/g.pos+g.w<=f.pos):∀ f∈l,∀ g∈l,f=g\/(f.pos+f.w<=g.pos\/g.pos+g.w<=f.pos):=fun f hf g hg=>by
 obtain⟨i,hi,rfl⟩:=List.getElem_of_mem hf;obtain⟨j,hj,rfl⟩:=List.getElem_of_mem hg;rcases Nat.lt_trichotomy i j with e|e|e
 ·exact .inr (List.pairwise_iff_getElem.1 h i j hi hj e)
 ·subst e;exact .inl rfl
 ·rcases List.pairwise_iff_getElem.1 h j i hj hi e with h|h
  ·exact .inr (.inr h)
  ·exact .inr (.inl h)
theorem fget_ext {f:Fd}{g h:Hd}(e:∀ b,f.pos<=b->b<f.pos+f.w->hbit g b=hbit h b):fget f g=fget f h:=by
 refine Nat.eq_of_testBit_eq fun i=> ?_
 rw[Dg,Dg]
 by_cases hi:i<f.w
 ·rw[e _ qom qom]
 ·simp[hi]
theorem Ge {f g:Fd}(hf:FdOk f)(d:f.pos+f.w<=g.pos\/g.pos+g.w<=f.pos)(h:Hd)(n:Nat):fget f (fset g h n)=fget f h:=fget_ext fun b h1 h2=>by
 have:=hf.fit;have:=hf.lt;unfold fset;rw[Br _ qom,if_neg qom]
theorem Ka {g:Fd}{b:Nat}(hb:b<160)(h:Hd)(n:Nat)(e: ¬ (g.pos<=b/\b<g.pos+g.w)):hbit h b=hbit (fset g h n) b:=by
 unfold fset;rw[Br _ hb,if_neg e]
section
variable {F:List Fd} {K:Fd->Nat->Prop} {h h' g g' k k':Hd} {t:Int} {bs:List Nat}
theorem Sm.symm (s:Sm F K h h'):Sm F K h' h:=fun f hf c hc=>(s f hf c hc).symm
theorem Tr.symm (s:Tr F K h h' g g'):Tr F K h' h g' g:=⟨fun f hf=>by
 rcases s.eq f hf with ⟨a,b⟩|⟨a,b,c⟩
 ·exact .inl ⟨b,a⟩
 ·exact .inr ⟨a.symm,a ▸ b,a ▸ c⟩,fun b h1 h2=>(s.out b h1 h2).symm⟩
theorem Tr.refl (h h':Hd):Tr F K h h' h h':=⟨fun _ _=> .inl ⟨rfl,rfl⟩,fun _ _ _=>⟨rfl,rfl⟩⟩
theorem Tr.trans (s:Tr F K h h' k k')(u:Tr F K k k' g g'):Tr F K h h' g g':=⟨fun f hf=>by
 rcases u.eq f hf with ⟨a,b⟩|u
 ·rw[a,b];exact s.eq f hf
 ·exact .inr u,fun b h1 h2=>⟨(s.out b h1 h2).1.trans (u.out b h1 h2).1,(s.out b h1 h2).2.trans (u.out b h1 h2).2⟩⟩
theorem Tr.sm (s:Sm F K h h')(u:Tr F K h h' g g'):Sm F K g g':=fun f hf c hc=>by
 rcases u.eq f hf with ⟨a,b⟩|⟨a,_⟩
 ·rw[a,b];exact s f hf c hc
 ·rw[a]
theorem bit_of_get (f:Fd){h g:Hd}{b:Nat}(h1:f.pos<=b)(h2:b<f.pos+f.w)(e:fget f h=fget f g):hbit h b=hbit g b:=by
 have:=congrArg (fun x=>x.testBit (f.pos+f.w - 1 - b)) e;simp only[Dg] at this;rw[decide_eq_true (by omega:f.pos+f.w - 1 - b<f.w),Bool.true_and,Bool.true_and,show f.pos+(f.w - 1 - (f.pos+f.w - 1 - b))=b by omega] at this;exact this
theorem hd_fields (hg:HdOk g)(hh:HdOk h)(e:∀ f∈F,fget f g=fget f h)(o:∀ b,b<160->(∀ f∈F,¬ (f.pos<=b/\b<f.pos+f.w))->hbit g b=hbit h b):g=h:=C5 hg hh fun b hb=>by
 by_cases hx:∃ f∈F,f.pos<=b/\b<f.pos+f.w
 ·obtain⟨f,hf,h1,h2⟩:=hx;exact bit_of_get f h1 h2 (e f hf)
 ·exact o b hb fun f hf h=>hx ⟨f,hf,h⟩
theorem Tr.uniq {g'':Hd}(s:Sm F K h h')(h1:HdOk g')(h2:HdOk g'')(u:Tr F K h h' g g')(v:Tr F K h h' g g''):g'=g'':=by
 refine hd_fields (F:=F) h1 h2 (fun f hf=> ?_) fun b hb hx=>((u.out b hb hx).2.symm.trans (v.out b hb hx).2)
 have key:∀ {x:Nat},fget f g=fget f h->K f (fget f g)->K f (fget f g+1)->fget f h'=fget f g:=fun e k1 k2=>by
  have a1:=s f hf _ k1;have a2:=s f hf _ k2;omega
 rcases u.eq f hf with ⟨a,b⟩|⟨a,b,c⟩
 ·rcases v.eq f hf with ⟨a',b'⟩|⟨a',b',c'⟩
  ·rw[b,b']
  ·rw[b,key (x:=0) a b' c',a']
 ·rcases v.eq f hf with ⟨a',b'⟩|⟨a',b',c'⟩
  ·rw[b',key (x:=0) a' b c,a]
  ·rw[<- a,<- a']
theorem Fk:∀ {a:Pd},(∀ f c,a.cut f c->f∈F/\K f c)->Sm F K h h'->holdsP t a h=holdsP t a h'
 | .tru,_,_=>rfl
 | .fls,_,_=>rfl
 | .eq f n,hp,s=>by
  obtain⟨hf,k1⟩:=hp f n ⟨rfl, .inl rfl⟩;obtain⟨-,k2⟩:=hp f (n+1) ⟨rfl, .inr rfl⟩;have a1:=s f hf _ k1;have a2:=s f hf _ k2;show (fget f h==n)=(fget f h'==n);rw[Bool.eq_iff_iff,beq_iff_eq,beq_iff_eq];omega
 | .pre f n m,hp,s=>by
  obtain⟨hf,k1⟩:=hp f _ ⟨rfl, .inl rfl⟩;obtain⟨-,k2⟩:=hp f _ ⟨rfl, .inr rfl⟩;have a1:=s f hf _ k1;have a2:=s f hf _ k2;show (fget f h / 2 ^ (f.w - m)==n / 2 ^ (f.w - m))=(fget f h' / 2 ^ (f.w - m)==n / 2 ^ (f.w - m));rw[Bool.eq_iff_iff,beq_iff_eq,beq_iff_eq];have hd:0<2 ^ (f.w - m):=Nat.two_pow_pos _
  generalize 2 ^ (f.w - m)=d at *;have key:∀ v,v / d=n / d↔n - n % d<=v/\¬ (n - n % d+d<=v):=fun v=>by
   have e:n - n % d=d*(n / d):=by have:=Nat.div_add_mod n d;omega
   rw[e]
   constructor
   ·intro h1;rw[<- h1];have h2:=Nat.div_add_mod v d;have h3:=Nat.mod_lt v hd;exact⟨by omega,by omega⟩
   ·rintro⟨h1,h2⟩;refine Nat.div_eq_of_lt_le ?_ ?_
    ·rw[Nat.mul_comm];exact h1
    ·rw[Nat.succ_mul,Nat.mul_comm (n / d) d];omega
  rw[key,key];omega
 | .rng f n m,hp,s=>by
  obtain⟨hf,k1⟩:=hp f n ⟨rfl, .inl rfl⟩;obtain⟨-,k2⟩:=hp f (m+1) ⟨rfl, .inr rfl⟩;have a1:=s f hf _ k1;have a2:=s f hf _ k2;show (decide (n<=fget f h)&&decide (fget f h<=m))=(decide (n<=fget f h')&&decide (fget f h'<=m));rw[Bool.eq_iff_iff,Bool.and_eq_true,Bool.and_eq_true,decide_eq_true_eq,decide_eq_true_eq,decide_eq_true_eq,decide_eq_true_eq];omega
 | .no a,hp,s=>by show (!holdsP t a h)= !holdsP t a h';rw[Fk (a:=a) hp s]
 | .and a b,hp,s=>by
  show (holdsP t a h&&holdsP t b h)=(holdsP t a h'&&holdsP t b h');rw[Fk (a:=a) (fun f c e=>hp f c (.inl e)) s,Fk (a:=b) (fun f c e=>hp f c (.inr e)) s]
 | .or a b,hp,s=>by
  show (holdsP t a h||holdsP t b h)=(holdsP t a h'||holdsP t b h');rw[Fk (a:=a) (fun f c e=>hp f c (.inl e)) s,Fk (a:=b) (fun f c e=>hp f c (.inr e)) s]
 | .time n m,_,_=>rfl
theorem cl_box {D:Hd->Hd->Prop}(hD:∀ {h h' g},Sm F K h h'->D h g->∃ g',D h' g'/\Tr F K h h' g g'){h g:Hd}(d:Cl' D h g):∀ {h'},Sm F K h h'->∃ g',Cl' D h' g'/\Tr F K h h' g g':=by
 induction d with
 |base h=>exact fun _=>⟨_, .base _, .refl _ _⟩
 |step d1 _ ih=>
  intro h' s;obtain⟨m',e1,u1⟩:=hD s d1;obtain⟨g',e2,u2⟩:=ih (u1.sm s);exact⟨g', .step e1 e2,u1.trans u2⟩
theorem Iy (hF:FsOk F):∀ {p:Po},(∀ f c,p.cut f c->f∈F/\K f c)->p.Fit bs->∀ {h h' g:Hd},Sm F K h h'->den t p h g->∃ g',den t p h' g'/\Tr F K h h' g g'
 | .fil a,hp,_,h,h',g,s,d=>by
  obtain⟨rfl,d⟩:=d;exact⟨h',⟨rfl,by rw[<- Fk (a:=a) hp s];exact d⟩, .refl _ _⟩
 | .set f n,hp,hn,h,h',g,s,d=>by
  have d:g=fset f h n:=d;subst d;obtain⟨hf,k1⟩:=hp f n ⟨rfl, .inl rfl⟩;obtain⟨-,k2⟩:=hp f (n+1) ⟨rfl, .inr rfl⟩;have hlt:=hn.2;refine⟨fset f h' n,rfl,⟨fun e he=> ?_,fun b hb hx=>⟨Ka hb _ _ (hx f hf),Ka hb _ _ (hx f hf)⟩⟩⟩;rcases hF.dj e he f hf with rfl|d
  ·rw[Dz (hF.ok _ hf) hlt,Dz (hF.ok _ hf) hlt];exact .inr ⟨rfl,k1,k2⟩
  ·exact .inl ⟨Ge (hF.ok e he) d _ _,Ge (hF.ok e he) d _ _⟩
 | .uni a b,hp,hn,h,h',g,s,d=>by
  rcases d with d|d
  ·obtain⟨g',e,u⟩:=Iy hF (p:=a) (fun f c e=>hp f c (.inl e)) hn.1 s d;exact⟨g', .inl e,u⟩
  ·obtain⟨g',e,u⟩:=Iy hF (p:=b) (fun f c e=>hp f c (.inr e)) hn.2 s d;exact⟨g', .inr e,u⟩
 | .seq a b,hp,hn,h,h',g,s,d=>by
  obtain⟨m,d1,d2⟩:=d;obtain⟨m',e1,u1⟩:=Iy hF (p:=a) (fun f c e=>hp f c (.inl e)) hn.1 s d1;obtain⟨g',e2,u2⟩:=Iy hF (p:=b) (fun f c e=>hp f c (.inr e)) hn.2 (u1.sm s) d2;exact⟨g',⟨m',e1,e2⟩,u1.trans u2⟩
 | .star a,hp,hn,h,h',g,s,d=>cl_box (fun s d=>Iy hF (p:=a) hp hn s d) d s
end
def Ans (P:Hd->Prop) (h:Hd) (is:Bool):Prop:=(is=true/\h=hd0/\∀ g,HdOk g->P g)\/(is=false/\HdOk h/\¬ P h/\∀ g,HdOk g->hLt g h->P g)
theorem Ih {P:Hd->Prop}{h h':Hd}{is is':Bool}(a:Ans P h is)(b:Ans P h' is'):h=h'/\is=is':=by
 rcases a with ⟨rfl,rfl,a⟩|⟨rfl,a1,a2,a3⟩
 ·rcases b with ⟨rfl,rfl,b⟩|⟨rfl,b1,b2,b3⟩
  ·exact⟨rfl,rfl⟩
  ·exact absurd (a _ b1) b2
 ·rcases b with ⟨rfl,rfl,b⟩|⟨rfl,b1,b2,b3⟩
  ·exact absurd (b _ a1) a2
  ·refine⟨?_,rfl⟩;rcases H8 a1 b1 with e|e|e
   ·exact absurd (b3 _ a1 e) a2
   ·exact e
   ·exact absurd (a3 _ b1 e) b2
theorem Ans.iff {P Q:Hd->Prop}{h:Hd}{is:Bool}(a:Ans P h is)(e:∀ g,HdOk g->(P g↔Q g)):Ans Q h is:=by
 rcases a with ⟨a,b,c⟩|⟨a,b,c,d⟩
 ·exact .inl ⟨a,b,fun g hg=>(e g hg).1 (c g hg)⟩
 ·exact .inr ⟨a,b,fun q=>c ((e _ b).2 q),fun g hg hl=>(e g hg).1 (d g hg hl)⟩
theorem Ans.true {P:Hd->Prop}{h:Hd}(a:Ans P h true):∀ g,HdOk g->P g:=by
 rcases a with ⟨_,_,c⟩|⟨a,_⟩
 ·exact c
 ·cases a
theorem Ans.false {P:Hd->Prop}{h:Hd}(a:Ans P h false):HdOk h/\¬ P h/\∀ g,HdOk g->hLt g h->P g:=by
 rcases a with ⟨a,_⟩|⟨_,c⟩
 ·cases a
 ·exact c
def AskP (t:Int) (k:Nat) (p q:Po) (h:Hd):Prop:=
 if k=1 then ∀ g,den t p h g↔den t q h g else if k=2 then ∀ g,den t q h g->den t p h g else if k=3 then ∀ g,¬ den t p h g else if k=4 then ∃ g,den t p h g
 else if k=5 then ∀ g g',den t p h g->den t p h g'->g=g' else (∀ g,¬ den t p h g)\/∀ g,¬ den t q h g
section
variable {F:List Fd} {K:Fd->Nat->Prop} {h h' g g':Hd} {t:Int} {bs:List Nat} {p q:Po}
structure CutIn (F:List Fd) (K:Fd->Nat->Prop) (bs:List Nat) (p:Po):Prop where
 c:∀ f c,p.cut f c->f∈F/\K f c
 f:p.Fit bs
theorem Hr (hF:FsOk F)(hp:CutIn F K bs p)(s:Sm F K h h')(d:den t p h g):∃ g',den t p h' g'/\Tr F K h h' g g':=Iy hF hp.c hp.f s d
theorem box_eq (hF:FsOk F)(hp:CutIn F K bs p)(s:Sm F K h h')(hh:HdOk h)(hg:HdOk g)(u:Tr F K h h' g g')(d:den t p h' g'):den t p h g:=by
 obtain⟨k,d2,u2⟩:=Hr hF hp s.symm d
 rwa [u.symm.uniq s.symm hg (Dv hp.f hh d2).1 u2]
theorem ask_box (hF:FsOk F)(hp:CutIn F K bs p)(hq:CutIn F K bs q)(k:Nat)(s:Sm F K h h')(h1:HdOk h)(h2:HdOk h')(a:AskP t k p q h):AskP t k p q h':=by
 have ep:(∀ g,¬ den t p h g)->∀ g,¬ den t p h' g:=fun a g d=>by
  obtain⟨g',d2,_⟩:=Hr hF hp s.symm d;exact a g' d2
 have eq:(∀ g,¬ den t q h g)->∀ g,¬ den t q h' g:=fun a g d=>by
  obtain⟨g',d2,_⟩:=Hr hF hq s.symm d;exact a g' d2
 have inc:∀ {p q:Po},CutIn F K bs p->CutIn F K bs q->(∀ g,den t q h g->den t p h g)->∀ g,den t q h' g->den t p h' g:=fun {p q} hp hq a g d=>by
  obtain⟨g',d2,u⟩:=Hr hF hq s.symm d;exact box_eq hF hp s.symm h2 (Dv hq.f h2 d).1 u (a _ d2)
 unfold AskP at a ⊢
 split at a
 ·rename_i e;rw[if_pos e];exact fun g=>⟨inc hq hp (fun g=>(a g).1) g,inc hp hq (fun g=>(a g).2) g⟩
 ·rename_i e1;rw[if_neg e1]
  split at a
  ·rename_i e;rw[if_pos e];exact inc hp hq a
  ·rename_i e2;rw[if_neg e2]
   split at a
   ·rename_i e;rw[if_pos e];exact ep a
   ·rename_i e3;rw[if_neg e3]
    split at a
    ·rename_i e;rw[if_pos e];obtain⟨g,d⟩:=a;obtain⟨g',d2,_⟩:=Hr hF hp s d;exact⟨g',d2⟩
    ·rename_i e4;rw[if_neg e4]
     split at a
     ·rename_i e;rw[if_pos e];intro g g' d d';obtain⟨k,d2,u⟩:=Hr hF hp s.symm d;obtain⟨k',d2',u'⟩:=Hr hF hp s.symm d';obtain rfl:=a _ _ d2 d2';exact u.symm.uniq s (Dv hp.f h2 d).1 (Dv hp.f h2 d').1 u'.symm
     ·rename_i e;rw[if_neg e];exact a.imp ep eq
def cornF (cuts:Fd->List Nat):List Fd->List Hd->List Hd
 |[],out=>out
 |f::l,out=>cornF cuts l (out.flatMap fun h=>(cuts f).map (fset f h))
theorem corn_ok (cuts:Fd->List Nat):∀ (l:List Fd) {out:List Hd},(∀ x∈out,HdOk x)->∀ x∈cornF cuts l out,HdOk x
 |[],out,h=>h
 |f::l,out,h=>corn_ok cuts l fun x hx=>by
  obtain⟨y,_,hy⟩:=List.mem_flatMap.1 hx;obtain⟨n,_,rfl⟩:=List.mem_map.1 hy;exact Bz _ _ _
theorem corn_mem {cuts:Fd->List Nat}{v:Fd->Nat}:∀ {l:List Fd} {out:List Hd} {e:Hd},(∀ f∈l,FdOk f)->l.Pairwise (fun f g=>f.pos+f.w<=g.pos\/g.pos+g.w<=f.pos)->(∀ f∈l,v f∈cuts f/\v f<2 ^ f.w)->HdOk e->e∈out->
  ∃ x∈cornF cuts l out,HdOk x/\(∀ f∈l,fget f x=v f)/\(∀ f,FdOk f->(∀ g∈l,f.pos+f.w<=g.pos\/g.pos+g.w<=f.pos)->fget f x=fget f e)/\∀ b,b<160->(∀ f∈l,¬ (f.pos<=b/\b<f.pos+f.w))->hbit x b=hbit e b
 |[],out,e,_,_,_,ho,he=>⟨e,he,ho,fun f hf=>(by cases hf),fun _ _ _=>rfl,fun _ _ _=>rfl⟩
 |f::l,out,e,h1,h2,h3,ho,he=>by
  obtain⟨p1,p2⟩:=List.pairwise_cons.1 h2;obtain⟨v1,v2⟩:=h3 f (by simp);obtain⟨x,hx,ox,a,b,c⟩:=corn_mem (cuts:=cuts) (v:=v) (l:=l) (out:=out.flatMap fun h=>(cuts f).map (fset f h)) (e:=fset f e (v f)) (fun g hg=>h1 g (by simp[hg])) p2 (fun g hg=>h3 g (by simp[hg])) (Bz _ _ _) (List.mem_flatMap.2 ⟨e,he,List.mem_map.2 ⟨_,v1,rfl⟩⟩);refine⟨x,hx,ox,fun g hg=> ?_,fun g hg hd=> ?_,fun k hk hn=> ?_⟩
  ·rcases List.mem_cons.1 hg with rfl|hg
   ·rw[b g (h1 g (by simp)) fun k hk=>p1 k hk,Dz (h1 g (by simp)) v2]
   ·exact a g hg
  ·rw[b g hg fun k hk=>hd k (by simp[hk]),Ge hg (hd f (by simp))]
  ·rw[c k hk fun g hg=>hn g (by simp[hg])];exact(Ka hk _ _ (hn f (by simp))).symm
theorem max_le {l:List Nat}{n:Nat}(h0:0∈l):∃ c∈l,c<=n/\∀ d∈l,d<=n->d<=c:=by
 have key:∀ {l:List Nat} {a:Nat},a∈l->a<=n->∃ c∈l,c<=n/\∀ d∈l,d<=n->d<=c:=by
  intro l
  induction l with
  |nil=>intro a ha;cases ha
  |cons x l ih=>
   intro a ha hn
   by_cases hl:∃ b∈l,b<=n
   ·obtain⟨b,hb,hbn⟩:=hl;obtain⟨c,hc,hcn,hm⟩:=ih hb hbn
    by_cases hx:c<=x/\x<=n
    ·refine⟨x,by simp,hx.2,fun d hd hdn=> ?_⟩;rcases List.mem_cons.1 hd with rfl|hd
     ·exact Nat.le_refl _
     ·exact Nat.le_trans (hm d hd hdn) hx.1
    ·refine⟨c,by simp[hc],hcn,fun d hd hdn=> ?_⟩;rcases List.mem_cons.1 hd with rfl|hd
     ·omega
     ·exact hm d hd hdn
   ·rcases List.mem_cons.1 ha with rfl|ha
    ·refine⟨a,by simp,hn,fun d hd hdn=> ?_⟩;rcases List.mem_cons.1 hd with rfl|hd
     ·exact Nat.le_refl _
     ·exact absurd ⟨d,hd,hdn⟩ hl
    ·exact absurd ⟨a,ha,hn⟩ hl
 exact key h0 (Nat.zero_le _)
theorem lt_of_bits {x y i:Nat}(h1:y.testBit i=false)(h2:x.testBit i=true)(hj:∀ j,i<j->x.testBit j=y.testBit j):y<x:=by
 have e:=(@div_bits x y (i+1)).2 fun j h=>hj j qom
 rw[Nat.pow_succ,<- Nat.div_div_eq_div_mul,<- Nat.div_div_eq_div_mul] at e;rw[Nat.testBit_eq_decide_div_mod_eq] at h1 h2;have a1:=of_decide_eq_false h1;have a2:=of_decide_eq_true h2;have:y / 2 ^ i<x / 2 ^ i:=by omega
 exact Nat.lt_of_not_le fun h=>absurd (Nat.div_le_div_right (c:=2 ^ i) h) qom
theorem hd_le {x h:Hd}(hx:HdOk x)(hh:HdOk h)(e:∀ f∈F,fget f x<=fget f h)(o:∀ b,b<160->(∀ f∈F,¬ (f.pos<=b/\b<f.pos+f.w))->hbit x b=false):x=h\/hLt x h:=by
 rcases H8 hx hh with a|a|⟨b,hb,hj,h1,h2⟩
 ·exact .inr a
 ·exact .inl a
 ·exfalso
  by_cases hf:∃ f∈F,f.pos<=b/\b<f.pos+f.w
  ·obtain⟨f,hf,l1,l2⟩:=hf;have:=e f hf;refine absurd this (Nat.not_le_of_lt ?_);refine lt_of_bits (i:=f.pos+f.w - 1 - b) ?_ ?_ fun j hj2=> ?_
   ·rw[Dg,show f.pos+(f.w - 1 - (f.pos+f.w - 1 - b))=b by omega,h1];simp
   ·rw[Dg,show f.pos+(f.w - 1 - (f.pos+f.w - 1 - b))=b by omega,h2,decide_eq_true qom];rfl
   ·rw[Dg,Dg]
    by_cases hw:j<f.w
    ·rw[hj _ qom]
    ·simp[hw]
  ·rw[o b hb fun f hf' h=>hf ⟨f,hf',h⟩] at h2;cases h2
theorem corn_box {cuts:Fd->List Nat}(hF:∀ f∈F,FdOk f)(pw:F.Pairwise fun f g=>f.pos+f.w<=g.pos\/g.pos+g.w<=f.pos)(h0:∀ f∈F,0∈cuts f)(hc:∀ f∈F,∀ c,K f c->c<2 ^ f.w->c∈cuts f){h:Hd}(hh:HdOk h):∃ x∈cornF cuts F [hd0],HdOk x/\Sm F K h x/\(x=h\/hLt x h)/\∀ f∈F,fget f x<=fget f h:=by
 have hv:∀ f,∃ c,f∈F->c∈cuts f/\c<=fget f h/\∀ d∈cuts f,d<=fget f h->d<=c:=fun f=>by
  by_cases hf:f∈F
  ·obtain⟨c,a,b⟩:=max_le (n:=fget f h) (h0 f hf);exact⟨c,fun _=>⟨a,b⟩⟩
  ·exact⟨0,fun h=>absurd h hf⟩
 obtain⟨v,hv⟩:=Classical.axiomOfChoice hv;obtain⟨x,hx,ox,a,_,c⟩:=corn_mem (cuts:=cuts) (v:=v) (out:=[hd0]) (e:=hd0) hF pw (fun f hf=>⟨(hv f hf).1,Nat.lt_of_le_of_lt (hv f hf).2.1 (Dk f h)⟩) Ay (by simp);refine⟨x,hx,ox,fun f hf d hd=> ?_,hd_le (F:=F) ox hh (fun f hf=>by rw[a f hf];exact(hv f hf).2.1) fun b hb hn=>by rw[c b hb hn,He],fun f hf=>by rw[a f hf];exact(hv f hf).2.1⟩;rw[a f hf]
 constructor
 ·intro h1;exact(hv f hf).2.2 d (hc f hf d hd (Nat.lt_of_le_of_lt h1 (Dk f h))) h1
 ·intro h1;exact Nat.le_trans h1 (hv f hf).2.1
def LeastOf (P:Hd->Prop) (l:List Hd) (h:Hd) (is:Bool):Prop:=(is=true/\h=hd0/\∀ x∈l,P x)\/(is=false/\h∈l/\¬ P h/\∀ x∈l,hLt x h->P x)
theorem least_ans {P:Hd->Prop}{l:List Hd}{h:Hd}{is:Bool}(ok:∀ x∈l,HdOk x)(hb:∀ g,HdOk g->∃ x∈l,(P x->P g)/\(x=g\/hLt x g))(a:LeastOf P l h is):Ans P h is:=by
 rcases a with ⟨a,b,c⟩|⟨a,b,c,d⟩
 ·refine .inl ⟨a,b,fun g hg=> ?_⟩;obtain⟨x,hx,e,_⟩:=hb g hg;exact e (c x hx)
 ·refine .inr ⟨a,ok h b,c,fun g hg hl=> ?_⟩;obtain⟨x,hx,e,o⟩:=hb g hg;refine e (d x hx ?_);rcases o with rfl|o
  ·exact hl
  ·exact o.trans hl
end
end Go.Proofs.YtkgfmjanajdibaaGreat
