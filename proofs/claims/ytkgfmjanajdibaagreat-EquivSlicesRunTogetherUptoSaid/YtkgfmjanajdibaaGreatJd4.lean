/-
  A part of what LawD rests on: the logic, walks and plain laws. No condition.
-/
import Derived.Test.YtkgfmjanajdibaaGreatJd3
import Derived.KernelRfl
namespace Go.Proofs.YtkgfmjanajdibaaGreat
open _root_.Go.Proofs.Tryz
open Go.RowKit
set_option linter.unusedVariables false
set_option linter.unusedSimpArgs false
set_option linter.unusedSectionVars false
set_option maxRecDepth 100000
mutual
def Pdm.sz:Pdm→Nat
 | .mk _ _ _ _ _ _ xs=>szPL xs+1
def szPL:List Pdm→Nat
 |[]=>0
 |x::l=>x.sz+szPL l
end
mutual
def Pom.sz:Pom→Nat
 | .mk _ p _ _ _ _ xs=>szOL xs+p.sz+1
def szOL:List Pom→Nat
 |[]=>0
 |x::l=>x.sz+szOL l
end
mutual
def Pom.nd:Pom→Nat
 | .mk k p _ _ _ _ xs=>1+(if k=1 then p.sz else 0)+ndOL xs
def ndOL:List Pom→Nat
 |[]=>0
 |x::l=>x.nd+ndOL l
end
theorem Hl (m:Pdm):m.sz=szPL m.subs+1:=by cases m;rfl
theorem Dz (m:Pom):m.sz=szOL m.subs+m.pr.sz+1:=by cases m;rfl
theorem Lk (m:Pom):m.nd=1+(if m.kind=1 then m.pr.sz else 0)+ndOL m.subs:=by cases m;rfl
theorem Ey {l:List Pdm}{a:Pdm}(h:a∈l):a.sz≤szPL l:=by
 induction l with
 |nil=>cases h
 |cons x l ih=>
  rw[szPL];rcases List.mem_cons.1 h with rfl|h
  ·omega
  ·have:=ih h;omega
theorem Eg {l:List Pom}{a:Pom}(h:a∈l):a.sz≤szOL l:=by
 induction l with
 |nil=>cases h
 |cons x l ih=>
  rw[szOL];rcases List.mem_cons.1 h with rfl|h
  ·omega
  ·have:=ih h;omega
theorem szPL_app (a b:List Pdm):szPL (a++b)=szPL a+szPL b:=by
 induction a with
 |nil=>simp[szPL]
 |cons x a ih=>rw[List.cons_append,szPL,szPL,ih];omega
theorem szOL_app (a b:List Pom):szOL (a++b)=szOL a+szOL b:=by
 induction a with
 |nil=>simp[szOL]
 |cons x a ih=>rw[List.cons_append,szOL,szOL,ih];omega
theorem ndOL_app (a b:List Pom):ndOL (a++b)=ndOL a+ndOL b:=by
 induction a with
 |nil=>simp[ndOL]
 |cons x a ih=>rw[List.cons_append,ndOL,ndOL,ih];omega
theorem szPL_take {l:List Pdm}{i:Nat}(hi:i<l.length):szPL (l.take (i+1))=szPL (l.take i)+(gd l i).sz:=by
 rw[List.take_succ_eq_append_getElem hi,szPL_app,← Az hi];simp[szPL]
theorem szOL_take {l:List Pom}{i:Nat}(hi:i<l.length):szOL (l.take (i+1))=szOL (l.take i)+(gd l i).sz:=by
 rw[List.take_succ_eq_append_getElem hi,szOL_app,← Az hi];simp[szOL]
theorem ndOL_take {l:List Pom}{i:Nat}(hi:i<l.length):ndOL (l.take (i+1))=ndOL (l.take i)+(gd l i).nd:=by
 rw[List.take_succ_eq_append_getElem hi,ndOL_app,← Az hi];simp[ndOL]
theorem szPL_all {l:List Pdm}(i:Nat):szPL (l.take i)≤szPL l:=by
 have:=szPL_app (l.take i) (l.drop i);rw[List.take_append_drop] at this;omega
theorem Hy {l:List Pom}(i:Nat):szOL (l.take i)≤szOL l:=by
 have:=szOL_app (l.take i) (l.drop i);rw[List.take_append_drop] at this;omega
theorem Jq (l:List Pdm):l.length≤szPL l:=by
 induction l with
 |nil=>exact Nat.le_refl _
 |cons x l ih=>rw[szPL,List.length_cons];have:=Hl x;omega
theorem Gs (l:List Pom):l.length≤szOL l:=by
 induction l with
 |nil=>exact Nat.le_refl _
 |cons x l ih=>rw[szOL,List.length_cons];have:=Dz x;omega
mutual
theorem Ms:∀ m:Pom,m.nd≤m.sz
 | .mk k p s n q c xs=>by
  have:=ndOL_sz xs;rw[Pom.nd,Pom.sz]
  split<;>omega
theorem ndOL_sz:∀ l:List Pom,ndOL l≤szOL l
 |[]=>Nat.le_refl _
 |x::l=>by rw[ndOL,szOL];have:=Ms x;have:=ndOL_sz l;omega
end
mutual
def prtP:Pdm→List Pdm
 | .mk a b c d e f xs=> .mk a b c d e f xs::prtPL xs
def prtPL:List Pdm→List Pdm
 |[]=>[]
 |x::l=>prtP x++prtPL l
end
mutual
def prtO:Pom→List Pom
 | .mk a b c d e f xs=> .mk a b c d e f xs::prtOL xs
def prtOL:List Pom→List Pom
 |[]=>[]
 |x::l=>prtO x++prtOL l
end
theorem Er (m:Pdm):prtP m=m::prtPL m.subs:=by cases m;rfl
theorem Eh (m:Pom):prtO m=m::prtOL m.subs:=by cases m;rfl
theorem prtPL_app (a b:List Pdm):prtPL (a++b)=prtPL a++prtPL b:=by
 induction a with
 |nil=>rfl
 |cons x a ih=>rw[List.cons_append,prtPL,prtPL,ih,List.append_assoc]
theorem prtOL_app (a b:List Pom):prtOL (a++b)=prtOL a++prtOL b:=by
 induction a with
 |nil=>rfl
 |cons x a ih=>rw[List.cons_append,prtOL,prtOL,ih,List.append_assoc]
theorem prtPL_take {l:List Pdm}{i:Nat}(hi:i<l.length):prtPL (l.take (i+1))=prtPL (l.take i)++prtP (gd l i):=by
 rw[List.take_succ_eq_append_getElem hi,prtPL_app,← Az hi];simp[prtPL]
theorem prtOL_take {l:List Pom}{i:Nat}(hi:i<l.length):prtOL (l.take (i+1))=prtOL (l.take i)++prtO (gd l i):=by
 rw[List.take_succ_eq_append_getElem hi,prtOL_app,← Az hi];simp[prtOL]
mutual
theorem Jr:∀ m:Pdm,(prtP m).length=m.sz
 | .mk a b c d e f xs=>by rw[prtP,Pdm.sz,List.length_cons,prtPL_len xs]
theorem prtPL_len:∀ l:List Pdm,(prtPL l).length=szPL l
 |[]=>rfl
 |x::l=>by rw[prtPL,szPL,List.length_append,Jr x,prtPL_len l]
end
mutual
theorem prtO_len:∀ m:Pom,(prtO m).length≤m.sz
 | .mk a b c d e f xs=>by rw[prtO,Pom.sz,List.length_cons];have:=prtOL_len xs;omega
theorem prtOL_len:∀ l:List Pom,(prtOL l).length≤szOL l
 |[]=>Nat.le_refl _
 |x::l=>by rw[prtOL,szOL,List.length_append];have:=prtO_len x;have:=prtOL_len l;omega
end
mutual
theorem prtO_M {w0:World}{H:List (Nat × Obj)}:∀ {m:Pom},PoM w0 H m→∀ a∈prtO m,PoM w0 H a
 | .mk _ _ _ _ _ _ xs,h,a,ha=>by
  rw[prtO] at ha;rcases List.mem_cons.1 ha with rfl|ha
  ·exact h
  ·exact prtOL_M (fun x hx=>h.sub hx) a ha
theorem prtOL_M {w0:World}{H:List (Nat × Obj)}:∀ {l:List Pom},(∀ x∈l,PoM w0 H x)→∀ a∈prtOL l,PoM w0 H a
 |[],_,a,ha=>by cases ha
 |x::l,h,a,ha=>by
  rw[prtOL] at ha;rcases List.mem_append.1 ha with ha|ha
  ·exact prtO_M (h x (by simp)) a ha
  ·exact prtOL_M (fun y hy=>h y (by simp[hy])) a ha
end
mutual
theorem prtO_sz:∀ {m:Pom},∀ a∈prtO m,a.sz≤m.sz
 | .mk _ _ _ _ _ _ xs,a,ha=>by
  rw[prtO] at ha;rcases List.mem_cons.1 ha with rfl|ha
  ·exact Nat.le_refl _
  ·have:=prtOL_sz (l:=xs) a ha;rw[Pom.sz];omega
theorem prtOL_sz:∀ {l:List Pom},∀ a∈prtOL l,a.sz≤szOL l
 |[],a,ha=>by cases ha
 |x::l,a,ha=>by
  rw[prtOL] at ha;rw[szOL];rcases List.mem_append.1 ha with ha|ha
  ·have:=prtO_sz (m:=x) a ha;omega
  ·have:=prtOL_sz (l:=l) a ha;omega
end
theorem len_two {α:Type}{l:List α}(h:l.length=2):∃ a b,l=[a,b]:=by
 match l,h with
 |[a,b],_=>exact⟨a,b,rfl⟩
def LcP (m:Pdm) (n:Nat):Prop:=(n=0∧(m.kind=1∨m.kind=2∨(m.kind=3∧0≤m.val)∨(m.kind=4∧0≤m.val∧0≤m.to)∨(m.kind=5∧0≤m.val∧m.val≤m.to)∨(m.kind=9∧0≤m.val∧m.val<m.to)))∨(n=1∧m.kind=6)∨(n=2∧(m.kind=7∨m.kind=8))
inductive FmP:Pdm→Prop
 |mk {m:Pdm}:LcP m m.subs.length→(∀ a∈m.subs,FmP a)→FmP m
def LcO (m:Pom) (n:Nat):Prop:=(n=0∧((m.kind=1∧FmP m.pr)∨(m.kind=2∧0≤m.n)))∨(n=2∧(m.kind=3∨m.kind=4))∨(n=1∧m.kind=5)
inductive FmO:Pom→Prop
 |mk {m:Pom}:LcO m m.subs.length→(∀ a∈m.subs,FmO a)→FmO m
def FitP (fl:List Fd) (m:Pdm):Prop:=((m.kind=3∨m.kind=4)→(fndFd fl m.nm).2=true∧m.val≤2 ^ (fndFd fl m.nm).1.w - 1∧(m.kind=4→m.to≤(fndFd fl m.nm).1.w))∧(m.kind=5→(fndFd fl m.nm).2=true∧m.to≤2 ^ (fndFd fl m.nm).1.w - 1)
def FitO (fl:List Fd) (m:Pom):Prop:=(m.kind=1→∀ a∈prtP m.pr,FitP fl a)∧(m.kind=2→(fndFd fl m.nm).2=true∧m.n≤2 ^ (fndFd fl m.nm).1.w - 1)
theorem idxF_at {nm:ByteArray}:∀ {l:List Fd} {k i:Nat},idxF nm l k=some i→gd l (i - k)∈l:=fun {l k i} h=>by
 obtain⟨h1,h2⟩:=idxF_lt h;exact Ba qom
theorem El {fl:List Fd}{nm:ByteArray}(h:(fndFd fl nm).2=true):(fndFd fl nm).1∈portFd::fl:=by
 unfold fndFd at *
 split
 ·simp
 ·rename_i h1;rw[if_neg h1] at h;cases h2:idxF nm fl 0 with
  |none=>rw[h2] at h;cases h
  |some i=>simp only[];have:=idxF_at h2;exact List.mem_cons_of_mem _ (by simpa using this)
theorem Lz {v:Int}{w:Nat}(h0:0≤v)(h:v≤2 ^ w - 1):∃ n:Nat,v=(n:Int)∧n<2 ^ w:=by
 refine⟨v.toNat,by omega,?_⟩;have h2:((2 ^ w:Nat):Int)=(2:Int) ^ w:=by simp
 omega
theorem fm_is {fl:List Fd}(hfl:FlOk fl):∀ {m:Pdm},FmP m→(∀ a∈prtP m,FitP fl a)→∃ p,IsP fl m p∧p.Fit (bsF fl):=fun {m} h=>by
 induction h with
 | @mk m hl hs ih=>
  intro hf;have hm:=hf m (by rw[Er];simp);have hsub:∀ a∈m.subs,∀ b∈prtP a,FitP fl b:=fun a ha b hb=>hf b (by
   rw[Er];refine List.mem_cons_of_mem _ ?_
   generalize m.subs=l at ha
   induction l with
   |nil=>cases ha
   |cons x l ih2=>
    rw[prtPL];rcases List.mem_cons.1 ha with rfl|ha
    ·exact List.mem_append.2 (.inl hb)
    ·exact List.mem_append.2 (.inr (ih2 ha)))
  rcases hl with ⟨h0,h1|h1|⟨h1,h2⟩|⟨h1,h2,h3⟩|⟨h1,h2,h3⟩|⟨h1,h2,h3⟩⟩|⟨h0,h1⟩|⟨h0,h1⟩
  ·exact⟨.tru, .tru h1,trivial⟩
  ·exact⟨.fls, .fls h1,trivial⟩
  ·obtain⟨e1,e2,_⟩:=hm.1 (.inl h1);obtain⟨n,e3,e4⟩:=Lz h2 e2;exact⟨_, .eq h1 e3,I7 hfl (El e1),e4⟩
  ·obtain⟨e1,e2,e5⟩:=hm.1 (.inr h1);obtain⟨n,e3,e4⟩:=Lz h2 e2;have e6:=e5 h1;exact⟨_, .pre (k:=m.to.toNat) h1 e3 qom,I7 hfl (El e1),e4,by omega⟩
  ·obtain⟨e1,e2⟩:=hm.2 h1;obtain⟨n,e3,e4⟩:=Lz (show 0≤m.to by omega) e2;exact⟨_, .rng (n:=m.val.toNat) h1 qom e3,I7 hfl (El e1),by omega,e4⟩
  ·exact⟨_, .tim (n:=m.val) (k:=m.to) h1 U U,trivial⟩
  ·obtain⟨a,ha⟩:=List.length_eq_one_iff.1 h0;obtain⟨p,e1,e2⟩:=ih a (by rw[ha];simp) (hsub a (by rw[ha];simp));exact⟨_, .no h1 ha e1,e2⟩
  ·obtain⟨a,b,hab⟩:=len_two h0;obtain⟨p,e1,e2⟩:=ih a (by rw[hab];simp) (hsub a (by rw[hab];simp));obtain⟨q,e3,e4⟩:=ih b (by rw[hab];simp) (hsub b (by rw[hab];simp));rcases h1 with h1|h1
   ·exact⟨_, .and h1 hab e1 e3,e2,e4⟩
   ·exact⟨_, .or h1 hab e1 e3,e2,e4⟩
theorem J6 {fl:List Fd}(hfl:FlOk fl):∀ {m:Pom},FmO m→(∀ a∈prtO m,FitO fl a)→∃ p,IsO fl m p∧p.Fit (bsF fl):=fun {m} h=>by
 induction h with
 | @mk m hl hs ih=>
  intro hf;have hm:=hf m (by rw[Eh];simp);have hsub:∀ a∈m.subs,∀ b∈prtO a,FitO fl b:=fun a ha b hb=>hf b (by
   rw[Eh];refine List.mem_cons_of_mem _ ?_
   generalize m.subs=l at ha
   induction l with
   |nil=>cases ha
   |cons x l ih2=>
    rw[prtOL];rcases List.mem_cons.1 ha with rfl|ha
    ·exact List.mem_append.2 (.inl hb)
    ·exact List.mem_append.2 (.inr (ih2 ha)))
  rcases hl with ⟨h0,⟨h1,h2⟩|⟨h1,h2⟩⟩|⟨h0,h1⟩|⟨h0,h1⟩
  ·obtain⟨p,e1,e2⟩:=fm_is hfl h2 (hm.1 h1);exact⟨_, .fil h1 e1,e2⟩
  ·obtain⟨e1,e2⟩:=hm.2 h1;obtain⟨n,e3,e4⟩:=Lz h2 e2;exact⟨_, .set h1 e3,I7 hfl (El e1),e4⟩
  ·obtain⟨a,b,hab⟩:=len_two h0;obtain⟨p,e1,e2⟩:=ih a (by rw[hab];simp) (hsub a (by rw[hab];simp));obtain⟨q,e3,e4⟩:=ih b (by rw[hab];simp) (hsub b (by rw[hab];simp));rcases h1 with h1|h1
   ·exact⟨_, .uni h1 hab e1 e3,e2,e4⟩
   ·exact⟨_, .seq h1 hab e1 e3,e2,e4⟩
  ·obtain⟨a,ha⟩:=List.length_eq_one_iff.1 h0;obtain⟨p,e1,e2⟩:=ih a (by rw[ha];simp) (hsub a (by rw[ha];simp));exact⟨_, .star h1 ha e1,e2⟩
theorem zbs64_49_0_1_2_3_4_5_6_7_8_9_10_11_12_13_14_15_16_17_18_19_20_21_22_23_24_25_26_27_28_29_30_31_32_33_34_35_36_37_38_39_40_41_42_43_44_45_46_47_48 (a0:ByteArray)(a1:ByteArray)(a2:ByteArray)(a3:ByteArray)(a4:ByteArray)(a5:ByteArray)(a6:ByteArray)(a7:ByteArray)(a8:ByteArray)(a9:ByteArray)(a10:ByteArray)(a11:ByteArray)(a12:ByteArray)(a13:ByteArray)(a14:ByteArray)(a15:ByteArray)(a16:ByteArray)(a17:ByteArray)(a18:ByteArray)(a19:ByteArray)(a20:ByteArray)(a21:ByteArray)(a22:ByteArray)(a23:ByteArray)(a24:ByteArray)(a25:ByteArray)(a26:ByteArray)(a27:ByteArray)(a28:ByteArray)(a29:ByteArray)(a30:ByteArray)(a31:ByteArray)(a32:ByteArray)(a33:ByteArray)(a34:ByteArray)(a35:ByteArray)(a36:ByteArray)(a37:ByteArray)(a38:ByteArray)(a39:ByteArray)(a40:ByteArray)(a41:ByteArray)(a42:ByteArray)(a43:ByteArray)(a44:ByteArray)(a45:ByteArray)(a46:ByteArray)(a47:ByteArray)(a48:ByteArray)(w:World):(Instr.buildSlice 111 49 #[(0, .string a0),(1, .string a1),(2, .string a2),(3, .string a3),(4, .string a4),(5, .string a5),(6, .string a6),(7, .string a7),(8, .string a8),(9, .string a9),(10, .string a10),(11, .string a11),(12, .string a12),(13, .string a13),(14, .string a14),(15, .string a15),(16, .string a16),(17, .string a17),(18, .string a18),(19, .string a19),(20, .string a20),(21, .string a21),(22, .string a22),(23, .string a23),(24, .string a24),(25, .string a25),(26, .string a26),(27, .string a27),(28, .string a28),(29, .string a29),(30, .string a30),(31, .string a31),(32, .string a32),(33, .string a33),(34, .string a34),(35, .string a35),(36, .string a36),(37, .string a37),(38, .string a38),(39, .string a39),(40, .string a40),(41, .string a41),(42, .string a42),(43, .string a43),(44, .string a44),(45, .string a45),(46, .string a46),(47, .string a47),(48, .string a48)]).run Tryz.prog w= .ok (.slice (some ⟨w.heap.size,0,none⟩) 49 49) (w.alloc (Cl [.string a0, .string a1, .string a2, .string a3, .string a4, .string a5, .string a6, .string a7, .string a8, .string a9, .string a10, .string a11, .string a12, .string a13, .string a14, .string a15, .string a16, .string a17, .string a18, .string a19, .string a20, .string a21, .string a22, .string a23, .string a24, .string a25, .string a26, .string a27, .string a28, .string a29, .string a30, .string a31, .string a32, .string a33, .string a34, .string a35, .string a36, .string a37, .string a38, .string a39, .string a40, .string a41, .string a42, .string a43, .string a44, .string a45, .string a46, .string a47, .string a48] 9)):=by kernel_rfl
abbrev SomB (H:List (Nat × Obj)):Value→List (Nat × Obj)→Prop:=fun u H'=>∃ b:Bool,u= .bool b∧H'=H
theorem letter_s {w0:World}{H:List (Nat × Obj)}(c:Int):
  FSpec Tryz.prog w0 233 #[.int .u8 c] H (SomB H):=by
 refine Au Tryz.func233 U ntmps233 U (rD tb 10 U ?_)
 first|refine Av (s:=5) (Aa U) (fun c5=> ?_) (fun c5=> ?_)|refine A7 (s:=5) (Aa U) (fun c5=> ?_) (fun c5=> ?_)
 ·refine rO tb 7 U (Ak U (Nk U) ?_);exact⟨_,⟨_,rfl,rfl⟩,sbt⟩
 ·refine rO tb 7 U (Ak U (Nk U) ?_);exact⟨_,⟨_,rfl,rfl⟩,sbt⟩
theorem digit_s {w0:World}{H:List (Nat × Obj)}(c:Int):
  FSpec Tryz.prog w0 239 #[.int .u8 c] H (SomB H):=by
 refine Au Tryz.func239 U ntmps239 U (rD tb 10 U ?_)
 first|refine Av (s:=5) (Aa U) (fun c5=> ?_) (fun c5=> ?_)|refine A7 (s:=5) (Aa U) (fun c5=> ?_) (fun c5=> ?_)
 ·refine rO tb 7 U (Ak U (Nk U) ?_);exact⟨_,⟨_,rfl,rfl⟩,sbt⟩
 ·refine rO tb 7 U (Ak U (Nk U) ?_);exact⟨_,⟨_,rfl,rfl⟩,sbt⟩
theorem wordByte_s {w0:World}{H:List (Nat × Obj)}(c:Int):
  FSpec Tryz.prog w0 238 #[.int .u8 c] H (SomB H):=by
 refine Au Tryz.func238 U ntmps238 U (rD tb 8 U (e_ (Al (qe1 U) call233 (letter_s c)) ?_ U));rintro _ _ ⟨b1,rfl,rfl⟩;refine rO tb 6 U (e_ (Al (qe1 U) call239 (digit_s c)) ?_ U);rintro _ _ ⟨b2,rfl,rfl⟩;refine rO tb 7 U ?_
 first|refine Av (s:=10) (Aa U) (fun c10=> ?_) (fun c10=> ?_)|refine A7 (s:=10) (Aa U) (fun c10=> ?_) (fun c10=> ?_)
 ·refine rO tb 10 U (Ak U (Nk U) ?_);exact⟨_,⟨_,rfl,rfl⟩,sbt⟩
 ·refine rO tb 3 U ?_
  first|refine Av (s:=13) (Aa U) (fun c13=> ?_) (fun c13=> ?_)|refine A7 (s:=13) (Aa U) (fun c13=> ?_) (fun c13=> ?_)
  ·refine rO tb 7 U (Ak U (Nk U) ?_);exact⟨_,⟨_,rfl,rfl⟩,sbt⟩
  ·refine rO tb 7 U (Ak U (Nk U) ?_);exact⟨_,⟨_,rfl,rfl⟩,sbt⟩
theorem run_s {w0:World}{H:List (Nat × Obj)}(s:ByteArray)(hs9:s.size≤9223372036854775807):
  FSpec Tryz.prog w0 235 #[.string s] H (fun u H'=>∃ n:Int,u= .int .i64 n∧H'=H):=by
 refine Au Tryz.func235 U ntmps235 U (rD tb 12 U ?_);refine Bj (X:=Nat) (V:=fun i=>[(3, .int .i64 (i:Nat))]) (C:=[(0,_)]) (G:=fun i=>H) (φ:=fun i=>i≤s.size) (μ:=fun i=>s.size - i) (x0:=0) ?_ ⟨Aa U,trivial⟩ ⟨atd,trivial⟩ sb0 ?_
 ·exact Nat.zero_le _
 rintro i hi;refine rD tb 5 U (y_ (Ff (T U) runUnderlying9) (rO tb 3 U ?_) U)
 first|refine Ae (Aa U) (fun c8=> ?_) (fun c8=> ?_)|refine Ah (Aa U) (fun c8=> ?_) (fun c8=> ?_)
 ·refine rC tb 7 U (y_ (Fu (T U) (T U) runUnderlying9 (by have h9:((i:Nat):Int)<(s.size:Nat):=c8;omega)) ?_ U);refine e_ (Al (qe1 U) call238 (wordByte_s _)) ?_ U;rintro _ _ ⟨b1,rfl,rfl⟩;refine rO tb 7 U ?_
  first|refine A9 (B5 (T U)) U Ac ?_|refine A9 (B1 (T U)) U Ac ?_
  refine rO tb 2 U ?_
  first|refine Ae (Aa U) (fun c14=> ?_) (fun c14=> ?_)|refine Ah (Aa U) (fun c14=> ?_) (fun c14=> ?_)
  ·refine rC tb 3 U (Ax (rX tb 9 U (Ak U (Nk U) ?_)));exact⟨_,⟨_,rfl,rfl⟩,sbt⟩
  ·refine rC tb 4 U (y_ (A8 (T U) An (by have h9:((i:Nat):Int)<(s.size:Nat):=c8;omega)) ?_ U);refine rO tb 3 U ?_;refine A6 (i+1) ?_ ?_ ⟨atd,trivial⟩ ⟨Aa U,trivial⟩ ?_
   ·have h9:((i:Nat):Int)<(s.size:Nat):=c8;omega
   ·have h9:((i:Nat):Int)<(s.size:Nat):=c8;omega
   ·exact sbt
 ·refine rC tb 2 U (Ax (rX tb 9 U (Ak U (Nk U) ?_)));exact⟨_,⟨_,rfl,rfl⟩,sbt⟩
def wordsL:List ByteArray:=[⟨#[97,110,100]⟩,⟨#[97,110,121]⟩,⟨#[97,116]⟩,⟨#[98,97,99,107]⟩,⟨#[98,111,120]⟩,⟨#[98,117,114,115,116]⟩,⟨#[98,121]⟩,⟨#[99,97,112,97,99,105,116,121]⟩,⟨#[99,101,105,108,105,110,103]⟩,⟨#[99,104,101,99,107]⟩,⟨#[99,111,110,116,114,97,99,116]⟩,⟨#[99,111,117,110,116]⟩,⟨#[100,101,109,97,110,100]⟩,⟨#[100,114,111,112]⟩,⟨#[101,97,99,104]⟩,⟨#[101,100,103,101]⟩,⟨#[101,110,116,114,105,101,115]⟩,⟨#[102,97,108,115,101]⟩,⟨#[102,105,101,108,100]⟩,⟨#[102,108,111,111,114]⟩,⟨#[102,114,111,109]⟩,⟨#[105,100]⟩,⟨#[105,110]⟩,⟨#[105,110,110,101,114]⟩,⟨#[105,110,116,111]⟩,⟨#[108,105,110,107]⟩,⟨#[110,101,116,119,111,114,107]⟩,⟨#[110,111,100,101]⟩,⟨#[110,111,116]⟩,⟨#[111,112,101,110]⟩,⟨#[111,114]⟩,⟨#[112,97,116,104]⟩,⟨#[112,111,114,116]⟩,⟨#[112,114,105,99,101]⟩,⟨#[114,111,117,116,101]⟩,⟨#[114,117,108,101,115]⟩,⟨#[115,116,97,103,101]⟩,⟨#[116,97,107,101]⟩,⟨#[116,101,110,97,110,116]⟩,⟨#[116,104,101,110]⟩,⟨#[116,105,109,101]⟩,⟨#[116,111]⟩,⟨#[116,111,107,101,110]⟩,⟨#[116,114,97,110,115,108,97,116,101]⟩,⟨#[116,114,117,101]⟩,⟨#[118,105,97]⟩,⟨#[119,105,100,116,104]⟩,⟨#[119,105,114,101]⟩,⟨#[119,105,116,104,105,110]⟩]
abbrev wordsV:List Value:=wordsL.map Value.string
theorem words_s {w0:World}{H:List (Nat × Obj)}  :
  FSpec Tryz.prog w0 237 #[] H (fun u H'=>∃ n:Nat,u= .slice (some ⟨n,0,none⟩) 49 49∧H'=(n,Cl wordsV 9)::H):=by
 refine Au Tryz.func237 U ntmps237 U (rD tb 7 U (e_ (Br (.cons An (.cons An (.cons An (.cons An (.cons An (.cons An (.cons An (.cons An (.cons An (.cons An (.cons An (.cons An (.cons An (.cons An (.cons An (.cons An (.cons An (.cons An (.cons An (.cons An (.cons An (.cons An (.cons An (.cons An (.cons An (.cons An (.cons An (.cons An (.cons An (.cons An (.cons An (.cons An (.cons An (.cons An (.cons An (.cons An (.cons An (.cons An (.cons An (.cons An (.cons An (.cons An (.cons An (.cons An (.cons An (.cons An (.cons An (.cons An (.cons An .nil))))))))))))))))))))))))))))))))))))))))))))))))) (zbs64_49_0_1_2_3_4_5_6_7_8_9_10_11_12_13_14_15_16_17_18_19_20_21_22_23_24_25_26_27_28_29_30_31_32_33_34_35_36_37_38_39_40_41_42_43_44_45_46_47_48 _ _ _ _ _ _ _ _ _ _ _ _ _ _ _ _ _ _ _ _ _ _ _ _ _ _ _ _ _ _ _ _ _ _ _ _ _ _ _ _ _ _ _ _ _ _ _ _ _)) ?_ U));rintro _ _ ⟨n1,rfl,rfl⟩;refine rO tb 4 U (Ak U (Nk U) ?_);exact⟨_,⟨_,rfl,rfl⟩,sbt⟩
theorem words_cell {w0:World}{H:List (Nat × Obj)}{n i:Nat}(hf:Fnd H n (Cl wordsV 9))(hi:i<49):Cell w0 H ⟨n,0+((i:Nat):Int).toNat*1,none⟩ (.string (gd wordsL i)):=by
 have hl:i<wordsL.length:=hi;have:=Af (w0:=w0) hf i (.string (gd wordsL i)) (by rw[List.getElem?_map,List.getElem?_eq_getElem hl,Az hl];rfl)
 rwa [show 0+((i:Nat):Int).toNat*1=0+i by omega]
theorem isWord_s {w0:World}{H:List (Nat × Obj)}(s:ByteArray):
  FSpec Tryz.prog w0 234 #[.string s] H (SomB H):=by
 refine Au Tryz.func234 U ntmps234 U (rD tb 7 U (e_ (Al .nil call237 (words_s)) ?_ U));rintro _ _ ⟨nw,rfl,rfl⟩;refine rO tb 10 U ?_;refine Bj (X:=Nat) (V:=fun i=>[(4, .int .i64 (i:Nat))]) (C:=[(0,_),(3,_)]) (G:=fun i=>(nw,Cl wordsV 9)::H) (φ:=fun i=>i≤49) (μ:=fun i=>49 - i) (x0:=0) ?_ ⟨Aa U,Aa U,trivial⟩ ⟨atd,trivial⟩ sb0 ?_
 ·exact Nat.zero_le _
 rintro i hi;refine rD tb 9 U ?_
 first|refine Ae (Aa U) (fun c9=> ?_) (fun c9=> ?_)|refine Ah (Aa U) (fun c9=> ?_) (fun c9=> ?_)
 ·refine rC tb 8 U (y_ (Np U U runUnderlying111 sizeOf9 (by have h9:((i:Nat):Int)<49:=c9;omega) (by first|exact rfl)) ?_ U);refine y_ (Nl U isAgg9 (by first|exact c_o|exact words_cell fdd (by have h9:((i:Nat):Int)<49:=c9;omega))) ?_ U;refine rO tb 1 U (y_ (yl_eqS (T U) (T U)) (rO tb 2 U ?_) U)
  first|refine Ae (Aa U) (fun c17=> ?_) (fun c17=> ?_)|refine Ah (Aa U) (fun c17=> ?_) (fun c17=> ?_)
  ·refine rC tb 8 U (Bc (rX tb 2 U (Ak U (Nk U) ?_)));exact⟨_,⟨_,rfl,rfl⟩,sbt⟩
  ·refine rC tb 5 U (y_ (A8 (T U) An (by have h9:((i:Nat):Int)<49:=c9;omega)) ?_ U);refine rO tb 2 U ?_;refine A6 (i+1) ?_ ?_ ⟨atd,trivial⟩ ⟨Aa U,Aa U,trivial⟩ ?_
   ·have h9:((i:Nat):Int)<49:=c9;omega
   ·have h9:((i:Nat):Int)<49:=c9;omega
   ·exact sbt
 ·refine rC tb 2 U (Ax (rX tb 8 U (Ak U (Nk U) ?_)));exact⟨_,⟨_,rfl,rfl⟩,sbt⟩
theorem name_s {w0:World}{H:List (Nat × Obj)}(s:ByteArray)(hs9:s.size≤9223372036854775807):
  FSpec Tryz.prog w0 229 #[.string s] H (SomB H):=by
 refine Au Tryz.func229 U ntmps229 U (rD tb 9 U (y_ (Ff (T U) runUnderlying9) (rO tb 2 U ?_) U))
 first|refine Av (s:=8) (Aa U) (fun c8=> ?_) (fun c8=> ?_)|refine A7 (s:=8) (Aa U) (fun c8=> ?_) (fun c8=> ?_)
 ·refine rO tb 14 U (Ak U (Nk U) ?_);exact⟨_,⟨_,rfl,rfl⟩,sbt⟩
 ·have h0:0<s.size:=by have h9: ¬ (s.size:Int)=0:=c8;omega
  refine rO tb 1 U (A9 (Ff (T U) runUnderlying9) U (Bg U U (Aa U)) (rO tb 4 U ?_))
  first|refine Ae (Aa U) (fun c12=> ?_) (fun c12=> ?_)|refine Ah (Aa U) (fun c12=> ?_) (fun c12=> ?_)
  ·refine rC tb 7 U (Ak U (Nk U) ?_);exact⟨_,⟨_,rfl,rfl⟩,sbt⟩
  ·refine rC tb 5 U (y_ (Fu (T U) An runUnderlying9 qom) ?_ U);refine e_ (Al (qe1 U) call233 (letter_s _)) ?_ U;rintro _ _ ⟨b1,rfl,rfl⟩;refine rO tb 6 U (e_ (Al (qe1 U) call234 (isWord_s s)) ?_ U);rintro _ _ ⟨b2,rfl,rfl⟩;refine rO tb 7 U ?_
   first|refine Av (s:=19) (Aa U) (fun c19=> ?_) (fun c19=> ?_)|refine A7 (s:=19) (Aa U) (fun c19=> ?_) (fun c19=> ?_)
   ·refine rO tb 1 U (A5 (Al (qe1 U) call235 (run_s s hs9)) U (Bg U U (Aa U)) ?_);rintro _ _ ⟨nr,rfl,rfl⟩;refine rO tb 1 U (A9 (Ff (T U) runUnderlying9) U (Bg U U (Aa U)) (rO tb 3 U ?_))
    first|refine Av (s:=26) (Aa U) (fun c26=> ?_) (fun c26=> ?_)|refine A7 (s:=26) (Aa U) (fun c26=> ?_) (fun c26=> ?_)
    ·refine rO tb 1 U ?_
     first|refine A9 (B5 (T U)) U (Bg U U (Aa U)) ?_|refine A9 (B1 (T U)) U (Bg U U (Aa U)) ?_
     refine rO tb 5 U (Ak U (Nk U) ?_);exact⟨_,⟨_,rfl,rfl⟩,sbt⟩
    ·refine rO tb 7 U (Ak U (Nk U) ?_);exact⟨_,⟨_,rfl,rfl⟩,sbt⟩
   ·refine rO tb 14 U (Ak U (Nk U) ?_);exact⟨_,⟨_,rfl,rfl⟩,sbt⟩
theorem plain_s {w0:World}{H:List (Nat × Obj)}(s:ByteArray)(hs9:s.size≤9223372036854775807):
  FSpec Tryz.prog w0 219 #[.string s] H (SomB H):=by
 refine Au Tryz.func219 U ntmps219 U (rD tb 8 U (e_ (Al (qe1 U) call229 (name_s s hs9)) ?_ U));rintro _ _ ⟨b1,rfl,rfl⟩;refine rO tb 4 U (Ak U (Nk U) ?_);exact⟨_,⟨_,rfl,rfl⟩,sbt⟩
theorem named_s {w0:World}{H:List (Nat × Obj)}(s:ByteArray)(hs9:s.size≤9223372036854775807):
  FSpec Tryz.prog w0 193 #[.string s] H (SomB H):=by
 refine Au Tryz.func193 U ntmps193 U (rD tb 8 U (e_ (Al (qe1 U) call219 (plain_s s hs9)) ?_ U));rintro _ _ ⟨b1,rfl,rfl⟩;refine rO tb 7 U ?_
 first|refine Av (s:=7) (Aa U) (fun c7=> ?_) (fun c7=> ?_)|refine A7 (s:=7) (Aa U) (fun c7=> ?_) (fun c7=> ?_)
 ·refine rO tb 7 U (Ak U (Nk U) ?_);exact⟨_,⟨_,rfl,rfl⟩,sbt⟩
 ·refine rO tb 1 U (A9 (yl_eqS (T U) An) U (Bg U U (Aa U)) (rO tb 5 U (Ak U (Nk U) ?_)));exact⟨_,⟨_,rfl,rfl⟩,sbt⟩
theorem zbd84_0_1 (a0:Int)(a1:Int)(w:World):(Instr.build 122 #[(0, .int .i64 a0),(1, .int .i64 a1)]).run Tryz.prog w= .ok (.agg #[.int .i64 a0, .int .i64 a1]) w:=by kernel_rfl
theorem K7 {w0:World}{H:List (Nat × Obj)}{n:Nat}{t:TypeId}{m:Pom}(h:Fnd H n (Cl (encPo m) t)):Cells w0 H n (0+1) (encPd m.pr):=po_pr (.int .i64 m.kind) m.pr [.string m.nm, .int .i64 m.n, .slice m.q m.subs.length m.cap] h
abbrev szV (a:Nat) (d:Int):Value:= .agg #[.int .i64 (a:Nat), .int .i64 d]
abbrev SzK (n b:Nat) (H:List (Nat × Obj)):Value→List (Nat × Obj)→Prop:=fun u H'=>∃ d:Int,(u=szV n d∧0≤d∧d≤b)∧H'=H
abbrev IntK (b:Nat) (H:List (Nat × Obj)):Value→List (Nat × Obj)→Prop:=fun u H'=>∃ n:Int,(u= .int .i64 n∧0≤n∧n≤b)∧H'=H
def SzPS (w0:World) (N:Nat):Prop:=∀ {H:List (Nat × Obj)} {m:Pdm},PdM w0 H m→m.sz≤N→FSpec Tryz.prog w0 119 #[.agg (encPd m).toArray] H (SzK m.sz m.sz H)
def SzOS (w0:World) (N:Nat):Prop:=∀ {H:List (Nat × Obj)} {m:Pom},PoM w0 H m→m.sz≤N→FSpec Tryz.prog w0 77 #[.agg (encPo m).toArray] H (SzK m.nd m.sz H)
def StS (w0:World) (N:Nat):Prop:=∀ {H:List (Nat × Obj)} {m:Pom},PoM w0 H m→m.sz≤N→FSpec Tryz.prog w0 78 #[.agg (encPo m).toArray] H (IntK m.sz H)
def PuS (w0:World) (N:Nat):Prop:=∀ {H:List (Nat × Obj)} {m:Pom},PoM w0 H m→m.sz≤N→FSpec Tryz.prog w0 124 #[.agg (encPo m).toArray] H (IntK m.sz H)
theorem yl_addL {P:Program}{w0:World}{L:Fm}{H:List (Nat × Obj)}{ty xt yt:TypeId}{x y:Operand}{a c:Nat}(hx:Ev L x (.int .i64 (a:Nat)))(hy:Ev L y (.int .i64 (c:Nat)))(h:a+c≤4000000000):Yl P w0 (.binOp .add xt x y yt) ty L H (.int .i64 ((a+c:Nat):Int)):=by
 have h:=A8 (P:=P) (w0:=w0) (H:=H) (ty:=ty) (xt:=xt) (yt:=yt) hx hy qom
 rwa [show (a:Int)+c=((a+c:Nat):Int) by omega] at h
theorem more_s {w0:World}{H:List (Nat × Obj)}(a c:Nat)(b d:Int)(h:a+c≤4000000000∧0≤b∧b≤4000000000∧0≤d∧d≤4000000000):
  FSpec Tryz.prog w0 123 #[szV a b,szV c d] H (Still (szV (a+c) (max b (d+1))) H):=by
 refine Au Tryz.func123 U ntmps123 U (rD tb 2 U (e_ (Nr U cs_) ?_ U));rintro _ _ ⟨n2,rfl,rfl⟩;refine e_ (Nr U cs_) ?_ U;rintro _ _ ⟨n3,rfl,rfl⟩;refine e_ (Ai zeroValue122 cs_) ?_ U;rintro _ _ ⟨n4,rfl,rfl⟩;refine rO tb 5 U (y_ (Nl U isAgg3 (by first|exact c_o)) ?_ U);refine rO tb 1 U (y_ (Nl U isAgg3 (by first|exact c_o)) ?_ U);refine y_ (yl_addL (T U) (T U) qom) ?_ U;refine rO tb 1 U (y_ (Nl U isAgg3 (by first|exact c_o)) ?_ U);refine rO tb 1 U (y_ (Nl U isAgg3 (by first|exact c_o)) ?_ U);refine y_ (A8 (T U) An qom) ?_ U;refine y_ (yl_max (T U) (T U)) (y_ (Bd (.cons (T U) (.cons (T U) .nil)) (zbd84_0_1 _ _)) ?_ U) U
 first|refine A5 (Nq U U sizeOf122) U Ac ?_
 rintro _ _ ⟨rfl,rfl⟩;refine rO tb 3 U (Ak U (.cellA (Aa U) isAgg122 sizeOf122 U (by first|exact As) .nil) ?_);exact⟨_,⟨rfl,rfl⟩,sbt⟩
theorem szP_step {w0:World}{H:List (Nat × Obj)}{N:Nat}(hN:N≤1000000000)(ih:SzPS w0 N){m:Pdm}(hM:PdM w0 H m)(hm:m.sz≤N+1):
  FSpec Tryz.prog w0 119 #[.agg (encPd m).toArray] H (SzK m.sz m.sz H):=by
 refine Au Tryz.func119 U ntmps119 U ?_;have hsz:=Hl m;have hln:=Jq m.subs;refine rD tb 2 U (e_ (Nr U cs_) ?_ U);rintro _ _ ⟨n1,rfl,rfl⟩;refine e_ (Ai zeroValue122 cs_) ?_ U;rintro _ _ ⟨n2,rfl,rfl⟩;refine rO tb 4 U (y_ (Bd (.cons An (.cons An .nil)) (zbd84_0_1 _ _)) (e_ (Ai zeroValue122 cs_) ?_ U) U);rintro _ _ ⟨n3,rfl,rfl⟩
 first|refine A5 (Nq U U sizeOf122) U Ac ?_
 rintro _ _ ⟨rfl,rfl⟩;refine rO tb 9 U ?_;refine Bj (X:=Nat × Int) (V:=fun ⟨i,dd⟩=>[(4, .int .i64 (i:Nat))]) (C:=[(1,_),(2,_),(3,_)]) (G:=fun ⟨i,dd⟩=>(n3,Cl [.int .i64 ((1+szPL (m.subs.take i):Nat):Int), .int .i64 dd] 122)::(n2,Cl [.int .i64 0, .int .i64 0] 122)::(n1,Cl (encPd m) 25)::H) (φ:=fun ⟨i,dd⟩=>i≤m.subs.length∧0≤dd∧dd≤szPL m.subs+1) (μ:=fun ⟨i,dd⟩=>m.subs.length - i) (x0:=(0,1)) ?_ ⟨Aa rfl,Aa rfl,Aa rfl,trivial⟩ ⟨atd,trivial⟩ (by exact sbt) ?_
 ·exact⟨Nat.zero_le _,by omega,by omega⟩
 rintro⟨i,dd⟩ ⟨hi,hd1,hd2⟩;refine rD tb 5 U (y_ (Nl U isAgg23 (by first|exact c_o)) ?_ U);refine rO tb 4 U ?_
 first|refine Ae (Aa U) (fun c10=> ?_) (fun c10=> ?_)|refine Ah (Aa U) (fun c10=> ?_) (fun c10=> ?_)
 ·have hi2:i<m.subs.length:=by have h9:((i:Nat):Int)<(m.subs.length:Nat):=c10;omega
  have htk:=szPL_take hi2;have hal:=szPL_all (l:=m.subs) (i+1);refine rC tb 4 U (Bk 8 [(0,true),(1,true),(2,true),(3,true),(4,true),(5,true),(6,false),(7,true)] ((n3,Cl [.int .i64 ((1+szPL (m.subs.take i):Nat):Int), .int .i64 dd] 122)::(n1,Cl (encPd m) 25)::H) mixd qkr (by exact sbt) ?_ Bp);refine o_y U (Nn U isAgg122 sizeOf122 U (by first|exact As)) ?_ U Ac;refine rP tb 1 U (o_y U (Nl U isAgg23 (by first|exact c_o)) ?_ U Ac);refine rP tb 1 U (o_y U (Np U U runUnderlying23 sizeOf25 qom (by first|exact rfl|exact hM.arr.b (i:=i) hi2)) ?_ U Ac);refine o_y U (Nn U isAgg25 sizeOf25 U (by first|exact(hM.arr.mono (by exact sbt)).cs (i:=i) hi2|exact As)) ?_ U Ac;refine o_e U (Al (qe1 U) call119 (ih ((hM.sub (Ba hi2)).mono (by exact sbt)) qom)) ?_ U Ac;rintro _ _ ⟨d1,⟨rfl,d2,d3⟩,rfl⟩;refine⟨sbt,(o_y U (Aw (qe2 U U) call123 (fun H' hs=>more_s _ _ _ _ qom)) ?_ U Ac)⟩;refine A4 U ?_
  first|refine A5 (Nq U U sizeOf122) U Ac ?_
  rintro _ _ ⟨rfl,rfl⟩;refine rO tb 5 U (y_ (A8 (T U) An qom) ?_ U);refine rO tb 2 U ?_;refine A6 ((i+1,max dd (d1+1))) ?_ ?_ ⟨atd,trivial⟩ ⟨Aa U,Aa U,Aa U,trivial⟩ ?_
  ·exact⟨hi2,by omega,by omega⟩
  ·first|omega|(simp only[];omega)
  ·dsimp only;rw[htk,← Nat.add_assoc];exact sbt
 ·obtain rfl:i=m.subs.length:=by have h9: ¬ ((i:Nat):Int)<(m.subs.length:Nat):=c10;omega
  have htl:m.subs.take m.subs.length=m.subs:=List.take_length;refine rC tb 2 U (Ax (rX tb 4 U (y_ (Nn U isAgg122 sizeOf122 U (by first|exact As)) ?_ U)))
  first|refine A5 (Nq U U sizeOf122) U Ac ?_
  rintro _ _ ⟨rfl,rfl⟩;refine rO tb 3 U (Ak U (.cellA (Aa U) isAgg122 sizeOf122 U (by first|exact As) .nil) ?_);exact⟨_,⟨dd,⟨by rw[hsz,htl,Nat.add_comm];rfl,hd1,by omega⟩,rfl⟩,sbt⟩
theorem szO_step {w0:World}{H:List (Nat × Obj)}{N:Nat}(hN:N≤1000000000)(ih:SzOS w0 N)(ihP:SzPS w0 N){m:Pom}(hM:PoM w0 H m)(hm:m.sz≤N+1):
  FSpec Tryz.prog w0 77 #[.agg (encPo m).toArray] H (SzK m.nd m.sz H):=by
 refine Au Tryz.func77 U ntmps77 U ?_;have hsz:=Dz m;have hln:=Gs m.subs;have hnd:=Lk m;have hns:=Ms m;refine rD tb 2 U (e_ (Nr U cs_) ?_ U);rintro _ _ ⟨n1,rfl,rfl⟩;refine e_ (Ai zeroValue122 cs_) ?_ U;rintro _ _ ⟨n2,rfl,rfl⟩;refine rO tb 4 U (y_ (Bd (.cons An (.cons An .nil)) (zbd84_0_1 _ _)) (e_ (Ai zeroValue122 cs_) ?_ U) U);rintro _ _ ⟨n3,rfl,rfl⟩
 first|refine A5 (Nq U U sizeOf122) U Ac ?_
 rintro _ _ ⟨rfl,rfl⟩;refine rO tb 2 U ?_;refine Gc (X:=Int) (V:=fun e0=>[]) (C:=[(1,_),(2,_),(3,_)]) (G:=fun e0=>(n3,Cl [.int .i64 ((1+(if m.kind=1 then m.pr.sz else 0):Nat):Int), .int .i64 e0] 122)::(n2,Cl [.int .i64 0, .int .i64 0] 122)::(n1,Cl (encPo m) 28)::H) (φ:=fun e0=>0≤e0∧e0≤m.pr.sz+1) ⟨Aa U,Aa U,Aa U,trivial⟩ ?_ ?_
 ·refine rD tb 3 U (y_ (Nl U isAgg3 (by first|exact c_o)) ?_ U);refine rO tb 3 U ?_
  first|refine Ae (Aa U) (fun c8=> ?_) (fun c8=> ?_)|refine Ah (Aa U) (fun c8=> ?_) (fun c8=> ?_)
  ·refine Bk 5 [(0,true),(1,true),(2,true),(3,false),(4,true)] ((n3,Cl [.int .i64 1, .int .i64 1] 122)::(n2,Cl [.int .i64 0, .int .i64 0] 122)::(n1,Cl (encPo m) 28)::H) mixd qkr (by exact sbt) ?_ Bp;refine o_y U (Nn U isAgg122 sizeOf122 U (by first|exact As)) ?_ U Ac;refine rP tb 1 U ?_;refine o_y U (Nn U isAgg25 sizeOf25 U (by first|exact K7 (by repeat (first|exact Am|refine Ar ?_))|exact As)) ?_ U Ac;refine o_e U (Al (qe1 U) call119 (ihP (hM.pred.mono (by exact sbt)) qom)) ?_ U Ac;rintro _ _ ⟨d0,⟨rfl,d5,d6⟩,rfl⟩;refine⟨sbt,(o_y U (Aw (qe2 U U) call123 (fun H' hs=>more_s 1 _ 1 _ qom)) ?_ U Ac)⟩;refine A4 U ?_
   first|refine A5 (Nq U U sizeOf122) U Ac ?_
   rintro _ _ ⟨rfl,rfl⟩;refine rO tb 1 U (Bf (max 1 (d0+1)) ?_ trivial ⟨Aa U,Aa U,Aa U,trivial⟩ (by first|(rw[if_pos (show m.kind=1 from c8)];exact sbt)|(rw[if_neg (show ¬ m.kind=1 from c8)];exact sbt)));exact⟨by omega,by omega⟩
  ·refine rC tb 1 U (Bf (1) ?_ trivial ⟨Aa U,Aa U,Aa U,trivial⟩ (by first|(rw[if_pos (show m.kind=1 from c8)];exact sbt)|(rw[if_neg (show ¬ m.kind=1 from c8)];exact sbt)));exact⟨by omega,by omega⟩
 rintro e0 ⟨he1,he2⟩;refine rC tb 7 U ?_;refine Bj (X:=Nat × Int) (V:=fun ⟨i,dd⟩=>[(4, .int .i64 (i:Nat))]) (C:=[(1,_),(2,_),(3,_)]) (G:=fun ⟨i,dd⟩=>(n3,Cl [.int .i64 ((1+(if m.kind=1 then m.pr.sz else 0)+ndOL (m.subs.take i):Nat):Int), .int .i64 dd] 122)::(n2,Cl [.int .i64 0, .int .i64 0] 122)::(n1,Cl (encPo m) 28)::H) (φ:=fun ⟨i,dd⟩=>i≤m.subs.length∧0≤dd∧dd≤szOL m.subs+m.pr.sz+1) (μ:=fun ⟨i,dd⟩=>m.subs.length - i) (x0:=(0,e0)) ?_ ⟨Aa rfl,Aa rfl,Aa rfl,trivial⟩ ⟨atd,trivial⟩ (by exact sbt) ?_
 ·exact⟨Nat.zero_le _,by omega,by omega⟩
 rintro⟨i,dd⟩ ⟨hi,hd1,hd2⟩;refine rD tb 5 U (y_ (Nl U isAgg26 (by first|exact c_o)) ?_ U);refine rO tb 4 U ?_
 first|refine Ae (Aa U) (fun c18=> ?_) (fun c18=> ?_)|refine Ah (Aa U) (fun c18=> ?_) (fun c18=> ?_)
 ·have hi2:i<m.subs.length:=by have h9:((i:Nat):Int)<(m.subs.length:Nat):=c18;omega
  have htk:=ndOL_take hi2;have hss:=Eg (Ba hi2);have hn1:=Ms (gd m.subs i);have hn2:ndOL (m.subs.take i)≤szOL m.subs:=Nat.le_trans (ndOL_sz _) (Hy i);have hn3:(if m.kind=1 then m.pr.sz else 0)≤m.pr.sz:=by split<;>omega
  refine rC tb 4 U (Bk 8 [(0,true),(1,true),(2,true),(3,true),(4,true),(5,true),(6,false),(7,true)] ((n3,Cl [.int .i64 ((1+(if m.kind=1 then m.pr.sz else 0)+ndOL (m.subs.take i):Nat):Int), .int .i64 dd] 122)::(n1,Cl (encPo m) 28)::H) mixd qkr (by exact sbt) ?_ Bp);refine o_y U (Nn U isAgg122 sizeOf122 U (by first|exact As)) ?_ U Ac;refine rP tb 1 U (o_y U (Nl U isAgg26 (by first|exact c_o)) ?_ U Ac);refine rP tb 1 U (o_y U (Np U U runUnderlying26 sizeOf28 qom (by first|exact rfl|exact hM.arr.b (i:=i) hi2)) ?_ U Ac);refine o_y U (Nn U isAgg28 sizeOf28 U (by first|exact(hM.arr.mono (by exact sbt)).cs (i:=i) hi2|exact As)) ?_ U Ac;refine o_e U (Al (qe1 U) call77 (ih ((hM.sub (Ba hi2)).mono (by exact sbt)) qom)) ?_ U Ac;rintro _ _ ⟨d1,⟨rfl,d2,d3⟩,rfl⟩;refine⟨sbt,(o_y U (Aw (qe2 U U) call123 (fun H' hs=>more_s _ _ _ _ qom)) ?_ U Ac)⟩;refine A4 U ?_
  first|refine A5 (Nq U U sizeOf122) U Ac ?_
  rintro _ _ ⟨rfl,rfl⟩;refine rO tb 5 U (y_ (A8 (T U) An qom) ?_ U);refine rO tb 2 U ?_;refine A6 ((i+1,max dd (d1+1))) ?_ ?_ ⟨atd,trivial⟩ ⟨Aa U,Aa U,Aa U,trivial⟩ ?_
  ·exact⟨hi2,by omega,by omega⟩
  ·first|omega|(simp only[];omega)
  ·dsimp only;rw[htk,← Nat.add_assoc];exact sbt
 ·obtain rfl:i=m.subs.length:=by have h9: ¬ ((i:Nat):Int)<(m.subs.length:Nat):=c18;omega
  have htl:m.subs.take m.subs.length=m.subs:=List.take_length;refine rC tb 2 U (Ax (rX tb 4 U (y_ (Nn U isAgg122 sizeOf122 U (by first|exact As)) ?_ U)))
  first|refine A5 (Nq U U sizeOf122) U Ac ?_
  rintro _ _ ⟨rfl,rfl⟩;refine rO tb 3 U (Ak U (.cellA (Aa U) isAgg122 sizeOf122 U (by first|exact As) .nil) ?_);exact⟨_,⟨dd,⟨by rw[hnd,htl];rfl,hd1,by omega⟩,rfl⟩,sbt⟩
theorem st_step {w0:World}{H:List (Nat × Obj)}{N:Nat}(hN:N≤1000000000)(ih:StS w0 N){m:Pom}(hM:PoM w0 H m)(hm:m.sz≤N+1):
  FSpec Tryz.prog w0 78 #[.agg (encPo m).toArray] H (IntK m.sz H):=by
 refine Au Tryz.func78 U ntmps78 U ?_;have hsz:=Dz m;have hln:=Gs m.subs;refine rD tb 2 U (e_ (Nr U cs_) ?_ U);rintro _ _ ⟨n1,rfl,rfl⟩;refine rO tb 15 U ?_;refine Bj (X:=Nat × Int) (V:=fun ⟨i,s⟩=>[(3, .int .i64 s),(4, .int .i64 (i:Nat))]) (C:=[(1,_)]) (G:=fun ⟨i,s⟩=>(n1,Cl (encPo m) 28)::H) (φ:=fun ⟨i,s⟩=>i≤m.subs.length∧0≤s∧s≤szOL m.subs) (μ:=fun ⟨i,s⟩=>m.subs.length - i) (x0:=(0,0)) ?_ ⟨Aa rfl,trivial⟩ ⟨atd,atd,trivial⟩ sb0 ?_
 ·exact⟨Nat.zero_le _,by omega,by omega⟩
 rintro⟨i,s⟩ ⟨hi,hs1,hs2⟩;refine rD tb 5 U (y_ (Nl U isAgg26 (by first|exact c_o)) ?_ U);refine rO tb 4 U ?_
 first|refine Ae (Aa U) (fun c9=> ?_) (fun c9=> ?_)|refine Ah (Aa U) (fun c9=> ?_) (fun c9=> ?_)
 ·have hi2:i<m.subs.length:=by have h9:((i:Nat):Int)<(m.subs.length:Nat):=c9;omega
  have htk:=szOL_take hi2;have hal:=Hy (l:=m.subs) (i+1);refine rC tb 7 U (y_ (Nl U isAgg26 (by first|exact c_o)) ?_ U);refine rO tb 1 U (y_ (Np U U runUnderlying26 sizeOf28 qom (by first|exact rfl|exact hM.arr.b (i:=i) hi2)) ?_ U);refine y_ (Nn U isAgg28 sizeOf28 U (by first|exact(hM.arr.mono (by exact sbt)).cs (i:=i) hi2|exact As)) ?_ U;refine e_ (Al (qe1 U) call78 (ih ((hM.sub (Ba hi2)).mono (by exact sbt)) qom)) ?_ U;rintro _ _ ⟨d1,⟨rfl,d2,d3⟩,rfl⟩;refine y_ (yl_max (T U) (T U)) (rO tb 6 U (y_ (A8 (T U) An qom) ?_ U)) U;refine rO tb 2 U ?_;refine A6 ((i+1,max s d1)) ?_ ?_ ⟨atd,atd,trivial⟩ ⟨Aa U,trivial⟩ ?_
  ·exact⟨hi2,by omega,by omega⟩
  ·first|omega|(simp only[];omega)
  ·exact sbt
 ·obtain rfl:i=m.subs.length:=by have h9: ¬ ((i:Nat):Int)<(m.subs.length:Nat):=c9;omega
  have htl:m.subs.take m.subs.length=m.subs:=List.take_length;refine rC tb 2 U (Ax (rX tb 6 U (y_ (Nl U isAgg3 (by first|exact c_o)) ?_ U)));refine rO tb 3 U ?_
  first|refine Ae (Aa U) (fun c22=> ?_) (fun c22=> ?_)|refine Ah (Aa U) (fun c22=> ?_) (fun c22=> ?_)
  ·refine rC tb 2 U (y_ (A8 (T U) An qom) ?_ U);refine rO tb 10 U (Ak U (Nk U) ?_);exact⟨_,⟨_,⟨rfl,by omega,by omega⟩,rfl⟩,sbt⟩
  ·refine rC tb 9 U (Ak U (Nk U) ?_);exact⟨_,⟨_,⟨rfl,by omega,by omega⟩,rfl⟩,sbt⟩
theorem pu_step {w0:World}{H:List (Nat × Obj)}{N:Nat}(hN:N≤1000000000)(ih:PuS w0 N){m:Pom}(hM:PoM w0 H m)(hm:m.sz≤N+1):
  FSpec Tryz.prog w0 124 #[.agg (encPo m).toArray] H (IntK m.sz H):=by
 refine Au Tryz.func124 U ntmps124 U ?_;have hsz:=Dz m;have hln:=Gs m.subs;refine rD tb 2 U (e_ (Nr U cs_) ?_ U);rintro _ _ ⟨n1,rfl,rfl⟩;refine rO tb 15 U ?_;refine Bj (X:=Nat × Int) (V:=fun ⟨i,s⟩=>[(3, .int .i64 s),(4, .int .i64 (i:Nat))]) (C:=[(1,_)]) (G:=fun ⟨i,s⟩=>(n1,Cl (encPo m) 28)::H) (φ:=fun ⟨i,s⟩=>i≤m.subs.length∧0≤s∧s≤szOL (m.subs.take i)) (μ:=fun ⟨i,s⟩=>m.subs.length - i) (x0:=(0,0)) ?_ ⟨Aa rfl,trivial⟩ ⟨atd,atd,trivial⟩ sb0 ?_
 ·exact⟨Nat.zero_le _,by omega,by simp[szOL]⟩
 rintro⟨i,s⟩ ⟨hi,hs1,hs2⟩;have hal0:=Hy (l:=m.subs) i;refine rD tb 5 U (y_ (Nl U isAgg26 (by first|exact c_o)) ?_ U);refine rO tb 4 U ?_
 first|refine Ae (Aa U) (fun c9=> ?_) (fun c9=> ?_)|refine Ah (Aa U) (fun c9=> ?_) (fun c9=> ?_)
 ·have hi2:i<m.subs.length:=by have h9:((i:Nat):Int)<(m.subs.length:Nat):=c9;omega
  have htk:=szOL_take hi2;have hal:=Hy (l:=m.subs) (i+1);refine rC tb 7 U (y_ (Nl U isAgg26 (by first|exact c_o)) ?_ U);refine rO tb 1 U (y_ (Np U U runUnderlying26 sizeOf28 qom (by first|exact rfl|exact hM.arr.b (i:=i) hi2)) ?_ U);refine y_ (Nn U isAgg28 sizeOf28 U (by first|exact(hM.arr.mono (by exact sbt)).cs (i:=i) hi2|exact As)) ?_ U;refine e_ (Al (qe1 U) call124 (ih ((hM.sub (Ba hi2)).mono (by exact sbt)) qom)) ?_ U;rintro _ _ ⟨d1,⟨rfl,d2,d3⟩,rfl⟩;refine y_ (A8 (T U) (T U) qom) ?_ U;refine rO tb 6 U (y_ (A8 (T U) An qom) ?_ U);refine rO tb 2 U ?_;refine A6 ((i+1,s+d1)) ?_ ?_ ⟨atd,atd,trivial⟩ ⟨Aa U,trivial⟩ ?_
  ·exact⟨hi2,by omega,by omega⟩
  ·first|omega|(simp only[];omega)
  ·exact sbt
 ·obtain rfl:i=m.subs.length:=by have h9: ¬ ((i:Nat):Int)<(m.subs.length:Nat):=c9;omega
  have htl:m.subs.take m.subs.length=m.subs:=List.take_length;refine rC tb 2 U (Ax (rX tb 6 U (y_ (Nl U isAgg3 (by first|exact c_o)) ?_ U)));refine rO tb 3 U ?_
  first|refine Ae (Aa U) (fun c22=> ?_) (fun c22=> ?_)|refine Ah (Aa U) (fun c22=> ?_) (fun c22=> ?_)
  ·refine rC tb 2 U (y_ (A8 (T U) An qom) ?_ U);refine rO tb 10 U (Ak U (Nk U) ?_);rw[htl] at hs2;exact⟨_,⟨_,⟨rfl,by omega,by omega⟩,rfl⟩,sbt⟩
  ·refine rC tb 9 U (Ak U (Nk U) ?_);rw[htl] at hs2;exact⟨_,⟨_,⟨rfl,by omega,by omega⟩,rfl⟩,sbt⟩
theorem szP_s {w0:World}(N:Nat)(hN:N≤1000000000):SzPS w0 N:=by
 induction N with
 |zero=>intro H m _ h;have:=Hl m;omega
 |succ N ih=>
  have hN:N≤1000000000:=by omega
  have ih:SzPS w0 N:=ih hN;intro H m hM hm;exact szP_step hN ih hM hm
theorem szO_s {w0:World}(N:Nat)(hN:N≤1000000000):SzOS w0 N:=by
 induction N with
 |zero=>intro H m _ h;have:=Dz m;omega
 |succ N ih=>
  have hN:N≤1000000000:=by omega
  have ih:SzOS w0 N:=ih hN;intro H m hM hm;exact szO_step hN ih (szP_s N hN) hM hm
theorem stO_s {w0:World}(N:Nat)(hN:N≤1000000000):StS w0 N:=by
 induction N with
 |zero=>intro H m _ h;have:=Dz m;omega
 |succ N ih=>
  have hN:N≤1000000000:=by omega
  have ih:StS w0 N:=ih hN;intro H m hM hm;exact st_step hN ih hM hm
theorem pu_s {w0:World}(N:Nat)(hN:N≤1000000000):PuS w0 N:=by
 induction N with
 |zero=>intro H m _ h;have:=Dz m;omega
 |succ N ih=>
  have hN:N≤1000000000:=by omega
  have ih:PuS w0 N:=ih hN;intro H m hM hm;exact pu_step hN ih hM hm
theorem fewO_s {w0:World}{H:List (Nat × Obj)}{m:Pom}(hM:PoM w0 H m)(hm:m.sz≤1000000000)  :
  FSpec Tryz.prog w0 75 #[.agg (encPo m).toArray] H (SomB H):=by
 refine Au Tryz.func75 U ntmps75 U ?_;have hns:=Ms m;have hsz:=Dz m;refine rD tb 2 U (e_ (Nr U cs_) ?_ U);rintro _ _ ⟨n1,rfl,rfl⟩;refine rO tb 5 U (y_ (Nn U isAgg28 sizeOf28 U (by first|exact As)) ?_ U);refine e_ (Al (qe1 U) call77 (szO_s _ (Nat.le_refl _) (hM.mono (by exact sbt)) hm)) ?_ U;rintro _ _ ⟨z1,⟨rfl,y1,x1⟩,rfl⟩;refine e_ (Ai zeroValue122 cs_) ?_ U;rintro _ _ ⟨n3,rfl,rfl⟩
 first|refine A5 (Nq U U sizeOf122) U Ac ?_
 rintro _ _ ⟨rfl,rfl⟩;refine rO tb 5 U ?_;refine y_ (Nn U isAgg25 sizeOf25 U (by first|exact K7 (by repeat (first|exact Am|refine Ar ?_))|exact As)) ?_ U;refine e_ (Al (qe1 U) call119 (szP_s _ (Nat.le_refl _) (hM.pred.mono (by exact sbt)) qom)) ?_ U;rintro _ _ ⟨z2,⟨rfl,y2,x2⟩,rfl⟩;refine e_ (Ai zeroValue122 cs_) ?_ U;rintro _ _ ⟨n4,rfl,rfl⟩
 first|refine A5 (Nq U U sizeOf122) U Ac ?_
 rintro _ _ ⟨rfl,rfl⟩;refine rO tb 5 U (y_ (Nl U isAgg3 (by first|exact c_o)) ?_ U);refine rO tb 2 U ?_
 first|refine Av (s:=13) (Aa U) (fun c13=> ?_) (fun c13=> ?_)|refine A7 (s:=13) (Aa U) (fun c13=> ?_) (fun c13=> ?_)
 ·refine rO tb 1 U (A9 (Nl U isAgg3 (by first|exact c_o)) U (Bg U U (Aa U)) ?_);refine rO tb 3 U ?_
  first|refine Av (s:=18) (Aa U) (fun c18=> ?_) (fun c18=> ?_)|refine A7 (s:=18) (Aa U) (fun c18=> ?_) (fun c18=> ?_)
  ·refine rO tb 1 U (A9 (Nl U isAgg3 (by first|exact c_o)) U (Bg U U (Aa U)) ?_);refine rO tb 6 U (Ak U (Nk U) ?_);exact⟨_,⟨_,rfl,rfl⟩,sbt⟩
  ·refine rO tb 8 U (Ak U (Nk U) ?_);exact⟨_,⟨_,rfl,rfl⟩,sbt⟩
 ·refine rO tb 13 U (Ak U (Nk U) ?_);exact⟨_,⟨_,rfl,rfl⟩,sbt⟩
theorem light_s {w0:World}{H:List (Nat × Obj)}{m:Pom}(hM:PoM w0 H m)(hm:m.sz≤1000000000)  :
  FSpec Tryz.prog w0 79 #[.agg (encPo m).toArray] H (SomB H):=by
 refine Au Tryz.func79 U ntmps79 U (rD tb 2 U (e_ (Nr U cs_) ?_ U));rintro _ _ ⟨n1,rfl,rfl⟩;refine rO tb 5 U (y_ (Nn U isAgg28 sizeOf28 U (by first|exact As)) ?_ U);refine e_ (Al (qe1 U) call78 (stO_s _ (Nat.le_refl _) (hM.mono (by exact sbt)) hm)) ?_ U;rintro _ _ ⟨z1,⟨rfl,y1,x1⟩,rfl⟩;refine rO tb 5 U (y_ (Nn U isAgg28 sizeOf28 U (by first|exact As)) ?_ U);refine e_ (Al (qe1 U) call124 (pu_s _ (Nat.le_refl _) (hM.mono (by exact sbt)) hm)) ?_ U;rintro _ _ ⟨z2,⟨rfl,y2,x2⟩,rfl⟩;refine rO tb 8 U ?_
 first|refine Av (s:=11) (Aa U) (fun c11=> ?_) (fun c11=> ?_)|refine A7 (s:=11) (Aa U) (fun c11=> ?_) (fun c11=> ?_)
 ·refine kO tb 34 [2] rfl U (rG tb 1 U (Ak U (Nk U) ?_));exact⟨_,⟨_,rfl,rfl⟩,sbt⟩
 ·refine rO tb 3 U ?_
  first|refine Av (s:=14) (Aa U) (fun c14=> ?_) (fun c14=> ?_)|refine A7 (s:=14) (Aa U) (fun c14=> ?_) (fun c14=> ?_)
  ·refine rO tb 5 U ?_
   first|refine Av (s:=19) (Aa U) (fun c19=> ?_) (fun c19=> ?_)|refine A7 (s:=19) (Aa U) (fun c19=> ?_) (fun c19=> ?_)
   ·refine kO tb 26 [2] rfl U (rG tb 1 U (Ak U (Nk U) ?_));exact⟨_,⟨_,rfl,rfl⟩,sbt⟩
   ·refine rO tb 3 U ?_
    first|refine Av (s:=22) (Aa U) (fun c22=> ?_) (fun c22=> ?_)|refine A7 (s:=22) (Aa U) (fun c22=> ?_) (fun c22=> ?_)
    ·refine rO tb 5 U ?_
     first|refine Av (s:=27) (Aa U) (fun c27=> ?_) (fun c27=> ?_)|refine A7 (s:=27) (Aa U) (fun c27=> ?_) (fun c27=> ?_)
     ·refine kO tb 18 [2] rfl U (rG tb 1 U (Ak U (Nk U) ?_));exact⟨_,⟨_,rfl,rfl⟩,sbt⟩
     ·refine rO tb 3 U ?_
      first|refine Av (s:=30) (Aa U) (fun c30=> ?_) (fun c30=> ?_)|refine A7 (s:=30) (Aa U) (fun c30=> ?_) (fun c30=> ?_)
      ·refine rO tb 5 U ?_
       first|refine Av (s:=35) (Aa U) (fun c35=> ?_) (fun c35=> ?_)|refine A7 (s:=35) (Aa U) (fun c35=> ?_) (fun c35=> ?_)
       ·refine kO tb 10 [2] rfl U (rG tb 1 U (Ak U (Nk U) ?_));exact⟨_,⟨_,rfl,rfl⟩,sbt⟩
       ·refine rO tb 3 U ?_
        first|refine Av (s:=38) (Aa U) (fun c38=> ?_) (fun c38=> ?_)|refine A7 (s:=38) (Aa U) (fun c38=> ?_) (fun c38=> ?_)
        ·refine kO tb 7 [2] rfl U (rG tb 1 U (Ak U (Nk U) ?_));exact⟨_,⟨_,rfl,rfl⟩,sbt⟩
        ·refine kO tb 7 [2] rfl U (rG tb 1 U (Ak U (Nk U) ?_));exact⟨_,⟨_,rfl,rfl⟩,sbt⟩
      ·refine rO tb 8 U ?_
       first|refine Av (s:=38) (Aa U) (fun c38=> ?_) (fun c38=> ?_)|refine A7 (s:=38) (Aa U) (fun c38=> ?_) (fun c38=> ?_)
       ·refine kO tb 7 [2] rfl U (rG tb 1 U (Ak U (Nk U) ?_));exact⟨_,⟨_,rfl,rfl⟩,sbt⟩
       ·refine kO tb 7 [2] rfl U (rG tb 1 U (Ak U (Nk U) ?_));exact⟨_,⟨_,rfl,rfl⟩,sbt⟩
    ·refine rO tb 8 U ?_
     first|refine Av (s:=30) (Aa U) (fun c30=> ?_) (fun c30=> ?_)|refine A7 (s:=30) (Aa U) (fun c30=> ?_) (fun c30=> ?_)
     ·refine rO tb 5 U ?_
      first|refine Av (s:=35) (Aa U) (fun c35=> ?_) (fun c35=> ?_)|refine A7 (s:=35) (Aa U) (fun c35=> ?_) (fun c35=> ?_)
      ·refine kO tb 10 [2] rfl U (rG tb 1 U (Ak U (Nk U) ?_));exact⟨_,⟨_,rfl,rfl⟩,sbt⟩
      ·refine rO tb 3 U ?_
       first|refine Av (s:=38) (Aa U) (fun c38=> ?_) (fun c38=> ?_)|refine A7 (s:=38) (Aa U) (fun c38=> ?_) (fun c38=> ?_)
       ·refine kO tb 7 [2] rfl U (rG tb 1 U (Ak U (Nk U) ?_));exact⟨_,⟨_,rfl,rfl⟩,sbt⟩
       ·refine kO tb 7 [2] rfl U (rG tb 1 U (Ak U (Nk U) ?_));exact⟨_,⟨_,rfl,rfl⟩,sbt⟩
     ·refine rO tb 8 U ?_
      first|refine Av (s:=38) (Aa U) (fun c38=> ?_) (fun c38=> ?_)|refine A7 (s:=38) (Aa U) (fun c38=> ?_) (fun c38=> ?_)
      ·refine kO tb 7 [2] rfl U (rG tb 1 U (Ak U (Nk U) ?_));exact⟨_,⟨_,rfl,rfl⟩,sbt⟩
      ·refine kO tb 7 [2] rfl U (rG tb 1 U (Ak U (Nk U) ?_));exact⟨_,⟨_,rfl,rfl⟩,sbt⟩
  ·refine rO tb 8 U ?_
   first|refine Av (s:=22) (Aa U) (fun c22=> ?_) (fun c22=> ?_)|refine A7 (s:=22) (Aa U) (fun c22=> ?_) (fun c22=> ?_)
   ·refine rO tb 5 U ?_
    first|refine Av (s:=27) (Aa U) (fun c27=> ?_) (fun c27=> ?_)|refine A7 (s:=27) (Aa U) (fun c27=> ?_) (fun c27=> ?_)
    ·refine kO tb 18 [2] rfl U (rG tb 1 U (Ak U (Nk U) ?_));exact⟨_,⟨_,rfl,rfl⟩,sbt⟩
    ·refine rO tb 3 U ?_
     first|refine Av (s:=30) (Aa U) (fun c30=> ?_) (fun c30=> ?_)|refine A7 (s:=30) (Aa U) (fun c30=> ?_) (fun c30=> ?_)
     ·refine rO tb 5 U ?_
      first|refine Av (s:=35) (Aa U) (fun c35=> ?_) (fun c35=> ?_)|refine A7 (s:=35) (Aa U) (fun c35=> ?_) (fun c35=> ?_)
      ·refine kO tb 10 [2] rfl U (rG tb 1 U (Ak U (Nk U) ?_));exact⟨_,⟨_,rfl,rfl⟩,sbt⟩
      ·refine rO tb 3 U ?_
       first|refine Av (s:=38) (Aa U) (fun c38=> ?_) (fun c38=> ?_)|refine A7 (s:=38) (Aa U) (fun c38=> ?_) (fun c38=> ?_)
       ·refine kO tb 7 [2] rfl U (rG tb 1 U (Ak U (Nk U) ?_));exact⟨_,⟨_,rfl,rfl⟩,sbt⟩
       ·refine kO tb 7 [2] rfl U (rG tb 1 U (Ak U (Nk U) ?_));exact⟨_,⟨_,rfl,rfl⟩,sbt⟩
     ·refine rO tb 8 U ?_
      first|refine Av (s:=38) (Aa U) (fun c38=> ?_) (fun c38=> ?_)|refine A7 (s:=38) (Aa U) (fun c38=> ?_) (fun c38=> ?_)
      ·refine kO tb 7 [2] rfl U (rG tb 1 U (Ak U (Nk U) ?_));exact⟨_,⟨_,rfl,rfl⟩,sbt⟩
      ·refine kO tb 7 [2] rfl U (rG tb 1 U (Ak U (Nk U) ?_));exact⟨_,⟨_,rfl,rfl⟩,sbt⟩
   ·refine rO tb 8 U ?_
    first|refine Av (s:=30) (Aa U) (fun c30=> ?_) (fun c30=> ?_)|refine A7 (s:=30) (Aa U) (fun c30=> ?_) (fun c30=> ?_)
    ·refine rO tb 5 U ?_
     first|refine Av (s:=35) (Aa U) (fun c35=> ?_) (fun c35=> ?_)|refine A7 (s:=35) (Aa U) (fun c35=> ?_) (fun c35=> ?_)
     ·refine kO tb 10 [2] rfl U (rG tb 1 U (Ak U (Nk U) ?_));exact⟨_,⟨_,rfl,rfl⟩,sbt⟩
     ·refine rO tb 3 U ?_
      first|refine Av (s:=38) (Aa U) (fun c38=> ?_) (fun c38=> ?_)|refine A7 (s:=38) (Aa U) (fun c38=> ?_) (fun c38=> ?_)
      ·refine kO tb 7 [2] rfl U (rG tb 1 U (Ak U (Nk U) ?_));exact⟨_,⟨_,rfl,rfl⟩,sbt⟩
      ·refine kO tb 7 [2] rfl U (rG tb 1 U (Ak U (Nk U) ?_));exact⟨_,⟨_,rfl,rfl⟩,sbt⟩
    ·refine rO tb 8 U ?_
     first|refine Av (s:=38) (Aa U) (fun c38=> ?_) (fun c38=> ?_)|refine A7 (s:=38) (Aa U) (fun c38=> ?_) (fun c38=> ?_)
     ·refine kO tb 7 [2] rfl U (rG tb 1 U (Ak U (Nk U) ?_));exact⟨_,⟨_,rfl,rfl⟩,sbt⟩
     ·refine kO tb 7 [2] rfl U (rG tb 1 U (Ak U (Nk U) ?_));exact⟨_,⟨_,rfl,rfl⟩,sbt⟩
theorem zbd25_z  (w:World):(Instr.build 25 #[]).run Tryz.prog w= .ok (.agg #[.int .i64 0, .string ⟨#[]⟩, .int .i64 0, .int .i64 0, .slice none 0 0]) w:=by kernel_rfl
theorem sameP0_s {w0:World}{H:List (Nat × Obj)}(m:Pdm):
  FSpec Tryz.prog w0 194 #[.agg (encPd m).toArray, .agg #[.int .i64 0, .string ⟨#[]⟩, .int .i64 0, .int .i64 0, .slice none 0 0]] H (SomB H):=by
 refine Au Tryz.func194 U ntmps194 U (rD tb 2 U (e_ (Nr U cs_) ?_ U));rintro _ _ ⟨n2,rfl,rfl⟩;refine e_ (Nr U cs_) ?_ U;rintro _ _ ⟨n3,rfl,rfl⟩;refine rO tb 7 U (y_ (Nl U isAgg3 (by first|exact c_o)) ?_ U);refine rO tb 1 U (y_ (Nl U isAgg3 (by first|exact c_o)) ?_ U);refine rO tb 2 U ?_
 first|refine Av (s:=12) (Aa U) (fun c12=> ?_) (fun c12=> ?_)|refine A7 (s:=12) (Aa U) (fun c12=> ?_) (fun c12=> ?_)
 ·refine kO tb 31 [2,3,41] rfl U (rG tb 8 U (Ak U (Nk U) ?_));exact⟨_,⟨_,rfl,rfl⟩,sbt⟩
 ·refine rO tb 1 U (A9 (Nl U isAgg9 (by first|exact c_o)) U (Bg U U (Aa U)) ?_);refine rO tb 1 U (A9 (Nl U isAgg9 (by first|exact c_o)) U (Bg U U (Aa U)) ?_);refine A9 (yl_neSD (T U) (T U)) U (Bg U U (Aa U)) (rO tb 2 U ?_)
  first|refine Av (s:=19) (Aa U) (fun c19=> ?_) (fun c19=> ?_)|refine A7 (s:=19) (Aa U) (fun c19=> ?_) (fun c19=> ?_)
  ·refine kO tb 24 [2,3,41] rfl U (rG tb 8 U (Ak U (Nk U) ?_));exact⟨_,⟨_,rfl,rfl⟩,sbt⟩
  ·refine rO tb 1 U (A9 (Nl U isAgg3 (by first|exact c_o)) U (Bg U U (Aa U)) ?_);refine rO tb 1 U (A9 (Nl U isAgg3 (by first|exact c_o)) U (Bg U U (Aa U)) ?_);refine rO tb 3 U ?_
   first|refine Av (s:=26) (Aa U) (fun c26=> ?_) (fun c26=> ?_)|refine A7 (s:=26) (Aa U) (fun c26=> ?_) (fun c26=> ?_)
   ·refine kO tb 17 [2,3,41] rfl U (rG tb 8 U (Ak U (Nk U) ?_));exact⟨_,⟨_,rfl,rfl⟩,sbt⟩
   ·refine rO tb 1 U (A9 (Nl U isAgg3 (by first|exact c_o)) U (Bg U U (Aa U)) ?_);refine rO tb 1 U (A9 (Nl U isAgg3 (by first|exact c_o)) U (Bg U U (Aa U)) ?_);refine rO tb 3 U ?_
    first|refine Av (s:=33) (Aa U) (fun c33=> ?_) (fun c33=> ?_)|refine A7 (s:=33) (Aa U) (fun c33=> ?_) (fun c33=> ?_)
    ·refine kO tb 10 [2,3,41] rfl U (rG tb 8 U (Ak U (Nk U) ?_));exact⟨_,⟨_,rfl,rfl⟩,sbt⟩
    ·refine rO tb 1 U (A9 (Nl U isAgg23 (by first|exact c_o)) U (Bg U U (Aa U)) ?_);refine rO tb 2 U (A9 (Nl U isAgg23 (by first|exact c_o)) U (Bg U U (Aa U)) ?_);refine kO tb 5 [2,3,41] rfl U ?_
     first|refine Ae (Aa U) (fun c41=> ?_) (fun c41=> ?_)|refine Ah (Aa U) (fun c41=> ?_) (fun c41=> ?_)
     ·refine rC tb 7 U (Ak U (Nk U) ?_);exact⟨_,⟨_,rfl,rfl⟩,sbt⟩
     ·refine rC tb 9 U ?_;refine Bj (X:=Nat) (V:=fun i=>[(5, .int .i64 (i:Nat))]) (C:=[(2,_),(3,_)]) (G:=fun i=>(n3,Cl [.int .i64 0, .string ⟨#[]⟩, .int .i64 0, .int .i64 0, .slice none 0 0] 25)::(n2,Cl (encPd m) 25)::H) (φ:=fun i=>True) (μ:=fun i=>0) (x0:=0) ?_ ⟨Aa U,Aa U,trivial⟩ ⟨atd,trivial⟩ sb0 ?_
      ·trivial
      rintro i _;refine rD tb 5 U (y_ (Nl U isAgg23 (by first|exact c_o)) ?_ U);refine rO tb 4 U ?_
      first|refine Ae (Aa U) (fun c46=> ?_) (fun c46=> ?_)|refine Ah (Aa U) (fun c46=> ?_) (fun c46=> ?_)
      ·exfalso;have h9:((i:Nat):Int)<(m.subs.length:Nat):=c46;omega
      ·refine rC tb 2 U (Ax (rX tb 8 U (Ak U (Nk U) ?_)));exact⟨_,⟨_,rfl,rfl⟩,sbt⟩
def NmP (m:Pdm):Prop:=∀ a∈prtP m,a.nm.size≤9223372036854775807
def NmO (m:Pom):Prop:=∀ a∈prtO m,a.nm.size≤9223372036854775807∧NmP a.pr
theorem prtPL_mem {l:List Pdm}{a b:Pdm}(ha:a∈l)(hb:b∈prtP a):b∈prtPL l:=by
 induction l with
 |nil=>cases ha
 |cons x l ih=>
  rw[prtPL];rcases List.mem_cons.1 ha with rfl|ha
  ·exact List.mem_append.2 (.inl hb)
  ·exact List.mem_append.2 (.inr (ih ha))
theorem prtOL_mem {l:List Pom}{a b:Pom}(ha:a∈l)(hb:b∈prtO a):b∈prtOL l:=by
 induction l with
 |nil=>cases ha
 |cons x l ih=>
  rw[prtOL];rcases List.mem_cons.1 ha with rfl|ha
  ·exact List.mem_append.2 (.inl hb)
  ·exact List.mem_append.2 (.inr (ih ha))
theorem NmP.self {m:Pdm}(h:NmP m):m.nm.size≤9223372036854775807:=h m (by rw[Er];simp)
theorem NmO.self {m:Pom}(h:NmO m):m.nm.size≤9223372036854775807∧NmP m.pr:=h m (by rw[Eh];simp)
theorem NmP.sub {m a:Pdm}(h:NmP m)(ha:a∈m.subs):NmP a:=fun b hb=>h b (by rw[Er];exact List.mem_cons_of_mem _ (prtPL_mem ha hb))
theorem NmO.sub {m a:Pom}(h:NmO m)(ha:a∈m.subs):NmO a:=fun b hb=>h b (by rw[Eh];exact List.mem_cons_of_mem _ (prtOL_mem ha hb))
abbrev SayB (p:Prop) (H:List (Nat × Obj)):Value→List (Nat × Obj)→Prop:=fun u H'=>∃ b:Bool,(u= .bool b∧(b=true→p))∧H'=H
theorem Dq {α:Type}[Inhabited α] {l:List α}{p:α→Prop}(h:∀ j,j<l.length→p (gd l j)):∀ a∈l,p a:=fun a ha=>by
 obtain⟨i,hi,e⟩:=List.getElem_of_mem ha;have:=h i hi
 rwa [Az hi,e] at this
def FmPS (w0:World) (N:Nat):Prop:=∀ {H:List (Nat × Obj)} {m:Pdm},PdM w0 H m→m.sz≤N→NmP m→FSpec Tryz.prog w0 195 #[.agg (encPd m).toArray] H (SayB (FmP m) H)
def FmOS (w0:World) (N:Nat):Prop:=∀ {H:List (Nat × Obj)} {m:Pom},PoM w0 H m→m.sz≤N→NmO m→FSpec Tryz.prog w0 160 #[.agg (encPo m).toArray] H (SayB (FmO m) H)
theorem fmP_step {w0:World}{H:List (Nat × Obj)}{N:Nat}(hN:N≤1000000000)(ih:FmPS w0 N){m:Pdm}(hM:PdM w0 H m)(hm:m.sz≤N+1)(hz:NmP m):
  FSpec Tryz.prog w0 195 #[.agg (encPd m).toArray] H (SayB (FmP m) H):=by
 refine Au Tryz.func195 U ntmps195 U ?_;have hsz:=Hl m;have hln:=Jq m.subs;refine rD tb 2 U (e_ (Nr U cs_) ?_ U);rintro _ _ ⟨n1,rfl,rfl⟩;refine rO tb 6 U (y_ (Nl U isAgg9 (by first|exact c_o)) ?_ U);refine e_ (Al (qe1 U) call193 (named_s m.nm hz.self)) ?_ U;rintro _ _ ⟨b9,rfl,rfl⟩;refine rO tb 3 U ?_;refine Fc (X:=Bool) (V:=fun x4=>[(4, .bool x4)]) (C:=[(1,_),(3,_)]) (φ:=fun x4=>(x4=true→0≤m.val)) ⟨Aa U,Aa U,trivial⟩ ?_ ?_
 ·refine rD tb 2 U (y_ (Nl U isAgg3 (by first|exact c_o)) ?_ U);refine rO tb 2 U ?_
  first|refine Av (s:=16) (Aa U) (fun c16=> ?_) (fun c16=> ?_)|refine A7 (s:=16) (Aa U) (fun c16=> ?_) (fun c16=> ?_)
  ·refine rO tb 1 U (A9 (Nl U isAgg3 (by first|exact c_o)) U (Bg U U (Aa U)) ?_);refine rO tb 4 U ?_;refine Bf (decide (m.val≤65535)) ?_ ⟨atd,trivial⟩ ⟨Aa U,Aa U,trivial⟩ sbt;intro h;first|exact c16|cases h
  ·refine rO tb 6 U ?_;refine Bf (false) ?_ ⟨atd,trivial⟩ ⟨Aa U,Aa U,trivial⟩ sbt;intro h;first|exact c16|cases h
 rintro x4 hv4;refine Fc (X:=Bool) (V:=fun x5=>[(5, .bool x5)]) (C:=[(1,_),(3,_),(4,_)]) (φ:=fun x5=>True) ⟨Aa U,Aa U,Aa U,trivial⟩ ?_ ?_
 ·refine rD tb 2 U (y_ (Nl U isAgg9 (by first|exact c_o)) ?_ U);refine y_ (E4 (T U) An) (rO tb 1 U ?_) U
  first|refine Av (s:=24) (Aa U) (fun c24=> ?_) (fun c24=> ?_)|refine A7 (s:=24) (Aa U) (fun c24=> ?_) (fun c24=> ?_)
  ·refine rO tb 1 U (A9 (Nl U isAgg3 (by first|exact c_o)) U (Bg U U (Aa U)) ?_);refine rO tb 3 U ?_
   first|refine Av (s:=29) (Aa U) (fun c29=> ?_) (fun c29=> ?_)|refine A7 (s:=29) (Aa U) (fun c29=> ?_) (fun c29=> ?_)
   ·refine rO tb 1 U (A9 (Nl U isAgg3 (by first|exact c_o)) U (Bg U U (Aa U)) ?_);refine rO tb 4 U ?_;refine Bf (decide (m.to=0)) ?_ ⟨atd,trivial⟩ ⟨Aa U,Aa U,Aa U,trivial⟩ sbt
    trivial
   ·refine rO tb 6 U ?_;refine Bf (false) ?_ ⟨atd,trivial⟩ ⟨Aa U,Aa U,Aa U,trivial⟩ sbt
    trivial
  ·refine rO tb 11 U ?_;refine Bf (false) ?_ ⟨atd,trivial⟩ ⟨Aa U,Aa U,Aa U,trivial⟩ sbt
   trivial
 rintro x5 _;refine rC tb 10 U ?_;refine Fc (X:=Bool × Nat) (V:=fun ⟨b6,n6⟩=>[(6, .int .i64 (n6:Nat)),(7, .bool b6)]) (C:=[(1,_)]) (φ:=fun ⟨b6,n6⟩=>(b6=true→LcP m n6)) ⟨Aa rfl,trivial⟩ ?_ ?_
 ·refine rD tb 3 U (y_ (Nl U isAgg3 (by first|exact c_o)) ?_ U);refine rO tb 10 U ?_
  first|refine Ae (Aa U) (fun c36=> ?_) (fun c36=> ?_)|refine Ah (Aa U) (fun c36=> ?_) (fun c36=> ?_)
  ·refine rC tb 2 U ?_
   first|refine B8 (Aa U) ?_|refine B8 (Ag (Aa U) (vbool (decide_eq_true c36))) ?_
   refine rC tb 5 U ?_;refine Bf ((x5,0)) ?_ ⟨atd,atd,trivial⟩ ⟨Aa U,trivial⟩ sbt;intro h;unfold LcP
   first|(exact absurd h qde)|omega|(have:=hv4 c46;omega)|(have:=hv4 c57;omega)
  ·refine rC tb 5 U ?_
   first|refine Ae (Aa U) (fun c36=> ?_) (fun c36=> ?_)|refine Ah (Aa U) (fun c36=> ?_) (fun c36=> ?_)
   ·refine rC tb 5 U ?_;refine Bf ((x5,0)) ?_ ⟨atd,atd,trivial⟩ ⟨Aa U,trivial⟩ sbt;intro h;unfold LcP
    first|(exact absurd h qde)|omega|(have:=hv4 c46;omega)|(have:=hv4 c57;omega)
   ·refine rC tb 6 U ?_
    first|refine Ae (Aa U) (fun c40=> ?_) (fun c40=> ?_)|refine Ah (Aa U) (fun c40=> ?_) (fun c40=> ?_)
    ·refine rC tb 3 U ?_
     first|refine Av (s:=43) (Aa U) (fun c43=> ?_) (fun c43=> ?_)|refine A7 (s:=43) (Aa U) (fun c43=> ?_) (fun c43=> ?_)
     ·refine rO tb 3 U ?_
      first|refine Av (s:=46) (Aa U) (fun c46=> ?_) (fun c46=> ?_)|refine A7 (s:=46) (Aa U) (fun c46=> ?_) (fun c46=> ?_)
      ·refine rO tb 1 U (A9 (Nl U isAgg3 (by first|exact c_o)) U (Bg U U (Aa U)) ?_);refine rO tb 5 U ?_;refine Bf ((decide (m.to=0),0)) ?_ ⟨atd,atd,trivial⟩ ⟨Aa U,trivial⟩ sbt;intro h;unfold LcP
       first|(exact absurd h qde)|omega|(have:=hv4 c46;omega)|(have:=hv4 c57;omega)
      ·refine rO tb 7 U ?_;refine Bf ((false,0)) ?_ ⟨atd,atd,trivial⟩ ⟨Aa U,trivial⟩ sbt;intro h;unfold LcP
       first|(exact absurd h qde)|omega|(have:=hv4 c46;omega)|(have:=hv4 c57;omega)
     ·refine rO tb 10 U ?_;refine Bf ((false,0)) ?_ ⟨atd,atd,trivial⟩ ⟨Aa U,trivial⟩ sbt;intro h;unfold LcP
      first|(exact absurd h qde)|omega|(have:=hv4 c46;omega)|(have:=hv4 c57;omega)
    ·refine rC tb 6 U ?_
     first|refine Ae (Aa U) (fun c51=> ?_) (fun c51=> ?_)|refine Ah (Aa U) (fun c51=> ?_) (fun c51=> ?_)
     ·refine rC tb 3 U ?_
      first|refine Av (s:=54) (Aa U) (fun c54=> ?_) (fun c54=> ?_)|refine A7 (s:=54) (Aa U) (fun c54=> ?_) (fun c54=> ?_)
      ·refine rO tb 3 U ?_
       first|refine Av (s:=57) (Aa U) (fun c57=> ?_) (fun c57=> ?_)|refine A7 (s:=57) (Aa U) (fun c57=> ?_) (fun c57=> ?_)
       ·refine rO tb 1 U (A9 (Nl U isAgg3 (by first|exact c_o)) U (Bg U U (Aa U)) ?_);refine rO tb 3 U ?_
        first|refine Av (s:=62) (Aa U) (fun c62=> ?_) (fun c62=> ?_)|refine A7 (s:=62) (Aa U) (fun c62=> ?_) (fun c62=> ?_)
        ·refine rO tb 1 U (A9 (Nl U isAgg3 (by first|exact c_o)) U (Bg U U (Aa U)) ?_);refine rO tb 5 U ?_;refine Bf ((decide (m.to≤16),0)) ?_ ⟨atd,atd,trivial⟩ ⟨Aa U,trivial⟩ sbt;intro h;unfold LcP
         first|(exact absurd h qde)|omega|(have:=hv4 c46;omega)|(have:=hv4 c57;omega)
        ·refine rO tb 7 U ?_;refine Bf ((false,0)) ?_ ⟨atd,atd,trivial⟩ ⟨Aa U,trivial⟩ sbt;intro h;unfold LcP
         first|(exact absurd h qde)|omega|(have:=hv4 c46;omega)|(have:=hv4 c57;omega)
       ·refine rO tb 12 U ?_;refine Bf ((false,0)) ?_ ⟨atd,atd,trivial⟩ ⟨Aa U,trivial⟩ sbt;intro h;unfold LcP
        first|(exact absurd h qde)|omega|(have:=hv4 c46;omega)|(have:=hv4 c57;omega)
      ·refine rO tb 15 U ?_;refine Bf ((false,0)) ?_ ⟨atd,atd,trivial⟩ ⟨Aa U,trivial⟩ sbt;intro h;unfold LcP
       first|(exact absurd h qde)|omega|(have:=hv4 c46;omega)|(have:=hv4 c57;omega)
     ·refine rC tb 6 U ?_
      first|refine Ae (Aa U) (fun c67=> ?_) (fun c67=> ?_)|refine Ah (Aa U) (fun c67=> ?_) (fun c67=> ?_)
      ·refine rC tb 3 U ?_
       first|refine Av (s:=70) (Aa U) (fun c70=> ?_) (fun c70=> ?_)|refine A7 (s:=70) (Aa U) (fun c70=> ?_) (fun c70=> ?_)
       ·refine rO tb 1 U (A9 (Nl U isAgg3 (by first|exact c_o)) U (Bg U U (Aa U)) ?_);refine rO tb 3 U ?_
        first|refine Av (s:=75) (Aa U) (fun c75=> ?_) (fun c75=> ?_)|refine A7 (s:=75) (Aa U) (fun c75=> ?_) (fun c75=> ?_)
        ·refine rO tb 1 U (A9 (Nl U isAgg3 (by first|exact c_o)) U (Bg U U (Aa U)) ?_);refine rO tb 1 U (A9 (Nl U isAgg3 (by first|exact c_o)) U (Bg U U (Aa U)) ?_);refine rO tb 3 U ?_
         first|refine Av (s:=82) (Aa U) (fun c82=> ?_) (fun c82=> ?_)|refine A7 (s:=82) (Aa U) (fun c82=> ?_) (fun c82=> ?_)
         ·refine rO tb 1 U (A9 (Nl U isAgg3 (by first|exact c_o)) U (Bg U U (Aa U)) ?_);refine rO tb 5 U ?_;refine Bf ((decide (m.to≤65535),0)) ?_ ⟨atd,atd,trivial⟩ ⟨Aa U,trivial⟩ sbt;intro h;unfold LcP
          first|(exact absurd h qde)|omega|(have:=hv4 c46;omega)|(have:=hv4 c57;omega)
         ·refine rO tb 7 U ?_;refine Bf ((false,0)) ?_ ⟨atd,atd,trivial⟩ ⟨Aa U,trivial⟩ sbt;intro h;unfold LcP
          first|(exact absurd h qde)|omega|(have:=hv4 c46;omega)|(have:=hv4 c57;omega)
        ·refine rO tb 14 U ?_;refine Bf ((false,0)) ?_ ⟨atd,atd,trivial⟩ ⟨Aa U,trivial⟩ sbt;intro h;unfold LcP
         first|(exact absurd h qde)|omega|(have:=hv4 c46;omega)|(have:=hv4 c57;omega)
       ·refine rO tb 19 U ?_;refine Bf ((false,0)) ?_ ⟨atd,atd,trivial⟩ ⟨Aa U,trivial⟩ sbt;intro h;unfold LcP
        first|(exact absurd h qde)|omega|(have:=hv4 c46;omega)|(have:=hv4 c57;omega)
      ·refine rC tb 6 U ?_
       first|refine Ae (Aa U) (fun c87=> ?_) (fun c87=> ?_)|refine Ah (Aa U) (fun c87=> ?_) (fun c87=> ?_)
       ·refine rC tb 10 U ?_;refine Bf ((x5,1)) ?_ ⟨atd,atd,trivial⟩ ⟨Aa U,trivial⟩ sbt;intro h;unfold LcP
        first|(exact absurd h qde)|omega|(have:=hv4 c46;omega)|(have:=hv4 c57;omega)
       ·refine rC tb 7 U ?_
        first|refine Ae (Aa U) (fun c90=> ?_) (fun c90=> ?_)|refine Ah (Aa U) (fun c90=> ?_) (fun c90=> ?_)
        ·refine rC tb 2 U ?_
         first|refine B8 (Aa U) ?_|refine B8 (Ag (Aa U) (vbool (decide_eq_true c90))) ?_
         refine rC tb 10 U ?_;refine Bf ((x5,2)) ?_ ⟨atd,atd,trivial⟩ ⟨Aa U,trivial⟩ sbt;intro h;unfold LcP
         first|(exact absurd h qde)|omega|(have:=hv4 c46;omega)|(have:=hv4 c57;omega)
        ·refine rC tb 5 U ?_
         first|refine Ae (Aa U) (fun c90=> ?_) (fun c90=> ?_)|refine Ah (Aa U) (fun c90=> ?_) (fun c90=> ?_)
         ·refine rC tb 10 U ?_;refine Bf ((x5,2)) ?_ ⟨atd,atd,trivial⟩ ⟨Aa U,trivial⟩ sbt;intro h;unfold LcP
          first|(exact absurd h qde)|omega|(have:=hv4 c46;omega)|(have:=hv4 c57;omega)
         ·refine rC tb 6 U ?_
          first|refine Ae (Aa U) (fun c94=> ?_) (fun c94=> ?_)|refine Ah (Aa U) (fun c94=> ?_) (fun c94=> ?_)
          ·refine rC tb 2 U (y_ (Nl U isAgg9 (by first|exact c_o)) ?_ U);refine y_ (E4 (T U) An) (rO tb 1 U ?_) U
           first|refine Av (s:=99) (Aa U) (fun c99=> ?_) (fun c99=> ?_)|refine A7 (s:=99) (Aa U) (fun c99=> ?_) (fun c99=> ?_)
           ·refine rO tb 1 U (A9 (Nl U isAgg3 (by first|exact c_o)) U (Bg U U (Aa U)) ?_);refine rO tb 3 U ?_
            first|refine Av (s:=104) (Aa U) (fun c104=> ?_) (fun c104=> ?_)|refine A7 (s:=104) (Aa U) (fun c104=> ?_) (fun c104=> ?_)
            ·refine rO tb 1 U (A9 (Nl U isAgg3 (by first|exact c_o)) U (Bg U U (Aa U)) ?_);refine rO tb 1 U (A9 (Nl U isAgg3 (by first|exact c_o)) U (Bg U U (Aa U)) ?_);refine rO tb 3 U ?_
             first|refine Av (s:=111) (Aa U) (fun c111=> ?_) (fun c111=> ?_)|refine A7 (s:=111) (Aa U) (fun c111=> ?_) (fun c111=> ?_)
             ·refine rO tb 1 U (A9 (Nl U isAgg3 (by first|exact c_o)) U (Bg U U (Aa U)) ?_);refine rO tb 5 U ?_;refine Bf ((decide (m.to≤1073741824),0)) ?_ ⟨atd,atd,trivial⟩ ⟨Aa U,trivial⟩ sbt;intro h;unfold LcP
              first|(exact absurd h qde)|omega|(have:=hv4 c46;omega)|(have:=hv4 c57;omega)
             ·refine rO tb 7 U ?_;refine Bf ((false,0)) ?_ ⟨atd,atd,trivial⟩ ⟨Aa U,trivial⟩ sbt;intro h;unfold LcP
              first|(exact absurd h qde)|omega|(have:=hv4 c46;omega)|(have:=hv4 c57;omega)
            ·refine rO tb 14 U ?_;refine Bf ((false,0)) ?_ ⟨atd,atd,trivial⟩ ⟨Aa U,trivial⟩ sbt;intro h;unfold LcP
             first|(exact absurd h qde)|omega|(have:=hv4 c46;omega)|(have:=hv4 c57;omega)
           ·refine rO tb 19 U ?_;refine Bf ((false,0)) ?_ ⟨atd,atd,trivial⟩ ⟨Aa U,trivial⟩ sbt;intro h;unfold LcP
            first|(exact absurd h qde)|omega|(have:=hv4 c46;omega)|(have:=hv4 c57;omega)
          ·refine rC tb 2 U ?_;refine Bf ((false,0)) ?_ ⟨atd,atd,trivial⟩ ⟨Aa U,trivial⟩ sbt;intro h;unfold LcP
           first|(exact absurd h qde)|omega|(have:=hv4 c46;omega)|(have:=hv4 c57;omega)
 rintro⟨b6,n6⟩ hx6;refine rC tb 4 U ?_
 first|refine A9 (B5 (T U)) U Ac ?_|refine A9 (B1 (T U)) U Ac ?_
 refine rO tb 1 U ?_
 first|refine Av (s:=118) (Aa U) (fun c118=> ?_) (fun c118=> ?_)|refine A7 (s:=118) (Aa U) (fun c118=> ?_) (fun c118=> ?_)
 ·skip
  refine rO tb 16 U (Ak U (Nk U) ?_);exact⟨_,⟨false,⟨rfl,fun h=>by cases h⟩,rfl⟩,sbt⟩
 ·have hb6:=hx6 (by simpa using c118);refine rO tb 1 U (A9 (Nl U isAgg23 (by first|exact c_o)) U (Bg U U (Aa U)) ?_);refine rO tb 6 U ?_
  first|refine Ae (Aa U) (fun c124=> ?_) (fun c124=> ?_)|refine Ah (Aa U) (fun c124=> ?_) (fun c124=> ?_)
  ·skip
   refine rC tb 7 U (Ak U (Nk U) ?_);exact⟨_,⟨false,⟨rfl,fun h=>by cases h⟩,rfl⟩,sbt⟩
  ·have hn6:m.subs.length=n6:=by have h9: ¬ ¬ ((m.subs.length:Nat):Int)=(n6:Nat):=c124;omega
   refine rC tb 9 U ?_;refine Bj (X:=Nat) (V:=fun i=>[(8, .int .i64 (i:Nat))]) (C:=[(1,_),(6,_)]) (G:=fun i=>(n1,Cl (encPd m) 25)::H) (φ:=fun i=>i≤n6∧∀ j,j<i→FmP (gd m.subs j)) (μ:=fun i=>n6 - i) (x0:=0) ?_ ⟨Aa U,Aa U,trivial⟩ ⟨atd,trivial⟩ sb0 ?_
   ·exact⟨Nat.zero_le _,fun j hj=>absurd hj (Nat.not_lt_zero _)⟩
   rintro i ⟨hi,hfm⟩;refine rD tb 8 U ?_
   first|refine Ae (Aa U) (fun c127=> ?_) (fun c127=> ?_)|refine Ah (Aa U) (fun c127=> ?_) (fun c127=> ?_)
   ·have hin:i<n6:=by have h9:((i:Nat):Int)<(n6:Nat):=c127;omega
    have hi2:i<m.subs.length:=by omega
    have hss:=Ey (Ba hi2);refine rC tb 7 U (y_ (Nl U isAgg23 (by first|exact c_o)) ?_ U);refine rO tb 1 U (y_ (Np U U runUnderlying23 sizeOf25 qom (by first|exact rfl|exact hM.arr.b (i:=i) hi2)) ?_ U);refine y_ (Nn U isAgg25 sizeOf25 U (by first|exact(hM.arr.mono (by exact sbt)).cs (i:=i) hi2|exact As)) ?_ U;refine e_ (Al (qe1 U) call195 (ih ((hM.sub (Ba hi2)).mono (by exact sbt)) qom (hz.sub (Ba hi2)))) ?_ U;rintro _ _ ⟨b1,⟨rfl,hb1⟩,rfl⟩;refine rO tb 6 U ?_
    first|refine A9 (B5 (T U)) U Ac ?_|refine A9 (B1 (T U)) U Ac ?_
    refine rO tb 2 U ?_
    first|refine Ae (Aa U) (fun c137=> ?_) (fun c137=> ?_)|refine Ah (Aa U) (fun c137=> ?_) (fun c137=> ?_)
    ·skip
     refine rC tb 8 U (Bc (rX tb 2 U (Ak U (Nk U) ?_)));exact⟨_,⟨false,⟨rfl,fun h=>by cases h⟩,rfl⟩,sbt⟩
    ·have hbt:b1=true:=by simpa using c137
     refine rC tb 5 U (y_ (A8 (T U) An qom) ?_ U);refine rO tb 2 U ?_;refine A6 (i+1) ?_ ?_ ⟨atd,trivial⟩ ⟨Aa U,Aa U,trivial⟩ ?_
     ·refine⟨hin,fun j hj=> ?_⟩
      by_cases e:j=i
      ·subst e;exact hb1 hbt
      ·exact hfm j qom
     ·first|omega|(simp only[];omega)
     ·exact sbt
   ·obtain rfl:i=n6:=by have h9: ¬ ((i:Nat):Int)<(n6:Nat):=c127;omega
    refine rC tb 2 U (Ax (rX tb 8 U (Ak U (Nk U) ?_)));exact⟨_,⟨true,⟨rfl,fun _=> .mk (by rw[hn6];exact hb6) (Dq (by rw[hn6];exact hfm))⟩,rfl⟩,sbt⟩
theorem fmO_step {w0:World}{H:List (Nat × Obj)}{N:Nat}(hN:N≤1000000000)(ih:FmOS w0 N)(ihP:FmPS w0 N){m:Pom}(hM:PoM w0 H m)(hm:m.sz≤N+1)(hz:NmO m):
  FSpec Tryz.prog w0 160 #[.agg (encPo m).toArray] H (SayB (FmO m) H):=by
 refine Au Tryz.func160 U ntmps160 U ?_;have hsz:=Dz m;have hln:=Gs m.subs;refine rD tb 2 U (e_ (Nr U cs_) ?_ U);rintro _ _ ⟨n1,rfl,rfl⟩;refine rO tb 6 U (y_ (Nl U isAgg9 (by first|exact c_o)) ?_ U);refine e_ (Al (qe1 U) call193 (named_s m.nm hz.self.1)) ?_ U;rintro _ _ ⟨b9,rfl,rfl⟩;refine rO tb 6 U ?_;refine y_ (Nn U isAgg25 sizeOf25 U (by first|exact K7 (by repeat (first|exact Am|refine Ar ?_))|exact As)) ?_ U;refine y_ (Bd .nil (zbd25_z)) (e_ (Al (qe2 U U) call194 (sameP0_s m.pr)) ?_ U) U;rintro _ _ ⟨b8,rfl,rfl⟩;refine rO tb 3 U ?_;refine Fc (X:=Bool) (V:=fun x5=>[(5, .bool x5)]) (C:=[(1,_),(3,_),(4,_)]) (φ:=fun x5=>True) ⟨Aa U,Aa U,Aa U,trivial⟩ ?_ ?_
 ·refine rD tb 2 U (y_ (Nl U isAgg9 (by first|exact c_o)) ?_ U);refine y_ (E4 (T U) An) (rO tb 1 U ?_) U
  first|refine Av (s:=20) (Aa U) (fun c20=> ?_) (fun c20=> ?_)|refine A7 (s:=20) (Aa U) (fun c20=> ?_) (fun c20=> ?_)
  ·refine rO tb 1 U (A9 (Nl U isAgg3 (by first|exact c_o)) U (Bg U U (Aa U)) ?_);refine rO tb 4 U ?_;refine Bf (decide (m.n=0)) ?_ ⟨atd,trivial⟩ ⟨Aa U,Aa U,Aa U,trivial⟩ sbt
   trivial
  ·refine rO tb 6 U ?_;refine Bf (false) ?_ ⟨atd,trivial⟩ ⟨Aa U,Aa U,Aa U,trivial⟩ sbt
   trivial
 rintro x5 _;refine rC tb 10 U ?_;refine Fc (X:=Bool × Nat) (V:=fun ⟨b6,n6⟩=>[(6, .int .i64 (n6:Nat)),(7, .bool b6)]) (C:=[(1,_)]) (φ:=fun ⟨b6,n6⟩=>(b6=true→LcO m n6)) ⟨Aa rfl,trivial⟩ ?_ ?_
 ·refine rD tb 3 U (y_ (Nl U isAgg3 (by first|exact c_o)) ?_ U);refine rO tb 9 U ?_
  first|refine Ae (Aa U) (fun c27=> ?_) (fun c27=> ?_)|refine Ah (Aa U) (fun c27=> ?_) (fun c27=> ?_)
  ·refine rC tb 2 U ?_;refine y_ (Nn U isAgg25 sizeOf25 U (by first|exact K7 (by repeat (first|exact Am|refine Ar ?_))|exact As)) ?_ U;refine e_ (Al (qe1 U) call195 (ihP (hM.pred.mono (by exact sbt)) qom hz.self.2)) ?_ U;rintro _ _ ⟨b2,⟨rfl,hb2⟩,rfl⟩;refine rO tb 1 U ?_
   first|refine Av (s:=32) (Aa U) (fun c32=> ?_) (fun c32=> ?_)|refine A7 (s:=32) (Aa U) (fun c32=> ?_) (fun c32=> ?_)
   ·refine rO tb 5 U ?_;refine Bf ((x5,0)) ?_ ⟨atd,atd,trivial⟩ ⟨Aa U,trivial⟩ sbt;intro h;unfold LcO
    first|(exact absurd h qde)|omega|(have:=hb2 c32;exact .inl ⟨rfl, .inl ⟨c27,this⟩⟩)
   ·refine rO tb 5 U ?_;refine Bf ((false,0)) ?_ ⟨atd,atd,trivial⟩ ⟨Aa U,trivial⟩ sbt;intro h;unfold LcO
    first|(exact absurd h qde)|omega|(have:=hb2 c32;exact .inl ⟨rfl, .inl ⟨c27,this⟩⟩)
  ·refine rC tb 6 U ?_
   first|refine Ae (Aa U) (fun c35=> ?_) (fun c35=> ?_)|refine Ah (Aa U) (fun c35=> ?_) (fun c35=> ?_)
   ·refine rC tb 3 U ?_
    first|refine Av (s:=38) (Aa U) (fun c38=> ?_) (fun c38=> ?_)|refine A7 (s:=38) (Aa U) (fun c38=> ?_) (fun c38=> ?_)
    ·refine rO tb 3 U ?_
     first|refine Av (s:=41) (Aa U) (fun c41=> ?_) (fun c41=> ?_)|refine A7 (s:=41) (Aa U) (fun c41=> ?_) (fun c41=> ?_)
     ·refine rO tb 1 U (A9 (Nl U isAgg3 (by first|exact c_o)) U (Bg U U (Aa U)) ?_);refine rO tb 3 U ?_
      first|refine Av (s:=46) (Aa U) (fun c46=> ?_) (fun c46=> ?_)|refine A7 (s:=46) (Aa U) (fun c46=> ?_) (fun c46=> ?_)
      ·refine rO tb 1 U (A9 (Nl U isAgg3 (by first|exact c_o)) U (Bg U U (Aa U)) ?_);refine rO tb 5 U ?_;refine Bf ((decide (m.n≤65535),0)) ?_ ⟨atd,atd,trivial⟩ ⟨Aa U,trivial⟩ sbt;intro h;unfold LcO
       first|(exact absurd h qde)|omega|(have:=hb2 c32;exact .inl ⟨rfl, .inl ⟨c27,this⟩⟩)
      ·refine rO tb 7 U ?_;refine Bf ((false,0)) ?_ ⟨atd,atd,trivial⟩ ⟨Aa U,trivial⟩ sbt;intro h;unfold LcO
       first|(exact absurd h qde)|omega|(have:=hb2 c32;exact .inl ⟨rfl, .inl ⟨c27,this⟩⟩)
     ·refine rO tb 12 U ?_;refine Bf ((false,0)) ?_ ⟨atd,atd,trivial⟩ ⟨Aa U,trivial⟩ sbt;intro h;unfold LcO
      first|(exact absurd h qde)|omega|(have:=hb2 c32;exact .inl ⟨rfl, .inl ⟨c27,this⟩⟩)
    ·refine rO tb 15 U ?_;refine Bf ((false,0)) ?_ ⟨atd,atd,trivial⟩ ⟨Aa U,trivial⟩ sbt;intro h;unfold LcO
     first|(exact absurd h qde)|omega|(have:=hb2 c32;exact .inl ⟨rfl, .inl ⟨c27,this⟩⟩)
   ·refine rC tb 7 U ?_
    first|refine Ae (Aa U) (fun c51=> ?_) (fun c51=> ?_)|refine Ah (Aa U) (fun c51=> ?_) (fun c51=> ?_)
    ·refine rC tb 2 U ?_
     first|refine B8 (Aa U) ?_|refine B8 (Ag (Aa U) (vbool (decide_eq_true c51))) ?_
     refine rC tb 4 U ?_
     first|refine Av (s:=55) (Aa U) (fun c55=> ?_) (fun c55=> ?_)|refine A7 (s:=55) (Aa U) (fun c55=> ?_) (fun c55=> ?_)
     ·refine rO tb 9 U ?_;refine Bf ((x5,2)) ?_ ⟨atd,atd,trivial⟩ ⟨Aa U,trivial⟩ sbt;intro h;unfold LcO
      first|(exact absurd h qde)|omega|(have:=hb2 c32;exact .inl ⟨rfl, .inl ⟨c27,this⟩⟩)
     ·refine rO tb 9 U ?_;refine Bf ((false,2)) ?_ ⟨atd,atd,trivial⟩ ⟨Aa U,trivial⟩ sbt;intro h;unfold LcO
      first|(exact absurd h qde)|omega|(have:=hb2 c32;exact .inl ⟨rfl, .inl ⟨c27,this⟩⟩)
    ·refine rC tb 5 U ?_
     first|refine Ae (Aa U) (fun c51=> ?_) (fun c51=> ?_)|refine Ah (Aa U) (fun c51=> ?_) (fun c51=> ?_)
     ·refine rC tb 4 U ?_
      first|refine Av (s:=55) (Aa U) (fun c55=> ?_) (fun c55=> ?_)|refine A7 (s:=55) (Aa U) (fun c55=> ?_) (fun c55=> ?_)
      ·refine rO tb 9 U ?_;refine Bf ((x5,2)) ?_ ⟨atd,atd,trivial⟩ ⟨Aa U,trivial⟩ sbt;intro h;unfold LcO
       first|(exact absurd h qde)|omega|(have:=hb2 c32;exact .inl ⟨rfl, .inl ⟨c27,this⟩⟩)
      ·refine rO tb 9 U ?_;refine Bf ((false,2)) ?_ ⟨atd,atd,trivial⟩ ⟨Aa U,trivial⟩ sbt;intro h;unfold LcO
       first|(exact absurd h qde)|omega|(have:=hb2 c32;exact .inl ⟨rfl, .inl ⟨c27,this⟩⟩)
     ·refine rC tb 6 U ?_
      first|refine Ae (Aa U) (fun c58=> ?_) (fun c58=> ?_)|refine Ah (Aa U) (fun c58=> ?_) (fun c58=> ?_)
      ·refine rC tb 4 U ?_
       first|refine Av (s:=61) (Aa U) (fun c61=> ?_) (fun c61=> ?_)|refine A7 (s:=61) (Aa U) (fun c61=> ?_) (fun c61=> ?_)
       ·refine rO tb 9 U ?_;refine Bf ((x5,1)) ?_ ⟨atd,atd,trivial⟩ ⟨Aa U,trivial⟩ sbt;intro h;unfold LcO
        first|(exact absurd h qde)|omega|(have:=hb2 c32;exact .inl ⟨rfl, .inl ⟨c27,this⟩⟩)
       ·refine rO tb 9 U ?_;refine Bf ((false,1)) ?_ ⟨atd,atd,trivial⟩ ⟨Aa U,trivial⟩ sbt;intro h;unfold LcO
        first|(exact absurd h qde)|omega|(have:=hb2 c32;exact .inl ⟨rfl, .inl ⟨c27,this⟩⟩)
      ·refine rC tb 2 U ?_;refine Bf ((false,0)) ?_ ⟨atd,atd,trivial⟩ ⟨Aa U,trivial⟩ sbt;intro h;unfold LcO
       first|(exact absurd h qde)|omega|(have:=hb2 c32;exact .inl ⟨rfl, .inl ⟨c27,this⟩⟩)
 rintro⟨b6,n6⟩ hx6;refine rC tb 4 U ?_
 first|refine A9 (B5 (T U)) U Ac ?_|refine A9 (B1 (T U)) U Ac ?_
 refine rO tb 1 U ?_
 first|refine Av (s:=66) (Aa U) (fun c66=> ?_) (fun c66=> ?_)|refine A7 (s:=66) (Aa U) (fun c66=> ?_) (fun c66=> ?_)
 ·skip
  refine rO tb 16 U (Ak U (Nk U) ?_);exact⟨_,⟨false,⟨rfl,fun h=>by cases h⟩,rfl⟩,sbt⟩
 ·have hb6:=hx6 (by simpa using c66);refine rO tb 1 U (A9 (Nl U isAgg26 (by first|exact c_o)) U (Bg U U (Aa U)) ?_);refine rO tb 6 U ?_
  first|refine Ae (Aa U) (fun c72=> ?_) (fun c72=> ?_)|refine Ah (Aa U) (fun c72=> ?_) (fun c72=> ?_)
  ·skip
   refine rC tb 7 U (Ak U (Nk U) ?_);exact⟨_,⟨false,⟨rfl,fun h=>by cases h⟩,rfl⟩,sbt⟩
  ·have hn6:m.subs.length=n6:=by have h9: ¬ ¬ ((m.subs.length:Nat):Int)=(n6:Nat):=c72;omega
   refine rC tb 9 U ?_;refine Bj (X:=Nat) (V:=fun i=>[(8, .int .i64 (i:Nat))]) (C:=[(1,_),(6,_)]) (G:=fun i=>(n1,Cl (encPo m) 28)::H) (φ:=fun i=>i≤n6∧∀ j,j<i→FmO (gd m.subs j)) (μ:=fun i=>n6 - i) (x0:=0) ?_ ⟨Aa U,Aa U,trivial⟩ ⟨atd,trivial⟩ sb0 ?_
   ·exact⟨Nat.zero_le _,fun j hj=>absurd hj (Nat.not_lt_zero _)⟩
   rintro i ⟨hi,hfm⟩;refine rD tb 8 U ?_
   first|refine Ae (Aa U) (fun c75=> ?_) (fun c75=> ?_)|refine Ah (Aa U) (fun c75=> ?_) (fun c75=> ?_)
   ·have hin:i<n6:=by have h9:((i:Nat):Int)<(n6:Nat):=c75;omega
    have hi2:i<m.subs.length:=by omega
    have hss:=Eg (Ba hi2);refine rC tb 7 U (y_ (Nl U isAgg26 (by first|exact c_o)) ?_ U);refine rO tb 1 U (y_ (Np U U runUnderlying26 sizeOf28 qom (by first|exact rfl|exact hM.arr.b (i:=i) hi2)) ?_ U);refine y_ (Nn U isAgg28 sizeOf28 U (by first|exact(hM.arr.mono (by exact sbt)).cs (i:=i) hi2|exact As)) ?_ U;refine e_ (Al (qe1 U) call160 (ih ((hM.sub (Ba hi2)).mono (by exact sbt)) qom (hz.sub (Ba hi2)))) ?_ U;rintro _ _ ⟨b1,⟨rfl,hb1⟩,rfl⟩;refine rO tb 6 U ?_
    first|refine A9 (B5 (T U)) U Ac ?_|refine A9 (B1 (T U)) U Ac ?_
    refine rO tb 2 U ?_
    first|refine Ae (Aa U) (fun c85=> ?_) (fun c85=> ?_)|refine Ah (Aa U) (fun c85=> ?_) (fun c85=> ?_)
    ·skip
     refine rC tb 8 U (Bc (rX tb 2 U (Ak U (Nk U) ?_)));exact⟨_,⟨false,⟨rfl,fun h=>by cases h⟩,rfl⟩,sbt⟩
    ·have hbt:b1=true:=by simpa using c85
     refine rC tb 5 U (y_ (A8 (T U) An qom) ?_ U);refine rO tb 2 U ?_;refine A6 (i+1) ?_ ?_ ⟨atd,trivial⟩ ⟨Aa U,Aa U,trivial⟩ ?_
     ·refine⟨hin,fun j hj=> ?_⟩
      by_cases e:j=i
      ·subst e;exact hb1 hbt
      ·exact hfm j qom
     ·first|omega|(simp only[];omega)
     ·exact sbt
   ·obtain rfl:i=n6:=by have h9: ¬ ((i:Nat):Int)<(n6:Nat):=c75;omega
    refine rC tb 2 U (Ax (rX tb 8 U (Ak U (Nk U) ?_)));exact⟨_,⟨true,⟨rfl,fun _=> .mk (by rw[hn6];exact hb6) (Dq (by rw[hn6];exact hfm))⟩,rfl⟩,sbt⟩
theorem fmP_s {w0:World}(N:Nat)(hN:N≤1000000000):FmPS w0 N:=by
 induction N with
 |zero=>intro H m _ h _;have:=Hl m;omega
 |succ N ih=>
  have ih:FmPS w0 N:=ih qom;intro H m hM hm hz;exact fmP_step qom ih hM hm hz
theorem fmO_s {w0:World}(N:Nat)(hN:N≤1000000000):FmOS w0 N:=by
 induction N with
 |zero=>intro H m _ h _;have:=Dz m;omega
 |succ N ih=>
  have ih:FmOS w0 N:=ih qom;intro H m hM hm hz;exact fmO_step qom ih (fmP_s N qom) hM hm hz
theorem limit_s {w0:World}{H:List (Nat × Obj)}(n:Nat)(d:Int):
  FSpec Tryz.prog w0 192 #[szV n d] H (fun u H'=>∃ e:Int,(u= .int .i64 e∧(e=0→n≤200))∧H'=H):=by
 refine Au Tryz.func192 U ntmps192 U (rD tb 2 U (e_ (Nr U cs_) ?_ U));rintro _ _ ⟨n1,rfl,rfl⟩;refine rO tb 7 U (y_ (Nl U isAgg3 (by first|exact c_o)) ?_ U);refine rO tb 2 U ?_
 first|refine Av (s:=6) (Aa U) (fun c6=> ?_) (fun c6=> ?_)|refine A7 (s:=6) (Aa U) (fun c6=> ?_) (fun c6=> ?_)
 ·skip
  refine rO tb 14 U (Ak U (Nk U) ?_);exact⟨_,⟨2,⟨rfl,fun h=>absurd h qde⟩,rfl⟩,sbt⟩
 ·have hn:n≤200:=by have h9: ¬ ((n:Nat):Int)>200:=c6;omega
  refine rO tb 1 U (A9 (Nl U isAgg3 (by first|exact c_o)) U (Bg U U (Aa U)) ?_);refine rO tb 4 U ?_
  first|refine Ae (Aa U) (fun c10=> ?_) (fun c10=> ?_)|refine Ah (Aa U) (fun c10=> ?_) (fun c10=> ?_)
  ·refine rC tb 7 U (Ak U (Nk U) ?_);exact⟨_,⟨2,⟨rfl,fun h=>absurd h qde⟩,rfl⟩,sbt⟩
  ·refine rC tb 8 U (Ak U (Nk U) ?_);exact⟨_,⟨0,⟨rfl,fun h=>hn⟩,rfl⟩,sbt⟩
theorem formed_s {w0:World}{H:List (Nat × Obj)}(n:Nat)(d:Int)(b:Bool):
  FSpec Tryz.prog w0 159 #[szV n d, .bool b] H (fun u H'=>∃ e:Int,(u= .int .i64 e∧(e=0→n≤200∧b=true))∧H'=H):=by
 refine Au Tryz.func159 U ntmps159 U (rD tb 2 U (e_ (Nr U cs_) ?_ U));rintro _ _ ⟨n2,rfl,rfl⟩;refine rO tb 5 U (y_ (Nn U isAgg122 sizeOf122 U (by first|exact As)) ?_ U);refine e_ (Al (qe1 U) call192 (limit_s n d)) ?_ U;rintro _ _ ⟨e1,⟨rfl,he1⟩,rfl⟩;refine rO tb 9 U ?_
 first|refine Av (s:=10) (Aa U) (fun c10=> ?_) (fun c10=> ?_)|refine A7 (s:=10) (Aa U) (fun c10=> ?_) (fun c10=> ?_)
 ·refine rO tb 1 U ?_
  first|refine A9 (B5 (T U)) U (Bg U U (Aa U)) ?_|refine A9 (B1 (T U)) U (Bg U U (Aa U)) ?_
  refine rO tb 3 U ?_
  first|refine Ae (Aa U) (fun c13=> ?_) (fun c13=> ?_)|refine Ah (Aa U) (fun c13=> ?_) (fun c13=> ?_)
  ·refine rC tb 7 U (Ak U (Nk U) ?_);exact⟨_,⟨1,⟨rfl,fun h=>absurd h qde⟩,rfl⟩,sbt⟩
  ·refine rC tb 9 U (Ak U (Nk U) ?_);exact⟨_,⟨e1,⟨rfl,fun h=>⟨he1 h,by simpa using c13⟩⟩,rfl⟩,sbt⟩
 ·refine rO tb 15 U (Ak U (Nk U) ?_);exact⟨_,⟨e1,⟨rfl,fun h=>absurd h c10⟩,rfl⟩,sbt⟩
theorem checkO_s {w0:World}{H:List (Nat × Obj)}{m:Pom}(hM:PoM w0 H m)(hm:m.sz≤1000000000)(hz:NmO m):
  FSpec Tryz.prog w0 125 #[.agg (encPo m).toArray] H (fun u H'=>∃ e:Int,(u= .int .i64 e∧(e=0→m.nd≤200∧FmO m))∧H'=H):=by
 refine Au Tryz.func125 U ntmps125 U (rD tb 2 U (e_ (Nr U cs_) ?_ U));rintro _ _ ⟨n1,rfl,rfl⟩;refine rO tb 4 U (Bk 3 [(0,true),(2,true),(1,false)] ((n1,Cl (encPo m) 28)::H) mixd qkr sb0 ?_ Bp);refine o_y U (Nn U isAgg28 sizeOf28 U (by first|exact As)) ?_ U Ac;refine o_y U (Nn U isAgg28 sizeOf28 U (by first|exact As)) ?_ U Ac;refine o_e U (Al (qe1 U) call77 (szO_s _ hm (hM.mono (by exact sbt)) (Nat.le_refl _))) ?_ U Ac;rintro _ _ ⟨z1,⟨rfl,y1,x1⟩,rfl⟩;refine⟨sbt,(A4 U (e_ (Al (qe1 U) call160 (fmO_s _ hm (hM.mono (by exact sbt)) (Nat.le_refl _) hz)) ?_ U))⟩;rintro _ _ ⟨b1,⟨rfl,hb1⟩,rfl⟩;refine e_ (Al (qe2 U U) call159 (formed_s _ _ _)) ?_ U;rintro _ _ ⟨e1,⟨rfl,he1⟩,rfl⟩;refine rO tb 4 U (Ak U (Nk U) ?_);exact⟨_,⟨e1,⟨rfl,fun h=>⟨(he1 h).1,hb1 (he1 h).2⟩⟩,rfl⟩,by exact sbt⟩
theorem zbs23_1_0 (a0:Int)(a1:ByteArray)(a2:Int)(a3:Int)(a4:Option Addr)(a4n a4c:Nat)(w:World):(Instr.buildSlice 23 1 #[(0, .agg #[.int .i64 a0, .string a1, .int .i64 a2, .int .i64 a3, .slice a4 a4n a4c])]).run Tryz.prog w= .ok (.slice (some ⟨w.heap.size,0,none⟩) 1 1) (w.alloc (Cl [.int .i64 a0, .string a1, .int .i64 a2, .int .i64 a3, .slice a4 a4n a4c] 25)):=by kernel_rfl
theorem zbs26_1_0 (a0:Int)(a1:Int)(a2:ByteArray)(a3:Int)(a4:Int)(a5:Option Addr)(a5n a5c:Nat)(a6:ByteArray)(a7:Int)(a8:Option Addr)(a8n a8c:Nat)(w:World):(Instr.buildSlice 26 1 #[(0, .agg #[.int .i64 a0, .int .i64 a1, .string a2, .int .i64 a3, .int .i64 a4, .slice a5 a5n a5c, .string a6, .int .i64 a7, .slice a8 a8n a8c])]).run Tryz.prog w= .ok (.slice (some ⟨w.heap.size,0,none⟩) 1 1) (w.alloc (Cl [.int .i64 a0, .int .i64 a1, .string a2, .int .i64 a3, .int .i64 a4, .slice a5 a5n a5c, .string a6, .int .i64 a7, .slice a8 a8n a8c] 28)):=by kernel_rfl
def PrP (w0:World) (N:Nat):Prop:=∀ {H:List (Nat × Obj)} {m:Pdm},PdM w0 H m→m.sz≤N→FSpec Tryz.prog w0 161 #[.agg (encPd m).toArray] H (fun u H'=>∃ d:Sl,(u=slV d (prtP m).length∧SlOk d (prtP m).length 5)∧H'=slH d ((prtP m).flatMap encPd) 25++H)
theorem prtP_step {w0:World}{H:List (Nat × Obj)}{N:Nat}(hN:N≤1000000000)(ih:PrP w0 N){m:Pdm}(hM:PdM w0 H m)(hm:m.sz≤N+1):
  FSpec Tryz.prog w0 161 #[.agg (encPd m).toArray] H (fun u H'=>∃ d:Sl,(u=slV d (prtP m).length∧SlOk d (prtP m).length 5)∧H'=slH d ((prtP m).flatMap encPd) 25++H):=by
 refine Au Tryz.func161 U ntmps161 U ?_;have hsz:=Hl m;have hln:=Jq m.subs;have hpm:=Er m;refine rD tb 2 U (e_ (Nr U cs_) ?_ U);rintro _ _ ⟨n1,rfl,rfl⟩;refine rO tb 5 U (y_ (Nn U isAgg25 sizeOf25 U (by first|exact As)) ?_ U);refine e_ (Br (.cons (T U) .nil) (zbs23_1_0 _ _ _ _ _ _ _)) ?_ U;rintro _ _ ⟨n6,rfl,rfl⟩;refine rO tb 10 U ?_;refine Bj (X:=Nat × Sl) (V:=fun ⟨i,d⟩=>[(3,slV d (m::prtPL (m.subs.take i)).length),(4, .int .i64 (i:Nat))]) (C:=[(1,_)]) (G:=fun ⟨i,d⟩=>slH d ((m::prtPL (m.subs.take i)).flatMap encPd) 25++((n1,Cl (encPd m) 25)::H)) (φ:=fun ⟨i,d⟩=>i≤m.subs.length∧SlOk d (m::prtPL (m.subs.take i)).length 5) (μ:=fun ⟨i,d⟩=>m.subs.length - i) (x0:=(0, .blk n6 1 [])) ?_ ⟨Aa rfl,trivial⟩ ⟨(by first|exact Aa rfl|(refine Ag (Aa rfl) (vint ?_);omega)|(refine Ag (Aa rfl) ?_;simp;done)|(refine Ag (Aa rfl) ?_;exact(by rw[e9,List.length_append]))),(by first|exact Aa rfl|(refine Ag (Aa rfl) (vint ?_);omega)|(refine Ag (Aa rfl) ?_;simp;done)|(refine Ag (Aa rfl) ?_;exact(by rw[e9,List.length_append]))),trivial⟩ (by exact List.Sublist.refl _) ?_
 ·exact⟨Nat.zero_le _,Nat.le_refl _,rfl⟩
 rintro⟨i,d⟩ ⟨hi,hd⟩;refine rD tb 5 U (y_ (Nl U isAgg23 (by first|exact c_o|exact Af (by exact A0 Am:Fnd _ n1 (Cl (encPd m) 25)) 4 _ U)) ?_ U);refine rO tb 4 U ?_
 first|refine Ae (Aa U) (fun c11=> ?_) (fun c11=> ?_)|refine Ah (Aa U) (fun c11=> ?_) (fun c11=> ?_)
 ·have hi2:i<m.subs.length:=by have h9:((i:Nat):Int)<(m.subs.length:Nat):=c11;omega
  have htk:=prtPL_take hi2;have hss:=Ey (Ba hi2);have hl1:=prtPL_len (m.subs.take i);have hl2:=szPL_all (l:=m.subs) i;have hl3:=Jr (gd m.subs i);have e9:(m::prtPL (m.subs.take (i+1)))=(m::prtPL (m.subs.take i))++prtP (gd m.subs i):=by rw[htk];rfl
  refine rC tb 7 U (y_ (Nl U isAgg23 (by first|exact c_o|exact Af (by exact A0 Am:Fnd _ n1 (Cl (encPd m) 25)) 4 _ U)) ?_ U);refine rO tb 1 U (y_ (Np U U runUnderlying23 sizeOf25 qom (by first|exact rfl|exact hM.arr.b (i:=i) hi2)) ?_ U);refine y_ (Nn U isAgg25 sizeOf25 U (by first|exact(hM.arr.mono (by exact sbt)).cs (i:=i) hi2|exact As)) ?_ U;refine e_ (Al (qe1 U) call161 (ih ((hM.sub (Ba hi2)).mono (by exact sbt)) qom)) ?_ U;rintro _ _ ⟨d2,⟨rfl,hd2⟩,rfl⟩;refine e_ (C2 (enc:=encPd) (l:=m::prtPL (m.subs.take i)) (prtP (gd m.subs i)) (by':=64) (.a .h) (T U) (T U) runUnderlying23 runUnderlying23 sizeOf25 typeInfo25 U zeroValue25 U (fun _=>rfl) (fun _=>rfl) hd qde (by rw[List.length_cons];omega) ((Cw (w0:=w0) (e:=25) (X:=[]) (enc:=encPd) (fun _=>rfl) hd2).mono (by rw[List.append_nil];exact List.sublist_append_left _ _))) ?_ U;rintro _ _ ⟨d3,rfl,hd3,rfl⟩;refine rO tb 6 U (y_ (A8 (T U) An qom) ?_ U);refine rO tb 2 U ?_;refine A6 ((i+1,d3)) ?_ ?_ ⟨(by first|exact Aa U|(refine Ag (Aa U) (vint ?_);omega)|(refine Ag (Aa U) ?_;simp;done)|(refine Ag (Aa U) ?_;exact(by rw[e9,List.length_append]))),(by first|exact Aa U|(refine Ag (Aa U) (vint ?_);omega)|(refine Ag (Aa U) ?_;simp;done)|(refine Ag (Aa U) ?_;exact(by rw[e9,List.length_append]))),trivial⟩ ⟨Aa U,trivial⟩ ?_
  ·exact⟨hi2,by rw[e9,List.length_append];exact hd3⟩
  ·first|omega|(simp only[];omega)
  ·dsimp only;rw[e9];exact List.sublist_append_right _ _
 ·obtain rfl:i=m.subs.length:=by have h9: ¬ ((i:Nat):Int)<(m.subs.length:Nat):=c11;omega
  have htl:m.subs.take m.subs.length=m.subs:=List.take_length;refine rC tb 2 U (Ax (rX tb 9 U (Ak U (Nk U) ?_)));exact⟨_,⟨d,⟨by rw[hpm,htl] at *;rfl,by rw[hpm];rw[htl] at hd;exact hd⟩,rfl⟩,by dsimp only;rw[hpm,htl];exact sbt⟩
theorem prtP_s {w0:World}(N:Nat)(hN:N≤1000000000):PrP w0 N:=by
 induction N with
 |zero=>intro H m _ h;have:=Hl m;omega
 |succ N ih=>
  have ih:PrP w0 N:=ih qom;intro H m hM hm;exact prtP_step qom ih hM hm
def PrO (w0:World) (N:Nat):Prop:=∀ {H:List (Nat × Obj)} {m:Pom},PoM w0 H m→m.sz≤N→FSpec Tryz.prog w0 126 #[.agg (encPo m).toArray] H (fun u H'=>∃ d:Sl,(u=slV d (prtO m).length∧SlOk d (prtO m).length 9)∧H'=slH d ((prtO m).flatMap encPo) 28++H)
theorem prtO_step {w0:World}{H:List (Nat × Obj)}{N:Nat}(hN:N≤1000000000)(ih:PrO w0 N){m:Pom}(hM:PoM w0 H m)(hm:m.sz≤N+1):
  FSpec Tryz.prog w0 126 #[.agg (encPo m).toArray] H (fun u H'=>∃ d:Sl,(u=slV d (prtO m).length∧SlOk d (prtO m).length 9)∧H'=slH d ((prtO m).flatMap encPo) 28++H):=by
 refine Au Tryz.func126 U ntmps126 U ?_;have hsz:=Dz m;have hln:=Gs m.subs;have hpm:=Eh m;refine rD tb 2 U (e_ (Nr U cs_) ?_ U);rintro _ _ ⟨n1,rfl,rfl⟩;refine rO tb 5 U (y_ (Nn U isAgg28 sizeOf28 U (by first|exact As)) ?_ U);refine e_ (Br (.cons (T U) .nil) (zbs26_1_0 _ _ _ _ _ _ _ _ _ _ _ _ _)) ?_ U;rintro _ _ ⟨n6,rfl,rfl⟩;refine rO tb 10 U ?_;refine Bj (X:=Nat × Sl) (V:=fun ⟨i,d⟩=>[(3,slV d (m::prtOL (m.subs.take i)).length),(4, .int .i64 (i:Nat))]) (C:=[(1,_)]) (G:=fun ⟨i,d⟩=>slH d ((m::prtOL (m.subs.take i)).flatMap encPo) 28++((n1,Cl (encPo m) 28)::H)) (φ:=fun ⟨i,d⟩=>i≤m.subs.length∧SlOk d (m::prtOL (m.subs.take i)).length 9) (μ:=fun ⟨i,d⟩=>m.subs.length - i) (x0:=(0, .blk n6 1 [])) ?_ ⟨Aa rfl,trivial⟩ ⟨(by first|exact Aa rfl|(refine Ag (Aa rfl) (vint ?_);omega)|(refine Ag (Aa rfl) ?_;simp;done)|(refine Ag (Aa rfl) ?_;exact(by rw[e9,List.length_append]))),(by first|exact Aa rfl|(refine Ag (Aa rfl) (vint ?_);omega)|(refine Ag (Aa rfl) ?_;simp;done)|(refine Ag (Aa rfl) ?_;exact(by rw[e9,List.length_append]))),trivial⟩ (by exact List.Sublist.refl _) ?_
 ·exact⟨Nat.zero_le _,Nat.le_refl _,rfl⟩
 rintro⟨i,d⟩ ⟨hi,hd⟩;refine rD tb 5 U (y_ (Nl U isAgg26 (by first|exact c_o|exact Af (by exact A0 Am:Fnd _ n1 (Cl (encPo m) 28)) 8 _ U)) ?_ U);refine rO tb 4 U ?_
 first|refine Ae (Aa U) (fun c11=> ?_) (fun c11=> ?_)|refine Ah (Aa U) (fun c11=> ?_) (fun c11=> ?_)
 ·have hi2:i<m.subs.length:=by have h9:((i:Nat):Int)<(m.subs.length:Nat):=c11;omega
  have htk:=prtOL_take hi2;have hss:=Eg (Ba hi2);have hl1:=prtOL_len (m.subs.take i);have hl2:=Hy (l:=m.subs) i;have hl3:=prtO_len (gd m.subs i);have e9:(m::prtOL (m.subs.take (i+1)))=(m::prtOL (m.subs.take i))++prtO (gd m.subs i):=by rw[htk];rfl
  refine rC tb 7 U (y_ (Nl U isAgg26 (by first|exact c_o|exact Af (by exact A0 Am:Fnd _ n1 (Cl (encPo m) 28)) 8 _ U)) ?_ U);refine rO tb 1 U (y_ (Np U U runUnderlying26 sizeOf28 qom (by first|exact rfl|exact hM.arr.b (i:=i) hi2)) ?_ U);refine y_ (Nn U isAgg28 sizeOf28 U (by first|exact(hM.arr.mono (by exact sbt)).cs (i:=i) hi2|exact As)) ?_ U;refine e_ (Al (qe1 U) call126 (ih ((hM.sub (Ba hi2)).mono (by exact sbt)) qom)) ?_ U;rintro _ _ ⟨d2,⟨rfl,hd2⟩,rfl⟩;refine e_ (C2 (enc:=encPo) (l:=m::prtOL (m.subs.take i)) (prtO (gd m.subs i)) (by':=120) (.a .h) (T U) (T U) runUnderlying26 runUnderlying26 sizeOf28 typeInfo28 U zeroValue28 U (fun _=>rfl) (fun _=>rfl) hd qde (by rw[List.length_cons];omega) ((Cw (w0:=w0) (e:=28) (X:=[]) (enc:=encPo) (fun _=>rfl) hd2).mono (by rw[List.append_nil];exact List.sublist_append_left _ _))) ?_ U;rintro _ _ ⟨d3,rfl,hd3,rfl⟩;refine rO tb 6 U (y_ (A8 (T U) An qom) ?_ U);refine rO tb 2 U ?_;refine A6 ((i+1,d3)) ?_ ?_ ⟨(by first|exact Aa U|(refine Ag (Aa U) (vint ?_);omega)|(refine Ag (Aa U) ?_;simp;done)|(refine Ag (Aa U) ?_;exact(by rw[e9,List.length_append]))),(by first|exact Aa U|(refine Ag (Aa U) (vint ?_);omega)|(refine Ag (Aa U) ?_;simp;done)|(refine Ag (Aa U) ?_;exact(by rw[e9,List.length_append]))),trivial⟩ ⟨Aa U,trivial⟩ ?_
  ·exact⟨hi2,by rw[e9,List.length_append];exact hd3⟩
  ·first|omega|(simp only[];omega)
  ·dsimp only;rw[e9];exact List.sublist_append_right _ _
 ·obtain rfl:i=m.subs.length:=by have h9: ¬ ((i:Nat):Int)<(m.subs.length:Nat):=c11;omega
  have htl:m.subs.take m.subs.length=m.subs:=List.take_length;refine rC tb 2 U (Ax (rX tb 9 U (Ak U (Nk U) ?_)));exact⟨_,⟨d,⟨by rw[hpm,htl] at *;rfl,by rw[hpm];rw[htl] at hd;exact hd⟩,rfl⟩,by dsimp only;rw[hpm,htl];exact sbt⟩
theorem prtO_s {w0:World}(N:Nat)(hN:N≤1000000000):PrO w0 N:=by
 induction N with
 |zero=>intro H m _ h;have:=Dz m;omega
 |succ N ih=>
  have ih:PrO w0 N:=ih qom;intro H m hM hm;exact prtO_step qom ih hM hm
theorem zbd67_0_1_2 (a0:ByteArray)(a1:Int)(a2:Int)(w:World):(Instr.build 127 #[(0, .string a0),(1, .int .i64 a1),(2, .int .i64 a2)]).run Tryz.prog w= .ok (.agg #[.string a0, .int .i64 a1, .int .i64 a2]) w:=by kernel_rfl
theorem rport_s {w0:World}{H:List (Nat × Obj)}  :
  FSpec Tryz.prog w0 129 #[] H (Still (.agg (encF portFd).toArray) H):=by
 refine Au Tryz.func129 U ntmps129 U (rD tb 2 U (e_ (Ai zeroValue127 cs_) ?_ U));rintro _ _ ⟨n0,rfl,rfl⟩;refine rO tb 4 U (y_ (Bd (.cons An (.cons An (.cons An .nil))) (zbd67_0_1_2 _ _ _)) ?_ U)
 first|refine A5 (Nq U U sizeOf127) U Ac ?_
 rintro _ _ ⟨rfl,rfl⟩;refine rO tb 3 U (Ak U (.cellA (Aa U) isAgg127 sizeOf127 U (by first|exact As) .nil) ?_);exact⟨_,⟨rfl,rfl⟩,sbt⟩
theorem Ha {w0:World}{H:List (Nat × Obj)}(fl:List Fd)(q:Option Addr)(c:Nat)(hA:Arr w0 H q 3 encF fl)(hl:fl.length≤1000000)(nm:ByteArray):
  FSpec Tryz.prog w0 82 #[.slice q fl.length c, .string nm] H (Still (.tuple #[.agg (encF (fndFd fl nm).1).toArray, .bool (fndFd fl nm).2]) H):=by
 refine Au Tryz.func82 U ntmps82 U (rD tb 2 U (e_ (Ai zeroValue127 cs_) ?_ U));rintro _ _ ⟨n4,rfl,rfl⟩;refine rO tb 7 U (y_ (E4 (T U) An) (rO tb 2 U ?_) U)
 first|refine Ae (Aa U) (fun c8=> ?_) (fun c8=> ?_)|refine Ah (Aa U) (fun c8=> ?_) (fun c8=> ?_)
 ·have hp:nm=portN:=nm_eq.1 c8;refine rC tb 2 U (y_ (Aw .nil call129 (fun H' hs=>rport_s)) ?_ U)
  first|refine A5 (Nq U U sizeOf127) U Ac ?_
  rintro _ _ ⟨rfl,rfl⟩;refine rO tb 5 U (Ak U (.cellA (Aa U) isAgg127 sizeOf127 U (by first|exact As) (Nk U)) ?_);exact⟨_,⟨by unfold fndFd;rw[if_pos hp];rfl,rfl⟩,sbt⟩
 ·have hp: ¬ nm=portN:=fun e=>c8 (nm_eq.2 e)
  refine rC tb 9 U ?_;refine Bj (X:=Nat) (V:=fun k=>[(6, .int .i64 (k:Nat))]) (C:=[(0,_),(1,_),(4,_)]) (G:=fun k=>(n4,Cl [.string ⟨#[]⟩, .int .i64 0, .int .i64 0] 127)::H) (φ:=fun k=>k≤fl.length∧idxF nm fl 0=idxF nm (fl.drop k) k) (μ:=fun k=>fl.length - k) (x0:=0) ?_ ⟨Aa U,Aa U,Aa U,trivial⟩ ⟨atd,trivial⟩ sb0 ?_
  ·exact⟨Nat.zero_le _,rfl⟩
  rintro k ⟨hk,hix⟩;refine rD tb 9 U ?_
  first|refine Ae (Aa U) (fun c13=> ?_) (fun c13=> ?_)|refine Ah (Aa U) (fun c13=> ?_) (fun c13=> ?_)
  ·have hk2:k<fl.length:=by have h9:((k:Nat):Int)<(fl.length:Nat):=c13;omega
   refine rC tb 8 U (y_ (Np U U runUnderlying22 sizeOf127 qom (by first|exact rfl|exact(hA k (gd fl k) (Ce qom)).1)) ?_ U);refine rO tb 1 U (y_ (Nl U isAgg9 (by first|exact c_o|exact(hA.mono (by exact sbt)).cs (i:=k) qom 0 _ U)) ?_ U);refine rO tb 1 U (y_ (E4 (T U) (T U)) (rO tb 2 U ?_) U)
   first|refine Ae (Aa U) (fun c22=> ?_) (fun c22=> ?_)|refine Ah (Aa U) (fun c22=> ?_) (fun c22=> ?_)
   ·have heq:(gd fl k).nm=nm:=nm_eq.1 c22;refine rC tb 4 U (y_ (Np U U runUnderlying22 sizeOf127 qom (by first|exact rfl|exact(hA k (gd fl k) (Ce qom)).1)) ?_ U);refine y_ (Nn U isAgg127 sizeOf127 U (by first|exact(hA.mono (by exact sbt)).cs (i:=k) qom|exact As)) ?_ U
    first|refine A5 (Nq U U sizeOf127) U Ac ?_
    rintro _ _ ⟨rfl,rfl⟩;refine rO tb 6 U (Bc (rX tb 2 U (Ak U (.cellA (Aa U) isAgg127 sizeOf127 U (by first|exact As) (Nk U)) ?_)));exact⟨_,⟨by unfold fndFd;rw[if_neg hp,hix,Ie qom,if_pos heq];rfl,rfl⟩,sbt⟩
   ·have hne: ¬ (gd fl k).nm=nm:=fun e=>c22 (nm_eq.2 e)
    refine rC tb 5 U (y_ (A8 (T U) An qom) ?_ U);refine rO tb 2 U ?_;refine A6 (k+1) ?_ ?_ ⟨atd,trivial⟩ ⟨Aa U,Aa U,Aa U,trivial⟩ ?_
    ·exact⟨by omega,by rw[hix,Ie qom,if_neg hne]⟩
    ·first|omega|(simp only[];omega)
    ·exact sbt
  ·obtain rfl:k=fl.length:=by have h9: ¬ ((k:Nat):Int)<(fl.length:Nat):=c13;omega
   refine rC tb 2 U (Ax (rX tb 4 U (y_ (Bd .nil (zbd67_z)) ?_ U)))
   first|refine A5 (Nq U U sizeOf127) U Ac ?_
   rintro _ _ ⟨rfl,rfl⟩;refine rO tb 4 U (Ak U (.cellA (Aa U) isAgg127 sizeOf127 U (by first|exact As) (Nk U)) ?_);exact⟨_,⟨by unfold fndFd;rw[if_neg hp,hix,List.drop_length];rfl,rfl⟩,sbt⟩
theorem pow_step (k:Nat):2 ^ k*2=2 ^ (k+1):=(Nat.pow_succ 2 k).symm
theorem yl_dbl {P:Program}{w0:World}{L:Fm}{H:List (Nat × Obj)}{ty xt yt:TypeId}{x y:Operand}{k:Nat}(hx:Ev L x (.int .i64 ((2 ^ k:Nat):Int)))(hy:Ev L y (.int .i64 2))(hk:k<16):Yl P w0 (.binOp .mul xt x y yt) ty L H (.int .i64 ((2 ^ (k+1):Nat):Int)):=by
 have h1:2 ^ k≤2 ^ 16:=Nat.pow_le_pow_right qom qom;have h:=yl_mul2 (P:=P) (w0:=w0) (H:=H) (ty:=ty) (xt:=xt) (yt:=yt) hx hy qom
 rwa [pow_step] at h
theorem rpower_s {w0:World}{H:List (Nat × Obj)}(n:Nat)(hn:n≤16):
  FSpec Tryz.prog w0 152 #[.int .i64 (n:Nat)] H (Still (.int .i64 ((2 ^ n:Nat):Int)) H):=by
 refine Au Tryz.func152 U ntmps152 U (rD tb 17 U ?_);refine H5 (X:=Nat) (V:=fun k=>[(3, .int .i64 ((2 ^ k:Nat):Int)),(4, .int .i64 (k:Nat))]) (C:=[(0,_)]) (φ:=fun k=>k≤n) (μ:=fun k=>n - k) (x0:=0) ?_ ⟨Aa U,trivial⟩ ⟨atd,atd,trivial⟩ ?_
 ·exact Nat.zero_le _
 rintro k hk;refine rD tb 8 U ?_
 first|refine Ae (Aa U) (fun c7=> ?_) (fun c7=> ?_)|refine Ah (Aa U) (fun c7=> ?_) (fun c7=> ?_)
 ·have hk2:k<n:=by have h9:((k:Nat):Int)<(n:Nat):=c7;omega
  refine rC tb 6 U (y_ (yl_dbl (T U) An (by have h9:((k:Nat):Int)<(n:Nat):=c7;omega)) ?_ U);refine rO tb 6 U (y_ (A8 (T U) An qom) ?_ U);refine rO tb 2 U ?_;refine A6 (k+1) ?_ ?_ ⟨atd,atd,trivial⟩ ⟨Aa U,trivial⟩ ?_
  ·omega
  ·first|omega|(simp only[];omega)
  ·exact sbt
 ·obtain rfl:k=n:=by have h9: ¬ ((k:Nat):Int)<(n:Nat):=c7;omega
  refine rC tb 2 U (Ax (rX tb 9 U (Ak U (Nk U) ?_)));exact⟨_,⟨rfl,rfl⟩,sbt⟩
theorem H3 {w0:World}{H:List (Nat × Obj)}(f:Fd)(hf:f.w≤16):
  FSpec Tryz.prog w0 112 #[.agg (encF f).toArray] H (Still (.int .i64 (((2 ^ f.w:Nat):Int) - 1)) H):=by
 refine Au Tryz.func112 U ntmps112 U (rD tb 2 U (e_ (Nr U cs_) ?_ U));rintro _ _ ⟨n1,rfl,rfl⟩;refine rO tb 6 U (y_ (Nl U isAgg3 (by first|exact c_o)) ?_ U);refine y_ (Aw (qe1 U) call152 (fun H' hs=>rpower_s f.w hf)) (y_ (Jz (T U) An (by have h1:2 ^ f.w≤2 ^ 16:=Nat.pow_le_pow_right qom hf;revert h1;generalize 2 ^ f.w=p;intro h1;omega)) ?_ U) U;refine rO tb 4 U (Ak U (Nk U) ?_);exact⟨_,⟨rfl,rfl⟩,sbt⟩
theorem pow_c (w:Nat):((2 ^ w:Nat):Int)=(2:Int) ^ w:=by simp
abbrev SayE (p:Prop) (H:List (Nat × Obj)):Value→List (Nat × Obj)→Prop:=fun u H'=>∃ e:Int,(u= .int .i64 e∧(e=0→p))∧H'=H
abbrev FlA (w0:World) (H:List (Nat × Obj)) (q:Option Addr) (fl:List Fd):Prop:=Arr w0 H q 3 encF fl
theorem Cb {fl:List Fd}{m:Pdm}(hfd:(fndFd fl m.nm).2=true)(h1: ¬ m.kind=5→m.val≤((2 ^ (fndFd fl m.nm).1.w:Nat):Int) - 1)(h2:m.kind=5→m.to≤((2 ^ (fndFd fl m.nm).1.w:Nat):Int) - 1)(h4:m.kind=4→m.to≤(fndFd fl m.nm).1.w):FitP fl m:=by
 rw[pow_c] at h1 h2;exact⟨fun hk=>⟨hfd,h1 qom,h4⟩,fun hk=>⟨hfd,h2 hk⟩⟩
theorem fitsP_s {w0:World}{H:List (Nat × Obj)}(fl:List Fd)(hfl:FlOk fl)(q:Option Addr)(c:Nat)(hA:FlA w0 H q fl)(m:Pdm):
  FSpec Tryz.prog w0 162 #[.slice q fl.length c, .agg (encPd m).toArray] H (SayE (FitP fl m) H):=by
 refine Au Tryz.func162 U ntmps162 U ?_;have hfew:=hfl.few;refine rD tb 2 U (e_ (Nr U cs_) ?_ U);rintro _ _ ⟨n3,rfl,rfl⟩;refine rO tb 7 U (y_ (Nl U isAgg3 (by first|exact c_o)) ?_ U);refine rO tb 2 U ?_
 first|refine Av (s:=11) (Aa U) (fun c11=> ?_) (fun c11=> ?_)|refine A7 (s:=11) (Aa U) (fun c11=> ?_) (fun c11=> ?_)
 ·refine rO tb 1 U (A9 (Nl U isAgg3 (by first|exact c_o)) U (Bg U U (Aa U)) ?_);refine rO tb 3 U ?_
  first|refine Av (s:=16) (Aa U) (fun c16=> ?_) (fun c16=> ?_)|refine A7 (s:=16) (Aa U) (fun c16=> ?_) (fun c16=> ?_)
  ·refine rO tb 1 U (A9 (Nl U isAgg3 (by first|exact c_o)) U (Bg U U (Aa U)) ?_);refine rO tb 4 U ?_
   first|refine Ae (Aa U) (fun c20=> ?_) (fun c20=> ?_)|refine Ah (Aa U) (fun c20=> ?_) (fun c20=> ?_)
   ·refine rC tb 7 U (Ak U (Nk U) ?_)
    first|exact⟨_,⟨_,⟨rfl,fun h=>absurd h qde⟩,rfl⟩,sbt⟩|exact⟨_,⟨_,⟨rfl,fun _=>⟨fun hk=>by exfalso;omega,fun hk=>by exfalso;omega⟩⟩,rfl⟩,sbt⟩|exact⟨_,⟨_,⟨rfl,fun _=>Cb hfd (fun h5=>by generalize ((2 ^ (fndFd fl m.nm).1.w:Nat):Int)=P at *;omega) (fun h5=>by generalize ((2 ^ (fndFd fl m.nm).1.w:Nat):Int)=P at *;omega) (fun h4=>by omega)⟩,rfl⟩,sbt⟩
   ·refine rC tb 6 U (y_ (Nl U isAgg9 (by first|exact c_o)) ?_ U);refine y_ (Aw (qe2 U U) call82 (fun H' hs=>Ha fl q c (hA.mono (List.Sublist.trans (by exact sbt) hs)) qom m.nm)) ?_ U;refine rO tb 3 U (e_ (Ai zeroValue127 cs_) ?_ U);rintro _ _ ⟨n5,rfl,rfl⟩
    first|refine A5 (Nq U U sizeOf127) U Ac ?_
    rintro _ _ ⟨rfl,rfl⟩;refine rO tb 7 U ?_
    first|refine A9 (B5 (T U)) U Ac ?_|refine A9 (B1 (T U)) U Ac ?_
    refine rO tb 2 U ?_
    first|refine Ae (Aa U) (fun c29=> ?_) (fun c29=> ?_)|refine Ah (Aa U) (fun c29=> ?_) (fun c29=> ?_)
    ·skip
     refine rC tb 7 U (Ak U (Nk U) ?_)
     first|exact⟨_,⟨_,⟨rfl,fun h=>absurd h qde⟩,rfl⟩,sbt⟩|exact⟨_,⟨_,⟨rfl,fun _=>⟨fun hk=>by exfalso;omega,fun hk=>by exfalso;omega⟩⟩,rfl⟩,sbt⟩|exact⟨_,⟨_,⟨rfl,fun _=>Cb hfd (fun h5=>by generalize ((2 ^ (fndFd fl m.nm).1.w:Nat):Int)=P at *;omega) (fun h5=>by generalize ((2 ^ (fndFd fl m.nm).1.w:Nat):Int)=P at *;omega) (fun h4=>by omega)⟩,rfl⟩,sbt⟩
    ·have hfd:(fndFd fl m.nm).2=true:=by simpa using c29
     refine rC tb 5 U (y_ (Nl U isAgg3 (by first|exact c_o)) ?_ U);refine kO tb 3 [3,5,7] rfl U (rG tb 4 U (y_ (Nl U isAgg3 (by first|exact c_o)) ?_ U));refine rO tb 3 U ?_
     first|refine Ae (Aa U) (fun c34=> ?_) (fun c34=> ?_)|refine Ah (Aa U) (fun c34=> ?_) (fun c34=> ?_)
     ·refine rC tb 2 U (y_ (Nl U isAgg3 (by first|exact c_o)) ?_ U);refine rO tb 7 U (y_ (Nn U isAgg127 sizeOf127 U (by first|exact As)) ?_ U);refine y_ (Aw (qe1 U) call112 (fun H' hs=>H3 _ (hfl.all _ (El hfd)).w16)) (rO tb 2 U ?_) U
      first|refine Av (s:=41) (Aa U) (fun c41=> ?_) (fun c41=> ?_)|refine A7 (s:=41) (Aa U) (fun c41=> ?_) (fun c41=> ?_)
      ·refine rO tb 21 U (Ak U (Nk U) ?_)
       first|exact⟨_,⟨_,⟨rfl,fun h=>absurd h qde⟩,rfl⟩,sbt⟩|exact⟨_,⟨_,⟨rfl,fun _=>⟨fun hk=>by exfalso;omega,fun hk=>by exfalso;omega⟩⟩,rfl⟩,sbt⟩|exact⟨_,⟨_,⟨rfl,fun _=>Cb hfd (fun h5=>by generalize ((2 ^ (fndFd fl m.nm).1.w:Nat):Int)=P at *;omega) (fun h5=>by generalize ((2 ^ (fndFd fl m.nm).1.w:Nat):Int)=P at *;omega) (fun h4=>by omega)⟩,rfl⟩,sbt⟩
      ·refine rO tb 1 U (A9 (Nl U isAgg3 (by first|exact c_o)) U (Bg U U (Aa U)) ?_);refine rO tb 2 U ?_
       first|refine Av (s:=45) (Aa U) (fun c45=> ?_) (fun c45=> ?_)|refine A7 (s:=45) (Aa U) (fun c45=> ?_) (fun c45=> ?_)
       ·refine rO tb 1 U (A9 (Nl U isAgg3 (by first|exact c_o)) U (Bg U U (Aa U)) ?_);refine rO tb 1 U (A9 (Nl U isAgg3 (by first|exact c_o)) U (Bg U U (Aa U)) ?_);refine rO tb 5 U ?_
        first|refine Ae (Aa U) (fun c52=> ?_) (fun c52=> ?_)|refine Ah (Aa U) (fun c52=> ?_) (fun c52=> ?_)
        ·refine rC tb 7 U (Ak U (Nk U) ?_)
         first|exact⟨_,⟨_,⟨rfl,fun h=>absurd h qde⟩,rfl⟩,sbt⟩|exact⟨_,⟨_,⟨rfl,fun _=>⟨fun hk=>by exfalso;omega,fun hk=>by exfalso;omega⟩⟩,rfl⟩,sbt⟩|exact⟨_,⟨_,⟨rfl,fun _=>Cb hfd (fun h5=>by generalize ((2 ^ (fndFd fl m.nm).1.w:Nat):Int)=P at *;omega) (fun h5=>by generalize ((2 ^ (fndFd fl m.nm).1.w:Nat):Int)=P at *;omega) (fun h4=>by omega)⟩,rfl⟩,sbt⟩
        ·refine rC tb 8 U (Ak U (Nk U) ?_)
         first|exact⟨_,⟨_,⟨rfl,fun h=>absurd h qde⟩,rfl⟩,sbt⟩|exact⟨_,⟨_,⟨rfl,fun _=>⟨fun hk=>by exfalso;omega,fun hk=>by exfalso;omega⟩⟩,rfl⟩,sbt⟩|exact⟨_,⟨_,⟨rfl,fun _=>Cb hfd (fun h5=>by generalize ((2 ^ (fndFd fl m.nm).1.w:Nat):Int)=P at *;omega) (fun h5=>by generalize ((2 ^ (fndFd fl m.nm).1.w:Nat):Int)=P at *;omega) (fun h4=>by omega)⟩,rfl⟩,sbt⟩
       ·refine rO tb 18 U (Ak U (Nk U) ?_)
        first|exact⟨_,⟨_,⟨rfl,fun h=>absurd h qde⟩,rfl⟩,sbt⟩|exact⟨_,⟨_,⟨rfl,fun _=>⟨fun hk=>by exfalso;omega,fun hk=>by exfalso;omega⟩⟩,rfl⟩,sbt⟩|exact⟨_,⟨_,⟨rfl,fun _=>Cb hfd (fun h5=>by generalize ((2 ^ (fndFd fl m.nm).1.w:Nat):Int)=P at *;omega) (fun h5=>by generalize ((2 ^ (fndFd fl m.nm).1.w:Nat):Int)=P at *;omega) (fun h4=>by omega)⟩,rfl⟩,sbt⟩
     ·refine rC tb 6 U (y_ (Nn U isAgg127 sizeOf127 U (by first|exact As)) ?_ U);refine y_ (Aw (qe1 U) call112 (fun H' hs=>H3 _ (hfl.all _ (El hfd)).w16)) (rO tb 2 U ?_) U
      first|refine Av (s:=41) (Aa U) (fun c41=> ?_) (fun c41=> ?_)|refine A7 (s:=41) (Aa U) (fun c41=> ?_) (fun c41=> ?_)
      ·refine rO tb 21 U (Ak U (Nk U) ?_)
       first|exact⟨_,⟨_,⟨rfl,fun h=>absurd h qde⟩,rfl⟩,sbt⟩|exact⟨_,⟨_,⟨rfl,fun _=>⟨fun hk=>by exfalso;omega,fun hk=>by exfalso;omega⟩⟩,rfl⟩,sbt⟩|exact⟨_,⟨_,⟨rfl,fun _=>Cb hfd (fun h5=>by generalize ((2 ^ (fndFd fl m.nm).1.w:Nat):Int)=P at *;omega) (fun h5=>by generalize ((2 ^ (fndFd fl m.nm).1.w:Nat):Int)=P at *;omega) (fun h4=>by omega)⟩,rfl⟩,sbt⟩
      ·refine rO tb 1 U (A9 (Nl U isAgg3 (by first|exact c_o)) U (Bg U U (Aa U)) ?_);refine rO tb 2 U ?_
       first|refine Av (s:=45) (Aa U) (fun c45=> ?_) (fun c45=> ?_)|refine A7 (s:=45) (Aa U) (fun c45=> ?_) (fun c45=> ?_)
       ·refine rO tb 1 U (A9 (Nl U isAgg3 (by first|exact c_o)) U (Bg U U (Aa U)) ?_);refine rO tb 1 U (A9 (Nl U isAgg3 (by first|exact c_o)) U (Bg U U (Aa U)) ?_);refine rO tb 5 U ?_
        first|refine Ae (Aa U) (fun c52=> ?_) (fun c52=> ?_)|refine Ah (Aa U) (fun c52=> ?_) (fun c52=> ?_)
        ·refine rC tb 7 U (Ak U (Nk U) ?_)
         first|exact⟨_,⟨_,⟨rfl,fun h=>absurd h qde⟩,rfl⟩,sbt⟩|exact⟨_,⟨_,⟨rfl,fun _=>⟨fun hk=>by exfalso;omega,fun hk=>by exfalso;omega⟩⟩,rfl⟩,sbt⟩|exact⟨_,⟨_,⟨rfl,fun _=>Cb hfd (fun h5=>by generalize ((2 ^ (fndFd fl m.nm).1.w:Nat):Int)=P at *;omega) (fun h5=>by generalize ((2 ^ (fndFd fl m.nm).1.w:Nat):Int)=P at *;omega) (fun h4=>by omega)⟩,rfl⟩,sbt⟩
        ·refine rC tb 8 U (Ak U (Nk U) ?_)
         first|exact⟨_,⟨_,⟨rfl,fun h=>absurd h qde⟩,rfl⟩,sbt⟩|exact⟨_,⟨_,⟨rfl,fun _=>⟨fun hk=>by exfalso;omega,fun hk=>by exfalso;omega⟩⟩,rfl⟩,sbt⟩|exact⟨_,⟨_,⟨rfl,fun _=>Cb hfd (fun h5=>by generalize ((2 ^ (fndFd fl m.nm).1.w:Nat):Int)=P at *;omega) (fun h5=>by generalize ((2 ^ (fndFd fl m.nm).1.w:Nat):Int)=P at *;omega) (fun h4=>by omega)⟩,rfl⟩,sbt⟩
       ·refine rO tb 18 U (Ak U (Nk U) ?_)
        first|exact⟨_,⟨_,⟨rfl,fun h=>absurd h qde⟩,rfl⟩,sbt⟩|exact⟨_,⟨_,⟨rfl,fun _=>⟨fun hk=>by exfalso;omega,fun hk=>by exfalso;omega⟩⟩,rfl⟩,sbt⟩|exact⟨_,⟨_,⟨rfl,fun _=>Cb hfd (fun h5=>by generalize ((2 ^ (fndFd fl m.nm).1.w:Nat):Int)=P at *;omega) (fun h5=>by generalize ((2 ^ (fndFd fl m.nm).1.w:Nat):Int)=P at *;omega) (fun h4=>by omega)⟩,rfl⟩,sbt⟩
  ·refine rO tb 13 U (y_ (Nl U isAgg9 (by first|exact c_o)) ?_ U);refine y_ (Aw (qe2 U U) call82 (fun H' hs=>Ha fl q c (hA.mono (List.Sublist.trans (by exact sbt) hs)) qom m.nm)) ?_ U;refine rO tb 3 U (e_ (Ai zeroValue127 cs_) ?_ U);rintro _ _ ⟨n5,rfl,rfl⟩
   first|refine A5 (Nq U U sizeOf127) U Ac ?_
   rintro _ _ ⟨rfl,rfl⟩;refine rO tb 7 U ?_
   first|refine A9 (B5 (T U)) U Ac ?_|refine A9 (B1 (T U)) U Ac ?_
   refine rO tb 2 U ?_
   first|refine Ae (Aa U) (fun c29=> ?_) (fun c29=> ?_)|refine Ah (Aa U) (fun c29=> ?_) (fun c29=> ?_)
   ·skip
    refine rC tb 7 U (Ak U (Nk U) ?_)
    first|exact⟨_,⟨_,⟨rfl,fun h=>absurd h qde⟩,rfl⟩,sbt⟩|exact⟨_,⟨_,⟨rfl,fun _=>⟨fun hk=>by exfalso;omega,fun hk=>by exfalso;omega⟩⟩,rfl⟩,sbt⟩|exact⟨_,⟨_,⟨rfl,fun _=>Cb hfd (fun h5=>by generalize ((2 ^ (fndFd fl m.nm).1.w:Nat):Int)=P at *;omega) (fun h5=>by generalize ((2 ^ (fndFd fl m.nm).1.w:Nat):Int)=P at *;omega) (fun h4=>by omega)⟩,rfl⟩,sbt⟩
   ·have hfd:(fndFd fl m.nm).2=true:=by simpa using c29
    refine rC tb 5 U (y_ (Nl U isAgg3 (by first|exact c_o)) ?_ U);refine kO tb 3 [3,5,7] rfl U (rG tb 4 U (y_ (Nl U isAgg3 (by first|exact c_o)) ?_ U));refine rO tb 3 U ?_
    first|refine Ae (Aa U) (fun c34=> ?_) (fun c34=> ?_)|refine Ah (Aa U) (fun c34=> ?_) (fun c34=> ?_)
    ·refine rC tb 2 U (y_ (Nl U isAgg3 (by first|exact c_o)) ?_ U);refine rO tb 7 U (y_ (Nn U isAgg127 sizeOf127 U (by first|exact As)) ?_ U);refine y_ (Aw (qe1 U) call112 (fun H' hs=>H3 _ (hfl.all _ (El hfd)).w16)) (rO tb 2 U ?_) U
     first|refine Av (s:=41) (Aa U) (fun c41=> ?_) (fun c41=> ?_)|refine A7 (s:=41) (Aa U) (fun c41=> ?_) (fun c41=> ?_)
     ·refine rO tb 21 U (Ak U (Nk U) ?_)
      first|exact⟨_,⟨_,⟨rfl,fun h=>absurd h qde⟩,rfl⟩,sbt⟩|exact⟨_,⟨_,⟨rfl,fun _=>⟨fun hk=>by exfalso;omega,fun hk=>by exfalso;omega⟩⟩,rfl⟩,sbt⟩|exact⟨_,⟨_,⟨rfl,fun _=>Cb hfd (fun h5=>by generalize ((2 ^ (fndFd fl m.nm).1.w:Nat):Int)=P at *;omega) (fun h5=>by generalize ((2 ^ (fndFd fl m.nm).1.w:Nat):Int)=P at *;omega) (fun h4=>by omega)⟩,rfl⟩,sbt⟩
     ·refine rO tb 1 U (A9 (Nl U isAgg3 (by first|exact c_o)) U (Bg U U (Aa U)) ?_);refine rO tb 2 U ?_
      first|refine Av (s:=45) (Aa U) (fun c45=> ?_) (fun c45=> ?_)|refine A7 (s:=45) (Aa U) (fun c45=> ?_) (fun c45=> ?_)
      ·refine rO tb 1 U (A9 (Nl U isAgg3 (by first|exact c_o)) U (Bg U U (Aa U)) ?_);refine rO tb 1 U (A9 (Nl U isAgg3 (by first|exact c_o)) U (Bg U U (Aa U)) ?_);refine rO tb 5 U ?_
       first|refine Ae (Aa U) (fun c52=> ?_) (fun c52=> ?_)|refine Ah (Aa U) (fun c52=> ?_) (fun c52=> ?_)
       ·refine rC tb 7 U (Ak U (Nk U) ?_)
        first|exact⟨_,⟨_,⟨rfl,fun h=>absurd h qde⟩,rfl⟩,sbt⟩|exact⟨_,⟨_,⟨rfl,fun _=>⟨fun hk=>by exfalso;omega,fun hk=>by exfalso;omega⟩⟩,rfl⟩,sbt⟩|exact⟨_,⟨_,⟨rfl,fun _=>Cb hfd (fun h5=>by generalize ((2 ^ (fndFd fl m.nm).1.w:Nat):Int)=P at *;omega) (fun h5=>by generalize ((2 ^ (fndFd fl m.nm).1.w:Nat):Int)=P at *;omega) (fun h4=>by omega)⟩,rfl⟩,sbt⟩
       ·refine rC tb 8 U (Ak U (Nk U) ?_)
        first|exact⟨_,⟨_,⟨rfl,fun h=>absurd h qde⟩,rfl⟩,sbt⟩|exact⟨_,⟨_,⟨rfl,fun _=>⟨fun hk=>by exfalso;omega,fun hk=>by exfalso;omega⟩⟩,rfl⟩,sbt⟩|exact⟨_,⟨_,⟨rfl,fun _=>Cb hfd (fun h5=>by generalize ((2 ^ (fndFd fl m.nm).1.w:Nat):Int)=P at *;omega) (fun h5=>by generalize ((2 ^ (fndFd fl m.nm).1.w:Nat):Int)=P at *;omega) (fun h4=>by omega)⟩,rfl⟩,sbt⟩
      ·refine rO tb 18 U (Ak U (Nk U) ?_)
       first|exact⟨_,⟨_,⟨rfl,fun h=>absurd h qde⟩,rfl⟩,sbt⟩|exact⟨_,⟨_,⟨rfl,fun _=>⟨fun hk=>by exfalso;omega,fun hk=>by exfalso;omega⟩⟩,rfl⟩,sbt⟩|exact⟨_,⟨_,⟨rfl,fun _=>Cb hfd (fun h5=>by generalize ((2 ^ (fndFd fl m.nm).1.w:Nat):Int)=P at *;omega) (fun h5=>by generalize ((2 ^ (fndFd fl m.nm).1.w:Nat):Int)=P at *;omega) (fun h4=>by omega)⟩,rfl⟩,sbt⟩
    ·refine rC tb 6 U (y_ (Nn U isAgg127 sizeOf127 U (by first|exact As)) ?_ U);refine y_ (Aw (qe1 U) call112 (fun H' hs=>H3 _ (hfl.all _ (El hfd)).w16)) (rO tb 2 U ?_) U
     first|refine Av (s:=41) (Aa U) (fun c41=> ?_) (fun c41=> ?_)|refine A7 (s:=41) (Aa U) (fun c41=> ?_) (fun c41=> ?_)
     ·refine rO tb 21 U (Ak U (Nk U) ?_)
      first|exact⟨_,⟨_,⟨rfl,fun h=>absurd h qde⟩,rfl⟩,sbt⟩|exact⟨_,⟨_,⟨rfl,fun _=>⟨fun hk=>by exfalso;omega,fun hk=>by exfalso;omega⟩⟩,rfl⟩,sbt⟩|exact⟨_,⟨_,⟨rfl,fun _=>Cb hfd (fun h5=>by generalize ((2 ^ (fndFd fl m.nm).1.w:Nat):Int)=P at *;omega) (fun h5=>by generalize ((2 ^ (fndFd fl m.nm).1.w:Nat):Int)=P at *;omega) (fun h4=>by omega)⟩,rfl⟩,sbt⟩
     ·refine rO tb 1 U (A9 (Nl U isAgg3 (by first|exact c_o)) U (Bg U U (Aa U)) ?_);refine rO tb 2 U ?_
      first|refine Av (s:=45) (Aa U) (fun c45=> ?_) (fun c45=> ?_)|refine A7 (s:=45) (Aa U) (fun c45=> ?_) (fun c45=> ?_)
      ·refine rO tb 1 U (A9 (Nl U isAgg3 (by first|exact c_o)) U (Bg U U (Aa U)) ?_);refine rO tb 1 U (A9 (Nl U isAgg3 (by first|exact c_o)) U (Bg U U (Aa U)) ?_);refine rO tb 5 U ?_
       first|refine Ae (Aa U) (fun c52=> ?_) (fun c52=> ?_)|refine Ah (Aa U) (fun c52=> ?_) (fun c52=> ?_)
       ·refine rC tb 7 U (Ak U (Nk U) ?_)
        first|exact⟨_,⟨_,⟨rfl,fun h=>absurd h qde⟩,rfl⟩,sbt⟩|exact⟨_,⟨_,⟨rfl,fun _=>⟨fun hk=>by exfalso;omega,fun hk=>by exfalso;omega⟩⟩,rfl⟩,sbt⟩|exact⟨_,⟨_,⟨rfl,fun _=>Cb hfd (fun h5=>by generalize ((2 ^ (fndFd fl m.nm).1.w:Nat):Int)=P at *;omega) (fun h5=>by generalize ((2 ^ (fndFd fl m.nm).1.w:Nat):Int)=P at *;omega) (fun h4=>by omega)⟩,rfl⟩,sbt⟩
       ·refine rC tb 8 U (Ak U (Nk U) ?_)
        first|exact⟨_,⟨_,⟨rfl,fun h=>absurd h qde⟩,rfl⟩,sbt⟩|exact⟨_,⟨_,⟨rfl,fun _=>⟨fun hk=>by exfalso;omega,fun hk=>by exfalso;omega⟩⟩,rfl⟩,sbt⟩|exact⟨_,⟨_,⟨rfl,fun _=>Cb hfd (fun h5=>by generalize ((2 ^ (fndFd fl m.nm).1.w:Nat):Int)=P at *;omega) (fun h5=>by generalize ((2 ^ (fndFd fl m.nm).1.w:Nat):Int)=P at *;omega) (fun h4=>by omega)⟩,rfl⟩,sbt⟩
      ·refine rO tb 18 U (Ak U (Nk U) ?_)
       first|exact⟨_,⟨_,⟨rfl,fun h=>absurd h qde⟩,rfl⟩,sbt⟩|exact⟨_,⟨_,⟨rfl,fun _=>⟨fun hk=>by exfalso;omega,fun hk=>by exfalso;omega⟩⟩,rfl⟩,sbt⟩|exact⟨_,⟨_,⟨rfl,fun _=>Cb hfd (fun h5=>by generalize ((2 ^ (fndFd fl m.nm).1.w:Nat):Int)=P at *;omega) (fun h5=>by generalize ((2 ^ (fndFd fl m.nm).1.w:Nat):Int)=P at *;omega) (fun h4=>by omega)⟩,rfl⟩,sbt⟩
 ·refine rO tb 18 U (y_ (Nl U isAgg9 (by first|exact c_o)) ?_ U);refine y_ (Aw (qe2 U U) call82 (fun H' hs=>Ha fl q c (hA.mono (List.Sublist.trans (by exact sbt) hs)) qom m.nm)) ?_ U;refine rO tb 3 U (e_ (Ai zeroValue127 cs_) ?_ U);rintro _ _ ⟨n5,rfl,rfl⟩
  first|refine A5 (Nq U U sizeOf127) U Ac ?_
  rintro _ _ ⟨rfl,rfl⟩;refine rO tb 7 U ?_
  first|refine A9 (B5 (T U)) U Ac ?_|refine A9 (B1 (T U)) U Ac ?_
  refine rO tb 2 U ?_
  first|refine Ae (Aa U) (fun c29=> ?_) (fun c29=> ?_)|refine Ah (Aa U) (fun c29=> ?_) (fun c29=> ?_)
  ·skip
   refine rC tb 7 U (Ak U (Nk U) ?_)
   first|exact⟨_,⟨_,⟨rfl,fun h=>absurd h qde⟩,rfl⟩,sbt⟩|exact⟨_,⟨_,⟨rfl,fun _=>⟨fun hk=>by exfalso;omega,fun hk=>by exfalso;omega⟩⟩,rfl⟩,sbt⟩|exact⟨_,⟨_,⟨rfl,fun _=>Cb hfd (fun h5=>by generalize ((2 ^ (fndFd fl m.nm).1.w:Nat):Int)=P at *;omega) (fun h5=>by generalize ((2 ^ (fndFd fl m.nm).1.w:Nat):Int)=P at *;omega) (fun h4=>by omega)⟩,rfl⟩,sbt⟩
  ·have hfd:(fndFd fl m.nm).2=true:=by simpa using c29
   refine rC tb 5 U (y_ (Nl U isAgg3 (by first|exact c_o)) ?_ U);refine kO tb 3 [3,5,7] rfl U (rG tb 4 U (y_ (Nl U isAgg3 (by first|exact c_o)) ?_ U));refine rO tb 3 U ?_
   first|refine Ae (Aa U) (fun c34=> ?_) (fun c34=> ?_)|refine Ah (Aa U) (fun c34=> ?_) (fun c34=> ?_)
   ·refine rC tb 2 U (y_ (Nl U isAgg3 (by first|exact c_o)) ?_ U);refine rO tb 7 U (y_ (Nn U isAgg127 sizeOf127 U (by first|exact As)) ?_ U);refine y_ (Aw (qe1 U) call112 (fun H' hs=>H3 _ (hfl.all _ (El hfd)).w16)) (rO tb 2 U ?_) U
    first|refine Av (s:=41) (Aa U) (fun c41=> ?_) (fun c41=> ?_)|refine A7 (s:=41) (Aa U) (fun c41=> ?_) (fun c41=> ?_)
    ·refine rO tb 21 U (Ak U (Nk U) ?_)
     first|exact⟨_,⟨_,⟨rfl,fun h=>absurd h qde⟩,rfl⟩,sbt⟩|exact⟨_,⟨_,⟨rfl,fun _=>⟨fun hk=>by exfalso;omega,fun hk=>by exfalso;omega⟩⟩,rfl⟩,sbt⟩|exact⟨_,⟨_,⟨rfl,fun _=>Cb hfd (fun h5=>by generalize ((2 ^ (fndFd fl m.nm).1.w:Nat):Int)=P at *;omega) (fun h5=>by generalize ((2 ^ (fndFd fl m.nm).1.w:Nat):Int)=P at *;omega) (fun h4=>by omega)⟩,rfl⟩,sbt⟩
    ·refine rO tb 1 U (A9 (Nl U isAgg3 (by first|exact c_o)) U (Bg U U (Aa U)) ?_);refine rO tb 2 U ?_
     first|refine Av (s:=45) (Aa U) (fun c45=> ?_) (fun c45=> ?_)|refine A7 (s:=45) (Aa U) (fun c45=> ?_) (fun c45=> ?_)
     ·refine rO tb 1 U (A9 (Nl U isAgg3 (by first|exact c_o)) U (Bg U U (Aa U)) ?_);refine rO tb 1 U (A9 (Nl U isAgg3 (by first|exact c_o)) U (Bg U U (Aa U)) ?_);refine rO tb 5 U ?_
      first|refine Ae (Aa U) (fun c52=> ?_) (fun c52=> ?_)|refine Ah (Aa U) (fun c52=> ?_) (fun c52=> ?_)
      ·refine rC tb 7 U (Ak U (Nk U) ?_)
       first|exact⟨_,⟨_,⟨rfl,fun h=>absurd h qde⟩,rfl⟩,sbt⟩|exact⟨_,⟨_,⟨rfl,fun _=>⟨fun hk=>by exfalso;omega,fun hk=>by exfalso;omega⟩⟩,rfl⟩,sbt⟩|exact⟨_,⟨_,⟨rfl,fun _=>Cb hfd (fun h5=>by generalize ((2 ^ (fndFd fl m.nm).1.w:Nat):Int)=P at *;omega) (fun h5=>by generalize ((2 ^ (fndFd fl m.nm).1.w:Nat):Int)=P at *;omega) (fun h4=>by omega)⟩,rfl⟩,sbt⟩
      ·refine rC tb 8 U (Ak U (Nk U) ?_)
       first|exact⟨_,⟨_,⟨rfl,fun h=>absurd h qde⟩,rfl⟩,sbt⟩|exact⟨_,⟨_,⟨rfl,fun _=>⟨fun hk=>by exfalso;omega,fun hk=>by exfalso;omega⟩⟩,rfl⟩,sbt⟩|exact⟨_,⟨_,⟨rfl,fun _=>Cb hfd (fun h5=>by generalize ((2 ^ (fndFd fl m.nm).1.w:Nat):Int)=P at *;omega) (fun h5=>by generalize ((2 ^ (fndFd fl m.nm).1.w:Nat):Int)=P at *;omega) (fun h4=>by omega)⟩,rfl⟩,sbt⟩
     ·refine rO tb 18 U (Ak U (Nk U) ?_)
      first|exact⟨_,⟨_,⟨rfl,fun h=>absurd h qde⟩,rfl⟩,sbt⟩|exact⟨_,⟨_,⟨rfl,fun _=>⟨fun hk=>by exfalso;omega,fun hk=>by exfalso;omega⟩⟩,rfl⟩,sbt⟩|exact⟨_,⟨_,⟨rfl,fun _=>Cb hfd (fun h5=>by generalize ((2 ^ (fndFd fl m.nm).1.w:Nat):Int)=P at *;omega) (fun h5=>by generalize ((2 ^ (fndFd fl m.nm).1.w:Nat):Int)=P at *;omega) (fun h4=>by omega)⟩,rfl⟩,sbt⟩
   ·refine rC tb 6 U (y_ (Nn U isAgg127 sizeOf127 U (by first|exact As)) ?_ U);refine y_ (Aw (qe1 U) call112 (fun H' hs=>H3 _ (hfl.all _ (El hfd)).w16)) (rO tb 2 U ?_) U
    first|refine Av (s:=41) (Aa U) (fun c41=> ?_) (fun c41=> ?_)|refine A7 (s:=41) (Aa U) (fun c41=> ?_) (fun c41=> ?_)
    ·refine rO tb 21 U (Ak U (Nk U) ?_)
     first|exact⟨_,⟨_,⟨rfl,fun h=>absurd h qde⟩,rfl⟩,sbt⟩|exact⟨_,⟨_,⟨rfl,fun _=>⟨fun hk=>by exfalso;omega,fun hk=>by exfalso;omega⟩⟩,rfl⟩,sbt⟩|exact⟨_,⟨_,⟨rfl,fun _=>Cb hfd (fun h5=>by generalize ((2 ^ (fndFd fl m.nm).1.w:Nat):Int)=P at *;omega) (fun h5=>by generalize ((2 ^ (fndFd fl m.nm).1.w:Nat):Int)=P at *;omega) (fun h4=>by omega)⟩,rfl⟩,sbt⟩
    ·refine rO tb 1 U (A9 (Nl U isAgg3 (by first|exact c_o)) U (Bg U U (Aa U)) ?_);refine rO tb 2 U ?_
     first|refine Av (s:=45) (Aa U) (fun c45=> ?_) (fun c45=> ?_)|refine A7 (s:=45) (Aa U) (fun c45=> ?_) (fun c45=> ?_)
     ·refine rO tb 1 U (A9 (Nl U isAgg3 (by first|exact c_o)) U (Bg U U (Aa U)) ?_);refine rO tb 1 U (A9 (Nl U isAgg3 (by first|exact c_o)) U (Bg U U (Aa U)) ?_);refine rO tb 5 U ?_
      first|refine Ae (Aa U) (fun c52=> ?_) (fun c52=> ?_)|refine Ah (Aa U) (fun c52=> ?_) (fun c52=> ?_)
      ·refine rC tb 7 U (Ak U (Nk U) ?_)
       first|exact⟨_,⟨_,⟨rfl,fun h=>absurd h qde⟩,rfl⟩,sbt⟩|exact⟨_,⟨_,⟨rfl,fun _=>⟨fun hk=>by exfalso;omega,fun hk=>by exfalso;omega⟩⟩,rfl⟩,sbt⟩|exact⟨_,⟨_,⟨rfl,fun _=>Cb hfd (fun h5=>by generalize ((2 ^ (fndFd fl m.nm).1.w:Nat):Int)=P at *;omega) (fun h5=>by generalize ((2 ^ (fndFd fl m.nm).1.w:Nat):Int)=P at *;omega) (fun h4=>by omega)⟩,rfl⟩,sbt⟩
      ·refine rC tb 8 U (Ak U (Nk U) ?_)
       first|exact⟨_,⟨_,⟨rfl,fun h=>absurd h qde⟩,rfl⟩,sbt⟩|exact⟨_,⟨_,⟨rfl,fun _=>⟨fun hk=>by exfalso;omega,fun hk=>by exfalso;omega⟩⟩,rfl⟩,sbt⟩|exact⟨_,⟨_,⟨rfl,fun _=>Cb hfd (fun h5=>by generalize ((2 ^ (fndFd fl m.nm).1.w:Nat):Int)=P at *;omega) (fun h5=>by generalize ((2 ^ (fndFd fl m.nm).1.w:Nat):Int)=P at *;omega) (fun h4=>by omega)⟩,rfl⟩,sbt⟩
     ·refine rO tb 18 U (Ak U (Nk U) ?_)
      first|exact⟨_,⟨_,⟨rfl,fun h=>absurd h qde⟩,rfl⟩,sbt⟩|exact⟨_,⟨_,⟨rfl,fun _=>⟨fun hk=>by exfalso;omega,fun hk=>by exfalso;omega⟩⟩,rfl⟩,sbt⟩|exact⟨_,⟨_,⟨rfl,fun _=>Cb hfd (fun h5=>by generalize ((2 ^ (fndFd fl m.nm).1.w:Nat):Int)=P at *;omega) (fun h5=>by generalize ((2 ^ (fndFd fl m.nm).1.w:Nat):Int)=P at *;omega) (fun h4=>by omega)⟩,rfl⟩,sbt⟩
theorem fitsAll_s {w0:World}{H:List (Nat × Obj)}(fl:List Fd)(hfl:FlOk fl)(q:Option Addr)(c:Nat)(hA:FlA w0 H q fl){m:Pdm}(hM:PdM w0 H m)(hm:m.sz≤1000000000):
  FSpec Tryz.prog w0 127 #[.slice q fl.length c, .agg (encPd m).toArray] H (SayE (∀ a∈prtP m,FitP fl a) H):=by
 refine Au Tryz.func127 U ntmps127 U ?_;have hpl:=Jr m;refine rD tb 2 U (e_ (Nr U cs_) ?_ U);rintro _ _ ⟨n3,rfl,rfl⟩;refine rO tb 5 U (y_ (Nn U isAgg25 sizeOf25 U (by first|exact As)) ?_ U);refine e_ (Al (qe1 U) call161 (prtP_s _ hm (hM.mono (by exact sbt)) (Nat.le_refl _))) ?_ U;rintro _ _ ⟨d,⟨rfl,hd⟩,rfl⟩;have hdA:Arr w0 (slH d ((prtP m).flatMap encPd) 25) (slQ d) 5 encPd (prtP m):=by have:=Cw (w0:=w0) (e:=25) (X:=[]) (enc:=encPd) (fun _=>rfl) hd;rwa [List.append_nil] at this
 refine rO tb 10 U ?_;refine Bj (X:=Nat) (V:=fun i=>[(6, .int .i64 (i:Nat))]) (C:=[(0,_),(5,_)]) (G:=fun i=>slH d ((prtP m).flatMap encPd) 25++((n3,Cl (encPd m) 25)::H)) (φ:=fun i=>i≤(prtP m).length∧∀ j,j<i→FitP fl (gd (prtP m) j)) (μ:=fun i=>(prtP m).length - i) (x0:=0) ?_ ⟨Aa U,Aa U,trivial⟩ ⟨atd,trivial⟩ sb0 ?_
 ·exact⟨Nat.zero_le _,fun j hj=>absurd hj (Nat.not_lt_zero _)⟩
 rintro i ⟨hi,hf⟩;refine rD tb 9 U ?_
 first|refine Ae (Aa U) (fun c13=> ?_) (fun c13=> ?_)|refine Ah (Aa U) (fun c13=> ?_) (fun c13=> ?_)
 ·have hi2:i<(prtP m).length:=by have h9:((i:Nat):Int)<((prtP m).length:Nat):=c13;omega
  refine rC tb 9 U (y_ (Np U U runUnderlying23 sizeOf25 qom (by first|exact rfl|exact hdA.b (i:=i) hi2)) ?_ U);refine y_ (Nn U isAgg25 sizeOf25 U (by first|exact(hdA.mono (by repeat (first|exact List.sublist_append_left _ _|refine List.Sublist.cons _ ?_))).cs (i:=i) hi2|exact As)) ?_ U;refine e_ (Al (qe2 U U) call162 (fitsP_s fl hfl q c (hA.mono (by exact sbt)) (gd (prtP m) i))) ?_ U;rintro _ _ ⟨e1,⟨rfl,he1⟩,rfl⟩;refine rO tb 9 U ?_
  first|refine Ae (Aa U) (fun c23=> ?_) (fun c23=> ?_)|refine Ah (Aa U) (fun c23=> ?_) (fun c23=> ?_)
  ·skip
   refine rC tb 9 U (Bc (rX tb 2 U (Ak U (Nk U) ?_)));exact⟨_,⟨e1,⟨rfl,fun h=>absurd h c23⟩,rfl⟩,by exact sbt⟩
  ·have he0:e1=0:=Classical.not_not.1 c23;refine rC tb 5 U (y_ (A8 (T U) An qom) ?_ U);refine rO tb 2 U ?_;refine A6 (i+1) ?_ ?_ ⟨atd,trivial⟩ ⟨Aa U,Aa U,trivial⟩ ?_
   ·refine⟨hi2,fun j hj=> ?_⟩
    by_cases e:j=i
    ·subst e;exact he1 he0
    ·exact hf j qom
   ·first|omega|(simp only[];omega)
   ·exact sbt
 ·obtain rfl:i=(prtP m).length:=by have h9: ¬ ((i:Nat):Int)<((prtP m).length:Nat):=c13;omega
  refine rC tb 2 U (Ax (rX tb 8 U (Ak U (Nk U) ?_)));exact⟨_,⟨0,⟨rfl,fun _=>Dq hf⟩,rfl⟩,by exact sbt⟩
theorem Gb {fl:List Fd}{m:Pom}(h1:m.kind=1→∀ a∈prtP m.pr,FitP fl a)(h2:m.kind=2→(fndFd fl m.nm).2=true∧m.n≤((2 ^ (fndFd fl m.nm).1.w:Nat):Int) - 1):FitO fl m:=⟨h1,fun hk=>by have:=h2 hk;rw[pow_c] at this;exact this⟩
theorem po_prc {w0:World}{H:List (Nat × Obj)}{b o:Nat}{m:Pom}(h:Cells w0 H b o (encPo m)):Cells w0 H b (o+1) (encPd m.pr):=fun i v hi=>by
 have hl:=(List.getElem?_eq_some_iff.1 hi).1;have:=h (1+i) v (by
  show (.int .i64 m.kind::(encPd m.pr++[.string m.nm, .int .i64 m.n, .slice m.q m.subs.length m.cap]):List Value)[1+i]? =some v;rw[show 1+i=i+1 by omega,List.getElem?_cons_succ,List.getElem?_append_left hl];exact hi)
 rwa [← Nat.add_assoc] at this
theorem rpolicy_s {w0:World}{H:List (Nat × Obj)}(fl:List Fd)(hfl:FlOk fl)(q:Option Addr)(c:Nat)(hA:FlA w0 H q fl){m:Pom}(hM:PoM w0 H m)(hm:m.sz≤1000000000)(hz:NmO m):
  FSpec Tryz.prog w0 80 #[.slice q fl.length c, .agg (encPo m).toArray] H (SayE (m.nd≤200∧FmO m∧∀ a∈prtO m,FitO fl a) H):=by
 refine Au Tryz.func80 U ntmps80 U ?_;have hpl:=prtO_len m;have hfew:=hfl.few;refine rD tb 2 U (e_ (Nr U cs_) ?_ U);rintro _ _ ⟨n3,rfl,rfl⟩;refine rO tb 5 U (y_ (Nn U isAgg28 sizeOf28 U (by first|exact As)) ?_ U);refine e_ (Al (qe1 U) call125 (checkO_s (hM.mono (by exact sbt)) hm hz)) ?_ U;rintro _ _ ⟨e1,⟨rfl,he1⟩,rfl⟩;refine rO tb 10 U ?_
 first|refine Ae (Aa U) (fun c13=> ?_) (fun c13=> ?_)|refine Ah (Aa U) (fun c13=> ?_) (fun c13=> ?_)
 ·skip
  refine rC tb 8 U (Ak U (Nk U) ?_)
  first|exact⟨_,⟨_,⟨rfl,fun h=>absurd h qde⟩,rfl⟩,by exact sbt⟩|exact⟨_,⟨_,⟨rfl,fun h=>absurd h (by assumption)⟩,rfl⟩,by exact sbt⟩|exact⟨_,⟨0,⟨rfl,fun _=>⟨hnd,hfo,Dq hf⟩⟩,rfl⟩,by exact sbt⟩
 ·obtain⟨hnd,hfo⟩:=he1 (Classical.not_not.1 c13);refine rC tb 4 U (y_ (Nn U isAgg28 sizeOf28 U (by first|exact As)) ?_ U);refine e_ (Al (qe1 U) call126 (prtO_s _ hm (hM.mono (by exact sbt)) (Nat.le_refl _))) ?_ U;rintro _ _ ⟨d,⟨rfl,hd⟩,rfl⟩;have hdA:Arr w0 (slH d ((prtO m).flatMap encPo) 28) (slQ d) 9 encPo (prtO m):=by have:=Cw (w0:=w0) (e:=28) (X:=[]) (enc:=encPo) (fun _=>rfl) hd;rwa [List.append_nil] at this
  refine rO tb 10 U ?_;refine Bj (X:=Nat) (V:=fun i=>[(7, .int .i64 (i:Nat)),(5, .int .i64 0)]) (C:=[(0,_),(6,_)]) (G:=fun i=>slH d ((prtO m).flatMap encPo) 28++((n3,Cl (encPo m) 28)::H)) (φ:=fun i=>i≤(prtO m).length∧∀ j,j<i→FitO fl (gd (prtO m) j)) (μ:=fun i=>(prtO m).length - i) (x0:=0) ?_ ⟨Aa U,Aa U,trivial⟩ ⟨(by first|exact Aa U|(refine Ag (Aa U) (vint ?_);omega)|(refine Ag (Aa U) ?_;simp;done)|(refine Ag (Aa U) ?_;exact vint (by first|omega|exact(Classical.not_not.1 c63)))),(by first|exact Aa U|(refine Ag (Aa U) (vint ?_);omega)|(refine Ag (Aa U) ?_;simp;done)|(refine Ag (Aa U) ?_;exact vint (by first|omega|exact(Classical.not_not.1 c63)))),trivial⟩ sb0 ?_
  ·exact⟨Nat.zero_le _,fun j hj=>absurd hj (Nat.not_lt_zero _)⟩
  rintro i ⟨hi,hf⟩;refine rD tb 9 U ?_
  first|refine Ae (Aa U) (fun c20=> ?_) (fun c20=> ?_)|refine Ah (Aa U) (fun c20=> ?_) (fun c20=> ?_)
  ·have hi2:i<(prtO m).length:=by have h9:((i:Nat):Int)<((prtO m).length:Nat):=c20;omega
   have hmi:=prtO_M hM _ (Ba hi2);have hms:=prtO_sz _ (Ba hi2);have hmz:=Dz (gd (prtO m) i);refine rC tb 9 U (y_ (Np U U runUnderlying26 sizeOf28 qom (by first|exact rfl|exact hdA.b (i:=i) hi2)) ?_ U);refine rO tb 1 U ?_;refine y_ (Nl U isAgg3 (by first|exact c_o|exact(hdA.mono (by repeat (first|exact List.sublist_append_left _ _|refine List.Sublist.cons _ ?_))).cs (i:=i) hi2 0 _ U)) ?_ U;refine rO tb 3 U ?_
   first|refine Ae (Aa U) (fun c28=> ?_) (fun c28=> ?_)|refine Ah (Aa U) (fun c28=> ?_) (fun c28=> ?_)
   ·refine rC tb 4 U (y_ (Np U U runUnderlying26 sizeOf28 qom (by first|exact rfl|exact hdA.b (i:=i) hi2)) ?_ U);refine rO tb 1 U ?_;refine y_ (Nn U isAgg25 sizeOf25 U (by first|exact po_prc ((hdA.mono (by repeat (first|exact List.sublist_append_left _ _|refine List.Sublist.cons _ ?_))).cs (i:=i) hi2)|exact As)) ?_ U;refine e_ (Al (qe2 U U) call127 (fitsAll_s fl hfl q c (hA.mono (by exact sbt)) (m:=(gd (prtO m) i).pr) ((hmi.pred).mono (by exact sbt)) qom)) ?_ U;rintro _ _ ⟨e2,⟨rfl,he2⟩,rfl⟩;refine rO tb 8 U (y_ (Np U U runUnderlying26 sizeOf28 qom (by first|exact rfl|exact hdA.b (i:=i) hi2)) ?_ U);refine rO tb 1 U ?_;refine y_ (Nl U isAgg3 (by first|exact c_o|exact(hdA.mono (by repeat (first|exact List.sublist_append_left _ _|refine List.Sublist.cons _ ?_))).cs (i:=i) hi2 0 _ U)) ?_ U;refine rO tb 3 U ?_
    first|refine Ae (Aa U) (fun c41=> ?_) (fun c41=> ?_)|refine Ah (Aa U) (fun c41=> ?_) (fun c41=> ?_)
    ·refine rC tb 5 U (y_ (Np U U runUnderlying26 sizeOf28 qom (by first|exact rfl|exact hdA.b (i:=i) hi2)) ?_ U);refine rO tb 1 U ?_;refine y_ (Nl U isAgg9 (by first|exact c_o|exact(hdA.mono (by repeat (first|exact List.sublist_append_left _ _|refine List.Sublist.cons _ ?_))).cs (i:=i) hi2 6 _ U)) ?_ U;refine y_ (Aw (qe2 U U) call82 (fun H' hs=>Ha fl q c (hA.mono (List.Sublist.trans (by exact sbt) hs)) qom (gd (prtO m) i).nm)) ?_ U;refine rO tb 3 U (e_ (Ai zeroValue127 cs_) ?_ U);rintro _ _ ⟨n8,rfl,rfl⟩
     first|refine A5 (Nq U U sizeOf127) U Ac ?_
     rintro _ _ ⟨rfl,rfl⟩;refine kO tb 3 [0,5,6,7,8,9] rfl U (rG tb 3 U ?_)
     first|refine A9 (B5 (T U)) U Ac ?_|refine A9 (B1 (T U)) U Ac ?_
     refine rO tb 2 U ?_
     first|refine Ae (Aa U) (fun c53=> ?_) (fun c53=> ?_)|refine Ah (Aa U) (fun c53=> ?_) (fun c53=> ?_)
     ·skip
      refine rC tb 10 U ?_
      first|refine Ae (Aa U) (fun c63=> ?_) (fun c63=> ?_)|refine Ah (Aa U) (fun c63=> ?_) (fun c63=> ?_)
      ·skip
       refine rC tb 9 U (Bc (rX tb 2 U (Ak U (Nk U) ?_)))
       first|exact⟨_,⟨_,⟨rfl,fun h=>absurd h qde⟩,rfl⟩,by exact sbt⟩|exact⟨_,⟨_,⟨rfl,fun h=>absurd h (by assumption)⟩,rfl⟩,by exact sbt⟩|exact⟨_,⟨0,⟨rfl,fun _=>⟨hnd,hfo,Dq hf⟩⟩,rfl⟩,by exact sbt⟩
      ·have he0:=Classical.not_not.1 c63;refine rC tb 5 U (y_ (A8 (T U) An qom) ?_ U);refine rO tb 2 U ?_;refine A6 (i+1) ?_ ?_ ⟨(by first|exact Aa U|(refine Ag (Aa U) (vint ?_);omega)|(refine Ag (Aa U) ?_;simp;done)|(refine Ag (Aa U) ?_;exact vint (by first|omega|exact(Classical.not_not.1 c63)))),(by first|exact Aa U|(refine Ag (Aa U) (vint ?_);omega)|(refine Ag (Aa U) ?_;simp;done)|(refine Ag (Aa U) ?_;exact vint (by first|omega|exact(Classical.not_not.1 c63)))),trivial⟩ ⟨Aa U,Aa U,trivial⟩ ?_
       ·refine⟨hi2,fun j hj=> ?_⟩
        by_cases e:j=i
        ·subst e;exact Gb (fun hk=>by first|exact he2 (by first|assumption|omega)|(exfalso;omega)) (fun hk=>by first|(exact⟨hfd,by generalize ((2 ^ (fndFd fl (gd (prtO m) j).nm).1.w:Nat):Int)=P at *;omega⟩)|(exfalso;omega))
        ·exact hf j qom
       ·first|omega|(simp only[];omega)
       ·exact sbt
     ·have hfd:(fndFd fl (gd (prtO m) i).nm).2=true:=by simpa using c53
      refine rC tb 1 U (Bk 8 [(0,true),(1,true),(2,true),(3,true),(4,true),(5,true),(6,true),(7,true)] ((n8,Cl (encF (fndFd fl (gd (prtO m) i).nm).1) 127)::(slH d ((prtO m).flatMap encPo) 28++((n3,Cl (encPo m) 28)::H))) mixd qkr (by exact sbt) ?_ Bp);refine rP tb 2 U (o_y U (Np U U runUnderlying26 sizeOf28 qom (by first|exact rfl|exact hdA.b (i:=i) hi2)) ?_ U Ac);refine rP tb 1 U ?_;refine o_y U (Nl U isAgg3 (by first|exact c_o|exact(hdA.mono (by repeat (first|exact List.sublist_append_left _ _|refine List.Sublist.cons _ ?_))).cs (i:=i) hi2 7 _ U)) ?_ U Ac;refine o_y U (Nn U isAgg127 sizeOf127 U (by first|exact As)) ?_ U Ac;refine o_y U (Aw (qe1 U) call112 (fun H' hs=>H3 _ (hfl.all _ (El hfd)).w16)) (rP tb 1 U (A4 U (rO tb 2 U ?_))) U Ac
      first|refine Ae (Aa U) (fun c61=> ?_) (fun c61=> ?_)|refine Ah (Aa U) (fun c61=> ?_) (fun c61=> ?_)
      ·refine rC tb 10 U ?_
       first|refine Ae (Aa U) (fun c63=> ?_) (fun c63=> ?_)|refine Ah (Aa U) (fun c63=> ?_) (fun c63=> ?_)
       ·skip
        refine rC tb 9 U (Bc (rX tb 2 U (Ak U (Nk U) ?_)))
        first|exact⟨_,⟨_,⟨rfl,fun h=>absurd h qde⟩,rfl⟩,by exact sbt⟩|exact⟨_,⟨_,⟨rfl,fun h=>absurd h (by assumption)⟩,rfl⟩,by exact sbt⟩|exact⟨_,⟨0,⟨rfl,fun _=>⟨hnd,hfo,Dq hf⟩⟩,rfl⟩,by exact sbt⟩
       ·have he0:=Classical.not_not.1 c63;refine rC tb 5 U (y_ (A8 (T U) An qom) ?_ U);refine rO tb 2 U ?_;refine A6 (i+1) ?_ ?_ ⟨(by first|exact Aa U|(refine Ag (Aa U) (vint ?_);omega)|(refine Ag (Aa U) ?_;simp;done)|(refine Ag (Aa U) ?_;exact vint (by first|omega|exact(Classical.not_not.1 c63)))),(by first|exact Aa U|(refine Ag (Aa U) (vint ?_);omega)|(refine Ag (Aa U) ?_;simp;done)|(refine Ag (Aa U) ?_;exact vint (by first|omega|exact(Classical.not_not.1 c63)))),trivial⟩ ⟨Aa U,Aa U,trivial⟩ ?_
        ·refine⟨hi2,fun j hj=> ?_⟩
         by_cases e:j=i
         ·subst e;exact Gb (fun hk=>by first|exact he2 (by first|assumption|omega)|(exfalso;omega)) (fun hk=>by first|(exact⟨hfd,by generalize ((2 ^ (fndFd fl (gd (prtO m) j).nm).1.w:Nat):Int)=P at *;omega⟩)|(exfalso;omega))
         ·exact hf j qom
        ·first|omega|(simp only[];omega)
        ·exact sbt
      ·refine rC tb 8 U ?_
       first|refine Ae (Aa U) (fun c63=> ?_) (fun c63=> ?_)|refine Ah (Aa U) (fun c63=> ?_) (fun c63=> ?_)
       ·skip
        refine rC tb 9 U (Bc (rX tb 2 U (Ak U (Nk U) ?_)))
        first|exact⟨_,⟨_,⟨rfl,fun h=>absurd h qde⟩,rfl⟩,by exact sbt⟩|exact⟨_,⟨_,⟨rfl,fun h=>absurd h (by assumption)⟩,rfl⟩,by exact sbt⟩|exact⟨_,⟨0,⟨rfl,fun _=>⟨hnd,hfo,Dq hf⟩⟩,rfl⟩,by exact sbt⟩
       ·have he0:=Classical.not_not.1 c63;refine rC tb 5 U (y_ (A8 (T U) An qom) ?_ U);refine rO tb 2 U ?_;refine A6 (i+1) ?_ ?_ ⟨(by first|exact Aa U|(refine Ag (Aa U) (vint ?_);omega)|(refine Ag (Aa U) ?_;simp;done)|(refine Ag (Aa U) ?_;exact vint (by first|omega|exact(Classical.not_not.1 c63)))),(by first|exact Aa U|(refine Ag (Aa U) (vint ?_);omega)|(refine Ag (Aa U) ?_;simp;done)|(refine Ag (Aa U) ?_;exact vint (by first|omega|exact(Classical.not_not.1 c63)))),trivial⟩ ⟨Aa U,Aa U,trivial⟩ ?_
        ·refine⟨hi2,fun j hj=> ?_⟩
         by_cases e:j=i
         ·subst e;exact Gb (fun hk=>by first|exact he2 (by first|assumption|omega)|(exfalso;omega)) (fun hk=>by first|(exact⟨hfd,by generalize ((2 ^ (fndFd fl (gd (prtO m) j).nm).1.w:Nat):Int)=P at *;omega⟩)|(exfalso;omega))
         ·exact hf j qom
        ·first|omega|(simp only[];omega)
        ·exact sbt
    ·refine kC tb 8 [0,5,6,7,63] rfl U ?_
     first|refine Ae (Aa U) (fun c63=> ?_) (fun c63=> ?_)|refine Ah (Aa U) (fun c63=> ?_) (fun c63=> ?_)
     ·skip
      refine rC tb 9 U (Bc (rX tb 2 U (Ak U (Nk U) ?_)))
      first|exact⟨_,⟨_,⟨rfl,fun h=>absurd h qde⟩,rfl⟩,by exact sbt⟩|exact⟨_,⟨_,⟨rfl,fun h=>absurd h (by assumption)⟩,rfl⟩,by exact sbt⟩|exact⟨_,⟨0,⟨rfl,fun _=>⟨hnd,hfo,Dq hf⟩⟩,rfl⟩,by exact sbt⟩
     ·have he0:=Classical.not_not.1 c63;refine rC tb 5 U (y_ (A8 (T U) An qom) ?_ U);refine rO tb 2 U ?_;refine A6 (i+1) ?_ ?_ ⟨(by first|exact Aa U|(refine Ag (Aa U) (vint ?_);omega)|(refine Ag (Aa U) ?_;simp;done)|(refine Ag (Aa U) ?_;exact vint (by first|omega|exact(Classical.not_not.1 c63)))),(by first|exact Aa U|(refine Ag (Aa U) (vint ?_);omega)|(refine Ag (Aa U) ?_;simp;done)|(refine Ag (Aa U) ?_;exact vint (by first|omega|exact(Classical.not_not.1 c63)))),trivial⟩ ⟨Aa U,Aa U,trivial⟩ ?_
      ·refine⟨hi2,fun j hj=> ?_⟩
       by_cases e:j=i
       ·subst e;exact Gb (fun hk=>by first|exact he2 (by first|assumption|omega)|(exfalso;omega)) (fun hk=>by first|(exact⟨hfd,by generalize ((2 ^ (fndFd fl (gd (prtO m) j).nm).1.w:Nat):Int)=P at *;omega⟩)|(exfalso;omega))
       ·exact hf j qom
      ·first|omega|(simp only[];omega)
      ·exact sbt
   ·refine rC tb 7 U (y_ (Np U U runUnderlying26 sizeOf28 qom (by first|exact rfl|exact hdA.b (i:=i) hi2)) ?_ U);refine rO tb 1 U ?_;refine y_ (Nl U isAgg3 (by first|exact c_o|exact(hdA.mono (by repeat (first|exact List.sublist_append_left _ _|refine List.Sublist.cons _ ?_))).cs (i:=i) hi2 0 _ U)) ?_ U;refine rO tb 3 U ?_
    first|refine Ae (Aa U) (fun c41=> ?_) (fun c41=> ?_)|refine Ah (Aa U) (fun c41=> ?_) (fun c41=> ?_)
    ·refine rC tb 5 U (y_ (Np U U runUnderlying26 sizeOf28 qom (by first|exact rfl|exact hdA.b (i:=i) hi2)) ?_ U);refine rO tb 1 U ?_;refine y_ (Nl U isAgg9 (by first|exact c_o|exact(hdA.mono (by repeat (first|exact List.sublist_append_left _ _|refine List.Sublist.cons _ ?_))).cs (i:=i) hi2 6 _ U)) ?_ U;refine y_ (Aw (qe2 U U) call82 (fun H' hs=>Ha fl q c (hA.mono (List.Sublist.trans (by exact sbt) hs)) qom (gd (prtO m) i).nm)) ?_ U;refine rO tb 3 U (e_ (Ai zeroValue127 cs_) ?_ U);rintro _ _ ⟨n8,rfl,rfl⟩
     first|refine A5 (Nq U U sizeOf127) U Ac ?_
     rintro _ _ ⟨rfl,rfl⟩;refine kO tb 3 [0,5,6,7,8,9] rfl U (rG tb 3 U ?_)
     first|refine A9 (B5 (T U)) U Ac ?_|refine A9 (B1 (T U)) U Ac ?_
     refine rO tb 2 U ?_
     first|refine Ae (Aa U) (fun c53=> ?_) (fun c53=> ?_)|refine Ah (Aa U) (fun c53=> ?_) (fun c53=> ?_)
     ·skip
      refine rC tb 10 U ?_
      first|refine Ae (Aa U) (fun c63=> ?_) (fun c63=> ?_)|refine Ah (Aa U) (fun c63=> ?_) (fun c63=> ?_)
      ·skip
       refine rC tb 9 U (Bc (rX tb 2 U (Ak U (Nk U) ?_)))
       first|exact⟨_,⟨_,⟨rfl,fun h=>absurd h qde⟩,rfl⟩,by exact sbt⟩|exact⟨_,⟨_,⟨rfl,fun h=>absurd h (by assumption)⟩,rfl⟩,by exact sbt⟩|exact⟨_,⟨0,⟨rfl,fun _=>⟨hnd,hfo,Dq hf⟩⟩,rfl⟩,by exact sbt⟩
      ·have he0:=Classical.not_not.1 c63;refine rC tb 5 U (y_ (A8 (T U) An qom) ?_ U);refine rO tb 2 U ?_;refine A6 (i+1) ?_ ?_ ⟨(by first|exact Aa U|(refine Ag (Aa U) (vint ?_);omega)|(refine Ag (Aa U) ?_;simp;done)|(refine Ag (Aa U) ?_;exact vint (by first|omega|exact(Classical.not_not.1 c63)))),(by first|exact Aa U|(refine Ag (Aa U) (vint ?_);omega)|(refine Ag (Aa U) ?_;simp;done)|(refine Ag (Aa U) ?_;exact vint (by first|omega|exact(Classical.not_not.1 c63)))),trivial⟩ ⟨Aa U,Aa U,trivial⟩ ?_
       ·refine⟨hi2,fun j hj=> ?_⟩
        by_cases e:j=i
        ·subst e;exact Gb (fun hk=>by first|exact he2 (by first|assumption|omega)|(exfalso;omega)) (fun hk=>by first|(exact⟨hfd,by generalize ((2 ^ (fndFd fl (gd (prtO m) j).nm).1.w:Nat):Int)=P at *;omega⟩)|(exfalso;omega))
        ·exact hf j qom
       ·first|omega|(simp only[];omega)
       ·exact sbt
     ·have hfd:(fndFd fl (gd (prtO m) i).nm).2=true:=by simpa using c53
      refine rC tb 1 U (Bk 8 [(0,true),(1,true),(2,true),(3,true),(4,true),(5,true),(6,true),(7,true)] ((n8,Cl (encF (fndFd fl (gd (prtO m) i).nm).1) 127)::(slH d ((prtO m).flatMap encPo) 28++((n3,Cl (encPo m) 28)::H))) mixd qkr (by exact sbt) ?_ Bp);refine rP tb 2 U (o_y U (Np U U runUnderlying26 sizeOf28 qom (by first|exact rfl|exact hdA.b (i:=i) hi2)) ?_ U Ac);refine rP tb 1 U ?_;refine o_y U (Nl U isAgg3 (by first|exact c_o|exact(hdA.mono (by repeat (first|exact List.sublist_append_left _ _|refine List.Sublist.cons _ ?_))).cs (i:=i) hi2 7 _ U)) ?_ U Ac;refine o_y U (Nn U isAgg127 sizeOf127 U (by first|exact As)) ?_ U Ac;refine o_y U (Aw (qe1 U) call112 (fun H' hs=>H3 _ (hfl.all _ (El hfd)).w16)) (rP tb 1 U (A4 U (rO tb 2 U ?_))) U Ac
      first|refine Ae (Aa U) (fun c61=> ?_) (fun c61=> ?_)|refine Ah (Aa U) (fun c61=> ?_) (fun c61=> ?_)
      ·refine rC tb 10 U ?_
       first|refine Ae (Aa U) (fun c63=> ?_) (fun c63=> ?_)|refine Ah (Aa U) (fun c63=> ?_) (fun c63=> ?_)
       ·skip
        refine rC tb 9 U (Bc (rX tb 2 U (Ak U (Nk U) ?_)))
        first|exact⟨_,⟨_,⟨rfl,fun h=>absurd h qde⟩,rfl⟩,by exact sbt⟩|exact⟨_,⟨_,⟨rfl,fun h=>absurd h (by assumption)⟩,rfl⟩,by exact sbt⟩|exact⟨_,⟨0,⟨rfl,fun _=>⟨hnd,hfo,Dq hf⟩⟩,rfl⟩,by exact sbt⟩
       ·have he0:=Classical.not_not.1 c63;refine rC tb 5 U (y_ (A8 (T U) An qom) ?_ U);refine rO tb 2 U ?_;refine A6 (i+1) ?_ ?_ ⟨(by first|exact Aa U|(refine Ag (Aa U) (vint ?_);omega)|(refine Ag (Aa U) ?_;simp;done)|(refine Ag (Aa U) ?_;exact vint (by first|omega|exact(Classical.not_not.1 c63)))),(by first|exact Aa U|(refine Ag (Aa U) (vint ?_);omega)|(refine Ag (Aa U) ?_;simp;done)|(refine Ag (Aa U) ?_;exact vint (by first|omega|exact(Classical.not_not.1 c63)))),trivial⟩ ⟨Aa U,Aa U,trivial⟩ ?_
        ·refine⟨hi2,fun j hj=> ?_⟩
         by_cases e:j=i
         ·subst e;exact Gb (fun hk=>by first|exact he2 (by first|assumption|omega)|(exfalso;omega)) (fun hk=>by first|(exact⟨hfd,by generalize ((2 ^ (fndFd fl (gd (prtO m) j).nm).1.w:Nat):Int)=P at *;omega⟩)|(exfalso;omega))
         ·exact hf j qom
        ·first|omega|(simp only[];omega)
        ·exact sbt
      ·refine rC tb 8 U ?_
       first|refine Ae (Aa U) (fun c63=> ?_) (fun c63=> ?_)|refine Ah (Aa U) (fun c63=> ?_) (fun c63=> ?_)
       ·skip
        refine rC tb 9 U (Bc (rX tb 2 U (Ak U (Nk U) ?_)))
        first|exact⟨_,⟨_,⟨rfl,fun h=>absurd h qde⟩,rfl⟩,by exact sbt⟩|exact⟨_,⟨_,⟨rfl,fun h=>absurd h (by assumption)⟩,rfl⟩,by exact sbt⟩|exact⟨_,⟨0,⟨rfl,fun _=>⟨hnd,hfo,Dq hf⟩⟩,rfl⟩,by exact sbt⟩
       ·have he0:=Classical.not_not.1 c63;refine rC tb 5 U (y_ (A8 (T U) An qom) ?_ U);refine rO tb 2 U ?_;refine A6 (i+1) ?_ ?_ ⟨(by first|exact Aa U|(refine Ag (Aa U) (vint ?_);omega)|(refine Ag (Aa U) ?_;simp;done)|(refine Ag (Aa U) ?_;exact vint (by first|omega|exact(Classical.not_not.1 c63)))),(by first|exact Aa U|(refine Ag (Aa U) (vint ?_);omega)|(refine Ag (Aa U) ?_;simp;done)|(refine Ag (Aa U) ?_;exact vint (by first|omega|exact(Classical.not_not.1 c63)))),trivial⟩ ⟨Aa U,Aa U,trivial⟩ ?_
        ·refine⟨hi2,fun j hj=> ?_⟩
         by_cases e:j=i
         ·subst e;exact Gb (fun hk=>by first|exact he2 (by first|assumption|omega)|(exfalso;omega)) (fun hk=>by first|(exact⟨hfd,by generalize ((2 ^ (fndFd fl (gd (prtO m) j).nm).1.w:Nat):Int)=P at *;omega⟩)|(exfalso;omega))
         ·exact hf j qom
        ·first|omega|(simp only[];omega)
        ·exact sbt
    ·refine rC tb 8 U ?_
     first|refine Ae (Aa U) (fun c63=> ?_) (fun c63=> ?_)|refine Ah (Aa U) (fun c63=> ?_) (fun c63=> ?_)
     ·skip
      refine rC tb 9 U (Bc (rX tb 2 U (Ak U (Nk U) ?_)))
      first|exact⟨_,⟨_,⟨rfl,fun h=>absurd h qde⟩,rfl⟩,by exact sbt⟩|exact⟨_,⟨_,⟨rfl,fun h=>absurd h (by assumption)⟩,rfl⟩,by exact sbt⟩|exact⟨_,⟨0,⟨rfl,fun _=>⟨hnd,hfo,Dq hf⟩⟩,rfl⟩,by exact sbt⟩
     ·have he0:=Classical.not_not.1 c63;refine rC tb 5 U (y_ (A8 (T U) An qom) ?_ U);refine rO tb 2 U ?_;refine A6 (i+1) ?_ ?_ ⟨(by first|exact Aa U|(refine Ag (Aa U) (vint ?_);omega)|(refine Ag (Aa U) ?_;simp;done)|(refine Ag (Aa U) ?_;exact vint (by first|omega|exact(Classical.not_not.1 c63)))),(by first|exact Aa U|(refine Ag (Aa U) (vint ?_);omega)|(refine Ag (Aa U) ?_;simp;done)|(refine Ag (Aa U) ?_;exact vint (by first|omega|exact(Classical.not_not.1 c63)))),trivial⟩ ⟨Aa U,Aa U,trivial⟩ ?_
      ·refine⟨hi2,fun j hj=> ?_⟩
       by_cases e:j=i
       ·subst e;exact Gb (fun hk=>by first|exact he2 (by first|assumption|omega)|(exfalso;omega)) (fun hk=>by first|(exact⟨hfd,by generalize ((2 ^ (fndFd fl (gd (prtO m) j).nm).1.w:Nat):Int)=P at *;omega⟩)|(exfalso;omega))
       ·exact hf j qom
      ·first|omega|(simp only[];omega)
      ·exact sbt
  ·obtain rfl:i=(prtO m).length:=by have h9: ¬ ((i:Nat):Int)<((prtO m).length:Nat):=c20;omega
   refine rC tb 2 U (Ax (rX tb 8 U (Ak U (Nk U) ?_)))
   first|exact⟨_,⟨_,⟨rfl,fun h=>absurd h qde⟩,rfl⟩,by exact sbt⟩|exact⟨_,⟨_,⟨rfl,fun h=>absurd h (by assumption)⟩,rfl⟩,by exact sbt⟩|exact⟨_,⟨0,⟨rfl,fun _=>⟨hnd,hfo,Dq hf⟩⟩,rfl⟩,by exact sbt⟩
theorem field84 (a:Nat)(d:Int)(w:World):(Instr.field 122 (szV a d) 0).run Tryz.prog w= .ok (.int .i64 (a:Nat)) w:=by kernel_rfl
structure Fi where
 nm:ByteArray
 pos:Int
 w:Int
instance:Inhabited Fi:=⟨⟨default,0,0⟩⟩
abbrev encFi (f:Fi):List Value:=[.string f.nm, .int .i64 f.pos, .int .i64 f.w]
structure PlOk (f:Fi):Prop where
 w1:1≤f.w
 w16:f.w≤16
 a1:16≤f.pos
 a2:f.pos≤143
 fit:f.pos % 16+f.w≤16
def Dj (f g:Fi):Prop:=f.pos+f.w≤g.pos∨g.pos+g.w≤f.pos
structure FisOk (l:List Fi):Prop where
 few:l.length≤16
 pl:∀ j,j<l.length→PlOk (gd l j)
 dj:∀ i j,i<j→j<l.length→Dj (gd l i) (gd l j)
def Fi.fd (f:Fi):Fd:=⟨f.nm,f.pos.toNat,f.w.toNat⟩
theorem FisOk.fl {l:List Fi}(h:FisOk l):FlOk (l.map Fi.fd):=by
 have hall:∀ f∈l,PlOk f:=Dq h.pl;refine⟨fun f hf=> ?_,?_,by rw[List.length_map];exact h.few⟩
 ·obtain⟨g,hg,rfl⟩:=List.mem_map.1 hf;have p:=hall g hg;obtain⟨p1,p2,p3,p4,p5⟩:=p;obtain⟨nm,pos,w⟩:=g
  dsimp only at p1 p2 p3 p4 p5
  obtain⟨a,rfl⟩:=Int.eq_ofNat_of_zero_le (show 0≤pos by omega);obtain⟨b,rfl⟩:=Int.eq_ofNat_of_zero_le (show 0≤w by omega);refine⟨⟨?_,?_,?_,?_⟩,?_,?_⟩<;>dsimp only[Fi.fd]<;>simp only[Int.toNat_natCast]<;>omega
 ·rw[List.pairwise_map,List.pairwise_iff_getElem];intro i j hi hj hij;have hd:=h.dj i j hij hj;have p:=h.pl i hi;have q:=h.pl j hj;rw[Az hi] at hd p;rw[Az hj] at hd q
  revert hd p q
  generalize l[i]=f
  generalize l[j]=g;intro hd p q;obtain⟨p1,p2,p3,p4,p5⟩:=p;obtain⟨q1,q2,q3,q4,q5⟩:=q;unfold Dj at hd
  dsimp only[Fi.fd]
  omega
theorem FisOk.enc {l:List Fi}(h:FisOk l):l.map encFi=(l.map Fi.fd).map encF:=by
 have hall:∀ f∈l,PlOk f:=Dq h.pl;rw[List.map_map];refine List.map_congr_left fun f hf=> ?_
 have p:=hall f hf;obtain⟨p1,p2,p3,p4,p5⟩:=p;obtain⟨nm,pos,w⟩:=f
 dsimp only at p1 p2 p3 p4 p5
 obtain⟨a,rfl⟩:=Int.eq_ofNat_of_zero_le (show 0≤pos by omega);obtain⟨b,rfl⟩:=Int.eq_ofNat_of_zero_le (show 0≤w by omega)
 rfl
theorem fname_s {w0:World}{H:List (Nat × Obj)}(s:ByteArray)(hs9:s.size≤9223372036854775807):
  FSpec Tryz.prog w0 120 #[.string s] H (SomB H):=by
 refine Au Tryz.func120 U ntmps120 U (rD tb 12 U ?_);refine Bj (X:=Nat) (V:=fun i=>[(3, .int .i64 (i:Nat))]) (C:=[(0,_)]) (G:=fun i=>H) (φ:=fun i=>i≤s.size) (μ:=fun i=>s.size - i) (x0:=0) ?_ ⟨Aa U,trivial⟩ ⟨atd,trivial⟩ sb0 ?_
 ·exact Nat.zero_le _
 rintro i hi;refine rD tb 5 U (y_ (Ff (T U) runUnderlying9) (rO tb 3 U ?_) U)
 first|refine Ae (Aa U) (fun c9=> ?_) (fun c9=> ?_)|refine Ah (Aa U) (fun c9=> ?_) (fun c9=> ?_)
 ·refine rC tb 4 U ?_;refine Fc (X:=Bool) (V:=fun b4=>[(4, .bool b4)]) (C:=[(0,_),(3,_)]) (φ:=fun b4=>True) ⟨Aa U,Aa U,trivial⟩ ?_ ?_
  ·refine rD tb 3 U (y_ (Fu (T U) (T U) runUnderlying9 (by have h9:((i:Nat):Int)<(s.size:Nat):=c9;omega)) ?_ U);refine rO tb 2 U ?_
   first|refine Av (s:=16) (Aa U) (fun c16=> ?_) (fun c16=> ?_)|refine A7 (s:=16) (Aa U) (fun c16=> ?_) (fun c16=> ?_)
   ·refine rO tb 2 U (A9 (Fu (T U) (T U) runUnderlying9 (by have h9:((i:Nat):Int)<(s.size:Nat):=c9;omega)) U (Bg U U (Aa U)) ?_);refine rO tb 4 U ?_;refine Bf (_) ?_ ⟨atd,trivial⟩ ⟨Aa U,Aa U,trivial⟩ sbt
    trivial
   ·refine rO tb 7 U ?_;refine Bf (_) ?_ ⟨atd,trivial⟩ ⟨Aa U,Aa U,trivial⟩ sbt
    trivial
  rintro b4 _;refine Fc (X:=Bool) (V:=fun b5=>[(5, .bool b5)]) (C:=[(0,_),(3,_),(4,_)]) (φ:=fun b5=>True) ⟨Aa U,Aa U,Aa U,trivial⟩ ?_ ?_
  ·refine rD tb 3 U (y_ (Fu (T U) (T U) runUnderlying9 (by have h9:((i:Nat):Int)<(s.size:Nat):=c9;omega)) ?_ U);refine rO tb 2 U ?_
   first|refine Av (s:=26) (Aa U) (fun c26=> ?_) (fun c26=> ?_)|refine A7 (s:=26) (Aa U) (fun c26=> ?_) (fun c26=> ?_)
   ·refine rO tb 2 U (A9 (Fu (T U) (T U) runUnderlying9 (by have h9:((i:Nat):Int)<(s.size:Nat):=c9;omega)) U (Bg U U (Aa U)) ?_);refine rO tb 3 U ?_
    first|refine Av (s:=32) (Aa U) (fun c32=> ?_) (fun c32=> ?_)|refine A7 (s:=32) (Aa U) (fun c32=> ?_) (fun c32=> ?_)
    ·refine rO tb 7 U ?_;refine Bf (_) ?_ ⟨atd,trivial⟩ ⟨Aa U,Aa U,Aa U,trivial⟩ sbt
     trivial
    ·refine rO tb 2 U (A9 (Fu (T U) (T U) runUnderlying9 (by have h9:((i:Nat):Int)<(s.size:Nat):=c9;omega)) U (Bg U U (Aa U)) ?_);refine rO tb 4 U ?_;refine Bf (_) ?_ ⟨atd,trivial⟩ ⟨Aa U,Aa U,Aa U,trivial⟩ sbt
     trivial
   ·refine rO tb 8 U (A9 (Fu (T U) (T U) runUnderlying9 (by have h9:((i:Nat):Int)<(s.size:Nat):=c9;omega)) U (Bg U U (Aa U)) ?_);refine rO tb 4 U ?_;refine Bf (_) ?_ ⟨atd,trivial⟩ ⟨Aa U,Aa U,Aa U,trivial⟩ sbt
    trivial
  rintro b5 _;refine rC tb 3 U ?_
  first|refine A9 (B5 (T U)) U Ac ?_|refine A9 (B1 (T U)) U Ac ?_
  refine rO tb 1 U ?_
  first|refine Av (s:=40) (Aa U) (fun c40=> ?_) (fun c40=> ?_)|refine A7 (s:=40) (Aa U) (fun c40=> ?_) (fun c40=> ?_)
  ·refine rO tb 1 U ?_
   first|refine A9 (B5 (T U)) U (Bg U U (Aa U)) ?_|refine A9 (B1 (T U)) U (Bg U U (Aa U)) ?_
   refine rO tb 1 U ?_
   first|refine Av (s:=43) (Aa U) (fun c43=> ?_) (fun c43=> ?_)|refine A7 (s:=43) (Aa U) (fun c43=> ?_) (fun c43=> ?_)
   ·refine rO tb 15 U (Bc (rX tb 2 U (Ak U (Nk U) ?_)));exact⟨_,⟨_,rfl,rfl⟩,sbt⟩
   ·refine rO tb 6 U ?_
    first|refine Ae (Aa U) (fun c47=> ?_) (fun c47=> ?_)|refine Ah (Aa U) (fun c47=> ?_) (fun c47=> ?_)
    ·refine rC tb 8 U (Bc (rX tb 2 U (Ak U (Nk U) ?_)));exact⟨_,⟨_,rfl,rfl⟩,sbt⟩
    ·refine rC tb 5 U (y_ (A8 (T U) An (by have h9:((i:Nat):Int)<(s.size:Nat):=c9;omega)) ?_ U);refine rO tb 2 U ?_;refine A6 (i+1) ?_ ?_ ⟨atd,trivial⟩ ⟨Aa U,trivial⟩ ?_
     ·have h9:((i:Nat):Int)<(s.size:Nat):=c9;omega
     ·have h9:((i:Nat):Int)<(s.size:Nat):=c9;omega
     ·exact sbt
  ·refine rO tb 15 U (y_ (A8 (T U) An (by have h9:((i:Nat):Int)<(s.size:Nat):=c9;omega)) ?_ U);refine rO tb 2 U ?_;refine A6 (i+1) ?_ ?_ ⟨atd,trivial⟩ ⟨Aa U,trivial⟩ ?_
   ·have h9:((i:Nat):Int)<(s.size:Nat):=c9;omega
   ·have h9:((i:Nat):Int)<(s.size:Nat):=c9;omega
   ·exact sbt
 ·refine rC tb 2 U (Ax (rX tb 5 U (y_ (Ff (T U) runUnderlying9) (rO tb 2 U ?_) U)))
  first|refine Av (s:=51) (Aa U) (fun c51=> ?_) (fun c51=> ?_)|refine A7 (s:=51) (Aa U) (fun c51=> ?_) (fun c51=> ?_)
  ·refine rO tb 1 U (A9 (Ff (T U) runUnderlying9) U (Bg U U (Aa U)) (rO tb 6 U (Ak U (Nk U) ?_)));exact⟨_,⟨_,rfl,rfl⟩,sbt⟩
  ·refine rO tb 8 U (Ak U (Nk U) ?_);exact⟨_,⟨_,rfl,rfl⟩,sbt⟩
theorem place_s {w0:World}{H:List (Nat × Obj)}(f:Fi):
  FSpec Tryz.prog w0 121 #[.agg (encFi f).toArray] H (SayB (PlOk f) H):=by
 refine Au Tryz.func121 U ntmps121 U (rD tb 2 U (e_ (Nr U cs_) ?_ U));rintro _ _ ⟨n1,rfl,rfl⟩;refine rO tb 6 U (y_ (Nl U isAgg3 (by first|exact c_o)) ?_ U);refine rO tb 2 U ?_
 first|refine Av (s:=6) (Aa U) (fun c6=> ?_) (fun c6=> ?_)|refine A7 (s:=6) (Aa U) (fun c6=> ?_) (fun c6=> ?_)
 ·refine rO tb 1 U (A9 (Nl U isAgg3 (by first|exact c_o)) U (Bg U U (Aa U)) ?_);refine rO tb 3 U ?_
  first|refine Av (s:=11) (Aa U) (fun c11=> ?_) (fun c11=> ?_)|refine A7 (s:=11) (Aa U) (fun c11=> ?_) (fun c11=> ?_)
  ·refine rO tb 1 U (A9 (Nl U isAgg3 (by first|exact c_o)) U (Bg U U (Aa U)) ?_);refine rO tb 3 U ?_
   first|refine Av (s:=16) (Aa U) (fun c16=> ?_) (fun c16=> ?_)|refine A7 (s:=16) (Aa U) (fun c16=> ?_) (fun c16=> ?_)
   ·refine rO tb 1 U (A9 (Nl U isAgg3 (by first|exact c_o)) U (Bg U U (Aa U)) ?_);refine rO tb 3 U ?_
    first|refine Av (s:=21) (Aa U) (fun c21=> ?_) (fun c21=> ?_)|refine A7 (s:=21) (Aa U) (fun c21=> ?_) (fun c21=> ?_)
    ·refine rO tb 1 U (A9 (Nl U isAgg3 (by first|exact c_o)) U (Bg U U (Aa U)) ?_);refine A9 (yl_rem (T U) An qom) U (Bg U U (Aa U)) ?_;refine rO tb 1 U (A9 (Nl U isAgg3 (by first|exact c_o)) U (Bg U U (Aa U)) ?_);refine A9 (A8 (T U) (T U) qom) U (Bg U U (Aa U)) ?_;refine kO tb 5 [2] rfl U (rG tb 1 U (Ak U (Nk U) ?_))
     first|exact⟨_,⟨false,⟨rfl,fun h=>by cases h⟩,rfl⟩,sbt⟩|exact⟨_,⟨_,⟨rfl,fun h=>⟨by omega,by omega,by omega,by omega,of_decide_eq_true h⟩⟩,rfl⟩,sbt⟩
    ·refine kO tb 11 [2] rfl U (rG tb 1 U (Ak U (Nk U) ?_))
     first|exact⟨_,⟨false,⟨rfl,fun h=>by cases h⟩,rfl⟩,sbt⟩|exact⟨_,⟨_,⟨rfl,fun h=>⟨by omega,by omega,by omega,by omega,of_decide_eq_true h⟩⟩,rfl⟩,sbt⟩
   ·refine kO tb 16 [2] rfl U (rG tb 1 U (Ak U (Nk U) ?_))
    first|exact⟨_,⟨false,⟨rfl,fun h=>by cases h⟩,rfl⟩,sbt⟩|exact⟨_,⟨_,⟨rfl,fun h=>⟨by omega,by omega,by omega,by omega,of_decide_eq_true h⟩⟩,rfl⟩,sbt⟩
  ·refine kO tb 21 [2] rfl U (rG tb 1 U (Ak U (Nk U) ?_))
   first|exact⟨_,⟨false,⟨rfl,fun h=>by cases h⟩,rfl⟩,sbt⟩|exact⟨_,⟨_,⟨rfl,fun h=>⟨by omega,by omega,by omega,by omega,of_decide_eq_true h⟩⟩,rfl⟩,sbt⟩
 ·refine kO tb 26 [2] rfl U (rG tb 1 U (Ak U (Nk U) ?_))
  first|exact⟨_,⟨false,⟨rfl,fun h=>by cases h⟩,rfl⟩,sbt⟩|exact⟨_,⟨_,⟨rfl,fun h=>⟨by omega,by omega,by omega,by omega,of_decide_eq_true h⟩⟩,rfl⟩,sbt⟩
theorem common_s {w0:World}{H:List (Nat × Obj)}(f g:Fi)(hf:PlOk f)(hg:PlOk g):
  FSpec Tryz.prog w0 122 #[.agg (encFi f).toArray, .agg (encFi g).toArray] H (fun u H'=>∃ b:Bool,(u= .bool b∧(b=false→Dj f g))∧H'=H):=by
 refine Au Tryz.func122 U ntmps122 U ?_;obtain⟨f1,f2,f3,f4,f5⟩:=hf;obtain⟨g1,g2,g3,g4,g5⟩:=hg;refine rD tb 2 U (e_ (Nr U cs_) ?_ U);rintro _ _ ⟨n2,rfl,rfl⟩;refine e_ (Nr U cs_) ?_ U;rintro _ _ ⟨n3,rfl,rfl⟩;refine rO tb 6 U (y_ (Nl U isAgg3 (by first|exact c_o)) ?_ U);refine rO tb 1 U (y_ (Nl U isAgg3 (by first|exact c_o)) ?_ U);refine rO tb 1 U (y_ (Nl U isAgg3 (by first|exact c_o)) ?_ U);refine y_ (A8 (T U) (T U) qom) ?_ U;refine rO tb 2 U ?_
 first|refine Av (s:=13) (Aa U) (fun c13=> ?_) (fun c13=> ?_)|refine A7 (s:=13) (Aa U) (fun c13=> ?_) (fun c13=> ?_)
 ·refine rO tb 1 U (A9 (Nl U isAgg3 (by first|exact c_o)) U (Bg U U (Aa U)) ?_);refine rO tb 1 U (A9 (Nl U isAgg3 (by first|exact c_o)) U (Bg U U (Aa U)) ?_);refine rO tb 1 U (A9 (Nl U isAgg3 (by first|exact c_o)) U (Bg U U (Aa U)) ?_);refine A9 (A8 (T U) (T U) qom) U (Bg U U (Aa U)) ?_;refine rO tb 6 U (Ak U (Nk U) ?_)
  first|exact⟨_,⟨_,⟨rfl,fun h=>by unfold Dj;omega⟩,rfl⟩,sbt⟩|exact⟨_,⟨_,⟨rfl,fun h=>by unfold Dj;have h9:=of_decide_eq_false h;omega⟩,rfl⟩,sbt⟩
 ·refine rO tb 13 U (Ak U (Nk U) ?_)
  first|exact⟨_,⟨_,⟨rfl,fun h=>by unfold Dj;omega⟩,rfl⟩,sbt⟩|exact⟨_,⟨_,⟨rfl,fun h=>by unfold Dj;have h9:=of_decide_eq_false h;omega⟩,rfl⟩,sbt⟩
theorem check_s {w0:World}{H:List (Nat × Obj)}(fl:List Fi)(q:Option Addr)(c:Nat)(hA:Arr w0 H q 3 encFi fl)(hnm:∀ f∈fl,f.nm.size≤9223372036854775807):
  FSpec Tryz.prog w0 76 #[.slice q fl.length c] H (SayE (FisOk fl) H):=by
 refine Au Tryz.func76 U ntmps76 U (rD tb 13 U ?_)
 first|refine Ae (Aa U) (fun c11=> ?_) (fun c11=> ?_)|refine Ah (Aa U) (fun c11=> ?_) (fun c11=> ?_)
 ·skip
  refine rC tb 7 U (Ak U (Nk U) ?_)
  first|exact⟨_,⟨_,⟨rfl,fun h=>absurd h qde⟩,rfl⟩,sbt⟩|exact⟨_,⟨0,⟨rfl,fun _=>⟨hfew,hpl,hdj⟩⟩,rfl⟩,sbt⟩
 ·have hfew:fl.length≤16:=by have h9: ¬ ((fl.length:Nat):Int)>16:=c11;omega
  refine rC tb 9 U ?_;refine Bj (X:=Nat) (V:=fun k=>[(3, .int .i64 (k:Nat))]) (C:=[(0,_)]) (G:=fun k=>H) (φ:=fun k=>k≤fl.length∧(∀ j,j<k→PlOk (gd fl j))∧∀ a b,a<b→b<k→Dj (gd fl a) (gd fl b)) (μ:=fun k=>fl.length - k) (x0:=0) ?_ ⟨Aa U,trivial⟩ ⟨atd,trivial⟩ sb0 ?_
  ·exact⟨Nat.zero_le _,fun j hj=>absurd hj (Nat.not_lt_zero _),fun a b _ hj=>absurd hj (Nat.not_lt_zero _)⟩
  rintro k ⟨hk,hpl,hdj⟩;refine rD tb 9 U ?_
  first|refine Ae (Aa U) (fun c15=> ?_) (fun c15=> ?_)|refine Ah (Aa U) (fun c15=> ?_) (fun c15=> ?_)
  ·have hk2:k<fl.length:=by have h9:((k:Nat):Int)<(fl.length:Nat):=c15;omega
   refine rC tb 8 U (y_ (Np U U runUnderlying22 sizeOf127 qom (by first|exact rfl|exact(hA k (gd fl k) (Ce qom)).1|exact(hA i (gd fl i) (Ce qom)).1)) ?_ U);refine rO tb 1 U (y_ (Nl U isAgg9 (by first|exact c_o|exact(hA.mono (by exact sbt)).cs (i:=k) qom 0 _ U)) ?_ U);refine e_ (Al (qe1 U) call120 (fname_s (gd fl k).nm (hnm _ (Ba qom)))) ?_ U;rintro _ _ ⟨b1,rfl,hh⟩;obtain rfl:=hh.symm;refine rO tb 7 U ?_
   first|refine A9 (B5 (T U)) U Ac ?_|refine A9 (B1 (T U)) U Ac ?_
   refine rO tb 1 U ?_
   first|refine Av (s:=26) (Aa U) (fun c26=> ?_) (fun c26=> ?_)|refine A7 (s:=26) (Aa U) (fun c26=> ?_) (fun c26=> ?_)
   ·refine rO tb 19 U (Bc (rX tb 2 U (Ak U (Nk U) ?_)))
    first|exact⟨_,⟨_,⟨rfl,fun h=>absurd h qde⟩,rfl⟩,sbt⟩|exact⟨_,⟨0,⟨rfl,fun _=>⟨hfew,hpl,hdj⟩⟩,rfl⟩,sbt⟩
   ·refine rO tb 2 U (A9 (Np U U runUnderlying22 sizeOf127 qom (by first|exact rfl|exact(hA k (gd fl k) (Ce qom)).1|exact(hA i (gd fl i) (Ce qom)).1)) U (Bg U U (Aa U)) ?_);refine rO tb 1 U (A9 (Nl U isAgg9 (by first|exact c_o|exact(hA.mono (by exact sbt)).cs (i:=k) qom 0 _ U)) U (Bg U U (Aa U)) ?_);refine A9 (E4 (T U) An) U (Bg U U (Aa U)) (rO tb 3 U ?_)
    first|refine Ae (Aa U) (fun c33=> ?_) (fun c33=> ?_)|refine Ah (Aa U) (fun c33=> ?_) (fun c33=> ?_)
    ·refine rC tb 9 U (Bc (rX tb 2 U (Ak U (Nk U) ?_)))
     first|exact⟨_,⟨_,⟨rfl,fun h=>absurd h qde⟩,rfl⟩,sbt⟩|exact⟨_,⟨0,⟨rfl,fun _=>⟨hfew,hpl,hdj⟩⟩,rfl⟩,sbt⟩
    ·refine rC tb 9 U ?_;refine Bj (X:=Nat) (V:=fun i=>[(5, .int .i64 (i:Nat))]) (C:=[(0,_),(3,_)]) (G:=fun i=>H) (φ:=fun i=>i≤k) (μ:=fun i=>k - i) (x0:=0) ?_ ⟨Aa U,Aa U,trivial⟩ ⟨atd,trivial⟩ sb0 ?_
     ·exact Nat.zero_le _
     rintro i hi;refine rD tb 8 U ?_
     first|refine Ae (Aa U) (fun c36=> ?_) (fun c36=> ?_)|refine Ah (Aa U) (fun c36=> ?_) (fun c36=> ?_)
     ·have hi2:i<k:=by have h9:((i:Nat):Int)<(k:Nat):=c36;omega
      refine rC tb 5 U (Bk 11 [(0,true),(1,true),(2,true),(3,true),(4,true),(5,true),(6,true),(7,true),(8,true),(9,true),(10,true)] _ mixd qkr sb0 ?_ Bp);refine rP tb 2 U (o_y U (Np U U runUnderlying22 sizeOf127 qom (by first|exact rfl|exact(hA k (gd fl k) (Ce qom)).1|exact(hA i (gd fl i) (Ce qom)).1)) ?_ U Ac);refine rP tb 1 U (o_y U (Nl U isAgg9 (by first|exact c_o|exact(hA.mono (by exact sbt)).cs (i:=i) qom 0 _ U)) ?_ U Ac);refine rP tb 2 U (o_y U (Cx (T U) (T U) runUnderlying22 sizeOf127 qom (by first|exact rfl|exact(hA k (gd fl k) (Ce qom)).1|exact(hA i (gd fl i) (Ce qom)).1)) ?_ U Ac);refine rP tb 1 U (o_y U (Nl U isAgg9 (by first|exact c_o|exact(hA.mono (by exact sbt)).cs (i:=k) qom 0 _ U)) ?_ U Ac);refine o_y U (E4 (T U) (T U)) (A4 U (rO tb 2 U ?_)) U Ac
      first|refine Ae (Aa U) (fun c49=> ?_) (fun c49=> ?_)|refine Ah (Aa U) (fun c49=> ?_) (fun c49=> ?_)
      ·refine rC tb 8 U (Bc (rX tb 4 U (Bc (rX tb 2 U (Ak U (Nk U) ?_)))))
       first|exact⟨_,⟨_,⟨rfl,fun h=>absurd h qde⟩,rfl⟩,sbt⟩|exact⟨_,⟨0,⟨rfl,fun _=>⟨hfew,hpl,hdj⟩⟩,rfl⟩,sbt⟩
      ·refine rC tb 5 U (y_ (A8 (T U) An qom) ?_ U);refine rO tb 2 U ?_;refine A6 (i+1) ?_ ?_ ⟨atd,trivial⟩ ⟨Aa U,Aa U,trivial⟩ ?_
       ·omega
       ·first|omega|(simp only[];omega)
       ·exact sbt
     ·skip
      refine rC tb 2 U (Ax (rX tb 6 U (y_ (Cx (T U) (T U) runUnderlying22 sizeOf127 qom (by first|exact rfl|exact(hA k (gd fl k) (Ce qom)).1|exact(hA i (gd fl i) (Ce qom)).1)) ?_ U)));refine y_ (Nn U isAgg127 sizeOf127 U (by first|exact(hA.mono (by exact sbt)).cs (i:=k) qom|exact As)) ?_ U;refine e_ (Al (qe1 U) call121 (place_s (gd fl k))) ?_ U;rintro _ _ ⟨b2,⟨rfl,hp2⟩,hh⟩;obtain rfl:=hh.symm;refine rO tb 7 U ?_
      first|refine A9 (B5 (T U)) U Ac ?_|refine A9 (B1 (T U)) U Ac ?_
      refine rO tb 2 U ?_
      first|refine Ae (Aa U) (fun c56=> ?_) (fun c56=> ?_)|refine Ah (Aa U) (fun c56=> ?_) (fun c56=> ?_)
      ·skip
       refine rC tb 9 U (Bc (rX tb 2 U (Ak U (Nk U) ?_)))
       first|exact⟨_,⟨_,⟨rfl,fun h=>absurd h qde⟩,rfl⟩,sbt⟩|exact⟨_,⟨0,⟨rfl,fun _=>⟨hfew,hpl,hdj⟩⟩,rfl⟩,sbt⟩
      ·have hpk:PlOk (gd fl k):=hp2 (by simpa using c56);refine rC tb 8 U ?_;refine Bj (X:=Nat) (V:=fun i=>[(7, .int .i64 (i:Nat))]) (C:=[(0,_),(3,_)]) (G:=fun i=>H) (φ:=fun i=>i≤k∧∀ j,j<i→Dj (gd fl j) (gd fl k)) (μ:=fun i=>k - i) (x0:=0) ?_ ⟨Aa U,Aa U,trivial⟩ ⟨atd,trivial⟩ sb0 ?_
       ·exact⟨Nat.zero_le _,fun j hj=>absurd hj (Nat.not_lt_zero _)⟩
       rintro i ⟨hi,hdi2⟩;refine rD tb 8 U ?_
       first|refine Ae (Aa U) (fun c59=> ?_) (fun c59=> ?_)|refine Ah (Aa U) (fun c59=> ?_) (fun c59=> ?_)
       ·have hi2:i<k:=by have h9:((i:Nat):Int)<(k:Nat):=c59;omega
        refine rC tb 5 U (Bk 8 [(0,true),(1,true),(2,true),(3,true),(4,true),(5,true),(6,true),(7,true)] _ mixd qkr sb0 ?_ Bp);refine rP tb 2 U (o_y U (Np U U runUnderlying22 sizeOf127 qom (by first|exact rfl|exact(hA k (gd fl k) (Ce qom)).1|exact(hA i (gd fl i) (Ce qom)).1)) ?_ U Ac);refine o_y U (Nn U isAgg127 sizeOf127 U (by first|exact(hA.mono (by exact sbt)).cs (i:=i) qom|exact As)) ?_ U Ac;refine rP tb 2 U (o_y U (Cx (T U) (T U) runUnderlying22 sizeOf127 qom (by first|exact rfl|exact(hA k (gd fl k) (Ce qom)).1|exact(hA i (gd fl i) (Ce qom)).1)) ?_ U Ac);refine o_y U (Nn U isAgg127 sizeOf127 U (by first|exact(hA.mono (by exact sbt)).cs (i:=k) qom|exact As)) ?_ U Ac;refine A4 U (e_ (Al (qe2 U U) call122 (common_s (gd fl i) (gd fl k) (hpl i qom) hpk)) ?_ U);rintro _ _ ⟨b3,⟨rfl,hd3⟩,hh⟩;obtain rfl:=hh.symm;refine rO tb 8 U ?_
        first|refine Ae (Aa U) (fun c71=> ?_) (fun c71=> ?_)|refine Ah (Aa U) (fun c71=> ?_) (fun c71=> ?_)
        ·skip
         refine rC tb 8 U (Bc (rX tb 3 U (Bc (rX tb 2 U (Ak U (Nk U) ?_)))))
         first|exact⟨_,⟨_,⟨rfl,fun h=>absurd h qde⟩,rfl⟩,sbt⟩|exact⟨_,⟨0,⟨rfl,fun _=>⟨hfew,hpl,hdj⟩⟩,rfl⟩,sbt⟩
        ·have hdi:Dj (gd fl i) (gd fl k):=hd3 (by simpa using c71);refine rC tb 5 U (y_ (A8 (T U) An qom) ?_ U);refine rO tb 2 U ?_;refine A6 (i+1) ?_ ?_ ⟨atd,trivial⟩ ⟨Aa U,Aa U,trivial⟩ ?_
         ·refine⟨hi2,fun j hj=> ?_⟩
          by_cases e:j=i
          ·rw[e];exact hdi
          ·exact hdi2 j qom
         ·first|omega|(simp only[];omega)
         ·exact sbt
       ·obtain rfl:k=i:=by have h9: ¬ ((i:Nat):Int)<(k:Nat):=c59;omega
        refine rC tb 2 U (Ax (rX tb 5 U (y_ (A8 (T U) An qom) ?_ U)));refine rO tb 2 U ?_;refine A6 (k+1) ?_ ?_ ⟨atd,trivial⟩ ⟨Aa U,trivial⟩ ?_
        ·refine⟨hk2,fun j hj=> ?_,fun a b hab hb=> ?_⟩
         ·by_cases e:j=k
          ·rw[e];exact hpk
          ·exact hpl j qom
         ·by_cases e:b=k
          ·rw[e];exact hdi2 a qom
          ·exact hdj a b hab qom
        ·first|omega|(simp only[];omega)
        ·exact sbt
  ·obtain rfl:k=fl.length:=by have h9: ¬ ((k:Nat):Int)<(fl.length:Nat):=c15;omega
   refine rC tb 2 U (Ax (rX tb 8 U (Ak U (Nk U) ?_)))
   first|exact⟨_,⟨_,⟨rfl,fun h=>absurd h qde⟩,rfl⟩,sbt⟩|exact⟨_,⟨0,⟨rfl,fun _=>⟨hfew,hpl,hdj⟩⟩,rfl⟩,sbt⟩
abbrev encII (x:Int):Value:= .int .i64 x
abbrev hwC (h:List Int):List Value:=h.map encII
theorem hi_cell {w0:World}{H:List (Nat × Obj)}{n o:Nat}{h:List Int}(hc:Cells w0 H n o (hwC h)){k:Nat}(hk:k<h.length):Cell w0 H ⟨n,o+((k:Nat):Int).toNat*1,none⟩ (.int .i64 (gd h k)):=by
 have:=hc k (.int .i64 (gd h k)) (by rw[List.getElem?_map,List.getElem?_eq_getElem hk,Az hk];rfl)
 rwa [show o+((k:Nat):Int).toNat*1=o+k by omega]
theorem hi_hd {h:List Int}(hl:h.length=10)(hr:∀ k,k<10→0≤gd h k∧gd h k≤65535):∃ g:Hd,HdOk g∧hwC h=hdC g:=by
 have hall:∀ x∈h,0≤x∧x≤65535:=Dq (by rw[hl];exact hr);refine⟨h.map Int.toNat,⟨by rw[List.length_map,hl],fun x hx=> ?_⟩,?_⟩
 ·obtain⟨y,hy,rfl⟩:=List.mem_map.1 hx;have:=hall y hy;omega
 ·show h.map encII=(h.map Int.toNat).map fun (x:Nat)=>encNI x
  rw[List.map_map];refine List.map_congr_left fun x hx=> ?_
  have:=hall x hx;show encII x=encNI x.toNat
  obtain⟨n,rfl⟩:=Int.eq_ofNat_of_zero_le this.1
  rfl
theorem rhead_s {w0:World}{H:List (Nat × Obj)}(h:List Int)(hl:h.length=10):
  FSpec Tryz.prog w0 27 #[.agg (hwC h).toArray] H (SayB (∀ k,k<10→0≤gd h k∧gd h k≤65535) H):=by
 refine Au Tryz.func27 U ntmps27 U (rD tb 2 U (e_ (Nr U cs_) ?_ U));rintro _ _ ⟨n1,rfl,rfl⟩;refine rO tb 10 U ?_;refine Bj (X:=Nat) (V:=fun i=>[(3, .int .i64 (i:Nat))]) (C:=[(1,_)]) (G:=fun i=>(n1,Cl (hwC h) 32)::H) (φ:=fun i=>i≤10∧∀ k,k<i→0≤gd h k∧gd h k≤65535) (μ:=fun i=>10 - i) (x0:=0) ?_ ⟨Aa U,trivial⟩ ⟨atd,trivial⟩ sb0 ?_
 ·exact⟨Nat.zero_le _,fun k hk=>absurd hk (Nat.not_lt_zero _)⟩
 rintro i ⟨hi,hr⟩;refine rD tb 7 U ?_
 first|refine Ae (Aa U) (fun c5=> ?_) (fun c5=> ?_)|refine Ah (Aa U) (fun c5=> ?_) (fun c5=> ?_)
 ·have hi2:i<10:=by have h9:((i:Nat):Int)<10:=c5;omega
  refine rC tb 7 U (y_ (Bo (T U) (T U) runUnderlying32 sizeOf3 (by have h9:((i:Nat):Int)<10:=c5;omega)) ?_ U);refine y_ (Nl U isAgg3 (by first|exact c_o|exact hi_cell (Af fdd) (by have h9:((i:Nat):Int)<10:=c5;omega))) ?_ U;refine rO tb 2 U ?_
  first|refine Av (s:=12) (Aa U) (fun c12=> ?_) (fun c12=> ?_)|refine A7 (s:=12) (Aa U) (fun c12=> ?_) (fun c12=> ?_)
  ·refine rO tb 16 U (Bc (rX tb 2 U (Ak U (Nk U) ?_)))
   first|exact⟨_,⟨false,⟨rfl,fun h=>by cases h⟩,rfl⟩,sbt⟩|exact⟨_,⟨true,⟨rfl,fun _=>hr⟩,rfl⟩,sbt⟩
  ·refine rO tb 1 U (A9 (Bo (T U) (T U) runUnderlying32 sizeOf3 (by have h9:((i:Nat):Int)<10:=c5;omega)) U (Bg U U (Aa U)) ?_);refine A9 (Nl U isAgg3 (by first|exact c_o|exact hi_cell (Af fdd) (by have h9:((i:Nat):Int)<10:=c5;omega))) U (Bg U U (Aa U)) ?_;refine rO tb 4 U ?_
   first|refine Ae (Aa U) (fun c17=> ?_) (fun c17=> ?_)|refine Ah (Aa U) (fun c17=> ?_) (fun c17=> ?_)
   ·skip
    refine rC tb 8 U (Bc (rX tb 2 U (Ak U (Nk U) ?_)))
    first|exact⟨_,⟨false,⟨rfl,fun h=>by cases h⟩,rfl⟩,sbt⟩|exact⟨_,⟨true,⟨rfl,fun _=>hr⟩,rfl⟩,sbt⟩
   ·have hw2:gd h i≤65535:=by have h9: ¬ gd h i>65535:=c17;omega
    refine rC tb 5 U (y_ (A8 (T U) An qom) ?_ U);refine rO tb 2 U ?_;refine A6 (i+1) ?_ ?_ ⟨atd,trivial⟩ ⟨Aa U,trivial⟩ ?_
    ·refine⟨hi2,fun k hk=> ?_⟩
     by_cases e:k=i
     ·subst e;exact⟨by omega,hw2⟩
     ·exact hr k qom
    ·first|omega|(simp only[];omega)
    ·exact sbt
 ·obtain rfl:i=10:=by have h9: ¬ ((i:Nat):Int)<10:=c5;omega
  refine rC tb 2 U (Ax (rX tb 8 U (Ak U (Nk U) ?_)))
  first|exact⟨_,⟨false,⟨rfl,fun h=>by cases h⟩,rfl⟩,sbt⟩|exact⟨_,⟨true,⟨rfl,fun _=>hr⟩,rfl⟩,sbt⟩
def exF:List Fd:=[⟨⟨#[100,115,116]⟩,16,8⟩,⟨⟨#[115,114,99]⟩,24,8⟩,⟨⟨#[107,105,110,100]⟩,33,3⟩]
theorem en_new {w0:World}{H:List (Nat × Obj)}{fl:List Fd}(hfl:FlOk fl){dx db:Sl}(hdx:SlOk dx fl.length 3)(hdb:SlOk db (bsF fl).length 1)(most:Int)(p m:Nat):En w0 (slH db ((bsF fl).flatMap encB1) 3++(slH dx (fl.flatMap encF) 127++H)) (NewD fl most dx db p m) fl:=
 ⟨Cw (w0:=w0) (e:=3) (enc:=encB1) (fun _=>rfl) hdb,Ef hfl,(Cw (w0:=w0) (e:=127) (X:=H) (enc:=encF) (fun _=>rfl) hdx).mono (List.sublist_append_right _ _),rfl,by have:=hfl.few;show fl.length≤1000000;omega⟩
theorem Cl'.trans {D:Hd→Hd→Prop}{h m g:Hd}(a:Cl' D h m)(b:Cl' D m g):Cl' D h g:=by
 induction a with
 |base=>exact b
 |step a _ ih=>exact .step a (ih b)
theorem Cl'.one {D:Hd→Hd→Prop}{h g:Hd}(a:D h g):Cl' D h g:= .step a (.base _)
theorem Cl'.mono {D E:Hd→Hd→Prop}(f:∀ h g,D h g→E h g){h g:Hd}(a:Cl' D h g):Cl' E h g:=by
 induction a with
 |base=>exact .base _
 |step a _ ih=>exact .step (f _ _ a) ih
section
variable {bs:List Nat} {t:Int} {x y z:Po}
variable {p q:Pd}
theorem Gt {f:Fd}{h:Hd}{n b:Nat}(hb:b<160):hbit (fset f h n) b=if f.pos≤b∧b<f.pos+f.w then n.testBit (f.pos+f.w - 1 - b) else hbit h b:=by
 unfold fset;exact Bz _ hb
theorem fset_fset {f:Fd}{h:Hd}{n m:Nat}:fset f (fset f h n) m=fset f h m:=Db (Cy _ _ _) (Cy _ _ _) fun b hb=>by
 rw[Gt hb,Gt hb,Gt hb]
 split<;>rfl
theorem fset_self {f:Fd}(hf:FdOk f){h:Hd}(hh:HdOk h):fset f h (fget f h)=h:=Db (Cy _ _ _) hh fun b hb=>by
 rw[Gt hb]
 split
 ·rename_i h1;rw[Ed,decide_eq_true qom,Bool.true_and]
  congr 1;omega
 ·rfl
end
def bsE:List Nat:=[0,1,2,3,4,5,6,7,8,9,10,11,12,13,14,15,16,17,18,19,20,21,22,23,24,25,26,27,28,29,30,31,33,34,35]
abbrev exD:Fd:=⟨⟨#[100,115,116]⟩,16,8⟩
abbrev exS:Fd:=⟨⟨#[115,114,99]⟩,24,8⟩
abbrev exK:Fd:=⟨⟨#[107,105,110,100]⟩,33,3⟩
theorem raw_ex:rawF (portFd::exF)=bsE:=by kernel_rfl
theorem Bw:bsF exF=bsE:=by
 unfold bsF;rw[raw_ex];refine List.mergeSort_of_pairwise ?_;have:(bsE.Pairwise fun x y=>x≤y):=by unfold bsE;decide
 exact this.imp fun h=>decide_eq_true h
theorem C9:FlOk exF:=by
 refine⟨fun f hf=> ?_,by unfold exF;simp,by decide⟩;simp only[exF,List.mem_cons,List.not_mem_nil,or_false] at hf;rcases hf with rfl|rfl|rfl<;>exact⟨⟨by decide,by decide,by decide,by decide⟩,by decide,by decide⟩
theorem inD:FIn bsE exD:=Bw ▸ I7 C9 (by unfold exF;simp)
theorem inK:FIn bsE exK:=Bw ▸ I7 C9 (by unfold exF;simp)
theorem inS:FIn bsE exS:=Bw ▸ I7 C9 (by unfold exF;simp)
def sQ (t:List Nat):Fs:=⟨4810363371590,2,0,t⟩
theorem rsQ (t:List Nat):Rs 70 (nsE 70) (sQ t):=⟨wf_E 70,rfl,by show 4810363371590<2 ^ (36*2);decide,fun i=>by
  match i with
  |0=>
   show gN 4810363371590 0=_
   rfl
  |1=>
   show gN 4810363371590 1=_
   rfl
  |i+2=>
   show gN 4810363371590 (i+2)=_;rw[gN_eq,Nat.div_eq_of_lt]
   ·rfl
   ·have:2 ^ (36*2)≤2 ^ (36*(i+2)):=Nat.pow_le_pow_right qde qom;exact Nat.lt_of_lt_of_le (by show 4810363371590<2 ^ (36*2);decide) this,fun i=>by
  match i with
  |0=>decide
  |1=>decide
  |i+2=>exact⟨by show (0:Nat)<128;decide,by show (0:Nat)<16384;decide,by show (0:Nat)<16384;decide⟩,fun x hx=>by cases hx⟩
noncomputable def rnC (N:Nat) (bs:List Nat) (f:Fd) (l:List (Nat × Nat)):FsT:=List.rec (motive:=fun _=>FsT) (fun s id=>some (id,s)) (fun x _ ih s id=>bO (stC (fun k=>mkP f x.2 (gd bs k)) (fun k=>vlP f x.1 x.2 (gd bs k)) bs.length s 1) fun y=>bO (apCA eOrC N y.2 id y.1) fun z=>ih z.2 z.1) l
noncomputable def truT (N:Nat) (bs:List Nat) (tick:Int):Pd→Fs→Option (Nat × Fs)
 | .tru,s=>some (1,s)
 | .fls,s=>some (0,s)
 | .eq f n,s=>stC (fun k=>mkP f f.w (gd bs k)) (fun k=>vlP f n f.w (gd bs k)) bs.length s 1
 | .no a,s=>bO (truT N bs tick a s) fun x=>apCA eNotC N x.2 x.1 x.1
 | .rng f n m,s=>rnC N bs f (rgF f.w m (m+1) n) s 0
 | .time n m,s=>some (if n≤tick∧tick<m then 1 else 0,s)
 |_,_=>none
noncomputable def polT (N:Nat) (bs:List Nat) (tick:Int) (r:Nat):Po→Fs→Option (Nat × Fs)
 | .fil p,s=>bO (truT N bs tick p s) fun x=>bO (rlC (fun _=>false) (fun _=>false) bs.length x.2 1) fun i=>apCA eAndC N i.2 x.1 i.1
 | .set f n,s=>rlC (fun k=>mkP f f.w (gd bs k)) (fun k=>vlP f n f.w (gd bs k)) bs.length s 1
 | .uni a b,s=>bO (polT N bs tick r a s) fun x=>bO (polT N bs tick r b x.2) fun y=>apCA eOrC N y.2 x.1 y.1
 | .seq a b,s=>bO (polT N bs tick r a s) fun x=>bO (polT N bs tick r b x.2) fun y=>seCA N y.2 x.1 y.1
 | .star a,s=>bO (polT N bs tick r a s) fun x=>bO (rlC (fun _=>false) (fun _=>false) bs.length x.2 1) fun i=>bO (apCA eOrC N i.2 i.1 x.1) fun o=>srC N r o.2 o.1
noncomputable def dmB (N:Nat) (ih:Kc→Fs→Nat→Option (Nat × Kc × Fs)):Kc→Fs→Nat→Option (Nat × Kc × Fs):=fun kc s a=>
 fz a fun a=>oC (lkC kc a) (fun id=>some (id,kc,s)) (bO (ih kc s (loC s a)) fun x=>bO (ih x.2.1 x.2.2 (hiC s a)) fun y=>bO (iB (Nat.beq (Nat.mod (lvC s a) 2) 0) (mkC y.2.2 (lvC s a) x.1 y.1) (apCA eOrC N y.2.2 x.1 y.1)) fun z=>some (z.1,(a,z.1)::y.2.1,z.2))
noncomputable def dmC (N k:Nat):Kc→Fs→Nat→Option (Nat × Kc × Fs):=Nat.rec (motive:=fun _=>Kc→Fs→Nat→Option (Nat × Kc × Fs)) (fun _ _ _=>none) (fun _ ih=>dmB N ih) k
theorem dmC_succ (N k:Nat)(kc:Kc)(s:Fs)(a:Nat):dmC N (k+1) kc s a=dmB N (dmC N k) kc s a:=rfl
noncomputable def domC (N:Nat) (bs:List Nat) (s:Fs) (a:Nat):Option (Nat × Fs):=bO (dmC N (N+1) [(0,0),(1,1)] s a) fun x=>bO (rlC (fun _=>false) (fun _=>false) bs.length x.2.2 1) fun i=>apCA eAndC N i.2 x.1 i.1
def Rd (kn:Kd) (kc:Kc):Prop:=∀ a,lkC kc a=look kn a
theorem rd_put {kn:Kd}{kc:Kc}(h:Rd kn kc)(a id:Nat):Rd (upsert kn a id) ((a,id)::kc):=fun b=>by
 rw[Dn];show iB (Nat.beq a b) (some id) (lkC kc b)=_;rw[C7]
 by_cases e:a=b
 ·subst e;rw[if_pos (nbeq.2 rfl),if_pos rfl]
 ·rw[if_neg (fun e2=>e (nbeq.1 e2)),if_neg e];exact h b
theorem rd_0:Rd [(0,0),(1,1)] [(0,0),(1,1)]:=fun a=>by
 rw[Df,Df];show iB (Nat.beq 0 a) (some 0) (iB (Nat.beq 1 a) (some 1) none)=_;simp only[C7,nbeq];rfl
section
variable {N most:Nat} {ns:Ns} {s:Fs} {bs:List Nat}
theorem dm_sim (hm:16384≤most)(hN:N<128):∀ (k:Nat) {kn:Kd} {kc kc':Kc} {ns:Ns} {s s':Fs} {a id:Nat},Rs N ns s→Rd kn kc→dmC N k kc s a=some (id,kc',s')→∃ kn' ms,dmF most k kn ns a=some (id,kn',ms)∧Rs N ms s'∧Rd kn' kc'
 |0,kn,kc,kc',ns,s,s',a,id,_,_,h=>by cases h
 |k+1,kn,kc,kc',ns,s,s',a,id,hs,hk,h=>by
  rw[dmC_succ] at h;unfold dmB at h;simp only[Ke] at h;rw[hk a] at h;rw[dmF];cases h1:look kn a with
  |some i=>
   rw[h1] at h;obtain⟨rfl,h2⟩:=Prod.mk.inj (Option.some.inj h);obtain⟨rfl,rfl⟩:=Prod.mk.inj h2;exact⟨kn,ns,rfl,hs,hk⟩
  |none=>
   rw[h1,Ki,hs.lo,hs.hi,hs.lv] at h;obtain⟨⟨l,kc1,s1⟩,h3,h⟩:=A2 h;obtain⟨kn1,ns1,f1,hs1,hk1⟩:=dm_sim hm hN k hs hk h3;obtain⟨⟨r,kc2,s2⟩,h4,h⟩:=A2 h;obtain⟨kn2,ns2,f2,hs2,hk2⟩:=dm_sim hm hN k hs1 hk1 h4;simp only[] at h;obtain⟨⟨i,s3⟩,h5,h⟩:=A2 h;obtain⟨rfl,h6⟩:=Prod.mk.inj (Option.some.inj h);obtain⟨rfl,rfl⟩:=Prod.mk.inj h6;rw[C7,show Nat.mod (lvl ns a) 2=lvl ns a % 2 from rfl] at h5
   by_cases e:lvl ns a % 2=0
   ·rw[if_pos (nbeq.2 e)] at h5;obtain⟨ns3,f3,hs3⟩:=G3 hm hN hs2 h5;refine⟨_,ns3,?_,hs3,rd_put hk2 _ _⟩;simp only[f1,f2,f3];rw[if_pos e];rfl
   ·rw[if_neg (fun e2=>e (nbeq.1 e2))] at h5;obtain⟨ns3,f3,hs3⟩:=D1 hm hN Jl hs2 h5;refine⟨_,ns3,?_,hs3,rd_put hk2 _ _⟩;simp only[f1,f2];rw[if_neg e];unfold orF;rw[f3];rfl
theorem dom_sim (hm:16384≤most)(hN:N<128){s':Fs}{a id:Nat}(hs:Rs N ns s)(h:domC N bs s a=some (id,s')):∃ ms,domF most bs ns a=some (id,ms)∧Rs N ms s':=by
 obtain⟨⟨x,kc,s1⟩,h1,h⟩:=A2 h;obtain⟨kn,ns1,f1,hs1,_⟩:=dm_sim hm hN _ hs rd_0 h1;obtain⟨⟨i,s2⟩,h2,h⟩:=A2 h;obtain⟨ns2,f2,hs2⟩:=I5 hm hN _ _ _ hs1 h2;obtain⟨ns3,f3,hs3⟩:=D1 hm hN eAnd_C hs2 h;refine⟨ns3,?_,hs3⟩;unfold domF;rw[hs.w.lv0,f1];show filF most bs ns1 x=_;unfold filF relF;simp only[f2];exact f3
theorem rn_sim (hm:16384≤most)(hN:N<128)(f:Fd):∀ (l:List (Nat × Nat)) {ns:Ns} {s s':Fs} {i id:Nat},Rs N ns s→rnC N bs f l s i=some (id,s')→∃ ms,rnF most bs f l ns i=some (id,ms)∧Rs N ms s'
 |[],ns,s,s',i,id,hs,h=>by
  obtain⟨rfl,rfl⟩:=Prod.mk.inj (Option.some.inj h);exact⟨ns,rfl,hs⟩
 |x::l,ns,s,s',i,id,hs,h=>by
  have h:(bO (stC (fun k=>mkP f x.2 (gd bs k)) (fun k=>vlP f x.1 x.2 (gd bs k)) bs.length s 1) fun y=>bO (apCA eOrC N y.2 i y.1) fun z=>rnC N bs f l z.2 z.1)=some (id,s'):=h;obtain⟨⟨y,s1⟩,h1,h⟩:=A2 h;obtain⟨ns1,f1,hs1⟩:=K4 hm hN _ _ _ hs h1;obtain⟨⟨z,s2⟩,h2,h⟩:=A2 h;obtain⟨ns2,f2,hs2⟩:=D1 hm hN Jl hs1 h2;obtain⟨ns3,f3,hs3⟩:=rn_sim hm hN f l hs2 h;refine⟨ns3,?_,hs3⟩;rw[rnF];unfold setPF setF orF;simp only[f1,f2];exact f3
theorem truT_sim (hm:16384≤most)(hN:N<128)(tick:Int):∀ (p:Pd) {ns:Ns} {s s':Fs} {id:Nat},Rs N ns s→truT N bs tick p s=some (id,s')→∃ ms,truF most bs tick p ns=some (id,ms)∧Rs N ms s'
 | .tru,ns,s,s',id,hs,h=>by
  obtain⟨rfl,rfl⟩:=Prod.mk.inj (Option.some.inj h);exact⟨ns,rfl,hs⟩
 | .fls,ns,s,s',id,hs,h=>by
  obtain⟨rfl,rfl⟩:=Prod.mk.inj (Option.some.inj h);exact⟨ns,rfl,hs⟩
 | .eq f n,ns,s,s',id,hs,h=>K4 hm hN _ _ _ hs h
 | .no a,ns,s,s',id,hs,h=>by
  have h:(bO (truT N bs tick a s) fun x=>apCA eNotC N x.2 x.1 x.1)=some (id,s'):=h;obtain⟨⟨x,s1⟩,h1,h⟩:=A2 h;obtain⟨ns1,f1,hs1⟩:=truT_sim hm hN tick a hs h1;obtain⟨ns2,f2,hs2⟩:=D1 hm hN eNot_C hs1 h;exact⟨ns2,by rw[truF,f1];exact f2,hs2⟩
 | .rng f n m,ns,s,s',id,hs,h=>rn_sim hm hN f _ hs h
 | .time n m,ns,s,s',id,hs,h=>by
  obtain⟨rfl,rfl⟩:=Prod.mk.inj (Option.some.inj h);exact⟨ns,rfl,hs⟩
 | .pre ..,_,_,_,_,_,h=>by cases h
 | .and ..,_,_,_,_,_,h=>by cases h
 | .or ..,_,_,_,_,_,h=>by cases h
theorem By (hm:16384≤most)(hN:N<128)(tick:Int)(r:Nat):∀ (p:Po) {ns:Ns} {s s':Fs} {id:Nat},Rs N ns s→polT N bs tick r p s=some (id,s')→∃ ms,polF most bs tick r p ns=some (id,ms)∧Rs N ms s'
 | .fil p,ns,s,s',id,hs,h=>by
  have h:(bO (truT N bs tick p s) fun x=>bO (rlC (fun _=>false) (fun _=>false) bs.length x.2 1) fun i=>apCA eAndC N i.2 x.1 i.1)=some (id,s'):=h;obtain⟨⟨x,s1⟩,h1,h⟩:=A2 h;obtain⟨ns1,f1,hs1⟩:=truT_sim hm hN tick p hs h1;obtain⟨⟨i,s2⟩,h2,h⟩:=A2 h;obtain⟨ns2,f2,hs2⟩:=I5 hm hN _ _ _ hs1 h2;obtain⟨ns3,f3,hs3⟩:=D1 hm hN eAnd_C hs2 h;exact⟨ns3,by rw[polF,f1];show filF most bs ns1 x=_;unfold filF relF;simp only[f2];exact f3,hs3⟩
 | .set f n,ns,s,s',id,hs,h=>I5 hm hN _ _ _ hs h
 | .uni a b,ns,s,s',id,hs,h=>by
  have h:(bO (polT N bs tick r a s) fun x=>bO (polT N bs tick r b x.2) fun y=>apCA eOrC N y.2 x.1 y.1)=some (id,s'):=h;obtain⟨⟨x,s1⟩,h1,h⟩:=A2 h;obtain⟨ns1,f1,hs1⟩:=By hm hN tick r a hs h1;obtain⟨⟨y,s2⟩,h2,h⟩:=A2 h;obtain⟨ns2,f2,hs2⟩:=By hm hN tick r b hs1 h2;obtain⟨ns3,f3,hs3⟩:=D1 hm hN Jl hs2 h;exact⟨ns3,by rw[polF];simp only[f1,f2];exact f3,hs3⟩
 | .seq a b,ns,s,s',id,hs,h=>by
  have h:(bO (polT N bs tick r a s) fun x=>bO (polT N bs tick r b x.2) fun y=>seCA N y.2 x.1 y.1)=some (id,s'):=h;obtain⟨⟨x,s1⟩,h1,h⟩:=A2 h;obtain⟨ns1,f1,hs1⟩:=By hm hN tick r a hs h1;obtain⟨⟨y,s2⟩,h2,h⟩:=A2 h;obtain⟨ns2,f2,hs2⟩:=By hm hN tick r b hs1 h2;obtain⟨ns3,f3,hs3⟩:=G4 hm hN hs2 h;exact⟨ns3,by rw[polF];simp only[f1,f2];exact f3,hs3⟩
 | .star a,ns,s,s',id,hs,h=>by
  have h:(bO (polT N bs tick r a s) fun x=>bO (rlC (fun _=>false) (fun _=>false) bs.length x.2 1) fun i=>bO (apCA eOrC N i.2 i.1 x.1) fun o=>srC N r o.2 o.1)=some (id,s'):=h;obtain⟨⟨x,s1⟩,h1,h⟩:=A2 h;obtain⟨ns1,f1,hs1⟩:=By hm hN tick r a hs h1;obtain⟨⟨i,s2⟩,h2,h⟩:=A2 h;obtain⟨ns2,f2,hs2⟩:=I5 hm hN _ _ _ hs1 h2;obtain⟨⟨o,s3⟩,h3,h⟩:=A2 h;obtain⟨ns3,f3,hs3⟩:=D1 hm hN Jl hs2 h3;obtain⟨ns4,f4,hs4⟩:=sr_sim hm hN r hs3 h;refine⟨ns4,?_,hs4⟩;rw[polF];simp only[f1];unfold starF relF orF;simp only[f2,f3];exact f4
end
theorem arrPo1 {w0:World}{n:Nat}{a:Pom}{t:TypeId}{H:List (Nat × Obj)}(hf:Fnd H n (Cl (encPo a) t)):Arr w0 H (some ⟨n,0,none⟩) 9 encPo [a]:=fun j x hj=>by
 refine⟨rfl,fun k v hk=> ?_⟩
 match j,hj with
 |0,hj=>
  have:a=x:=by simpa using hj
  subst this;exact Dy hf (by show (encPo a)[0+0*9+k]? =some v;rw[show (0:Nat)+0*9+k=k by omega];exact hk)
theorem arrPo2 {w0:World}{n:Nat}{a b:Pom}{t:TypeId}{H:List (Nat × Obj)}(hf:Fnd H n (Cl (encPo a++encPo b) t)):Arr w0 H (some ⟨n,0,none⟩) 9 encPo [a,b]:=fun j x hj=>by
 refine⟨rfl,fun k v hk=> ?_⟩
 match j,hj with
 |0,hj=>
  have:a=x:=by simpa using hj
  subst this;exact Dy hf (by show (encPo a++encPo b)[0+0*9+k]? =some v;rw[show (0:Nat)+0*9+k=k by omega,List.getElem?_append_left (by exact(List.getElem?_eq_some_iff.1 hk).1)];exact hk)
 |1,hj=>
  have:b=x:=by simpa using hj
  subst this;exact Dy hf (by show (encPo a++encPo b)[0+1*9+k]? =some v;rw[show (0:Nat)+1*9+k=(encPo a).length+k by show 0+1*9+k=9+k;omega,List.getElem?_append_right qom,Nat.add_sub_cancel_left];exact hk)
abbrev nD:ByteArray:=⟨#[100,115,116]⟩
abbrev nK:ByteArray:=⟨#[107,105,110,100]⟩
abbrev mSet (nm:ByteArray) (n:Int):Pom:= .mk 2 pd0 nm n none 0 []
abbrev mFil (m:Pdm):Pom:= .mk 1 m ⟨#[]⟩ 0 none 0 []
abbrev mEq (nm:ByteArray) (n:Int):Pdm:= .mk 3 nm n 0 none 0 []
abbrev mNo (b:Nat) (m:Pdm):Pdm:= .mk 6 ⟨#[]⟩ 0 0 (some ⟨b,0,none⟩) 1 [m]
abbrev mTru:Pdm:= .mk 1 ⟨#[]⟩ 0 0 none 0 []
abbrev mOp2 (k:Int) (b:Nat) (x y:Pom):Pom:= .mk k pd0 ⟨#[]⟩ 0 (some ⟨b,0,none⟩) 2 [x,y]
abbrev mOp1 (k:Int) (b:Nat) (x:Pom):Pom:= .mk k pd0 ⟨#[]⟩ 0 (some ⟨b,0,none⟩) 1 [x]
section
variable {w0:World} {H R:List (Nat × Obj)}
theorem Dr {k:Int}{b:Nat}{x y:Pom}(hf:Fnd R b (Cl (encPo x++encPo y) 28))(hx:PoM w0 R x)(hy:PoM w0 R y):PoM w0 R (mOp2 k b x y):= .mk C4 (arrPo2 hf) fun a ha=>by
 simp only[List.mem_cons,List.not_mem_nil,or_false] at ha;rcases ha with rfl|rfl
 ·exact hx
 ·exact hy
theorem po_op1 {k:Int}{b:Nat}{x:Pom}(hf:Fnd R b (Cl (encPo x) 28))(hx:PoM w0 R x):PoM w0 R (mOp1 k b x):= .mk C4 (arrPo1 hf) fun a ha=>by
 simp only[List.mem_singleton] at ha;subst ha;exact hx
theorem C5 {k:Int}{s:ByteArray}{v t:Int}:PdM w0 R (.mk k s v t none 0 []):= .mk (fun i u hi=>by simp at hi) (fun a ha=>by simp at ha)
theorem arrPd1 {n:Nat}{a:Pdm}{t:TypeId}(hf:Fnd R n (Cl (encPd a) t)):Arr w0 R (some ⟨n,0,none⟩) 5 encPd [a]:=fun j x hj=>by
 refine⟨rfl,fun k v hk=> ?_⟩
 match j,hj with
 |0,hj=>
  have:a=x:=by simpa using hj
  subst this;exact Dy hf (by show (encPd a)[0+0*5+k]? =some v;rw[show (0:Nat)+0*5+k=k by omega];exact hk)
theorem pd_no {b:Nat}{m:Pdm}(hf:Fnd R b (Cl (encPd m) 25))(hx:PdM w0 R m):PdM w0 R (mNo b m):= .mk (arrPd1 hf) fun a ha=>by
 simp only[List.mem_singleton] at ha;subst ha;exact hx
theorem fndD:(fndFd exF nD).1=exD:=by kernel_rfl
theorem fndK:(fndFd exF nK).1=exK:=by kernel_rfl
theorem Ck {nm:ByteArray}{n:Nat}{f:Fd}(h:(fndFd exF nm).1=f):IsO exF (mSet nm n) (.set f n):=h ▸ .set U U
theorem is_eq {nm:ByteArray}{n:Nat}{f:Fd}(h:(fndFd exF nm).1=f):IsP exF (mEq nm n) (.eq f n):=h ▸ .eq U U
theorem pin (n:Nat)(h:n<4):(n:Nat)<2 ^ exD.w∧n<2 ^ exK.w:=⟨by show n<2 ^ 8;omega,by show n<2 ^ 3;omega⟩
end
instance:Inhabited Chm:=⟨⟨(hd0,hd0), .blk 0 0 [],[]⟩⟩
theorem yl_neF {P:Program}{w0:World}{L:Fm}{H:List (Nat × Obj)}{ty xt yt:TypeId}{x y:Operand}{k:IntKind}{a c:Int}(hx:Ev L x (.int k a))(hy:Ev L y (.int k c))(h:a=c):Yl P w0 (.binOp .neq xt x y yt) ty L H (.bool false):=by
 have:=yl_neq (P:=P) (w0:=w0) (H:=H) (ty:=ty) (xt:=xt) (yt:=yt) hx hy
 rwa [decide_eq_false (fun e=>e h)] at this
theorem yl_eqT {P:Program}{w0:World}{L:Fm}{H:List (Nat × Obj)}{ty xt yt:TypeId}{x y:Operand}{k:IntKind}{a c:Int}(hx:Ev L x (.int k a))(hy:Ev L y (.int k c))(h:a=c):Yl P w0 (.binOp .eql xt x y yt) ty L H (.bool true):=by
 have:=yl_eql (P:=P) (w0:=w0) (H:=H) (ty:=ty) (xt:=xt) (yt:=yt) hx hy
 rwa [decide_eq_true h] at this
theorem eqH0 (w:World):(Op.equal 32 (.agg (hdC hd0).toArray) (.agg (hdC hd0).toArray)).run Tryz.prog w= .ok (decide True) w:=by kernel_rfl
theorem He {α:Type}{F:Option α}{z:α}{e:Int}{A B:Prop}(h:(F=some z∧e=0)∨(F=none∧A∧e=12∧B))(he:e=0):F=some z:=by
 rcases h with h|h
 ·exact h.1
 ·have:=h.2.2.1;omega
theorem eqHd {a b:Hd}(ha:HdOk a)(hb:HdOk b)(w:World):(Op.equal 32 (.agg (hdC a).toArray) (.agg (hdC b).toArray)).run Tryz.prog w= .ok (decide (a=b)) w:=by
 obtain⟨a0,a1,a2,a3,a4,a5,a6,a7,a8,a9,rfl⟩:=hd10 ha;obtain⟨b0,b1,b2,b3,b4,b5,b6,b7,b8,b9,rfl⟩:=hd10 hb;unfold Op.equal Op.maxDepth;rw[run_equalIn_array (i:=Tryz.prog.types.getD 3 default) w 9999 _ _ (show Tryz.prog.underlying 32=some (.array 10 3) from by kernel_rfl) qkr];have h:=eqItems_ints 9998 3 .i64 .i64 qkr part3 [(a0:Int),(a1:Int),(a2:Int),(a3:Int),(a4:Int),(a5:Int),(a6:Int),(a7:Int),(a8:Int),(a9:Int)] [(b0:Int),(b1:Int),(b2:Int),(b3:Int),(b4:Int),(b5:Int),(b6:Int),(b7:Int),(b8:Int),(b9:Int)] w [0,1,2,3,4,5,6,7,8,9] (by simp);rw[show Tryz.prog.cellsOf 3=1 from by kernel_rfl,show List.range 10=[0,1,2,3,4,5,6,7,8,9] from rfl];show (Op.eqItems (9998+1) 3 1 ([(a0:Int),(a1:Int),(a2:Int),(a3:Int),(a4:Int),(a5:Int),(a6:Int),(a7:Int),(a8:Int),(a9:Int)].map (Value.int .i64)).toArray ([(b0:Int),(b1:Int),(b2:Int),(b3:Int),(b4:Int),(b5:Int),(b6:Int),(b7:Int),(b8:Int),(b9:Int)].map (Value.int .i64)).toArray [0,1,2,3,4,5,6,7,8,9]).run Tryz.prog w=_;rw[h];refine congrArg (fun r=>Result.ok r w) ?_;rw[Bool.eq_iff_iff];simp[gd];omega
theorem fget_le {f:Fd}(hf:FdOk f){h:Hd}(hh:HdOk h):fget f h*2 ^ (16 - f.pos % 16 - f.w)≤gd h (f.pos / 16):=by
 rw[Jg hf hh]
 generalize 2 ^ (16 - f.pos % 16 - f.w)=s;have h3:=Nat.div_mul_le_self (gd h (f.pos / 16)) s;have h4:gd h (f.pos / 16) / s % 2 ^ f.w≤gd h (f.pos / 16) / s:=Nat.mod_le _ _;exact Nat.le_trans (Nat.mul_le_mul_right _ h4) h3
theorem yl_addW {P:Program}{w0:World}{L:Fm}{H:List (Nat × Obj)}{ty xt yt:TypeId}{x y:Operand}{a n v p:Nat}(hx:Ev L x (.int .i64 (a:Nat)))(hy:Ev L y (.int .i64 ((((n:Nat):Int) - ((v:Nat):Int))*((p:Nat):Int))))(h:v*p≤a∧a≤65535∧n*p≤65536):Yl P w0 (.binOp .add xt x y yt) ty L H (.int .i64 ((a - v*p+n*p:Nat):Int)):=by
 have e:(a:Int)+(((n:Nat):Int) - ((v:Nat):Int))*((p:Nat):Int)=((a - v*p+n*p:Nat):Int):=by
  rw[Int.sub_mul,← Int.natCast_mul,← Int.natCast_mul];omega
 have h:=A8 (P:=P) (w0:=w0) (H:=H) (ty:=ty) (xt:=xt) (yt:=yt) hx hy (by rw[e];omega)
 rwa [e] at h
theorem yl_mulW {P:Program}{w0:World}{L:Fm}{H:List (Nat × Obj)}{ty xt yt:TypeId}{x y:Operand}{n v p:Nat}(hx:Ev L x (.int .i64 (((n:Nat):Int) - ((v:Nat):Int))))(hy:Ev L y (.int .i64 (p:Nat)))(h:v*p≤65536∧n*p≤65536):Yl P w0 (.binOp .mul xt x y yt) ty L H (.int .i64 ((((n:Nat):Int) - ((v:Nat):Int))*((p:Nat):Int))):=by
 have e:(((n:Nat):Int) - ((v:Nat):Int))*((p:Nat):Int)=((n*p:Nat):Int) - ((v*p:Nat):Int):=by
  rw[Int.sub_mul,← Int.natCast_mul,← Int.natCast_mul]
 exact Fe (P:=P) (w0:=w0) (H:=H) (ty:=ty) (xt:=xt) (yt:=yt) hx hy (by rw[e];omega)
theorem rlast_s {w0:World}{H:List (Nat × Obj)}(f:Fd)(hf:FdOk f):
  FSpec Tryz.prog w0 130 #[.agg (encF f).toArray] H (Still (.int .i64 ((2 ^ (16 - f.pos % 16 - f.w):Nat):Int)) H):=by
 refine Au Tryz.func130 U ntmps130 U ?_;have h1:=hf.fit;have h2:=hf.lt;have h3:=hf.w16;have h4:=hf.w1;refine rD tb 2 U (e_ (Nr U cs_) ?_ U);rintro _ _ ⟨n1,rfl,rfl⟩;refine rO tb 6 U (y_ (Nl U isAgg3 (by first|exact c_o)) ?_ U);refine y_ (F9 (c:=16) (T U) An qom) ?_ U;refine y_ (Dc (a:=16) An (T U) qom) ?_ U;refine rO tb 1 U (y_ (Nl U isAgg3 (by first|exact c_o)) ?_ U);refine y_ (Dc (T U) (T U) qom) ?_ U;refine y_ (Aw (qe1 U) call152 (fun H' hs=>rpower_s (16 - f.pos % 16 - f.w) qom)) ?_ U;refine rO tb 4 U (Ak U (Nk U) ?_);exact⟨_,⟨rfl,rfl⟩,sbt⟩
theorem rget_s {w0:World}{H:List (Nat × Obj)}(f:Fd)(hf:FdOk f)(h:Hd)(hh:HdOk h):
  FSpec Tryz.prog w0 113 #[.agg (encF f).toArray, .agg (hdC h).toArray] H (Still (.int .i64 (fget f h:Nat)) H):=by
 refine Au Tryz.func113 U ntmps113 U ?_;have h1:=hf.fit;have h2:=hf.lt;have h3:=hf.w16;have h4:=hf.w1;have hlen:=hh.len;have hgl:=Cq hh (f.pos / 16);have hp:f.pos / 16<h.length:=by omega
 refine rD tb 2 U (e_ (Nr U cs_) ?_ U);rintro _ _ ⟨n2,rfl,rfl⟩;refine e_ (Nr U cs_) ?_ U;rintro _ _ ⟨n3,rfl,rfl⟩;refine rO tb 4 U (Bk 13 [(0,true),(1,true),(2,true),(3,true),(4,true),(5,true),(6,true),(7,true),(8,true),(9,true),(10,true),(11,true),(12,true)] _ mixd qkr sb0 ?_ Bp);refine rP tb 1 U (o_y U (Nl U isAgg3 (by first|exact c_o)) ?_ U Ac);refine o_y U (Dv (c:=16) (T U) An qom) ?_ U Ac;refine o_y U (Bo (T U) (T U) runUnderlying32 sizeOf3 qom) ?_ U Ac;refine o_y U (Nl U isAgg3 (by first|exact c_o|exact Cj (Af fdd) hp)) ?_ U Ac;refine o_y U (Nn U isAgg127 sizeOf127 U (by first|exact As)) ?_ U Ac;refine o_y U (Aw (qe1 U) call130 (fun H' hs=>rlast_s f hf)) (o_y U (Dv (T U) (T U) (by have:=Nat.two_pow_pos (16 - f.pos % 16 - f.w);omega)) ?_ U Ac) U Ac;refine rP tb 1 U (o_y U (Nl U isAgg3 (by first|exact c_o)) ?_ U Ac);refine o_y U (Aw (qe1 U) call152 (fun H' hs=>rpower_s f.w h3)) (o_y U (F9 (T U) (T U) (by have:=Nat.two_pow_pos f.w;omega)) ?_ U Ac) U Ac;refine rP tb 1 U (A4 U (rO tb 3 U (Ak U (Nk U) ?_)));exact⟨_,⟨vint (by rw[Jg hf hh]),rfl⟩,by exact sbt⟩
theorem rset_s {w0:World}{H:List (Nat × Obj)}(f:Fd)(hf:FdOk f)(h:Hd)(hh:HdOk h)(n:Nat)(hn:n<2 ^ f.w):
  FSpec Tryz.prog w0 83 #[.agg (encF f).toArray, .agg (hdC h).toArray, .int .i64 (n:Nat)] H (Still (.agg (hdC (fset f h n)).toArray) H):=by
 refine Au Tryz.func83 U ntmps83 U ?_;have h1:=hf.fit;have h2:=hf.lt;have h3:=hf.w16;have h4:=hf.w1;have hlen:=hh.len;have hgl:=Cq hh (f.pos / 16);have hp:f.pos / 16<h.length:=by omega
 have hfl:=fget_le hf hh;have hgt:=fget_lt f h;have hpw:2 ^ f.w≤2 ^ 16:=Nat.pow_le_pow_right qom h3;have hpw:2 ^ f.w≤65536:=hpw;have hsl:2 ^ f.w*2 ^ (16 - f.pos % 16 - f.w)≤65536:=by rw[← Nat.pow_add];exact C8 qom
 have hnl:n*2 ^ (16 - f.pos % 16 - f.w)≤2 ^ f.w*2 ^ (16 - f.pos % 16 - f.w):=Nat.mul_le_mul_right _ qom;have hfw:=fset_word hf hh hn;have hso:=Cy f h n;refine rD tb 2 U (e_ (Nr U cs_) ?_ U);rintro _ _ ⟨n3,rfl,rfl⟩;refine e_ (Nr U cs_) ?_ U;rintro _ _ ⟨n4,rfl,rfl⟩;refine e_ (Ai zeroValue32 cs_) ?_ U;rintro _ _ ⟨n6,rfl,rfl⟩;refine rO tb 4 U (y_ (Nn U isAgg127 sizeOf127 U (by first|exact As)) ?_ U);refine y_ (Nn U isAgg32 sizeOf32 (Aj hh) (by first|exact Af fdd|exact As)) ?_ U;refine y_ (Aw (qe2 U U) call113 (fun H' hs=>rget_s f hf h hh)) (rO tb 4 U (Bk 16 [(0,true),(1,true),(2,true),(3,true),(4,true),(5,true),(6,true),(7,true),(8,true),(9,true),(10,true),(11,true),(12,true),(13,true),(14,true),(15,true)] _ mixd qkr sb0 ?_ Bp)) U;refine rP tb 1 U (o_y U (Nl U isAgg3 (by first|exact c_o)) ?_ U Ac);refine o_y U (Dv (c:=16) (T U) An qom) ?_ U Ac;refine rP tb 1 U (o_y U (Nl U isAgg3 (by first|exact c_o)) ?_ U Ac);refine o_y U (Dv (c:=16) (T U) An qom) ?_ U Ac;refine o_y U (Bo (T U) (T U) runUnderlying32 sizeOf3 qom) ?_ U Ac;refine o_y U (Nl U isAgg3 (by first|exact c_o|exact Cj (Af fdd) hp)) ?_ U Ac;refine rP tb 2 U (o_y U (Jz (T U) (T U) qom) ?_ U Ac);refine o_y U (Nn U isAgg127 sizeOf127 U (by first|exact As)) ?_ U Ac;refine o_y U (Aw (qe1 U) call130 (fun H' hs=>rlast_s f hf)) (o_y U (yl_mulW (T U) (T U) qom) ?_ U Ac) U Ac;refine o_y U (yl_addW (T U) (T U) qom) ?_ U Ac;refine o_y U (Bo (T U) (T U) runUnderlying32 sizeOf3 qom) ?_ U Ac;refine A4 U (e_ (Bi (T U) (T U) U sizeOf3 (hs:=Gp hp)) ?_ U);rintro _ _ ⟨rfl,rfl⟩;rw[← hfw];refine rO tb 4 U ?_;refine y_ (Nn U isAgg32 sizeOf32 (Aj hso) (by first|exact Af fdd|exact As)) ?_ U;refine e_ (Nq U U sizeOf32 .agg (Bh _) (Aj hso) (by repeat (first|exact Upd.h|apply Upd.t|apply Bl)) (by rw[Aj hso];rfl)) ?_ U;rintro _ _ ⟨rfl,rfl⟩;refine rO tb 3 U (Ak U (.cellA (Aa U) isAgg32 sizeOf32 (Aj hso) (by first|exact As) .nil) ?_);exact⟨_,⟨rfl,rfl⟩,by exact sbt⟩
theorem cmp_at {a b:List Nat}{k:Nat}(h1:k<a.length)(h2:k<b.length)(h:cmpL a b=cmpL (a.drop k) (b.drop k)):(gd a k<gd b k→cmpL a b= -1)∧(gd b k<gd a k→cmpL a b=1)∧(gd a k=gd b k→cmpL a b=cmpL (a.drop (k+1)) (b.drop (k+1))):=by
 rw[h,cmpL_drop h1 h2];unfold cmpI;refine⟨fun e=> ?_,fun e=> ?_,fun e=> ?_⟩
 ·rw[if_pos (show ((gd a k:Nat):Int)<(gd b k:Nat) by omega)];rfl
 ·rw[if_neg (show ¬ ((gd a k:Nat):Int)<(gd b k:Nat) by omega),if_pos (show ((gd b k:Nat):Int)<(gd a k:Nat) by omega)];rfl
 ·rw[if_neg (show ¬ ((gd a k:Nat):Int)<(gd b k:Nat) by omega),if_neg (show ¬ ((gd b k:Nat):Int)<(gd a k:Nat) by omega)];rfl
theorem loc_nil {α:Type}{e:TypeId}{X:List (Nat × Obj)}{enc:α→List Value}:LocL X (slH .nil (([]:List α).flatMap enc) e) X (fun M'=>M'++X):=show LocL ([]++X) [] X (fun M'=>M'++X) from .h
abbrev HsA (w0:World) (H:List (Nat × Obj)) (l:List Hd) (q:Option Addr) (c:Nat):Prop:=Arr w0 H q 10 encHd l∧(∀ x∈l,HdOk x)∧l.length≤c
theorem HsA.mono {w0:World}{H H':List (Nat × Obj)}{l:List Hd}{q:Option Addr}{c:Nat}(h:HsA w0 H l q c)(hs:H.Sublist H'):HsA w0 H' l q c:=⟨h.1.mono hs,h.2⟩
theorem HsA.hd {w0:World}{H:List (Nat × Obj)}{l:List Hd}{q:Option Addr}{c:Nat}(h:HsA w0 H l q c):Arr w0 H q 10 hdC l:=arr_hd h.1 h.2.1
theorem HsA.ok {w0:World}{H:List (Nat × Obj)}{l:List Hd}{q:Option Addr}{c k:Nat}(h:HsA w0 H l q c)(hk:k<l.length):HdOk (gd l k):=h.2.1 _ (Ba hk)
theorem cmp18_s {w0:World}{H:List (Nat × Obj)}(a b:Hd)(ha:HdOk a)(hb:HdOk b):
  FSpec Tryz.prog w0 30 #[.agg (hdC a).toArray, .agg (hdC b).toArray] H (Still (.int .i64 (cmpL a b)) H):=by
 refine Au Tryz.func30 U ntmps30 U ?_;have hla:=ha.len;have hlb:=hb.len;refine rD tb 2 U (e_ (Nr U cs_) ?_ U);rintro _ _ ⟨n2,rfl,rfl⟩;refine e_ (Nr U cs_) ?_ U;rintro _ _ ⟨n3,rfl,rfl⟩;refine rO tb 10 U ?_;refine Bj (X:=Nat) (V:=fun k=>[(5, .int .i64 (k:Nat))]) (C:=[(2,_),(3,_)]) (G:=fun k=>(n3,Cl (hdC b) 32)::(n2,Cl (hdC a) 32)::H) (φ:=fun k=>k≤10∧cmpL a b=cmpL (a.drop k) (b.drop k)) (μ:=fun k=>10 - k) (x0:=0) ?_ ⟨Aa U,Aa U,trivial⟩ ⟨atd,trivial⟩ sb0 ?_
 ·exact⟨Nat.zero_le _,rfl⟩
 rintro k ⟨hk,hd⟩;refine rD tb 7 U ?_
 first|refine Ae (Aa U) (fun c7=> ?_) (fun c7=> ?_)|refine Ah (Aa U) (fun c7=> ?_) (fun c7=> ?_)
 ·have hk2:k<10:=by have h9:((k:Nat):Int)<10:=c7;omega
  obtain⟨hl,hg,he⟩:=cmp_at qom qom hd;refine rC tb 6 U (Bk 7 [(0,true),(1,true),(2,true),(3,true),(4,true),(5,true),(6,true)] _ mixd qkr sb0 ?_ Bp);refine rP tb 1 U (o_y U (Bo (T U) (T U) runUnderlying32 sizeOf3 qom) ?_ U Ac);refine o_y U (Nl U isAgg3 (by first|exact c_o|exact Cj (Af fdd) (show k<a.length by omega))) ?_ U Ac;refine rP tb 1 U (o_y U (Bo (T U) (T U) runUnderlying32 sizeOf3 qom) ?_ U Ac);refine o_y U (Nl U isAgg3 (by first|exact c_o|exact Cj (Af fdd) (show k<b.length by omega))) ?_ U Ac;refine rP tb 1 U (A4 U (rO tb 2 U ?_))
  first|refine Ae (Aa U) (fun c16=> ?_) (fun c16=> ?_)|refine Ah (Aa U) (fun c16=> ?_) (fun c16=> ?_)
  ·refine rC tb 9 U (Bc (rX tb 2 U (Ak U (Nk U) ?_)));exact⟨_,⟨vint (hl qom).symm,rfl⟩,by exact sbt⟩
  ·refine rC tb 3 U (Bk 7 [(0,true),(1,true),(2,true),(3,true),(4,true),(5,true),(6,true)] _ mixd qkr sb0 ?_ Bp);refine rP tb 1 U (o_y U (Bo (T U) (T U) runUnderlying32 sizeOf3 qom) ?_ U Ac);refine o_y U (Nl U isAgg3 (by first|exact c_o|exact Cj (Af fdd) (show k<a.length by omega))) ?_ U Ac;refine rP tb 1 U (o_y U (Bo (T U) (T U) runUnderlying32 sizeOf3 qom) ?_ U Ac);refine o_y U (Nl U isAgg3 (by first|exact c_o|exact Cj (Af fdd) (show k<b.length by omega))) ?_ U Ac;refine rP tb 1 U (A4 U (rO tb 2 U ?_))
   first|refine Ae (Aa U) (fun c23=> ?_) (fun c23=> ?_)|refine Ah (Aa U) (fun c23=> ?_) (fun c23=> ?_)
   ·refine rC tb 8 U (Bc (rX tb 2 U (Ak U (Nk U) ?_)));exact⟨_,⟨vint (hg qom).symm,rfl⟩,by exact sbt⟩
   ·refine rC tb 5 U (y_ (A8 (T U) An qom) ?_ U);refine rO tb 2 U ?_;refine A6 (k+1) ?_ ?_ ⟨atd,trivial⟩ ⟨Aa U,Aa U,trivial⟩ ?_
    ·exact⟨hk2,he qom⟩
    ·first|omega|(simp only[];omega)
    ·exact sbt
 ·obtain rfl:k=10:=by have h9: ¬ ((k:Nat):Int)<10:=c7;omega
  refine rC tb 2 U (Ax (rX tb 8 U (Ak U (Nk U) ?_)));exact⟨_,⟨vint (by rw[hd,List.drop_of_length_le qom,List.drop_of_length_le qom];rfl),rfl⟩,by exact sbt⟩
theorem rin_s {w0:World}{H:List (Nat × Obj)}(l:List Hd)(q:Option Addr)(c:Nat)(hA:HsA w0 H l q c)(h:Hd)(hh:HdOk h)(hlen:l.length≤1000000):
  FSpec Tryz.prog w0 131 #[.slice q l.length c, .agg (hdC h).toArray] H (Still (.bool (decide (h∈l))) H):=by
 refine Au Tryz.func131 U ntmps131 U (rD tb 2 U (e_ (Nr U cs_) ?_ U));rintro _ _ ⟨n3,rfl,rfl⟩;refine rO tb 10 U ?_;refine Bj (X:=Nat) (V:=fun k=>[(5, .int .i64 (k:Nat))]) (C:=[(0,_),(3,_)]) (G:=fun k=>(n3,Cl (hdC h) 32)::H) (φ:=fun k=>k≤l.length∧∀ j,j<k→gd l j≠h) (μ:=fun k=>l.length - k) (x0:=0) ?_ ⟨Aa U,Aa U,trivial⟩ ⟨atd,trivial⟩ sb0 ?_
 ·exact⟨Nat.zero_le _,fun j hj=>absurd hj (Nat.not_lt_zero _)⟩
 rintro k ⟨hk,hn⟩;refine rD tb 9 U ?_
 first|refine Ae (Aa U) (fun c9=> ?_) (fun c9=> ?_)|refine Ah (Aa U) (fun c9=> ?_) (fun c9=> ?_)
 ·have hk2:k<l.length:=by have h9:((k:Nat):Int)<(l.length:Nat):=c9;omega
  refine rC tb 5 U (Bk 6 [(0,true),(1,true),(2,true),(3,true),(4,true),(5,true)] _ mixd qkr sb0 ?_ Bp);refine rP tb 2 U (o_y U (Np U U runUnderlying58 sizeOf32 qom (by first|exact rfl|exact hA.1.b (i:=k) qom)) ?_ U Ac);refine o_y U (Nn U isAgg32 sizeOf32 (Aj (hA.ok (k:=k) qom)) (by first|exact((hA.mono (by exact sbt)).hd).cs (i:=k) qom|exact As)) ?_ U Ac;refine o_y U (Nn U isAgg32 sizeOf32 (Aj hh) (by first|exact As)) ?_ U Ac;refine o_y U (Hn (T U) (T U) qkr (eqHd (hA.ok (k:=k) qom) hh)) ?_ U Ac;refine A4 U (rO tb 2 U ?_)
  first|refine Ae (Aa U) (fun c17=> ?_) (fun c17=> ?_)|refine Ah (Aa U) (fun c17=> ?_) (fun c17=> ?_)
  ·refine rC tb 8 U (Bc (rX tb 2 U (Ak U (Nk U) ?_)));exact⟨_,⟨congrArg Value.bool (decide_eq_true (by have e:gd l k=h:=c17;rw[← e];exact Ba hk2)).symm,rfl⟩,by exact sbt⟩
  ·refine rC tb 5 U (y_ (A8 (T U) An qom) ?_ U);refine rO tb 2 U ?_;refine A6 (k+1) ?_ ?_ ⟨atd,trivial⟩ ⟨Aa U,Aa U,trivial⟩ ?_
   ·refine⟨hk2,fun j hj=> ?_⟩
    by_cases e:j=k
    ·rw[e];exact c17
    ·exact hn j qom
   ·first|omega|(simp only[];omega)
   ·exact sbt
 ·obtain rfl:k=l.length:=by have h9: ¬ ((k:Nat):Int)<(l.length:Nat):=c9;omega
  refine rC tb 2 U (Ax (rX tb 8 U (Ak U (Nk U) ?_)));exact⟨_,⟨congrArg Value.bool (decide_eq_false (fun hm=>(Dq (p:=fun x=>x≠h) hn) h hm U)).symm,rfl⟩,by exact sbt⟩
theorem eq_of_gd {α:Type}[Inhabited α] {l m:List α}(hl:l.length=m.length)(h:∀ j,j<l.length→gd l j=gd m j):l=m:=List.ext_getElem hl fun i h1 h2=>by
 have:=h i h1
 rwa [Az h1,Az h2] at this
theorem put_found {l:List Hd}{h:Hd}{k:Nat}(hk:k<l.length)(e:gd l k=h)(x:Hd):x∈l↔x∈l∨x=h:=⟨.inl,fun hx=>by
 rcases hx with hx|rfl
 ·exact hx
 ·rw[← e];exact Ba hk⟩
theorem Kp {l:List Hd}{h:Hd}{k:Nat}(x:Hd):x∈l.take k++[h]++l.drop k↔x∈l∨x=h:=by
 have:x∈l↔x∈l.take k∨x∈l.drop k:=by
  rw[← List.mem_append,List.take_append_drop]
 simp only[List.mem_append,List.mem_singleton,this]
 constructor
 ·rintro((a|a)|a)
  ·exact .inl (.inl a)
  ·exact .inr a
  ·exact .inl (.inr a)
 ·rintro((a|a)|a)
  ·exact .inl (.inl a)
  ·exact .inr a
  ·exact .inl (.inr a)
theorem put_up {l:List Hd}{h:Hd}{k:Nat}(hu:l.Pairwise hLt)(hlt:∀ j,j<k→j<l.length→hLt (gd l j) h)(hge:k<l.length→hLt h (gd l k)):(l.take k++[h]++l.drop k).Pairwise hLt:=by
 have hd:∀ x∈l.drop k,hLt h x:=fun x hx=>by
  by_cases hk:k<l.length
  ·have h0:=hge hk;rw[List.drop_eq_getElem_cons hk] at hx;have hu2:(l.drop k).Pairwise hLt:=hu.sublist (List.drop_sublist _ _);rw[List.drop_eq_getElem_cons hk] at hu2;rw[Az hk] at h0;rcases List.mem_cons.1 hx with rfl|hx
   ·exact h0
   ·exact h0.trans ((List.pairwise_cons.1 hu2).1 x hx)
  ·rw[List.drop_of_length_le qom] at hx;cases hx
 have ht:∀ x∈l.take k,hLt x h:=fun x hx=>by
  obtain⟨j,hj,e⟩:=List.getElem_of_mem hx;rw[List.length_take] at hj;have:=hlt j qom qom;rw[Az qom] at this;rw[List.getElem_take] at e
  rwa [e] at this
 refine List.pairwise_append.2 ⟨List.pairwise_append.2 ⟨hu.sublist (List.take_sublist _ _),List.pairwise_singleton ..,fun x hx y hy=> ?_⟩,hu.sublist (List.drop_sublist _ _),fun x hx y hy=> ?_⟩
 ·rw[List.mem_singleton.1 hy];exact ht x hx
 ·rcases List.mem_append.1 hx with hx|hx
  ·exact(ht x hx).trans (hd y hy)
  ·rw[List.mem_singleton.1 hx];exact hd y hy
abbrev PutK (w0:World) (l:List Hd) (h:Hd) (H:List (Nat × Obj)):Value→List (Nat × Obj)→Prop:=fun u H'=>∃ (l':List Hd) (q:Option Addr) (c:Nat) (X:List (Nat × Obj)),(u= .slice q l'.length c∧HsA w0 (X++H) l' q c∧l'.Pairwise hLt∧(∀ x,x∈l'↔x∈l∨x=h)∧l'.length≤l.length+1)∧H'=X++H
theorem sl_cap {d:Sl}{n sz:Nat}(h:SlOk d n sz):n≤slC d:=by
 cases d with
 |nil=>have:n=0:=h;omega
 |blk b cap junk=>exact h.1
theorem Ll {w0:World}{X:List (Nat × Obj)}{d:Sl}{l:List Hd}(hok:SlOk d l.length 10)(hl:∀ x∈l,HdOk x):HsA w0 (slH d (l.flatMap encHd) 32++X) l (slQ d) (slC d):=⟨Cw (w0:=w0) (e:=32) (X:=X) (enc:=encHd) Dw hok,hl,sl_cap hok⟩
theorem rput_s {w0:World}{H:List (Nat × Obj)}(l:List Hd)(q:Option Addr)(c:Nat)(hA:HsA w0 H l q c)(hu:l.Pairwise hLt)(h:Hd)(hh:HdOk h)(hlen:l.length≤100000):
  FSpec Tryz.prog w0 87 #[.slice q l.length c, .agg (hdC h).toArray] H (PutK w0 l h H):=by
 refine Au Tryz.func87 U ntmps87 U (rD tb 2 U (e_ (Nr U cs_) ?_ U));rintro _ _ ⟨n3,rfl,rfl⟩;refine rO tb 10 U ?_;refine Bj (X:=Nat) (V:=fun k=>[(5, .int .i64 (k:Nat))]) (C:=[(0,_),(3,_)]) (G:=fun k=>(n3,Cl (hdC h) 32)::H) (φ:=fun k=>k≤l.length∧∀ j,j<k→hLt (gd l j) h) (μ:=fun k=>l.length - k) (x0:=0) ?_ ⟨Aa U,Aa U,trivial⟩ ⟨atd,trivial⟩ sb0 ?_
 ·exact⟨Nat.zero_le _,fun j hj=>absurd hj (Nat.not_lt_zero _)⟩
 rintro k ⟨hk,hn⟩;refine rD tb 2 U (Bk 13 [(0,true),(1,true),(2,true),(3,true),(4,true),(5,true),(6,true),(7,true),(8,true),(9,true),(10,true),(11,true),(12,true)] _ mixd qkr sb0 ?_ Bp);refine rP tb 5 U ?_
 first|refine Lo (s:=11) (Aa U) (fun c11=> ?_) (fun c11=> ?_)|refine Mz (s:=11) (Aa U) (fun c11=> ?_) (fun c11=> ?_)
 ·have hk2:k<l.length:=by have h9:((k:Nat):Int)<(l.length:Nat):=c11;omega
  refine rP tb 2 U (o_y U (Np U U runUnderlying58 sizeOf32 qom (by first|exact rfl|exact hA.1.b (i:=k) qom)) ?_ U (Bg U U (Aa U)));refine o_y U (Nn U isAgg32 sizeOf32 (Aj (hA.ok (k:=k) qom)) (by first|exact((hA.mono (by exact sbt)).hd).cs (i:=k) qom|exact As)) ?_ U (Bg U U (Aa U));refine o_y U (Nn U isAgg32 sizeOf32 (Aj hh) (by first|exact As)) ?_ U (Bg U U (Aa U));refine o_y U (Aw (qe2 U U) call30 (fun H' hs=>cmp18_s (gd l k) h (hA.ok (k:=k) qom) hh)) ?_ U (Bg U U (Aa U));refine rP tb 2 U (A4 U (rO tb 2 U ?_))
  first|refine Ae (Aa U) (fun c19=> ?_) (fun c19=> ?_)|refine Ah (Aa U) (fun c19=> ?_) (fun c19=> ?_)
  ·have hlk:=(Ig (hA.ok (k:=k) hk2) hh).1 c19;refine rC tb 5 U (y_ (A8 (T U) An qom) ?_ U);refine rO tb 3 U ?_;refine A6 (k+1) ?_ ?_ ⟨atd,trivial⟩ ⟨Aa U,Aa U,trivial⟩ ?_
   ·refine⟨hk2,fun j hj=> ?_⟩
    by_cases e:j=k
    ·rw[e];exact hlk
    ·exact hn j qom
   ·first|omega|(simp only[];omega)
   ·exact sbt
  ·skip
   refine rC tb 2 U (Ax (rX tb 4 U (Bk 12 [(0,true),(1,true),(2,true),(3,true),(4,true),(5,true),(6,true),(7,true),(8,true),(9,true),(10,true),(11,true)] _ mixd qkr sb0 ?_ Bp)));refine rP tb 5 U ?_
   first|refine Lo (s:=26) (Aa U) (fun c26=> ?_) (fun c26=> ?_)|refine Mz (s:=26) (Aa U) (fun c26=> ?_) (fun c26=> ?_)
   ·skip
    refine rP tb 2 U (o_y U (Np U U runUnderlying58 sizeOf32 qom (by first|exact rfl|exact hA.1.b (i:=k) qom)) ?_ U (Bg U U (Aa U)));refine o_y U (Nn U isAgg32 sizeOf32 (Aj (hA.ok (k:=k) qom)) (by first|exact((hA.mono (by exact sbt)).hd).cs (i:=k) qom|exact As)) ?_ U (Bg U U (Aa U));refine o_y U (Nn U isAgg32 sizeOf32 (Aj hh) (by first|exact As)) ?_ U (Bg U U (Aa U));refine o_y U (Hn (T U) (T U) qkr (eqHd (hA.ok (k:=k) qom) hh)) ?_ U (Bg U U (Aa U));refine rP tb 1 U (A4 U (rO tb 2 U ?_))
    first|refine Ae (Aa U) (fun c33=> ?_) (fun c33=> ?_)|refine Ah (Aa U) (fun c33=> ?_) (fun c33=> ?_)
    ·have hfk:gd l k=h:=c33;refine kC tb 6 [4] rfl U (rG tb 2 U (Ak U (Nk U) ?_));exact⟨_,⟨l,q,c,[(n3,Cl (hdC h) 32)],⟨rfl,hA.mono (by exact sbt),hu,put_found hk2 hfk,by omega⟩,rfl⟩,by exact sbt⟩
    ·have hnk: ¬ gd l k=h:=c33;have htk:(l.take k).length=k:=by rw[List.length_take];omega
     have hgk:hLt h (gd l k):=((I4 (hA.ok (k:=k) hk2) hh).resolve_left (fun e=>c19 ((Ig (hA.ok (k:=k) hk2) hh).2 e))).resolve_left hnk;refine rC tb 12 U (y_ (yl_sliceH  (T U) (T U) runUnderlying58 sizeOf32 qom) ?_ U);refine e_ (C2 (enc:=encHd) (d:= .nil) (l:=[]) (l.take k) (by':=80) loc_nil (T U) (by rw[htk];exact T U) runUnderlying58 runUnderlying58 sizeOf32 typeInfo32 U zeroValue32 U Dw Dg U qde (by simp only[List.length_nil];omega) ((hA.1.mono (by exact sbt)).take k)) ?_ U;rintro _ _ ⟨d1,rfl,hd1,rfl⟩;rw[show ([]:List Hd).length+(l.take k).length=(l.take k).length from Nat.zero_add _] at hd1 ⊢;rw[List.nil_append];refine kO tb 3 [0,3,5,6] rfl U (rG tb 3 U (y_ (Nn U isAgg32 sizeOf32 (Aj hh) (by first|exact As)) ?_ U));refine e_ (Br (.cons (T U) .nil) (bs42 hh)) ?_ U;rintro _ _ ⟨n42,rfl,rfl⟩;rw[← Fp hh];refine e_ (Cu (enc:=encHd) (d:=d1) (l:=l.take k) h (by':=80) qlc (T U) (T U) runUnderlying58 runUnderlying58 sizeOf32 typeInfo32 U zeroValue32 U Dw (Dg _) hd1 qde qom) ?_ U;rintro _ _ ⟨d2,rfl,hd2,rfl⟩;rw[show (l.take k).length+1=(l.take k++[h]).length from (by simp)] at hd2 ⊢;refine rO tb 8 U (y_ (yl_sliceL  (T U) (T U) runUnderlying58 sizeOf32 qom) ?_ U);refine e_ (C2 (enc:=encHd) (d:=d2) (l:=(l.take k++[h])) (l.drop k) (by':=80) qlc (T U) (by rw[List.length_drop];exact T U) runUnderlying58 runUnderlying58 sizeOf32 typeInfo32 U zeroValue32 U Dw Dg hd2 qde (by simp only[List.length_append,List.length_singleton,List.length_drop];omega) ((hA.1.mono (by exact sbt)).drop hA.2.2 k)) ?_ U;rintro _ _ ⟨d3,rfl,hd3,rfl⟩;rw[show (l.take k++[h]).length+(l.drop k).length=(l.take k++[h]++l.drop k).length from (List.length_append).symm] at hd3 ⊢;refine rO tb 4 U (Ak U (Nk U) ?_);exact⟨_,⟨l.take k++[h]++l.drop k,slQ d3,slC d3,slH d3 ((l.take k++[h]++l.drop k).flatMap encHd) 32,⟨rfl,Ll hd3 (fun x hx=>((Kp x).1 hx).elim (hA.2.1 x) (fun e=>e ▸ hh)),put_up hu (fun j hj _=>hn j hj) (fun h9=>by first|exact hgk|omega),Kp,by simp only[List.length_append,List.length_take,List.length_drop,List.length_singleton];omega⟩,rfl⟩,by exact sbt⟩
   ·exfalso;have h9: ¬ ((k:Nat):Int)<(l.length:Nat):=c26;omega
 ·have hkl:k=l.length:=by have h9: ¬ ((k:Nat):Int)<(l.length:Nat):=c11;omega
  refine rP tb 8 U (A4 U (rO tb 5 U (Ax (rX tb 4 U (Bk 12 [(0,true),(1,true),(2,true),(3,true),(4,true),(5,true),(6,true),(7,true),(8,true),(9,true),(10,true),(11,true)] _ mixd qkr sb0 ?_ Bp)))));refine rP tb 5 U ?_
  first|refine Lo (s:=26) (Aa U) (fun c26=> ?_) (fun c26=> ?_)|refine Mz (s:=26) (Aa U) (fun c26=> ?_) (fun c26=> ?_)
  ·exfalso;have h9:((k:Nat):Int)<(l.length:Nat):=c26;omega
  ·have htk:(l.take k).length=k:=by rw[List.length_take];omega
   refine rP tb 7 U (A4 U (rO tb 15 U (y_ (yl_sliceH  (T U) (T U) runUnderlying58 sizeOf32 qom) ?_ U)));refine e_ (C2 (enc:=encHd) (d:= .nil) (l:=[]) (l.take k) (by':=80) loc_nil (T U) (by rw[htk];exact T U) runUnderlying58 runUnderlying58 sizeOf32 typeInfo32 U zeroValue32 U Dw Dg U qde (by simp only[List.length_nil];omega) ((hA.1.mono (by exact sbt)).take k)) ?_ U;rintro _ _ ⟨d1,rfl,hd1,rfl⟩;rw[show ([]:List Hd).length+(l.take k).length=(l.take k).length from Nat.zero_add _] at hd1 ⊢;rw[List.nil_append];refine kO tb 3 [0,3,5,6] rfl U (rG tb 3 U (y_ (Nn U isAgg32 sizeOf32 (Aj hh) (by first|exact As)) ?_ U));refine e_ (Br (.cons (T U) .nil) (bs42 hh)) ?_ U;rintro _ _ ⟨n42,rfl,rfl⟩;rw[← Fp hh];refine e_ (Cu (enc:=encHd) (d:=d1) (l:=l.take k) h (by':=80) qlc (T U) (T U) runUnderlying58 runUnderlying58 sizeOf32 typeInfo32 U zeroValue32 U Dw (Dg _) hd1 qde qom) ?_ U;rintro _ _ ⟨d2,rfl,hd2,rfl⟩;rw[show (l.take k).length+1=(l.take k++[h]).length from (by simp)] at hd2 ⊢;refine rO tb 8 U (y_ (yl_sliceL  (T U) (T U) runUnderlying58 sizeOf32 qom) ?_ U);refine e_ (C2 (enc:=encHd) (d:=d2) (l:=(l.take k++[h])) (l.drop k) (by':=80) qlc (T U) (by rw[List.length_drop];exact T U) runUnderlying58 runUnderlying58 sizeOf32 typeInfo32 U zeroValue32 U Dw Dg hd2 qde (by simp only[List.length_append,List.length_singleton,List.length_drop];omega) ((hA.1.mono (by exact sbt)).drop hA.2.2 k)) ?_ U;rintro _ _ ⟨d3,rfl,hd3,rfl⟩;rw[show (l.take k++[h]).length+(l.drop k).length=(l.take k++[h]++l.drop k).length from (List.length_append).symm] at hd3 ⊢;refine rO tb 4 U (Ak U (Nk U) ?_);exact⟨_,⟨l.take k++[h]++l.drop k,slQ d3,slC d3,slH d3 ((l.take k++[h]++l.drop k).flatMap encHd) 32,⟨rfl,Ll hd3 (fun x hx=>((Kp x).1 hx).elim (hA.2.1 x) (fun e=>e ▸ hh)),put_up hu (fun j hj _=>hn j hj) (fun h9=>by first|exact hgk|omega),Kp,by simp only[List.length_append,List.length_take,List.length_drop,List.length_singleton];omega⟩,rfl⟩,by exact sbt⟩
theorem zbs42_0_z  (w:World):(Instr.buildSlice 58 0 #[]).run Tryz.prog w= .ok (.slice (some ⟨w.heap.size,0,none⟩) 0 0) (w.alloc (Cl [] 32)):=by kernel_rfl
abbrev SetK (w0:World) (p:List Hd→Prop) (H:List (Nat × Obj)):Value→List (Nat × Obj)→Prop:=fun u H'=>∃ (l':List Hd) (q:Option Addr) (c:Nat),u= .slice q l'.length c∧HsA w0 H' l' q c∧l'.Pairwise hLt∧p l'∧H.Sublist H'
theorem Js {w0:World}{H:List (Nat × Obj)}(a b:List Hd)(q1 q2:Option Addr)(c1 c2:Nat)(hA:HsA w0 H a q1 c1)(hu:a.Pairwise hLt)(hB:HsA w0 H b q2 c2)(hla:a.length≤10000)(hlb:b.length≤10000):
  FSpec Tryz.prog w0 37 #[.slice q1 a.length c1, .slice q2 b.length c2] H (SetK w0 (fun l=>(∀ x,x∈l↔x∈a∨x∈b)∧l.length≤a.length+b.length) H):=by
 refine Au Tryz.func37 U ntmps37 U (rD tb 7 U (e_ (Br .nil (zbs42_0_z)) ?_ U));rintro _ _ ⟨n7,rfl,rfl⟩;refine rO tb 1 U (e_ (C2 (enc:=encHd) (d:= .blk n7 0 []) (l:=[]) a (by':=80) loc_e (T U) (T U) runUnderlying58 runUnderlying58 sizeOf32 typeInfo32 U zeroValue32 U Dw Dg ⟨Nat.le_refl _,rfl⟩ qde (by simp only[List.length_nil];omega) (hA.1.mono (by exact sbt))) ?_ U);rintro _ _ ⟨d1,rfl,hd1,rfl⟩;rw[show ([]:List Hd).length+a.length=a.length from Nat.zero_add _] at hd1 ⊢;rw[List.nil_append];refine rO tb 10 U ?_;refine Bj (X:=Nat × List Hd × Option Addr × Nat × List (Nat × Obj)) (V:=fun ⟨i,l,q,c,M⟩=>[(5, .slice q l.length c),(6, .int .i64 (i:Nat))]) (C:=[(1,_)]) (G:=fun ⟨i,l,q,c,M⟩=>M) (φ:=fun ⟨i,l,q,c,M⟩=>i≤b.length∧HsA w0 M l q c∧l.Pairwise hLt∧(∀ x,x∈l↔x∈a∨x∈b.take i)∧l.length≤a.length+i∧H.Sublist M) (μ:=fun ⟨i,l,q,c,M⟩=>b.length - i) (x0:=(0,a,slQ d1,slC d1,slH d1 (a.flatMap encHd) 32++H)) ?_ ⟨Aa rfl,trivial⟩ ⟨atd,atd,trivial⟩ sb0 ?_
 ·exact⟨Nat.zero_le _,Ll hd1 hA.2.1,hu,fun x=>by simp,by omega,List.sublist_append_right _ _⟩
 rintro⟨i,l,q,c,M⟩ ⟨hi,hL,hul,hm,hn,hHM⟩;refine rD tb 9 U ?_
 first|refine Ae (Aa U) (fun c13=> ?_) (fun c13=> ?_)|refine Ah (Aa U) (fun c13=> ?_) (fun c13=> ?_)
 ·have hi2:i<b.length:=by have h9:((i:Nat):Int)<(b.length:Nat):=c13;omega
  refine rC tb 8 U (y_ (Np U U runUnderlying58 sizeOf32 qom (by first|exact rfl|exact hB.1.b (i:=i) qom)) ?_ U);refine y_ (Nn U isAgg32 sizeOf32 (Aj (hB.ok (k:=i) qom)) (by first|exact((hB.mono hHM).hd).cs (i:=i) qom|exact As)) ?_ U;refine e_ (Al (qe2 U U) call87 (rput_s l q c hL hul (gd b i) (hB.ok (k:=i) hi2) qom)) ?_ U;rintro _ _ ⟨l2,q3,c3,X2,⟨rfl,hL2,hul2,hm2,hn2⟩,rfl⟩;refine rO tb 6 U (y_ (A8 (T U) An qom) ?_ U);refine rO tb 2 U ?_;refine A6 ((i+1,l2,q3,c3,X2++M)) ?_ ?_ ⟨atd,atd,trivial⟩ ⟨Aa U,trivial⟩ ?_
  ·refine⟨hi2,hL2,hul2,fun x=> ?_,by omega,hHM.trans (List.sublist_append_right _ _)⟩;rw[hm2,hm,List.take_succ_eq_append_getElem hi2,List.mem_append,List.mem_singleton,← Az hi2,or_assoc]
  ·first|omega|(simp only[];omega)
  ·exact sb0
 ·obtain rfl:i=b.length:=by have h9: ¬ ((i:Nat):Int)<(b.length:Nat):=c13;omega
  refine rC tb 2 U (Ax (rX tb 9 U (Ak U (Nk U) ?_)));exact⟨_,⟨l,q,c,rfl,hL,hul,⟨by rw[List.take_length] at hm;exact hm,hn⟩,hHM⟩,sb0⟩
end Go.Proofs.YtkgfmjanajdibaaGreat
