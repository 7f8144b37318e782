/-
  A part of what LawG rests on: the logic, walks and plain laws. No condition.
-/
import Derived.Test.YtkgfmjanajdibaaGreatJg5
import Derived.Test.YtkgfmjanajdibaaGreatRows
import Derived.WalkKit
import Derived.ProofKit
import Derived.OpenShut
import Derived.Lib.SmallJoins
import Derived.Deep.SlicePairs
namespace Go.Proofs.YtkgfmjanajdibaaGreat
open _root_.Go.Proofs.Tryz
open Go.RowKit
set_option linter.unusedVariables false
set_option linter.unusedSimpArgs false
set_option linter.unusedSectionVars false
set_option maxRecDepth 100000
variable {w0:World}{H:Mm}
theorem Eq {a0:Int}(w:World):(Instr.buildSlice 109 1 #[(0,Vi a0)]).run prog w= .ok (.slice (some ⟨w.heap.size,0,none⟩) 1 1) (w.alloc (Cl [Vi a0] 3)):=by kernel_rfl
abbrev encZI (k:Int):Value:=Vi k
abbrev encTB (b:Bool):Value:= .bool b
theorem keyZ {V:Type}:KeyOk (V:=V) prog 3 encZI:=keyOk_now runUnderlying3 (fun b k w=>by cases b<;>kernel_rfl) (fun k k'=>by
 by_cases h:k'=k
 ·subst h;simp[Instr.sameNow]
 ·have: ¬ k=k':=fun e=>h e.symm
  simp[Instr.sameNow,h,this]) (fun k=>by simp[Instr.sameBits])
abbrev TkL:=List (Int × Bool)
def tkAt (pl:TkL) (seen:List Nat):List Int:=seen.map fun i=>(gd pl i).1
def TkSt (pl:TkL) (k:List Int) (_:Int):Prop:=k.length<pl.length
def TkEn (pl:TkL) (k:List Int):Prop:=∃ seen:List Nat,seen.Nodup/\(∀ i,i∈seen↔i<pl.length)/\k=tkAt pl seen
theorem Ll:∀ {n:Nat} {seen:List Nat},seen.Nodup->(∀ i∈seen,i<n)->seen.length<=n
 |0,seen,_,hs=>by
  cases seen with
  |nil=>simp
  |cons a l=>have:=hs a (by simp);omega
 |n+1,seen,hn,hs=>by
  by_cases hm:n∈seen
  ·have h1:=Ll (n:=n) (seen:=seen.erase n) (hn.erase n) (fun i hi=>by
    have h2:=hs i (List.mem_of_mem_erase hi);have h3:i≠n:=by rintro rfl;exact(List.Nodup.not_mem_erase hn) hi
    omega)
   rw[List.length_erase_of_mem hm] at h1;omega
  ·have:=Ll (n:=n) hn (fun i hi=>by
    have h2:=hs i hi;have h3:i≠n:=by rintro rfl;exact hm hi
    omega)
   omega
theorem seen_lt {n i:Nat}{seen:List Nat}(hn:seen.Nodup)(hs:∀ i∈seen,i<n)(hi:i∉seen)(hl:i<n):seen.length<n:=by
 have:=Ll (n:=n) (seen:=i::seen) (List.nodup_cons.2 ⟨hi,hn⟩) (fun j hj=>by rcases List.mem_cons.1 hj with rfl|h;exact hl;exact hs j h);simp at this;omega
theorem tkeys_s (r:Nat):
  FSpec prog w0 116 #[.map (some r)] H (fun v H'=>∃ n1:Nat,v= .func (.func 157) #[] #[Pt n1 0]/\H'=(n1,Cl [.map (some r)] 167)::H):=by
 refine Am func116 U ntmps116 U (rDt 2 U (e_ (Ot U cs_) ?_ U));rintro _ _ ⟨n1,rfl,rfl⟩;refine rOt 5 U (y_ (Bn (.cons (T U) .nil)) (rOt 4 U (Ai U (Ol U) ?_)) U);exact⟨_,⟨n1,rfl,rfl⟩,sbt⟩
theorem tkeys_it {w0:World}{Hc:Mm}(n1 r:Nat)(pl:TkL)(h1:Fnd Hc n1 (Cl [.map (some r)] 167))(h2:Fnd Hc r (mapO encZI encTB pl)):
  IterSpecD prog w0 157 [Pt n1 0] Hc encI (TkSt pl) (TkEn pl):=by
 intro l S Sx hHc hY H0 hS0;have hY0:=fun k x H a b hx hS=>YSpec.mono (hY k x H [a,b] hx hS) (K':=fun v H'=>∃ H1,H'=a::b::H1/\((v= .bool true/\S (k++[x]) H1)\/(v= .bool false/\Sx H1))) (by rintro v _ ⟨H1,rfl,h⟩;exact⟨H1,rfl,h⟩)
 have hY1:=fun k x H a hx hS=>YSpec.mono (hY k x H [a] hx hS) (K':=fun v H'=>∃ H1,H'=a::H1/\((v= .bool true/\S (k++[x]) H1)\/(v= .bool false/\Sx H1))) (by rintro v _ ⟨H1,rfl,h⟩;exact⟨H1,rfl,h⟩)
 show FSpec prog w0 157 #[.func (.yield l) #[] #[],Pt n1 0] H0 _;refine Am func157 U ntmps157 U (rDt 2 U (y_ (Om U isAgg167 (by first|exact c_o|exact(Cell.mono (w0:=w0) (c_o (i:=0) (hf:=h1)) (List.Sublist.trans (hHc _ _ hS0) sbt)))) ?_ U));refine e_ (eff_rangeMap (m:=r) (l:=pl) (encK:=encZI) (encV:=encTB) (T U) ((hHc _ _ hS0).subset h2) runUnderlying167) ?_ U;rintro _ _ ⟨n5,rfl,rfl⟩;refine rOt 3 U ?_;refine A8 (X:=List Nat × Mm) (V:=fun ⟨seen,Hx⟩=>[]) (C:=[(0,_),(5,_)]) (G:=fun ⟨seen,Hx⟩=>(n5,itO r pl.length seen pl.length)::Hx) (φ:=fun ⟨seen,Hx⟩=>S (tkAt pl seen) Hx/\seen.Nodup/\∀ i∈seen,i<pl.length) (μ:=fun ⟨seen,Hx⟩=>pl.length - seen.length) (x0:=([],H0)) ?_ (kg U) trivial (List.Sublist.refl _) ?_
 ·exact⟨hS0,by simp,by simp⟩
 rintro⟨seen,Hx⟩ ⟨hS,hnd,hlt⟩;have hr:Fnd Hx r (mapO encZI encTB pl):=(hHc _ _ hS).subset h2;refine rDt 2 U ?_;refine e_ (eff_next (m:=r) (l:=pl) (encK:=encZI) (encV:=encTB) (T U) (by repeat (first|exact hr|exact fnd_h|refine Cr ?_)) (by repeat (first|exact Loc.h|apply Loc.t))) ?_ U;rintro _ _ (⟨i,p,hip,hni,rfl,rfl⟩|⟨hall,rfl,rfl⟩)
 ·refine rOt 4 U ?_;refine Cx (Aa U) ?_;refine rCt 5 U ?_;refine y_ (yl_entry (m:=r) (l:=pl) (encK:=encZI) (encV:=encTB) (T U) (by repeat (first|exact hr|exact fnd_h|refine Cr ?_)) fndq hip) ?_ U;refine rOt 8 U ?_;refine e_ (Im (T U) (.cons (T U) .nil) (hY1 (tkAt pl seen) p.1 Hx _ (by have:=seen_lt hnd hlt hni (List.getElem?_eq_some_iff.1 hip).1;simpa[TkSt,tkAt] using this) hS)) ?_ U;rintro _ _ ⟨H1,rfl,(⟨rfl,hS1⟩|⟨rfl,hSx⟩)⟩
  ·refine y_ (Bq (T U)) (rOt 2 U ?_) U;refine Ea (Aa U) ?_;refine rCt 2 U ?_;have hil:=(List.getElem?_eq_some_iff.1 hip).1;have hgp:(gd pl i).1=p.1:=by rw[Cy hil] at hip;simp at hip;rw[hip]
   have hsl:=seen_lt hnd hlt hni hil;refine Au ((seen++[i],H1)) ?_ ?_ trivial (kg U) ?_
   ·refine⟨by unfold tkAt at *;rw[List.map_append];simpa[hgp] using hS1,?_,fun j hj=> ?_⟩
    ·rw[List.nodup_append];exact⟨hnd,by simp,by intro a ha b hb;simp at hb;subst hb;rintro rfl;exact hni ha⟩
    ·rcases List.mem_append.1 hj with h|h
     ·exact hlt j h
     ·simp at h;subst h;exact hil
   ·show pl.length - (seen++[i]).length<_;simp;omega
   ·exact sbt
  ·refine y_ (Bq (T U)) (rOt 2 U ?_) U;refine Cx (Aa U) ?_;refine rCt 2 U (Bg (rXt 1 U (Ai U .nil ?_)));exact⟨H1, .inr hSx,sbt⟩
 ·refine rOt 4 U ?_;refine Ea (Aa U) ?_;refine rCt 2 U (An (rXt 1 U (K6 U .nil ?_)));exact⟨Hx, .inl ⟨_,⟨seen,hnd,fun i=>⟨fun h=>hlt i h,hall i⟩,rfl⟩,hS⟩,sbt⟩
theorem tapp_s (n1 r:Nat)(pl:TkL)(h1:Fnd H n1 (Cl [.map (some r)] 167))(h2:Fnd H r (mapO encZI encTB pl))(hpl:pl.length<=100000):
  FSpec prog w0 191 #[.slice none 0 0, .func (.func 157) #[] #[Pt n1 0]] H (fun v H'=>∃ (d:Sl) (ks:List Int),v=slV d ks.length/\SlOk d ks.length 1/\TkEn pl ks/\H'=slH d (ks.flatMap encI) 3++H):=by
 refine Am func191 U ntmps191 U (rDt 2 U (e_ (Ot U cs_) ?_ U));rintro _ _ ⟨n2,rfl,rfl⟩;refine rOt 10 U ?_;refine j_rangeD (Z:=Sl × Nat × List Int) (T rfl) call157 (tkeys_it n1 r pl h1 h2) (fun _=>rfl) rfl (fun ⟨d,c,l⟩=>slH d (l.flatMap encI) 3++((n2,Cl [slV d c] 109)::H)) (fun k ⟨d,c,l⟩=>c=l.length/\l=k/\SlOk d l.length 1) (fun ⟨d,c,l⟩=>False) (fun _ ⟨d,c,l⟩=>False) ((.nil,0,[])) ?_ sbt ?_ ?_ ?_ ?_ ?_
 ·exact⟨rfl,rfl,rfl⟩
 ·rintro⟨d,c,l⟩;exact sbt
 ·rintro l lr Y X k x1 ⟨d,c,l⟩ hl hx ⟨rfl,hll,hok⟩;have hlb:l.length<pl.length:=by rw[hll];exact hx
  refine Jf [(2,_),(7,_)] (kg U) (rDt 3 U (Io hl ?_));refine rDt 2 U (y_ (Om U isAgg109 qco) ?_ U);refine rOt 1 U (e_ (Bb (.cons (T U) .nil) (Eq)) ?_ U);rintro _ _ ⟨n10,rfl,rfl⟩;refine e_ (Cg (x1) (by':=8) locq (T U) (T U) runUnderlying109 runUnderlying109 sizeOf3 typeInfo3 U zeroValue3 U (fun _=>rfl) U hok qde qom) ?_ U;rintro _ _ ⟨d',rfl,hok',rfl⟩;refine Bo (Oq U U sizeOf109) U Ad ?_;rintro _ _ ⟨rfl,rfl⟩;refine rOt 2 U (Ip ((d',l.length+1,l++[x1])) ?_ sbt);exact⟨by simp,by rw[hll],by simpa using hok'⟩
 ·rintro D0 ⟨d,c,l⟩ kk hEn ⟨rfl,hll,hok⟩;refine rXt 4 U (y_ (Om U isAgg109 qco) ?_ U);refine rOt 4 U (q_mark_ret ?_);refine Ai U (Ol U) ?_;exact⟨_,⟨d,l,rfl,hok,hll ▸ hEn,rfl⟩,sbt⟩
 ·exact fun _ _ h=>h.elim
 ·exact fun _ _ _ h=>h.elim
theorem tcoll_s (n1 r:Nat)(pl:TkL)(h1:Fnd H n1 (Cl [.map (some r)] 167))(h2:Fnd H r (mapO encZI encTB pl))(hpl:pl.length<=100000):
  FSpec prog w0 156 #[.func (.func 157) #[] #[Pt n1 0]] H (fun v H'=>∃ (d:Sl) (ks:List Int),v=slV d ks.length/\SlOk d ks.length 1/\TkEn pl ks/\H'=slH d (ks.flatMap encI) 3++H):=by
 refine Am func156 U ntmps156 U (rDt 8 U (e_ (Ah (.cons Al (.cons (T U) .nil)) call191 (tapp_s _ r pl h1 h2 hpl)) ?_ U));rintro _ _ ⟨d,ks,rfl,hok,hen,rfl⟩;refine rOt 4 U (Ai U (Ol U) ?_);exact⟨_,⟨d,ks,rfl,hok,hen,rfl⟩,sbt⟩
theorem tk_len {pl:TkL}{ks:List Int}(h:TkEn pl ks):ks.length<=pl.length:=by
 obtain⟨seen,h1,h2,rfl⟩:=h;unfold tkAt;rw[List.length_map];exact Ll h1 fun i hi=>(h2 i).1 hi
theorem tk_mem {pl:TkL}{ks:List Int}(h:TkEn pl ks)(x:Int):x∈ks↔∃ b,(x,b)∈pl:=by
 obtain⟨seen,h1,h2,rfl⟩:=h;unfold tkAt;rw[List.mem_map]
 constructor
 ·rintro⟨i,hi,rfl⟩;exact⟨(gd pl i).2,Ax ((h2 i).1 hi)⟩
 ·rintro⟨b,hb⟩;obtain⟨i,hi,e⟩:=List.getElem_of_mem hb;exact⟨i,(h2 i).2 hi,by rw[Ar hi,e]⟩
theorem tsorted_s (n1 r:Nat)(pl:TkL)(h1:Fnd H n1 (Cl [.map (some r)] 167))(h2:Fnd H r (mapO encZI encTB pl))(hpl:pl.length<=100000):
  FSpec prog w0 115 #[.func (.func 157) #[] #[Pt n1 0]] H (fun v H'=>∃ (d:Sl) (ks:List Int),v=slV d (srtI ks).length/\SlOk d (srtI ks).length 1/\TkEn pl ks/\H'=slH d ((srtI ks).flatMap encI) 3++H):=by
 refine Am func115 U ntmps115 U (rDt 8 U (e_ (Ah (evq1 U) call156 (tcoll_s _ r pl h1 h2 hpl)) ?_ U));rintro _ _ ⟨d,ks,rfl,hok,hen,rfl⟩;have hkl:=tk_len hen;have hsl:(srtI ks).length=ks.length:=by simp[srtI]
 refine rOt 6 U (e_ (Ah (evq1 U) call134 (sort_s d ks hok qom)) ?_ U);rintro _ _ ⟨rfl,rfl⟩;refine rOt 9 U (Ai U (Ol U) ?_);exact⟨_,⟨d,ks,by rw[hsl];rfl,by rw[hsl];exact hok,hen,rfl⟩,sbt⟩
def loopDQ (w0:World) {X:Type} (V:X->Fm) (G:X->Mm) (D:X->List Deferred) (φ:X->Prop) (μ:X->Nat) (m:Nat) (Q:Post):Post
 | .normal,σ,ds',w=>∃ x b,ds'=D x/\φ x/\μ x<m/\σ=lk (V x) b/\Own w0 (G x) w
 |e,σ,ds',w=>Q e σ ds' w
section
variable {P:Program} {r:Option Nat} {N:Nat} {w0:World} {Q:Post} {L:Fm} {ds:List Deferred} {H:Mm}
theorem j_loopD {c:Code}{X:Type}(V:X->Fm)(G:X->Mm)(D:X->List Deferred)(φ:X->Prop)(μ:X->Nat)(x0:X)(h0:φ x0)(hV:Agree (V x0) L)(hG:(G x0).Sublist H)(hD:D x0=ds)
  (round:∀ x,φ x->J P r N w0 c (loopDQ w0 V G D φ μ (μ x) Q) (V x) (D x) (G x)):J P r N w0 (.loop c) Q L ds H:=fun b w hO a hs hf hd=>by
 classical
 let I:Nat->Act->World->Prop:=fun m a w=>a.tmps.size=N/\∃ x b,a.defers=D x/\φ x/\μ x=m/\fr a=lk (V x) b/\Own w0 (G x) w
 have hle:∀ {a w},(∃ m,I m a w)->∃ m,I m a w/\∀ m',I m' a w->m<=m':=fun ⟨_,h⟩=>least_ex (I:=fun m=>I m _ _) h
 let μ':Act->World->Nat:=fun a w=>if h:∃ m,I m a w then (hle h).choose else 0
 refine wpIn_loop (fun a w=>∃ m,I m a w) μ' ⟨μ x0,hs,x0,lk L b,by rw[hd,hD],h0,rfl,by rw[hf,Dl hV],hO.sub hG⟩ ?_;intro a w hI;have hm:I (μ' a w) a w:=by
  have:μ' a w=(hle hI).choose:=dif_pos hI;rw[this];exact(hle hI).choose_spec.1
 obtain⟨hs',x,b',hd',hx,hmx,hfx,hOx⟩:=hm;refine wpIn_mono (round x hx b' w hOx a hs' hfx hd') ?_;intro e a' w' hq;cases e with
 |normal=>
  obtain⟨hs2,x2,b2,hd2,h2,hlt,hf2,hO2⟩:=hq;have hI2:∃ m,I m a' w':=⟨μ x2,hs2,x2,b2,hd2,h2,rfl,hf2,hO2⟩;refine⟨hI2,?_⟩;have e2:μ' a' w'=(hle hI2).choose:=dif_pos hI2;have:=(hle hI2).choose_spec.2 (μ x2) ⟨hs2,x2,b2,hd2,h2,rfl,hf2,hO2⟩;rw[e2];omega
 |_=>exact hq
theorem j_loopDC {c:Code}{X:Type}(V:X->Fm)(C:Fm)(G:X->Mm)(D:X->List Deferred)(φ:X->Prop)(μ:X->Nat)(x0:X)(h0:φ x0)(hC:Agree C L)(hV:Agree (V x0) L)(hG:(G x0).Sublist H)
  (round:∀ x,φ x->J P r N w0 c (loopDQ w0 (fun x=>V x++C) G D φ μ (μ x) Q) (V x++C) (D x) (G x)) (hD:D x0=ds:=by rfl):J P r N w0 (.loop c) Q L ds H:=
 j_loopD (fun x=>V x++C) G D φ μ x0 h0 (Fg hV hC) hG hD round
theorem q_loopDC {X:Type}{V:X->Fm}{C:Fm}{G:X->Mm}{D:X->List Deferred}{φ:X->Prop}{μ:X->Nat}{m:Nat}(x:X)(hφ:φ x)(hμ:μ x<m)(hV:Agree (V x) L)(hC:Agree C L)(hG:(G x).Sublist H)(hD:ds=D x:=by rfl):JQ w0 (loopDQ w0 (fun x=>V x++C) G D φ μ m Q) .normal L ds H:=
 fun b w hO=>⟨x,lk L b,hD,hφ,hμ,(Dl (Fg hV hC)).symm,hO.sub hG⟩
theorem q_loopD_exit {X:Type}{V:X->Fm}{G:X->Mm}{D:X->List Deferred}{φ:X->Prop}{μ:X->Nat}{m:Nat}{id:Nat}(h:JQ w0 Q (.exit id) L ds H):JQ w0 (loopDQ w0 V G D φ μ m Q) (.exit id) L ds H:=h
abbrev mkD (Ds:List Nat):List Deferred:=Ds.map fun D=>{target:= .collected D,args:= #[]}
abbrev mkM (Ds:List Nat):Mm:=Ds.map fun D=>(D,Obj.deferred (some []))
theorem q_retM {fn:Func}{K:Value->Mm->Prop}{rs:List ResultVar}{vs:List Value}(hr:fn.results=rs.toArray)(h:ResV P w0 L H rs vs)(hK:∃ H',K (resOf vs) H'/\H'.Sublist H):∀ (Ds:List Nat),JQ w0 (retQ P fn w0 K) .ret L (mkD Ds) (mkM Ds++H)
 |[]=>Ai hr h hK
 |D::Ds=>q_mark_ret (H':=(D,Obj.deferred none)::(mkM Ds++H)) (fun b w hO=>q_retM hr h hK Ds b w (hO.sub (List.Sublist.cons _ (List.Sublist.refl _)))) .h
theorem perm_mk {A B C:Mm}{x:Nat × Obj}:(A++(x::(B++C))).Perm (B++(A++(x::C))):=by
 have h1:(x::(B++C)).Perm (B++(x::C)):=(List.perm_middle (l₁:=B) (a:=x) (l₂:=C)).symm;have h2:(A++(B++(x::C))).Perm (B++(A++(x::C))):=by
  rw[<- List.append_assoc,<- List.append_assoc];exact List.Perm.append_right _ List.perm_append_comm
 exact(List.Perm.append_left A h1).trans h2
theorem q_retMP {fn:Func}{K:Value->Mm->Prop}{rs:List ResultVar}{vs:List Value}{A C:Mm}{x:Nat × Obj}(Ds:List Nat)(hr:fn.results=rs.toArray)(h:ResV P w0 L (A++(x::C)) rs vs)(hK:∃ H',K (resOf vs) H'/\H'.Sublist (A++(x::C))):JQ w0 (retQ P fn w0 K) .ret L (mkD Ds) (A++(x::(mkM Ds++C))):=
 jq_perm perm_mk (q_retM hr h hK Ds)
end
abbrev encSt (m:Pom):List Value:=encPo m++[Vi 0, .string ⟨#[]⟩, .slice none 0 0, .string ⟨#[]⟩,Vi 0,Vi 0]
def stepB (l:TkL) (x:Pdm):TkL:=if x.kind=9 then upsert (upsert l x.val true) x.to true else l
def tickB (ms:List Pom):TkL:=(ms.flatMap prdF).foldl stepB []
theorem ups_len {l:TkL}{k:Int}{v:Bool}:(upsert l k v).length<=l.length+1:=by
 induction l with
 |nil=>simp[upsert,findI]
 |cons e l ih=>rw[Ez];split<;>simp<;>omega
theorem ups_mem {l:TkL}{k:Int}{v:Bool}(x:Int):(∃ b,(x,b)∈upsert l k v)↔x=k\/∃ b,(x,b)∈l:=by
 induction l with
 |nil=>simp[upsert,findI]
 |cons e l ih=>
  rw[Ez];obtain⟨e1,e2⟩:=e
  by_cases h:e1=k
  ·subst h;simp only[if_true,List.mem_cons,Prod.mk.injEq]
   constructor
   ·rintro⟨b,⟨rfl,_⟩|hb⟩
    ·exact .inl U
    ·exact .inr ⟨b, .inr hb⟩
   ·rintro(rfl|⟨b,⟨rfl,_⟩|hb⟩)
    ·exact⟨v, .inl ⟨rfl,rfl⟩⟩
    ·exact⟨v, .inl ⟨rfl,rfl⟩⟩
    ·exact⟨b, .inr hb⟩
  ·simp only[if_neg h,List.mem_cons,Prod.mk.injEq]
   constructor
   ·rintro⟨b,⟨rfl,rfl⟩|hb⟩
    ·exact .inr ⟨_, .inl ⟨rfl,rfl⟩⟩
    ·rcases ih.1 ⟨b,hb⟩ with rfl|⟨b2,hb2⟩
     ·exact .inl U
     ·exact .inr ⟨b2, .inr hb2⟩
   ·rintro(rfl|⟨b,⟨rfl,rfl⟩|hb⟩)
    ·obtain⟨b,hb⟩:=ih.2 (.inl rfl);exact⟨b, .inr hb⟩
    ·exact⟨_, .inl ⟨rfl,rfl⟩⟩
    ·obtain⟨b2,hb2⟩:=ih.2 (.inr ⟨b,hb⟩);exact⟨b2, .inr hb2⟩
theorem ups_nd {l:TkL}{k:Int}{v:Bool}(h:(l.map (·.1)).Nodup):((upsert l k v).map (·.1)).Nodup:=by
 induction l with
 |nil=>simp[upsert,findI]
 |cons e l ih=>
  rw[Ez];obtain⟨e1,e2⟩:=e;rw[List.map_cons,List.nodup_cons] at h
  by_cases hk:e1=k
  ·subst hk;rw[if_pos rfl,List.map_cons,List.nodup_cons];exact h
  ·rw[if_neg hk,List.map_cons,List.nodup_cons];refine⟨fun hm=> ?_,ih h.2⟩;obtain⟨⟨a,b⟩,hb,e⟩:=List.mem_map.1 hm;have e:a=e1:=e;subst e;rcases(ups_mem a).1 ⟨b,hb⟩ with rfl|⟨b2,hb2⟩
   ·exact hk U
   ·exact h.1 (List.mem_map.2 ⟨_,hb2,rfl⟩)
theorem fold_len:∀ (xs:List Pdm) (l:TkL),(xs.foldl stepB l).length<=l.length+2*xs.length
 |[],l=>by simp
 |x::xs,l=>by
  rw[List.foldl_cons];have h1:=fold_len xs (stepB l x);have h2:(stepB l x).length<=l.length+2:=by
   unfold stepB
   split
   ·have a:=ups_len (l:=l) (k:=x.val) (v:=true);have b:=ups_len (l:=upsert l x.val true) (k:=x.to) (v:=true);omega
   ·omega
  rw[List.length_cons];omega
theorem fold_nd:∀ (xs:List Pdm) {l:TkL},(l.map (·.1)).Nodup->((xs.foldl stepB l).map (·.1)).Nodup
 |[],l,h=>h
 |x::xs,l,h=>by
  rw[List.foldl_cons];refine fold_nd xs ?_;unfold stepB
  split
  ·exact ups_nd (ups_nd h)
  ·exact h
theorem fold_mem:∀ (xs:List Pdm) (l:TkL) (x:Int),(∃ b,(x,b)∈xs.foldl stepB l)↔(∃ t∈xs,t.kind=9/\(x=t.val\/x=t.to))\/∃ b,(x,b)∈l
 |[],l,x=>by simp
 |t::xs,l,x=>by
  rw[List.foldl_cons,fold_mem xs];have e:(∃ b,(x,b)∈stepB l t)↔(t.kind=9/\(x=t.val\/x=t.to))\/∃ b,(x,b)∈l:=by
   unfold stepB
   split
   ·rename_i h;rw[ups_mem,ups_mem]
    constructor
    ·rintro(rfl|rfl|h2)
     ·exact .inl ⟨h, .inr U⟩
     ·exact .inl ⟨h, .inl U⟩
     ·exact .inr h2
    ·rintro(⟨_,rfl|rfl⟩|h2)
     ·exact .inr (.inl U)
     ·exact .inl U
     ·exact .inr (.inr h2)
   ·rename_i h;exact⟨.inr,fun k=>k.elim (fun k=>absurd k.1 h) id⟩
  rw[e]
  constructor
  ·rintro(⟨s,hs,k⟩|k|k)
   ·exact .inl ⟨s,by simp[hs],k⟩
   ·exact .inl ⟨t,by simp,k⟩
   ·exact .inr k
  ·rintro(⟨s,hs,k⟩|k)
   ·rcases List.mem_cons.1 hs with rfl|hs
    ·exact .inr (.inl k)
    ·exact .inl ⟨s,hs,k⟩
   ·exact .inr (.inr k)
mutual
theorem prd_len:∀ m:Pom,(prdF m).length<=m.nd
 | .mk k p s n q c xs=>by
  have h:=prdL_len xs;rw[Mg];unfold prdF;rw[De,List.flatMap_cons,List.length_append];show (gPr _).length+((prtOL xs).flatMap gPr).length<=1+(if k=1 then p.sz else 0)+ndOL xs;have h2:(gPr (.mk k p s n q c xs)).length=if k=1 then p.sz else 0:=by
   unfold gPr;show (if k=1 then prtP p else []).length=_
   split
   ·exact J7 p
   ·rfl
  rw[h2];omega
theorem prdL_len:∀ l:List Pom,((prtOL l).flatMap gPr).length<=ndOL l
 |[]=>by simp[prtOL]
 |x::l=>by
  have h1:=prd_len x;have h2:=prdL_len l;rw[prtOL,List.flatMap_append,List.length_append,ndOL];unfold prdF at h1;omega
end
theorem prds_len {ms:List Pom}(h:∀ m∈ms,m.nd<=1000):(ms.flatMap prdF).length<=1000*ms.length:=by
 induction ms with
 |nil=>simp
 |cons m ms ih=>
  have h1:=h m (by simp);have h2:=prd_len m;have h3:=ih fun x hx=>h x (by simp[hx])
  rw[List.flatMap_cons,List.length_append,List.length_cons];omega
structure Tks (ms:List Pom) (l:List Int):Prop where
 up:l.Pairwise (· < ·)
 mem:∀ x,x∈l↔∃ t∈ms.flatMap prdF,t.kind=9/\(x=t.val\/x=t.to)
 len:l.length<=32000
theorem tks_of {ms:List Pom}{ks:List Int}(h:TkEn (tickB ms) ks)(hl:(tickB ms).length<=32000):Tks ms (srtI ks):=by
 have hnd:ks.Nodup:=by
  obtain⟨seen,h1,h2,rfl⟩:=h;have h3:((tickB ms).map (·.1)).Nodup:=fold_nd _ (by simp);refine List.pairwise_map.2 (List.Pairwise.imp_of_mem ?_ h1);intro i j hi hj hne e;have hi:=(h2 i).1 hi;have hj:=(h2 j).1 hj;have h4:=List.pairwise_iff_getElem.1 h3;rw[Ar hi,Ar hj] at e;rcases Nat.lt_trichotomy i j with k|k|k
  ·exact h4 i j (by simpa using hi) (by simpa using hj) k (by simpa using e)
  ·exact hne k
  ·exact h4 j i (by simpa using hj) (by simpa using hi) k (by simpa using e.symm)
 refine⟨?_,fun x=> ?_,?_⟩
 ·have h1:=List.pairwise_mergeSort (le:=fun (x y:Int)=>decide (x<=y)) (fun a b c h1 h2=>by simp at *;omega) (fun a b=>by simp;omega) ks;have h2:(srtI ks).Nodup:=(List.mergeSort_perm ks _).nodup_iff.2 hnd;exact(h1.and h2).imp fun ⟨a,b⟩=>by simp at a;omega
 ·rw[List.mem_mergeSort,tk_mem h,tickB,fold_mem];simp
 ·have:=tk_len h;show (ks.mergeSort _).length<=_;rw[List.length_mergeSort];omega
theorem st_po {n:Nat}{t:TypeId}{m:Pom}(h:Fnd H n (Cl (encSt m) t)):Cells w0 H n 0 (encPo m):=fun i v hi=>Ae h i v (by rw[List.getElem?_append_left (by exact(List.getElem?_eq_some_iff.1 hi).1)];exact hi)
theorem take_next {α:Type}{l:List α}{k:Nat}{x:α}(hx:l[k]? =some x):l.take (k+1)=l.take k++[x]:=by
 obtain⟨hk,e⟩:=List.getElem?_eq_some_iff.1 hx;rw[List.take_succ_eq_append_getElem hk,e]
theorem bnds_s (ms:List Pom)(q:Option Addr)(c:Nat)(hA:Arr w0 H q 15 encSt ms)(hM:∀ m∈ms,PoM w0 H m/\m.sz<=1000000000/\m.nd<=1000)(hlen:ms.length<=16):
  FSpec prog w0 73 #[.slice q ms.length c] H (fun u H'=>∃ (d:Sl) (l:List Int),u=slV d l.length/\SlOk d l.length 1/\Tks ms l/\H'=slH d (l.flatMap encI) 3++H):=by
 refine Am func73 U ntmps73 U (rDt 7 U (e_ Dn ?_ U));rintro _ _ ⟨n7,rfl,rfl⟩;refine e_ (Ag zeroValue167 cs_) ?_ U;rintro _ _ ⟨n3,rfl,rfl⟩;refine Bo (Oq U U sizeOf167) U Ad ?_;rintro _ _ ⟨rfl,rfl⟩;refine rOt 11 U ?_;refine j_loopDC (D:=fun ⟨i,l,Ds⟩=>mkD Ds) (X:=Nat × TkL × List Nat) (V:=fun ⟨i,l,Ds⟩=>[(10,Vi (i:Nat))]) (C:=[(2,_),(3,_),(8,_),(9,_)]) (G:=fun ⟨i,l,Ds⟩=>mkM Ds++((n3,Cl [.map (some n7)] 167)::(n7,mapO encZI encTB l)::H)) (φ:=fun ⟨i,l,Ds⟩=>i<=ms.length/\l=((ms.take i).flatMap prdF).foldl stepB []) (μ:=fun ⟨i,l,Ds⟩=>ms.length - i) (x0:=(0,[],[])) ?_ (kg U) qkg (List.Sublist.refl _) ?_
 ·exact⟨Nat.zero_le _,rfl⟩
 rintro⟨i,l,Ds⟩ ⟨hi,hl⟩;refine rDt 6 U ?_;refine jcd U (fun c11=> ?_) (fun c11=> ?_)
 ·have hi2:i<ms.length:=Int.ofNat_lt.1 c11;have hmi:=hM _ (Ax hi2);refine rCt 6 U (y_ (Oo U U runUnderlying117 sizeOf115 (Int.ofNat_lt.1 c11) (by first|exact rfl|exact hA.b (i:=i) hi2)) ?_ U);refine y_ (On U isAgg115 sizeOf115 U (by exact(hA.mono sbt).cs (i:=i) hi2)) ?_ U;refine e_ (Ag zeroValue115 cs_) ?_ U;rintro _ _ ⟨n5,rfl,rfl⟩;refine Bo (Oq U U sizeOf115) U Ad ?_;rintro _ _ ⟨rfl,rfl⟩;refine rOt 5 U ?_;refine y_ (On U isAgg28 sizeOf28 U (by exact st_po fndq)) ?_ U;refine e_ (Ah (evq1 U) call114 (prd_mk (gd ms i))) ?_ U;rintro _ _ ⟨b,rfl,rfl⟩;refine rOt 3 U ?_;refine j_range (Z:=TkL) (T U) call153 (prd_it (Hc:=(b,Cl (encPo (gd ms i)) 28)::H) (gd ms i) hmi.2.1 (hmi.1.mono (List.Sublist.cons _ (List.Sublist.refl _))) fnd_h) (fun _=>rfl) U (fun z=>(b,Cl (encPo (gd ms i)) 28)::(n5,Cl (encSt (gd ms i)) 115)::(mkM Ds++((n3,Cl [.map (some n7)] 167)::(n7,mapO encZI encTB z)::H))) (fun k z=>z=((prdF (gd ms i)).take k).foldl stepB l) (fun z=>False) (fun _ z=>False) (l) ?_ sbt ?_ ?_ ?_ ?_ ?_
  ·rfl
  ·exact fun z=>List.Sublist.cons_cons _ sbt
  ·rintro l lr Y X k y z hl hx hz;refine Jf [(3,_),(17,_)] (kg U) (rDt 1 U (e_ (Ag zeroValue25 cs_) ?_ U));rintro _ _ ⟨n6,rfl,rfl⟩;refine Bo (Oq U U sizeOf25) U Ad ?_;rintro _ _ ⟨rfl,rfl⟩;refine rOt 1 U (Io hl ?_);refine rDt 4 U ?_;refine y_ (Om U isAgg3 qco) ?_ U;refine rOt 3 U ?_;refine jcd U (fun c20=> ?_) (fun c20=> ?_)
   ·refine Bf 7 (plq6 [(6,false)]) ((n6,Cl (encPd y) 25)::(n3,Cl [.map (some n7)] 167)::H) mixd qkr sbt ?_ Bh;refine o_y U (Om U isAgg167 qco) ?_ U Ad;refine rPt 1 U ?_;refine o_y U (Om U isAgg3 qco) ?_ U Ad;refine o_y U (Om U isAgg167 qco) ?_ U Ad;refine rPt 1 U ?_;refine o_y U (Om U isAgg3 qco) ?_ U Ad;refine o_e U (Cq (l:=z) (encK:=encZI) (encV:=encTB) y.val true keyZ (T U) (T U) U Al U runUnderlying167) ?_ U Ad;rintro _ _ ⟨rfl,rfl⟩;refine⟨sbt,(Av U (e_ (Cq (l:=upsert z y.val true) (encK:=encZI) (encV:=encTB) y.to true keyZ (T U) (T U) U Al U runUnderlying167) ?_ U))⟩;rintro _ _ ⟨rfl,rfl⟩;refine rOt 2 U (Ip (upsert (upsert z y.val true) y.to true) ?_ sbt);rw[take_next hx,List.foldl_append,<- hz];show _=stepB z y;unfold stepB;rw[if_pos c20]
   ·refine rCt 2 U (Ip (z) ?_ sbt);rw[take_next hx,List.foldl_append,<- hz];show _=stepB z y;unfold stepB;rw[if_neg c20]
  ·rintro D0 z hz;refine rXt 4 U (y_ (Aw (T U) Al qom) ?_ U);refine rOt 2 U ?_;refine q_loopDC ((i+1,z,D0::Ds)) ?_ ?_ qkg (kg U) ?_
   ·refine⟨hi2,?_⟩;rw[List.take_succ_eq_append_getElem hi2,<- Ar hi2,List.flatMap_append,List.foldl_append,<- hl];show z=(([gd ms i]:List Pom).flatMap prdF).foldl stepB l;rw[hz,List.take_length];simp
   ·first|omega|(simp only[];omega)
   ·exact(show ((D0,Obj.deferred (some []))::(mkM Ds++((n3,Cl [.map (some n7)] 167)::(n7,mapO encZI encTB z)::H))).Sublist _ from by exact sbt)
  ·exact fun _ _ h=>h.elim
  ·exact fun _ _ _ h=>h.elim
 ·obtain rfl:i=ms.length:=by have h9: ¬ ((i:Nat):Int)<(ms.length:Nat):=c11;omega
  rw[List.take_length] at hl;obtain rfl:l=tickB ms:=hl;have hpl:(tickB ms).length<=100000:=by have h8:=fold_len (ms.flatMap prdF) [];have h9:=prds_len (fun m hm=>(hM m hm).2.2);simp only[List.length_nil,Nat.zero_add] at h8;unfold tickB;omega
  refine rCt 2 U (q_loopD_exit (rXt 4 U ?_));refine y_ (Om U isAgg167 qco) ?_ U;refine e_ (Ah (evq1 U) call116 (tkeys_s n7)) ?_ U;rintro _ _ ⟨n29,rfl,rfl⟩;refine e_ (Ah (evq1 U) call115 (tsorted_s n29 n7 (tickB ms) fndq fndq hpl)) ?_ U;rintro _ _ ⟨d,ks,rfl,hok,hen,rfl⟩;refine rOt 4 U (q_retMP Ds U (Ol U) ?_);exact⟨_,⟨d,srtI ks,rfl,hok,tks_of hen (by have h8:=fold_len (ms.flatMap prdF) [];have h9:=prds_len (fun m hm=>(hM m hm).2.2);simp only[List.length_nil,Nat.zero_add] at h8;unfold tickB;omega),rfl⟩,sbt⟩
theorem Ka1 (a0 a1:Int)(a2:ByteArray)(a3 a4:Int)(a5:Option Addr)(a5n a5c:Nat)(a6:ByteArray)(a7:Int)(a8:Option Addr)(a8n a8c:Nat)(w:World):(Instr.build 115 #[(0, .agg #[Vi a0,Vi a1, .string a2,Vi a3,Vi a4, .slice a5 a5n a5c, .string a6,Vi a7, .slice a8 a8n a8c])]).run prog w= .ok (.agg #[Vi a0,Vi a1, .string a2,Vi a3,Vi a4, .slice a5 a5n a5c, .string a6,Vi a7, .slice a8 a8n a8c,Vi 0, .string ⟨#[]⟩, .slice none 0 0, .string ⟨#[]⟩,Vi 0,Vi 0]) w:=by kernel_rfl
theorem Kb5 (a0 a1:Int)(a2:ByteArray)(a3 a4:Int)(a5:Option Addr)(a5n a5c:Nat)(a6:ByteArray)(a7:Int)(a8:Option Addr)(a8n a8c:Nat)(a9:Int)(a10:ByteArray)(a11:Option Addr)(a11n a11c:Nat)(a12:ByteArray)(a13 a14 a15 a16:Int)(a17:ByteArray)(a18 a19:Int)(a20:Option Addr)(a20n a20c:Nat)(a21:ByteArray)(a22:Int)(a23:Option Addr)(a23n a23c:Nat)(a24:Int)(a25:ByteArray)(a26:Option Addr)(a26n a26c:Nat)(a27:ByteArray)(a28 a29:Int)(w:World):(Instr.buildSlice 117 2 #[(0, .agg #[Vi a0,Vi a1, .string a2,Vi a3,Vi a4, .slice a5 a5n a5c, .string a6,Vi a7, .slice a8 a8n a8c,Vi a9, .string a10, .slice a11 a11n a11c, .string a12,Vi a13,Vi a14]),(1, .agg #[Vi a15,Vi a16, .string a17,Vi a18,Vi a19, .slice a20 a20n a20c, .string a21,Vi a22, .slice a23 a23n a23c,Vi a24, .string a25, .slice a26 a26n a26c, .string a27,Vi a28,Vi a29])]).run prog w= .ok (.slice (some ⟨w.heap.size,0,none⟩) 2 2) (w.alloc (Cl [Vi a0,Vi a1, .string a2,Vi a3,Vi a4, .slice a5 a5n a5c, .string a6,Vi a7, .slice a8 a8n a8c,Vi a9, .string a10, .slice a11 a11n a11c, .string a12,Vi a13,Vi a14,Vi a15,Vi a16, .string a17,Vi a18,Vi a19, .slice a20 a20n a20c, .string a21,Vi a22, .slice a23 a23n a23c,Vi a24, .string a25, .slice a26 a26n a26c, .string a27,Vi a28,Vi a29] 115)):=by kernel_rfl
theorem arrSt2 {w0:World}{R:Mm}{n:Nat}{a b:Pom}{t:TypeId}(hf:Fnd R n (Cl (encSt a++encSt b) t)):Arr w0 R (some ⟨n,0,none⟩) 15 encSt [a,b]:=fun j x hj=>by
 match j with
 |0=>
  obtain rfl:a=x:=by simpa using hj
  exact⟨rfl,fun k v hk=>Ae hf k v (by rw[List.getElem?_append_left (List.getElem?_eq_some_iff.1 hk).1];exact hk)⟩
 |1=>
  obtain rfl:b=x:=by simpa using hj
  refine⟨rfl,fun k v hk=> ?_⟩;have:=Ae (w0:=w0) hf (15+k) v (by rw[List.getElem?_append_right (by simp)];simpa using hk);rw[show (0:Nat)+(15+k)=0+1*15+k by omega] at this;exact this
 |j+2=>simp at hj
def AlwR (fl:List Fd) (p1 p2:Po) (L:List Int) (t:Int) (h:Hd) (is:Bool) (e:Int):Prop:=
 (e=12/\t=0/\h=hd0/\is=false/\∃ t'∈L,G2 fl t' p1 p2)\/
 (e=0/\t=0/\h=hd0/\is=true/\∀ t'∈L,∀ g,HdOk g->AskP t' 1 p1 p2 g)\/
 (e=0/\is=false/\Ans (AskP t 1 p1 p2) h false/\∃ A B,L=A++t::B/\∀ t'∈A,∀ g,HdOk g->AskP t' 1 p1 p2 g)
theorem alw_hit {fl:List Fd}{p1 p2:Po}{L:List Int}{i:Nat}(hi:i<L.length)(hn:∀ j,j<i->∀ g,HdOk g->AskP (gd L j) 1 p1 p2 g){h:Hd}(ha:Ans (AskP (gd L i) 1 p1 p2) h false):AlwR fl p1 p2 L (gd L i) h false 0:=by
 refine .inr (.inr ⟨rfl,rfl,ha,L.take i,L.drop (i+1),?_,fun t ht=> ?_⟩)
 ·conv=>lhs;rw[<- List.take_append_drop i L,List.drop_eq_getElem_cons hi,<- Ar hi]
 ·obtain⟨j,hj,rfl⟩:=List.getElem_of_mem ht;rw[List.length_take] at hj;rw[List.getElem_take,<- Ar qom];exact hn j qom
theorem ealways_s {fl:List Fd}(hfl:FlOk fl)(q:Option Addr)(c:Nat)(hA:Arr w0 H q 3 encF fl){m1:Pom}{p1:Po}(hI1:IsO fl m1 p1)(hF1:p1.Fit (bsF fl))(hM1:PoM w0 H m1){m2:Pom}{p2:Po}(hI2:IsO fl m2 p2)(hF2:p2.Fit (bsF fl))(hM2:PoM w0 H m2)(hs1:m1.sz<=1000000000/\m1.nd<=1000)(hs2:m2.sz<=1000000000/\m2.nd<=1000):
  FSpec prog w0 25 #[.slice q fl.length c, .agg (encPo m1).toArray, .agg (encPo m2).toArray] H (fun u H'=>(∃ (bl:List Int) (t:Int) (h:Hd) (is:Bool) (e:Int),u= .tuple #[Vi t, .agg (hdC h).toArray, .bool is,Vi e]/\HdOk h/\Tks [m1,m2] bl/\AlwR fl p1 p2 (0::bl) t h is e)/\H'=H):=by
 refine Am func25 U ntmps25 U (rDt 2 U (e_ (Ot U cs_) ?_ U));rintro _ _ ⟨n4,rfl,rfl⟩;refine e_ (Ot U cs_) ?_ U;rintro _ _ ⟨n5,rfl,rfl⟩;refine rOt 1 U (e_ (Ag zeroValue32 cs_) ?_ U);rintro _ _ ⟨n7,rfl,rfl⟩;refine rOt 6 U (e_ (Bb (.cons Al .nil) (Eq)) ?_ U);rintro _ _ ⟨n16,rfl,rfl⟩;refine y_ (On U isAgg28 sizeOf28 U (by exact Ae fndq)) ?_ U;refine y_ (A1 (.cons (T U) .nil) (Ka1 _ _ _ _ _ _ _ _ _ _ _ _ _)) ?_ U;refine y_ (On U isAgg28 sizeOf28 U (by exact Ae fndq)) ?_ U;refine y_ (A1 (.cons (T U) .nil) (Ka1 _ _ _ _ _ _ _ _ _ _ _ _ _)) (e_ (Bb (.cons (T U) (.cons (T U) .nil)) (Kb5 _ _ _ _ _ _ _ _ _ _ _ _ _ _ _ _ _ _ _ _ _ _ _ _ _ _ _ _ _ _ _ _ _ _ _ _ _ _ _ _ _ _)) ?_ U) U;rintro _ _ ⟨n21,rfl,rfl⟩;refine e_ (Ah (evq1 rfl) call73 (bnds_s [m1,m2] (some ⟨n21,0,none⟩) 2 (arrSt2 fnd_h) (fun m hm=>by rcases List.mem_cons.1 hm with rfl|hm;exact⟨hM1.mono sbt,hs1⟩;rw[List.mem_singleton.1 hm];exact⟨hM2.mono sbt,hs2⟩) (by show 2<=16;omega))) ?_ rfl;rintro _ _ ⟨d8,bl,rfl,hd8,hT,rfl⟩;have hbl:=hT.len;refine e_ (Bu (enc:=encI) (d:= .blk n16 1 []) (l:=[0]) bl (by':=8) (by repeat (first|exact loc_1|apply LocL.t|apply LocL.a)) (T U) (T U) runUnderlying109 runUnderlying109 sizeOf3 typeInfo3 U zeroValue3 U (fun _=>rfl) (fun _=>rfl) ⟨Nat.le_refl _,rfl⟩ qde (by simp only[List.length_cons,List.length_nil];omega) ((B3 (w0:=w0) (e:=3) (X:=((n21,Cl (encSt m1++encSt m2) 115)::(n16,Cl [Vi 0] 3)::(n7,Cl [Vi 0,Vi 0,Vi 0,Vi 0,Vi 0,Vi 0,Vi 0,Vi 0,Vi 0,Vi 0] 32)::(n5,Cl (encPo m2) 28)::(n4,Cl (encPo m1) 28)::H)) (enc:=encI) (fun _=>rfl) hd8).mono sbt)) ?_ U;rintro _ _ ⟨d9,rfl,hd9,rfl⟩;have hd9:SlOk d9 ((0:Int)::bl).length 1:=by have:=hd9;rw[List.length_singleton] at this;rw[List.length_cons,Nat.add_comm];exact this
 have hI9:=B3 (w0:=w0) (e:=3) (X:=[]) (enc:=encI) (l:=((0:Int)::bl)) (fun _=>rfl) hd9;rw[List.append_nil] at hI9;refine rOt 12 U ?_;refine A8 (X:=Nat) (V:=fun i=>[(26,Vi (i:Nat))]) (C:=[(0,_),(4,_),(5,_),(7,_),(24,_),(25,_)]) (G:=fun i=>((n21,Cl (encSt m1++encSt m2) 115)::(slH d9 ((0::bl).flatMap encI) 3++((n7,Cl [Vi 0,Vi 0,Vi 0,Vi 0,Vi 0,Vi 0,Vi 0,Vi 0,Vi 0,Vi 0] 32)::(n5,Cl (encPo m2) 28)::(n4,Cl (encPo m1) 28)::H)))) (φ:=fun i=>i<=(0::bl).length/\∀ j,j<i->∀ g,HdOk g->AskP (gd ((0:Int)::bl) j) 1 p1 p2 g) (μ:=fun i=>(0::bl).length - i) (x0:=0) ?_ (kg U) qkg sbt ?_
 ·exact⟨Nat.zero_le _,fun j hj=>absurd hj (Nat.not_lt_zero _)⟩
 rintro i ⟨hi,hn⟩;have hI9m:Arr w0 ((n21,Cl (encSt m1++encSt m2) 115)::(slH d9 ((0::bl).flatMap encI) 3++((n7,Cl [Vi 0,Vi 0,Vi 0,Vi 0,Vi 0,Vi 0,Vi 0,Vi 0,Vi 0,Vi 0] 32)::(n5,Cl (encPo m2) 28)::(n4,Cl (encPo m1) 28)::H))) (slQ d9) 1 encI (0::bl):=hI9.mono (.cons _ (List.sublist_append_left _ _));refine rDt 6 U ?_;refine jcd U (fun c27=> ?_) (fun c27=> ?_)
 ·have hi2:i<(0::bl).length:=by have h9:=c27;simp only[List.length_cons,List.length_nil] at h9 ⊢;omega
  have hi3:i<=32000:=by have h9:=hi2;rw[List.length_cons] at h9;omega
  refine rCt 6 U (y_ (Oo U U runUnderlying109 sizeOf3 (by have h9:=c27;simp only[List.length_cons,List.length_nil] at h9 ⊢;omega) (by first|exact rfl|exact hI9.b (i:=i) hi2)) ?_ U);refine y_ (Om U isAgg3 (by first|exact c_o|exact(Arr.f0 hI9m (i:=i) hi2 U))) ?_ U;refine rOt 6 U ?_;refine y_ (On U isAgg28 sizeOf28 U (by exact Ae fndq)) ?_ U;refine y_ (On U isAgg28 sizeOf28 U (by exact Ae fndq)) ?_ U;refine rOt 1 U (e_ (Ah (evq4 U U U U) call13 (G3 hfl q c (hA.mono sbt) (gd ((0:Int)::bl) i) hI1 hF1 (hM1.mono sbt) hI2 hF2 (hM2.mono sbt))) ?_ U);rintro _ _ ⟨⟨h,is,e9,rfl,hh,hR⟩,rfl⟩;refine rOt 4 U (e_ (Ag zeroValue32 cs_) ?_ U);rintro _ _ ⟨n13,rfl,rfl⟩;refine e_ (Oq U U sizeOf32 .agg (Bc _) (Af hh) updq (by rw[Af hh];rfl)) ?_ U;rintro _ _ ⟨rfl,rfl⟩;refine rOt 11 U ?_;refine jcd U (fun c40=> ?_) (fun c40=> ?_)
  ·obtain⟨h12,rfl,rfl,hno⟩:=hR.resolve_left fun k=>c40 k.1
   refine rCt 1 U (Bf 6 [(0,true),(1,true),(2,true),(3,false),(4,true),(5,true)] _ mixd qkr sb0 ?_ Bh);refine o_y U (On U isAgg32 sizeOf32 (Af hh) (by exact Ae fndq)) ?_ U Ad;refine rPt 2 U (o_e U (Oq U U sizeOf32 .agg (Bc _) (Af hh) updq (by rw[Af hh];rfl)) ?_ U Ad);rintro _ _ ⟨rfl,rfl⟩;refine⟨sbt,(rPt 2 U (Av U (kO tb 2 [6,7,8,9] rfl U (rGt 4 U (Bg (rXt 2 U (Ai U (.tmp (Aa U) (.cellA (Aa U) isAgg32 sizeOf32 (Af hh) qcs (.tmp (Aa U) (Ol U)))) ?_)))))))⟩;exact⟨_,⟨⟨bl,0,hd0,false,e9,rfl,Ay,hT, .inl ⟨h12,rfl,rfl,rfl,_,Ax hi2,hno⟩⟩,rfl⟩,sbt⟩
  ·have h0:e9=0:=Classical.not_not.1 c40;have hans:=(hR.resolve_right fun k=>absurd (k.1.symm.trans h0) qde).2;refine rCt 5 U ?_
   first|refine A6 (Bt (T U)) U Ad ?_|refine A6 (Bq (T U)) U Ad ?_
   refine rOt 2 U ?_
   first|refine jcd U (fun c44=> ?_) (fun c44=> ?_)|refine jcn U (fun c44=> ?_) (fun c44=> ?_)
   ·obtain rfl:is=false:=by simpa using c44
    refine rCt 1 U (Bf 3 [(0,true),(1,true),(2,true)] _ mixd qkr sb0 ?_ Bh);refine rPt 1 U ?_;refine o_y U (On U isAgg32 sizeOf32 (Af hh) (by exact Ae fndq)) ?_ U Ad;refine rPt 1 U (Av U (e_ (Oq U U sizeOf32 .agg (Bc _) (Af hh) updq (by rw[Af hh];rfl)) ?_ U));rintro _ _ ⟨rfl,rfl⟩;refine kO tb 4 [6,7,8,9] rfl U (rGt 3 U (Bg (rXt 2 U (Ai U (.tmp (Aa U) (.cellA (Aa U) isAgg32 sizeOf32 (Af hh) qcs (.tmp (Aa U) (Ol U)))) ?_))));exact⟨_,⟨⟨bl,gd ((0:Int)::bl) i,h,false,0,rfl,hh,hT,alw_hit hi2 hn hans⟩,rfl⟩,sbt⟩
   ·obtain rfl:is=true:=by simpa using c44
    have hk2:=hans.true;refine rCt 4 U (y_ (Aw (T U) Al qom) ?_ U);refine rOt 2 U ?_;refine Au (i+1) ?_ ?_ qkg (kg U) ?_
    ·refine⟨hi2,fun j hj=> ?_⟩;rcases Nat.lt_or_ge j i with h9|h9
     ·exact hn j h9
     ·obtain rfl:j=i:=by omega
      exact hk2
    ·omega
    ·exact sbt
 ·obtain rfl:i=(0::bl).length:=by have h9:=c27;simp only[List.length_cons,List.length_nil] at h9 hi ⊢;omega
  refine rCt 2 U (An (rXt 4 U (y_ (A1 .nil (J9)) (rOt 1 U (e_ (Oq U U sizeOf32) ?_ U)) U)));rintro _ _ ⟨rfl,rfl⟩;refine rOt 5 U (Ai U (.tmp (Aa U) (.cellA (Aa U) isAgg32 sizeOf32 U qcs (.tmp (Aa U) (Ol U)))) ?_);exact⟨_,⟨⟨bl,0,hd0,true,0,rfl,Ay,hT, .inr (.inl ⟨rfl,rfl,rfl,rfl,fun t ht=>by obtain⟨j,hj,rfl⟩:=List.getElem_of_mem ht;rw[<- Ar hj];exact hn j hj⟩)⟩,rfl⟩,sbt⟩
abbrev xK7:Hd:=[0,0,28672,0,0,0,0,0,0,0]
abbrev xDS:Hd:=[0,772,0,0,0,0,0,0,0,0]
abbrev xD1:Hd:=[0,256,0,0,0,0,0,0,0,0]
section
variable {P:Hd->Prop} {h:Hd} {is:Bool}
theorem Nt (a:Ans P h is)(e:∀ g,HdOk g->P g):is=true/\h=hd0:=let b:=Ih a (.inl ⟨rfl,rfl,e⟩);⟨b.2,b.1⟩
theorem ans_f (a:Ans P h is){x:Hd}(hx:HdOk x)(n: ¬ P x):is=false:=by
 cases is
 ·rfl
 ·exact absurd (a.true x hx) n
theorem Nu (a:Ans P h is){x:Hd}(hx:HdOk x)(n: ¬ P x)(l:∀ g,HdOk g->¬ P g->x=g\/hLt x g):is=false/\h=x:=by
 have b:=Ih a (h':=x) (is':=false) (.inr ⟨rfl,hx,n,fun g hg hl=>Classical.byContradiction fun c=>by
  rcases l g hg c with rfl|k
  ·exact hl.irr
  ·exact(hl.trans k).irr⟩)
 exact⟨b.2,b.1⟩
end
theorem Ok {x h:Hd}(hx:HdOk x)(c:((List.range 160).all fun b=>decide (16<=b/\b<24)||decide (24<=b/\b<32)||decide (33<=b/\b<36)|| !hbit x b)=true)(hh:HdOk h)(d:fget exD x<=fget exD h)(s:fget exS x<=fget exS h)(k:fget exK x<=fget exK h):x=h\/hLt x h:=
 hd_le (F:=exF) hx hh (fun f hf=>by
  simp only[exF,List.mem_cons,List.not_mem_nil,or_false] at hf;rcases hf with rfl|rfl|rfl
  ·exact d
  ·exact s
  ·exact k) (fun b hb o=>by
  have t:=List.all_eq_true.1 c b (List.mem_range.2 hb);have o1: ¬ (16<=b/\b<24):=o exD (by simp[exF]);have o2: ¬ (24<=b/\b<32):=o exS (by simp[exF]);have o3: ¬ (33<=b/\b<36):=o exK (by simp[exF]);rw[decide_eq_false o1,decide_eq_false o2,decide_eq_false o3] at t
  simpa using t)
theorem Oc (f:Fd):fget f hd0=0:=Nat.eq_of_testBit_eq fun i=>by rw[Dg,He];simp
theorem le_0 {h:Hd}(hh:HdOk h):hd0=h\/hLt hd0 h:=Ok Ay qkr hh (by rw[Oc];exact Nat.zero_le _) (by rw[Oc];exact Nat.zero_le _) (by rw[Oc];exact Nat.zero_le _)
theorem okD:FdOk exD:=inD.ok
theorem okS:FdOk exS:=inS.ok
theorem okK:FdOk exK:=inK.ok
theorem N9:HdOk xK7:=by refine⟨rfl,fun w hw=> ?_⟩;simp at hw;omega
theorem K9:HdOk xDS:=by refine⟨rfl,fun w hw=> ?_⟩;simp at hw;omega
theorem Oa:HdOk xD1:=by refine⟨rfl,fun w hw=> ?_⟩;simp at hw;omega
theorem k7_k:fget exK xK7=7:=by kernel_rfl
theorem k7_d:fget exD xK7=0:=by kernel_rfl
theorem k7_s:fget exS xK7=0:=by kernel_rfl
theorem ds_k:fget exK xDS=0:=by kernel_rfl
theorem ds_d:fget exD xDS=3:=by kernel_rfl
theorem ds_s:fget exS xDS=4:=by kernel_rfl
theorem d1_k:fget exK xD1=0:=by kernel_rfl
theorem d1_d:fget exD xD1=1:=by kernel_rfl
theorem d1_s:fget exS xD1=0:=by kernel_rfl
section
variable {h:Hd} {is:Bool}
theorem q1_a (a:Ans (AskP 0 1 q1_1 q1_2) h is):is=true/\h=hd0:=Nt a fun g _=>by
 show ∀ x,(∃ m,m=fset exK g 1/\x=fset exK m 2)↔x=fset exK g 2;intro x
 constructor
 ·rintro⟨m,rfl,rfl⟩;exact fset_fset
 ·rintro rfl;exact⟨_,rfl,fset_fset.symm⟩
theorem q2_a (a:Ans (AskP 0 1 q2_1 q2_2) h is):is=false/\h=hd0:=Nu a Ay (fun k=>by
 have k:∀ x,(x=hd0/\(fget exK hd0==1)=true)↔(x=hd0/\true=true):=k;have:=((k hd0).2 ⟨rfl,rfl⟩).2;rw[Oc] at this;cases this) fun g hg _=>le_0 hg
theorem q3_0 (g:Hd):AskP 0 1 Nq Nr g:=by
 show ∀ x,(x=g/\_)↔(x=g/\true=true);exact fun x=>⟨fun k=>⟨k.1,rfl⟩,fun k=>⟨k.1,(by show (!(decide ((3:Int)<=0)&&decide ((0:Int)<7)))=true;decide)⟩⟩
theorem q3_3: ¬ AskP 3 1 Nq Nr hd0:=fun k=>by
 have k:∀ x,(x=hd0/\holdsP 3 (.no (.time 3 7)) hd0=true)↔(x=hd0/\true=true):=k;have:=((k hd0).2 ⟨rfl,rfl⟩).2;exact absurd this qde
theorem q3_a {bl:List Int}{t e:Int}(hT:bl.Pairwise (· < ·))(hm:∀ x,x∈bl↔x=3\/x=7)(a:AlwR exF Nq Nr (0::bl) t h is e):e=0/\t=3/\is=false/\h=hd0:=by
 have hall:∀ t'∈(0:Int)::bl,t'=0\/t'=3\/t'=7:=fun t' h'=>by
  rcases List.mem_cons.1 h' with h'|h'
  ·exact .inl h'
  ·exact .inr ((hm t').1 h')
 have h3:(3:Int)∈bl:=(hm 3).2 (.inl U);rcases a with ⟨_,_,_,_,t',ht,hn⟩|⟨_,_,_,_,k⟩|⟨he,hi,k,A,B,hL,hA⟩
 ·exfalso;rcases hall t' ht with rfl|rfl|rfl
  ·exact q3a_no hn
  ·exact q3b_no hn
  ·exact q3c_no hn
 ·exact absurd (k 3 (List.mem_cons_of_mem _ h3) hd0 Ay) q3_3
 ·subst hi;have ht:t∈(0:Int)::bl:=by rw[hL];simp
  rcases hall t ht with rfl|rfl|rfl
  ·exact absurd (q3_0 h) k.false.2.1
  ·obtain⟨_,rfl⟩:=Nu k Ay q3_3 fun g hg _=>le_0 hg
   exact⟨he,rfl,rfl,rfl⟩
  ·exfalso
   match A,hL with
   |[],hL=>simp at hL
   |b::A',hL=>
    obtain⟨rfl,rfl⟩:=List.cons.inj hL;rcases List.mem_append.1 h3 with h4|h4
    ·exact q3_3 (hA 3 (List.mem_cons_of_mem _ h4) hd0 Ay)
    ·rcases List.mem_cons.1 h4 with h4|h4
     ·exact absurd h4 qde
     ·have:=(List.pairwise_cons.1 (List.pairwise_append.1 hT).2.1).1 3 h4;exact absurd this qde
theorem q4_a (a:Ans (AskP 0 2 q4_1 Oh) h is):is=true/\h=hd0:=Nt a fun g _=>by
 show ∀ x,den 0 Oh g x->den 0 (.fil .tru) g x\/den 0 (.set exK 1) g x;exact fun x d=> .inr d
theorem q5_a (a:Ans (AskP 0 2 q5_1 q5_2) h is):is=false:=ans_f a Ay fun k=>by
 have k:∀ x,(x=hd0/\true=true)\/x=fset exK hd0 1->x=fset exK hd0 1:=k;have:=congrArg (fget exK) (k hd0 (.inl ⟨rfl,rfl⟩));rw[Dz okK qde,Oc] at this;cases this
theorem q6_a (a:Ans (AskP 0 3 Oi Oi) h is):is=true/\h=hd0:=Nt a fun g _=>by
 show ∀ x,¬ ∃ m,(m=g/\(fget exK g==1)=true)/\x=m/\(fget exK m==2)=true;rintro x ⟨m,⟨rfl,e1⟩,_,e2⟩;rw[beq_iff_eq.1 e1] at e2;cases e2
theorem q7_a (a:Ans (AskP 0 4 Oj Oj) h is):is=false/\h=xK7:=Nu a N9 (fun k=>by
 obtain⟨g,k⟩:∃ g,g=xK7/\(decide (0<=fget exK xK7)&&decide (fget exK xK7<=6))=true:=k;rw[k7_k] at k;exact absurd k.2 qde) fun g hg n=>by
 have n: ¬ ∃ x,x=g/\(decide (0<=fget exK g)&&decide (fget exK g<=6))=true:=n;have h6: ¬ fget exK g<=6:=fun c=>n ⟨g,rfl,by rw[decide_eq_true c,decide_eq_true (Nat.zero_le _)];rfl⟩
 exact Ok N9 qkr hg (by rw[k7_d];exact Nat.zero_le _) (by rw[k7_s];exact Nat.zero_le _) (by rw[k7_k];omega)
theorem q8_a (a:Ans (AskP 0 5 Oe Oe) h is):is=false:=ans_f a Ay fun k=>by
 have k:∀ g g',((g=hd0/\true=true)\/g=fset exK hd0 3)->((g'=hd0/\true=true)\/g'=fset exK hd0 3)->g=g':=k;have:=congrArg (fget exK) (k hd0 _ (.inl ⟨rfl,rfl⟩) (.inr U));rw[Dz okK qde,Oc] at this;cases this
theorem q9_a (a:Ans (AskP 0 6 q9_1 q9_2) h is):is=true/\h=hd0:=Nt a fun g _=>by
 show (∀ x,¬ (x=g/\(fget exD g==1)=true))\/∀ x,¬ (x=g/\(fget exD g==2)=true)
 by_cases e:fget exD g=1
 ·right;rintro x ⟨_,k⟩;rw[e] at k;cases k
 ·left;rintro x ⟨_,k⟩;exact e (beq_iff_eq.1 k)
theorem q10_a (a:Ans (DstP 0 N7 N8) h is):is=false/\h=xDS:=Nu a K9 (fun k=>by
 have k: ¬ ((∃ h,HdOk h/\xDS=fset exD h 3)/\∃ h,HdOk h/\xDS=fset exS h 4):=k;have e1:=fset_self okD K9;have e2:=fset_self okS K9;rw[ds_d] at e1;rw[ds_s] at e2;exact k ⟨⟨xDS,K9,e1.symm⟩,xDS,K9,e2.symm⟩) fun g hg n=>by
 have n: ¬ ¬ ((∃ h,HdOk h/\g=fset exD h 3)/\∃ h,HdOk h/\g=fset exS h 4):=n;obtain⟨⟨x,_,e1⟩,y,_,e2⟩:=Classical.not_not.1 n;have f1:fget exD g=3:=by rw[e1];exact Dz okD qde
 have f2:fget exS g=4:=by rw[e2];exact Dz okS qde
 exact Ok K9 qkr hg (by rw[ds_d,f1];exact Nat.le_refl _) (by rw[ds_s,f2];exact Nat.le_refl _) (by rw[ds_k];exact Nat.zero_le _)
theorem q11_a (a:Ans (SlcP 0 q11_1 q11_2) h is):is=false/\h=xD1:=Nu a Oa (fun k=>by
 refine k.1 (fset exD (fset exD xD1 2) 3) ?_;refine⟨fset exD xD1 2,⟨xD1,⟨rfl,?_⟩,rfl⟩,fset exD xD1 2,⟨rfl,?_⟩,rfl⟩
 ·show (fget exD xD1==1)=true;rw[d1_d];rfl
 ·show (fget exD (fset exD xD1 2)==2)=true;rw[Dz okD qde];rfl) fun g hg n=>by
 by_cases f1:fget exD g=1
 ·exact Ok Oa qkr hg (by rw[d1_d,f1];exact Nat.le_refl _) (by rw[d1_s];exact Nat.zero_le _) (by rw[d1_k];exact Nat.zero_le _)
 ·refine absurd ⟨fun x k=> ?_,fun x k=> ?_⟩ n
  ·obtain⟨m,⟨m2,⟨_,e⟩,_⟩,_⟩:=k;have e:(fget exD g==1)=true:=e;exact f1 (beq_iff_eq.1 e)
  ·obtain⟨m,⟨m2,⟨_,_⟩,e2⟩,m3,⟨_,e⟩,_⟩:=k;have e:(fget exD m==1)=true:=e;have e2:m=fset exD m2 3:=e2;rw[e2,Dz okD qde] at e;cases e
theorem q12_a (a:Ans (SlcP 0 q12_1 q12_2) h is):is=true/\h=hd0:=Nt a fun g _=>by
 refine⟨fun x k=> ?_,fun x k=> ?_⟩
 ·obtain⟨m,⟨e1,e2⟩,e3,e4⟩:=k;have e2:(fget exD g==1)=true:=e2;have e4:(fget exD m==2)=true:=e4;have e1:m=g:=e1;rw[e1,beq_iff_eq.1 e2] at e4;cases e4
 ·obtain⟨m,⟨e1,e2⟩,e3,e4⟩:=k;have e2:(fget exD g==2)=true:=e2;have e4:(fget exD m==1)=true:=e4;have e1:m=g:=e1;rw[e1,beq_iff_eq.1 e2] at e4;cases e4
end
theorem Ka2 (a0:ByteArray)(a1 a2:Int)(w:World):(Instr.build 127 #[(0, .string a0),(1,Vi a1),(2,Vi a2)]).run prog w= .ok (.agg #[.string a0,Vi a1,Vi a2]) w:=by kernel_rfl
theorem Ka4 (a0:Int)(a1:ByteArray)(a2:Int)(w:World):(Instr.build 25 #[(0,Vi a0),(1, .string a1),(2,Vi a2)]).run prog w= .ok (.agg #[Vi a0, .string a1,Vi a2,Vi 0, .slice none 0 0]) w:=by kernel_rfl
theorem Ka8 (a0 a1:Int)(a2:ByteArray)(a3 a4:Int)(a5:Option Addr)(a5n a5c:Nat)(w:World):(Instr.build 28 #[(0,Vi a0),(1, .agg #[Vi a1, .string a2,Vi a3,Vi a4, .slice a5 a5n a5c])]).run prog w= .ok (.agg #[Vi a0,Vi a1, .string a2,Vi a3,Vi a4, .slice a5 a5n a5c, .string ⟨#[]⟩,Vi 0, .slice none 0 0]) w:=by kernel_rfl
theorem Ka9 (a0:Int)(a1:ByteArray)(a2:Int)(w:World):(Instr.build 28 #[(0,Vi a0),(2, .string a1),(3,Vi a2)]).run prog w= .ok (.agg #[Vi a0,Vi 0, .string ⟨#[]⟩,Vi 0,Vi 0, .slice none 0 0, .string a1,Vi a2, .slice none 0 0]) w:=by kernel_rfl
theorem Kb0 (a0:Int)(a1:Option Addr)(a1n a1c:Nat)(w:World):(Instr.build 28 #[(0,Vi a0),(4, .slice a1 a1n a1c)]).run prog w= .ok (.agg #[Vi a0,Vi 0, .string ⟨#[]⟩,Vi 0,Vi 0, .slice none 0 0, .string ⟨#[]⟩,Vi 0, .slice a1 a1n a1c]) w:=by kernel_rfl
theorem Kb1 {a0 a1 a2:Int}(w:World):(Instr.build 32 #[(0,Vi a0),(1,Vi a1),(2,Vi a2)]).run prog w= .ok (.agg #[Vi a0,Vi a1,Vi a2,Vi 0,Vi 0,Vi 0,Vi 0,Vi 0,Vi 0,Vi 0]) w:=by kernel_rfl
theorem Kb7 (a0:ByteArray)(a1 a2:Int)(a3:ByteArray)(a4 a5:Int)(a6:ByteArray)(a7 a8:Int)(w:World):(Instr.buildSlice 22 3 #[(0, .agg #[.string a0,Vi a1,Vi a2]),(1, .agg #[.string a3,Vi a4,Vi a5]),(2, .agg #[.string a6,Vi a7,Vi a8])]).run prog w= .ok (.slice (some ⟨w.heap.size,0,none⟩) 3 3) (w.alloc (Cl [.string a0,Vi a1,Vi a2, .string a3,Vi a4,Vi a5, .string a6,Vi a7,Vi a8] 127)):=by kernel_rfl
theorem Gg (a0 a1:Int)(a2:ByteArray)(a3 a4:Int)(a5:Option Addr)(a5n a5c:Nat)(a6:ByteArray)(a7:Int)(a8:Option Addr)(a8n a8c:Nat)(a9 a10:Int)(a11:ByteArray)(a12 a13:Int)(a14:Option Addr)(a14n a14c:Nat)(a15:ByteArray)(a16:Int)(a17:Option Addr)(a17n a17c:Nat)(w:World):(Instr.buildSlice 26 2 #[(0, .agg #[Vi a0,Vi a1, .string a2,Vi a3,Vi a4, .slice a5 a5n a5c, .string a6,Vi a7, .slice a8 a8n a8c]),(1, .agg #[Vi a9,Vi a10, .string a11,Vi a12,Vi a13, .slice a14 a14n a14c, .string a15,Vi a16, .slice a17 a17n a17c])]).run prog w= .ok (.slice (some ⟨w.heap.size,0,none⟩) 2 2) (w.alloc (Cl [Vi a0,Vi a1, .string a2,Vi a3,Vi a4, .slice a5 a5n a5c, .string a6,Vi a7, .slice a8 a8n a8c,Vi a9,Vi a10, .string a11,Vi a12,Vi a13, .slice a14 a14n a14c, .string a15,Vi a16, .slice a17 a17n a17c] 28)):=by kernel_rfl
theorem khead1_s :
  FSpec prog w0 42 #[Vi 0,Vi 0,Vi 7] H (Still (.agg (hdC xK7).toArray) H):=by
 refine Am func42 U ntmps42 U (rDt 2 U (e_ (Ag zeroValue32 cs_) ?_ U));rintro _ _ ⟨n6,rfl,rfl⟩;refine rOt 5 U (y_ (Fn Al (T U) qom) ?_ U);refine rOt 1 U (y_ (Aw (T U) (T U) qom) ?_ U);refine rOt 1 U (y_ (Fn Al (T U) qom) ?_ U);refine y_ (A1 (.cons Al (.cons (T U) (.cons (T U) .nil))) (Kb1)) ?_ U;refine Bo (Oq U U sizeOf32) U Ad ?_;rintro _ _ ⟨rfl,rfl⟩;refine rOt 3 U (Ai U (.cellA (Aa U) isAgg32 sizeOf32 U qcs .nil) ?_);exact⟨_,⟨rfl,rfl⟩,sbt⟩
theorem khead2_s :
  FSpec prog w0 42 #[Vi 3,Vi 4,Vi 0] H (Still (.agg (hdC xDS).toArray) H):=by
 refine Am func42 U ntmps42 U (rDt 2 U (e_ (Ag zeroValue32 cs_) ?_ U));rintro _ _ ⟨n6,rfl,rfl⟩;refine rOt 5 U (y_ (Fn Al (T U) qom) ?_ U);refine rOt 1 U (y_ (Aw (T U) (T U) qom) ?_ U);refine rOt 1 U (y_ (Fn Al (T U) qom) ?_ U);refine y_ (A1 (.cons Al (.cons (T U) (.cons (T U) .nil))) (Kb1)) ?_ U;refine Bo (Oq U U sizeOf32) U Ad ?_;rintro _ _ ⟨rfl,rfl⟩;refine rOt 3 U (Ai U (.cellA (Aa U) isAgg32 sizeOf32 U qcs .nil) ?_);exact⟨_,⟨rfl,rfl⟩,sbt⟩
theorem khead3_s :
  FSpec prog w0 42 #[Vi 1,Vi 0,Vi 0] H (Still (.agg (hdC xD1).toArray) H):=by
 refine Am func42 U ntmps42 U (rDt 2 U (e_ (Ag zeroValue32 cs_) ?_ U));rintro _ _ ⟨n6,rfl,rfl⟩;refine rOt 5 U (y_ (Fn Al (T U) qom) ?_ U);refine rOt 1 U (y_ (Aw (T U) (T U) qom) ?_ U);refine rOt 1 U (y_ (Fn Al (T U) qom) ?_ U);refine y_ (A1 (.cons Al (.cons (T U) (.cons (T U) .nil))) (Kb1)) ?_ U;refine Bo (Oq U U sizeOf32) U Ad ?_;rintro _ _ ⟨rfl,rfl⟩;refine rOt 3 U (Ai U (.cellA (Aa U) isAgg32 sizeOf32 U qcs .nil) ?_);exact⟨_,⟨rfl,rfl⟩,sbt⟩
theorem L9 (m:Pdm):
  FSpec prog w0 39 #[.agg (encPd m).toArray] H (Still (.agg (encPo (mFil m)).toArray) H):=by
 refine Am func39 U ntmps39 U (rDt 2 U (e_ (Ot U cs_) ?_ U));rintro _ _ ⟨n1,rfl,rfl⟩;refine e_ (Ag zeroValue28 cs_) ?_ U;rintro _ _ ⟨n2,rfl,rfl⟩;refine rOt 4 U (y_ (On U isAgg25 sizeOf25 U qcs) ?_ U);refine y_ (A1 (.cons Al (.cons (T U) .nil)) (Ka8 _ _ _ _ _ _ _ _)) ?_ U;refine Bo (Oq U U sizeOf28) U Ad ?_;rintro _ _ ⟨rfl,rfl⟩;refine rOt 3 U (Ai U (.cellA (Aa U) isAgg28 sizeOf28 U qcs .nil) ?_);exact⟨_,⟨rfl,rfl⟩,sbt⟩
theorem Hw (nm:ByteArray)(n:Int):
  FSpec prog w0 40 #[.string nm,Vi n] H (Still (.agg (encPo (mSet nm n)).toArray) H):=by
 refine Am func40 U ntmps40 U (rDt 2 U (e_ (Ag zeroValue28 cs_) ?_ U));rintro _ _ ⟨n4,rfl,rfl⟩;refine rOt 6 U (y_ (A1 (.cons Al (.cons (T U) (.cons (T U) .nil))) (Ka9 _ _ _)) ?_ U);refine Bo (Oq U U sizeOf28) U Ad ?_;rintro _ _ ⟨rfl,rfl⟩;refine rOt 3 U (Ai U (.cellA (Aa U) isAgg28 sizeOf28 U qcs .nil) ?_);exact⟨_,⟨rfl,rfl⟩,sbt⟩
theorem Ki (nm:ByteArray)(n:Int):
  FSpec prog w0 41 #[.string nm,Vi n] H (Still (.agg (encPo (mFil (mEq nm n))).toArray) H):=by
 refine Am func41 U ntmps41 U (rDt 2 U (e_ (Ag zeroValue28 cs_) ?_ U));rintro _ _ ⟨n4,rfl,rfl⟩;refine rOt 6 U (y_ (A1 (.cons Al (.cons (T U) (.cons (T U) .nil))) (Ka4 _ _ _)) (y_ (Ao (evq1 U) call39 (fun H' hs=>L9 (mEq nm n))) ?_ U) U);refine Bo (Oq U U sizeOf28) U Ad ?_;rintro _ _ ⟨rfl,rfl⟩;refine rOt 3 U (Ai U (.cellA (Aa U) isAgg28 sizeOf28 U qcs .nil) ?_);exact⟨_,⟨rfl,rfl⟩,sbt⟩
theorem kex_s :
  FSpec prog w0 38 #[] H (fun u H'=>∃ n:Nat,u= .slice (some ⟨n,0,none⟩) 3 3/\H'=(n,Cl (exF.flatMap encF) 127)::H):=by
 refine Am func38 U ntmps38 U (rDt 7 U (y_ (A1 (.cons Al (.cons Al (.cons Al .nil))) (Ka2 _ _ _)) (y_ (A1 (.cons Al (.cons Al (.cons Al .nil))) (Ka2 _ _ _)) (y_ (A1 (.cons Al (.cons Al (.cons Al .nil))) (Ka2 _ _ _)) (e_ (Bb (.cons (T U) (.cons (T U) (.cons (T U) .nil))) (Kb7 _ _ _ _ _ _ _ _ _)) ?_ U) U) U) U));rintro _ _ ⟨n4,rfl,rfl⟩;refine rOt 4 U (Ai U (Ol U) ?_);exact⟨_,⟨_,rfl,rfl⟩,sbt⟩
theorem K2 (x y:Pom):
  FSpec prog w0 32 #[.agg (encPo x).toArray, .agg (encPo y).toArray] H (fun u H'=>∃ b:Nat,u= .agg (encPo (mOp2 3 b x y)).toArray/\H'=(b,Cl (encPo x++encPo y) 28)::H):=by
 refine Am func32 U ntmps32 U (rDt 2 U (e_ (Ot U cs_) ?_ U));rintro _ _ ⟨n2,rfl,rfl⟩;refine e_ (Ot U cs_) ?_ U;rintro _ _ ⟨n3,rfl,rfl⟩;refine e_ (Ag zeroValue28 cs_) ?_ U;rintro _ _ ⟨n4,rfl,rfl⟩;refine rOt 4 U (y_ (On U isAgg28 sizeOf28 U qcs) ?_ U);refine y_ (On U isAgg28 sizeOf28 U qcs) ?_ U;refine e_ (Bb (.cons (T U) (.cons (T U) .nil)) (Gg _ _ _ _ _ _ _ _ _ _ _ _ _ _ _ _ _ _ _ _ _ _ _ _ _ _)) ?_ U;rintro _ _ ⟨n7,rfl,rfl⟩;refine y_ (A1 (.cons Al (.cons (T U) .nil)) (Kb0 _ _ _ _)) ?_ U;refine Bo (Oq U U sizeOf28) U Ad ?_;rintro _ _ ⟨rfl,rfl⟩;refine rOt 3 U (Ai U (.cellA (Aa U) isAgg28 sizeOf28 U qcs .nil) ?_);exact⟨_,⟨_,rfl,rfl⟩,sbt⟩
theorem Hy (x y:Pom):
  FSpec prog w0 33 #[.agg (encPo x).toArray, .agg (encPo y).toArray] H (fun u H'=>∃ b:Nat,u= .agg (encPo (mOp2 4 b x y)).toArray/\H'=(b,Cl (encPo x++encPo y) 28)::H):=by
 refine Am func33 U ntmps33 U (rDt 2 U (e_ (Ot U cs_) ?_ U));rintro _ _ ⟨n2,rfl,rfl⟩;refine e_ (Ot U cs_) ?_ U;rintro _ _ ⟨n3,rfl,rfl⟩;refine e_ (Ag zeroValue28 cs_) ?_ U;rintro _ _ ⟨n4,rfl,rfl⟩;refine rOt 4 U (y_ (On U isAgg28 sizeOf28 U qcs) ?_ U);refine y_ (On U isAgg28 sizeOf28 U qcs) ?_ U;refine e_ (Bb (.cons (T U) (.cons (T U) .nil)) (Gg _ _ _ _ _ _ _ _ _ _ _ _ _ _ _ _ _ _ _ _ _ _ _ _ _ _)) ?_ U;rintro _ _ ⟨n7,rfl,rfl⟩;refine y_ (A1 (.cons Al (.cons (T U) .nil)) (Kb0 _ _ _ _)) ?_ U;refine Bo (Oq U U sizeOf28) U Ad ?_;rintro _ _ ⟨rfl,rfl⟩;refine rOt 3 U (Ai U (.cellA (Aa U) isAgg28 sizeOf28 U qcs .nil) ?_);exact⟨_,⟨_,rfl,rfl⟩,sbt⟩
theorem Ka5 (a0:Int)(a1:ByteArray)(a2:Int)(w:World):(Instr.build 25 #[(0,Vi a0),(1, .string a1),(3,Vi a2)]).run prog w= .ok (.agg #[Vi a0, .string a1,Vi 0,Vi a2, .slice none 0 0]) w:=by kernel_rfl
theorem Ka6 {a0 a1 a2:Int}(w:World):(Instr.build 25 #[(0,Vi a0),(2,Vi a1),(3,Vi a2)]).run prog w= .ok (.agg #[Vi a0, .string ⟨#[]⟩,Vi a1,Vi a2, .slice none 0 0]) w:=by kernel_rfl
theorem Ka7 (a0:Int)(a1:Option Addr)(a1n a1c:Nat)(w:World):(Instr.build 25 #[(0,Vi a0),(4, .slice a1 a1n a1c)]).run prog w= .ok (.agg #[Vi a0, .string ⟨#[]⟩,Vi 0,Vi 0, .slice a1 a1n a1c]) w:=by kernel_rfl
theorem Kb8 (a0:Int)(a1:ByteArray)(a2 a3:Int)(a4:Option Addr)(a4n a4c:Nat)(w:World):(Instr.buildSlice 23 1 #[(0, .agg #[Vi a0, .string a1,Vi a2,Vi a3, .slice a4 a4n a4c])]).run prog w= .ok (.slice (some ⟨w.heap.size,0,none⟩) 1 1) (w.alloc (Cl [Vi a0, .string a1,Vi a2,Vi a3, .slice a4 a4n a4c] 25)):=by kernel_rfl
abbrev mTim:Pdm:= .mk 9 ⟨#[]⟩ 3 7 none 0 []
abbrev mRng:Pdm:= .mk 5 nK 0 6 none 0 []
theorem fndS:(fndFd exF ⟨#[115,114,99]⟩).1=exS:=by kernel_rfl
theorem G4 {f:FuncId}{args:Array Value}{Φ:Hd->Bool->Prop}{e:Int}{Ψ:Prop}(h:FSpec prog w0 f args H (AskK Φ e Ψ H))(no: ¬ Ψ):FSpec prog w0 f args H (fun u H'=>(∃ (h:Hd) (is:Bool),u= .tuple #[.agg (hdC h).toArray, .bool is,Vi 0]/\HdOk h/\Φ h is)/\H'=H):=by
 intro w hO;refine(h w hO).mono ?_;rintro e w' ⟨u,H',he,hO',⟨⟨h1,is,e1,rfl,hh,hR⟩,rfl⟩⟩;rcases hR with ⟨rfl,k⟩|⟨_,_,_,k⟩
 ·exact⟨_,_,he,hO',⟨h1,is,rfl,hh,k⟩,rfl⟩
 ·exact absurd k no
theorem errIs_ex (fl:List Fd)(t:Int)(p:Po):∃ e,ErrIs fl t p e:=by
 cases h:PF fl t p (N0 fl) with
 |none=>exact⟨12,(fun _=>rfl),(fun a n e=>by rw[h] at e;cases e)⟩
 |some x=>exact⟨2,(fun e=>by rw[h] at e;cases e),(fun _ _ _ _=>rfl)⟩
theorem errN_ex (fl:List Fd)(t:Int)(p:Po)(ns:Ns):∃ e,ErrN fl t p ns e:=by
 cases h:PF fl t p ns with
 |none=>exact⟨12,(fun _=>rfl),(fun a n e=>by rw[h] at e;cases e)⟩
 |some x=>exact⟨2,(fun e=>by rw[h] at e;cases e),(fun _ _ _ _=>rfl)⟩
theorem errD_ex (fl:List Fd)(t:Int)(p q:Po):∃ e,ErrD fl t p q e:=by
 obtain⟨e,h⟩:=errN_ex fl t q (N0 fl);cases h1:PF fl t q (N0 fl) with
 |none=>exact⟨e,h,(fun a n e1=>by rw[h1] at e1;cases e1)⟩
 |some x=>
  by_cases c:(rulesP x.2 (bsF fl) x.1).length<=4000
  ·obtain⟨e2,h2⟩:=errN_ex fl t p x.2;refine⟨e2,⟨(fun e3=>by rw[h1] at e3;cases e3),(fun a n e3 e4=> ?_)⟩,(fun a n e3 _=> ?_)⟩
   ·rw[h1] at e3;cases e3;exact absurd c (by show ¬ (rulesP n (bsF fl) a).length<=4000;omega)
   ·rw[h1] at e3;cases e3;exact h2
  ·refine⟨e,h,fun a n e3 e4=> ?_⟩;rw[h1] at e3;cases e3;exact absurd e4 c
theorem Je {nm:ByteArray}{n:Nat}{f:Fd}(h:(fndFd exF nm).1=f):IsO exF (mFil (mEq nm n)) (.fil (.eq f n)):= .fil U (is_eq h)
theorem prd_ex (b:Nat):[mFil (mNo b mTim),mFil mTru].flatMap prdF=[mNo b mTim,mTim,mTru]:=by rfl
theorem sz_ex (b:Nat):(mFil (mNo b mTim)).sz<=1000000000/\(mFil (mNo b mTim)).nd<=1000:=⟨by show (3:Nat)<=_;decide,by show (3:Nat)<=_;decide⟩
theorem sz_ex2:(mFil mTru).sz<=1000000000/\(mFil mTru).nd<=1000:=⟨by show (2:Nat)<=_;decide,by show (2:Nat)<=_;decide⟩
theorem tk_ex {b:Nat}{bl:List Int}(h:Tks [mFil (mNo b mTim),mFil mTru] bl)(x:Int):x∈bl↔x=3\/x=7:=by
 rw[h.mem,prd_ex]
 constructor
 ·rintro⟨t,ht,hk,hx⟩;simp only[List.mem_cons,List.not_mem_nil,or_false] at ht;rcases ht with rfl|rfl|rfl
  ·exact absurd hk (by show ¬ (6:Int)=9;decide)
  ·exact hx
  ·exact absurd hk (by show ¬ (1:Int)=9;decide)
 ·intro hx;exact⟨mTim,by simp,rfl,hx⟩
theorem eqX1 (w:World):(Op.equal 32 (.agg (hdC xK7).toArray) (.agg (hdC xK7).toArray)).run prog w= .ok (decide True) w:=by kernel_rfl
theorem eqX2 (w:World):(Op.equal 32 (.agg (hdC xDS).toArray) (.agg (hdC xDS).toArray)).run prog w= .ok (decide True) w:=by kernel_rfl
theorem eqX3 (w:World):(Op.equal 32 (.agg (hdC xD1).toArray) (.agg (hdC xD1).toArray)).run prog w= .ok (decide True) w:=by kernel_rfl
theorem sanity_s :
  FSpec prog w0 11 #[] H (Still (.bool true) H):=by
 refine Am func11 U ntmps11 U ?_;obtain⟨e8,hE8⟩:=errIs_ex exF 0 Oe;obtain⟨e10,hE10⟩:=errD_ex exF 0 N7 N8;refine rDt 7 U (e_ (Ah .nil call38 (kex_s)) ?_ U);rintro _ _ ⟨n44,rfl,rfl⟩;have hA0:Arr w0 ((n44,Cl (exF.flatMap encF) 127)::H) (some ⟨n44,0,none⟩) 3 encF exF:=B3 (w0:=w0) (e:=127) (X:=H) (enc:=encF) (d:= .blk n44 3 []) (fun _=>rfl) ⟨Nat.le_refl _,rfl⟩;refine rOt 5 U (y_ (A1 (.cons Al .nil) (Ka3)) (y_ (Ao (evq1 U) call39 (fun H' hs=>L9 mTru)) (e_ (Ag zeroValue28 cs_) ?_ U) U) U);rintro _ _ ⟨n2,rfl,rfl⟩;refine Bo (Oq U U sizeOf28) U Ad ?_;rintro _ _ ⟨rfl,rfl⟩;refine rOt 4 U (y_ (Ao (.cons Al (.cons Al .nil)) call40 (fun H' hs=>Hw nK 1)) (e_ (Ag zeroValue28 cs_) ?_ U) U);rintro _ _ ⟨n3,rfl,rfl⟩;refine Bo (Oq U U sizeOf28) U Ad ?_;rintro _ _ ⟨rfl,rfl⟩;refine rOt 4 U (y_ (A1 (.cons Al (.cons Al (.cons Al .nil))) (Ka6)) (e_ (Ag zeroValue25 cs_) ?_ U) U);rintro _ _ ⟨n4,rfl,rfl⟩;refine Bo (Oq U U sizeOf25) U Ad ?_;rintro _ _ ⟨rfl,rfl⟩;refine rOt 2 U ?_;refine Em (X:=Unit) (V:=fun z=>[(6, .bool true),(7,Vi 0)]) (C:=[(1,_),(2,_),(3,_),(4,_)]) (G:=fun z=>(n4,Cl (encPd mTim) 25)::(n3,Cl (encPo (mSet nK 1)) 28)::(n2,Cl (encPo (mFil mTru)) 28)::(n44,Cl (exF.flatMap encF) 127)::H) (φ:=fun z=>True) (kg U) ?_ ?_
 ·refine rDt 0 U (Ib 14 _ mixd qkr sb0 ?_ Bh);refine x_y (i:=0) U qkr (B6 (T U)) ?_ U Ad;refine x_y (i:=1) U qkr (On U isAgg28 sizeOf28 U qcs) ?_ U Ad;refine x_y (i:=2) U qkr (Ao (.cons Al (.cons Al .nil)) call40 (fun H' hs=>Hw nK 2)) ?_ U Ad;refine Fu (i:=3) (j:=10) qkr qkr ?_ ?_
  ·refine B5 U (Ah (evq2 U U) call33 (Hy (mSet nK 1) (mSet nK 2))) ?_ U Ad;rintro _ _ ⟨n53,rfl,rfl⟩;refine⟨sbt,(x_y (i:=4) U qkr (Ao (.cons Al (.cons Al .nil)) call40 (fun H' hs=>Hw nK 2)) ?_ U Ad)⟩;refine Fu (i:=5) (j:=10) qkr qkr ?_ ?_
   ·refine B5 U (Ah (.cons (T U) (.cons (T U) (.cons (T U) (.cons Al .nil)))) call13 (G4 (G3 Db (some ⟨n44,0,none⟩) 3 (hA0.mono sbt) 0 (.seq U U (Cj (n:=1) fndK) (Cj (n:=2) fndK)) (by rw[Bp];exact⟨⟨inK,(pin 1 qde).2⟩,⟨inK,(pin 2 qde).2⟩⟩) (C4 fndq (B0 C2) (B0 C2)) (Cj (n:=2) fndK) (by rw[Bp];exact⟨inK,(pin 2 qde).2⟩) (B0 C2)) q1_no)) ?_ U Ad;rintro _ _ ⟨⟨h1,is1,rfl,o1,a1⟩,rfl⟩;obtain⟨rfl,rfl⟩:=q1_a a1;refine⟨sbt,(x_y (i:=6) U qkr (B6 (T U)) ?_ U Ad)⟩;refine x_y (i:=7) U qkr (Az (T U) U) ?_ U Ad;refine x_y (i:=8) U qkr (Az (T U) U) ?_ U Ad;refine x_y (i:=9) U qkr (Az (T U) U) ?_ U Ad;refine Ca (i:=10) qkr qkr ?_;refine B5 U (Ag zeroValue32 cs_) ?_ U Ad;rintro _ _ ⟨n5,rfl,rfl⟩;refine⟨sbt,(Ca (i:=11) qkr qkr ?_)⟩;refine B5 U (Oq U U sizeOf32 .agg (Bc _) (Af Ay) updq (by rw[Af Ay];rfl)) ?_ U Ad;rintro _ _ ⟨rfl,rfl⟩;refine⟨sbt,(x_y (i:=12) U qkr (Bl (T U)) ?_ U Ad)⟩;refine x_y (i:=13) U qkr (Bl (T U)) ?_ U Ad;refine Dr qkr U ?_;refine rOt 1 U ?_;refine Be (()) ?_ qkg (kg U) sbt
    trivial
   ·refine B5 U (Ag zeroValue32 cs_) ?_ U Ad;rintro _ _ ⟨n5,rfl,rfl⟩;refine⟨sbt,(Ca (i:=5) qkr qkr ?_)⟩;refine B5 U (Ah (.cons (T U) (.cons (T U) (.cons (T U) (.cons Al .nil)))) call13 (G4 (G3 Db (some ⟨n44,0,none⟩) 3 (hA0.mono sbt) 0 (.seq U U (Cj (n:=1) fndK) (Cj (n:=2) fndK)) (by rw[Bp];exact⟨⟨inK,(pin 1 qde).2⟩,⟨inK,(pin 2 qde).2⟩⟩) (C4 fndq (B0 C2) (B0 C2)) (Cj (n:=2) fndK) (by rw[Bp];exact⟨inK,(pin 2 qde).2⟩) (B0 C2)) q1_no)) ?_ U Ad;rintro _ _ ⟨⟨h1,is1,rfl,o1,a1⟩,rfl⟩;obtain⟨rfl,rfl⟩:=q1_a a1;refine⟨sbt,(x_y (i:=6) U qkr (B6 (T U)) ?_ U Ad)⟩;refine x_y (i:=7) U qkr (Az (T U) U) ?_ U Ad;refine x_y (i:=8) U qkr (Az (T U) U) ?_ U Ad;refine x_y (i:=9) U qkr (Az (T U) U) ?_ U Ad;refine Ca (i:=11) qkr qkr ?_;refine B5 U (Oq U U sizeOf32 .agg (Bc _) (Af Ay) updq (by rw[Af Ay];rfl)) ?_ U Ad;rintro _ _ ⟨rfl,rfl⟩;refine⟨sbt,(x_y (i:=12) U qkr (Bl (T U)) ?_ U Ad)⟩;refine x_y (i:=13) U qkr (Bl (T U)) ?_ U Ad;refine Dr qkr U ?_;refine rOt 1 U ?_;refine Be (()) ?_ qkg (kg U) sbt
    trivial
  ·refine B5 U (Ag zeroValue32 cs_) ?_ U Ad;rintro _ _ ⟨n5,rfl,rfl⟩;refine⟨sbt,(Ca (i:=3) qkr qkr ?_)⟩;refine B5 U (Ah (evq2 U U) call33 (Hy (mSet nK 1) (mSet nK 2))) ?_ U Ad;rintro _ _ ⟨n53,rfl,rfl⟩;refine⟨sbt,(x_y (i:=4) U qkr (Ao (.cons Al (.cons Al .nil)) call40 (fun H' hs=>Hw nK 2)) ?_ U Ad)⟩;refine Ca (i:=5) qkr qkr ?_;refine B5 U (Ah (.cons (T U) (.cons (T U) (.cons (T U) (.cons Al .nil)))) call13 (G4 (G3 Db (some ⟨n44,0,none⟩) 3 (hA0.mono sbt) 0 (.seq U U (Cj (n:=1) fndK) (Cj (n:=2) fndK)) (by rw[Bp];exact⟨⟨inK,(pin 1 qde).2⟩,⟨inK,(pin 2 qde).2⟩⟩) (C4 fndq (B0 C2) (B0 C2)) (Cj (n:=2) fndK) (by rw[Bp];exact⟨inK,(pin 2 qde).2⟩) (B0 C2)) q1_no)) ?_ U Ad;rintro _ _ ⟨⟨h1,is1,rfl,o1,a1⟩,rfl⟩;obtain⟨rfl,rfl⟩:=q1_a a1;refine⟨sbt,(x_y (i:=6) U qkr (B6 (T U)) ?_ U Ad)⟩;refine x_y (i:=7) U qkr (Az (T U) U) ?_ U Ad;refine x_y (i:=8) U qkr (Az (T U) U) ?_ U Ad;refine x_y (i:=9) U qkr (Az (T U) U) ?_ U Ad;refine Ca (i:=11) qkr qkr ?_;refine B5 U (Oq U U sizeOf32 .agg (Bc _) (Af Ay) updq (by rw[Af Ay];rfl)) ?_ U Ad;rintro _ _ ⟨rfl,rfl⟩;refine⟨sbt,(x_y (i:=12) U qkr (Bl (T U)) ?_ U Ad)⟩;refine x_y (i:=13) U qkr (Bl (T U)) ?_ U Ad;refine Dr qkr U ?_;refine rOt 1 U ?_;refine Be (()) ?_ qkg (kg U) sbt
   trivial
 rintro z -;refine Em (X:=Nat) (V:=fun n8=>[(8,Pt n8 0),(9, .bool false),(10,Vi 0)]) (C:=[(1,_),(2,_),(3,_),(4,_),(6,_),(7,_)]) (G:=fun n8=>(n8,Cl (hdC hd0) 32)::(n4,Cl (encPd mTim) 25)::(n3,Cl (encPo (mSet nK 1)) 28)::(n2,Cl (encPo (mFil mTru)) 28)::(n44,Cl (exF.flatMap encF) 127)::H) (φ:=fun n8=>True) (kg U) ?_ ?_
 ·refine rDt 0 U (Ib 12 _ mixd qkr sb0 ?_ Bh);refine x_y (i:=0) U qkr (B6 (T U)) ?_ U Ad;refine x_y (i:=1) U qkr (Ao (.cons Al (.cons Al .nil)) call41 (fun H' hs=>Ki nK 1)) ?_ U Ad;refine x_y (i:=2) U qkr (On U isAgg28 sizeOf28 U qcs) ?_ U Ad;refine Fu (i:=3) (j:=8) qkr qkr ?_ ?_
  ·refine B5 U (Ah (.cons (T U) (.cons (T U) (.cons (T U) (.cons Al .nil)))) call13 (G4 (G3 Db (some ⟨n44,0,none⟩) 3 (hA0.mono sbt) 0 (Je (n:=1) fndK) (by rw[Bp];exact⟨inK,(pin 1 qde).2⟩) (B0 C1) (.fil U (.tru U)) (by rw[Bp];exact trivial) (B0 C1)) q2_no)) ?_ U Ad;rintro _ _ ⟨⟨h2,is2,rfl,o2,a2⟩,rfl⟩;obtain⟨rfl,rfl⟩:=q2_a a2;refine⟨sbt,(x_y (i:=4) U qkr (B6 (T U)) ?_ U Ad)⟩;refine x_y (i:=5) U qkr (Az (T U) U) ?_ U Ad;refine x_y (i:=6) U qkr (Az (T U) U) ?_ U Ad;refine x_y (i:=7) U qkr (Az (T U) U) ?_ U Ad;refine Ca (i:=8) qkr qkr ?_;refine B5 U (Ag zeroValue32 cs_) ?_ U Ad;rintro _ _ ⟨n8,rfl,rfl⟩;refine⟨sbt,(Ca (i:=9) qkr qkr ?_)⟩;refine B5 U (Oq U U sizeOf32 .agg (Bc _) (Af Ay) updq (by rw[Af Ay];rfl)) ?_ U Ad;rintro _ _ ⟨rfl,rfl⟩;refine⟨sbt,(x_y (i:=10) U qkr (Bl (T U)) ?_ U Ad)⟩;refine x_y (i:=11) U qkr (Bl (T U)) ?_ U Ad;refine Dr qkr U ?_;refine rOt 1 U ?_;refine Be (_) ?_ qkg (kg U) sbt
   trivial
  ·refine B5 U (Ag zeroValue32 cs_) ?_ U Ad;rintro _ _ ⟨n8,rfl,rfl⟩;refine⟨sbt,(Ca (i:=3) qkr qkr ?_)⟩;refine B5 U (Ah (.cons (T U) (.cons (T U) (.cons (T U) (.cons Al .nil)))) call13 (G4 (G3 Db (some ⟨n44,0,none⟩) 3 (hA0.mono sbt) 0 (Je (n:=1) fndK) (by rw[Bp];exact⟨inK,(pin 1 qde).2⟩) (B0 C1) (.fil U (.tru U)) (by rw[Bp];exact trivial) (B0 C1)) q2_no)) ?_ U Ad;rintro _ _ ⟨⟨h2,is2,rfl,o2,a2⟩,rfl⟩;obtain⟨rfl,rfl⟩:=q2_a a2;refine⟨sbt,(x_y (i:=4) U qkr (B6 (T U)) ?_ U Ad)⟩;refine x_y (i:=5) U qkr (Az (T U) U) ?_ U Ad;refine x_y (i:=6) U qkr (Az (T U) U) ?_ U Ad;refine x_y (i:=7) U qkr (Az (T U) U) ?_ U Ad;refine Ca (i:=9) qkr qkr ?_;refine B5 U (Oq U U sizeOf32 .agg (Bc _) (Af Ay) updq (by rw[Af Ay];rfl)) ?_ U Ad;rintro _ _ ⟨rfl,rfl⟩;refine⟨sbt,(x_y (i:=10) U qkr (Bl (T U)) ?_ U Ad)⟩;refine x_y (i:=11) U qkr (Bl (T U)) ?_ U Ad;refine Dr qkr U ?_;refine rOt 1 U ?_;refine Be (_) ?_ qkg (kg U) sbt
   trivial
 rintro n8 -;refine Em (X:=Nat) (V:=fun n12=>[(12,Pt n12 0),(11,Vi 3),(13, .bool false),(14,Vi 0)]) (C:=[(1,_),(2,_),(3,_),(6,_),(7,_),(8,_),(9,_),(10,_)]) (G:=fun n12=>(n12,Cl (hdC hd0) 32)::(n8,Cl (hdC hd0) 32)::(n4,Cl (encPd mTim) 25)::(n3,Cl (encPo (mSet nK 1)) 28)::(n2,Cl (encPo (mFil mTru)) 28)::(n44,Cl (exF.flatMap encF) 127)::H) (φ:=fun n12=>True) (kg U) ?_ ?_
 ·refine rDt 0 U (Ib 17 _ mixd qkr sb0 ?_ Bh);refine x_y (i:=0) U qkr (B6 (T U)) ?_ U Ad;refine x_y (i:=1) U qkr (On U isAgg25 sizeOf25 U qcs) ?_ U Ad;refine x_y (i:=5) U qkr (On U isAgg28 sizeOf28 U qcs) ?_ U Ad;refine Fu (i:=2) (j:=12) qkr qkr ?_ ?_
  ·refine B5 U (Bb (.cons (T U) .nil) (Kb8 _ _ _ _ _ _ _)) ?_ U Ad;rintro _ _ ⟨n70,rfl,rfl⟩;refine⟨sbt,(x_y (i:=3) U qkr (A1 (.cons Al (.cons (T U) .nil)) (Ka7 _ _ _ _)) ?_ U Ad)⟩;refine x_y (i:=4) U qkr (Ao (evq1 U) call39 (fun H' hs=>L9 (mNo n70 mTim))) ?_ U Ad;refine Fu (i:=6) (j:=12) qkr qkr ?_ ?_
   ·refine B5 U (Ah (evq3 U U U) call25 (ealways_s Db (some ⟨n44,0,none⟩) 3 (hA0.mono sbt) (.fil U (.no U U (.tim U U U))) (by rw[Bp];exact trivial) (B0 (pd_no fndq C1)) (.fil U (.tru U)) (by rw[Bp];exact trivial) (B0 C1) (sz_ex _) sz_ex2)) ?_ U Ad;rintro _ _ ⟨⟨bl3,t3,h3,is3,e3,rfl,o3,T3,a3⟩,rfl⟩;obtain⟨rfl,rfl,rfl,rfl⟩:=q3_a T3.up (tk_ex T3) a3;refine⟨sbt,(x_y (i:=7) U qkr (B6 (T U)) ?_ U Ad)⟩;refine x_y (i:=8) U qkr (Az (T U) U) ?_ U Ad;refine x_y (i:=9) U qkr (Az (T U) U) ?_ U Ad;refine x_y (i:=10) U qkr (Az (T U) U) ?_ U Ad;refine x_y (i:=11) U qkr (Az (T U) U) ?_ U Ad;refine Ca (i:=12) qkr qkr ?_;refine B5 U (Ag zeroValue32 cs_) ?_ U Ad;rintro _ _ ⟨n12,rfl,rfl⟩;refine⟨sbt,(x_y (i:=13) U qkr (Bl (T U)) ?_ U Ad)⟩;refine Ca (i:=14) qkr qkr ?_;refine B5 U (Oq U U sizeOf32 .agg (Bc _) (Af Ay) updq (by rw[Af Ay];rfl)) ?_ U Ad;rintro _ _ ⟨rfl,rfl⟩;refine⟨sbt,(x_y (i:=15) U qkr (Bl (T U)) ?_ U Ad)⟩;refine x_y (i:=16) U qkr (Bl (T U)) ?_ U Ad;refine Dr qkr U ?_;refine rOt 1 U ?_;refine Be (_) ?_ qkg (kg U) sbt
    trivial
   ·refine B5 U (Ag zeroValue32 cs_) ?_ U Ad;rintro _ _ ⟨n12,rfl,rfl⟩;refine⟨sbt,(Ca (i:=6) qkr qkr ?_)⟩;refine B5 U (Ah (evq3 U U U) call25 (ealways_s Db (some ⟨n44,0,none⟩) 3 (hA0.mono sbt) (.fil U (.no U U (.tim U U U))) (by rw[Bp];exact trivial) (B0 (pd_no fndq C1)) (.fil U (.tru U)) (by rw[Bp];exact trivial) (B0 C1) (sz_ex _) sz_ex2)) ?_ U Ad;rintro _ _ ⟨⟨bl3,t3,h3,is3,e3,rfl,o3,T3,a3⟩,rfl⟩;obtain⟨rfl,rfl,rfl,rfl⟩:=q3_a T3.up (tk_ex T3) a3;refine⟨sbt,(x_y (i:=7) U qkr (B6 (T U)) ?_ U Ad)⟩;refine x_y (i:=8) U qkr (Az (T U) U) ?_ U Ad;refine x_y (i:=9) U qkr (Az (T U) U) ?_ U Ad;refine x_y (i:=10) U qkr (Az (T U) U) ?_ U Ad;refine x_y (i:=11) U qkr (Az (T U) U) ?_ U Ad;refine x_y (i:=13) U qkr (Bl (T U)) ?_ U Ad;refine Ca (i:=14) qkr qkr ?_;refine B5 U (Oq U U sizeOf32 .agg (Bc _) (Af Ay) updq (by rw[Af Ay];rfl)) ?_ U Ad;rintro _ _ ⟨rfl,rfl⟩;refine⟨sbt,(x_y (i:=15) U qkr (Bl (T U)) ?_ U Ad)⟩;refine x_y (i:=16) U qkr (Bl (T U)) ?_ U Ad;refine Dr qkr U ?_;refine rOt 1 U ?_;refine Be (_) ?_ qkg (kg U) sbt
    trivial
  ·refine B5 U (Ag zeroValue32 cs_) ?_ U Ad;rintro _ _ ⟨n12,rfl,rfl⟩;refine⟨sbt,(Ca (i:=2) qkr qkr ?_)⟩;refine B5 U (Bb (.cons (T U) .nil) (Kb8 _ _ _ _ _ _ _)) ?_ U Ad;rintro _ _ ⟨n70,rfl,rfl⟩;refine⟨sbt,(x_y (i:=3) U qkr (A1 (.cons Al (.cons (T U) .nil)) (Ka7 _ _ _ _)) ?_ U Ad)⟩;refine x_y (i:=4) U qkr (Ao (evq1 U) call39 (fun H' hs=>L9 (mNo n70 mTim))) ?_ U Ad;refine Ca (i:=6) qkr qkr ?_;refine B5 U (Ah (evq3 U U U) call25 (ealways_s Db (some ⟨n44,0,none⟩) 3 (hA0.mono sbt) (.fil U (.no U U (.tim U U U))) (by rw[Bp];exact trivial) (B0 (pd_no fndq C1)) (.fil U (.tru U)) (by rw[Bp];exact trivial) (B0 C1) (sz_ex _) sz_ex2)) ?_ U Ad;rintro _ _ ⟨⟨bl3,t3,h3,is3,e3,rfl,o3,T3,a3⟩,rfl⟩;obtain⟨rfl,rfl,rfl,rfl⟩:=q3_a T3.up (tk_ex T3) a3;refine⟨sbt,(x_y (i:=7) U qkr (B6 (T U)) ?_ U Ad)⟩;refine x_y (i:=8) U qkr (Az (T U) U) ?_ U Ad;refine x_y (i:=9) U qkr (Az (T U) U) ?_ U Ad;refine x_y (i:=10) U qkr (Az (T U) U) ?_ U Ad;refine x_y (i:=11) U qkr (Az (T U) U) ?_ U Ad;refine x_y (i:=13) U qkr (Bl (T U)) ?_ U Ad;refine Ca (i:=14) qkr qkr ?_;refine B5 U (Oq U U sizeOf32 .agg (Bc _) (Af Ay) updq (by rw[Af Ay];rfl)) ?_ U Ad;rintro _ _ ⟨rfl,rfl⟩;refine⟨sbt,(x_y (i:=15) U qkr (Bl (T U)) ?_ U Ad)⟩;refine x_y (i:=16) U qkr (Bl (T U)) ?_ U Ad;refine Dr qkr U ?_;refine rOt 1 U ?_;refine Be (_) ?_ qkg (kg U) sbt
   trivial
 rintro n12 -;refine Em (X:=Unit) (V:=fun z=>[(16, .bool true),(17,Vi 0)]) (C:=[(1,_),(2,_),(3,_),(6,_),(7,_),(8,_),(9,_),(10,_),(11,_),(12,_),(13,_),(14,_)]) (G:=fun z=>(n12,Cl (hdC hd0) 32)::(n8,Cl (hdC hd0) 32)::(n4,Cl (encPd mTim) 25)::(n3,Cl (encPo (mSet nK 1)) 28)::(n2,Cl (encPo (mFil mTru)) 28)::(n44,Cl (exF.flatMap encF) 127)::H) (φ:=fun z=>True) (kg U) ?_ ?_
 ·refine rDt 0 U (Ib 14 _ mixd qkr sb0 ?_ Bh);refine x_y (i:=0) U qkr (B6 (T U)) ?_ U Ad;refine x_y (i:=1) U qkr (On U isAgg28 sizeOf28 U qcs) ?_ U Ad;refine x_y (i:=2) U qkr (On U isAgg28 sizeOf28 U qcs) ?_ U Ad;refine x_y (i:=4) U qkr (On U isAgg28 sizeOf28 U qcs) ?_ U Ad;refine Fu (i:=3) (j:=10) qkr qkr ?_ ?_
  ·refine B5 U (Ah (evq2 U U) call32 (K2 (mFil mTru) (mSet nK 1))) ?_ U Ad;rintro _ _ ⟨n83,rfl,rfl⟩;refine⟨sbt,?_⟩;refine Fu (i:=5) (j:=10) qkr qkr ?_ ?_
   ·refine B5 U (Ah (.cons (T U) (.cons (T U) (.cons (T U) (.cons Al .nil)))) call14 (G4 (I4 Db (some ⟨n44,0,none⟩) 3 (hA0.mono sbt) 0 (.uni U U (.fil U (.tru U)) (Cj (n:=1) fndK)) (by rw[Bp];exact⟨trivial,⟨inK,(pin 1 qde).2⟩⟩) (C4 fndq (B0 C1) (B0 C2)) (Cj (n:=1) fndK) (by rw[Bp];exact⟨inK,(pin 1 qde).2⟩) (B0 C2)) q4_no)) ?_ U Ad;rintro _ _ ⟨⟨h4,is4,rfl,o4,a4⟩,rfl⟩;obtain⟨rfl,rfl⟩:=q4_a a4;refine⟨sbt,(x_y (i:=6) U qkr (B6 (T U)) ?_ U Ad)⟩;refine x_y (i:=7) U qkr (Az (T U) U) ?_ U Ad;refine x_y (i:=8) U qkr (Az (T U) U) ?_ U Ad;refine x_y (i:=9) U qkr (Az (T U) U) ?_ U Ad;refine Ca (i:=10) qkr qkr ?_;refine B5 U (Ag zeroValue32 cs_) ?_ U Ad;rintro _ _ ⟨n15,rfl,rfl⟩;refine⟨sbt,(Ca (i:=11) qkr qkr ?_)⟩;refine B5 U (Oq U U sizeOf32 .agg (Bc _) (Af Ay) updq (by rw[Af Ay];rfl)) ?_ U Ad;rintro _ _ ⟨rfl,rfl⟩;refine⟨sbt,(x_y (i:=12) U qkr (Bl (T U)) ?_ U Ad)⟩;refine x_y (i:=13) U qkr (Bl (T U)) ?_ U Ad;refine Dr qkr U ?_;refine rOt 1 U ?_;refine Be (()) ?_ qkg (kg U) sbt
    trivial
   ·refine B5 U (Ag zeroValue32 cs_) ?_ U Ad;rintro _ _ ⟨n15,rfl,rfl⟩;refine⟨sbt,(Ca (i:=5) qkr qkr ?_)⟩;refine B5 U (Ah (.cons (T U) (.cons (T U) (.cons (T U) (.cons Al .nil)))) call14 (G4 (I4 Db (some ⟨n44,0,none⟩) 3 (hA0.mono sbt) 0 (.uni U U (.fil U (.tru U)) (Cj (n:=1) fndK)) (by rw[Bp];exact⟨trivial,⟨inK,(pin 1 qde).2⟩⟩) (C4 fndq (B0 C1) (B0 C2)) (Cj (n:=1) fndK) (by rw[Bp];exact⟨inK,(pin 1 qde).2⟩) (B0 C2)) q4_no)) ?_ U Ad;rintro _ _ ⟨⟨h4,is4,rfl,o4,a4⟩,rfl⟩;obtain⟨rfl,rfl⟩:=q4_a a4;refine⟨sbt,(x_y (i:=6) U qkr (B6 (T U)) ?_ U Ad)⟩;refine x_y (i:=7) U qkr (Az (T U) U) ?_ U Ad;refine x_y (i:=8) U qkr (Az (T U) U) ?_ U Ad;refine x_y (i:=9) U qkr (Az (T U) U) ?_ U Ad;refine Ca (i:=11) qkr qkr ?_;refine B5 U (Oq U U sizeOf32 .agg (Bc _) (Af Ay) updq (by rw[Af Ay];rfl)) ?_ U Ad;rintro _ _ ⟨rfl,rfl⟩;refine⟨sbt,(x_y (i:=12) U qkr (Bl (T U)) ?_ U Ad)⟩;refine x_y (i:=13) U qkr (Bl (T U)) ?_ U Ad;refine Dr qkr U ?_;refine rOt 1 U ?_;refine Be (()) ?_ qkg (kg U) sbt
    trivial
  ·refine B5 U (Ag zeroValue32 cs_) ?_ U Ad;rintro _ _ ⟨n15,rfl,rfl⟩;refine⟨sbt,(Ca (i:=3) qkr qkr ?_)⟩;refine B5 U (Ah (evq2 U U) call32 (K2 (mFil mTru) (mSet nK 1))) ?_ U Ad;rintro _ _ ⟨n83,rfl,rfl⟩;refine⟨sbt,(Ca (i:=5) qkr qkr ?_)⟩;refine B5 U (Ah (.cons (T U) (.cons (T U) (.cons (T U) (.cons Al .nil)))) call14 (G4 (I4 Db (some ⟨n44,0,none⟩) 3 (hA0.mono sbt) 0 (.uni U U (.fil U (.tru U)) (Cj (n:=1) fndK)) (by rw[Bp];exact⟨trivial,⟨inK,(pin 1 qde).2⟩⟩) (C4 fndq (B0 C1) (B0 C2)) (Cj (n:=1) fndK) (by rw[Bp];exact⟨inK,(pin 1 qde).2⟩) (B0 C2)) q4_no)) ?_ U Ad;rintro _ _ ⟨⟨h4,is4,rfl,o4,a4⟩,rfl⟩;obtain⟨rfl,rfl⟩:=q4_a a4;refine⟨sbt,(x_y (i:=6) U qkr (B6 (T U)) ?_ U Ad)⟩;refine x_y (i:=7) U qkr (Az (T U) U) ?_ U Ad;refine x_y (i:=8) U qkr (Az (T U) U) ?_ U Ad;refine x_y (i:=9) U qkr (Az (T U) U) ?_ U Ad;refine Ca (i:=11) qkr qkr ?_;refine B5 U (Oq U U sizeOf32 .agg (Bc _) (Af Ay) updq (by rw[Af Ay];rfl)) ?_ U Ad;rintro _ _ ⟨rfl,rfl⟩;refine⟨sbt,(x_y (i:=12) U qkr (Bl (T U)) ?_ U Ad)⟩;refine x_y (i:=13) U qkr (Bl (T U)) ?_ U Ad;refine Dr qkr U ?_;refine rOt 1 U ?_;refine Be (()) ?_ qkg (kg U) sbt
   trivial
 rintro z -;refine Em (X:=Unit) (V:=fun z=>[(19, .bool false),(20,Vi 0)]) (C:=[(1,_),(2,_),(6,_),(7,_),(8,_),(9,_),(10,_),(11,_),(12,_),(13,_),(14,_),(16,_),(17,_)]) (G:=fun z=>(n12,Cl (hdC hd0) 32)::(n8,Cl (hdC hd0) 32)::(n4,Cl (encPd mTim) 25)::(n3,Cl (encPo (mSet nK 1)) 28)::(n2,Cl (encPo (mFil mTru)) 28)::(n44,Cl (exF.flatMap encF) 127)::H) (φ:=fun z=>True) (kg U) ?_ ?_
 ·refine rDt 0 U (Ib 14 _ mixd qkr sb0 ?_ Bh);refine x_y (i:=0) U qkr (B6 (T U)) ?_ U Ad;refine x_y (i:=1) U qkr (On U isAgg28 sizeOf28 U qcs) ?_ U Ad;refine x_y (i:=2) U qkr (On U isAgg28 sizeOf28 U qcs) ?_ U Ad;refine x_y (i:=3) U qkr (On U isAgg28 sizeOf28 U qcs) ?_ U Ad;refine Fu (i:=4) (j:=10) qkr qkr ?_ ?_
  ·refine B5 U (Ah (evq2 U U) call32 (K2 (mFil mTru) (mSet nK 1))) ?_ U Ad;rintro _ _ ⟨n94,rfl,rfl⟩;refine⟨sbt,?_⟩;refine Fu (i:=5) (j:=10) qkr qkr ?_ ?_
   ·refine B5 U (Ah (.cons (T U) (.cons (T U) (.cons (T U) (.cons Al .nil)))) call14 (G4 (I4 Db (some ⟨n44,0,none⟩) 3 (hA0.mono sbt) 0 (Cj (n:=1) fndK) (by rw[Bp];exact⟨inK,(pin 1 qde).2⟩) (B0 C2) (.uni U U (.fil U (.tru U)) (Cj (n:=1) fndK)) (by rw[Bp];exact⟨trivial,⟨inK,(pin 1 qde).2⟩⟩) (C4 fndq (B0 C1) (B0 C2))) q5_no)) ?_ U Ad;rintro _ _ ⟨⟨h5,is5,rfl,o5,a5⟩,rfl⟩;obtain rfl:=q5_a a5;refine⟨sbt,(x_y (i:=6) U qkr (B6 (T U)) ?_ U Ad)⟩;refine x_y (i:=7) U qkr (Az (T U) U) ?_ U Ad;refine x_y (i:=8) U qkr (Az (T U) U) ?_ U Ad;refine x_y (i:=9) U qkr (Az (T U) U) ?_ U Ad;refine Ca (i:=10) qkr qkr ?_;refine B5 U (Ag zeroValue32 cs_) ?_ U Ad;rintro _ _ ⟨n18,rfl,rfl⟩;refine⟨sbt,(Ca (i:=11) qkr qkr ?_)⟩;refine B5 U (Oq U U sizeOf32 .agg (Bc _) (Af o5) updq (by rw[Af o5];rfl)) ?_ U Ad;rintro _ _ ⟨rfl,rfl⟩;refine⟨sbt,(x_y (i:=12) U qkr (Bl (T U)) ?_ U Ad)⟩;refine x_y (i:=13) U qkr (Bl (T U)) ?_ U Ad;refine Dr qkr U ?_;refine rOt 1 U ?_;refine Be (()) ?_ qkg (kg U) sbt
    trivial
   ·refine B5 U (Ag zeroValue32 cs_) ?_ U Ad;rintro _ _ ⟨n18,rfl,rfl⟩;refine⟨sbt,(Ca (i:=5) qkr qkr ?_)⟩;refine B5 U (Ah (.cons (T U) (.cons (T U) (.cons (T U) (.cons Al .nil)))) call14 (G4 (I4 Db (some ⟨n44,0,none⟩) 3 (hA0.mono sbt) 0 (Cj (n:=1) fndK) (by rw[Bp];exact⟨inK,(pin 1 qde).2⟩) (B0 C2) (.uni U U (.fil U (.tru U)) (Cj (n:=1) fndK)) (by rw[Bp];exact⟨trivial,⟨inK,(pin 1 qde).2⟩⟩) (C4 fndq (B0 C1) (B0 C2))) q5_no)) ?_ U Ad;rintro _ _ ⟨⟨h5,is5,rfl,o5,a5⟩,rfl⟩;obtain rfl:=q5_a a5;refine⟨sbt,(x_y (i:=6) U qkr (B6 (T U)) ?_ U Ad)⟩;refine x_y (i:=7) U qkr (Az (T U) U) ?_ U Ad;refine x_y (i:=8) U qkr (Az (T U) U) ?_ U Ad;refine x_y (i:=9) U qkr (Az (T U) U) ?_ U Ad;refine Ca (i:=11) qkr qkr ?_;refine B5 U (Oq U U sizeOf32 .agg (Bc _) (Af o5) updq (by rw[Af o5];rfl)) ?_ U Ad;rintro _ _ ⟨rfl,rfl⟩;refine⟨sbt,(x_y (i:=12) U qkr (Bl (T U)) ?_ U Ad)⟩;refine x_y (i:=13) U qkr (Bl (T U)) ?_ U Ad;refine Dr qkr U ?_;refine rOt 1 U ?_;refine Be (()) ?_ qkg (kg U) sbt
    trivial
  ·refine B5 U (Ag zeroValue32 cs_) ?_ U Ad;rintro _ _ ⟨n18,rfl,rfl⟩;refine⟨sbt,(Ca (i:=4) qkr qkr ?_)⟩;refine B5 U (Ah (evq2 U U) call32 (K2 (mFil mTru) (mSet nK 1))) ?_ U Ad;rintro _ _ ⟨n94,rfl,rfl⟩;refine⟨sbt,(Ca (i:=5) qkr qkr ?_)⟩;refine B5 U (Ah (.cons (T U) (.cons (T U) (.cons (T U) (.cons Al .nil)))) call14 (G4 (I4 Db (some ⟨n44,0,none⟩) 3 (hA0.mono sbt) 0 (Cj (n:=1) fndK) (by rw[Bp];exact⟨inK,(pin 1 qde).2⟩) (B0 C2) (.uni U U (.fil U (.tru U)) (Cj (n:=1) fndK)) (by rw[Bp];exact⟨trivial,⟨inK,(pin 1 qde).2⟩⟩) (C4 fndq (B0 C1) (B0 C2))) q5_no)) ?_ U Ad;rintro _ _ ⟨⟨h5,is5,rfl,o5,a5⟩,rfl⟩;obtain rfl:=q5_a a5;refine⟨sbt,(x_y (i:=6) U qkr (B6 (T U)) ?_ U Ad)⟩;refine x_y (i:=7) U qkr (Az (T U) U) ?_ U Ad;refine x_y (i:=8) U qkr (Az (T U) U) ?_ U Ad;refine x_y (i:=9) U qkr (Az (T U) U) ?_ U Ad;refine Ca (i:=11) qkr qkr ?_;refine B5 U (Oq U U sizeOf32 .agg (Bc _) (Af o5) updq (by rw[Af o5];rfl)) ?_ U Ad;rintro _ _ ⟨rfl,rfl⟩;refine⟨sbt,(x_y (i:=12) U qkr (Bl (T U)) ?_ U Ad)⟩;refine x_y (i:=13) U qkr (Bl (T U)) ?_ U Ad;refine Dr qkr U ?_;refine rOt 1 U ?_;refine Be (()) ?_ qkg (kg U) sbt
   trivial
 rintro z -;refine rCt 3 U (y_ (Ao (.cons Al (.cons Al .nil)) call41 (fun H' hs=>Ki nK 1)) (y_ (Ao (.cons Al (.cons Al .nil)) call41 (fun H' hs=>Ki nK 2)) (e_ (Ah (evq2 U U) call33 (Hy (mFil (mEq nK 1)) (mFil (mEq nK 2)))) ?_ U) U) U);rintro _ _ ⟨n103,rfl,rfl⟩;refine e_ (Ah (.cons (T U) (.cons (T U) (.cons Al .nil))) call17 (G4 (eempty_s Db (some ⟨n44,0,none⟩) 3 (hA0.mono sbt) 0 (.seq U U (Je (n:=1) fndK) (Je (n:=2) fndK)) (by rw[Bp];exact⟨⟨inK,(pin 1 qde).2⟩,⟨inK,(pin 2 qde).2⟩⟩) (C4 fndq (B0 C1) (B0 C1))) q6_no)) ?_ U;rintro _ _ ⟨⟨h6,is6,rfl,o6,a6⟩,rfl⟩;obtain⟨rfl,rfl⟩:=q6_a a6;refine rOt 4 U (e_ (Ag zeroValue32 cs_) ?_ U);rintro _ _ ⟨n21,rfl,rfl⟩;refine e_ (Oq U U sizeOf32 .agg (Bc _) (Af Ay) updq (by rw[Af Ay];rfl)) ?_ U;rintro _ _ ⟨rfl,rfl⟩;refine rOt 7 U (y_ (A1 (.cons Al (.cons Al (.cons Al .nil))) (Ka5 _ _ _)) (y_ (Ao (evq1 U) call39 (fun H' hs=>L9 mRng)) (e_ (Ah (.cons (T U) (.cons (T U) (.cons Al .nil))) call18 (G4 (etotal_s Db (some ⟨n44,0,none⟩) 3 (hA0.mono sbt) 0 (.fil U (fndK ▸ .rng (n:=0) (k:=6) U U U)) (by rw[Bp];exact⟨inK,by decide,by decide⟩) (B0 C1)) q7_no)) ?_ U) U) U);rintro _ _ ⟨⟨h7,is7,rfl,o7,a7⟩,rfl⟩;obtain⟨rfl,rfl⟩:=q7_a a7;refine rOt 4 U (e_ (Ag zeroValue32 cs_) ?_ U);rintro _ _ ⟨n24,rfl,rfl⟩;refine e_ (Oq U U sizeOf32 .agg (Bc _) (Af N9) updq (by rw[Af N9];rfl)) ?_ U;rintro _ _ ⟨rfl,rfl⟩;refine kO tb 4 [1,2,6,7,8,9,10,11,12,13,14,16,17,19,20,22,23,24,25,26] rfl U ?_;refine Em (X:=Unit) (V:=fun z=>[(28, .bool false),(29,Vi 0)]) (C:=[(1,_),(6,_),(7,_),(8,_),(9,_),(10,_),(11,_),(12,_),(13,_),(14,_),(16,_),(17,_),(19,_),(20,_),(22,_),(23,_),(24,_),(25,_),(26,_)]) (G:=fun z=>(n24,Cl (hdC xK7) 32)::(n12,Cl (hdC hd0) 32)::(n8,Cl (hdC hd0) 32)::(n4,Cl (encPd mTim) 25)::(n3,Cl (encPo (mSet nK 1)) 28)::(n2,Cl (encPo (mFil mTru)) 28)::(n44,Cl (exF.flatMap encF) 127)::H) (φ:=fun z=>True) (kg U) ?_ ?_
 ·refine rDt 0 U (Ib 13 _ mixd qkr sb0 ?_ Bh);refine x_y (i:=0) U qkr (B6 (T U)) ?_ U Ad;refine x_y (i:=1) U qkr (On U isAgg28 sizeOf28 U qcs) ?_ U Ad;refine x_y (i:=2) U qkr (Ao (.cons Al (.cons Al .nil)) call40 (fun H' hs=>Hw nK 3)) ?_ U Ad;refine Fu (i:=3) (j:=9) qkr qkr ?_ ?_
  ·refine B5 U (Ah (evq2 U U) call32 (K2 (mFil mTru) (mSet nK 3))) ?_ U Ad;rintro _ _ ⟨n120,rfl,rfl⟩;refine⟨sbt,?_⟩;refine Fu (i:=4) (j:=9) qkr qkr ?_ ?_
   ·refine B5 U (Ah (.cons (T U) (.cons (T U) (.cons Al .nil))) call19 (G4 (esingle_s Db (some ⟨n44,0,none⟩) 3 (hA0.mono sbt) 0 (.uni U U (.fil U (.tru U)) (Cj (n:=3) fndK)) (by rw[Bp];exact⟨trivial,⟨inK,(pin 3 qde).2⟩⟩) (C4 fndq (B0 C1) (B0 C2)) (by show (4:Nat)<=62;decide) e8 hE8) q8_no)) ?_ U Ad;rintro _ _ ⟨⟨h8,is8,rfl,o8,a8⟩,rfl⟩;obtain rfl:=q8_a a8;refine⟨sbt,(x_y (i:=5) U qkr (B6 (T U)) ?_ U Ad)⟩;refine x_y (i:=6) U qkr (Az (T U) U) ?_ U Ad;refine x_y (i:=7) U qkr (Az (T U) U) ?_ U Ad;refine x_y (i:=8) U qkr (Az (T U) U) ?_ U Ad;refine Ca (i:=9) qkr qkr ?_;refine B5 U (Ag zeroValue32 cs_) ?_ U Ad;rintro _ _ ⟨n27,rfl,rfl⟩;refine⟨sbt,(Ca (i:=10) qkr qkr ?_)⟩;refine B5 U (Oq U U sizeOf32 .agg (Bc _) (Af o8) updq (by rw[Af o8];rfl)) ?_ U Ad;rintro _ _ ⟨rfl,rfl⟩;refine⟨sbt,(x_y (i:=11) U qkr (Bl (T U)) ?_ U Ad)⟩;refine x_y (i:=12) U qkr (Bl (T U)) ?_ U Ad;refine Dr qkr U ?_;refine rOt 1 U ?_;refine Be (()) ?_ qkg (kg U) sbt
    trivial
   ·refine B5 U (Ag zeroValue32 cs_) ?_ U Ad;rintro _ _ ⟨n27,rfl,rfl⟩;refine⟨sbt,(Ca (i:=4) qkr qkr ?_)⟩;refine B5 U (Ah (.cons (T U) (.cons (T U) (.cons Al .nil))) call19 (G4 (esingle_s Db (some ⟨n44,0,none⟩) 3 (hA0.mono sbt) 0 (.uni U U (.fil U (.tru U)) (Cj (n:=3) fndK)) (by rw[Bp];exact⟨trivial,⟨inK,(pin 3 qde).2⟩⟩) (C4 fndq (B0 C1) (B0 C2)) (by show (4:Nat)<=62;decide) e8 hE8) q8_no)) ?_ U Ad;rintro _ _ ⟨⟨h8,is8,rfl,o8,a8⟩,rfl⟩;obtain rfl:=q8_a a8;refine⟨sbt,(x_y (i:=5) U qkr (B6 (T U)) ?_ U Ad)⟩;refine x_y (i:=6) U qkr (Az (T U) U) ?_ U Ad;refine x_y (i:=7) U qkr (Az (T U) U) ?_ U Ad;refine x_y (i:=8) U qkr (Az (T U) U) ?_ U Ad;refine Ca (i:=10) qkr qkr ?_;refine B5 U (Oq U U sizeOf32 .agg (Bc _) (Af o8) updq (by rw[Af o8];rfl)) ?_ U Ad;rintro _ _ ⟨rfl,rfl⟩;refine⟨sbt,(x_y (i:=11) U qkr (Bl (T U)) ?_ U Ad)⟩;refine x_y (i:=12) U qkr (Bl (T U)) ?_ U Ad;refine Dr qkr U ?_;refine rOt 1 U ?_;refine Be (()) ?_ qkg (kg U) sbt
    trivial
  ·refine B5 U (Ag zeroValue32 cs_) ?_ U Ad;rintro _ _ ⟨n27,rfl,rfl⟩;refine⟨sbt,(Ca (i:=3) qkr qkr ?_)⟩;refine B5 U (Ah (evq2 U U) call32 (K2 (mFil mTru) (mSet nK 3))) ?_ U Ad;rintro _ _ ⟨n120,rfl,rfl⟩;refine⟨sbt,(Ca (i:=4) qkr qkr ?_)⟩;refine B5 U (Ah (.cons (T U) (.cons (T U) (.cons Al .nil))) call19 (G4 (esingle_s Db (some ⟨n44,0,none⟩) 3 (hA0.mono sbt) 0 (.uni U U (.fil U (.tru U)) (Cj (n:=3) fndK)) (by rw[Bp];exact⟨trivial,⟨inK,(pin 3 qde).2⟩⟩) (C4 fndq (B0 C1) (B0 C2)) (by show (4:Nat)<=62;decide) e8 hE8) q8_no)) ?_ U Ad;rintro _ _ ⟨⟨h8,is8,rfl,o8,a8⟩,rfl⟩;obtain rfl:=q8_a a8;refine⟨sbt,(x_y (i:=5) U qkr (B6 (T U)) ?_ U Ad)⟩;refine x_y (i:=6) U qkr (Az (T U) U) ?_ U Ad;refine x_y (i:=7) U qkr (Az (T U) U) ?_ U Ad;refine x_y (i:=8) U qkr (Az (T U) U) ?_ U Ad;refine Ca (i:=10) qkr qkr ?_;refine B5 U (Oq U U sizeOf32 .agg (Bc _) (Af o8) updq (by rw[Af o8];rfl)) ?_ U Ad;rintro _ _ ⟨rfl,rfl⟩;refine⟨sbt,(x_y (i:=11) U qkr (Bl (T U)) ?_ U Ad)⟩;refine x_y (i:=12) U qkr (Bl (T U)) ?_ U Ad;refine Dr qkr U ?_;refine rOt 1 U ?_;refine Be (()) ?_ qkg (kg U) sbt
   trivial
 rintro z -;refine rCt 3 U (y_ (Ao (.cons Al (.cons Al .nil)) call41 (fun H' hs=>Ki nD 1)) (y_ (Ao (.cons Al (.cons Al .nil)) call41 (fun H' hs=>Ki nD 2)) (e_ (Ah (.cons (T U) (.cons (T U) (.cons (T U) (.cons Al .nil)))) call20 (G4 (eapart_s Db (some ⟨n44,0,none⟩) 3 (hA0.mono sbt) 0 (Je (n:=1) fndD) (by rw[Bp];exact⟨inD,(pin 1 qde).1⟩) (B0 C1) (Je (n:=2) fndD) (by rw[Bp];exact⟨inD,(pin 2 qde).1⟩) (B0 C1)) q9_no)) ?_ U) U) U);rintro _ _ ⟨⟨h9,is9,rfl,o9,a9⟩,rfl⟩;obtain⟨rfl,rfl⟩:=q9_a a9;refine rOt 4 U (e_ (Ag zeroValue32 cs_) ?_ U);rintro _ _ ⟨n30,rfl,rfl⟩;refine e_ (Oq U U sizeOf32 .agg (Bc _) (Af Ay) updq (by rw[Af Ay];rfl)) ?_ U;rintro _ _ ⟨rfl,rfl⟩;refine kO tb 4 [1,6,7,8,9,10,11,12,13,14,16,17,19,20,22,23,24,25,26,28,29,31,32] rfl U (rGt 3 U (y_ (Ao (.cons Al (.cons Al .nil)) call40 (fun H' hs=>Hw nD 3)) (y_ (Ao (.cons Al (.cons Al .nil)) call40 (fun H' hs=>Hw ⟨#[115,114,99]⟩ 4)) (e_ (Ah (.cons (T U) (.cons (T U) (.cons (T U) (.cons Al .nil)))) call21 (G4 (edistinct_s Db (some ⟨n44,0,none⟩) 3 (hA0.mono sbt) 0 (Cj (n:=3) fndD) (by rw[Bp];exact⟨inD,(pin 3 qde).1⟩) (B0 C2) (Cj (n:=4) fndS) (by rw[Bp];exact⟨inS,(by decide:(4:Nat)<2 ^ 8)⟩) (B0 C2) (by show (1:Nat)<=30;decide) (by show (1:Nat)<=30;decide) e10 hE10) q10_no)) ?_ U) U) U));rintro _ _ ⟨⟨h10,is10,rfl,o10,a10⟩,rfl⟩;obtain⟨rfl,rfl⟩:=q10_a a10;refine rOt 4 U (e_ (Ag zeroValue32 cs_) ?_ U);rintro _ _ ⟨n33,rfl,rfl⟩;refine e_ (Oq U U sizeOf32 .agg (Bc _) (Af K9) updq (by rw[Af K9];rfl)) ?_ U;rintro _ _ ⟨rfl,rfl⟩;refine kO tb 4 [1,6,7,8,9,10,11,12,13,14,16,17,19,20,22,23,24,25,26,28,29,31,32,33,34,35] rfl U (rGt 3 U (y_ (Ao (.cons Al (.cons Al .nil)) call41 (fun H' hs=>Ki nD 1)) (y_ (Ao (.cons Al (.cons Al .nil)) call40 (fun H' hs=>Hw nD 2)) (e_ (Ah (evq2 U U) call33 (Hy (mFil (mEq nD 1)) (mSet nD 2))) ?_ U) U) U));rintro _ _ ⟨n145,rfl,rfl⟩;refine y_ (Ao (.cons Al (.cons Al .nil)) call41 (fun H' hs=>Ki nD 2)) (y_ (Ao (.cons Al (.cons Al .nil)) call40 (fun H' hs=>Hw nD 3)) (e_ (Ah (evq2 U U) call33 (Hy (mFil (mEq nD 2)) (mSet nD 3))) ?_ U) U) U;rintro _ _ ⟨n148,rfl,rfl⟩;refine e_ (Ah (.cons (T U) (.cons (T U) (.cons (T U) (.cons Al .nil)))) call22 (G4 (eslices_s Db (some ⟨n44,0,none⟩) 3 (hA0.mono sbt) 0 (.seq U U (Je (n:=1) fndD) (Cj (n:=2) fndD)) (by rw[Bp];exact⟨⟨inD,(pin 1 qde).1⟩,⟨inD,(pin 2 qde).1⟩⟩) (C4 fndq (B0 C1) (B0 C2)) (.seq U U (Je (n:=2) fndD) (Cj (n:=3) fndD)) (by rw[Bp];exact⟨⟨inD,(pin 2 qde).1⟩,⟨inD,(pin 3 qde).1⟩⟩) (C4 fndq (B0 C1) (B0 C2))) q11_no)) ?_ U;rintro _ _ ⟨⟨h11,is11,rfl,o11,a11⟩,rfl⟩;obtain⟨rfl,rfl⟩:=q11_a a11;refine rOt 4 U (e_ (Ag zeroValue32 cs_) ?_ U);rintro _ _ ⟨n36,rfl,rfl⟩;refine e_ (Oq U U sizeOf32 .agg (Bc _) (Af Oa) updq (by rw[Af Oa];rfl)) ?_ U;rintro _ _ ⟨rfl,rfl⟩;refine kO tb 4 [1,6,7,8,9,10,11,12,13,14,16,17,19,20,22,23,24,25,26,28,29,31,32,33,34,35,36,37,38] rfl U (rGt 3 U (y_ (Ao (.cons Al (.cons Al .nil)) call41 (fun H' hs=>Ki nD 1)) (y_ (Ao (.cons Al (.cons Al .nil)) call41 (fun H' hs=>Ki nD 2)) (e_ (Ah (.cons (T U) (.cons (T U) (.cons (T U) (.cons Al .nil)))) call22 (G4 (eslices_s Db (some ⟨n44,0,none⟩) 3 (hA0.mono sbt) 0 (Je (n:=1) fndD) (by rw[Bp];exact⟨inD,(pin 1 qde).1⟩) (B0 C1) (Je (n:=2) fndD) (by rw[Bp];exact⟨inD,(pin 2 qde).1⟩) (B0 C1)) q12_no)) ?_ U) U) U));rintro _ _ ⟨⟨h12,is12,rfl,o12,a12⟩,rfl⟩;obtain⟨rfl,rfl⟩:=q12_a a12;refine rOt 4 U (e_ (Ag zeroValue32 cs_) ?_ U);rintro _ _ ⟨n39,rfl,rfl⟩;refine e_ (Oq U U sizeOf32 .agg (Bc _) (Af Ay) updq (by rw[Af Ay];rfl)) ?_ U;rintro _ _ ⟨rfl,rfl⟩;refine kO tb 4 [6,7,8,9,10,11,12,13,14,16,17,19,20,22,23,24,25,26,28,29,31,32,33,34,35,36,37,38,40,41] rfl U (rGt 5 U (y_ (Aw (T U) (T U) qom) ?_ U));refine rOt 1 U (y_ (Aw (T U) (T U) qom) ?_ U);refine rOt 1 U (y_ (Aw (T U) (T U) qom) ?_ U);refine rOt 1 U (y_ (Aw (T U) (T U) qom) ?_ U);refine rOt 1 U (y_ (Aw (T U) (T U) qom) ?_ U);refine rOt 1 U (y_ (Aw (T U) (T U) qom) ?_ U);refine rOt 1 U (y_ (Aw (T U) (T U) qom) ?_ U);refine rOt 1 U (y_ (Aw (T U) (T U) qom) ?_ U);refine rOt 1 U (y_ (Aw (T U) (T U) qom) ?_ U);refine rOt 1 U (y_ (Aw (T U) (T U) qom) ?_ U);refine rOt 1 U (y_ (Aw (T U) (T U) qom) ?_ U);refine y_ (yl_neF (T U) Al qde) ?_ U;refine kO tb 2 [6,8,9,11,12,13,16,19,22,24,25,28,31,33,34,36,37,40,184] rfl U (rGt 8 U ?_);refine A6 (Bq (T U)) U (A7 U U (Aa U)) ?_;refine rOt 2 U (A6 (On U isAgg32 sizeOf32 U qcs) U (A7 U U (Aa U)) ?_);refine A6 (A1 .nil (J9)) U (A7 U U (Aa U)) (A6 (G8 (T U) (T U) qkr eqH0) U (A7 U U (Aa U)) ?_);refine rOt 3 U (A6 (yl_eqT (T U) Al U) U (A7 U U (Aa U)) (rOt 2 U (A6 (On U isAgg32 sizeOf32 U qcs) U (A7 U U (Aa U)) ?_)));refine A6 (A1 .nil (J9)) U (A7 U U (Aa U)) (A6 (G8 (T U) (T U) qkr eqH0) U (A7 U U (Aa U)) ?_);refine rOt 3 U ?_;refine A6 (Bq (T U)) U (A7 U U (Aa U)) ?_;refine rOt 6 U ?_;refine A6 (Bq (T U)) U (A7 U U (Aa U)) ?_;refine kO tb 7 [24,25,28,31,33,34,36,37,40,42] rfl U (rGt 1 U (Bf 36 (plq24 [(24,true),(25,true),(26,true),(27,true),(28,true),(29,true),(30,true),(31,true),(32,true),(33,true),(34,true),(35,true)]) _ mixd qkr sb0 ?_ Bh));refine rPt 1 U ?_;refine o_y U (Bq (T U)) ?_ U Ad;refine rPt 1 U (o_y U (On U isAgg32 sizeOf32 U qcs) ?_ U (A7 U U (Aa U)));refine o_y U (Ao (.cons Al (.cons Al (.cons Al .nil))) call42 (fun H' hs=>khead1_s)) (o_y U (G8 (T U) (T U) qkr eqX1) ?_ U (A7 U U (Aa U))) U (A7 U U (Aa U));refine rPt 3 U ?_;refine o_y U (Bq (T U)) ?_ U (A7 U U (Aa U));refine rPt 6 U ?_;refine o_y U (Bq (T U)) ?_ U (A7 U U (Aa U));refine rPt 2 U (o_y U (On U isAgg32 sizeOf32 U qcs) ?_ U (A7 U U (Aa U)));refine o_y U (Ao (.cons Al (.cons Al (.cons Al .nil))) call42 (fun H' hs=>khead2_s)) (o_y U (G8 (T U) (T U) qkr eqX2) ?_ U (A7 U U (Aa U))) U (A7 U U (Aa U));refine rPt 3 U ?_;refine o_y U (Bq (T U)) ?_ U (A7 U U (Aa U));refine rPt 2 U (o_y U (On U isAgg32 sizeOf32 U qcs) ?_ U (A7 U U (Aa U)));refine o_y U (Ao (.cons Al (.cons Al (.cons Al .nil))) call42 (fun H' hs=>khead3_s)) (o_y U (G8 (T U) (T U) qkr eqX3) ?_ U (A7 U U (Aa U))) U (A7 U U (Aa U));refine rPt 5 U (Av U (kO tb 2 [42,43] rfl U (rGt 10 U (Ai U (Ol U) ?_))));exact⟨_,⟨rfl,rfl⟩,sbt⟩
theorem fis_arr {q:Option Addr}{fi:List Fi}(h:FisOk fi)(hA:Arr w0 H q 3 encFi fi):Arr w0 H q 3 encF (fi.map Fi.fd):=fun i u hi=>by
 have he:=h.enc;rw[List.getElem?_map] at hi;cases hf:fi[i]? with
 |none=>rw[hf] at hi;cases hi
 |some f=>
  rw[hf] at hi;obtain rfl:f.fd=u:=Option.some.inj hi;have h2:encFi f=encF f.fd:=by
   have h3:(fi.map encFi)[i]? =((fi.map Fi.fd).map encF)[i]? :=by rw[he]
   rw[List.getElem?_map,List.getElem?_map,List.getElem?_map,hf] at h3;exact Option.some.inj h3
  have:=hA i f hf;rw[h2] at this;exact this
theorem rpol_n (fl:List Fd)(hfl:FlOk fl)(q:Option Addr)(n c:Nat)(hn:n=fl.length)(hA:FlA w0 H q fl){m:Pom}(hM:PoM w0 H m)(hm:m.sz<=1000000000)(hz:NmO m):
  FSpec prog w0 80 #[.slice q n c, .agg (encPo m).toArray] H (SayE (m.nd<=200/\FmO m/\∀ a∈prtO m,FitO fl a) H):=by
 subst hn;exact rpolicy_s fl hfl q c hA hM hm hz
def FitM (fl:List Fd) (m:Pom) (most:Nat):Prop:=m.nd<=most/\∃ p,IsO fl m p/\p.Fit (bsF fl)
theorem chk_n (fi:List Fi)(q:Option Addr)(n c:Nat)(hn:n=fi.length)(hA:Arr w0 H q 3 encFi fi)(hnm:∀ f∈fi,f.nm.size<=9223372036854775807):FSpec prog w0 76 #[.slice q n c] H (SayE (FisOk fi) H):=by
 subst hn;exact check_s fi q c hA hnm
end Go.Proofs.YtkgfmjanajdibaaGreat
namespace Go.Proofs.YtkgfmjanajdibaaGreat
open _root_.Go.Proofs.Tryz
open Go.ChangeShapes Go.WideShapes Go.ChangeAt Go.RowKit Go.Joins Go.Deep
set_option linter.unusedVariables false
set_option linter.unusedSimpArgs false
set_option linter.unusedSectionVars false
set_option maxRecDepth 100000
theorem below_cell {W w:World}{p:Addr}{v:Value}(hb:Below W.heap.size W w)(h:W.cell? p=some v):w.cell? p=some v:=by
 have hlt:=World.block_lt_of_cell? _ _ h;have:=hb.block p.block hlt;unfold World.cell? at h ⊢;rw[this];exact h
theorem cell_arg {W:World}{p:Addr}{v:Value}(h:W.cell? p=some v):Cell W [] p v:=fun w hO=>below_cell hO.below h
theorem Fc {H:Type}(d:DataW H):1<=Rows.uptoBulk d:=by
 cases d with
 |lit l=>cases l<;>simp[Rows.uptoBulk]
 |nil=>simp[Rows.uptoBulk]
 |ptr d=>simp[Rows.uptoBulk]
 |slice elems spare=>simp[Rows.uptoBulk]
 |agg parts=>simp[Rows.uptoBulk]
 |iface t d=>simp[Rows.uptoBulk]
 |map entries=>simp[Rows.uptoBulk]
 |held h=>simp[Rows.uptoBulk]
theorem blk_sum {H:Type}{f:Nat->Nat}{D:Nat->DataW H}:∀ (l:List Nat),(∀ i∈l,f i<=Rows.uptoBulk (D i))->(l.map f).sum<=Rows.uptoBulkAll (l.map D)
 |[],_=>Nat.le_refl _
 |x::l,h=>by
  have h1:=h x (by simp);have h2:=blk_sum l fun i hi=>h i (by simp[hi])
  simp only[List.map_cons,List.sum_cons,Rows.uptoBulkAll];omega
theorem blk_mem {H:Type}{D:Nat->DataW H}:∀ {l:List Nat} {i:Nat},i∈l->Rows.uptoBulk (D i)<=Rows.uptoBulkAll (l.map D)
 |x::l,i,h=>by
  simp only[List.map_cons,Rows.uptoBulkAll];rcases List.mem_cons.1 h with rfl|h
  ·exact Nat.le_add_right _ _
  ·have:=blk_mem (D:=D) h;omega
section
variable {H:Type} {enc:TypeId × Value->H} {P:Program} {W:World} {b0:Nat} {sp1:Nat->Bool} {held:Bool}
theorem open_arr {α:Type}{t e sz fuel:Nat}{cs:List Value}{x:DataW H × List MemPlace}{el:α->List Value}{φ:α->Prop}{szf:α->Nat}(ht:P.underlying t=some (.slice e))(hc:P.cellsOf e=sz)(hsz:0<sz)
  (hel:∀ n cs y,Rows.uptoBulk y.1<Rows.uptoBulk x.1->DataW.trod enc P W b0 sp1 held n e cs=some y->∃ u:α,cs=el u/\φ u/\szf u<=Rows.uptoBulk y.1) (h:DataW.trod enc P W b0 sp1 held fuel t cs=some x):
  ∃ (q:Option Addr) (l:List α) (cap:Nat),cs=[.slice q l.length cap]/\Arr W [] q sz el l/\l.length<=cap/\l.length<=9223372036854775807/\(∀ u∈l,φ u)/\(l.map szf).sum+1<=Rows.uptoBulk x.1:=by
 rcases open_slice ht h with ⟨rfl,rfl⟩|⟨a,len,cap,m,n,D,Pl,rfl,hb,hl,hm,hmm,rfl,hx⟩
 ·exact⟨none,[],0,rfl,fun i u hi=>by simp at hi,by simp,by simp,by simp,by simp[Rows.uptoBulk]⟩
 have hlm:len<=m:=by rw[hmm];split<;>omega
 have hlen:len<=9223372036854775807:=by unfold maxLen at hm;omega
 cases len with
 |zero=>exact⟨some a,[],cap,rfl,fun i u hi=>by simp at hi,by simp,by simp,by simp,by simp[Rows.uptoBulk]⟩
 |succ k=>
  have hbk:Rows.uptoBulkAll ((List.range (k+1)).map D)+1<=Rows.uptoBulk (DataW.slice ((List.range (k+1)).map D) ((List.range (m - (k+1))).map fun j=>D (k+1+j))):=by
   simp only[Rows.uptoBulk];omega
  have each:∀ i,i<k+1->∃ u:α,W.cells? b0 (a.add (i*sz)) sz=some (el u)/\φ u/\szf u<=Rows.uptoBulk (D i):=fun i hi=>by
   obtain⟨cs',h1,h2⟩:=hx i qom;rw[hc] at h1;have h3:=blk_mem (D:=D) (List.mem_range.2 hi);obtain⟨u,rfl,hu⟩:=hel _ _ _ (by simp only[];omega) h2;exact⟨u,h1,hu⟩
  obtain⟨u0,h00,hu0⟩:=each 0 qom
  letI:Inhabited α:=⟨u0⟩
  obtain⟨f,hf⟩:=choose_lt each;refine⟨some a,(List.range (k+1)).map f,cap,by simp,fun i u hi=> ?_,by simpa using hl,by simpa using hlen,fun u hu=> ?_,?_⟩
  ·have hik:i<k+1:=by have:=(List.getElem?_eq_some_iff.1 hi).1;simpa using this
   have hfu:f i=u:=by simpa[hik] using hi
   obtain⟨sb,so,spot⟩:=a;obtain⟨_,hl0,hc0⟩:=World.cells?_some h00;have hspot:spot=none:=by
    have h6:=(hc0 0 hsz).trans (List.getElem?_eq_getElem qom)
    simpa[Addr.add] using World.cell?_spot h6
   subst hspot;refine⟨rfl,fun j v hj=>cell_arg ?_⟩;obtain⟨_,hl1,hc1⟩:=World.cells?_some (hf i hik).1;rw[hfu] at hl1 hc1;have hjl:=(List.getElem?_eq_some_iff.1 hj).1;have h5:=hc1 j qom;rw[add_add,add_plain] at h5;have h6:=h5.trans hj;rw[<- Nat.add_assoc] at h6;exact h6
  ·obtain⟨i,hi,rfl⟩:=List.mem_map.1 hu;exact(hf i (List.mem_range.1 hi)).2.1
  ·have:=blk_sum (f:=fun i=>szf (f i)) (D:=D) (List.range (k+1)) fun i hi=>(hf i (List.mem_range.1 hi)).2.2
   rw[List.map_map];have e:(szf ∘ f)=fun i=>szf (f i):=rfl
   rw[e];simp only[] at hbk ⊢;omega
end
theorem cells3:prog.cellsOf 3=1:=by kernel_rfl
theorem cells9:prog.cellsOf 9=1:=by kernel_rfl
theorem cells67:prog.cellsOf 127=3:=by kernel_rfl
theorem cells25:prog.cellsOf 25=5:=by kernel_rfl
theorem cells23:prog.cellsOf 23=1:=by kernel_rfl
theorem cells28:prog.cellsOf 28=9:=by kernel_rfl
theorem cells26:prog.cellsOf 26=1:=by kernel_rfl
theorem own_knob:ownKnob prog.godebug=none:=by kernel_rfl
theorem i64_bd {n:Int}(h:(Lit.int .i64 n).wf=true): -9223372036854775808<=n/\n<=9223372036854775807:=by
 have:=bounds_i64 h;exact this
theorem szPL_sum:∀ l:List Pdm,szPL l=(l.map Pdm.sz).sum
 |[]=>by simp[szPL]
 |x::l=>by simp only[szPL,List.map_cons,List.sum_cons,szPL_sum l]
theorem szOL_sum:∀ l:List Pom,szOL l=(l.map Pom.sz).sum
 |[]=>by simp[szOL]
 |x::l=>by simp only[szOL,List.map_cons,List.sum_cons,szOL_sum l]
theorem prtPL_in {l:List Pdm}{a:Pdm}(h:a∈prtPL l):∃ x∈l,a∈prtP x:=by
 induction l with
 |nil=>simp[prtPL] at h
 |cons x l ih=>
  rw[prtPL] at h;rcases List.mem_append.1 h with h|h
  ·exact⟨x,by simp,h⟩
  ·obtain⟨y,h1,h2⟩:=ih h;exact⟨y,by simp[h1],h2⟩
theorem prtOL_in {l:List Pom}{a:Pom}(h:a∈prtOL l):∃ x∈l,a∈prtO x:=by
 induction l with
 |nil=>simp[prtOL] at h
 |cons x l ih=>
  rw[prtOL] at h;rcases List.mem_append.1 h with h|h
  ·exact⟨x,by simp,h⟩
  ·obtain⟨y,h1,h2⟩:=ih h;exact⟨y,by simp[h1],h2⟩
section
variable {H:Type} {enc:TypeId × Value->H} {W:World} {b0 n:Nat} {sp1:Nat->Bool} {held:Bool} {y:DataW H × List MemPlace} {cs:List Value}
abbrev encSv (s:ByteArray):List Value:=[.string s]
theorem Jq {c:Value}(h:DataW.trod enc prog W b0 sp1 held n 3 [c]=some y):∃ a:Int,c=Vi a/\(-9223372036854775808<=a/\a<=9223372036854775807):=by
 obtain⟨a,e0,_,wa⟩:=DataW.trod_int underlying3 h;simp at e0;exact⟨a,e0,i64_bd wa⟩
theorem rd_str (h:DataW.trod enc prog W b0 sp1 held n 9 cs=some y):∃ u:ByteArray,cs=encSv u/\u.size<=9223372036854775807:=by
 obtain⟨s,e0,_,ws⟩:=DataW.trod_string underlying9 h;exact⟨s,e0,by unfold maxLen at ws;omega⟩
theorem rd_fi (h:DataW.trod enc prog W b0 sp1 held n 127 cs=some y):∃ u:Fi,cs=encFi u/\u.nm.size<=9223372036854775807:=by
 obtain⟨xs,m,rfl,rfl,hlen,hxl,hall⟩:=DataW.trod_struct underlying127 h;rw[cells67] at hlen
 match xs,hxl,cs,hlen with
 |[x0,x1,x2],_,[c0,c1,c2],_=>
  have f0:DataW.trod enc prog W b0 sp1 held m 9 [c0]=some x0:=by have:=hall 0 _ rfl;simpa[cells9] using this
  have f1:DataW.trod enc prog W b0 sp1 held m 3 [c1]=some x1:=by have:=hall 1 _ rfl;simpa[cells9,cells3] using this
  have f2:DataW.trod enc prog W b0 sp1 held m 3 [c2]=some x2:=by have:=hall 2 _ rfl;simpa[cells9,cells3] using this
  obtain⟨s,e1,hs⟩:=rd_str f0;obtain⟨a,rfl,_⟩:=Jq f1;obtain⟨b,rfl,_⟩:=Jq f2;simp at e1;exact⟨⟨s,a,b⟩,by rw[e1],hs⟩
theorem rd_pd:∀ (N:Nat) {n:Nat} {y:DataW H × List MemPlace} {cs:List Value},Rows.uptoBulk y.1<=N->DataW.trod enc prog W b0 sp1 held n 25 cs=some y->∃ u:Pdm,cs=encPd u/\(PdM W [] u/\NmP u)/\u.sz<=Rows.uptoBulk y.1
 |0,n,y,cs,hN,_=>by have:=Fc y.1;omega
 |N+1,n,y,cs,hN,h=>by
  obtain⟨xs,m,rfl,rfl,hlen,hxl,hall⟩:=DataW.trod_struct underlying25 h;rw[cells25] at hlen
  match xs,hxl,cs,hlen with
  |[x0,x1,x2,x3,x4],_,[c0,c1,c2,c3,c4],_=>
   have f0:DataW.trod enc prog W b0 sp1 held m 3 [c0]=some x0:=by have:=hall 0 _ rfl;simpa[cells3] using this
   have f1:DataW.trod enc prog W b0 sp1 held m 9 [c1]=some x1:=by have:=hall 1 _ rfl;simpa[cells3,cells9] using this
   have f2:DataW.trod enc prog W b0 sp1 held m 3 [c2]=some x2:=by have:=hall 2 _ rfl;simpa[cells3,cells9] using this
   have f3:DataW.trod enc prog W b0 sp1 held m 3 [c3]=some x3:=by have:=hall 3 _ rfl;simpa[cells3,cells9] using this
   have f4:DataW.trod enc prog W b0 sp1 held m 23 [c4]=some x4:=by have:=hall 4 _ rfl;simpa[cells3,cells9,cells23] using this
   have hb:Rows.uptoBulk x4.1+4<=Rows.uptoBulk (DataW.agg (H:=H) ([x0,x1,x2,x3,x4].map (·.1))):=by
    have:=Fc x0.1;have:=Fc x1.1;have:=Fc x2.1;have:=Fc x3.1;simp only[Rows.uptoBulk,Rows.uptoBulkAll,List.map_cons,List.map_nil] at *;omega
   have hN':Rows.uptoBulk (DataW.agg (H:=H) ([x0,x1,x2,x3,x4].map (·.1)))<=N+1:=hN;obtain⟨k,rfl,_⟩:=Jq f0;obtain⟨s,e1,hs⟩:=rd_str f1;obtain⟨a,rfl,_⟩:=Jq f2;obtain⟨b,rfl,_⟩:=Jq f3;obtain⟨q,l,cap,e2,ha,hc,hl,hf,hsum⟩:=open_arr (el:=encPd) (φ:=fun u=>PdM W [] u/\NmP u) (szf:=Pdm.sz) underlying23 cells25 qom (fun n cs y hy h=>rd_pd N qom h) f4;simp at e1 e2;refine⟨.mk k s a b q cap l,by rw[e1,e2];rfl,⟨.mk ha fun a h=>(hf a h).1,fun a ha=> ?_⟩,?_⟩
   ·rw[Dx] at ha;rcases List.mem_cons.1 ha with rfl|ha
    ·exact hs
    ·obtain⟨x,hx,hax⟩:=prtPL_in ha;exact(hf x hx).2 a hax
   rw[Gb,show (Pdm.mk k s a b q cap l).subs=l from rfl,szPL_sum];exact Nat.le_trans (by omega:(l.map Pdm.sz).sum+1<=Rows.uptoBulk x4.1+4) hb
theorem rd_po:∀ (N:Nat) {n:Nat} {y:DataW H × List MemPlace} {cs:List Value},Rows.uptoBulk y.1<=N->DataW.trod enc prog W b0 sp1 held n 28 cs=some y->∃ u:Pom,cs=encPo u/\(PoM W [] u/\NmO u)/\u.sz<=Rows.uptoBulk y.1
 |0,n,y,cs,hN,_=>by have:=Fc y.1;omega
 |N+1,n,y,cs,hN,h=>by
  obtain⟨xs,m,rfl,rfl,hlen,hxl,hall⟩:=DataW.trod_struct underlying28 h;rw[cells28] at hlen
  match xs,hxl,cs,hlen with
  |[x0,x1,x2,x3,x4],_,[c0,c1,c2,c3,c4,c5,c6,c7,c8],_=>
   have f0:DataW.trod enc prog W b0 sp1 held m 3 [c0]=some x0:=by have:=hall 0 _ rfl;simpa[cells3] using this
   have f1:DataW.trod enc prog W b0 sp1 held m 25 [c1,c2,c3,c4,c5]=some x1:=by have:=hall 1 _ rfl;simpa[cells3,cells25] using this
   have f2:DataW.trod enc prog W b0 sp1 held m 9 [c6]=some x2:=by have:=hall 2 _ rfl;simpa[cells3,cells25,cells9] using this
   have f3:DataW.trod enc prog W b0 sp1 held m 3 [c7]=some x3:=by have:=hall 3 _ rfl;simpa[cells3,cells25,cells9] using this
   have f4:DataW.trod enc prog W b0 sp1 held m 26 [c8]=some x4:=by have:=hall 4 _ rfl;simpa[cells3,cells25,cells9,cells26] using this
   have hb:Rows.uptoBulk x4.1+Rows.uptoBulk x1.1+3<=Rows.uptoBulk (DataW.agg (H:=H) ([x0,x1,x2,x3,x4].map (·.1))):=by
    have:=Fc x0.1;have:=Fc x2.1;have:=Fc x3.1;simp only[Rows.uptoBulk,Rows.uptoBulkAll,List.map_cons,List.map_nil] at *;omega
   have hN':Rows.uptoBulk (DataW.agg (H:=H) ([x0,x1,x2,x3,x4].map (·.1)))<=N+1:=hN;obtain⟨k,rfl,_⟩:=Jq f0;obtain⟨pm,ep,⟨hp1,hp2⟩,hpz⟩:=rd_pd _ (Nat.le_refl _) f1;obtain⟨s,e1,hs⟩:=rd_str f2;obtain⟨a,rfl,_⟩:=Jq f3;obtain⟨q,l,cap,e2,ha,hc,hl,hf,hsum⟩:=open_arr (el:=encPo) (φ:=fun u=>PoM W [] u/\NmO u) (szf:=Pom.sz) underlying26 cells28 qom (fun n cs y hy h=>rd_po N qom h) f4;simp only[List.cons.injEq,and_true] at e1 e2;refine⟨.mk k pm s a q cap l,?_,⟨.mk hp1 ha fun a h=>(hf a h).1,fun a ha=> ?_⟩,?_⟩
   ·rw[e1,e2];show Value.int .i64 k::([c1,c2,c3,c4,c5]++[.string s,Vi a, .slice q l.length cap])=_;rw[ep];rfl
   ·rw[De] at ha;rcases List.mem_cons.1 ha with rfl|ha
    ·exact⟨hs,hp2⟩
    ·obtain⟨x,hx,hax⟩:=prtOL_in ha;exact(hf x hx).2 a hax
   rw[Dy,show (Pom.mk k pm s a q cap l).subs=l from rfl,show (Pom.mk k pm s a q cap l).pr=pm from rfl,szOL_sum];exact Nat.le_trans (by omega:(l.map Pom.sz).sum+pm.sz+1<=Rows.uptoBulk x4.1+Rows.uptoBulk x1.1+3) hb
theorem Lm {base:Nat}{r:_root_.Go.Reach}{v:Value}{d:DataW H}{p:List MemPlace}(hv:Value.okWide prog W r base 28 v)(h:DataW.Trod enc prog W b0 sp1 held 28 v d p):∃ u:Pom,v= .agg (encPo u).toArray/\PoM W [] u/\NmO u/\u.sz<=Rows.uptoBulk d:=by
 obtain⟨cs,rfl,hsz⟩:=okWide_struct underlying28 hv;obtain⟨fuel,hf⟩:=h;obtain⟨l⟩:=cs;obtain⟨u,e,⟨h1,h2⟩,hu⟩:=rd_po _ (Nat.le_refl _) hf;simp only[Value.cells] at e;exact⟨u,by rw[<- e],h1,h2,hu⟩
theorem open_fis {base:Nat}{r:_root_.Go.Reach}{v:Value}{d:DataW H}{p:List MemPlace}(hv:Value.okWide prog W r base 22 v)(h:DataW.Trod enc prog W b0 sp1 held 22 v d p):∃ (q:Option Addr) (l:List Fi) (cap:Nat),v= .slice q l.length cap/\Arr W [] q 3 encFi l/\∀ f∈l,f.nm.size<=9223372036854775807:=by
 obtain⟨a0,len0,cap0,rfl⟩:=okWide_slice underlying22 hv;obtain⟨fuel,hf⟩:=h;obtain⟨q,l,cap,e,a,c,b,f,_⟩:=open_arr (el:=encFi) (φ:=fun u=>u.nm.size<=9223372036854775807) (szf:=fun _=>0) underlying22 cells67 qom (fun n cs y _ h=>by obtain⟨u,h1,h2⟩:=rd_fi h;exact⟨u,h1,h2,Nat.zero_le _⟩) hf;simp only[Value.cells,List.cons.injEq,and_true] at e;exact⟨q,l,cap,e,a,f⟩
end
end Go.Proofs.YtkgfmjanajdibaaGreat
namespace Go.Proofs.YtkgfmjanajdibaaGreat
open _root_.Go.Proofs.Tryz
open Go.RowKit
set_option linter.unusedVariables false
set_option linter.unusedSimpArgs false
set_option linter.unusedSectionVars false
set_option maxRecDepth 100000
variable {w0:World}{H:Mm}
theorem errN_nz (fl:List Fd)(t:Int)(p:Po)(ns:Ns):∃ e,ErrN fl t p ns e/\(e=12\/e=2):=by
 cases h:PF fl t p ns with
 |none=>exact⟨12,⟨(fun _=>rfl),(fun a n e=>by rw[h] at e;cases e)⟩,by decide⟩
 |some x=>exact⟨2,⟨(fun e=>by rw[h] at e;cases e),(fun _ _ _ _=>rfl)⟩,by decide⟩
theorem errD_nz (fl:List Fd)(t:Int)(p q:Po):∃ e,ErrD fl t p q e/\(e=12\/e=2):=by
 obtain⟨e,h,hz⟩:=errN_nz fl t q (N0 fl);cases h1:PF fl t q (N0 fl) with
 |none=>exact⟨e,⟨h,(fun a n e1=>by rw[h1] at e1;cases e1)⟩,hz⟩
 |some x=>
  by_cases c:(rulesP x.2 (bsF fl) x.1).length<=4000
  ·obtain⟨e2,h2,hz2⟩:=errN_nz fl t p x.2;refine⟨e2,⟨⟨(fun e3=>by rw[h1] at e3;cases e3),(fun a n e3 e4=> ?_)⟩,(fun a n e3 _=> ?_)⟩,hz2⟩
   ·rw[h1] at e3;cases e3;exact absurd c (by show ¬ (rulesP n (bsF fl) a).length<=4000;omega)
   ·rw[h1] at e3;cases e3;exact h2
  ·refine⟨e,⟨h,fun a n e3 e4=> ?_⟩,hz⟩;rw[h1] at e3;cases e3;exact absurd e4 c
abbrev AnsK (Φ:Hd->Bool->Prop) (H:Mm):Value->Mm->Prop:=fun u H'=>∃ (h:Hd) (is:Bool) (e:Int),(u= .tuple #[.agg (hdC h).toArray, .bool is,Vi e]/\HdOk h/\(e=0\/(e=12\/e=2)/\h=hd0/\is=false)/\(e=0->Φ h is))/\H'=H
theorem nzx {e:Int}(h:e=12\/e=2):e≠0:=by omega
theorem ansK {f:FuncId}{args:Array Value}{Φ:Hd->Bool->Prop}{e:Int}{Ψ:Prop}(h:FSpec prog w0 f args H (AskK Φ e Ψ H))(nz:e=12\/e=2):FSpec prog w0 f args H (AnsK Φ H):=by
 intro w hO;refine(h w hO).mono ?_;rintro e w' ⟨u,H',he,hO',⟨⟨h1,is,e1,rfl,hh,hR⟩,rfl⟩⟩;rcases hR with ⟨rfl,k⟩|⟨rfl,rfl,rfl,k⟩
 ·exact⟨_,_,he,hO',h1,is,0,⟨rfl,hh, .inl U,fun _=>k⟩,rfl⟩
 ·exact⟨_,_,he,hO',_,_,_,⟨rfl,hh, .inr ⟨nz,rfl,rfl⟩,fun e9=>absurd e9 (nzx nz)⟩,rfl⟩
theorem eqBB (a c:Bool)(w:World):(Op.equal 4 (.bool a) (.bool c)).run prog w= .ok (a==c) w:=by cases a<;>cases c<;>kernel_rfl
theorem yl_eqB {w0:World}{L:Fm}{H:Mm}{ty yt:TypeId}{x y:Operand}{a c:Bool}(hx:Ev L x (.bool a))(hy:Ev L y (.bool c)):Yl prog w0 (.binOp .eql 4 x y yt) ty L H (.bool (a==c)):=Bk U fun b w=>by
 have hx':=hx b;have hy':=hy b;simp[exO,execOp,hx',hy',binOp,eqGuard,eqBB,Sem.run_bind,Result.andThen]
theorem K3 {k:Int}{b:Nat}{x y:Pom}:(mOp2 k b x y).sz=x.sz+y.sz+2:=by
 rw[Dy];show szOL [x,y]+(szPL []+1)+1=_;simp[szOL,szPL]
theorem same13_s (l m:List Hd)(q1 q2:Option Addr)(c1 c2:Nat)(hA1:HsA w0 H l q1 c1)(hA2:HsA w0 H m q2 c2)(hlen:l.length<=1000000):
  FSpec prog w0 36 #[.slice q1 l.length c1, .slice q2 m.length c2] H (Still (.bool (decide (l=m))) H):=by
 refine Am func36 U ntmps36 U (rDt 15 U ?_);refine jcd U (fun c10=> ?_) (fun c10=> ?_)
 ·skip
  refine rCt 7 U (Ai U (Ol U) ?_);exact⟨_,⟨congrArg Value.bool (decide_eq_false (fun e=>c10 (by rw[e]))).symm,rfl⟩,sbt⟩
 ·have hle:l.length=m.length:=by have h9: ¬ ¬ ((l.length:Nat):Int)=(m.length:Nat):=c10;omega
  refine rCt 9 U ?_;refine A8 (X:=Nat) (V:=fun k=>[(5,Vi (k:Nat))]) (C:=[(0,_),(1,_)]) (G:=fun k=>H) (φ:=fun k=>k<=l.length/\∀ j,j<k->gd l j=gd m j) (μ:=fun k=>l.length - k) (x0:=0) ?_ (kg U) qkg sb0 ?_
  ·exact⟨Nat.zero_le _,fun j hj=>absurd hj (Nat.not_lt_zero _)⟩
  rintro k ⟨hk,hn⟩;refine rDt 9 U ?_;refine jcd U (fun c14=> ?_) (fun c14=> ?_)
  ·have hk2:k<l.length:=Int.ofNat_lt.1 c14;refine rCt 5 U (Bf 9 (plq9 []) _ mixd qkr sb0 ?_ Bh);refine rPt 2 U (o_y U (Oo U U runUnderlying58 sizeOf32 qom (by first|exact rfl|exact hA1.1.b (i:=k) qom)) ?_ U Ad);refine o_y U (On U isAgg32 sizeOf32 (Af (hA1.ok (k:=k) qom)) (by exact((hA1.mono sbt).hd).cs (i:=k) qom)) ?_ U Ad;refine rPt 2 U (o_y U (Oo U U runUnderlying58 sizeOf32 qom (by first|exact rfl|exact hA1.1.b (i:=k) qom|exact hA2.1.b (i:=k) qom)) ?_ U Ad);refine o_y U (On U isAgg32 sizeOf32 (Af (hA2.ok (k:=k) qom)) (by exact((hA2.mono sbt).hd).cs (i:=k) qom)) ?_ U Ad;refine o_y U (yl_neqA (T U) (T U) qkr (eqHd (hA1.ok (k:=k) qom) (hA2.ok (k:=k) qom))) ?_ U Ad;refine Av U (rOt 2 U ?_);refine jcd U (fun c25=> ?_) (fun c25=> ?_)
   ·refine rCt 8 U (Bg (rXt 2 U (Ai U (Ol U) ?_)));exact⟨_,⟨congrArg Value.bool (decide_eq_false (fun e=>c25 (by rw[e]))).symm,rfl⟩,sbt⟩
   ·refine rCt 5 U (y_ (Aw (T U) Al qom) ?_ U);refine rOt 2 U ?_;refine Au (k+1) ?_ ?_ qkg (kg U) ?_
    ·refine⟨hk2,fun j hj=> ?_⟩
     by_cases e:j=k
     ·rw[e];exact Classical.not_not.1 c25
     ·exact hn j qom
    ·omega
    ·exact sbt
  ·obtain rfl:k=l.length:=by have h9: ¬ ((k:Nat):Int)<(l.length:Nat):=c14;omega
   refine rCt 2 U (An (rXt 8 U (Ai U (Ol U) ?_)));exact⟨_,⟨congrArg Value.bool (decide_eq_true (eq_of_gd hle hn)).symm,rfl⟩,sbt⟩
def HoldP (k:Nat) (x y:List Hd):Prop:=if k=1 then x=y else if k=2 then ∀ g∈y,g∈x else if k=3 then x=[] else if k=4 then x≠[] else if k=5 then x.length<=1 else x=[]\/y=[]
theorem hold_ask {t:Int}{k:Nat}{p q:Po}{h:Hd}{x y:List Hd}(hx:x.Pairwise hLt)(hy:y.Pairwise hLt)(mx:∀ g,g∈x↔den t p h g)(my:∀ g,g∈y↔den t q h g):HoldP k x y↔AskP t k p q h:=by
 have nil:∀ {z:List Hd} {r:Po},(∀ g,g∈z↔den t r h g)->(z=[]↔∀ g,¬ den t r h g):=fun {z r} m=>by
  rw[List.eq_nil_iff_forall_not_mem];exact⟨fun a g d=>a g ((m g).2 d),fun a g d=>a g ((m g).1 d)⟩
 unfold HoldP AskP
 split
 ·constructor
  ·rintro rfl g;rw[<- mx,my]
  ·intro a;exact sorted_eq hx hy fun g=>by rw[mx,my];exact a g
 split
 ·exact⟨fun a g d=>(mx g).1 (a g ((my g).2 d)),fun a g d=>(mx g).2 (a g ((my g).1 d))⟩
 split
 ·exact nil mx
 split
 ·rw[Ne,nil mx];exact⟨fun a=>Classical.byContradiction fun c=>a fun g d=>c ⟨g,d⟩,fun ⟨g,d⟩ a=>a g d⟩
 split
 ·constructor
  ·intro a g g' d d'
   match x,a,(mx g).2 d,(mx g').2 d' with
   |[z],_,e1,e2=>rw[List.mem_singleton.1 e1,List.mem_singleton.1 e2]
   |[],_,e1,_=>simp at e1
   |_::_::_,a,_,_=>simp at a
  ·intro a
   match x,hx,mx with
   |[],_,_=>simp
   |[z],_,_=>simp
   |z::w::r,hx,mx=>
    exfalso;have e:=a z w ((mx z).1 (by simp)) ((mx w).1 (by simp));have l:=(List.pairwise_cons.1 hx).1 w (by simp);rw[e] at l;exact l.irr
 ·rw[nil mx,nil my]
section
variable {k:Nat} {x y l:List Hd}
theorem len0 {α:Type}{x:List α}:((x.length:Nat):Int)=0↔x=[]:=by rw[<- List.length_eq_zero_iff];omega
theorem hold2 (hx:x.Pairwise hLt)(hl:l.Pairwise hLt)(hm:∀ g,g∈l↔g∈x\/g∈y):l=x↔HoldP 2 x y:=by
 show l=x↔∀ g∈y,g∈x
 constructor
 ·rintro rfl g hg;exact(hm g).2 (.inr hg)
 ·intro a;exact sorted_eq hl hx fun g=>by rw[hm];exact⟨fun h=>h.elim id (a g), .inl⟩
theorem hold3:((x.length:Nat):Int)=0↔HoldP 3 x y:=len0
theorem hold4:((x.length:Nat):Int)>0↔HoldP 4 x y:=by
 show _↔x≠[];rw[Ne,<- len0];omega
theorem hold5:((x.length:Nat):Int)<=1↔HoldP 5 x y:=by
 show _↔x.length<=1;omega
theorem hold6 (n1: ¬ k=1)(n2: ¬ k=2)(n3: ¬ k=3)(n4: ¬ k=4)(n5: ¬ k=5):HoldP k x y↔x=[]\/y=[]:=by unfold HoldP;rw[if_neg n1,if_neg n2,if_neg n3,if_neg n4,if_neg n5]
theorem hold7 (n1: ¬ k=1)(n2: ¬ k=2)(n3: ¬ k=3)(n4: ¬ k=4)(n5: ¬ k=5)(n: ¬ ((x.length:Nat):Int)=0):y=[]↔HoldP k x y:=by
 rw[hold6 n1 n2 n3 n4 n5];exact⟨.inr,fun h=>h.resolve_left fun e=>n (len0.2 e)⟩
end
theorem rholds0_s (k:Nat)(x y:List Hd)(q1 q2:Option Addr)(c1 c2:Nat)(hA1:HsA w0 H x q1 c1)(hA2:HsA w0 H y q2 c2)(hx:x.Pairwise hLt)(hy:y.Pairwise hLt)(hlx:x.length<=256)(hly:y.length<=256):
  FSpec prog w0 52 #[Vi (k:Nat), .slice q1 x.length c1, .slice q2 y.length c2] H (fun u H'=>∃ b:Bool,(u= .bool b/\(b=true↔HoldP k x y))/\H'=H):=by
 refine Am func52 U ntmps52 U (rDt 18 U ?_);refine jcd U (fun c8=> ?_) (fun c8=> ?_)
 ·obtain rfl:k=1:=by have h9:((k:Nat):Int)=1:=c8;omega
  refine rCt 4 U (y_ (Ao (evq2 U U) call36 (fun H' hs=>same13_s x y q1 q2 c1 c2 (hA1.mono hs) (hA2.mono hs) qom)) ?_ U);refine rOt 6 U (Ai U (Ol U) ?_);exact⟨_,⟨_,⟨rfl,decide_eq_true_iff⟩,rfl⟩,sbt⟩
 ·have n1: ¬ k=1:=by have h9: ¬ ((k:Nat):Int)=1:=c8;omega
  refine rCt 6 U ?_;refine jcd U (fun c13=> ?_) (fun c13=> ?_)
  ·obtain rfl:k=2:=by have h9:((k:Nat):Int)=2:=c13;omega
   refine rCt 4 U (e_ (Ah (evq2 U U) call37 (J8 x y q1 q2 c1 c2 hA1 hx hA2 qom qom)) ?_ U);rintro _ M5 ⟨l5,q5,c5,rfl,hA5,hu5,⟨hm5,hn5⟩,hM5⟩;refine rOt 1 U (e_ (Ah (evq2 U U) call36 (same13_s l5 x q5 q1 c5 c1 hA5 (hA1.mono hM5) qom)) ?_ U);rintro _ _ ⟨rfl,rfl⟩;refine rOt 6 U (Ai U (Ol U) ?_)
   first|exact⟨_,⟨_,⟨rfl,decide_eq_true_iff⟩,rfl⟩,sbt⟩|exact⟨_,⟨_,⟨rfl,decide_eq_true_iff.trans (hold2 hx hu5 hm5)⟩,rfl⟩,hM5⟩
  ·have n2: ¬ k=2:=by have h9: ¬ ((k:Nat):Int)=2:=c13;omega
   refine rCt 6 U ?_;refine jcd U (fun c20=> ?_) (fun c20=> ?_)
   ·obtain rfl:k=3:=by have h9:((k:Nat):Int)=3:=c20;omega
    refine rCt 11 U (Ai U (Ol U) ?_)
    first|exact⟨_,⟨_,⟨rfl,decide_eq_true_iff⟩,rfl⟩,sbt⟩|exact⟨_,⟨_,⟨rfl,decide_eq_true_iff.trans (hold2 hx hu5 hm5)⟩,rfl⟩,hM5⟩|exact⟨_,⟨_,⟨rfl,decide_eq_true_iff.trans hold3⟩,rfl⟩,sbt⟩
   ·have n3: ¬ k=3:=by have h9: ¬ ((k:Nat):Int)=3:=c20;omega
    refine rCt 6 U ?_;refine jcd U (fun c25=> ?_) (fun c25=> ?_)
    ·obtain rfl:k=4:=by have h9:((k:Nat):Int)=4:=c25;omega
     refine rCt 11 U (Ai U (Ol U) ?_)
     first|exact⟨_,⟨_,⟨rfl,decide_eq_true_iff⟩,rfl⟩,sbt⟩|exact⟨_,⟨_,⟨rfl,decide_eq_true_iff.trans (hold2 hx hu5 hm5)⟩,rfl⟩,hM5⟩|exact⟨_,⟨_,⟨rfl,decide_eq_true_iff.trans hold3⟩,rfl⟩,sbt⟩|exact⟨_,⟨_,⟨rfl,decide_eq_true_iff.trans hold4⟩,rfl⟩,sbt⟩
    ·have n4: ¬ k=4:=by have h9: ¬ ((k:Nat):Int)=4:=c25;omega
     refine rCt 6 U ?_;refine jcd U (fun c30=> ?_) (fun c30=> ?_)
     ·obtain rfl:k=5:=by have h9:((k:Nat):Int)=5:=c30;omega
      refine rCt 11 U (Ai U (Ol U) ?_)
      first|exact⟨_,⟨_,⟨rfl,decide_eq_true_iff⟩,rfl⟩,sbt⟩|exact⟨_,⟨_,⟨rfl,decide_eq_true_iff.trans (hold2 hx hu5 hm5)⟩,rfl⟩,hM5⟩|exact⟨_,⟨_,⟨rfl,decide_eq_true_iff.trans hold3⟩,rfl⟩,sbt⟩|exact⟨_,⟨_,⟨rfl,decide_eq_true_iff.trans hold4⟩,rfl⟩,sbt⟩|exact⟨_,⟨_,⟨rfl,decide_eq_true_iff.trans hold5⟩,rfl⟩,sbt⟩
     ·have n5: ¬ k=5:=by have h9: ¬ ((k:Nat):Int)=5:=c30;omega
      refine rCt 9 U ?_;refine Aq (s:=38) (Aa U) (fun c38=> ?_) (fun c38=> ?_)
      ·refine rOt 8 U (Ai U (Ol U) ?_)
       first|exact⟨_,⟨_,⟨rfl,decide_eq_true_iff⟩,rfl⟩,sbt⟩|exact⟨_,⟨_,⟨rfl,decide_eq_true_iff.trans (hold2 hx hu5 hm5)⟩,rfl⟩,hM5⟩|exact⟨_,⟨_,⟨rfl,decide_eq_true_iff.trans hold3⟩,rfl⟩,sbt⟩|exact⟨_,⟨_,⟨rfl,decide_eq_true_iff.trans hold4⟩,rfl⟩,sbt⟩|exact⟨_,⟨_,⟨rfl,decide_eq_true_iff.trans hold5⟩,rfl⟩,sbt⟩|exact⟨_,⟨_,⟨rfl,⟨fun _=>(hold6 n1 n2 n3 n4 n5).2 (.inl (len0.1 (by assumption))),fun _=>rfl⟩⟩,rfl⟩,sbt⟩
      ·refine rOt 8 U (Ai U (Ol U) ?_)
       first|exact⟨_,⟨_,⟨rfl,decide_eq_true_iff⟩,rfl⟩,sbt⟩|exact⟨_,⟨_,⟨rfl,decide_eq_true_iff.trans (hold2 hx hu5 hm5)⟩,rfl⟩,hM5⟩|exact⟨_,⟨_,⟨rfl,decide_eq_true_iff.trans hold3⟩,rfl⟩,sbt⟩|exact⟨_,⟨_,⟨rfl,decide_eq_true_iff.trans hold4⟩,rfl⟩,sbt⟩|exact⟨_,⟨_,⟨rfl,decide_eq_true_iff.trans hold5⟩,rfl⟩,sbt⟩|exact⟨_,⟨_,⟨rfl,⟨fun _=>(hold6 n1 n2 n3 n4 n5).2 (.inl (len0.1 (by assumption))),fun _=>rfl⟩⟩,rfl⟩,sbt⟩|exact⟨_,⟨_,⟨rfl,decide_eq_true_iff.trans (len0.trans (hold7 n1 n2 n3 n4 n5 (by assumption)))⟩,rfl⟩,sbt⟩
theorem Ni {fl:List Fd}{nm:ByteArray}(h:(fndFd fl nm).2=true):(fndFd fl nm).1.nm=nm:=by
 unfold fndFd at *
 split
 ·rename_i h1;exact h1.symm
 ·rename_i h1;rw[if_neg h1] at h;cases h2:idxF nm fl 0 with
  |none=>rw[h2] at h;cases h
  |some i=>
   simp only[];have key:∀ {l:List Fd} {k i:Nat},idxF nm l k=some i->(gd l (i - k)).nm=nm:=by
    intro l
    induction l with
    |nil=>intro k i h;cases h
    |cons f l ih=>
     intro k i h;rw[idxF] at h
     split at h
     ·rename_i e;obtain rfl:=Option.some.inj h;rw[Nat.sub_self];exact e
     ·have h3:=Lg h;have h4:=ih h;rw[show i - k=i - (k+1)+1 by omega];exact h4
   have:=key h2
   simpa using this
def ownP (f:Fd) (m:Pdm):List Int:=
  if m.nm=f.nm then
    (if m.kind=3 then [m.val,m.val+1] else if m.kind=5 then [m.val,m.to+1]
     else if m.kind=4 then [m.val - m.val % ((2 ^ (f.w - m.to.toNat):Nat):Int),m.val - m.val % ((2 ^ (f.w - m.to.toNat):Nat):Int)+((2 ^ (f.w - m.to.toNat):Nat):Int)] else [])
  else []
mutual
def cutP (f:Fd):Pdm->List Int
 | .mk k s v t q c xs=>cutPL f xs++ownP f (.mk k s v t q c xs)
def cutPL (f:Fd):List Pdm->List Int
 |[]=>[]
 |x::l=>cutP f x++cutPL f l
end
theorem cutP_eq (f:Fd)(m:Pdm):cutP f m=cutPL f m.subs++ownP f m:=by cases m;rw[cutP];rfl
theorem cutPL_app (f:Fd):∀ a b:List Pdm,cutPL f (a++b)=cutPL f a++cutPL f b
 |[],b=>by simp[cutPL]
 |x::a,b=>by rw[List.cons_append,cutPL,cutPL,cutPL_app f a b,List.append_assoc]
theorem cutPL_take (f:Fd){l:List Pdm}{i:Nat}(hi:i<l.length):cutPL f (l.take (i+1))=cutPL f (l.take i)++cutP f (gd l i):=by
 rw[List.take_succ_eq_append_getElem hi,cutPL_app,<- Ar hi];simp[cutPL]
theorem cutPL_mem {f:Fd}{c:Int}:∀ {l:List Pdm} {a:Pdm},a∈l->c∈cutP f a->c∈cutPL f l
 |[],a,h,_=>by cases h
 |x::l,a,h,hc=>by
  rw[cutPL,List.mem_append];rcases List.mem_cons.1 h with rfl|h
  ·exact .inl hc
  ·exact .inr (cutPL_mem h hc)
theorem ownP_len (f:Fd)(m:Pdm):(ownP f m).length<=2:=by
 unfold ownP
 repeat' split
 all_goals simp
mutual
theorem Kj (f:Fd):∀ m:Pdm,(cutP f m).length<=2*m.sz
 | .mk k s v t q c xs=>by
  have h1:=cutPL_len f xs;have h2:=ownP_len f (.mk k s v t q c xs);rw[cutP,List.length_append,Pdm.sz];omega
theorem cutPL_len (f:Fd):∀ l:List Pdm,(cutPL f l).length<=2*szPL l
 |[]=>Nat.le_refl _
 |x::l=>by
  have h1:=Kj f x;have h2:=cutPL_len f l;rw[cutPL,List.length_append,szPL];omega
end
def ownO (f:Fd) (m:Pom):List Int:=(if m.kind=1 then cutP f m.pr else [])++(if m.kind=2/\m.nm=f.nm then [m.n,m.n+1] else [])
mutual
def cutO (f:Fd):Pom->List Int
 | .mk k p s n q c xs=>cutOL f xs++ownO f (.mk k p s n q c xs)
def cutOL (f:Fd):List Pom->List Int
 |[]=>[]
 |x::l=>cutO f x++cutOL f l
end
theorem cutO_eq (f:Fd)(m:Pom):cutO f m=cutOL f m.subs++ownO f m:=by cases m;rw[cutO];rfl
theorem cutOL_app (f:Fd):∀ a b:List Pom,cutOL f (a++b)=cutOL f a++cutOL f b
 |[],b=>by simp[cutOL]
 |x::a,b=>by rw[List.cons_append,cutOL,cutOL,cutOL_app f a b,List.append_assoc]
theorem cutOL_take (f:Fd){l:List Pom}{i:Nat}(hi:i<l.length):cutOL f (l.take (i+1))=cutOL f (l.take i)++cutO f (gd l i):=by
 rw[List.take_succ_eq_append_getElem hi,cutOL_app,<- Ar hi];simp[cutOL]
theorem cutOL_mem {f:Fd}{c:Int}:∀ {l:List Pom} {a:Pom},a∈l->c∈cutO f a->c∈cutOL f l
 |[],a,h,_=>by cases h
 |x::l,a,h,hc=>by
  rw[cutOL,List.mem_append];rcases List.mem_cons.1 h with rfl|h
  ·exact .inl hc
  ·exact .inr (cutOL_mem h hc)
mutual
theorem Kk (f:Fd):∀ m:Pom,(cutO f m).length<=2*m.sz
 | .mk k p s n q c xs=>by
  have h1:=cutOL_len f xs;have h2:=Kj f p;rw[cutO,List.length_append,Pom.sz];unfold ownO;show (cutOL f xs).length+((if k=1 then cutP f p else [])++(if k=2/\s=f.nm then [n,n+1] else [])).length<=_;rw[List.length_append]
  by_cases e:k=1
  ·rw[if_pos e,if_neg qom];simp;omega
  ·rw[if_neg e]
   split
   ·simp;omega
   ·simp;omega
theorem cutOL_len (f:Fd):∀ l:List Pom,(cutOL f l).length<=2*szOL l
 |[]=>Nat.le_refl _
 |x::l=>by
  have h1:=Kk f x;have h2:=cutOL_len f l;rw[cutOL,List.length_append,szOL];omega
end
def CtP (m:Pdm):Prop:=((m.kind=3\/m.kind=4\/m.kind=5)->0<=m.val/\m.val<=65535)/\((m.kind=4\/m.kind=5)->0<=m.to/\m.to<=65535)
def CtO (m:Pom):Prop:=(m.kind=1->∀ a∈prtP m.pr,CtP a)/\(m.kind=2->0<=m.n/\m.n<=65535)
theorem pow_65 {w:Nat}(h:w<=16):(2:Int) ^ w<=65536:=by
 have h1:2 ^ w<=2 ^ 16:=Nat.pow_le_pow_right qde h;have h2:((2 ^ w:Nat):Int)=(2:Int) ^ w:=by simp
 have h3:(2:Nat) ^ 16=65536:=by decide
 omega
theorem ct_fm {fl:List Fd}(hfl:FlOk fl){m:Pdm}(h:FmP m)(hf:FitP fl m):CtP m:=by
 have hw:(fndFd fl m.nm).2=true->(2:Int) ^ (fndFd fl m.nm).1.w<=65536:=fun e=>pow_65 (hfl.all _ (Da e)).w16
 have hw2:(fndFd fl m.nm).2=true->(fndFd fl m.nm).1.w<=16:=fun e=>(hfl.all _ (Da e)).w16
 obtain⟨hl,_⟩:=h;refine⟨fun e=> ?_,fun e=> ?_⟩
 ·rcases e with e|e|e
  ·obtain⟨e1,e2,_⟩:=hf.1 (.inl e);have:=hw e1;rcases hl with ⟨_,h|h|h|h|h|h⟩|⟨_,h⟩|⟨_,h⟩<;>omega
  ·obtain⟨e1,e2,_⟩:=hf.1 (.inr e);have:=hw e1;rcases hl with ⟨_,h|h|h|h|h|h⟩|⟨_,h⟩|⟨_,h⟩<;>omega
  ·obtain⟨e1,e2⟩:=hf.2 e;have:=hw e1;rcases hl with ⟨_,h|h|h|h|h|h⟩|⟨_,h⟩|⟨_,h⟩<;>omega
 ·rcases e with e|e
  ·obtain⟨e1,e2,e3⟩:=hf.1 (.inr e);have:=hw2 e1;have:=e3 e;rcases hl with ⟨_,h|h|h|h|h|h⟩|⟨_,h⟩|⟨_,h⟩<;>omega
  ·obtain⟨e1,e2⟩:=hf.2 e;have:=hw e1;rcases hl with ⟨_,h|h|h|h|h|h⟩|⟨_,h⟩|⟨_,h⟩<;>omega
theorem fm_parts {m:Pdm}(h:FmP m):∀ a∈prtP m,FmP a:=by
 induction h with
 | @mk m hl hs ih=>
  intro a ha;rw[Dx] at ha;rcases List.mem_cons.1 ha with rfl|ha
  ·exact .mk hl hs
  ·have key:∀ {l:List Pdm},(∀ x∈l,∀ a∈prtP x,FmP a)->∀ a∈prtPL l,FmP a:=by
    intro l
    induction l with
    |nil=>intro _ a ha;cases ha
    |cons x l ih2=>
     intro h a ha;rw[prtPL] at ha;rcases List.mem_append.1 ha with ha|ha
     ·exact h x (by simp) a ha
     ·exact ih2 (fun y hy=>h y (by simp[hy])) a ha
   exact key ih a ha
theorem fmO_parts {m:Pom}(h:FmO m):∀ a∈prtO m,FmO a:=by
 induction h with
 | @mk m hl hs ih=>
  intro a ha;rw[De] at ha;rcases List.mem_cons.1 ha with rfl|ha
  ·exact .mk hl hs
  ·have key:∀ {l:List Pom},(∀ x∈l,∀ a∈prtO x,FmO a)->∀ a∈prtOL l,FmO a:=by
    intro l
    induction l with
    |nil=>intro _ a ha;cases ha
    |cons x l ih2=>
     intro h a ha;rw[prtOL] at ha;rcases List.mem_append.1 ha with ha|ha
     ·exact h x (by simp) a ha
     ·exact ih2 (fun y hy=>h y (by simp[hy])) a ha
   exact key ih a ha
theorem ct_fmO {fl:List Fd}(hfl:FlOk fl){m:Pom}(h:FmO m)(hf:∀ a∈prtO m,FitO fl a):∀ a∈prtO m,CtO a:=fun a ha=>by
 have h1:=fmO_parts h a ha;have h2:=hf a ha;obtain⟨hl,_⟩:=h1;refine⟨fun e b hb=> ?_,fun e=> ?_⟩
 ·have hp:FmP a.pr:=by rcases hl with ⟨_,⟨_,h⟩|h⟩|⟨_,h⟩|⟨_,h⟩<;>first|exact h|(exfalso;omega)
  exact ct_fm hfl (fm_parts hp b hb) (h2.1 e b hb)
 ·obtain⟨e1,e2⟩:=h2.2 e;have:=pow_65 (hfl.all _ (Da e1)).w16;rcases hl with ⟨_,h|h⟩|⟨_,h⟩|⟨_,h⟩<;>omega
theorem G5 {m a:Pdm}(ha:a∈m.subs):∀ b∈prtP a,b∈prtP m:=fun b hb=>by
 rw[Dx];refine List.mem_cons_of_mem _ ?_
 generalize m.subs=l at ha
 induction l with
 |nil=>cases ha
 |cons x l ih=>
  rw[prtPL];rcases List.mem_cons.1 ha with rfl|ha
  ·exact List.mem_append.2 (.inl hb)
  ·exact List.mem_append.2 (.inr (ih ha))
theorem G6 {m a:Pom}(ha:a∈m.subs):∀ b∈prtO a,b∈prtO m:=fun b hb=>by
 rw[De];refine List.mem_cons_of_mem _ ?_
 generalize m.subs=l at ha
 induction l with
 |nil=>cases ha
 |cons x l ih=>
  rw[prtOL];rcases List.mem_cons.1 ha with rfl|ha
  ·exact List.mem_append.2 (.inl hb)
  ·exact List.mem_append.2 (.inr (ih ha))
theorem G7 (m:Pdm):m∈prtP m:=by rw[Dx];simp
theorem I6 (m:Pom):m∈prtO m:=by rw[De];simp
theorem cast_pre {n d c:Nat}(h:c=n - n % d\/c=n - n % d+d):(c:Int)∈[(n:Int) - (n:Int) % (d:Int),(n:Int) - (n:Int) % (d:Int)+(d:Int)]:=by
 have e:(n:Int) % (d:Int)=((n % d:Nat):Int):=by simp
 have h2:=Nat.mod_le n d;rw[e];simp only[List.mem_cons,List.not_mem_nil,or_false];rcases h with rfl|rfl
 ·left;omega
 ·right;omega
theorem cut_isP {fl:List Fd}{g:Fd}{c:Nat}{m:Pdm}{p:Pd}(h:IsP fl m p):(∀ a∈prtP m,FitP fl a)->p.cut g c->g∈portFd::fl/\(c:Int)∈cutP g m:=by
 have hown:∀ {m:Pdm},(c:Int)∈ownP g m->(c:Int)∈cutP g m:=fun h=>by rw[cutP_eq];exact List.mem_append.2 (.inr h)
 have hsub:∀ {m a:Pdm},a∈m.subs->(c:Int)∈cutP g a->(c:Int)∈cutP g m:=fun h1 h2=>by rw[cutP_eq];exact List.mem_append.2 (.inl (cutPL_mem h1 h2))
 induction h with
 |tru _=>intro _ h;exact h.elim
 |fls _=>intro _ h;exact h.elim
 | @eq m n h1 h2=>
  rintro hf ⟨rfl,h⟩;obtain⟨e1,_,_⟩:=(hf m (G7 m)).1 (.inl h1);refine⟨Da e1,hown ?_⟩;unfold ownP;rw[if_pos (Ni e1).symm,if_pos h1,h2];simp;omega
 | @pre m n k h1 h2 h3=>
  rintro hf ⟨rfl,h⟩;obtain⟨e1,_,_⟩:=(hf m (G7 m)).1 (.inr h1);refine⟨Da e1,hown ?_⟩;unfold ownP;rw[if_pos (Ni e1).symm,if_neg qom,if_neg qom,if_pos h1,h2,h3,Int.toNat_natCast];exact cast_pre h
 | @rng m n k h1 h2 h3=>
  rintro hf ⟨rfl,h⟩;obtain⟨e1,_⟩:=(hf m (G7 m)).2 h1;refine⟨Da e1,hown ?_⟩;unfold ownP;rw[if_pos (Ni e1).symm,if_neg qom,if_pos h1,h2,h3];simp;omega
 | @no m a p h1 h2 _ ih=>
  intro hf h;have ha:a∈m.subs:=by rw[h2];simp
  obtain⟨e1,e2⟩:=ih (fun b hb=>hf b (G5 ha b hb)) h;exact⟨e1,hsub ha e2⟩
 | @and m a b p q h1 h2 _ _ ih1 ih2=>
  intro hf h;have ha:a∈m.subs:=by rw[h2];simp
  have hb:b∈m.subs:=by rw[h2];simp
  rcases h with h|h
  ·obtain⟨e1,e2⟩:=ih1 (fun b hb=>hf b (G5 ha b hb)) h;exact⟨e1,hsub ha e2⟩
  ·obtain⟨e1,e2⟩:=ih2 (fun x hx=>hf x (G5 hb x hx)) h;exact⟨e1,hsub hb e2⟩
 | @or m a b p q h1 h2 _ _ ih1 ih2=>
  intro hf h;have ha:a∈m.subs:=by rw[h2];simp
  have hb:b∈m.subs:=by rw[h2];simp
  rcases h with h|h
  ·obtain⟨e1,e2⟩:=ih1 (fun b hb=>hf b (G5 ha b hb)) h;exact⟨e1,hsub ha e2⟩
  ·obtain⟨e1,e2⟩:=ih2 (fun x hx=>hf x (G5 hb x hx)) h;exact⟨e1,hsub hb e2⟩
 |tim _ _ _=>intro _ h;exact h.elim
theorem cut_isO {fl:List Fd}{g:Fd}{c:Nat}{m:Pom}{p:Po}(h:IsO fl m p):(∀ a∈prtO m,FitO fl a)->p.cut g c->g∈portFd::fl/\(c:Int)∈cutO g m:=by
 have hown:∀ {m:Pom},(c:Int)∈ownO g m->(c:Int)∈cutO g m:=fun h=>by rw[cutO_eq];exact List.mem_append.2 (.inr h)
 have hsub:∀ {m a:Pom},a∈m.subs->(c:Int)∈cutO g a->(c:Int)∈cutO g m:=fun h1 h2=>by rw[cutO_eq];exact List.mem_append.2 (.inl (cutOL_mem h1 h2))
 induction h with
 | @fil m p h1 h2=>
  intro hf h;obtain⟨e1,e2⟩:=cut_isP h2 ((hf m (I6 m)).1 h1) h;refine⟨e1,hown ?_⟩;unfold ownO;rw[if_pos h1];exact List.mem_append.2 (.inl e2)
 | @set m n h1 h2=>
  rintro hf ⟨rfl,h⟩;obtain⟨e1,_⟩:=(hf m (I6 m)).2 h1;refine⟨Da e1,hown ?_⟩;unfold ownO;rw[if_pos (show m.kind=2/\_ from ⟨h1,(Ni e1).symm⟩),h2];exact List.mem_append.2 (.inr (by simp;omega))
 | @uni m a b p q h1 h2 _ _ ih1 ih2=>
  intro hf h;have ha:a∈m.subs:=by rw[h2];simp
  have hb:b∈m.subs:=by rw[h2];simp
  rcases h with h|h
  ·obtain⟨e1,e2⟩:=ih1 (fun x hx=>hf x (G6 ha x hx)) h;exact⟨e1,hsub ha e2⟩
  ·obtain⟨e1,e2⟩:=ih2 (fun x hx=>hf x (G6 hb x hx)) h;exact⟨e1,hsub hb e2⟩
 | @seq m a b p q h1 h2 _ _ ih1 ih2=>
  intro hf h;have ha:a∈m.subs:=by rw[h2];simp
  have hb:b∈m.subs:=by rw[h2];simp
  rcases h with h|h
  ·obtain⟨e1,e2⟩:=ih1 (fun x hx=>hf x (G6 ha x hx)) h;exact⟨e1,hsub ha e2⟩
  ·obtain⟨e1,e2⟩:=ih2 (fun x hx=>hf x (G6 hb x hx)) h;exact⟨e1,hsub hb e2⟩
 | @star m a p h1 h2 _ ih=>
  intro hf h;have ha:a∈m.subs:=by rw[h2];simp
  obtain⟨e1,e2⟩:=ih (fun x hx=>hf x (G6 ha x hx)) h;exact⟨e1,hsub ha e2⟩
def rawL (ms:List Pom) (f:Fd):List Int:=ms.flatMap (cutO f)
def cutsL (ms:List Pom) (f:Fd):List Nat:=(List.range (2 ^ f.w)).filter fun c=>decide (c=0\/(c:Int)∈rawL ms f)
theorem cutsL_mem {ms:List Pom}{f:Fd}{c:Nat}:c∈cutsL ms f↔c<2 ^ f.w/\(c=0\/(c:Int)∈rawL ms f):=by
 unfold cutsL;rw[List.mem_filter,List.mem_range,decide_eq_true_iff]
theorem cutsL_up (ms:List Pom)(f:Fd):(cutsL ms f).Pairwise (· < ·):=List.Pairwise.filter _ List.pairwise_lt_range
theorem cutsL_ok (F:List Fd)(ms:List Pom):CutsOk F (fun f c=>(c:Int)∈rawL ms f) (cutsL ms):=by
 refine⟨fun f _=>cutsL_mem.2 ⟨Nat.two_pow_pos _, .inl U⟩,fun f _ c hc=> ?_,fun f _=>cutsL_up ms f,fun f _ c hc=>(cutsL_mem.1 hc).1⟩;rw[cutsL_mem];exact⟨fun h=>h.2,fun h=>⟨hc,h⟩⟩
theorem Ln {fl:List Fd}(ms:List Pom){m:Pom}{p:Po}(hm:m∈ms)(hI:IsO fl m p)(hF:p.Fit (bsF fl))(hf:∀ a∈prtO m,FitO fl a):CutIn (portFd::fl) (fun f c=>(c:Int)∈rawL ms f) (bsF fl) p:=
 ⟨fun f c h=>⟨(cut_isO hI hf h).1,List.mem_flatMap.2 ⟨m,hm,(cut_isO hI hf h).2⟩⟩,hF⟩
theorem Ma {fl:List Fd}(h:FlOk fl):FsL (portFd::fl):=⟨h.all,h.pw⟩
theorem up_eq:∀ {a b:List Int},a.Pairwise (· < ·)->b.Pairwise (· < ·)->(∀ x,x∈a↔x∈b)->a=b
 |[],[],_,_,_=>rfl
 |[],y::b,_,_,h=>by have:=(h y).2 (by simp);simp at this
 |x::a,[],_,_,h=>by have:=(h x).1 (by simp);simp at this
 |x::a,y::b,ha,hb,h=>by
  obtain⟨a1,a2⟩:=List.pairwise_cons.1 ha;obtain⟨b1,b2⟩:=List.pairwise_cons.1 hb;have e:x=y:=by
   rcases List.mem_cons.1 ((h x).1 (by simp)) with e|e
   ·exact e
   rcases List.mem_cons.1 ((h y).2 (by simp)) with f|f
   ·exact f.symm
   have:=b1 x e;have:=a1 y f;omega
  subst e;rw[up_eq a2 b2 fun z=> ?_];have hz:=h z;simp only[List.mem_cons] at hz
  constructor
  ·intro k;rcases hz.1 (.inr k) with e|e
   ·have:=a1 z k;omega
   ·exact e
  ·intro k;rcases hz.2 (.inr k) with e|e
   ·have:=b1 z k;omega
   ·exact e
section
variable {P:Hd->Prop} {l:List Hd} {h x:Hd} {is:Bool}
theorem lsf_nil:LeastOf P [] hd0 true:= .inl ⟨rfl,rfl,fun x hx=>by cases hx⟩
theorem lsf_yes (a:LeastOf P l h is)(hx:P x):LeastOf P (l++[x]) h is:=by
 rcases a with ⟨a,b,c⟩|⟨a,b,c,d⟩
 ·refine .inl ⟨a,b,fun y hy=> ?_⟩;rcases List.mem_append.1 hy with hy|hy
  ·exact c y hy
  ·rw[List.mem_singleton.1 hy];exact hx
 ·refine .inr ⟨a,List.mem_append.2 (.inl b),c,fun y hy hl=> ?_⟩;rcases List.mem_append.1 hy with hy|hy
  ·exact d y hy hl
  ·rw[List.mem_singleton.1 hy];exact hx
theorem lsf_no (ok:∀ y∈l,HdOk y)(ox:HdOk x)(a:LeastOf P l h is)(hx: ¬ P x):LeastOf P (l++[x]) (lesH h is x) (lesI h is x):=by
 rcases a with ⟨rfl,rfl,c⟩|⟨rfl,b,c,d⟩
 ·refine .inr ⟨rfl,by simp[lesH,lesB],by simpa[lesH,lesB] using hx,fun y hy hl=> ?_⟩;rcases List.mem_append.1 hy with hy|hy
  ·exact c y hy
  ·rw[List.mem_singleton.1 hy] at hl;simp[lesH,lesB] at hl;exact absurd hl (fun k=>k.irr)
 ·have oh:=ok h b
  by_cases e:cmpL x h<0
  ·have hl:=(Ex ox oh).1 e;have e1:lesB h false x=true:=by simp[lesB,e]
   rw[show lesH h false x=x from if_pos e1,show lesI h false x=false from if_pos e1];refine .inr ⟨rfl,by simp,hx,fun y hy k=> ?_⟩;rcases List.mem_append.1 hy with hy|hy
   ·exact d y hy (k.trans hl)
   ·rw[List.mem_singleton.1 hy] at k;exact absurd k (fun k=>k.irr)
  ·have e1: ¬ lesB h false x=true:=by simp[lesB,e]
   rw[show lesH h false x=h from if_neg e1,show lesI h false x=false from if_neg e1];refine .inr ⟨rfl,List.mem_append.2 (.inl b),c,fun y hy k=> ?_⟩;rcases List.mem_append.1 hy with hy|hy
   ·exact d y hy k
   ·rw[List.mem_singleton.1 hy] at k;exact absurd ((Ex ox oh).2 k) e
end
instance:Inhabited Po:=⟨.fil .tru⟩
theorem Ei {α:Type}{enc:α->List Value}{sz:Nat}{w0:World}{H:Mm}{n:Nat}{t:TypeId}{l:List α}(he:∀ a,(enc a).length=sz)(hf:Fnd H n (Cl (l.flatMap enc) t)):Arr w0 H (some ⟨n,0,none⟩) sz enc l:=by
 have h:Arr w0 (slH (.blk n l.length []) (l.flatMap enc) t++[]) (slQ (.blk n l.length [])) sz enc l:=B3 (w0:=w0) (e:=t) (X:=[]) (enc:=enc) (l:=l) (d:= .blk n l.length []) he ⟨Nat.le_refl _,(by simp)⟩;have e:slH (.blk n l.length []) (l.flatMap enc) t++[]=[(n,Cl (l.flatMap enc) t)]:=by simp[slH]
 rw[e] at h;exact h.mono (List.singleton_sublist.2 hf)
theorem pos9 (m:Pom):(encPo m).length=9:=by cases m with|mk k p=>rfl
theorem Fe {a0 a1:Int}(w:World):(Instr.buildSlice 109 2 #[(0,Vi a0),(1,Vi a1)]).run prog w= .ok (.slice (some ⟨w.heap.size,0,none⟩) 2 2) (w.alloc (Cl [Vi a0,Vi a1] 3)):=by kernel_rfl
abbrev IntsK (l:List Int) (H:Mm):Value->Mm->Prop:=fun u H'=>∃ d:Sl,(u=slV d l.length/\SlOk d l.length 1)/\H'=slH d (l.flatMap encI) 3++H
def CpS (w0:World) (f:Fd) (N:Nat):Prop:=∀ {H:Mm} {m:Pdm},PdM w0 H m->(∀ a∈prtP m,CtP a)->m.sz<=N->FSpec prog w0 172 #[.agg (encPd m).toArray, .agg (encF f).toArray] H (IntsK (cutP f m) H)
theorem emod_le {a:Int}(h:0<=a)(d:Nat):a % (d:Int)<=a:=by
 obtain⟨n,rfl⟩:=Int.eq_ofNat_of_zero_le h;have h2:((n % d:Nat):Int)<=(n:Nat):=Int.ofNat_le.2 (Nat.mod_le n d)
 simpa using h2
theorem Kl {l l':List Int}{H H2:Mm}{d:Sl}(e:l'=l)(hd:SlOk d l.length 1)(hs:(slH d (l.flatMap encI) 3++H).Sublist H2):∃ H9,IntsK l' H (slV d l.length) H9/\H9.Sublist H2:=by
 subst e;exact⟨_,⟨d,⟨rfl,hd⟩,rfl⟩,hs⟩
theorem Km {l l' l2:List Int}{H H2:Mm}{d:Sl}(e:l'=l++l2)(hd:SlOk d (l.length+l2.length) 1)(hs:(slH d ((l++l2).flatMap encI) 3++H).Sublist H2):∃ H9,IntsK l' H (slV d (l.length+l2.length)) H9/\H9.Sublist H2:=by
 subst e;exact⟨_,⟨d,⟨by rw[List.length_append],by rw[List.length_append];exact hd⟩,rfl⟩,hs⟩
theorem own_3 {f:Fd}{m:Pdm}(e:m.nm=f.nm)(h:m.kind=3):ownP f m=[m.val,m.val+1]:=by unfold ownP;rw[if_pos e,if_pos h]
theorem own_5 {f:Fd}{m:Pdm}(e:m.nm=f.nm)(h:m.kind=5):ownP f m=[m.val,m.to+1]:=by unfold ownP;rw[if_pos e,if_neg qom,if_pos h]
theorem own_4 {f:Fd}{m:Pdm}(e:m.nm=f.nm)(h:m.kind=4):ownP f m=[m.val - m.val % ((2 ^ (f.w - m.to.toNat):Nat):Int),m.val - m.val % ((2 ^ (f.w - m.to.toNat):Nat):Int)+((2 ^ (f.w - m.to.toNat):Nat):Int)]:=by unfold ownP;rw[if_pos e,if_neg qom,if_neg qom,if_pos h]
theorem Nj {f:Fd}{m:Pdm}(h: ¬ m.nm=f.nm\/(¬ m.kind=3/\¬ m.kind=5/\¬ m.kind=4)):ownP f m=[]:=by
 unfold ownP;rcases h with h|⟨h1,h2,h3⟩
 ·rw[if_neg h]
 ·rw[if_neg h1,if_neg h2,if_neg h3];split<;>rfl
theorem pow_small {w k:Nat}(h:w<=16):2 ^ (w - k)<=65536:=Nat.le_trans (Nat.pow_le_pow_right qde (show w - k<=16 by omega)) qde
theorem cutP_step {N:Nat}(hN:N<=1000000000)(f:Fd)(hf:FdOk f)(ih:CpS w0 f N){m:Pdm}(hM:PdM w0 H m)(hct:∀ a∈prtP m,CtP a)(hm:m.sz<=N+1):
  FSpec prog w0 172 #[.agg (encPd m).toArray, .agg (encF f).toArray] H (IntsK (cutP f m) H):=by
 refine Am func172 U ntmps172 U ?_;have hsz:=Gb m;have hsl:=Ig m.subs;have hc:=hct m (G7 m);have hcl:=Kj f m;have hce:=cutP_eq f m;have hw:=hf.w16;refine rDt 2 U (e_ (Ot U cs_) ?_ U);rintro _ _ ⟨n2,rfl,rfl⟩;refine e_ (Ot U cs_) ?_ U;rintro _ _ ⟨n3,rfl,rfl⟩;refine rOt 15 U ?_;refine A8 (X:=Nat × Sl × List Int) (V:=fun ⟨i,d,l⟩=>[(5,slV d l.length),(6,Vi (i:Nat))]) (C:=[(2,_),(3,_)]) (G:=fun ⟨i,d,l⟩=>(n3,Cl (encF f) 127)::(n2,Cl (encPd m) 25)::(slH d (l.flatMap encI) 3++H)) (φ:=fun ⟨i,d,l⟩=>i<=m.subs.length/\SlOk d l.length 1/\l=cutPL f (m.subs.take i)) (μ:=fun ⟨i,d,l⟩=>m.subs.length - i) (x0:=(0, .nil,[])) ?_ (kg U) qkg (by exact List.Sublist.refl _) ?_
 ·exact⟨Nat.zero_le _,rfl,rfl⟩
 rintro⟨i,d,l⟩ ⟨hi,hd,hl⟩;refine rDt 5 U ?_;refine y_ (Om U isAgg23 qco) ?_ U;refine rOt 4 U ?_;refine jcd U (fun c13=> ?_) (fun c13=> ?_)
 ·have hi2:i<m.subs.length:=Int.ofNat_lt.1 c13;have htk:=cutPL_take f hi2;have hss:=Eh (Ax hi2);have hl1:=cutPL_len f (m.subs.take i);have hl2:=szPL_all (l:=m.subs) i;have hl3:=Kj f (gd m.subs i);have hl9:=congrArg List.length hl;refine rCt 4 U (Bf 8 (plq7 [(7,false)]) _ mixd qkr sb0 ?_ Bh);refine rPt 2 U ?_;refine o_y U (Om U isAgg23 qco) ?_ U Ad;refine rPt 1 U (o_y U (Oo U U runUnderlying23 sizeOf25 qom (by first|exact rfl|exact hM.arr.b (i:=i) hi2)) ?_ U Ad);refine o_y U (On U isAgg25 sizeOf25 U (by exact(hM.arr.mono sbt).cs (i:=i) hi2)) ?_ U Ad;refine o_y U (On U isAgg127 sizeOf127 U (by exact Ae (fndq:Fnd _ n3 (Cl (encF f) 127)))) ?_ U Ad;refine o_e U (Ah (evq2 U U) call172 (ih ((hM.sub (Ax hi2)).mono sbt) (fun a ha=>hct a (G5 (Ax hi2) a ha)) qom)) ?_ U Ad;rintro _ _ ⟨d2,⟨rfl,hd2⟩,rfl⟩;refine⟨sbt,(Av U (e_ (Bu (enc:=encI) (l:=l) (cutP f (gd m.subs i)) (by':=8) locq (T U) (T U) runUnderlying109 runUnderlying109 sizeOf3 typeInfo3 U zeroValue3 U (fun _=>rfl) (fun _=>rfl) hd qde qom ((B3 (w0:=w0) (e:=3) (X:=[]) (enc:=encI) (fun _=>rfl) hd2).mono (by rw[List.append_nil];exact List.sublist_append_left _ _))) ?_ U))⟩;rintro _ _ ⟨d3,rfl,hd3,rfl⟩;refine rOt 6 U (y_ (Aw (T U) Al qom) ?_ U);refine rOt 2 U ?_;refine Au ((i+1,d3,l++cutP f (gd m.subs i))) ?_ ?_ ⟨atd,qat,trivial⟩ (kg U) ?_
  ·exact⟨hi2,by rw[List.length_append];exact hd3,by rw[htk,<- hl]⟩
  ·first|omega|(simp only[];omega)
  ·exact(by exact List.sublist_append_right _ _)
 ·obtain rfl:i=m.subs.length:=by have h9: ¬ ((i:Nat):Int)<(m.subs.length:Nat):=c13;omega
  rw[List.take_length] at hl;have hl9:=congrArg List.length hl;have hlc:=congrArg List.length hce;rw[List.length_append] at hlc;refine rCt 2 U (An (rXt 6 U ?_));refine y_ (Om U isAgg9 qco) ?_ U;refine rOt 1 U ?_;refine y_ (Om U isAgg9 qco) ?_ U;refine y_ (yl_neSD (T U) (T U)) (rOt 2 U ?_) U;refine jcd U (fun c29=> ?_) (fun c29=> ?_)
  ·have hnm: ¬ m.nm=f.nm:=fun e=>c29 (nm_eq.2 e)
   refine rCt 8 U (Ai U (Ol U) ?_);exact Kl (by rw[hce,Nj (.inl hnm),List.append_nil,hl]) hd sbt
  ·have hnm:m.nm=f.nm:=nm_eq.1 (Classical.not_not.1 c29);refine rCt 6 U ?_;refine y_ (Om U isAgg3 qco) ?_ U;refine rOt 9 U ?_;refine jcd U (fun c33=> ?_) (fun c33=> ?_)
   ·have hk3:m.kind=3:=c33;have hc3:=hc.1 (.inl hk3);refine rCt 3 U ?_;refine y_ (Om U isAgg3 qco) ?_ U;refine rOt 1 U ?_;refine y_ (Om U isAgg3 qco) ?_ U;refine y_ (Aw (T U) Al qom) ?_ U;refine e_ (Bb (.cons (T U) (.cons (T U) .nil)) (Fe)) ?_ U;rintro _ _ ⟨n41,rfl,rfl⟩;refine e_ (Bu (enc:=encI) (l:=l) ([m.val,m.val+1]) (by':=8) locq (T U) (T U) runUnderlying109 runUnderlying109 sizeOf3 typeInfo3 U zeroValue3 U (fun _=>rfl) (fun _=>rfl) hd qde (by simp only[List.length_cons,List.length_nil];omega) (Ei (enc:=encI) (l:=[m.val,m.val+1]) (fun _=>rfl) fnd_h)) ?_ U;rintro _ _ ⟨d3,rfl,hd3,rfl⟩;refine rOt 11 U (Ai U (Ol U) ?_);exact Km (by rw[hce,own_3 hnm hk3,hl]) hd3 sbt
   ·skip
    refine rCt 6 U ?_;refine jcd U (fun c43=> ?_) (fun c43=> ?_)
    ·have hk5:m.kind=5:=c43;have hc5:=hc.2 (.inr hk5);refine rCt 3 U ?_;refine y_ (Om U isAgg3 qco) ?_ U;refine rOt 1 U ?_;refine y_ (Om U isAgg3 qco) ?_ U;refine y_ (Aw (T U) Al qom) ?_ U;refine e_ (Bb (.cons (T U) (.cons (T U) .nil)) (Fe)) ?_ U;rintro _ _ ⟨n51,rfl,rfl⟩;refine e_ (Bu (enc:=encI) (l:=l) ([m.val,m.to+1]) (by':=8) locq (T U) (T U) runUnderlying109 runUnderlying109 sizeOf3 typeInfo3 U zeroValue3 U (fun _=>rfl) (fun _=>rfl) hd qde (by simp only[List.length_cons,List.length_nil];omega) (Ei (enc:=encI) (l:=[m.val,m.to+1]) (fun _=>rfl) fnd_h)) ?_ U;rintro _ _ ⟨d3,rfl,hd3,rfl⟩;refine kO tb 10 [4] rfl U (rGt 1 U (Ai U (Ol U) ?_));exact Km (by rw[hce,own_5 hnm hk5,hl]) hd3 sbt
    ·skip
     refine rCt 6 U ?_;refine jcd U (fun c53=> ?_) (fun c53=> ?_)
     ·have hk4:m.kind=4:=c53;have hc4:=hc.1 (.inr (.inl hk4));have hc44:=hc.2 (.inl hk4);refine rCt 9 U ?_;refine y_ (Om U isAgg3 qco) ?_ U;refine rOt 4 U ?_;refine A8 (X:=Nat) (V:=fun k=>[(7,Vi ((2 ^ k:Nat):Int)),(8,Vi (m.to+(k:Nat)))]) (C:=[(2,_),(3,_),(5,_)]) (G:=fun k=>(n3,Cl (encF f) 127)::(n2,Cl (encPd m) 25)::(slH d (l.flatMap encI) 3++H)) (φ:=fun k=>k<=f.w - m.to.toNat) (μ:=fun k=>f.w - m.to.toNat - k) (x0:=0) ?_ (kg U) ⟨qat,(by first|exact Aa U|(refine Cb (Aa U) (vint ?_);omega)),trivial⟩ (by exact List.Sublist.refl _) ?_
      ·exact Nat.zero_le _
      rintro k hk;refine rDt 5 U ?_;refine y_ (Om U isAgg3 qco) ?_ U;refine rOt 3 U ?_;refine jcd U (fun c60=> ?_) (fun c60=> ?_)
      ·have hk2:k+1<=f.w - m.to.toNat:=by have h9:m.to+(k:Nat)<(f.w:Nat):=c60;omega
       refine rCt 6 U (y_ (yl_dbl2 Al (T U) qom) ?_ U);refine rOt 6 U (y_ (Aw (T U) Al qom) ?_ U);refine rOt 2 U ?_;refine Au (k+1) ?_ ?_ ⟨qat,(by first|exact Aa U|(refine Cb (Aa U) (vint ?_);omega)),trivial⟩ (kg U) ?_
       ·exact hk2
       ·omega
       ·exact sb0
      ·obtain rfl:k=f.w - m.to.toNat:=by have h9: ¬ m.to+(k:Nat)<(f.w:Nat):=c60;omega
       have hs1:1<=2 ^ (f.w - m.to.toNat):=Nat.two_pow_pos _;have hs2:=pow_small (k:=m.to.toNat) hw;have hr1:=Int.emod_nonneg m.val (show ((2 ^ (f.w - m.to.toNat):Nat):Int)≠0 by omega);have hr2:=emod_le hc4.1 (2 ^ (f.w - m.to.toNat));refine rCt 2 U (An (rXt 2 U (Bf 18 (plq17 [(17,false)]) _ mixd qkr sb0 ?_ Bh)));refine rPt 2 U ?_;refine o_y U (Om U isAgg3 qco) ?_ U Ad;refine rPt 1 U ?_;refine o_y U (Om U isAgg3 qco) ?_ U Ad;refine rPt 1 U (o_y U (Mj (T U) (T U) qom) ?_ U Ad);refine o_y U (E2 (T U) (T U) qom) ?_ U Ad;refine rPt 1 U ?_;refine o_y U (Om U isAgg3 qco) ?_ U Ad;refine rPt 1 U ?_;refine o_y U (Om U isAgg3 qco) ?_ U Ad;refine rPt 1 U (o_y U (Mj (T U) (T U) qom) ?_ U Ad);refine o_y U (E2 (T U) (T U) qom) ?_ U Ad;refine rPt 1 U (o_y U (Aw (T U) (T U) qom) ?_ U Ad);refine o_e U (Bb (.cons (T U) (.cons (T U) .nil)) (Fe)) ?_ U Ad;rintro _ _ ⟨n82,rfl,rfl⟩;refine⟨sbt,(Av U (e_ (Bu (enc:=encI) (l:=l) ([m.val - m.val % ((2 ^ (f.w - m.to.toNat):Nat):Int),m.val - m.val % ((2 ^ (f.w - m.to.toNat):Nat):Int)+((2 ^ (f.w - m.to.toNat):Nat):Int)]) (by':=8) locq (T U) (T U) runUnderlying109 runUnderlying109 sizeOf3 typeInfo3 U zeroValue3 U (fun _=>rfl) (fun _=>rfl) hd qde (by simp only[List.length_cons,List.length_nil];omega) (Ei (enc:=encI) (l:=[m.val - m.val % ((2 ^ (f.w - m.to.toNat):Nat):Int),m.val - m.val % ((2 ^ (f.w - m.to.toNat):Nat):Int)+((2 ^ (f.w - m.to.toNat):Nat):Int)]) (fun _=>rfl) fnd_h)) ?_ U))⟩;rintro _ _ ⟨d3,rfl,hd3,rfl⟩;refine kO tb 10 [4] rfl U (rGt 1 U (Ai U (Ol U) ?_));exact Km (by rw[hce,own_4 hnm hk4,hl]) hd3 sbt
     ·skip
      refine rCt 10 U (Ai U (Ol U) ?_);exact Kl (by rw[hce,Nj (.inr ⟨c33,c43,c53⟩),List.append_nil,hl]) hd sbt
theorem cutP_s {w0:World}(f:Fd)(hf:FdOk f)(N:Nat)(hN:N<=1000000000):CpS w0 f N:=by
 induction N with
 |zero=>intro H m _ _ h;have:=Gb m;omega
 |succ N ih=>
  have ih:CpS w0 f N:=ih qom;intro H m hM hct hm;exact cutP_step qom f hf ih hM hct hm
def CoS (w0:World) (f:Fd) (N:Nat):Prop:=∀ {H:Mm} {m:Pom},PoM w0 H m->(∀ a∈prtO m,CtO a)->m.sz<=N->FSpec prog w0 141 #[.agg (encPo m).toArray, .agg (encF f).toArray] H (IntsK (cutO f m) H)
theorem ownO_1 {f:Fd}{m:Pom}(h:m.kind=1):ownO f m=cutP f m.pr:=by unfold ownO;rw[if_pos h,if_neg qom,List.append_nil]
theorem cutO_step {N:Nat}(hN:N<=1000000000)(f:Fd)(hf:FdOk f)(ih:CoS w0 f N){m:Pom}(hM:PoM w0 H m)(hct:∀ a∈prtO m,CtO a)(hm:m.sz<=N+1):
  FSpec prog w0 141 #[.agg (encPo m).toArray, .agg (encF f).toArray] H (IntsK (cutO f m) H):=by
 refine Am func141 U ntmps141 U ?_;have hc:=hct m (I6 m);have hcl:=Kk f m;have hce:=cutO_eq f m;have hsz:=Dy m;have hsl:=F0 m.subs;refine rDt 2 U (e_ (Ot U cs_) ?_ U);rintro _ _ ⟨n2,rfl,rfl⟩;refine e_ (Ot U cs_) ?_ U;rintro _ _ ⟨n3,rfl,rfl⟩;refine rOt 15 U ?_;refine A8 (X:=Nat × Sl × List Int) (V:=fun ⟨i,d,l⟩=>[(5,slV d l.length),(6,Vi (i:Nat))]) (C:=[(2,_),(3,_)]) (G:=fun ⟨i,d,l⟩=>(n3,Cl (encF f) 127)::(n2,Cl (encPo m) 28)::(slH d (l.flatMap encI) 3++H)) (φ:=fun ⟨i,d,l⟩=>i<=m.subs.length/\SlOk d l.length 1/\l=cutOL f (m.subs.take i)) (μ:=fun ⟨i,d,l⟩=>m.subs.length - i) (x0:=(0, .nil,[])) ?_ (kg U) qkg (by exact List.Sublist.refl _) ?_
 ·exact⟨Nat.zero_le _,rfl,rfl⟩
 rintro⟨i,d,l⟩ ⟨hi,hd,hl⟩;refine rDt 5 U ?_;refine y_ (Om U isAgg26 qco) ?_ U;refine rOt 4 U ?_;refine jcd U (fun c11=> ?_) (fun c11=> ?_)
 ·have hi2:i<m.subs.length:=Int.ofNat_lt.1 c11;have htk:=cutOL_take f hi2;have hss:=D1 (Ax hi2);have hl1:=cutOL_len f (m.subs.take i);have hl2:=Gz (l:=m.subs) i;have hl3:=Kk f (gd m.subs i);have hl9:=congrArg List.length hl;refine rCt 4 U (Bf 8 (plq7 [(7,false)]) _ mixd qkr sb0 ?_ Bh);refine rPt 2 U ?_;refine o_y U (Om U isAgg26 qco) ?_ U Ad;refine rPt 1 U (o_y U (Oo U U runUnderlying26 sizeOf28 qom (by first|exact rfl|exact hM.arr.b (i:=i) hi2)) ?_ U Ad);refine o_y U (On U isAgg28 sizeOf28 U (by exact(hM.arr.mono sbt).cs (i:=i) hi2)) ?_ U Ad;refine o_y U (On U isAgg127 sizeOf127 U (by exact Ae (fndq:Fnd _ n3 (Cl (encF f) 127)))) ?_ U Ad;refine o_e U (Ah (evq2 U U) call141 (ih ((hM.sub (Ax hi2)).mono sbt) (fun a ha=>hct a (G6 (Ax hi2) a ha)) qom)) ?_ U Ad;rintro _ _ ⟨d2,⟨rfl,hd2⟩,rfl⟩;refine⟨sbt,(Av U (e_ (Bu (enc:=encI) (l:=l) (cutO f (gd m.subs i)) (by':=8) locq (T U) (T U) runUnderlying109 runUnderlying109 sizeOf3 typeInfo3 U zeroValue3 U (fun _=>rfl) (fun _=>rfl) hd qde qom ((B3 (w0:=w0) (e:=3) (X:=[]) (enc:=encI) (fun _=>rfl) hd2).mono (by rw[List.append_nil];exact List.sublist_append_left _ _))) ?_ U))⟩;rintro _ _ ⟨d3,rfl,hd3,rfl⟩;refine rOt 6 U (y_ (Aw (T U) Al qom) ?_ U);refine rOt 2 U ?_;refine Au ((i+1,d3,l++cutO f (gd m.subs i))) ?_ ?_ ⟨atd,qat,trivial⟩ (kg U) ?_
  ·exact⟨hi2,by rw[List.length_append];exact hd3,by rw[htk,<- hl]⟩
  ·first|omega|(simp only[];omega)
  ·exact(by exact List.sublist_append_right _ _)
 ·obtain rfl:i=m.subs.length:=by have h9: ¬ ((i:Nat):Int)<(m.subs.length:Nat):=c11;omega
  rw[List.take_length] at hl;have hl9:=congrArg List.length hl;have hlc:=congrArg List.length hce;rw[List.length_append] at hlc;refine rCt 2 U (An (rXt 2 U ?_));refine Em (X:=Sl × List Int) (V:=fun ⟨d,l⟩=>[(5,slV d l.length)]) (C:=[(2,_),(3,_)]) (G:=fun ⟨d,l⟩=>(n3,Cl (encF f) 127)::(n2,Cl (encPo m) 28)::(slH d (l.flatMap encI) 3++H)) (φ:=fun ⟨d,l⟩=>SlOk d l.length 1/\l=cutOL f m.subs++(if m.kind=1 then cutP f m.pr else [])/\l.length<=2*m.sz) (kg U) ?_ ?_
  ·refine rDt 3 U ?_;refine y_ (Om U isAgg3 qco) ?_ U;refine rOt 3 U ?_;refine jcd U (fun c25=> ?_) (fun c25=> ?_)
   ·have hk1:m.kind=1:=c25;rw[ownO_1 hk1] at hlc;refine rCt 3 U ?_;refine y_ (On U isAgg25 sizeOf25 U (by exact N4 (Vi m.kind) m.pr [.string m.nm,Vi m.n, .slice m.q m.subs.length m.cap] fndq)) ?_ U;refine y_ (On U isAgg127 sizeOf127 U (by exact Ae (fndq:Fnd _ n3 (Cl (encF f) 127)))) ?_ U;refine e_ (Ah (evq2 U U) call172 (cutP_s f hf 1000000000 (Nat.le_refl _) (hM.pred.mono sbt) (hc.1 hk1) qom)) ?_ U;rintro _ _ ⟨d2,⟨rfl,hd2⟩,rfl⟩;refine e_ (Bu (enc:=encI) (l:=l) (cutP f m.pr) (by':=8) locq (T U) (T U) runUnderlying109 runUnderlying109 sizeOf3 typeInfo3 U zeroValue3 U (fun _=>rfl) (fun _=>rfl) hd qde qom ((B3 (w0:=w0) (e:=3) (X:=[]) (enc:=encI) (fun _=>rfl) hd2).mono (by rw[List.append_nil];exact List.sublist_append_left _ _))) ?_ U;rintro _ _ ⟨d3,rfl,hd3,rfl⟩;refine rOt 2 U ?_;refine Be ((d3,l++cutP f m.pr)) ?_ ⟨atd,trivial⟩ (kg U) sbt;exact⟨by rw[List.length_append];exact hd3,by rw[hl,if_pos hk1],by rw[List.length_append];omega⟩
   ·have hk1: ¬ m.kind=1:=c25;refine rCt 1 U ?_;refine Be ((d,l)) ?_ qkg (kg U) sbt
    first|exact⟨by rw[List.length_append];exact hd3,by rw[hl,if_pos hk1],by rw[List.length_append];omega⟩|exact⟨hd,by rw[hl,if_neg hk1,List.append_nil],by omega⟩
  rintro⟨d,l⟩ ⟨hd,hl,hln⟩;refine rCt 4 U ?_;refine y_ (Om U isAgg3 qco) ?_ U;refine rOt 2 U ?_;refine Aq (s:=35) (Aa U) (fun c35=> ?_) (fun c35=> ?_)
  ·have hk2:m.kind=2:=c35;have hc2:=hc.2 hk2;refine rOt 1 U ?_;refine A6 (Om U isAgg9 qco) U (A7 U U (Aa U)) ?_;refine rOt 1 U ?_;refine A6 (Om U isAgg9 qco) U (A7 U U (Aa U)) ?_;refine A6 (Eu (T U) (T U)) U (A7 U U (Aa U)) (rOt 3 U ?_);refine jcd U (fun c41=> ?_) (fun c41=> ?_)
   ·have hnm:m.nm=f.nm:=nm_eq.1 c41;refine rCt 3 U ?_;refine y_ (Om U isAgg3 qco) ?_ U;refine rOt 1 U ?_;refine y_ (Om U isAgg3 qco) ?_ U;refine y_ (Aw (T U) Al qom) ?_ U;refine e_ (Bb (.cons (T U) (.cons (T U) .nil)) (Fe)) ?_ U;rintro _ _ ⟨n48,rfl,rfl⟩;refine e_ (Bu (enc:=encI) (l:=l) ([m.n,m.n+1]) (by':=8) locq (T U) (T U) runUnderlying109 runUnderlying109 sizeOf3 typeInfo3 U zeroValue3 U (fun _=>rfl) (fun _=>rfl) hd qde (by simp only[List.length_cons,List.length_nil];omega) (Ei (enc:=encI) (l:=[m.n,m.n+1]) (fun _=>rfl) fnd_h)) ?_ U;rintro _ _ ⟨d3,rfl,hd3,rfl⟩;refine rOt 10 U (Ai U (Ol U) ?_);exact Km (by rw[hce,hl];unfold ownO;rw[if_pos (show m.kind=2/\m.nm=f.nm from ⟨hk2,hnm⟩),List.append_assoc]) hd3 sbt
   ·have hnm: ¬ m.nm=f.nm:=fun e=>c41 (nm_eq.2 e)
    refine rCt 9 U (Ai U (Ol U) ?_);exact Kl (by rw[hce,hl];unfold ownO;rw[if_neg (show ¬ (m.kind=2/\m.nm=f.nm) from fun e=>hnm e.2),List.append_nil]) hd sbt
  ·have hk2: ¬ m.kind=2:=c35;refine rOt 18 U (Ai U (Ol U) ?_);exact Kl (by rw[hce,hl];unfold ownO;rw[if_neg (show ¬ (m.kind=2/\m.nm=f.nm) from fun e=>hk2 e.1),List.append_nil]) hd sbt
theorem cutO_s {w0:World}(f:Fd)(hf:FdOk f)(N:Nat)(hN:N<=1000000000):CoS w0 f N:=by
 induction N with
 |zero=>intro H m _ _ h;have:=Dy m;omega
 |succ N ih=>
  have ih:CoS w0 f N:=ih qom;intro H m hM hct hm;exact cutO_step qom f hf ih hM hct hm
def PutI (l:List Int) (n:Int) (i:Nat) (b:Bool) (o:List Int):Prop:=o.Pairwise (· < ·)/\(∀ x,x∈o↔(b=true/\x=n)\/x∈l.take i)/\(b=false->∀ x∈l.take i,x<n)/\(b=true->∀ j,i<=j->j<l.length->n<gd l j)/\o.length<=i+b.toNat
def PutJ (l:List Int) (n:Int) (i:Nat) (b:Bool) (o:List Int):Prop:=o.Pairwise (· < ·)/\(∀ x,x∈o↔(b=true/\x=n)\/x∈l.take i)/\(b=false->(∀ x∈l.take i,x<n)/\gd l i<n)/\(b=true->n<=gd l i)/\o.length<=i+b.toNat
abbrev PuIK (l:List Int) (n:Int) (H:Mm):Value->Mm->Prop:=fun u H'=>∃ (l':List Int) (d:Sl),(u=slV d l'.length/\SlOk d l'.length 1/\l'.Pairwise (· < ·)/\(∀ x,x∈l'↔x=n\/x∈l)/\l'.length<=l.length+1)/\H'=slH d (l'.flatMap encI) 3++H
section
variable {l o:List Int} {n:Int} {i:Nat} {b:Bool}
theorem up_at (hs:l.Pairwise (· < ·)){i j:Nat}(h:i<j)(hj:j<l.length):gd l i<gd l j:=by
 rw[Ar hj,Ar (show i<l.length by omega)];exact List.pairwise_iff_getElem.1 hs i j qom hj h
theorem take_lt (hs:l.Pairwise (· < ·))(hi:i<l.length):∀ x∈l.take i,x<gd l i:=fun x hx=>by
 obtain⟨j,hj,rfl⟩:=List.getElem_of_mem hx;rw[List.length_take] at hj;rw[List.getElem_take,<- Ar (show j<l.length by omega)];exact up_at hs qom hi
theorem take_mem (hi:i<l.length)(x:Int):x∈l.take (i+1)↔x∈l.take i\/x=gd l i:=by
 rw[List.take_succ_eq_append_getElem hi,List.mem_append,List.mem_singleton,<- Ar hi]
theorem puti_0 (l:List Int)(n:Int):PutI l n 0 false []:=⟨.nil,fun x=>by simp,fun _ x hx=>by simp at hx,fun h=>by simp at h,Nat.le_refl _⟩
theorem puti_a (h:PutI l n i false o)(hn:n<=gd l i):PutJ l n i true (o++[n]):=by
 obtain⟨a1,a2,a3,a4,a5⟩:=h;have e:∀ x∈o,x<n:=fun x hx=>a3 U x (((a2 x).1 hx).resolve_left (by simp))
 refine⟨List.pairwise_append.2 ⟨a1,List.pairwise_singleton _ _,fun x hx y hy=>by rw[List.mem_singleton.1 hy];exact e x hx⟩,fun x=> ?_,fun h=>by simp at h,fun _=>hn,?_⟩
 ·rw[List.mem_append,List.mem_singleton,a2];simp;exact Or.comm
 ·rw[List.length_append];simp at *;omega
theorem puti_b (hi:i<l.length)(h:PutI l n i b o)(hn:b=true\/¬ n<=gd l i):PutJ l n i b o:=by
 obtain⟨a1,a2,a3,a4,a5⟩:=h;refine⟨a1,a2,fun e=>⟨a3 e,?_⟩,fun e=>Int.le_of_lt (a4 e i (Nat.le_refl _) hi),a5⟩;rcases hn with hn|hn
 ·rw[e] at hn;cases hn
 ·omega
theorem puti_c (hs:l.Pairwise (· < ·))(hi:i<l.length)(h:PutJ l n i b o)(hn: ¬ gd l i=n):PutI l n (i+1) b (o++[gd l i]):=by
 obtain⟨a1,a2,a3,a4,a5⟩:=h;refine⟨List.pairwise_append.2 ⟨a1,List.pairwise_singleton _ _,fun x hx y hy=> ?_⟩,fun x=> ?_,fun e x hx=> ?_,fun e j h1 h2=> ?_,?_⟩
 ·rw[List.mem_singleton.1 hy];rcases(a2 x).1 hx with ⟨e,rfl⟩|hx
  ·have:=a4 e;omega
  ·exact take_lt hs hi x hx
 ·rw[List.mem_append,List.mem_singleton,a2,take_mem hi,or_assoc]
 ·rcases(take_mem hi x).1 hx with hx|rfl
  ·exact(a3 e).1 x hx
  ·exact(a3 e).2
 ·have h3:=a4 e;have h4:=up_at hs (show i<j by omega) h2;omega
 ·rw[List.length_append];simp at *;omega
theorem puti_d (hs:l.Pairwise (· < ·))(hi:i<l.length)(h:PutJ l n i b o)(hn:gd l i=n):PutI l n (i+1) b o:=by
 obtain⟨a1,a2,a3,a4,a5⟩:=h;have hb:b=true:=by
  cases b
  ·have:=(a3 U).2;omega
  ·rfl
 subst hb;refine⟨a1,fun x=> ?_,(fun e=>by cases e),fun e j h1 h2=> ?_,by omega⟩
 ·rw[a2,take_mem hi,hn]
  constructor
  ·rintro(h|h)
   ·exact .inl h
   ·exact .inr (.inl h)
  ·rintro(h|h|h)
   ·exact .inl h
   ·exact .inr h
   ·exact .inl ⟨rfl,h⟩
 ·have h4:=up_at hs (show i<j by omega) h2;omega
theorem puti_e {l2:List Int}(h:PutI l n l.length b o)(e:l2=if b=true then o else o++[n]):l2.Pairwise (· < ·)/\(∀ x,x∈l2↔x=n\/x∈l)/\l2.length<=l.length+1:=by
 obtain⟨a1,a2,a3,a4,a5⟩:=h;rw[List.take_length] at a2 a3;cases b with
 |true=>
  rw[if_pos rfl] at e;subst e;exact⟨a1,fun x=>by rw[a2];simp,a5⟩
 |false=>
  rw[if_neg (by simp)] at e;subst e;refine⟨List.pairwise_append.2 ⟨a1,List.pairwise_singleton _ _,fun x hx y hy=> ?_⟩,fun x=> ?_,?_⟩
  ·rw[List.mem_singleton.1 hy];exact a3 U x (((a2 x).1 hx).resolve_left (by simp))
  ·rw[List.mem_append,List.mem_singleton,a2];simp;exact Or.comm
  ·rw[List.length_append];simp at *;omega
end
theorem putint_s (l:List Int)(q:Option Addr)(c:Nat)(hA:Arr w0 H q 1 encI l)(hs:l.Pairwise (· < ·))(n:Int)(hlen:l.length<=1000000000):
  FSpec prog w0 118 #[.slice q l.length c,Vi n] H (PuIK l n H):=by
 refine Am func118 U ntmps118 U (rDt 22 U ?_);refine A8 (X:=Nat × Sl × List Int × Bool) (V:=fun ⟨i,d,o,b⟩=>[(5,slV d o.length),(6, .bool b),(7,Vi (i:Nat))]) (C:=[(0,_),(1,_)]) (G:=fun ⟨i,d,o,b⟩=>slH d (o.flatMap encI) 3++H) (φ:=fun ⟨i,d,o,b⟩=>i<=l.length/\SlOk d o.length 1/\PutI l n i b o) (μ:=fun ⟨i,d,o,b⟩=>l.length - i) (x0:=(0, .nil,[],false)) ?_ (kg U) qkg (by exact List.Sublist.refl _) ?_
 ·exact⟨Nat.zero_le _,rfl,puti_0 l n⟩
 rintro⟨i,d,o,b⟩ ⟨hi,hd,hp⟩;refine rDt 9 U ?_;refine jcd U (fun c11=> ?_) (fun c11=> ?_)
 ·have hi2:i<l.length:=Int.ofNat_lt.1 c11;have ho5:=hp.2.2.2.2;have hb1:=b.toNat_le;refine rCt 4 U ?_;refine Em (X:=Sl × List Int × Bool) (V:=fun ⟨d,o,b⟩=>[(5,slV d o.length),(6, .bool b)]) (C:=[(0,_),(1,_),(7,_)]) (G:=fun ⟨d,o,b⟩=>slH d (o.flatMap encI) 3++H) (φ:=fun ⟨d,o,b⟩=>SlOk d o.length 1/\PutJ l n i b o) (kg U) ?_ ?_
  ·refine rDt 4 U (y_ (Oo U U runUnderlying109 sizeOf3 qom (by first|exact rfl|exact hA.b (i:=i) hi2)) ?_ U);refine y_ (Om U isAgg3 (by first|exact c_o|exact(hA.mono sbt).f0 (i:=i) hi2 U)) ?_ U;refine rOt 3 U ?_;refine Aq (s:=20) (Aa U) (fun c20=> ?_) (fun c20=> ?_)
   ·have hge:n<=gd l i:=c20;refine rOt 1 U ?_
    first|refine A6 (Bt (T U)) U (A7 U U (Aa U)) ?_|refine A6 (Bq (T U)) U (A7 U U (Aa U)) ?_
    refine rOt 3 U ?_
    first|refine jcd U (fun c23=> ?_) (fun c23=> ?_)|refine jcn U (fun c23=> ?_) (fun c23=> ?_)
    ·obtain rfl:b=false:=by simpa using c23
     refine rCt 4 U (e_ (Bb (.cons (T U) .nil) (Eq)) ?_ U);rintro _ _ ⟨n26,rfl,rfl⟩;refine e_ (Bu (enc:=encI) (l:=o) ([n]) (by':=8) locq (T U) (T U) runUnderlying109 runUnderlying109 sizeOf3 typeInfo3 U zeroValue3 U (fun _=>rfl) (fun _=>rfl) hd qde (by simp only[List.length_cons,List.length_nil];omega) (Ei (enc:=encI) (l:=[n]) (fun _=>rfl) fnd_h)) ?_ U;rintro _ _ ⟨d3,rfl,hd3,rfl⟩;refine rOt 6 U ?_;refine Be ((d3,o++[n],true)) ?_ ⟨atd,qat,trivial⟩ (kg U) sbt;exact⟨by rw[List.length_append];exact hd3,puti_a hp hge⟩
    ·have hbt:b=true:=by simpa using c23
     refine rCt 1 U ?_;refine Be ((d,o,b)) ?_ qkg (kg U) sbt
     first|exact⟨by rw[List.length_append];exact hd3,puti_a hp hge⟩|exact⟨hd,puti_b hi2 hp (.inl hbt)⟩
   ·have hge: ¬ n<=gd l i:=c20;refine rOt 7 U ?_;refine Be ((d,o,b)) ?_ qkg (kg U) sbt
    first|exact⟨by rw[List.length_append];exact hd3,puti_a hp hge⟩|exact⟨hd,puti_b hi2 hp (.inl hbt)⟩|exact⟨hd,puti_b hi2 hp (.inr hge)⟩
  rintro⟨d,o,b⟩ ⟨hd,hp⟩;have ho5:=hp.2.2.2.2;have hb1:=b.toNat_le;refine rCt 4 U (y_ (Oo U U runUnderlying109 sizeOf3 qom (by first|exact rfl|exact hA.b (i:=i) hi2)) ?_ U);refine y_ (Om U isAgg3 (by first|exact c_o|exact(hA.mono sbt).f0 (i:=i) hi2 U)) ?_ U;refine rOt 4 U ?_;refine jcd U (fun c33=> ?_) (fun c33=> ?_)
  ·have hne: ¬ gd l i=n:=c33;refine rCt 4 U (y_ (Oo U U runUnderlying109 sizeOf3 qom (by first|exact rfl|exact hA.b (i:=i) hi2)) ?_ U);refine y_ (Om U isAgg3 (by first|exact c_o|exact(hA.mono sbt).f0 (i:=i) hi2 U)) ?_ U;refine e_ (Bb (.cons (T U) .nil) (Eq)) ?_ U;rintro _ _ ⟨n39,rfl,rfl⟩;refine e_ (Bu (enc:=encI) (l:=o) ([gd l i]) (by':=8) locq (T U) (T U) runUnderlying109 runUnderlying109 sizeOf3 typeInfo3 U zeroValue3 U (fun _=>rfl) (fun _=>rfl) hd qde (by simp only[List.length_cons,List.length_nil];omega) (Ei (enc:=encI) (l:=[gd l i]) (fun _=>rfl) fnd_h)) ?_ U;rintro _ _ ⟨d3,rfl,hd3,rfl⟩;refine rOt 6 U (y_ (Aw (T U) Al qom) ?_ U);refine rOt 2 U ?_;refine Au ((i+1,d3,o++[gd l i],b)) ?_ ?_ ⟨atd,qat,qat,trivial⟩ (kg U) ?_
   ·exact⟨hi2,by rw[List.length_append];exact hd3,puti_c hs hi2 hp hne⟩
   ·first|omega|(simp only[];omega)
   ·exact sbt
  ·have hne:gd l i=n:=Classical.not_not.1 c33;refine rCt 5 U (y_ (Aw (T U) Al qom) ?_ U);refine rOt 2 U ?_;refine Au ((i+1,d,o,b)) ?_ ?_ qkg (kg U) ?_
   ·exact⟨hi2,hd,puti_d hs hi2 hp hne⟩
   ·first|omega|(simp only[];omega)
   ·exact sbt
 ·obtain rfl:i=l.length:=by have h9: ¬ ((i:Nat):Int)<(l.length:Nat):=c11;omega
  have ho5:=hp.2.2.2.2;have hb1:=b.toNat_le;refine rCt 2 U (An (rXt 6 U ?_))
  first|refine A6 (Bt (T U)) U Ad ?_|refine A6 (Bq (T U)) U Ad ?_
  refine rOt 2 U ?_
  first|refine jcd U (fun c42=> ?_) (fun c42=> ?_)|refine jcn U (fun c42=> ?_) (fun c42=> ?_)
  ·obtain rfl:b=false:=by simpa using c42
   refine rCt 3 U (e_ (Bb (.cons (T U) .nil) (Eq)) ?_ U);rintro _ _ ⟨n45,rfl,rfl⟩;refine e_ (Bu (enc:=encI) (l:=o) ([n]) (by':=8) locq (T U) (T U) runUnderlying109 runUnderlying109 sizeOf3 typeInfo3 U zeroValue3 U (fun _=>rfl) (fun _=>rfl) hd qde (by simp only[List.length_cons,List.length_nil];omega) (Ei (enc:=encI) (l:=[n]) (fun _=>rfl) fnd_h)) ?_ U;rintro _ _ ⟨d3,rfl,hd3,rfl⟩;refine rOt 10 U (Ai U (Ol U) ?_);exact⟨_,⟨o++[n],d3,⟨by show slV d3 (o.length+[n].length)=_;rw[List.length_append],by rw[List.length_append];exact hd3,puti_e hp U⟩,rfl⟩,sbt⟩
  ·obtain rfl:b=true:=by simpa using c42
   refine rCt 9 U (Ai U (Ol U) ?_);exact⟨_,⟨o,d,⟨rfl,hd,puti_e hp U⟩,rfl⟩,sbt⟩
abbrev ArK (w0:World) (l:List Int) (H:Mm):Value->Mm->Prop:=fun u H'=>∃ (q:Option Addr) (c:Nat),(u= .slice q l.length c/\Arr w0 H' q 1 encI l)/\H.Sublist H'
structure PolsC (w0:World) (H:Mm) (ms:List Pom):Prop where
 pm:∀ m∈ms,PoM w0 H m
 ct:∀ m∈ms,∀ a∈prtO m,CtO a
 sz:∀ m∈ms,m.sz<=100000000
 few:ms.length<=2
theorem PolsC.mono {w0:World}{H H':Mm}{ms:List Pom}(h:PolsC w0 H ms)(hs:H.Sublist H'):PolsC w0 H' ms:=⟨fun m hm=>(h.pm m hm).mono hs,h.ct,h.sz,h.few⟩
def cutsI (ms:List Pom) (f:Fd):List Int:=(cutsL ms f).map fun c:Nat=>(c:Int)
theorem ownP_nn {f:Fd}{m:Pdm}(h:CtP m):∀ x∈ownP f m,0<=x:=fun x hx=>by
 by_cases hn:m.nm=f.nm
 ·by_cases h3:m.kind=3
  ·rw[own_3 hn h3] at hx;have:=h.1 (.inl h3);simp at hx;omega
  ·by_cases h5:m.kind=5
   ·rw[own_5 hn h5] at hx;have:=h.1 (.inr (.inr h5));have:=h.2 (.inr h5);simp at hx;omega
   ·by_cases h4:m.kind=4
    ·rw[own_4 hn h4] at hx;have:=h.1 (.inr (.inl h4));have h8:=emod_le this.1 (2 ^ (f.w - m.to.toNat));have h9:0<2 ^ (f.w - m.to.toNat):=Nat.two_pow_pos _;simp only[List.mem_cons,List.not_mem_nil,or_false] at hx;omega
    ·rw[Nj (.inr ⟨h3,h5,h4⟩)] at hx;cases hx
 ·rw[Nj (.inl hn)] at hx;cases hx
mutual
theorem cutP_nn (f:Fd):∀ {m:Pdm},(∀ a∈prtP m,CtP a)->∀ x∈cutP f m,0<=x
 | .mk k s v t q c xs,h,x,hx=>by
  rw[cutP] at hx;rcases List.mem_append.1 hx with hx|hx
  ·exact cutPL_nn f (fun a ha=>h a (by rw[prtP];exact List.mem_cons_of_mem _ ha)) x hx
  ·exact ownP_nn (h _ (G7 _)) x hx
theorem cutPL_nn (f:Fd):∀ {l:List Pdm},(∀ a∈prtPL l,CtP a)->∀ x∈cutPL f l,0<=x
 |[],_,x,hx=>by cases hx
 |y::l,h,x,hx=>by
  rw[cutPL] at hx;rcases List.mem_append.1 hx with hx|hx
  ·exact cutP_nn f (fun a ha=>h a (by rw[prtPL];exact List.mem_append.2 (.inl ha))) x hx
  ·exact cutPL_nn f (fun a ha=>h a (by rw[prtPL];exact List.mem_append.2 (.inr ha))) x hx
end
theorem ownO_nn {f:Fd}{m:Pom}(h:CtO m):∀ x∈ownO f m,0<=x:=fun x hx=>by
 unfold ownO at hx;rcases List.mem_append.1 hx with hx|hx
 ·split at hx
  ·rename_i e;exact cutP_nn f (h.1 e) x hx
  ·cases hx
 ·split at hx
  ·rename_i e;have:=h.2 e.1;simp at hx;omega
  ·cases hx
mutual
theorem cutO_nn (f:Fd):∀ {m:Pom},(∀ a∈prtO m,CtO a)->∀ x∈cutO f m,0<=x
 | .mk k p s n q c xs,h,x,hx=>by
  rw[cutO] at hx;rcases List.mem_append.1 hx with hx|hx
  ·exact cutOL_nn f (fun a ha=>h a (by rw[prtO];exact List.mem_cons_of_mem _ ha)) x hx
  ·exact ownO_nn (h _ (I6 _)) x hx
theorem cutOL_nn (f:Fd):∀ {l:List Pom},(∀ a∈prtOL l,CtO a)->∀ x∈cutOL f l,0<=x
 |[],_,x,hx=>by cases hx
 |y::l,h,x,hx=>by
  rw[cutOL] at hx;rcases List.mem_append.1 hx with hx|hx
  ·exact cutO_nn f (fun a ha=>h a (by rw[prtOL];exact List.mem_append.2 (.inl ha))) x hx
  ·exact cutOL_nn f (fun a ha=>h a (by rw[prtOL];exact List.mem_append.2 (.inr ha))) x hx
end
def CtsI (f:Fd) (l o:List Int):Prop:=o.Pairwise (· < ·)/\(∀ x,x∈o↔x=0\/(x∈l/\x<=(2 ^ f.w:Nat) - 1))/\o.length<=1+l.length
theorem ctsI_0 (f:Fd):CtsI f [] [0]:=⟨List.pairwise_singleton _ _,fun x=>by simp,Nat.le_refl _⟩
theorem ctsI_yes {f:Fd}{l o l2:List Int}{n:Int}(h:CtsI f l o)(hn:n<=(2 ^ f.w:Nat) - 1)(h1:l2.Pairwise (· < ·))(h2:∀ x,x∈l2↔x=n\/x∈o)(h3:l2.length<=o.length+1):CtsI f (l++[n]) l2:=by
 obtain⟨a1,a2,a3⟩:=h;refine⟨h1,fun x=> ?_,by rw[List.length_append];simp;omega⟩;rw[h2,a2,List.mem_append,List.mem_singleton]
 constructor
 ·rintro(rfl|e|e)
  ·exact .inr ⟨.inr U,hn⟩
  ·exact .inl e
  ·exact .inr ⟨.inl e.1,e.2⟩
 ·rintro(e|⟨e|e,e2⟩)
  ·exact .inr (.inl e)
  ·exact .inr (.inr ⟨e,e2⟩)
  ·exact .inl e
theorem ctsI_no {f:Fd}{l o:List Int}{n:Int}(h:CtsI f l o)(hn: ¬ n<=(2 ^ f.w:Nat) - 1):CtsI f (l++[n]) o:=by
 obtain⟨a1,a2,a3⟩:=h;refine⟨a1,fun x=> ?_,by rw[List.length_append];simp;omega⟩;rw[a2,List.mem_append,List.mem_singleton]
 constructor
 ·rintro(e|e)
  ·exact .inl e
  ·exact .inr ⟨.inl e.1,e.2⟩
 ·rintro(e|⟨e|e,e2⟩)
  ·exact .inl e
  ·exact .inr ⟨e,e2⟩
  ·rw[e] at e2;exact absurd e2 hn
theorem ctsI_end {f:Fd}{ms:List Pom}{o:List Int}(hn:∀ x∈rawL ms f,0<=x)(h:CtsI f (rawL ms f) o):o=cutsI ms f:=by
 obtain⟨a1,a2,a3⟩:=h;refine up_eq a1 ?_ fun x=> ?_
 ·unfold cutsI;rw[List.pairwise_map];exact(cutsL_up ms f).imp fun h=>by omega
 ·have hp:0<2 ^ f.w:=Nat.two_pow_pos _;rw[a2];unfold cutsI;rw[List.mem_map]
  constructor
  ·rintro(rfl|⟨h,h2⟩)
   ·exact⟨0,cutsL_mem.2 ⟨hp, .inl U⟩,rfl⟩
   ·have h0:=hn x h;obtain⟨k,rfl⟩:=Int.eq_ofNat_of_zero_le h0;exact⟨k,cutsL_mem.2 ⟨by omega, .inr h⟩,rfl⟩
  ·rintro⟨k,hk,rfl⟩;obtain⟨h1,h2⟩:=cutsL_mem.1 hk;rcases h2 with rfl|h2
   ·exact .inl U
   ·exact .inr ⟨h2,by omega⟩
theorem rawL_take {ms:List Pom}{f:Fd}{i:Nat}(hi:i<ms.length):rawL (ms.take (i+1)) f=rawL (ms.take i) f++cutO f (gd ms i):=by
 unfold rawL;rw[List.take_succ_eq_append_getElem hi,List.flatMap_append,<- Ar hi];simp
theorem rawL_nn {ms:List Pom}{f:Fd}(h:PolsC w0 H ms):∀ x∈rawL ms f,0<=x:=fun x hx=>by
 obtain⟨m,hm,h1⟩:=List.mem_flatMap.1 hx;exact cutO_nn f (h.ct m hm) x h1
theorem rawL_le {ms:List Pom}{f:Fd}(h:PolsC w0 H ms)(i:Nat):(rawL (ms.take i) f).length<=400000000:=by
 have key:∀ l:List Pom,(∀ m∈l,m.sz<=100000000)->(rawL l f).length<=200000000*l.length:=by
  intro l
  induction l with
  |nil=>intro _;simp[rawL]
  |cons m l ih=>
   intro h;have h1:=ih fun x hx=>h x (by simp[hx])
   have h2:=Kk f m;have h3:=h m (by simp);have e:rawL (m::l) f=cutO f m++rawL l f:=by simp[rawL]
   rw[e,List.length_append,List.length_cons];omega
 have h1:=key (ms.take i) fun m hm=>h.sz m (List.mem_of_mem_take hm)
 have h2:=h.few;rw[List.length_take] at h1;omega
theorem take_i {l:List Int}{k:Nat}(hk:k<l.length):l.take (k+1)=l.take k++[gd l k]:=by rw[List.take_succ_eq_append_getElem hk,<- Ar hk]
theorem cutsX_s (ms:List Pom)(q:Option Addr)(c:Nat)(hA:Arr w0 H q 9 encPo ms)(hM:PolsC w0 H ms)(f:Fd)(hf:FdOk f):
  FSpec prog w0 96 #[.slice q ms.length c, .agg (encF f).toArray] H (IntsK (cutsI ms f) H):=by
 refine Am func96 U ntmps96 U ?_;have hw:=hf.w16;have hfew:=hM.few;refine rDt 2 U (e_ (Ot U cs_) ?_ U);rintro _ _ ⟨n3,rfl,rfl⟩;refine rOt 5 U (e_ (Bb (.cons Al .nil) (Eq)) ?_ U);rintro _ _ ⟨n9,rfl,rfl⟩;refine rOt 10 U ?_;refine A8 (X:=Nat × List Int × Sl) (V:=fun ⟨i,o0,d0⟩=>[(5,slV d0 o0.length),(6,Vi (i:Nat))]) (C:=[(0,_),(3,_)]) (G:=fun ⟨i,o0,d0⟩=>slH d0 (o0.flatMap encI) 3++((n3,Cl (encF f) 127)::H)) (φ:=fun ⟨i,o0,d0⟩=>i<=ms.length/\SlOk d0 o0.length 1/\CtsI f (rawL (ms.take i) f) o0) (μ:=fun ⟨i,o0,d0⟩=>ms.length - i) (x0:=(0,[0], .blk n9 1 [])) ?_ (kg U) qkg (by exact List.Sublist.refl _) ?_
 ·exact⟨Nat.zero_le _,⟨Nat.le_refl _,rfl⟩,ctsI_0 f⟩
 rintro⟨i,o0,d0⟩ ⟨hi,hd0,hp0⟩;refine rDt 9 U ?_;refine jcd U (fun c13=> ?_) (fun c13=> ?_)
 ·have hi2:i<ms.length:=Int.ofNat_lt.1 c13;have htk:=rawL_take (f:=f) hi2;have hr1:=rawL_le (f:=f) hM (i+1);have hr2:=congrArg List.length htk;rw[List.length_append] at hr2;refine rCt 5 U (Bf 5 (plq5 []) _ mixd qkr sb0 ?_ Bh);refine rPt 2 U (o_y U (Oo U U runUnderlying26 sizeOf28 qom (by first|exact rfl|exact hA.b (i:=i) hi2)) ?_ U Ad);refine o_y U (On U isAgg28 sizeOf28 U (by exact(hA.mono sbt).cs (i:=i) hi2)) ?_ U Ad;refine o_y U (On U isAgg127 sizeOf127 U (by exact Ae (fndq:Fnd _ n3 (Cl (encF f) 127)))) ?_ U Ad;refine Av U (e_ (Ah (evq2 U U) call141 (cutO_s f hf 1000000000 (Nat.le_refl _) ((hM.pm _ (Ax hi2)).mono sbt) (hM.ct _ (Ax hi2)) (by have:=hM.sz _ (Ax hi2);omega))) ?_ U);rintro _ _ ⟨d1,⟨rfl,hd1⟩,rfl⟩;have hC:Arr w0 (slH d1 ((cutO f (gd ms i)).flatMap encI) 3++[]) (slQ d1) 1 encI (cutO f (gd ms i)):=B3 (fun _=>rfl) hd1;refine rOt 9 U ?_;refine A8 (X:=Nat × List Int × Sl) (V:=fun ⟨k,o,d⟩=>[(5,slV d o.length),(8,Vi (k:Nat))]) (C:=[(0,_),(3,_),(6,_),(7,_)]) (G:=fun ⟨k,o,d⟩=>slH d1 ((cutO f (gd ms i)).flatMap encI) 3++(slH d (o.flatMap encI) 3++((n3,Cl (encF f) 127)::H))) (φ:=fun ⟨k,o,d⟩=>k<=(cutO f (gd ms i)).length/\SlOk d o.length 1/\CtsI f (rawL (ms.take i) f++(cutO f (gd ms i)).take k) o) (μ:=fun ⟨k,o,d⟩=>(cutO f (gd ms i)).length - k) (x0:=(0,o0,d0)) ?_ (kg U) qkg (by exact List.Sublist.refl _) ?_
  ·exact⟨Nat.zero_le _,hd0,by rw[List.take_zero,List.append_nil];exact hp0⟩
  rintro⟨k,o,d⟩ ⟨hk,hd,hp⟩;refine rDt 9 U ?_;refine jcd U (fun c25=> ?_) (fun c25=> ?_)
  ·have hk2:k<(cutO f (gd ms i)).length:=Int.ofNat_lt.1 c25;have hkt:=take_i hk2;have hkl:((cutO f (gd ms i)).take k).length<=(cutO f (gd ms i)).length:=by rw[List.length_take];omega
   have hpl:=hp.2.2;rw[List.length_append] at hpl;refine rCt 5 U (Bf 7 (plq7 []) _ mixd qkr sb0 ?_ Bh);refine rPt 2 U (o_y U (Oo U U runUnderlying109 sizeOf3 qom (by first|exact rfl|exact hA.b (i:=i) hi2|exact hC.b (i:=k) hk2)) ?_ U Ad);refine o_y U (Om U isAgg3 (by first|exact c_o|exact(hC.mono (by rw[List.append_nil];exact List.sublist_append_left _ _)).f0 (i:=k) hk2 U)) ?_ U Ad;refine o_y U (On U isAgg127 sizeOf127 U (by exact Ae (fndq:Fnd _ n3 (Cl (encF f) 127)))) ?_ U Ad;refine o_y U (Ao (evq1 U) call112 (fun H' hs=>Gk f hw)) (rPt 1 U (Av U (rOt 2 U ?_))) U Ad;refine jcd U (fun c34=> ?_) (fun c34=> ?_)
   ·have hle:=c34;refine rCt 4 U (y_ (Oo U U runUnderlying109 sizeOf3 qom (by first|exact rfl|exact hA.b (i:=i) hi2|exact hC.b (i:=k) hk2)) ?_ U);refine y_ (Om U isAgg3 (by first|exact c_o|exact(hC.mono (by rw[List.append_nil];exact List.sublist_append_left _ _)).f0 (i:=k) hk2 U)) ?_ U;refine e_ (Ah (evq2 U U) call118 (putint_s o (slQ d) (slC d) ((B3 (w0:=w0) (e:=3) (X:=((n3,Cl (encF f) 127)::H)) (enc:=encI) (fun _=>rfl) hd).mono (List.sublist_append_right _ _)) hp.1 (gd (cutO f (gd ms i)) k) qom)) ?_ U;rintro _ _ ⟨l2,d2,⟨rfl,hd2,hs2,hm2,hl2⟩,rfl⟩;refine rOt 6 U (y_ (Aw (T U) Al qom) ?_ U);refine rOt 2 U (jq_perm (List.perm_append_comm_assoc _ _ _) ?_);refine Au ((k+1,l2,d2)) ?_ ?_ qkg (kg U) ?_
    ·exact⟨hk2,hd2,by rw[hkt,<- List.append_assoc];exact ctsI_yes hp hle hs2 hm2 hl2⟩
    ·first|omega|(simp only[];omega)
    ·exact(List.Sublist.refl _).append ((List.Sublist.refl _).append (List.sublist_append_right _ _))
   ·have hle:=c34;refine rCt 5 U (y_ (Aw (T U) Al qom) ?_ U);refine rOt 2 U ?_
    skip
    refine Au ((k+1,o,d)) ?_ ?_ qkg (kg U) ?_
    ·exact⟨hk2,hd,by rw[hkt,<- List.append_assoc];exact ctsI_no hp hle⟩
    ·first|omega|(simp only[];omega)
    ·first|exact(List.Sublist.refl _).append ((List.Sublist.refl _).append (List.sublist_append_right _ _))|exact List.Sublist.refl _
  ·obtain rfl:k=(cutO f (gd ms i)).length:=by have h9: ¬ ((k:Nat):Int)<((cutO f (gd ms i)).length:Nat):=c25;omega
   rw[List.take_length] at hp;refine rCt 2 U (An (rXt 5 U (y_ (Aw (T U) Al qom) ?_ U)));refine rOt 2 U ?_;refine Au ((i+1,o,d)) ?_ ?_ qkg (kg U) ?_
   ·exact⟨hi2,hd,by rw[htk];exact hp⟩
   ·first|omega|(simp only[];omega)
   ·exact List.sublist_append_right _ _
 ·obtain rfl:i=ms.length:=by have h9: ¬ ((i:Nat):Int)<(ms.length:Nat):=c13;omega
  rw[List.take_length] at hp0;refine rCt 2 U (An (rXt 9 U (Ai U (Ol U) ?_)));exact Kl (ctsI_end (rawL_nn hM) hp0).symm hd0 sbt
theorem cuts_s (ms:List Pom)(q:Option Addr)(c:Nat)(hA:Arr w0 H q 9 encPo ms)(hM:PolsC w0 H ms)(f:Fd)(hf:FdOk f):FSpec prog w0 96 #[.slice q ms.length c, .agg (encF f).toArray] H (ArK w0 (cutsI ms f) H):=
 (cutsX_s ms q c hA hM f hf).mono fun u H' ⟨d,⟨e,hd⟩,hH⟩=>⟨slQ d,slC d,⟨e,by rw[hH];exact B3 (fun _=>rfl) hd⟩,by rw[hH];exact List.sublist_append_right _ _⟩
theorem Kb6 (a0:ByteArray)(a1 a2:Int)(w:World):(Instr.buildSlice 22 1 #[(0, .agg #[.string a0,Vi a1,Vi a2])]).run prog w= .ok (.slice (some ⟨w.heap.size,0,none⟩) 1 1) (w.alloc (Cl [.string a0,Vi a1,Vi a2] 127)):=by kernel_rfl
theorem Kb9 {a0 a1 a2 a3 a4 a5 a6 a7 a8 a9:Int}(w:World):(Instr.buildSlice 58 1 #[(0, .agg #[Vi a0,Vi a1,Vi a2,Vi a3,Vi a4,Vi a5,Vi a6,Vi a7,Vi a8,Vi a9])]).run prog w= .ok (.slice (some ⟨w.heap.size,0,none⟩) 1 1) (w.alloc (Cl [Vi a0,Vi a1,Vi a2,Vi a3,Vi a4,Vi a5,Vi a6,Vi a7,Vi a8,Vi a9] 32)):=by kernel_rfl
theorem Ko {fl:List Fd}(hfl:FlOk fl)(q:Option Addr)(c:Nat)(hA:Arr w0 H q 3 encF fl)(F:List Fd)(hF:F=portFd::fl)  :
  FSpec prog w0 95 #[.slice q fl.length c] H (fun u H'=>∃ d:Sl,(u=slV d F.length/\SlOk d F.length 3)/\H'=slH d (F.flatMap encF) 127++H):=by
 refine Am func95 U ntmps95 U ?_;have hfew:=hfl.few;subst hF;refine rDt 7 U (y_ (Ao .nil call129 (fun H' hs=>rport_s)) (e_ (Bb (.cons (T U) .nil) (Kb6 _ _ _)) ?_ U) U);rintro _ _ ⟨n4,rfl,rfl⟩;refine rOt 1 U (e_ (Bu (enc:=encF) (l:=[portFd]) (d:= .blk n4 1 []) (fl) (by':=32) (by repeat (first|exact loc_1|apply LocL.t|apply LocL.a)) (T U) (T U) runUnderlying22 runUnderlying22 sizeOf127 typeInfo127 U zeroValue127 U (fun _=>rfl) (fun _=>rfl) ⟨Nat.le_refl _,rfl⟩ qde (by simp only[List.length_cons,List.length_nil];omega) (hA.mono sbt)) ?_ U);rintro _ _ ⟨d3,rfl,hd3,rfl⟩;rw[show [portFd].length+fl.length=(portFd::fl).length from Nat.add_comm _ _] at hd3 ⊢;refine rOt 4 U (Ai U (Ol U) ?_);exact⟨_,⟨d3,⟨rfl,hd3⟩,rfl⟩,sbt⟩
theorem cutsL_len (ms:List Pom){f:Fd}(hf:f.w<=16):(cutsL ms f).length<=65536:=by
 have h1:=List.length_filter_le (fun c:Nat=>decide (c=0\/(c:Int)∈rawL ms f)) (List.range (2 ^ f.w));rw[List.length_range] at h1;have h2:2 ^ f.w<=2 ^ 16:=Nat.pow_le_pow_right qde hf;exact Nat.le_trans h1 (Nat.le_trans h2 qde)
theorem I7 (ms:List Pom)(f:Fd):(cutsI ms f).length=(cutsL ms f).length:=by unfold cutsI;rw[List.length_map]
theorem Kp {ms:List Pom}{f:Fd}{n:Nat}(hn:n<(cutsL ms f).length):gd (cutsI ms f) n=((gd (cutsL ms f) n:Nat):Int):=by
 unfold cutsI;rw[Ar (by rw[List.length_map];exact hn),Ar hn,List.getElem_map]
theorem cutsL_lt {ms:List Pom}{f:Fd}{n:Nat}(hn:n<(cutsL ms f).length):gd (cutsL ms f) n<2 ^ f.w:=(cutsL_mem.1 (Ax hn)).1
theorem corn_snoc (cuts:Fd->List Nat)(f:Fd):∀ (l:List Fd) (o:List Hd),cornF cuts (l++[f]) o=(cornF cuts l o).flatMap fun h=>(cuts f).map (fset f h)
 |[],o=>rfl
 |g::l,o=>by rw[List.cons_append,cornF,cornF,corn_snoc cuts f l]
theorem corn_take {cuts:Fd->List Nat}{F:List Fd}{i:Nat}(hi:i<F.length)(o:List Hd):cornF cuts (F.take (i+1)) o=(cornF cuts (F.take i) o).flatMap fun h=>(cuts (gd F i)).map (fset (gd F i) h):=by
 rw[List.take_succ_eq_append_getElem hi,corn_snoc,<- Ar hi]
def CrnI (c:List Nat) (f:Fd) (o:List Hd) (k n:Nat):List Hd:=((o.take k).flatMap fun h=>c.map (fset f h))++(c.take n).map (fset f (gd o k))
theorem crn_len {c:List Nat}{f:Fd}{o:List Hd}{k n:Nat}(hk:k<=o.length)(hn:n<=c.length):(CrnI c f o k n).length=k*c.length+n:=by
 have key:∀ l:List Hd,(l.flatMap fun h=>c.map (fset f h)).length=l.length*c.length:=by
  intro l
  induction l with
  |nil=>simp
  |cons x l ih=>rw[List.flatMap_cons,List.length_append,ih,List.length_map,List.length_cons,Nat.succ_mul];omega
 unfold CrnI;rw[List.length_append,key,List.length_map,List.length_take,List.length_take,Nat.min_eq_left hk,Nat.min_eq_left hn]
theorem crn_room {a b k n:Nat}(h:a*b<=500)(hk:k<a)(hn:n<b):k*b+n<500:=by
 have h1:(k+1)*b<=a*b:=Nat.mul_le_mul_right b hk;rw[Nat.succ_mul] at h1;omega
theorem crn_next {c:List Nat}{f:Fd}{o:List Hd}{k n:Nat}(hn:n<c.length):CrnI c f o k (n+1)=CrnI c f o k n++[fset f (gd o k) (gd c n)]:=by
 unfold CrnI;rw[List.take_succ_eq_append_getElem hn,List.map_append,<- Ar hn,List.append_assoc];rfl
theorem crn_row {c:List Nat}{f:Fd}{o:List Hd}{k:Nat}(hk:k<o.length):CrnI c f o k c.length=CrnI c f o (k+1) 0:=by
 unfold CrnI;rw[List.take_length,List.take_zero,List.map_nil,List.append_nil,List.take_succ_eq_append_getElem hk,List.flatMap_append,<- Ar hk];simp
theorem crn_end {c:List Nat}{f:Fd}{o:List Hd}:CrnI c f o o.length 0=o.flatMap fun h=>c.map (fset f h):=by
 unfold CrnI;rw[List.take_length,List.take_zero,List.map_nil,List.append_nil]
theorem crn_ok {c:List Nat}{f:Fd}{o:List Hd}:∀ x∈o.flatMap (fun h=>c.map (fset f h)),HdOk x:=fun x hx=>by
 obtain⟨y,_,h1⟩:=List.mem_flatMap.1 hx;obtain⟨n,_,rfl⟩:=List.mem_map.1 h1;exact Bz _ _ _
abbrev CrnK (w0:World) (ms:List Pom) (F:List Fd) (H:Mm):Value->Mm->Prop:=fun u H'=>∃ (l:List Hd) (q:Option Addr) (c:Nat),u= .slice q l.length c/\HsA w0 H' l q c/\(l=[]\/l=cornF (cutsL ms) F [hd0])/\l.length<=500/\H.Sublist H'
theorem corners_s {fl:List Fd}(hfl:FlOk fl)(q:Option Addr)(c:Nat)(hA:Arr w0 H q 3 encF fl)(F:List Fd)(hF:F=portFd::fl)(ms:List Pom)(qp:Option Addr)(cp:Nat)(hP:Arr w0 H qp 9 encPo ms)(hM:PolsC w0 H ms):
  FSpec prog w0 50 #[.slice q fl.length c, .slice qp ms.length cp] H (CrnK w0 ms F H):=by
 refine Am func50 U ntmps50 U ?_;have hfew:=hfl.few;have hFl:F.length=fl.length+1:=by rw[hF];rfl
 have hall:∀ f∈F,FdOk f:=by rw[hF];exact hfl.all
 refine rDt 7 U (y_ (A1 .nil (J9)) (e_ (Bb (.cons (T U) .nil) (Kb9)) ?_ U) U);rintro _ _ ⟨n13,rfl,rfl⟩;refine rOt 6 U (e_ (Ah (evq1 U) call95 (Ko hfl q c (hA.mono sbt) F hF)) ?_ U);rintro _ _ ⟨dF,⟨rfl,hdF⟩,rfl⟩;have hFA:Arr w0 (slH dF (F.flatMap encF) 127++((n13,Cl (hdC hd0) 32)::H)) (slQ dF) 3 encF F:=B3 (fun _=>rfl) hdF;refine rOt 10 U ?_;refine A8 (X:=Nat × List Hd × Option Addr × Nat × Mm) (V:=fun ⟨i,o,q1,c1,M⟩=>[(5, .slice q1 o.length c1),(7,Vi (i:Nat))]) (C:=[(1,_),(6,_)]) (G:=fun ⟨i,o,q1,c1,M⟩=>M) (φ:=fun ⟨i,o,q1,c1,M⟩=>i<=F.length/\HsA w0 M o q1 c1/\o=cornF (cutsL ms) (F.take i) [hd0]/\o.length<=500/\(slH dF (F.flatMap encF) 127++((n13,Cl (hdC hd0) 32)::H)).Sublist M) (μ:=fun ⟨i,o,q1,c1,M⟩=>F.length - i) (x0:=(0,[hd0],some ⟨n13,0,none⟩,1,slH dF (F.flatMap encF) 127++((n13,Cl (hdC hd0) 32)::H))) ?_ (kg U) qkg (by exact List.Sublist.refl _) ?_
 ·exact⟨Nat.zero_le _,⟨(Ei (enc:=encHd) (l:=[hd0]) C8 (by exact fnd_h:Fnd ((n13,Cl (hdC hd0) 32)::H) n13 (Cl ([hd0].flatMap encHd) 32))).mono (List.sublist_append_right _ _),fun x hx=>(by rw[List.mem_singleton.1 hx];exact Ay),Nat.le_refl _⟩,rfl,(by show 1<=500;omega),List.Sublist.refl _⟩
 rintro⟨i,o,q1,c1,M⟩ ⟨hi,hAo,ho,hn5,hs0⟩;refine rDt 9 U ?_;refine jcd U (fun c19=> ?_) (fun c19=> ?_)
 ·have hi2:i<F.length:=Int.ofNat_lt.1 c19;refine rCt 9 U (y_ (Oo U U runUnderlying22 sizeOf127 qom (by first|exact rfl|exact hFA.b (i:=i) hi2)) ?_ U);refine y_ (On U isAgg127 sizeOf127 U (by exact(hFA.mono hs0).cs (i:=i) hi2)) ?_ U;refine e_ (Ah (evq2 U U) call96 (cuts_s ms qp cp (hP.mono ((show H.Sublist (slH dF (F.flatMap encF) 127++((n13,Cl (hdC hd0) 32)::H)) by exact sbt).trans hs0)) (hM.mono ((show H.Sublist (slH dF (F.flatMap encF) 127++((n13,Cl (hdC hd0) 32)::H)) by exact sbt).trans hs0)) (gd F i) (hall _ (Ax hi2)))) ?_ U;rintro _ M1 ⟨q2,c2,⟨rfl,hA2⟩,hs2⟩;rw[I7];have hcl:=cutsL_len ms (hall _ (Ax hi2)).w16;have hml:o.length*(cutsL ms (gd F i)).length<=500*65536:=Nat.mul_le_mul hn5 hcl;refine rOt 10 U (y_ (Iu (T U) (T U) qom) ?_ U);refine rOt 3 U ?_;refine jcd U (fun c33=> ?_) (fun c33=> ?_)
  ·skip
   refine rCt 9 U (Bg (rXt 2 U (Ai U (Ol U) ?_)));exact⟨_,⟨[],none,0,rfl,hs_nil, .inl U,Nat.zero_le _,(show H.Sublist (slH dF (F.flatMap encF) 127++((n13,Cl (hdC hd0) 32)::H)) by exact sbt).trans (hs0.trans hs2)⟩,sb0⟩
  ·have hle:o.length*(cutsL ms (gd F i)).length<=500:=by have h9: ¬ ((o.length*(cutsL ms (gd F i)).length:Nat):Int)>500:=c33;omega
   refine rCt 14 U ?_;refine A8 (X:=Nat × Sl × List Hd) (V:=fun ⟨k,d,nx⟩=>[(9,slV d nx.length),(10,Vi (k:Nat))]) (C:=[(1,_),(5,_),(6,_),(7,_),(8,_)]) (G:=fun ⟨k,d,nx⟩=>slH d (nx.flatMap encHd) 32++M1) (φ:=fun ⟨k,d,nx⟩=>k<=o.length/\SlOk d nx.length 10/\nx=CrnI (cutsL ms (gd F i)) (gd F i) o k 0) (μ:=fun ⟨k,d,nx⟩=>o.length - k) (x0:=(0, .nil,[])) ?_ (kg U) qkg (by exact List.Sublist.refl _) ?_
   ·exact⟨Nat.zero_le _,rfl,rfl⟩
   rintro⟨k,d,nx⟩ ⟨hk,hd,hnx⟩;refine rDt 9 U ?_;refine jcd U (fun c37=> ?_) (fun c37=> ?_)
   ·have hk2:k<o.length:=Int.ofNat_lt.1 c37;refine rCt 10 U ?_;refine A8 (X:=Nat × Sl × List Hd) (V:=fun ⟨n,d,nx⟩=>[(9,slV d nx.length),(11,Vi (n:Nat))]) (C:=[(1,_),(5,_),(6,_),(7,_),(8,_),(10,_)]) (G:=fun ⟨n,d,nx⟩=>slH d (nx.flatMap encHd) 32++M1) (φ:=fun ⟨n,d,nx⟩=>n<=(cutsL ms (gd F i)).length/\SlOk d nx.length 10/\nx=CrnI (cutsL ms (gd F i)) (gd F i) o k n) (μ:=fun ⟨n,d,nx⟩=>(cutsL ms (gd F i)).length - n) (x0:=(0,d,nx)) ?_ (kg U) qkg (by exact List.Sublist.refl _) ?_
    ·exact⟨Nat.zero_le _,hd,hnx⟩
    rintro⟨n,d,nx⟩ ⟨hn,hd,hnx⟩;refine rDt 9 U ?_;refine jcd U (fun c43=> ?_) (fun c43=> ?_)
    ·have hn2:n<(cutsL ms (gd F i)).length:=Int.ofNat_lt.1 c43;have hnl:=crn_len (f:=gd F i) (Nat.le_of_lt hk2) (Nat.le_of_lt hn2);rw[<- hnx] at hnl;have hrm:=crn_room hle hk2 hn2;refine rCt 4 U (Bf 15 (plq14 [(14,false)]) _ mixd qkr sb0 ?_ Bh);refine rPt 3 U (o_y U (Cd (T U) (T U) runUnderlying22 sizeOf127 qom (by first|exact rfl|exact hFA.b (i:=i) hi2)) ?_ U Ad);refine o_y U (On U isAgg127 sizeOf127 U (by exact(hFA.mono (hs0.trans (hs2.trans (List.sublist_append_right _ _)))).cs (i:=i) hi2)) ?_ U Ad;refine rPt 2 U (o_y U (Cd (T U) (T U) runUnderlying58 sizeOf32 qom (by first|exact rfl|exact hFA.b (i:=i) hi2|exact hAo.1.b (i:=k) hk2)) ?_ U Ad);refine o_y U (On U isAgg32 sizeOf32 (Af (hAo.ok hk2)) (by exact((hAo.mono (hs2.trans (List.sublist_append_right _ _))).hd).cs (i:=k) hk2)) ?_ U Ad;refine rPt 2 U (o_y U (Oo U U runUnderlying109 sizeOf3 qom (by first|exact rfl|exact hFA.b (i:=i) hi2|exact hAo.1.b (i:=k) hk2|exact hA2.b (i:=n) (by rw[I7];exact hn2))) ?_ U Ad);refine o_y U (Om U isAgg3 (by first|exact c_o|exact(hA2.mono (List.sublist_append_right _ _)).f0 (i:=n) (by rw[I7];exact hn2) U)) ?_ U Ad;refine o_y U (Ao (evq3 U U U) call83 (fun H' hs=>rset_v (gd F i) (hall _ (Ax hi2)) (gd o k) (hAo.ok hk2) (gd (cutsL ms (gd F i)) n) (Kp hn2) (cutsL_lt hn2))) (o_e U (Bb (.cons (T U) .nil) (bs42 (Bz _ _ _))) ?_ U Ad) U Ad;rintro _ _ ⟨n60,rfl,rfl⟩;rw[<- E1 (Bz _ _ _)];refine⟨sbt,(Av U (e_ (Cg (enc:=encHd) (d:=d) (l:=nx) (fset (gd F i) (gd o k) (gd (cutsL ms (gd F i)) n)) (by':=80) locq (T U) (T U) runUnderlying58 runUnderlying58 sizeOf32 typeInfo32 U zeroValue32 U C8 (C9 _) hd qde qom) ?_ U))⟩;rintro _ _ ⟨d2,rfl,hd2,rfl⟩;rw[show nx.length+1=(nx++[fset (gd F i) (gd o k) (gd (cutsL ms (gd F i)) n)]).length from (by simp)] at hd2 ⊢;refine rOt 6 U (y_ (Aw (T U) Al qom) ?_ U);refine rOt 2 U ?_;refine Au ((n+1,d2,nx++[fset (gd F i) (gd o k) (gd (cutsL ms (gd F i)) n)])) ?_ ?_ qkg (kg U) ?_
     ·exact⟨hn2,hd2,by rw[crn_next hn2,<- hnx]⟩
     ·first|omega|(simp only[];omega)
     ·exact sbt
    ·obtain rfl:n=(cutsL ms (gd F i)).length:=by have h9: ¬ ((n:Nat):Int)<((cutsL ms (gd F i)).length:Nat):=c43;omega
     refine rCt 2 U (An (rXt 5 U (y_ (Aw (T U) Al qom) ?_ U)));refine rOt 2 U ?_;refine Au ((k+1,d,nx)) ?_ ?_ qkg (kg U) ?_
     ·exact⟨hk2,hd,by rw[<- crn_row hk2];exact hnx⟩
     ·first|omega|(simp only[];omega)
     ·exact sb0
   ·obtain rfl:k=o.length:=by have h9: ¬ ((k:Nat):Int)<(o.length:Nat):=c37;omega
    rw[crn_end] at hnx;refine rCt 2 U (An (rXt 10 U (y_ (Aw (T U) Al qom) ?_ U)));refine rOt 2 U ?_;refine Au ((i+1,nx,slQ d,slC d,slH d (nx.flatMap encHd) 32++M1)) ?_ ?_ qkg (kg U) ?_
    ·exact⟨hi2,L0 hd (by rw[hnx];exact crn_ok),by rw[hnx,corn_take hi2,<- ho],by rw[hnx,<- crn_end,crn_len (Nat.le_refl _) (Nat.zero_le _)];omega,hs0.trans (hs2.trans (List.sublist_append_right _ _))⟩
    ·first|omega|(simp only[];omega)
    ·exact sb0
 ·obtain rfl:i=F.length:=by have h9: ¬ ((i:Nat):Int)<(F.length:Nat):=c19;omega
  rw[List.take_length] at ho;refine rCt 2 U (An (rXt 9 U (Ai U (Ol U) ?_)));exact⟨_,⟨o,q1,c1,rfl,hAo, .inr ho,hn5,(show H.Sublist (slH dF (F.flatMap encF) 127++((n13,Cl (hdC hd0) 32)::H)) by exact sbt).trans hs0⟩,sb0⟩
section
variable {P:Program} {w0:World} {L:Fm} {ty:TypeId} {x y:Operand} {t t2 e:TypeId}
theorem eff_app1P {p:Value->Prop}{α:Type}{enc:α->List Value}(v:α){A X:Mm}{d:Sl}{l:List α}{n sz by':Nat}{z:Value}{i0:TypeInfo}{e2:TypeId}(hx:Ev L x (slV d l.length))(hy:Ev L y (.slice (some ⟨n,0,none⟩) 1 1))
  (ht:∀ w,(underlying t).run P w= .ok (.slice e) w) (ht2:∀ w,(underlying t2).run P w= .ok (.slice e2) w) (hz:∀ w,(sizeOf e).run P w= .ok sz w) (hi:∀ w,(typeInfo e).run P w= .ok i0 w) (hby:i0.bytes=by') (hzv:∀ w,(zeroValue e).run P w= .ok z w) (hzs:z.cells.size=sz)
  (he:∀ u,(enc u).length=sz) (h1:(enc v).all oneB=true) (hok:SlOk d l.length sz) (hp:SlP p d) (hpz:∀ v∈z.cells,p v) (hb0:by'≠0) (hb:(2*(l.length+1)+600)*by'<=281474976710656) (hn:Cells w0 (A++(slH d (l.flatMap enc) e++X)) n 0 (enc v):=by exact A0):
  Eff P w0 (.call {callee:= .builtin .append,args:= #[x,y],argTypes:= #[t,t2]}) ty L (A++(slH d (l.flatMap enc) e++X)) (fun u H'=>∃ d',u=slV d' (l.length+1)/\SlOk d' (l.length+1) sz/\SlP p d'/\H'=A++(slH d' ((l++[v]).flatMap enc) e++X)):=by
 have h:=eff_appendP (p:=p) (P:=P) (w0:=w0) (L:=L) (ty:=ty) (A:=A) (X:=X) (d:=d) (cells:=l.flatMap enc) (new:=enc v) (k:=l.length) (m:=1) hx hy ht ht2 hz hi hby hzv hzs (.inr U) (by rw[he,Nat.one_mul]) hn h1 (Ed he l) hok hp hpz hb0 hb;rw[List.flatMap_append]
 simpa using h
end
section
variable {P:Program} {w0:World} {L:Fm} {op:Op} {ty:TypeId} {H:Mm}
variable {x y:Operand} {t t2 e:TypeId}
theorem eff_app1P_at {p:Value->Prop}{α:Type}{enc:α->List Value}(v:α){R:Mm}{F:Mm->Mm}{d:Sl}{l:List α}{n sz by':Nat}{z:Value}{i0:TypeInfo}{e2:TypeId}(hl:LocL H (slH d (l.flatMap enc) e) R F)(hx:Ev L x (slV d l.length))(hy:Ev L y (.slice (some ⟨n,0,none⟩) 1 1))
  (ht:∀ w,(underlying t).run P w= .ok (.slice e) w) (ht2:∀ w,(underlying t2).run P w= .ok (.slice e2) w) (hz:∀ w,(sizeOf e).run P w= .ok sz w) (hi:∀ w,(typeInfo e).run P w= .ok i0 w) (hby:i0.bytes=by') (hzv:∀ w,(zeroValue e).run P w= .ok z w) (hzs:z.cells.size=sz)
  (he:∀ u,(enc u).length=sz) (h1:(enc v).all oneB=true) (hok:SlOk d l.length sz) (hp:SlP p d) (hpz:∀ v∈z.cells,p v) (hb0:by'≠0) (hb:(2*(l.length+1)+600)*by'<=281474976710656) (hn:Cells w0 H n 0 (enc v):=by exact A0):
  Eff P w0 (.call {callee:= .builtin .append,args:= #[x,y],argTypes:= #[t,t2]}) ty L H (fun u H'=>∃ d',u=slV d' (l.length+1)/\SlOk d' (l.length+1) sz/\SlP p d'/\H'=F (slH d' ((l++[v]).flatMap enc) e)):=by
 have hn':Cells w0 ([]++(slH d (l.flatMap enc) e++R)) n 0 (enc v):=fun i u hi w hO=>hn i u hi w (Cf hO hl.perm.1.symm)
 refine(eff_app1P (p:=p) (A:=[]) (X:=R) v hx hy ht ht2 hz hi hby hzv hzs he h1 hok hp hpz hb0 hb hn').perm hl.perm.1 ?_;rintro u H' ⟨d',h1,h2,h3,rfl⟩;exact⟨_,(hl.perm.2 _).symm,d',h1,h2,h3,rfl⟩
end
theorem own_after {w0 w1 w':World}{H H1:Mm}(h:Own w0 H w1)(k:Own w1 H1 w'):Own w0 H w':=
 ⟨h.below.trans (k.below.mono h.below.size),fun e he=>by rw[k.below.block e.1 (Array.getElem?_eq_some_iff.1 (h.has e he)).1];exact h.has e he,h.base,h.nodup,Nat.le_trans h.drw k.drw⟩
theorem cell_some {w:World}{p:Addr}{v:Value}(h:w.cell? p=some v):∃ o,w.heap[p.block]? =some o:=by
 unfold World.cell? at h;cases e:w.heap[p.block]? with
 |none=>rw[e] at h;cases h
 |some o=>exact⟨o,rfl⟩
theorem cell_heap {w w':World}{p:Addr}(h:w'.heap[p.block]? =w.heap[p.block]?):w'.cell? p=w.cell? p:=by
 unfold World.cell?;rw[h]
theorem cell_after {w1 w':World}{H1:Mm}(k:Own w1 H1 w'){p:Addr}{v:Value}(h:w1.cell? p=some v):w'.cell? p=some v:=by
 obtain⟨o,ho⟩:=cell_some h;rw[cell_heap (k.below.block _ (Array.getElem?_eq_some_iff.1 ho).1)];exact h
theorem Arr.base {α:Type}{w0 w1:World}{H:Mm}{q:Option Addr}{sz:Nat}{enc:α->List Value}{l:List α}(h:Arr w0 H q sz enc l)(hO:Own w0 H w1):Arr w1 [] q sz enc l:=fun i x hi=>⟨(h i x hi).1,fun j v hj w2 hO2=>cell_after hO2 ((h i x hi).2 j v hj w1 hO)⟩
theorem PdM.base {w0 w1:World}{H:Mm}{m:Pdm}(h:PdM w0 H m)(hO:Own w0 H w1):PdM w1 [] m:=by
 induction h with
 |mk h1 _ ih=>exact .mk (h1.base hO) ih
theorem PoM.base {w0 w1:World}{H:Mm}{m:Pom}(h:PoM w0 H m)(hO:Own w0 H w1):PoM w1 [] m:=by
 induction h with
 |mk h0 h1 _ ih=>exact .mk (h0.base hO) (h1.base hO) ih
theorem cell_same {w0 w' w'':World}{L:Mm}(h1:Own w0 L w')(h2:Own w0 L w'')(p:Addr)(hb:p.block<w0.heap.size\/∃ o,(p.block,o)∈L):w''.cell? p=w'.cell? p:=by
 refine cell_heap ?_;rcases hb with hb|⟨o,ho⟩
 ·rw[h1.below.block _ hb,h2.below.block _ hb]
 ·rw[h1.has _ ho,h2.has _ ho]
def NoI (v:Value):Prop:=∀ k i,v≠.int k i
abbrev EvF13 (w0:World) (Q:Hd->Prop) (A M B:Mm):Value->Mm->Prop:=fun u H'=>∃ (l:List Hd) (q:Option Addr) (c:Nat) (er:Int) (X:Mm),(u= .tuple #[.slice q l.length c, .int .i64 er]/\((er=0->SetIs w0 Q (X++(A++B)) l q c)/\0<=er/\er<=2))/\H'=X++(A++(M++B))
theorem set_frame {P:Program}{w0:World}{f:FuncId}{args:Array Value}{A B:Mm}{d:Sl}{cells:List Value}{e:TypeId}{Q:Hd->Prop}(hc:∀ v∈cells,NoI v)(hp:SlP NoI d)
  (h:∀ w1,Own w0 (A++(slH d cells e++B)) w1->FSpec P w1 f args [] (EvK13 w1 Q [])):FSpec P w0 f args (A++(slH d cells e++B)) (EvF13 w0 Q A (slH d cells e) B):=by
 intro w1 hO;refine(h w1 hO w1 (Own.start w1)).mono ?_;rintro e9 w' ⟨v,H1,he,hO1,l,q,c,er,rfl,⟨hz,h0,h2⟩, -⟩;have hO':=own_after hO hO1
 by_cases h9:er=0/\l≠[]
 ·obtain⟨⟨hA,hok,hcap⟩,hu,hm,hn⟩:=hz h9.1;have hcell:∀ i y j v,l[i]? =some y->(encHd y)[j]? =some v->w'.cell? ⟨bq q,oq q+i*10+j,none⟩=some v:=fun i y j v hi hj=>(hA i y hi).2 j v hj w' hO1
  have main:∀ X,Own w0 (X++(A++(slH d cells e++B))) w'->(bq q<w0.heap.size\/∃ o,(bq q,o)∈X++(A++B))->∃ v H',e9= .returned v/\Own w0 H' w'/\EvF13 w0 Q A (slH d cells e) B v H':=fun X hOX hbq=>by
   refine⟨_,_,he,hOX,l,q,c,er,X,⟨rfl,fun _=>⟨⟨fun i y hi=>⟨(hA i y hi).1,fun j v hj w'' hO''=> ?_⟩,hok,hcap⟩,hu,hm,hn⟩,h0,h2⟩,rfl⟩;rw[cell_same (hOX.sub ((List.Sublist.refl X).append ((List.Sublist.refl A).append (List.sublist_append_right _ _)))) hO'' _ hbq];exact hcell i y j v hi hj
  by_cases hlow:bq q<w0.heap.size
  ·exact main [] hO' (.inl hlow)
  by_cases hin:∃ o,(bq q,o)∈A++B
  ·exact main [] hO' (.inr hin)
  obtain⟨x,hx⟩:∃ x,l[0]? =some x:=by
   cases l with
   |nil=>exact absurd rfl h9.2
   |cons x l=>exact⟨x,rfl⟩
  have hc0:=hcell 0 x 0 (encNI (gd x 0)) hx (by simp[encHd])
  by_cases hd:∃ o,(bq q,o)∈slH d cells e
  ·exfalso;obtain⟨o,ho⟩:=hd;cases d with
   |nil=>simp[slH] at ho
   |blk n cap junk=>
    simp only[slH,List.mem_singleton,Prod.mk.injEq] at ho;have hh:=hO'.has (n,Cl (cells++junk) e) (by simp[slH]);have hm9:encNI (gd x 0)∈cells++junk:=by
     unfold World.cell? at hc0;rw[show ({block:=bq q,off:=oq q+0*10+0,spot:=none}:Addr).block=n from ho.1,hh] at hc0;simp[Cl] at hc0;exact List.mem_of_getElem? hc0
    rcases List.mem_append.1 hm9 with k|k
    ·exact hc _ k _ _ U
    ·exact hp _ k _ _ U
  ·obtain⟨o9,ho9⟩:=cell_some hc0;refine main [(bq q,o9)] ⟨hO'.below,fun y hy=> ?_,fun y hy=> ?_,?_,hO'.drw⟩ (.inr ⟨o9,by simp⟩)
   ·rcases List.mem_cons.1 hy with rfl|hy
    ·exact ho9
    ·exact hO'.has y hy
   ·rcases List.mem_cons.1 hy with rfl|hy
    ·exact Nat.le_of_not_lt hlow
    ·exact hO'.base y hy
   ·refine List.nodup_cons.2 ⟨fun hk=> ?_,hO'.nodup⟩;obtain⟨y,hy,e1⟩:=List.mem_map.1 hk;obtain⟨y1,y2⟩:=y;have hy:(y1,y2)∈A++(slH d cells e++B):=hy;have e1:y1=bq q:=e1;subst e1;rcases List.mem_append.1 hy with hy|hy
    ·exact hin ⟨_,List.mem_append.2 (.inl hy)⟩
    ·rcases List.mem_append.1 hy with hy|hy
     ·exact hd ⟨_,hy⟩
     ·exact hin ⟨_,List.mem_append.2 (.inr hy)⟩
 ·refine⟨_,_,he,hO',l,q,c,er,[],⟨rfl,fun e0=> ?_,h0,h2⟩,rfl⟩;obtain⟨⟨hA,hok,hcap⟩,hu,hm,hn⟩:=hz e0;have hl:l=[]:=Classical.byContradiction fun k=>h9 ⟨e0,k⟩
  subst hl;exact⟨⟨fun i y hi=>by simp at hi,hok,hcap⟩,hu,hm,hn⟩
theorem mid_sub {x:Nat × Obj}{A B M:Mm}(h:(A++(x::B)).Sublist M):∃ A2 B2,M=A2++(x::B2)/\(A++B).Sublist (A2++B2):=by
 have key:∀ {M B:Mm},(x::B).Sublist M->∃ A2 B2,M=A2++(x::B2)/\B.Sublist (A2++B2):=by
  intro M
  induction M with
  |nil=>intro B h;cases h
  |cons y M ih=>
   intro B h;cases h with
   |cons _ h=>
    obtain⟨A2,B2,rfl,h2⟩:=ih h;exact⟨y::A2,B2,rfl,h2.cons _⟩
   |cons_cons _ h=>exact⟨[],M,rfl,h⟩
 obtain⟨r1,r2,rfl,h1,h2⟩:=List.append_sublist_iff.1 h;obtain⟨A2,B2,rfl,h3⟩:=key h2;exact⟨r1++A2,B2,by simp,by rw[List.append_assoc];exact h1.append h3⟩
theorem Kc0 (a0:Option Addr)(a0n a0c:Nat)(w:World):(Instr.buildSlice 79 1 #[(0, .slice a0 a0n a0c)]).run prog w= .ok (.slice (some ⟨w.heap.size,0,none⟩) 1 1) (w.alloc (Cl [.slice a0 a0n a0c] 58)):=by kernel_rfl
structure Gvh where
 l:List Hd
 q:Option Addr
 c:Nat
instance:Inhabited Gvh:=⟨⟨[],none,0⟩⟩
abbrev encGvh (g:Gvh):List Value:=[.slice g.q g.l.length g.c]
theorem gv_noi (L:List Gvh):∀ v∈L.flatMap encGvh,NoI v:=fun v hv=>by
 obtain⟨g,_,h⟩:=List.mem_flatMap.1 hv;rw[List.mem_singleton.1 h];intro k i e;cases e
theorem z58_noi:∀ v∈(Value.slice none 0 0).cells,NoI v:=fun v hv=>by
 have:v= .slice none 0 0:=by simpa[Value.cells] using hv
 subst this;intro k i e;cases e
theorem SetIs.mono {w0:World}{P:Hd->Prop}{H H':Mm}{l:List Hd}{q:Option Addr}{c:Nat}(h:SetIs w0 P H l q c)(hs:H.Sublist H'):SetIs w0 P H' l q c:=⟨h.1.mono hs,h.2⟩
structure GivA (w0:World) (H:Mm) (D:Hd->Hd->Prop) (hs:List Hd) (L:List Gvh) (q:Option Addr):Prop where
 len:L.length=hs.length
 arr:Arr w0 H q 1 encGvh L
 set:∀ k,k<hs.length->SetIs w0 (D (gd hs k)) H (gd L k).l (gd L k).q (gd L k).c
theorem GivA.mono {w0:World}{H H':Mm}{D:Hd->Hd->Prop}{hs:List Hd}{L:List Gvh}{q:Option Addr}(h:GivA w0 H D hs L q)(s:H.Sublist H'):GivA w0 H' D hs L q:=⟨h.len,h.arr.mono s,fun k hk=>(h.set k hk).mono s⟩
abbrev GivK (w0:World) (D:Hd->Hd->Prop) (hs:List Hd) (H:Mm):Value->Mm->Prop:=fun u H'=>∃ (L:List Gvh) (q:Option Addr) (c:Nat) (b:Bool),(u= .tuple #[.slice q L.length c, .bool b]/\(b=true->GivA w0 H' D hs L q))/\H.Sublist H'
theorem gv_next {w0:World}{H H':Mm}{D:Hd->Hd->Prop}{hs:List Hd}{L:List Gvh}{i:Nat}{g:Gvh}(hl:L.length=i)(hi:∀ k,k<i->SetIs w0 (D (gd hs k)) H (gd L k).l (gd L k).q (gd L k).c)(hs':H.Sublist H')(h:SetIs w0 (D (gd hs i)) H' g.l g.q g.c):∀ k,k<i+1->SetIs w0 (D (gd hs k)) H' (gd (L++[g]) k).l (gd (L++[g]) k).q (gd (L++[g]) k).c:=fun k hk=>by
 by_cases e:k=i
 ·subst e;subst hl;have:gd (L++[g]) L.length=g:=by rw[Ar (by simp)];simp
  rw[this];exact h
 ·have:gd (L++[g]) k=gd L k:=by
   rw[Ar (by simp;omega),Ar (show k<L.length by omega),List.getElem_append_left qom]
  rw[this];exact(hi k qom).mono hs'
theorem Kq {fl:List Fd}(hfl:FlOk fl)(q:Option Addr)(c:Nat)(hA:Arr w0 H q 3 encF fl)(tick:Int){m:Pom}{p:Po}(hI:IsO fl m p)(hFt:p.Fit (bsF fl))(hM:PoM w0 H m)(hm:m.sz<=100000000)(hs:List Hd)(qh:Option Addr)(ch:Nat)(hB:HsA w0 H hs qh ch)(hl5:hs.length<=500):
  FSpec prog w0 51 #[.slice q fl.length c, .agg (encPo m).toArray, .slice qh hs.length ch,Vi tick] H (GivK w0 (den tick p) hs H):=by
 refine Am func51 U ntmps51 U (rDt 2 U (e_ (Ot U cs_) ?_ U));rintro _ _ ⟨n5,rfl,rfl⟩;refine rOt 16 U ?_;refine A8 (X:=Nat × Sl × List Gvh × Mm) (V:=fun ⟨i,d,L,A⟩=>[(10,slV d L.length),(11,Vi (i:Nat))]) (C:=[(0,_),(2,_),(3,_),(5,_)]) (G:=fun ⟨i,d,L,A⟩=>A++(slH d (L.flatMap encGvh) 58++((n5,Cl (encPo m) 28)::H))) (φ:=fun ⟨i,d,L,A⟩=>i<=hs.length/\SlOk d L.length 1/\SlP NoI d/\L.length=i/\∀ k,k<i->SetIs w0 (den tick p (gd hs k)) (A++((n5,Cl (encPo m) 28)::H)) (gd L k).l (gd L k).q (gd L k).c) (μ:=fun ⟨i,d,L,A⟩=>hs.length - i) (x0:=(0, .nil,[],[])) ?_ (kg U) qkg (by exact List.Sublist.refl _) ?_
 ·exact⟨Nat.zero_le _,rfl,trivial,rfl,fun k hk=>absurd hk (Nat.not_lt_zero _)⟩
 rintro⟨i,d,L,A⟩ ⟨hi,hd,hp,hL,hS⟩;refine rDt 9 U ?_;refine jcd U (fun c17=> ?_) (fun c17=> ?_)
 ·have hi2:i<hs.length:=Int.ofNat_lt.1 c17;refine rCt 5 U (Bf 13 (plq7 [(7,false),(8,true),(9,true),(10,true),(11,true),(12,true)]) _ mixd qkr sb0 ?_ Bh);refine rPt 1 U (o_y U (On U isAgg28 sizeOf28 U (by exact Ae (by exact Me (Me fnd_h):Fnd _ n5 (Cl (encPo m) 28)))) ?_ U Ad);refine rPt 2 U (o_y U (Oo U U runUnderlying58 sizeOf32 qom (by first|exact rfl|exact hB.1.b (i:=i) hi2)) ?_ U Ad);refine o_y U (On U isAgg32 sizeOf32 (Af (hB.ok hi2)) (by exact((hB.mono (show H.Sublist (A++(slH d (L.flatMap encGvh) 58++((n5,Cl (encPo m) 28)::H))) by exact sbt)).hd).cs (i:=i) hi2)) ?_ U Ad;refine rPt 1 U (o_e U (Ah (evq4 U U U U) call35 (set_frame (gv_noi L) hp (fun w1 hO=>rev_s hfl _ hm ((hA.mono (show H.Sublist (A++(slH d (L.flatMap encGvh) 58++((n5,Cl (encPo m) 28)::H))) by exact sbt)).base hO) ((hM.mono (show H.Sublist (A++(slH d (L.flatMap encGvh) 58++((n5,Cl (encPo m) 28)::H))) by exact sbt)).base hO) (Nat.le_refl _) hI hFt (hB.ok hi2)))) ?_ U Ad);rintro _ _ ⟨l3,q3,c3,e3,X,⟨rfl,hz3,g3, -⟩,rfl⟩;refine⟨sbt,(rPt 5 U (Av U (rOt 9 U ?_)))⟩;refine jcd U (fun c32=> ?_) (fun c32=> ?_)
  ·skip
   refine rCt 10 U (Bg (rXt 2 U (Ai U (.tmp (Aa U) (Ol U)) ?_)));exact⟨_,⟨[],none,0,false,⟨rfl,fun h=>(Bool.false_ne_true h).elim⟩,(show H.Sublist (A++(slH d (L.flatMap encGvh) 58++((n5,Cl (encPo m) 28)::H))) by exact sbt).trans (List.sublist_append_right _ _)⟩,sb0⟩
  ·have hz4:=hz3 (by simpa using c32);refine rCt 5 U (e_ (Bb (.cons (T U) .nil) (Kc0 _ _ _)) ?_ U);rintro _ _ ⟨n35,rfl,rfl⟩;refine e_ (eff_app1P_at (p:=NoI) (enc:=encGvh) (d:=d) (l:=L) ⟨l3,q3,c3⟩ (by':=24) locq (T U) (T U) runUnderlying79 runUnderlying79 sizeOf58 typeInfo58 U zeroValue58 U (fun _=>rfl) U hd hp z58_noi qde qom) ?_ U;rintro _ _ ⟨d2,rfl,hd2,hp2,rfl⟩;rw[show L.length+1=(L++[(⟨l3,q3,c3⟩:Gvh)]).length from (by simp)] at hd2 ⊢;refine kO tb 4 [0,2,3,5,10,11] rfl U (rGt 2 U (y_ (Aw (T U) Al qom) ?_ U));refine rOt 2 U ?_;refine Au ((i+1,d2,L++[⟨l3,q3,c3⟩],X++A)) ?_ ?_ qkg (kg U) ?_
   ·exact⟨hi2,hd2,hp2,by rw[List.length_append,hL];rfl,gv_next hL hS (by rw[List.append_assoc];exact List.sublist_append_right _ _) (by rw[List.append_assoc];exact hz4)⟩
   ·first|omega|(simp only[];omega)
   ·dsimp only;rw[List.append_assoc];exact List.sublist_cons_self _ _
 ·obtain rfl:i=hs.length:=by have h9: ¬ ((i:Nat):Int)<(hs.length:Nat):=c17;omega
  refine rCt 2 U (An (rXt 10 U (Ai U (.tmp (Aa U) (Ol U)) ?_)));exact⟨_,⟨L,slQ d,slC d,true,⟨rfl,fun _=>⟨hL,(B3 (enc:=encGvh) (X:=((n5,Cl (encPo m) 28)::H)) (fun _=>rfl) hd).mono (List.sublist_append_right _ _),fun k hk=>(hS k hk).mono ((List.Sublist.refl A).append (List.sublist_append_right _ _))⟩⟩,(show H.Sublist (A++(slH d (L.flatMap encGvh) 58++((n5,Cl (encPo m) 28)::H))) by exact sbt)⟩,sb0⟩
theorem setL_mid:∀ (pre l post vs:List Value),l.length=vs.length->setL (pre++(l++post)) pre.length vs=pre++(vs++post):=by
 intro pre l post vs
 induction vs generalizing pre l with
 |nil=>intro h;have:l=[]:=List.eq_nil_of_length_eq_zero h;simp[setL,this]
 |cons v vs ih=>
  intro h;cases l with
  |nil=>simp at h
  |cons y l=>
   rw[setL];have e3:(pre++(y::l++post)).set pre.length v=(pre++[v])++(l++post):=by simp
   rw[e3];have:=ih (pre++[v]) l (by simpa using h);simp only[List.length_append,List.length_cons,List.length_nil,Nat.zero_add] at this;rw[this];simp
theorem H3 {P:Program}{w0:World}{L:Fm}{H:Mm}{ty t:TypeId}{x y:Operand}{n o m:Nat}{v:Value}{vs pre l post:List Value}{t':TypeId}{H':Mm}(ho:o=pre.length)(hx:Ev L x (Pt n o))(hy:Ev L y v)(hz:∀ w,(sizeOf t).run P w= .ok m w)(hc:Cs v vs)(hv:vs.all oneB=true)(hm:vs.length=m)
  (hu:Upd H n (Cl (pre++(l++post)) t') (Cl (pre++(vs++post)) t') H') (hl:l.length=vs.length):Eff P w0 (.store t x y) ty L H (Still undef H'):=
 Ik hx hy hc hv (by rw[hm];exact hz) (by rw[ho,setL_mid pre l post vs hl];exact hu) (by rw[ho,List.length_append,List.length_append];omega)
def ansC (kn:Bool) (h:Hd) (is:Bool):List Value:=[.bool kn]++(hdC h++[.bool is])
theorem A3 {kn is:Bool}{h:Hd}(hh:HdOk h):(ansC kn h is).length=12:=by unfold ansC;simp[Af hh]
theorem B4 (kn:Bool)(h:Hd)(is:Bool):(ansC kn h is).all oneB=true:=by
 unfold ansC;rw[List.all_append,List.all_append,Bc];rfl
section
variable {w0:World} {H:Mm} {n:Nat} {t:TypeId} {kn is:Bool} {h:Hd}
theorem ans_hd (hf:Fnd H n (Cl (ansC kn h is) t)):Cells w0 H n (0+1) (hdC h):=fun i v hi=>by
 have:=Ae (w0:=w0) hf (1+i) v (by unfold ansC;rw[show 1+i=i+1 by omega];show (hdC h++[Value.bool is])[i]? =some v;rw[List.getElem?_append_left (List.getElem?_eq_some_iff.1 hi).1];exact hi)
 rwa [<- Nat.add_assoc] at this
theorem ans_is (hh:HdOk h)(hf:Fnd H n (Cl (ansC kn h is) t)):Cell w0 H ⟨n,0+11,none⟩ (.bool is):=Ae (w0:=w0) hf 11 (.bool is) (by
 unfold ansC;show (hdC h++[Value.bool is])[10]? =some (.bool is);rw[List.getElem?_append_right (by rw[Af hh];omega),Af hh];rfl)
end
theorem rles_s (kn:Bool)(h:Hd)(hh:HdOk h)(is:Bool)(x:Hd)(hx:HdOk x):
  FSpec prog w0 53 #[.agg (ansC kn h is).toArray, .agg (hdC x).toArray] H (Still (.agg (ansC kn (lesH h is x) (lesI h is x)).toArray) H):=by
 refine Am func53 U ntmps53 U ?_;have hlo:=K1 (is:=is) hh hx;refine rDt 2 U (e_ (Ot U cs_) ?_ U);rintro _ _ ⟨n2,rfl,rfl⟩;refine e_ (Ot U cs_) ?_ U;rintro _ _ ⟨n3,rfl,rfl⟩;refine e_ (Ag zeroValue38 cs_) ?_ U;rintro _ _ ⟨n4,rfl,rfl⟩;refine rOt 6 U ?_;refine y_ (Om U isAgg4 (by first|exact c_o|exact ans_is hh fndq)) ?_ U;refine rOt 1 U ?_
 first|refine Aq (s:=7) (Aa U) (fun c7=> ?_) (fun c7=> ?_)|refine C0 (s:=7) (Aa U) (fun c7=> ?_) (fun c7=> ?_)
 ·have ho9:=hx;have hb9:lesB h is x=true:=by simp[lesB,c7]
  refine rOt 11 U ?_;refine y_ (On U isAgg32 sizeOf32 (Af hx) (by exact Ae fndq)) ?_ U;refine rOt 1 U (e_ (H3 (pre:=[.bool kn]) (l:=hdC h) (post:=[.bool is]) U (T U) (T U) sizeOf32 .agg (Bc _) (Af hx) updq (by rw[Af hh,Af hx])) ?_ U);rintro _ _ ⟨rfl,rfl⟩;refine rOt 4 U (e_ (H3 (pre:=[.bool kn]++hdC x) (l:=[.bool is]) (post:=[]) (by rw[List.length_append,Af hx];rfl) (T U) Al sizeOf4 (.one U) U U updq U) ?_ U);rintro _ _ ⟨rfl,rfl⟩;rw[show ([Value.bool kn]++hdC x)++([Value.bool false]++[])=ansC kn x false from (by unfold ansC;rw[List.append_nil,List.append_assoc])];refine rOt 4 U ?_;refine y_ (On U isAgg38 sizeOf38 (A3 ho9) (by exact Ae fndq)) ?_ U;refine e_ (Oq U U sizeOf38 .agg (B4 _ _ _) (A3 ho9) updq (by rw[A3 ho9];rfl)) ?_ U;rintro _ _ ⟨rfl,rfl⟩;refine rOt 3 U (Ai U (.cellA (Aa U) isAgg38 sizeOf38 (A3 ho9) qcs .nil) ?_);refine⟨_,⟨?_,rfl⟩,sbt⟩;unfold lesH lesI
  (rw[if_pos hb9,if_pos hb9];rfl)
 ·skip
  refine A6 (On U isAgg32 sizeOf32 (Af hx) (by exact Ae fndq)) U (A7 U U (Aa U)) ?_;refine rOt 1 U ?_;refine A6 (On U isAgg32 sizeOf32 (Af hh) (by exact ans_hd (kn:=kn) (is:=is) fndq)) U (A7 U U (Aa U)) ?_;refine A6 (Ao (evq2 U U) call30 (fun H' hs=>cmp18_s x h hx hh)) U (A7 U U (Aa U)) (rOt 4 U ?_);refine jcd U (fun c13=> ?_) (fun c13=> ?_)
  ·have ho9:=hx;have hb9:lesB h is x=true:=by have h9:cmpL x h<0:=c13;simp[lesB,h9]
   refine rCt 2 U ?_;refine y_ (On U isAgg32 sizeOf32 (Af hx) (by exact Ae fndq)) ?_ U;refine rOt 1 U (e_ (H3 (pre:=[.bool kn]) (l:=hdC h) (post:=[.bool is]) U (T U) (T U) sizeOf32 .agg (Bc _) (Af hx) updq (by rw[Af hh,Af hx])) ?_ U);rintro _ _ ⟨rfl,rfl⟩;refine rOt 4 U (e_ (H3 (pre:=[.bool kn]++hdC x) (l:=[.bool is]) (post:=[]) (by rw[List.length_append,Af hx];rfl) (T U) Al sizeOf4 (.one U) U U updq U) ?_ U);rintro _ _ ⟨rfl,rfl⟩;rw[show ([Value.bool kn]++hdC x)++([Value.bool false]++[])=ansC kn x false from (by unfold ansC;rw[List.append_nil,List.append_assoc])];refine rOt 4 U ?_;refine y_ (On U isAgg38 sizeOf38 (A3 ho9) (by exact Ae fndq)) ?_ U;refine e_ (Oq U U sizeOf38 .agg (B4 _ _ _) (A3 ho9) updq (by rw[A3 ho9];rfl)) ?_ U;rintro _ _ ⟨rfl,rfl⟩;refine rOt 3 U (Ai U (.cellA (Aa U) isAgg38 sizeOf38 (A3 ho9) qcs .nil) ?_);refine⟨_,⟨?_,rfl⟩,sbt⟩;unfold lesH lesI
   (rw[if_pos hb9,if_pos hb9];rfl)
  ·have ho9:=hh;have hb9: ¬ lesB h is x=true:=by have h9: ¬ cmpL x h<0:=c13;unfold lesB;rw[c7,Bool.false_or,decide_eq_true_iff];exact h9
   refine rCt 4 U ?_;refine y_ (On U isAgg38 sizeOf38 (A3 ho9) (by exact Ae fndq)) ?_ U;refine e_ (Oq U U sizeOf38 .agg (B4 _ _ _) (A3 ho9) updq (by rw[A3 ho9];rfl)) ?_ U;rintro _ _ ⟨rfl,rfl⟩;refine rOt 3 U (Ai U (.cellA (Aa U) isAgg38 sizeOf38 (A3 ho9) qcs .nil) ?_);refine⟨_,⟨?_,rfl⟩,sbt⟩;unfold lesH lesI
   first|(rw[if_pos hb9,if_pos hb9];rfl)|(rw[if_neg hb9,if_neg hb9];rfl)
end Go.Proofs.YtkgfmjanajdibaaGreat
