/-
  A part of what LawG rests on: the logic, walks and plain laws. No condition.
-/
import Derived.Test.YtpkijiejccngcaaGreatDoorPG3
namespace Go.Proofs.YtpkijiejccngcaaGreatDoor
open _root_.Go.Proofs.Tryz
open Go.RowKit
set_option linter.unusedVariables false
set_option linter.unusedSimpArgs false
set_option linter.unusedSectionVars false
set_option maxRecDepth 100000
theorem read_seq {w0:World}{q:Option Addr}{c:Nat}{ma mb:Rxm}{a b:Re}(iha:ReadS w0 ma a)(ihb:ReadS w0 mb b):ReadS w0 (.mk 4 ⟨#[]⟩ q c [ma,mb]) (.seq a b):=by
 intro R nt d1 d2 t hM hok1 hok2 ht hl;show FSpec Tryz.prog w0 143 #[.pointer (some ⟨nt,0,none⟩), .agg #[.int .i64 4, .string ⟨#[]⟩, .slice q 2 c]] (ltH nt d1 d2 t++R) _;simp only[Re.lv] at hl;obtain⟨hA,hMM,_,_⟩:=hM;have hMa:=hMM ma (by simp);have hMb:=hMM mb (by simp);refine Ao Tryz.func143 U ntmps143 U (rD tb 2 U (e_ (Lf U cs_) ?_ U));rintro _ _ ⟨n3,rfl,rfl⟩;refine e_ (Ai zeroValue206 cs_) ?_ U;rintro _ _ ⟨n4,rfl,rfl⟩;refine rO tb 6 U (y_ (Lb U isAgg3 qco) ?_ U);refine rO tb 17 U ?_;refine Ad (Aa U) (fun c17=> ?_) (fun c17=> ?_)
 ·exfalso;omega
 ·refine rC tb 5 U ?_;refine Ad (Aa U) (fun c17=> ?_) (fun c17=> ?_)
  ·exfalso;omega
  ·refine rC tb 18 U (y_ (Lb U isAgg54 qco) ?_ U);refine y_ (Bi (T U) Ap runUnderlying54 sizeOf56 qom (by first|exact rfl|exact hA.b0)) ?_ U;refine y_ (Lc U isAgg56 sizeOf56 U (by exact hA.cs0)) ?_ U;refine e_ (Ak (qe2 U U) call143 (A6 (ltH nt d1 d2 t) qlc (iha _ nt d1 d2 t (hMa.mono sbt) hok1 hok2 (ht.mono sbt) qom))) ?_ U;rintro _ _ ⟨⟨e1,e2,t1,E1,M1⟩,⟨rfl,ho1,ho2,hr1⟩,rfl⟩;simp only[List.append_assoc] at hr1 ⊢;have hl1:=hr1.len;obtain⟨ht1,hE1⟩:=hr1.ok R ht;refine e_ (Ai zeroValue206 cs_) ?_ U;rintro _ _ ⟨n8,rfl,rfl⟩;refine Aw (Le U U sizeOf206) U Ac ?_;rintro _ _ ⟨rfl,rfl⟩;refine rO tb 6 U (y_ (Lb U isAgg54 qco) ?_ U);refine y_ (Bi (T U) Ap runUnderlying54 sizeOf56 qom (by first|exact rfl|exact hA.b0)) ?_ U;refine y_ (Lc U isAgg56 sizeOf56 U (by exact hA.cs1)) ?_ U;refine e_ (Ak (qe2 U U) call143 (A6 (ltH nt e1 e2 t1) qlc (ihb _ nt e1 e2 t1 (hMb.mono sbt) ho1 ho2 (ht1.mono sbt) qom))) ?_ U;rintro _ _ ⟨⟨f1,f2,t2,E2,M2⟩,⟨rfl,ho3,ho4,hr2⟩,rfl⟩;simp only[List.append_assoc] at hr2 ⊢;have hl2:=hr2.len;obtain⟨ht2,hE2⟩:=hr2.ok (M1++R) ht1;have hE1b:EqOk w0 (M2++(M1++R)) t2.lv.length E1:=hE1.mono qom (List.sublist_append_right _ _);have w1:=hE1b.s1.len;have w2:=hE1b.s2.len;have w3:=hE2.s1.len;have w4:=hE2.s2.len;have w5:=ht2.few;refine Fb (List.Perm.cons _ (List.Perm.cons _ (List.Perm.cons _ (List.perm_append_comm_assoc _ _ _)))) (e_ (Ai zeroValue206 cs_) ?_ U);rintro _ _ ⟨n9,rfl,rfl⟩;refine Aw (Le U U sizeOf206) U Ac ?_;rintro _ _ ⟨rfl,rfl⟩;refine kO tb 2 [0,4,8,9] rfl U (rG tb 4 U (y_ (Lb U isAgg27 qco) ?_ U));refine rO tb 1 U (y_ (Lb U isAgg27 qco) ?_ U);refine e_ (Ak (qe3 U U U) call177 (A6 (ltH nt f1 f2 t2) qlc (lead_s nt f1 f2 t2 ho4 (ht2.mono sbt) E1.pe.last E2.pe.first E1.q2 E2.q1 E1.c2 E2.c1 (hE1b.a2.mono sbt) (hE2.a1.mono sbt) hE1b.s2 hE2.s1))) ?_ U;rintro _ _ ⟨⟨fol3,M3⟩,⟨hfo3,hx3,ho5⟩,rfl⟩;simp only[List.append_assoc] at hx3 ⊢;refine Fb (List.Perm.cons _ (List.Perm.cons _ (List.Perm.cons _ (List.Perm.cons _ (List.Perm.trans (List.Perm.append_left _ (List.perm_append_comm_assoc _ _ _)) (List.perm_append_comm_assoc _ _ _)))))) (rO tb 2 U ?_);refine Dm (X:=Nat × Bool) (V:=fun ⟨m10,x⟩=>[(10, .pointer (some ⟨m10,0,none⟩))]) (C:=[(4,_),(8,_),(9,_)]) (G:=fun ⟨m10,x⟩=>(m10,Cl [.slice E1.q1 E1.pe.first.length E1.c1, .slice E2.q2 E2.pe.last.length E2.c2, .bool x] 206)::(n9,Cl (encEQ E2) 206)::(n8,Cl (encEQ E1) 206)::(n4,Cl [.slice none 0 0, .slice none 0 0, .bool false] 206)::(n3,Cl [.int .i64 4, .string ⟨#[]⟩, .slice q 2 c] 56)::(M3++(M2++(M1++(ltH nt f1 f2 ⟨t2.lv,fol3⟩++R))))) (φ:=fun ⟨m10,x⟩=>x=(E1.pe.emp&&E2.pe.emp)) ⟨Aa rfl,Aa rfl,Aa rfl,trivial⟩ ?_ ?_
   ·refine rD tb 2 U (y_ (Lb U isAgg27 qco) ?_ U);refine rO tb 1 U (y_ (Lb U isAgg27 qco) ?_ U);refine rO tb 1 U (y_ (Lb U isAgg4 qco) ?_ U);refine rO tb 1 U ?_
    first|refine A4 (s:=107) (Aa U) (fun c107=> ?_) (fun c107=> ?_)|refine Ej (s:=107) (Aa U) (fun c107=> ?_) (fun c107=> ?_)
    ·refine rO tb 1 U (A5 (Lb U isAgg4 qco) U (Az U U (Aa U)) ?_);refine rO tb 1 U (y_ (A0 (.cons (T U) (.cons (T U) (.cons (T U) .nil))) (Eb _ _ _ _ _ _ _)) (e_ (Ai zeroValue206 cs_) ?_ U) U);rintro _ _ ⟨n10,rfl,rfl⟩;refine Aw (Le U U sizeOf206) U Ac ?_;rintro _ _ ⟨rfl,rfl⟩;refine rO tb 1 U ?_;refine Bb ((n10,E2.pe.emp)) ?_ ⟨qat,trivial⟩ ⟨Aa U,Aa U,Aa U,trivial⟩ sbt;simp[c107]
    ·refine rO tb 3 U (y_ (A0 (.cons (T U) (.cons (T U) (.cons (T U) .nil))) (Eb _ _ _ _ _ _ _)) (e_ (Ai zeroValue206 cs_) ?_ U) U);rintro _ _ ⟨n10,rfl,rfl⟩;refine Aw (Le U U sizeOf206) U Ac ?_;rintro _ _ ⟨rfl,rfl⟩;refine rO tb 1 U ?_;refine Bb ((n10,false)) ?_ ⟨qat,trivial⟩ ⟨Aa U,Aa U,Aa U,trivial⟩ sbt;simp[c107]
   rintro⟨m10,x⟩ hxe;refine Dm (X:=Option Addr × Nat × List Nat × List (Nat × Obj)) (V:=fun ⟨q5,c5,l5,M5⟩=>[]) (C:=[(4,_),(8,_),(9,_),(10,_)]) (G:=fun ⟨q5,c5,l5,M5⟩=>M5++((m10,Cl [.slice q5 l5.length c5, .slice E2.q2 E2.pe.last.length E2.c2, .bool x] 206)::(n9,Cl (encEQ E2) 206)::(n8,Cl (encEQ E1) 206)::(n4,Cl [.slice none 0 0, .slice none 0 0, .bool false] 206)::(n3,Cl [.int .i64 4, .string ⟨#[]⟩, .slice q 2 c] 56)::(M3++(M2++(M1++(ltH nt f1 f2 ⟨t2.lv,fol3⟩++R)))))) (φ:=fun ⟨q5,c5,l5,M5⟩=>l5=(if E1.pe.emp then mergeF E1.pe.first E2.pe.first else E1.pe.first)∧l5.length≤c5∧∀ X,Arr w0 X E1.q1 1 encU E1.pe.first→Arr w0 (M5++X) q5 1 encU l5) ⟨Aa rfl,Aa rfl,Aa rfl,Aa rfl,trivial⟩ ?_ ?_
   ·refine rD tb 3 U (y_ (Lb U isAgg4 qco) ?_ U);refine rO tb 2 U ?_
    first|refine Ad (Aa U) (fun c113=> ?_) (fun c113=> ?_)|refine Bq (Aa U) (fun c113=> ?_) (fun c113=> ?_)
    ·refine rC tb 2 U (y_ (Lb U isAgg27 qco) ?_ U);refine rO tb 1 U (y_ (Lb U isAgg27 qco) ?_ U);refine e_ (Ak (qe2 U U) call171 (Hn E1.pe.first E1.q1 E1.c1 (hE1b.a1.mono sbt) hE1b.k1 E2.pe.first E2.q1 E2.c1 (hE2.a1.mono sbt) qom)) ?_ U;rintro _ _ ⟨q7,c7,M7,⟨rfl,hc7,hA7⟩,rfl⟩;refine rO tb 1 U ?_
     first|refine Aw (Le U U sizeOf27) U Ac ?_|refine Aw (Bs (T U) (T U) U sizeOf27) U Ac ?_|refine Aw (Bj (T U) (T U) U sizeOf27) U Ac ?_
     rintro _ _ ⟨rfl,rfl⟩;refine rO tb 1 U (Bb ((q7,c7,mergeF E1.pe.first E2.pe.first,M7)) ?_ trivial ⟨Aa U,Aa U,Aa U,Aa U,trivial⟩ sbt);exact⟨by rw[if_pos c113],hc7,hA7⟩
    ·refine rC tb 1 U (Bb ((E1.q1,E1.c1,E1.pe.first,[])) ?_ trivial ⟨Aa U,Aa U,Aa U,Aa U,trivial⟩ sbt)
     first|exact⟨by rw[if_pos c113],hc7,hA7⟩|exact⟨by rw[if_neg (by rw[c113];exact Bool.false_ne_true)],hE1b.k1,fun X hX=>hX⟩
   rintro⟨q5,c5,l5,M5⟩ ⟨e5,k5,h5⟩;refine Dm (X:=Option Addr × Nat × List Nat × List (Nat × Obj)) (V:=fun ⟨q6,c6,l6,M6⟩=>[]) (C:=[(4,_),(10,_)]) (G:=fun ⟨q6,c6,l6,M6⟩=>M6++(M5++((m10,Cl [.slice q5 l5.length c5, .slice q6 l6.length c6, .bool x] 206)::(n9,Cl (encEQ E2) 206)::(n8,Cl (encEQ E1) 206)::(n4,Cl [.slice none 0 0, .slice none 0 0, .bool false] 206)::(n3,Cl [.int .i64 4, .string ⟨#[]⟩, .slice q 2 c] 56)::(M3++(M2++(M1++(ltH nt f1 f2 ⟨t2.lv,fol3⟩++R))))))) (φ:=fun ⟨q6,c6,l6,M6⟩=>l6=(if E2.pe.emp then mergeF E2.pe.last E1.pe.last else E2.pe.last)∧l6.length≤c6∧∀ X,Arr w0 X E2.q2 1 encU E2.pe.last→Arr w0 (M6++X) q6 1 encU l6) ⟨Aa rfl,Aa rfl,trivial⟩ ?_ ?_
   ·refine rD tb 3 U (y_ (Lb U isAgg4 qco) ?_ U);refine rO tb 2 U ?_
    first|refine Ad (Aa U) (fun c121=> ?_) (fun c121=> ?_)|refine Bq (Aa U) (fun c121=> ?_) (fun c121=> ?_)
    ·refine rC tb 2 U (y_ (Lb U isAgg27 qco) ?_ U);refine rO tb 1 U (y_ (Lb U isAgg27 qco) ?_ U);refine e_ (Ak (qe2 U U) call171 (Hn E2.pe.last E2.q2 E2.c2 (hE2.a2.mono sbt) hE2.k2 E1.pe.last E1.q2 E1.c2 (hE1b.a2.mono sbt) qom)) ?_ U;rintro _ _ ⟨q7,c7,M7,⟨rfl,hc7,hA7⟩,rfl⟩;refine rO tb 1 U ?_
     first|refine Aw (Le U U sizeOf27) U Ac ?_|refine Aw (Bs (T U) (T U) U sizeOf27) U Ac ?_|refine Aw (Bj (T U) (T U) U sizeOf27) U Ac ?_
     rintro _ _ ⟨rfl,rfl⟩;refine rO tb 1 U (Bb ((q7,c7,mergeF E2.pe.last E1.pe.last,M7)) ?_ trivial ⟨Aa U,Aa U,trivial⟩ sbt);exact⟨by rw[if_pos c121],hc7,hA7⟩
    ·refine rC tb 1 U (Bb ((E2.q2,E2.c2,E2.pe.last,[])) ?_ trivial ⟨Aa U,Aa U,trivial⟩ sbt)
     first|exact⟨by rw[if_pos c121],hc7,hA7⟩|exact⟨by rw[if_neg (by rw[c121];exact Bool.false_ne_true)],hE2.k2,fun X hX=>hX⟩
   rintro⟨q6,c6,l6,M6⟩ ⟨e6,k6,h6⟩;refine rC tb 2 U (y_ (Lc U isAgg206 sizeOf206 U qcs) ?_ U);refine Aw (Le U U sizeOf206) U Ac ?_;rintro _ _ ⟨rfl,rfl⟩;refine rO tb 5 U (Ah U (.cellA (Aa U) isAgg206 sizeOf206 U qcs .nil) ?_);exact⟨_,⟨(f1,f2,⟨t2.lv,fol3⟩,⟨⟨l5,l6,x⟩,q5,c5,q6,c6⟩,M6++(M5++(M3++(M2++M1)))),⟨rfl,ho3,ho5,RdOk.seq hr1 hr2 hfo3 hx3 e5 k5 h5 e6 k6 h6 hxe⟩,rfl⟩,by simp only[List.append_assoc];exact sbt⟩
theorem read_star {w0:World}{q:Option Addr}{c:Nat}{ma:Rxm}{a:Re}(iha:ReadS w0 ma a):ReadS w0 (.mk 6 ⟨#[]⟩ q c [ma]) (.star a):=by
 intro R nt d1 d2 t hM hok1 hok2 ht hl;show FSpec Tryz.prog w0 143 #[.pointer (some ⟨nt,0,none⟩), .agg #[.int .i64 6, .string ⟨#[]⟩, .slice q 1 c]] (ltH nt d1 d2 t++R) _;simp only[Re.lv] at hl;obtain⟨hA,hMM,_,_⟩:=hM;have hMa:=hMM ma (by simp);refine Ao Tryz.func143 U ntmps143 U (rD tb 2 U (e_ (Lf U cs_) ?_ U));rintro _ _ ⟨n3,rfl,rfl⟩;refine e_ (Ai zeroValue206 cs_) ?_ U;rintro _ _ ⟨n4,rfl,rfl⟩;refine rO tb 6 U (y_ (Lb U isAgg3 qco) ?_ U);refine rO tb 17 U ?_;refine Ad (Aa U) (fun c17=> ?_) (fun c17=> ?_)
 ·exfalso;omega
 ·refine rC tb 5 U ?_;refine Ad (Aa U) (fun c17=> ?_) (fun c17=> ?_)
  ·exfalso;omega
  ·refine rC tb 21 U (y_ (Lb U isAgg54 qco) ?_ U);refine y_ (Bi (T U) Ap runUnderlying54 sizeOf56 qom (by first|exact rfl|exact hA.b0)) ?_ U;refine y_ (Lc U isAgg56 sizeOf56 U (by exact hA.cs0)) ?_ U;refine e_ (Ak (qe2 U U) call143 (A6 (ltH nt d1 d2 t) qlc (iha _ nt d1 d2 t (hMa.mono sbt) hok1 hok2 (ht.mono sbt) qom))) ?_ U;rintro _ _ ⟨⟨e1,e2,t1,E1,M1⟩,⟨rfl,ho1,ho2,hr1⟩,rfl⟩;simp only[List.append_assoc] at hr1 ⊢;obtain⟨ht1,hE1⟩:=hr1.ok R ht;refine e_ (Ai zeroValue206 cs_) ?_ U;rintro _ _ ⟨n11,rfl,rfl⟩;refine Aw (Le U U sizeOf206) U Ac ?_;rintro _ _ ⟨rfl,rfl⟩;refine rO tb 6 U (y_ (Lb U isAgg27 qco) ?_ U);refine rO tb 1 U (y_ (Lb U isAgg27 qco) ?_ U);refine e_ (Ak (qe3 U U U) call177 (A6 (ltH nt e1 e2 t1) qlc (lead_s nt e1 e2 t1 ho2 (ht1.mono sbt) E1.pe.last E1.pe.first E1.q2 E1.q1 E1.c2 E1.c1 (hE1.a2.mono sbt) (hE1.a1.mono sbt) hE1.s2 hE1.s1))) ?_ U;rintro _ _ ⟨⟨fol3,M3⟩,⟨hfo3,hx3,ho5⟩,rfl⟩;simp only[List.append_assoc] at hx3 ⊢;refine Fb (List.Perm.cons _ (List.Perm.cons _ (List.Perm.cons _ (List.perm_append_comm_assoc _ _ _)))) (rO tb 5 U (y_ (Lb U isAgg27 qco) ?_ U));refine rO tb 1 U (y_ (Lb U isAgg27 qco) ?_ U);refine y_ (A0 (.cons (T U) (.cons (T U) (.cons Ap .nil))) (Eb _ _ _ _ _ _ _)) ?_ U;refine Aw (Le U U sizeOf206) U Ac ?_;rintro _ _ ⟨rfl,rfl⟩;refine kO tb 2 [4] rfl U (rG tb 1 U (Ah U (.cellA (Aa U) isAgg206 sizeOf206 U qcs .nil) ?_));exact⟨_,⟨(e1,e2,⟨t1.lv,fol3⟩,⟨⟨E1.pe.first,E1.pe.last,true⟩,E1.q1,E1.c1,E1.q2,E1.c2⟩,M3++M1),⟨rfl,ho1,ho5,RdOk.star hr1 hfo3 hx3⟩,rfl⟩,by simp only[List.append_assoc];exact sbt⟩
theorem read_s {w0:World}{m:Rxm}{e:Re}(h:Is m e):ReadS w0 m e:=by
 induction h with
 |emp=>exact read_emp
 |nod h=>exact read_nod h
 |any=>exact read_any
 |seq _ _ ih1 ih2=>exact read_seq ih1 ih2
 |alt _ _ ih1 ih2=>exact read_alt ih1 ih2
 |star _ ih=>exact read_star ih
def takP (s:ByteArray) (names:List ByteArray) (a:Nat):Bool:=decide (s=⟨#[]⟩)||(decide (a<names.length)&&decide (s=gd names a))
theorem takR_eq {m:Rxm}(h:LfOk m)(names:List ByteArray)(a:Nat):takR m names a=takP m.node names a:=by
 unfold takR takP;rcases h with ⟨h1,h2⟩|⟨h1,h2⟩
 ·rw[decide_eq_false (show ¬ m.kind=3 by omega),decide_eq_false (show ¬ m.node=⟨#[]⟩ from fun e=>h2 (by rw[e];rfl))]
 ·rw[decide_eq_true h1,decide_eq_true h2,Bool.true_or]
def nxR (fol:List (List Nat)) (first:List Nat) (s:Int):List Nat:=if 0≤s then gd fol s.toNat else first
def tkR (nms names:List ByteArray) (a:Nat) (to nx:List Nat):List Nat:=nx.foldl (fun to i=>if takP (gd nms i) names a then putF i to else to) to
theorem tkR_take {nms names:List ByteArray}{a:Nat}{to nx:List Nat}{i:Nat}(h:i<nx.length):tkR nms names a to (nx.take (i+1))=if takP (gd nms (gd nx i)) names a then putF (gd nx i) (tkR nms names a to (nx.take i)) else tkR nms names a to (nx.take i):=by
 unfold tkR;rw[Ch h];simp
theorem Srn.put {n k:Nat}{l:List Nat}(h:Srn n l)(hk:k<n):Srn n (putF k l):=⟨putF_srt h.1,fun x hx=>(mem_putF.1 hx).elim (fun e=>by rw[e];exact hk) (h.2 x)⟩
theorem tkR_srn {n:Nat}{nms names:List ByteArray}{a:Nat}:∀ {nx to:List Nat},Srn n to→(∀ x∈nx,x<n)→Srn n (tkR nms names a to nx)
 |[],_,h,_=>h
 |x::nx,to,h,hn=>by
  have e:tkR nms names a to (x::nx)=tkR nms names a (if takP (gd nms x) names a then putF x to else to) nx:=rfl;rw[e];refine tkR_srn ?_ fun y hy=>hn y (by simp[hy])
  split
  ·exact h.put (hn x (by simp))
  ·exact h
def stR (t:PT) (first:List Nat) (names:List ByteArray) (a:Nat) (st:List Int):List Nat:=st.foldl (fun to s=>tkR t.nms names a to (nxR t.fol first s)) []
theorem stR_take {t:PT}{first:List Nat}{names:List ByteArray}{a:Nat}{st:List Int}{j:Nat}(h:j<st.length):stR t first names a (st.take (j+1))=tkR t.nms names a (stR t first names a (st.take j)) (nxR t.fol first (gd st j)):=by
 unfold stR;rw[Ch h];simp
def addL (l:List (List Int)) (s:List Int):List (List Int):=if s∈l then l else l++[s]
def rwR (t:PT) (first:List Nat) (names:List ByteArray) (st:List Int) (l:List (List Int)):Nat→List (List Int) × List Nat
 |0=>(l,[])
 |a+1=>(addL (rwR t first names st l a).1 (toInts (stR t first names a st)),(rwR t first names st l a).2++[idx (rwR t first names st l a).1 (toInts (stR t first names a st))])
theorem E5 (t:PT)(first:List Nat)(names:List ByteArray)(st:List Int)(l:List (List Int))(a:Nat):rwR t first names st l (a+1)=(addL (rwR t first names st l a).1 (toInts (stR t first names a st)),(rwR t first names st l a).2++[idx (rwR t first names st l a).1 (toInts (stR t first names a st))]):=rfl
theorem addL_len (l:List (List Int))(s:List Int):l.length≤(addL l s).length:=by
 unfold addL;split<;>simp
theorem addL_get {l:List (List Int)}{s:List Int}{k:Nat}(h:k<l.length):gd (addL l s) k=gd l k:=by
 unfold addL;split
 ·rfl
 ·rw[An h,An (by simp;omega)];simp[List.getElem_append,h]
theorem Jw (t:PT)(first:List Nat)(names:List ByteArray)(st:List Int)(l:List (List Int)):∀ a,(rwR t first names st l a).2.length=a∧l.length≤(rwR t first names st l a).1.length
 |0=>⟨rfl,Nat.le_refl _⟩
 |a+1=>by
  obtain⟨h1,h2⟩:=Jw t first names st l a
  have h4:=addL_len (rwR t first names st l a).1 (toInts (stR t first names a st));rw[E5];exact⟨by simp[h1],by simp only[];omega⟩
theorem rwR_mono (t:PT)(first:List Nat)(names:List ByteArray)(st:List Int)(l:List (List Int))(a:Nat):∀ d,(rwR t first names st l a).1.length≤(rwR t first names st l (a+d)).1.length
 |0=>Nat.le_refl _
 |d+1=>by
  have h1:=rwR_mono t first names st l a d
  have h4:=addL_len (rwR t first names st l (a+d)).1 (toInts (stR t first names (a+d) st));rw[← Nat.add_assoc,E5];simp only[];omega
theorem rwR_get (t:PT)(first:List Nat)(names:List ByteArray)(st:List Int)(l:List (List Int)){k:Nat}(h:k<l.length):∀ a,gd (rwR t first names st l a).1 k=gd l k
 |0=>rfl
 |a+1=>by
  rw[E5];have:=(Jw t first names st l a).2;rw[addL_get qom];exact rwR_get t first names st l h a
def acR (E:PE) (k:Nat) (st:List Int):Bool:=(decide (k=0)&&E.emp)||st.any fun s=>decide (s∈toInts E.last)
def rawGoR (t:PT) (E:PE) (names:List ByteArray):Nat→Nat→List (List Int)→List (List Nat)→List Bool→Option (List (List Nat) × List Bool)
 |0,_,_,_,_=>none
 |f+1,k,l,rows,acc=>if k<l.length then (if 200<(rwR t E.first names (gd l k) l (names.length+1)).1.length then none else rawGoR t E names f (k+1) (rwR t E.first names (gd l k) l (names.length+1)).1 (rows++[(rwR t E.first names (gd l k) l (names.length+1)).2]) (acc++[acR E k (gd l k)])) else some (rows,acc)
theorem Fi (t:PT)(E:PE)(names:List ByteArray)(f k:Nat)(l:List (List Int))(rows:List (List Nat))(acc:List Bool):rawGoR t E names (f+1) k l rows acc=if k<l.length then (if 200<(rwR t E.first names (gd l k) l (names.length+1)).1.length then none else rawGoR t E names f (k+1) (rwR t E.first names (gd l k) l (names.length+1)).1 (rows++[(rwR t E.first names (gd l k) l (names.length+1)).2]) (acc++[acR E k (gd l k)])) else some (rows,acc):=rfl
def rawR (e:Re) (names:List ByteArray):Option (List (List Nat) × List Bool):=rawGoR (readP e ⟨[],[]⟩).1 (readP e ⟨[],[]⟩).2 names 201 0 [[-1]] [] []
theorem mem_toInts {l:List Nat}{x:Int}:x∈toInts l↔∃ k:Nat,k∈l∧(k:Int)=x:=by simp[toInts]
theorem hasZ_s {w0:World}{H:List (Nat × Obj)}(l:List Nat)(q:Option Addr)(c:Nat)(hA:Arr w0 H q 1 encU l)(hl:l.length≤100000)(n:Int):
  FSpec Tryz.prog w0 127 #[.slice q l.length c, .int .i64 n] H (Still (.bool (decide (n∈toInts l))) H):=by
 refine Ao Tryz.func127 U ntmps127 U (rD tb 12 U ?_);refine Bd (X:=Nat) (V:=fun k=>[(5, .int .i64 (k:Nat))]) (C:=[(0,_),(1,_)]) (φ:=fun k=>k≤l.length∧∀ j,j<k→¬ ((gd l j:Nat):Int)=n) (μ:=fun k=>l.length - k) (x0:=0) ?_ ⟨Aa U,Aa U,trivial⟩ ⟨qat,trivial⟩ ?_
 ·exact⟨Nat.zero_le _,fun j hj=>by omega⟩
 rintro k ⟨hk,hno⟩;refine rD tb 9 U ?_;refine Ad (Aa U) (fun c9=> ?_) (fun c9=> ?_)
 ·refine rC tb 8 U (y_ (Ld U U runUnderlying27 sizeOf3 qom (by first|exact rfl|exact hA.b (i:=k) qom)) ?_ U);refine y_ (Lb U isAgg3 (by first|exact c_o|exact cell1 ((hA.mono sbt).cs (i:=k) qom))) ?_ U;refine rO tb 4 U ?_;refine Ad (Aa U) (fun c17=> ?_) (fun c17=> ?_)
  ·refine rC tb 8 U (As (rX tb 2 U (Ah U (K9 U) ?_)));exact⟨_,⟨vbool (by symm;exact decide_eq_true (mem_toInts.2 ⟨gd l k,Af qom,by omega⟩)),rfl⟩,sbt⟩
  ·refine rC tb 5 U (y_ (Av (T U) Ap qom) ?_ U);refine rO tb 2 U ?_;refine Ar (k+1) ?_ ?_ ⟨qat,trivial⟩ ⟨Aa U,Aa U,trivial⟩ ?_
   ·refine⟨by omega,fun j hj=> ?_⟩
    by_cases e:j=k
    ·subst e;omega
    ·exact hno j qom
   ·omega
   ·exact sbt
 ·refine rC tb 2 U (Ag (rX tb 8 U (Ah U (K9 U) ?_)));exact⟨_,⟨vbool (by symm;exact decide_eq_false fun hm=>by obtain⟨x,h1,h2⟩:=mem_toInts.1 hm;obtain⟨j,h3,h4⟩:=mem_gd.1 h1;exact hno j qom (by rw[h4];exact h2)),rfl⟩,sbt⟩
theorem bd161_z  (w:World):(Instr.build 204 #[]).run Tryz.prog w= .ok (.agg #[.slice none 0 0, .slice none 0 0]) w:=by kernel_rfl
def StI (n:Nat) (l:List Int):Prop:=l=[-1]∨∃ ns,Srn n ns∧l=toInts ns
theorem StI.len {n:Nat}{l:List Int}(h:StI n l):l.length≤n+1:=by
 rcases h with rfl|⟨ns,h,rfl⟩
 ·simp
 ·have:=h.len;simp[toInts];omega
theorem StI.at {n:Nat}{l:List Int}(h:StI n l){x:Int}(hx:x∈l):x= -1∨(0≤x∧x.toNat<n):=by
 rcases h with rfl|⟨ns,h,rfl⟩
 ·left;simpa using hx
 ·obtain⟨k,hk,rfl⟩:=mem_toInts.1 hx;have:=h.2 k hk
  right;omega
theorem stR_srn {n:Nat}{t:PT}{first:List Nat}{names:List ByteArray}{a:Nat}(hf:∀ x∈first,x<n)(hfo:∀ i,i<n→∀ x∈gd t.fol i,x<n):∀ {st:List Int} {to:List Nat},Srn n to→(∀ x∈st,x= -1∨(0≤x∧x.toNat<n))→Srn n (st.foldl (fun to s=>tkR t.nms names a to (nxR t.fol first s)) to)
 |[],_,h,_=>h
 |x::st,to,h,hs=>by
  simp only[List.foldl_cons];refine stR_srn hf hfo (tkR_srn h ?_) fun y hy=>hs y (by simp[hy])
  unfold nxR
  split
  ·rcases hs x (by simp) with e|⟨_,e⟩
   ·omega
   ·exact hfo _ e
  ·exact hf
structure SsOk (w0:World) (X:List (Nat × Obj)) (n:Nat) (S:List RowI):Prop where
 arr:∀ r∈S,Arr w0 X r.q 1 encI r.l
 st:∀ r∈S,StI n r.l
theorem SsOk.mono {w0:World}{X Y:List (Nat × Obj)}{n:Nat}{S:List RowI}(h:SsOk w0 X n S)(hs:X.Sublist Y:=by exact sbt):SsOk w0 Y n S:=⟨fun r hr=>(h.arr r hr).mono hs,h.st⟩
theorem SsOk.push {w0:World}{X Y:List (Nat × Obj)}{n:Nat}{S:List RowI}(h:SsOk w0 X n S)(hs:X.Sublist Y){r:RowI}(hA:Arr w0 Y r.q 1 encI r.l)(hst:StI n r.l):SsOk w0 Y n (S++[r]):=⟨fun x hx=>by
  rcases List.mem_append.1 hx with e|e
  ·exact(h.arr x e).mono hs
  ·simp at e;subst e;exact hA,fun x hx=>by
  rcases List.mem_append.1 hx with e|e
  ·exact h.st x e
  ·simp at e;subst e;exact hst⟩
theorem Iy {l:List (List Int)}{s:List Int}(h:idx l s=l.length):addL l s=l++[s]:=by
 unfold addL;rw[if_neg];intro hm;have:=Cx hm;omega
theorem addL_no {l:List (List Int)}{s:List Int}(h: ¬ idx l s=l.length):addL l s=l:=by
 unfold addL;rw[if_pos];exact Classical.byContradiction fun hm=>h (Eo hm)
theorem any_take {l:List Int}{f:Int→Bool}{i:Nat}(h:i<l.length):(l.take (i+1)).any f=((l.take i).any f||f (gd l i)):=by
 rw[Ch h,List.any_append];simp
theorem rowQ_push {w0:World}{X Y:List (Nat × Obj)}{rows:List RowQ}(h:∀ r∈rows,Arr w0 X r.q 1 encU r.l)(hs:X.Sublist Y){r:RowQ}(hA:Arr w0 Y r.q 1 encU r.l):∀ x∈rows++[r],Arr w0 Y x.q 1 encU x.l:=fun x hx=>by
 rcases List.mem_append.1 hx with e|e
 ·exact(h x e).mono hs
 ·simp at e;subst e;exact hA
theorem rawGoR_big {t:PT}{E:PE}{names:List ByteArray}{f k:Nat}{l:List (List Int)}{rows:List (List Nat)}{acc:List Bool}(hk:k<l.length){a:Nat}(ha:a<names.length+1)(h:200<(rwR t E.first names (gd l k) l (a+1)).1.length):rawGoR t E names (f+1) k l rows acc=none:=by
 have h1:=rwR_mono t E.first names (gd l k) l (a+1) (names.length+1 - (a+1));rw[show a+1+(names.length+1 - (a+1))=names.length+1 by omega] at h1;rw[Fi,if_pos hk,if_pos qom]
theorem rowI_u (q:Option Addr)(c:Nat)(l:List Nat):encRI ⟨q,c,toInts l⟩=[.slice q l.length c]:=by simp[encRI,toInts]
theorem place_u {w0:World}{H:List (Nat × Obj)}(rows:List RowI)(q:Option Addr)(c:Nat)(hA:Arr w0 H q 1 encRI rows)(hr:∀ r∈rows,Arr w0 H r.q 1 encI r.l)(hn:∀ r∈rows,r.l.length≤100000)(hl:rows.length≤100000)(to:List Nat)(q2:Option Addr)(c2:Nat)(hB:Arr w0 H q2 1 encU to):
  FSpec Tryz.prog w0 147 #[.slice q rows.length c, .slice q2 to.length c2] H (Still (.int .i64 (idx (rows.map RowI.l) (toInts to):Nat)) H):=by
 have h:=place_s rows q c hA hr hn hl (toInts to) q2 c2 (arrUI hB);rw[show (toInts to).length=to.length by simp[toInts]] at h;exact h
theorem sets_s {w0:World}{H:List (Nat × Obj)}(m:Rxm)(e:Re)(hI:Is m e)(hM:RxM w0 H m)(hl:e.lv≤64)(hz:m.sz≤90000):
  FSpec Tryz.prog w0 104 #[.agg (encRx m).toArray] H (fun v H'=>∃ (mc:Mc) (M:List (Nat × Obj)),(v= .tuple #[.agg (encMc mc).toArray, .int .i64 (if (rawR e (ntR m [])).isSome then 0 else 2)]∧(∀ X,McOk w0 (M++X) mc)∧(∀ r,rawR e (ntR m [])=some r→mc.pl=⟨ntR m [],r.1,r.2⟩)∧(rawR e (ntR m [])=none→mc.pl=⟨[],[],[]⟩))∧H'=M++H):=by
 refine Ao Tryz.func104 U ntmps104 U ?_;have hl0:(ntR m []).length≤90001:=by have:=ntR_len m [];simp at this;omega
 refine rD tb 2 U (e_ (Lf U cs_) ?_ U);rintro _ _ ⟨n1,rfl,rfl⟩;refine e_ (Ai zeroValue68 cs_) ?_ U;rintro _ _ ⟨n2,rfl,rfl⟩;refine rO tb 5 U (y_ (A0 .nil (bd161_z)) (e_ (Lf U cs_) ?_ U) U);rintro _ _ ⟨n21,rfl,rfl⟩;refine rO tb 6 U (y_ (Lc U isAgg56 sizeOf56 U qcs) ?_ U);refine e_ (Ak (qe2 U U) call143 (A6 (ltH n21 .nil .nil ⟨[],[]⟩) (show LocL (ltH n21 .nil .nil ⟨[],[]⟩++_) _ _ _ from .h) (read_s hI _ n21 .nil .nil ⟨[],[]⟩ (hM.mono sbt) U U ⟨rfl,Nat.zero_le _,(fun x h=>by cases h),(fun x h=>by cases h),(fun x h=>by cases h),(fun x h=>by cases h)⟩ (by simpa using hl)))) ?_ U;rintro _ _ ⟨⟨e1,e2,t1,E,M1⟩,⟨rfl,ho1,ho2,hr1⟩,rfl⟩;simp only[List.append_assoc,Gl] at hr1 ⊢
 replace ho1:SlOk e1 t1.lv.length 3:=ho1
 replace ho2:SlOk e2 t1.fol.length 1:=ho2
 have hrp:=hr1.pl;have hre:=hr1.pe;obtain⟨ht1,hE⟩:=hr1.ok H ⟨rfl,Nat.zero_le _,(fun x h=>by cases h),(fun x h=>by cases h),(fun x h=>by cases h),(fun x h=>by cases h)⟩;have hlf:=ht1.few;have hfl:=ht1.len;have w1:=hE.s1.len;have w2:=hE.s2.len;refine e_ (Ai zeroValue206 cs_) ?_ U;rintro _ _ ⟨n5,rfl,rfl⟩;refine Aw (Le U U sizeOf206) U Ac ?_;rintro _ _ ⟨rfl,rfl⟩;refine rO tb 4 U (y_ (Lc U isAgg56 sizeOf56 U qcs) ?_ U);refine e_ (Ak (.cons Ap (.cons (T U) .nil)) call144 (lt_s m _ [] none 0 (fun i x hi=>by cases hi) (Nat.le_refl _) (hM.mono sbt) (by simp;omega))) ?_ U;rintro _ _ ⟨q7,c7,M7,⟨rfl,hc7,hA7⟩,rfl⟩;obtain⟨nm,hnm⟩:∃ nm,nm=ntR m []:=⟨_,rfl⟩;simp only[← hnm] at hc7 hA7 ⊢;have hnl:nm.length≤90001:=by rw[hnm];exact hl0
 have hN:Arr w0 (M7++H) q7 1 encS nm:=hA7 H (fun i x hi=>by cases hi);have hraw:rawR e nm=rawGoR t1.pl E.pe nm 201 0 [[-1]] [] []:=by unfold rawR;rw[hrp,hre];rfl
 refine y_ (A0 (.cons (T U) .nil) (Ko _ _ _)) (e_ (Ai zeroValue68 cs_) ?_ U) U;rintro _ _ ⟨n6,rfl,rfl⟩;refine Aw (Le U U sizeOf68) U Ac ?_;rintro _ _ ⟨rfl,rfl⟩;refine rO tb 4 U (e_ (Aj (.cons Ap .nil) (Bn _)) ?_ U);rintro _ _ ⟨n28,rfl,rfl⟩;refine e_ (Aj (.cons (T U) .nil) (C0 _ _ _)) ?_ U;rintro _ _ ⟨n29,rfl,rfl⟩;refine Fb (List.Perm.swap _ _ _) (rO tb 10 U ?_);refine Ba (X:=Nat × List RowI × List RowQ × List Bool × Sl × Sl × Sl × List (Nat × Obj)) (V:=fun ⟨k,S,rows,acc,ds,dr,da,M⟩=>[(8, .int .i64 (k:Nat)),(7,slV ds S.length)]) (C:=[(2,_),(4,_),(5,_),(6,_)]) (G:=fun ⟨k,S,rows,acc,ds,dr,da,M⟩=>M++(slH ds (S.flatMap encRI) 27++(slH dr (rows.flatMap encRQ) 27++(slH da (acc.flatMap encB1) 4++((n6,Cl [.slice q7 nm.length c7,slV dr rows.length,slV da acc.length] 68)::(M7++((n5,Cl (encEQ E) 206)::(M1++((n21,Cl [slV e1 t1.lv.length,slV e2 t1.fol.length] 204)::(slH e1 (t1.lv.flatMap encRx) 56++(slH e2 (t1.fol.flatMap encRQ) 27++((n2,Cl [.slice none 0 0, .slice none 0 0, .slice none 0 0] 68)::(n1,Cl (encRx m) 56)::H)))))))))))) (φ:=fun ⟨k,S,rows,acc,ds,dr,da,M⟩=>(k≤S.length∧S.length≤200∧rows.length=k∧acc.length=k)∧(SlOk ds S.length 1∧SlOk dr rows.length 1∧SlOk da acc.length 1)∧SsOk w0 (M++H) t1.lv.length S∧(∀ r∈rows,∀ X,Arr w0 (M++X) r.q 1 encU r.l)∧rawGoR t1.pl E.pe nm (201 - k) k (S.map RowI.l) (rows.map RowQ.l) acc=rawGoR t1.pl E.pe nm 201 0 [[-1]] [] []) (μ:=fun ⟨k,S,rows,acc,ds,dr,da,M⟩=>201 - k) (x0:=(0,[⟨some ⟨n28,0,none⟩,1,[-1]⟩],[],[], .blk n29 1 [], .nil, .nil,[(n28,Cl [.int .i64 (-1)] 3)])) ?_ ⟨Aa rfl,Aa rfl,Aa rfl,Aa rfl,trivial⟩ ⟨qat,qat,trivial⟩ sb0 ?_
 ·exact⟨⟨Nat.zero_le _,by simp,rfl,rfl⟩,⟨⟨Nat.le_refl _,rfl⟩,rfl,rfl⟩,⟨fun r hr=>by simp at hr;subst hr;exact Bw (fun _=>rfl) rfl A2,fun r hr=>by simp at hr;subst hr;exact .inl rfl⟩,(fun r hr=>by cases hr),rfl⟩
 rintro⟨k,S,rows,acc,ds,dr,da,M⟩ ⟨⟨hk,hS2,hrl,hacl⟩,⟨hds,hdr,hda⟩,hS,hro,hgo⟩;refine rD tb 9 U ?_;refine Ad (Aa U) (fun c33=> ?_) (fun c33=> ?_)
 ·have hkS:k<S.length:=by omega
  refine rC tb 16 U ?_;refine Ba (X:=Nat × List RowI × Sl × Sl × List (Nat × Obj)) (V:=fun ⟨a,S1,d7,d9,Ma⟩=>[(10, .int .i64 (a:Nat)),(7,slV d7 S1.length),(9,slV d9 (rwR t1.pl E.pe.first nm (gd S k).l (S.map RowI.l) a).2.length)]) (C:=[(2,_),(4,_),(5,_),(6,_),(8,_)]) (G:=fun ⟨a,S1,d7,d9,Ma⟩=>Ma++(slH d9 ((rwR t1.pl E.pe.first nm (gd S k).l (S.map RowI.l) a).2.flatMap encU) 3++(slH d7 (S1.flatMap encRI) 27++(slH dr (rows.flatMap encRQ) 27++(slH da (acc.flatMap encB1) 4++((n6,Cl [.slice q7 nm.length c7,slV dr rows.length,slV da acc.length] 68)::(M7++((n5,Cl (encEQ E) 206)::(M1++((n21,Cl [slV e1 t1.lv.length,slV e2 t1.fol.length] 204)::(slH e1 (t1.lv.flatMap encRx) 56++(slH e2 (t1.fol.flatMap encRQ) 27++((n2,Cl [.slice none 0 0, .slice none 0 0, .slice none 0 0] 68)::(n1,Cl (encRx m) 56)::H))))))))))))) (φ:=fun ⟨a,S1,d7,d9,Ma⟩=>(a≤nm.length+1∧S1.length≤200)∧S1.map RowI.l=(rwR t1.pl E.pe.first nm (gd S k).l (S.map RowI.l) a).1∧(SlOk d7 S1.length 1∧SlOk d9 (rwR t1.pl E.pe.first nm (gd S k).l (S.map RowI.l) a).2.length 1)∧SsOk w0 (Ma++H) t1.lv.length S1∧M.Sublist Ma) (μ:=fun ⟨a,S1,d7,d9,Ma⟩=>nm.length+1 - a) (x0:=(0,S,ds, .nil,M)) ?_ ⟨Aa rfl,Aa rfl,Aa rfl,Aa rfl,Aa rfl,trivial⟩ ⟨qat,qat,qat,trivial⟩ sb0 ?_
  ·exact⟨⟨Nat.zero_le _,hS2⟩,rfl,⟨hds,rfl⟩,hS,List.Sublist.refl _⟩
  rintro⟨a,S1,d7,d9,Ma⟩ ⟨⟨ha,hS12⟩,hSm,⟨hd7,hd9⟩,hS1,hsub⟩;have hrwl:=Jw t1.pl E.pe.first nm (gd S k).l (S.map RowI.l) a;rw[← hSm] at hrwl;simp only[List.length_map] at hrwl;have hkS1:k<S1.length:=by omega
  have hS1k:(gd S1 k).l=(gd S k).l:=by
   have h1:=rwR_get t1.pl E.pe.first nm (gd S k).l (S.map RowI.l) (k:=k) (by simp;omega) a;rw[← hSm,Bu hkS1,Bu hkS] at h1;exact h1
  have hSk:Arr w0 (Ma++H) (gd S1 k).q 1 encI (gd S1 k).l:=hS1.arr _ (Af hkS1);have hSt:∀ k,k<S1.length→StI t1.lv.length (gd S1 k).l:=fun k hk=>hS1.st _ (Af hk)
  have hSkl:=(hSt k hkS1).len;refine rD tb 5 U (y_ (Lb U isAgg64 qco) ?_ U);refine rO tb 4 U ?_;refine Ad (Aa U) (fun c40=> ?_) (fun c40=> ?_)
  ·refine rC tb 16 U ?_;refine Ba (X:=Nat × Option Addr × Nat × List (Nat × Obj)) (V:=fun ⟨j,qt,ct,Mt⟩=>[(12, .int .i64 (j:Nat)),(11, .slice qt (stR t1.pl E.pe.first nm a ((gd S1 k).l.take j)).length ct)]) (C:=[(2,_),(4,_),(5,_),(6,_),(7,_),(8,_),(9,_),(10,_)]) (G:=fun ⟨j,qt,ct,Mt⟩=>Mt++(Ma++(slH d9 ((rwR t1.pl E.pe.first nm (gd S k).l (S.map RowI.l) a).2.flatMap encU) 3++(slH d7 (S1.flatMap encRI) 27++(slH dr (rows.flatMap encRQ) 27++(slH da (acc.flatMap encB1) 4++((n6,Cl [.slice q7 nm.length c7,slV dr rows.length,slV da acc.length] 68)::(M7++((n5,Cl (encEQ E) 206)::(M1++((n21,Cl [slV e1 t1.lv.length,slV e2 t1.fol.length] 204)::(slH e1 (t1.lv.flatMap encRx) 56++(slH e2 (t1.fol.flatMap encRQ) 27++((n2,Cl [.slice none 0 0, .slice none 0 0, .slice none 0 0] 68)::(n1,Cl (encRx m) 56)::H)))))))))))))) (φ:=fun ⟨j,qt,ct,Mt⟩=>j≤(gd S1 k).l.length∧(stR t1.pl E.pe.first nm a ((gd S1 k).l.take j)).length≤ct∧∀ X,Arr w0 (Mt++X) qt 1 encU (stR t1.pl E.pe.first nm a ((gd S1 k).l.take j))) (μ:=fun ⟨j,qt,ct,Mt⟩=>(gd S1 k).l.length - j) (x0:=(0,none,0,[])) ?_ ⟨Aa rfl,Aa rfl,Aa rfl,Aa rfl,Aa rfl,Aa rfl,Aa rfl,Aa rfl,trivial⟩ ⟨qat,qat,trivial⟩ sb0 ?_
   ·exact⟨Nat.zero_le _,Nat.le_refl _,fun X i x hi=>by cases hi⟩
   rintro⟨j,qt,ct,Mt⟩ ⟨hj,hct,hqt⟩;have hto:Srn t1.lv.length (stR t1.pl E.pe.first nm a ((gd S1 k).l.take j)):=stR_srn hE.s1.2 (fun i hi=>(ht1.srt (gd t1.fol i) (Af qom)).2 |> fun h=>by rw[show gd t1.pl.fol i=(gd t1.fol i).l from Bu qom];exact h) .nil (fun x hx=>(hSt k hkS1).at (List.mem_of_mem_take hx));refine rD tb 6 U (y_ (Ld U U runUnderlying65 sizeOf27 qom (by first|exact rfl|exact(A1 (w0:=w0) (enc:=encRI) (sz:=1) (e:=27) (X:=[]) (fun _=>rfl) hd7).b (i:=k) qom)) ?_ U);refine y_ (Lb U isAgg27 (by first|exact c_o|exact cell1 (((A1 (w0:=w0) (enc:=encRI) (sz:=1) (e:=27) (X:=H) (fun _=>rfl) hd7).mono sbt).cs (i:=k) qom))) ?_ U;refine rO tb 4 U ?_;refine Ad (Aa U) (fun c49=> ?_) (fun c49=> ?_)
   ·have hsx:=(hSt k qom).at (Af (l:=(gd S1 k).l) (i:=j) qom);refine rC tb 7 U (y_ (Lb U isAgg27 qco) ?_ U);refine rO tb 3 U ?_;refine Dm (X:=Option Addr × Nat × List Nat) (V:=fun ⟨qn,cn,nx⟩=>[(13, .slice qn nx.length cn)]) (C:=[(2,_),(4,_),(5,_),(6,_),(7,_),(8,_),(9,_),(10,_),(11,_),(12,_)]) (G:=fun ⟨qn,cn,nx⟩=>Mt++(Ma++(slH d9 ((rwR t1.pl E.pe.first nm (gd S k).l (S.map RowI.l) a).2.flatMap encU) 3++(slH d7 (S1.flatMap encRI) 27++(slH dr (rows.flatMap encRQ) 27++(slH da (acc.flatMap encB1) 4++((n6,Cl [.slice q7 nm.length c7,slV dr rows.length,slV da acc.length] 68)::(M7++((n5,Cl (encEQ E) 206)::(M1++((n21,Cl [slV e1 t1.lv.length,slV e2 t1.fol.length] 204)::(slH e1 (t1.lv.flatMap encRx) 56++(slH e2 (t1.fol.flatMap encRQ) 27++((n2,Cl [.slice none 0 0, .slice none 0 0, .slice none 0 0] 68)::(n1,Cl (encRx m) 56)::H)))))))))))))) (φ:=fun ⟨qn,cn,nx⟩=>nx=nxR t1.pl.fol E.pe.first (gd (gd S1 k).l j)∧Srn t1.lv.length nx∧Arr w0 (M1++H) qn 1 encU nx) ⟨Aa rfl,Aa rfl,Aa rfl,Aa rfl,Aa rfl,Aa rfl,Aa rfl,Aa rfl,Aa rfl,Aa rfl,trivial⟩ ?_ ?_
    ·refine rD tb 4 U (y_ (Ld U U runUnderlying65 sizeOf27 qom (by first|exact rfl|exact(A1 (w0:=w0) (enc:=encRI) (sz:=1) (e:=27) (X:=[]) (fun _=>rfl) hd7).b (i:=k) qom)) ?_ U);refine y_ (Lb U isAgg27 (by first|exact c_o|exact cell1 (((A1 (w0:=w0) (enc:=encRI) (sz:=1) (e:=27) (X:=H) (fun _=>rfl) hd7).mono sbt).cs (i:=k) qom))) ?_ U;refine rO tb 1 U (y_ (Ld U U runUnderlying27 sizeOf3 qom (by first|exact rfl|exact(A1 (w0:=w0) (enc:=encRI) (sz:=1) (e:=27) (X:=[]) (fun _=>rfl) hd7).b (i:=k) qom|exact hSk.b (i:=j) qom)) ?_ U);refine y_ (Lb U isAgg3 (by first|exact c_o|exact cell1 ((hSk.mono sbt).cs (i:=j) qom))) ?_ U;refine rO tb 3 U ?_;refine Ad (Aa U) (fun c61=> ?_) (fun c61=> ?_)
     ·have hsi:(gd (gd S1 k).l j).toNat<t1.lv.length:=hsx.elim (fun h=>by omega) (fun h=>h.2);refine Bh 14 [(0,true),(1,true),(2,true),(3,true),(4,true),(5,true),(6,true),(7,true),(8,true),(9,true),(10,true),(11,true),(12,true),(13,true)] _ mixd qkr sb0 ?_ A8;refine rP tb 3 U (o_y U (Lb U isAgg65 qco) ?_ U Ac);refine rP tb 2 U (o_y U (Ld U U runUnderlying65 sizeOf27 qom (by first|exact rfl|exact(A1 (w0:=w0) (enc:=encRI) (sz:=1) (e:=27) (X:=[]) (fun _=>rfl) hd7).b (i:=k) qom)) ?_ U Ac);refine o_y U (Lb U isAgg27 (by first|exact c_o|exact cell1 (((A1 (w0:=w0) (enc:=encRI) (sz:=1) (e:=27) (X:=H) (fun _=>rfl) hd7).mono sbt).cs (i:=k) qom))) ?_ U Ac;refine rP tb 1 U (o_y U (Ld U U runUnderlying27 sizeOf3 qom (by first|exact rfl|exact(A1 (w0:=w0) (enc:=encRI) (sz:=1) (e:=27) (X:=[]) (fun _=>rfl) hd7).b (i:=k) qom|exact hSk.b (i:=j) qom)) ?_ U Ac);refine o_y U (Lb U isAgg3 (by first|exact c_o|exact cell1 ((hSk.mono sbt).cs (i:=j) qom))) ?_ U Ac;refine o_y U (Bi (T U) (T U) runUnderlying65 sizeOf27 qom (by first|exact rfl|exact(A1 (w0:=w0) (enc:=encRI) (sz:=1) (e:=27) (X:=[]) (fun _=>rfl) hd7).b (i:=k) qom|exact hSk.b (i:=j) qom|exact hSk.b (i:=i) qom|exact(A1 (w0:=w0) (enc:=encRQ) (sz:=1) (e:=27) (X:=[]) (fun _=>rfl) ho2).b (i:=(gd (gd S1 k).l j).toNat) qom)) ?_ U Ac;refine o_y U (Lb U isAgg27 (by first|exact c_o|exact cell1 (((A1 (w0:=w0) (enc:=encRQ) (sz:=1) (e:=27) (X:=H) (fun _=>rfl) ho2).mono sbt).cs (i:=(gd (gd S1 k).l j).toNat) qom))) ?_ U Ac;refine rP tb 1 U (A7 U (rO tb 1 U ?_));refine Bb (((gd t1.fol (gd (gd S1 k).l j).toNat).q,(gd t1.fol (gd (gd S1 k).l j).toNat).c,(gd t1.fol (gd (gd S1 k).l j).toNat).l)) ?_ ⟨qat,trivial⟩ ⟨Aa U,Aa U,Aa U,Aa U,Aa U,Aa U,Aa U,Aa U,Aa U,Aa U,trivial⟩ sbt;exact⟨by unfold nxR;rw[if_pos qom];exact(Bu qom).symm,ht1.srt _ (Af qom),ht1.arr _ (Af qom)⟩
     ·refine rC tb 1 U ?_;refine Bb ((E.q1,E.c1,E.pe.first)) ?_ ⟨qat,trivial⟩ ⟨Aa U,Aa U,Aa U,Aa U,Aa U,Aa U,Aa U,Aa U,Aa U,Aa U,trivial⟩ sbt
      first|exact⟨by unfold nxR;rw[if_pos qom];exact(Bu qom).symm,ht1.srt _ (Af qom),ht1.arr _ (Af qom)⟩|exact⟨by unfold nxR;rw[if_neg qom],hE.s1,hE.a1⟩
    rintro⟨qn,cn,nx⟩ ⟨hnxe,hns,hnA⟩;have hnl2:=hns.len;refine rC tb 6 U ?_;refine Ba (X:=Nat × Option Addr × Nat × List (Nat × Obj)) (V:=fun ⟨i,qu,cu,Mu⟩=>[(14, .int .i64 (i:Nat)),(11, .slice qu (tkR t1.pl.nms nm a (stR t1.pl E.pe.first nm a ((gd S1 k).l.take j)) (nx.take i)).length cu)]) (C:=[(2,_),(4,_),(5,_),(6,_),(7,_),(8,_),(9,_),(10,_),(12,_),(13,_)]) (G:=fun ⟨i,qu,cu,Mu⟩=>Mu++(Ma++(slH d9 ((rwR t1.pl E.pe.first nm (gd S k).l (S.map RowI.l) a).2.flatMap encU) 3++(slH d7 (S1.flatMap encRI) 27++(slH dr (rows.flatMap encRQ) 27++(slH da (acc.flatMap encB1) 4++((n6,Cl [.slice q7 nm.length c7,slV dr rows.length,slV da acc.length] 68)::(M7++((n5,Cl (encEQ E) 206)::(M1++((n21,Cl [slV e1 t1.lv.length,slV e2 t1.fol.length] 204)::(slH e1 (t1.lv.flatMap encRx) 56++(slH e2 (t1.fol.flatMap encRQ) 27++((n2,Cl [.slice none 0 0, .slice none 0 0, .slice none 0 0] 68)::(n1,Cl (encRx m) 56)::H)))))))))))))) (φ:=fun ⟨i,qu,cu,Mu⟩=>i≤nx.length∧(tkR t1.pl.nms nm a (stR t1.pl E.pe.first nm a ((gd S1 k).l.take j)) (nx.take i)).length≤cu∧∀ X,Arr w0 (Mu++X) qu 1 encU (tkR t1.pl.nms nm a (stR t1.pl E.pe.first nm a ((gd S1 k).l.take j)) (nx.take i))) (μ:=fun ⟨i,qu,cu,Mu⟩=>nx.length - i) (x0:=(0,qt,ct,Mt)) ?_ ⟨Aa rfl,Aa rfl,Aa rfl,Aa rfl,Aa rfl,Aa rfl,Aa rfl,Aa rfl,Aa rfl,Aa rfl,trivial⟩ ⟨qat,qat,trivial⟩ sb0 ?_
    ·exact⟨Nat.zero_le _,hct,hqt⟩
    rintro⟨i,qu,cu,Mu⟩ ⟨hi,hcu,hqu⟩;have htkl:=(tkR_srn (nms:=t1.pl.nms) (names:=nm) (a:=a) (nx:=nx.take i) hto (fun x hx=>hns.2 x (List.mem_of_mem_take hx))).len;refine rD tb 9 U ?_;refine Ad (Aa U) (fun c78=> ?_) (fun c78=> ?_)
    ·have hnx:gd nx i<t1.lv.length:=hns.2 _ (Af qom);have hnmg:gd t1.pl.nms (gd nx i)=(gd t1.lv (gd nx i)).node:=Bu hnx;refine rC tb 5 U (Bh 15 [(0,true),(1,true),(2,true),(3,true),(4,true),(5,true),(6,true),(7,true),(8,true),(9,true),(10,true),(11,true),(12,true),(13,true),(14,true)] _ mixd qkr sb0 ?_ A8);refine rP tb 3 U (o_y U (Lb U isAgg54 qco) ?_ U Ac);refine rP tb 2 U (o_y U (Ld U U runUnderlying27 sizeOf3 qom (by first|exact rfl|exact(A1 (w0:=w0) (enc:=encRI) (sz:=1) (e:=27) (X:=[]) (fun _=>rfl) hd7).b (i:=k) qom|exact hSk.b (i:=j) qom|exact hSk.b (i:=i) qom|exact(A1 (w0:=w0) (enc:=encRQ) (sz:=1) (e:=27) (X:=[]) (fun _=>rfl) ho2).b (i:=(gd (gd S1 k).l j).toNat) qom|exact hnA.b (i:=i) qom)) ?_ U Ac);refine o_y U (Lb U isAgg3 (by first|exact c_o|exact cell1 ((hnA.mono sbt).cs (i:=i) qom))) ?_ U Ac;refine o_y U (Ld U U runUnderlying54 sizeOf56 qom (by first|exact rfl|exact(A1 (w0:=w0) (enc:=encRI) (sz:=1) (e:=27) (X:=[]) (fun _=>rfl) hd7).b (i:=k) qom|exact hSk.b (i:=j) qom|exact hSk.b (i:=i) qom|exact(A1 (w0:=w0) (enc:=encRQ) (sz:=1) (e:=27) (X:=[]) (fun _=>rfl) ho2).b (i:=(gd (gd S1 k).l j).toNat) qom|exact hnA.b (i:=i) qom|exact(A1 (w0:=w0) (enc:=encRx) (sz:=3) (e:=56) (X:=[]) (fun _=>rfl) ho1).b (i:=gd nx i) hnx)) ?_ U Ac;refine o_y U (Lc U isAgg56 sizeOf56 U (by exact((A1 (w0:=w0) (enc:=encRx) (sz:=3) (e:=56) (X:=H) (fun _=>rfl) ho1).mono sbt).cs (i:=gd nx i) hnx)) ?_ U Ac;refine rP tb 1 U (o_y U (Lb U isAgg64 qco) ?_ U Ac);refine rP tb 1 U (o_y U (Ay (qe3 U U U) call145 (fun H' hs=>Fe (takR_eq (ht1.lf _ (Af hnx)) nm a) (takes_s (gd t1.lv (gd nx i)) nm q7 c7 (hN.mono (stn hs)) qom a))) ?_ U Ac);refine rP tb 1 U (A7 U (kO tb 2 [2,4,5,6,7,8,9,10,11,12,13,14,15] rfl U (rG tb 5 U ?_)))
     first|refine Ad (Aa U) (fun c95=> ?_) (fun c95=> ?_)|refine Bq (Aa U) (fun c95=> ?_) (fun c95=> ?_)
     ·have htk2:=tkR_take (nms:=t1.pl.nms) (names:=nm) (a:=a) (to:=(stR t1.pl E.pe.first nm a ((gd S1 k).l.take j))) (nx:=nx) (i:=i) qom;rw[hnmg,if_pos c95] at htk2;refine rC tb 4 U (y_ (Ld U U runUnderlying27 sizeOf3 qom (by first|exact rfl|exact(A1 (w0:=w0) (enc:=encRI) (sz:=1) (e:=27) (X:=[]) (fun _=>rfl) hd7).b (i:=k) qom|exact hSk.b (i:=j) qom|exact hSk.b (i:=i) qom|exact(A1 (w0:=w0) (enc:=encRQ) (sz:=1) (e:=27) (X:=[]) (fun _=>rfl) ho2).b (i:=(gd (gd S1 k).l j).toNat) qom|exact hnA.b (i:=i) qom)) ?_ U);refine y_ (Lb U isAgg3 (by first|exact c_o|exact cell1 ((hnA.mono sbt).cs (i:=i) qom))) ?_ U;refine e_ (Ak (qe2 U U) call146 (put_x (tkR t1.pl.nms nm a (stR t1.pl E.pe.first nm a ((gd S1 k).l.take j)) (nx.take i)) qu cu ((hqu H).mono sbt) hcu qom (gd nx i))) ?_ U;rintro _ _ ⟨q9,c9,M9,⟨rfl,hc9,hA9⟩,rfl⟩;refine rO tb 6 U (y_ (Av (T U) Ap qom) ?_ U);refine rO tb 2 U ?_;refine Ar ((i+1,q9,c9,M9++Mu)) ?_ ?_ ⟨qat,(by first|exact Aa U|(refine Be (Aa U) (vint ?_);omega)|(refine Be (Aa U) ?_;simp;done)|(refine Be (Aa U) ?_;exact by rw[htk2])),trivial⟩ ⟨Aa U,Aa U,Aa U,Aa U,Aa U,Aa U,Aa U,Aa U,Aa U,Aa U,trivial⟩ ?_
      ·exact⟨by omega,by rw[htk2];exact hc9,fun X=>by rw[htk2,List.append_assoc];exact hA9 _ (hqu X)⟩
      ·first|omega|(simp only[];omega)
      ·(show (M9++Mu++_).Sublist _;rw[List.append_assoc];exact sbt)
     ·have htk2:=tkR_take (nms:=t1.pl.nms) (names:=nm) (a:=a) (to:=(stR t1.pl E.pe.first nm a ((gd S1 k).l.take j))) (nx:=nx) (i:=i) qom;rw[hnmg,if_neg (by rw[c95];exact Bool.false_ne_true)] at htk2;refine rC tb 5 U (y_ (Av (T U) Ap qom) ?_ U);refine rO tb 2 U ?_;refine Ar ((i+1,qu,cu,Mu)) ?_ ?_ ⟨qat,(by first|exact Aa U|(refine Be (Aa U) (vint ?_);omega)|(refine Be (Aa U) ?_;simp;done)|(refine Be (Aa U) ?_;exact by rw[htk2])),trivial⟩ ⟨Aa U,Aa U,Aa U,Aa U,Aa U,Aa U,Aa U,Aa U,Aa U,Aa U,trivial⟩ ?_
      ·exact⟨by omega,by rw[htk2];exact hcu,by rw[htk2];exact hqu⟩
      ·first|omega|(simp only[];omega)
      ·first|(show (M9++Mu++_).Sublist _;rw[List.append_assoc];exact sbt)|exact sbt
    ·refine rC tb 2 U (Ag (rX tb 5 U (y_ (Av (T U) Ap qom) ?_ U)));refine rO tb 2 U ?_;have hi2:nx.take i=nx:=List.take_of_length_le qom;have hstk:(stR t1.pl E.pe.first nm a ((gd S1 k).l.take (j+1)))=(tkR t1.pl.nms nm a (stR t1.pl E.pe.first nm a ((gd S1 k).l.take j)) (nx.take i)):=by rw[stR_take qom,← hnxe,hi2]
     refine Ar ((j+1,qu,cu,Mu)) ?_ ?_ ⟨qat,(by first|exact Aa U|(refine Be (Aa U) (vint ?_);omega)|(refine Be (Aa U) ?_;simp;done)|(refine Be (Aa U) ?_;exact by rw[htk2])|(refine Be (Aa U) ?_;exact by rw[hstk])),trivial⟩ ⟨Aa U,Aa U,Aa U,Aa U,Aa U,Aa U,Aa U,Aa U,trivial⟩ ?_
     ·exact⟨by omega,by rw[hstk];exact hcu,by rw[hstk];exact hqu⟩
     ·show _ - (j+1)<_ - j;omega
     ·exact sbt
   ·have hj2:(gd S1 k).l.take j=(gd S k).l:=by rw[List.take_of_length_le qom];exact hS1k
    simp only[hj2] at hct hqt hto ⊢;refine rC tb 2 U (Ag (rX tb 6 U (y_ (Ay (qe2 U U) call147 (fun H' hs=>place_u S1 (slQ d7) (slC d7) (((A1 (w0:=w0) (enc:=encRI) (sz:=1) (e:=27) (X:=H) (fun _=>rfl) hd7)).mono (stn hs)) (fun r hr=>(hS1.arr r hr).mono (stn hs)) (fun r hr=>by have:=(hS1.st r hr).len;omega) qom (stR t1.pl E.pe.first nm a (gd S k).l) qt ct ((hqt H).mono (stn hs)))) ?_ U)));refine rO tb 3 U ?_;refine Dm (X:=List RowI × Sl × List (Nat × Obj)) (V:=fun ⟨S2,d8,Mb⟩=>[(7,slV d8 S2.length)]) (C:=[(2,_),(4,_),(5,_),(6,_),(8,_),(9,_),(10,_),(16,_)]) (G:=fun ⟨S2,d8,Mb⟩=>Mb++(slH d9 ((rwR t1.pl E.pe.first nm (gd S k).l (S.map RowI.l) a).2.flatMap encU) 3++(slH d8 (S2.flatMap encRI) 27++(slH dr (rows.flatMap encRQ) 27++(slH da (acc.flatMap encB1) 4++((n6,Cl [.slice q7 nm.length c7,slV dr rows.length,slV da acc.length] 68)::(M7++((n5,Cl (encEQ E) 206)::(M1++((n21,Cl [slV e1 t1.lv.length,slV e2 t1.fol.length] 204)::(slH e1 (t1.lv.flatMap encRx) 56++(slH e2 (t1.fol.flatMap encRQ) 27++((n2,Cl [.slice none 0 0, .slice none 0 0, .slice none 0 0] 68)::(n1,Cl (encRx m) 56)::H))))))))))))) (φ:=fun ⟨S2,d8,Mb⟩=>S2.map RowI.l=addL (S1.map RowI.l) (toInts (stR t1.pl E.pe.first nm a (gd S k).l))∧SlOk d8 S2.length 1∧SsOk w0 (Mb++H) t1.lv.length S2∧Ma.Sublist Mb) ⟨Aa rfl,Aa rfl,Aa rfl,Aa rfl,Aa rfl,Aa rfl,Aa rfl,Aa rfl,trivial⟩ ?_ ?_
    ·refine rD tb 8 U ?_;refine Ad (Aa U) (fun c108=> ?_) (fun c108=> ?_)
     ·refine rC tb 3 U (e_ (Aj (.cons (T U) .nil) (C0 _ _ _)) ?_ U);rintro _ _ ⟨n111,rfl,rfl⟩;refine e_ (Bg ((⟨qt,ct,toInts (stR t1.pl E.pe.first nm a (gd S k).l)⟩:RowI)) (by':=24) (enc:=encRI) (l:=S1) qlc (T U) (T U) runUnderlying65 runUnderlying65 sizeOf27 typeInfo27 U zeroValue27 U (fun _=>rfl) U hd7 qde qom (hn:=by rw[rowI_u];exact A3)) ?_ U;rintro _ _ ⟨d8',rfl,hok8,rfl⟩;refine rO tb 2 U ?_;refine Bb ((S1++[⟨qt,ct,toInts (stR t1.pl E.pe.first nm a (gd S k).l)⟩],d8',Mt++Ma)) ?_ ⟨qat,trivial⟩ ⟨Aa U,Aa U,Aa U,Aa U,Aa U,Aa U,Aa U,Aa U,trivial⟩ (by simp only[List.append_assoc];exact sbt);exact⟨by rw[Iy (by simp;omega),List.map_append];rfl,hok8,hS1.push (by rw[List.append_assoc];exact List.sublist_append_right _ _) (by rw[List.append_assoc];exact arrUI (hqt _)) (.inr ⟨_,hto,rfl⟩),List.sublist_append_right _ _⟩
     ·refine rC tb 1 U ?_;refine Bb ((S1,d7,Mt++Ma)) ?_ ⟨qat,trivial⟩ ⟨Aa U,Aa U,Aa U,Aa U,Aa U,Aa U,Aa U,Aa U,trivial⟩ (by simp only[List.append_assoc];exact sbt)
      first|exact⟨by rw[Iy (by simp;omega),List.map_append];rfl,hok8,hS1.push (by rw[List.append_assoc];exact List.sublist_append_right _ _) (by rw[List.append_assoc];exact arrUI (hqt _)) (.inr ⟨_,hto,rfl⟩),List.sublist_append_right _ _⟩|exact⟨by rw[addL_no (by simp;omega)],hd7,hS1.mono (by rw[List.append_assoc];exact List.sublist_append_right _ _),List.sublist_append_right _ _⟩
    rintro⟨S2,d8,Mb⟩ ⟨hm2,hd8,hSS2,hsub2⟩;refine rC tb 8 U ?_;refine Ad (Aa U) (fun c115=> ?_) (fun c115=> ?_)
    ·refine rC tb 2 U (y_ (A0 .nil (bd29_z)) ?_ U);refine Aw (Le U U sizeOf68) U Ac ?_;rintro _ _ ⟨rfl,rfl⟩;refine rO tb 7 U (As (rX tb 4 U (As (rX tb 2 U (Ah U (.cellA (Aa U) isAgg68 sizeOf68 U qcs (K9 U)) ?_)))));have hnone:rawR e nm=none:=by rw[hraw,← hgo,show 201 - k=(200 - k)+1 by omega];exact rawGoR_big (a:=a) (by simp;omega) qom (by rw[Bu (show k<S.length by omega),E5,← hSm,← hm2];simp;omega)
     exact⟨_,⟨⟨[],[],[],none,0,none,0,none,0⟩,[],⟨by rw[hnone];rfl,fun X=>⟨(fun i x hi=>by cases hi),(fun i x hi=>by cases hi),(fun i x hi=>by cases hi),(fun r hr=>by cases hr)⟩,(fun r hr=>by rw[hnone] at hr;cases hr),fun _=>rfl⟩,rfl⟩,sbt⟩
    ·refine rC tb 5 U (e_ (Aj (.cons (T U) .nil) (Bn _)) ?_ U);rintro _ _ ⟨n119,rfl,rfl⟩;refine e_ (Bg ((idx (S1.map RowI.l) (toInts (stR t1.pl E.pe.first nm a (gd S k).l)))) (by':=8) (enc:=encU) (l:=(rwR t1.pl E.pe.first nm (gd S k).l (S.map RowI.l) a).2) qlc (T U) (T U) runUnderlying27 runUnderlying27 sizeOf3 typeInfo3 U zeroValue3 U (fun _=>rfl) U hd9 qde qom) ?_ U;rintro _ _ ⟨d9',rfl,hok9,rfl⟩;refine rO tb 6 U (y_ (Av (T U) Ap qom) ?_ U);refine rO tb 2 U ?_;have hrw2:(rwR t1.pl E.pe.first nm (gd S k).l (S.map RowI.l) (a+1)).2=(rwR t1.pl E.pe.first nm (gd S k).l (S.map RowI.l) a).2++[(idx (S1.map RowI.l) (toInts (stR t1.pl E.pe.first nm a (gd S k).l)))]:=by rw[E5,← hSm]
     refine Ar ((a+1,S2,d8,d9',Mb)) ?_ ?_ ⟨qat,qat,(by first|exact Aa U|(refine Be (Aa U) (vint ?_);omega)|(refine Be (Aa U) ?_;simp;done)|(refine Be (Aa U) ?_;exact by rw[htk2])|(refine Be (Aa U) ?_;exact by rw[hstk])|(refine Be (Aa U) ?_;exact by rw[hrw2])),trivial⟩ ⟨Aa U,Aa U,Aa U,Aa U,Aa U,trivial⟩ ?_
     ·refine⟨⟨by omega,show S2.length≤200 by omega⟩,?_,⟨hd8,by rw[hrw2];exact hok9⟩,hSS2,hsub.trans hsub2⟩;rw[hm2,E5,hSm]
     ·show nm.length+1 - (a+1)<nm.length+1 - a;omega
     ·simp only[hrw2];exact sbt
  ·refine rC tb 2 U (Ag (rX tb 5 U (y_ (Lb U isAgg65 qco) ?_ U)));refine rO tb 1 U (e_ (Aj (.cons (T U) .nil) (C0 _ _ _)) ?_ U);rintro _ _ ⟨n124,rfl,rfl⟩;refine e_ (Bg ((⟨slQ d9,slC d9,(rwR t1.pl E.pe.first nm (gd S k).l (S.map RowI.l) a).2⟩:RowQ)) (by':=24) (enc:=encRQ) (l:=rows) qlc (T U) (T U) runUnderlying65 runUnderlying65 sizeOf27 typeInfo27 U zeroValue27 U (fun _=>rfl) U hdr qde qom) ?_ U;rintro _ _ ⟨dr',rfl,hokr,rfl⟩;refine rO tb 1 U ?_
   first|refine Aw (Le U U sizeOf65) U Ac ?_|refine Aw (Bs (T U) (T U) U sizeOf65) U Ac ?_|refine Aw (Bj (T U) (T U) U sizeOf65) U Ac ?_
   rintro _ _ ⟨rfl,rfl⟩;refine rO tb 2 U ?_;refine J3 (X:=Bool) (V:=fun b0=>[(17, .bool b0)]) (C:=[(2,_),(4,_),(5,_),(6,_),(7,_),(8,_)]) (φ:=fun b0=>b0=(decide (k=0)&&E.pe.emp)) ⟨Aa U,Aa U,Aa U,Aa U,Aa U,Aa U,trivial⟩ ?_ ?_
   ·refine rD tb 4 U ?_;refine A4 (s:=129) (Aa U) (fun c129=> ?_) (fun c129=> ?_)
    ·refine rO tb 1 U (A5 (Lb U isAgg4 qco) U (Az U U (Aa U)) ?_);refine rO tb 3 U ?_;refine Bb (E.pe.emp) ?_ ⟨qat,trivial⟩ ⟨Aa U,Aa U,Aa U,Aa U,Aa U,Aa U,trivial⟩ sbt
     (rw[decide_eq_true (show k=0 by omega)];simp)
    ·refine rO tb 5 U ?_;refine Bb (false) ?_ ⟨qat,trivial⟩ ⟨Aa U,Aa U,Aa U,Aa U,Aa U,Aa U,trivial⟩ sbt
     first|(rw[decide_eq_true (show k=0 by omega)];simp)|(rw[decide_eq_false (show ¬ k=0 by omega)];simp)
   rintro b0 hb0;refine rC tb 7 U ?_;refine Bd (X:=Nat × Bool) (V:=fun ⟨i,b⟩=>[(18, .int .i64 (i:Nat)),(17, .bool b)]) (C:=[(2,_),(4,_),(5,_),(6,_),(7,_),(8,_)]) (φ:=fun ⟨i,b⟩=>i≤(gd S1 k).l.length∧b=((decide (k=0)&&E.pe.emp)||((gd S1 k).l.take i).any fun s=>decide (s∈toInts E.pe.last))) (μ:=fun ⟨i,b⟩=>(gd S1 k).l.length - i) (x0:=(0,b0)) ?_ ⟨Aa rfl,Aa rfl,Aa rfl,Aa rfl,Aa rfl,Aa rfl,trivial⟩ ⟨qat,qat,trivial⟩ ?_
   ·exact⟨Nat.zero_le _,by simp[hb0]⟩
   rintro⟨i,b⟩ ⟨hi,hb⟩;refine rD tb 6 U (y_ (Ld U U runUnderlying65 sizeOf27 qom (by first|exact rfl|exact(A1 (w0:=w0) (enc:=encRI) (sz:=1) (e:=27) (X:=[]) (fun _=>rfl) hd7).b (i:=k) qom)) ?_ U);refine y_ (Lb U isAgg27 (by first|exact c_o|exact cell1 (((A1 (w0:=w0) (enc:=encRI) (sz:=1) (e:=27) (X:=H) (fun _=>rfl) hd7).mono sbt).cs (i:=k) qom))) ?_ U;refine rO tb 4 U ?_;refine Ad (Aa U) (fun c139=> ?_) (fun c139=> ?_)
   ·refine rC tb 5 U (Bh 11 [(0,true),(1,true),(2,true),(3,true),(4,true),(5,true),(6,true),(7,true),(8,true),(9,true),(10,true)] _ mixd qkr sb0 ?_ A8);refine rP tb 1 U (o_y U (Lb U isAgg27 qco) ?_ U Ac);refine rP tb 2 U (o_y U (Ld U U runUnderlying65 sizeOf27 qom (by first|exact rfl|exact(A1 (w0:=w0) (enc:=encRI) (sz:=1) (e:=27) (X:=[]) (fun _=>rfl) hd7).b (i:=k) qom)) ?_ U Ac);refine o_y U (Lb U isAgg27 (by first|exact c_o|exact cell1 (((A1 (w0:=w0) (enc:=encRI) (sz:=1) (e:=27) (X:=H) (fun _=>rfl) hd7).mono sbt).cs (i:=k) qom))) ?_ U Ac;refine rP tb 1 U (o_y U (Ld U U runUnderlying27 sizeOf3 qom (by first|exact rfl|exact(A1 (w0:=w0) (enc:=encRI) (sz:=1) (e:=27) (X:=[]) (fun _=>rfl) hd7).b (i:=k) qom|exact hSk.b (i:=j) qom|exact hSk.b (i:=i) qom)) ?_ U Ac);refine o_y U (Lb U isAgg3 (by first|exact c_o|exact cell1 ((hSk.mono sbt).cs (i:=i) qom))) ?_ U Ac;refine o_y U (Ay (qe2 U U) call127 (fun H' hs=>hasZ_s E.pe.last E.q2 E.c2 (hE.a2.mono (stn hs)) qom (gd (gd S1 k).l i))) ?_ U Ac;refine rP tb 1 U (A7 U (rO tb 5 U ?_))
    first|refine A4 (s:=153) (Aa U) (fun c153=> ?_) (fun c153=> ?_)|refine Ej (s:=153) (Aa U) (fun c153=> ?_) (fun c153=> ?_)
    ·refine kO tb 6 [2,4,5,6,7,8,17,18] rfl U (rG tb 2 U (y_ (Av (T U) Ap qom) ?_ U));refine rO tb 2 U ?_;refine Ar ((i+1,true)) ?_ ?_ ⟨qat,qat,trivial⟩ ⟨Aa U,Aa U,Aa U,Aa U,Aa U,Aa U,trivial⟩ ?_
     ·refine⟨by omega,?_⟩;rw[any_take qom,← Bool.or_assoc,← hb,c153];rfl
     ·first|omega|(simp only[];omega)
     ·exact sbt
    ·refine kO tb 6 [2,4,5,6,7,8,17,18] rfl U (rG tb 2 U (y_ (Av (T U) Ap qom) ?_ U));refine rO tb 2 U ?_;refine Ar ((i+1,decide (gd (gd S1 k).l i∈toInts E.pe.last))) ?_ ?_ ⟨qat,qat,trivial⟩ ⟨Aa U,Aa U,Aa U,Aa U,Aa U,Aa U,trivial⟩ ?_
     ·refine⟨by omega,?_⟩;rw[any_take qom,← Bool.or_assoc,← hb,c153];rfl
     ·first|omega|(simp only[];omega)
     ·exact sbt
   ·refine rC tb 2 U (Ag (rX tb 4 U (y_ (Lb U isAgg66 qco) ?_ U)));refine rO tb 1 U (e_ (Aj (.cons (T U) .nil) (Fu _)) ?_ U);rintro _ _ ⟨n159,rfl,rfl⟩;refine e_ (Bg (b) (by':=1) (enc:=encB1) (l:=acc) qlc (T U) (T U) runUnderlying66 runUnderlying66 sizeOf4 typeInfo4 U zeroValue4 U (fun _=>rfl) U hda qde qom) ?_ U;rintro _ _ ⟨da',rfl,hoka,rfl⟩;refine rO tb 1 U ?_
    first|refine Aw (Le U U sizeOf66) U Ac ?_|refine Aw (Bs (T U) (T U) U sizeOf66) U Ac ?_|refine Aw (Bj (T U) (T U) U sizeOf66) U Ac ?_
    rintro _ _ ⟨rfl,rfl⟩;refine rO tb 5 U (y_ (Av (T U) Ap qom) ?_ U);refine rO tb 2 U ?_;have ha2:a=nm.length+1:=by omega
    subst ha2;have hb2:b=acR E.pe k (gd S k).l:=by rw[hb,List.take_of_length_le qom,hS1k];rfl
    refine Ar ((k+1,S1,rows++[⟨slQ d9,slC d9,(rwR t1.pl E.pe.first nm (gd S k).l (S.map RowI.l) (nm.length+1)).2⟩],acc++[b],d7,dr',da',Ma++slH d9 ((rwR t1.pl E.pe.first nm (gd S k).l (S.map RowI.l) (nm.length+1)).2.flatMap encU) 3)) ?_ ?_ ⟨qat,qat,trivial⟩ ⟨Aa U,Aa U,Aa U,Aa U,trivial⟩ ?_
    ·refine⟨⟨by have:=(Jw t1.pl E.pe.first nm (gd S k).l (S.map RowI.l) (nm.length+1)).2;rw[← hSm] at this;simp at this;omega,hS12,by simp[hrl],by simp[hacl]⟩,⟨hd7,by simpa using hokr,by simpa using hoka⟩,hS1.mono (by simp only[List.append_assoc];exact(List.Sublist.refl _).append (List.sublist_append_right _ _)),?_,?_⟩
     ·exact fun x hx X=>rowQ_push (fun r hr=>hro r hr X) (by simp only[List.append_assoc];exact hsub.append (List.sublist_append_right _ _)) (by simp only[List.append_assoc];exact(A1 (w0:=w0) (enc:=encU) (sz:=1) (e:=3) (X:=X) (fun _=>rfl) hd9).mono (List.sublist_append_right _ _)) x hx
     ·have hlen:(rwR t1.pl E.pe.first nm (gd S k).l (S.map RowI.l) (nm.length+1)).1.length≤200:=by rw[← hSm];simpa using hS12
      rw[← hgo,show 201 - k=(200 - k)+1 by omega,Fi,if_pos (by simp;omega),Bu (show k<S.length by omega),if_neg qom,show 201 - (k+1)=200 - k by omega,List.map_append,hSm,hb2];rfl
    ·show 201 - (k+1)<201 - k;omega
    ·simp only[List.append_assoc,List.length_append,List.length_cons,List.length_nil,Nat.zero_add];exact sbt
 ·refine rC tb 2 U (Ag (rX tb 4 U (y_ (Lc U isAgg68 sizeOf68 U qcs) ?_ U)));refine Aw (Le U U sizeOf68) U Ac ?_;rintro _ _ ⟨rfl,rfl⟩;refine rO tb 4 U (Ah U (.cellA (Aa U) isAgg68 sizeOf68 U qcs (K9 U)) ?_);have hsome:rawR e nm=some (rows.map RowQ.l,acc):=by rw[hraw,← hgo,show 201 - k=(200 - k)+1 by omega,Fi,if_neg (by simp;omega)]
  exact⟨_,⟨⟨nm,rows,acc,q7,c7,slQ dr,slC dr,slQ da,slC da⟩,M++(slH dr (rows.flatMap encRQ) 27++(slH da (acc.flatMap encB1) 4++M7)),⟨by rw[hsome];rfl,fun X=>⟨(hA7 X (fun i x hi=>by cases hi)).mono (by simp only[List.append_assoc];exact sbt),((A1 (w0:=w0) (enc:=encRQ) (sz:=1) (e:=27) (X:=X) (fun _=>rfl) hdr)).mono (by simp only[List.append_assoc];exact sbt),((A1 (w0:=w0) (enc:=encB1) (sz:=1) (e:=4) (X:=X) (fun _=>rfl) hda)).mono (by simp only[List.append_assoc];exact sbt),fun r hr=>(hro r hr X).mono (by simp only[List.append_assoc];exact sbt)⟩,(fun r hr=>by rw[hsome] at hr;cases hr;rfl),(fun h=>by rw[hsome] at h;cases h)⟩,rfl⟩,by simp only[List.append_assoc];exact sbt⟩
def sgR (m:PM) (b:List Nat) (i:Nat):List Nat:=gd b i::(gd m.next i).map (gd b)
def sgK (m:PM) (b:List Nat):Nat→List (List Int) × List Nat
 |0=>([],[])
 |i+1=>(addL (sgK m b i).1 (toInts (sgR m b i)),(sgK m b i).2++[idx (sgK m b i).1 (toInts (sgR m b i))])
theorem Iz (m:PM)(b:List Nat)(i:Nat):sgK m b (i+1)=(addL (sgK m b i).1 (toInts (sgR m b i)),(sgK m b i).2++[idx (sgK m b i).1 (toInts (sgR m b i))]):=rfl
theorem I0 (m:PM)(b:List Nat):∀ i,(sgK m b i).2.length=i∧(sgK m b i).1.length≤i
 |0=>⟨rfl,Nat.le_refl _⟩
 |i+1=>by
  obtain⟨h1,h2⟩:=I0 m b i;rw[Iz];refine⟨by simp[h1],?_⟩;simp only[addL];split
  ·omega
  ·simp;omega
def clR (m:PM):Nat→List Nat→Nat→List Nat
 |0,b,_=>b
 |f+1,b,c=>if c<(sgK m b m.next.length).1.length then clR m f (sgK m b m.next.length).2 (sgK m b m.next.length).1.length else (sgK m b m.next.length).2
theorem clR_succ (m:PM)(f:Nat)(b:List Nat)(c:Nat):clR m (f+1) b c=if c<(sgK m b m.next.length).1.length then clR m f (sgK m b m.next.length).2 (sgK m b m.next.length).1.length else (sgK m b m.next.length).2:=rfl
def classesR (m:PM):List Nat:=clR m 201 (initB m) 0
theorem classes_s {w0:World}{H:List (Nat × Obj)}(m:Mc)(hm:McOk w0 H m)(hp:PMok m.pl)(hnl:m.names.length≤90001):
  FSpec Tryz.prog w0 148 #[.agg (encMc m).toArray] H (fun v H'=>∃ (q:Option Addr) (c:Nat) (M:List (Nat × Obj)),(v= .slice q m.rows.length c∧(classesR m.pl).length=m.rows.length∧Arr w0 (M++H) q 1 encU (classesR m.pl))∧H'=M++H):=by
 refine Ao Tryz.func148 U ntmps148 U ?_;have hf:=hp.few;have hfl:m.pl.next.length=m.rows.length:=List.length_map ..;have hs:=hp.some';have hal:m.acc.length=m.rows.length:=by have:=hp.acc;rw[hfl] at this;exact this
 refine rD tb 2 U (e_ (Lf U cs_) ?_ U);rintro _ _ ⟨n1,rfl,rfl⟩;refine rO tb 6 U (y_ (Lb U isAgg65 qco) ?_ U);refine rO tb 1 U (e_ (B7 (by':=8) (k:=m.rows.length) (T U) runUnderlying27 sizeOf3 typeInfo3 U zeroValue3 U qom qom) ?_ U);rintro _ _ ⟨n16,rfl,rfl⟩;refine rO tb 10 U ?_;refine Ba (X:=Nat) (V:=fun k=>[(4, .int .i64 (k:Nat))]) (C:=[(1,_),(3,_)]) (G:=fun k=>(n16,Cl (((m.acc.take k).map bit).flatMap encU++List.replicate (m.rows.length - ((m.acc.take k).map bit).length) (.int .i64 0)) 3)::(n1,Cl (encMc m) 68)::H) (φ:=fun k=>k≤m.rows.length) (μ:=fun k=>m.rows.length - k) (x0:=0) ?_ ⟨Aa U,Aa U,trivial⟩ ⟨qat,trivial⟩ sb0 ?_
 ·exact Nat.zero_le _
 rintro k hk;refine rD tb 9 U ?_;refine Ad (Aa U) (fun c20=> ?_) (fun c20=> ?_)
 ·have hkl:k<m.rows.length:=by omega
  have hbt:=bit_take (l:=m.acc) (k:=k) qom;refine rC tb 7 U (y_ (Lb U isAgg66 qco) ?_ U);refine rO tb 1 U (y_ (Ld U U runUnderlying66 sizeOf4 qom (by first|exact rfl|exact hm.a3.b (i:=k) qom)) ?_ U);refine y_ (Lb U isAgg4 (by first|exact c_o|exact cell1 ((hm.a3.mono sbt).cs (i:=k) qom))) ?_ U;refine rO tb 2 U ?_
  first|refine Ad (Aa U) (fun c27=> ?_) (fun c27=> ?_)|refine Bq (Aa U) (fun c27=> ?_) (fun c27=> ?_)
  ·have hbit:((m.acc.take (k+1)).map bit)=((m.acc.take k).map bit)++[1]:=by rw[hbt,c27];rfl
   refine rC tb 3 U (y_ (Ld U U runUnderlying27 sizeOf3 qom (by exact rfl)) ?_ U);refine e_ (Ik (m:=m.rows.length) (v:=1) ((m.acc.take k).map bit) (by simp;omega) (T U) Ap sizeOf3 (by simp;omega) (by(repeat (first|exact Upd.h|apply Upd.t|apply E7));done)) ?_ U;rintro _ _ ⟨rfl,rfl⟩;refine rO tb 5 U (y_ (Av (T U) Ap qom) ?_ U);refine rO tb 2 U ?_;refine Ar (k+1) ?_ ?_ ⟨qat,trivial⟩ ⟨Aa U,Aa U,trivial⟩ ?_
   ·show k+1≤_;omega
   ·omega
   ·simp only[hbit,List.length_append,List.length_cons,List.length_nil,Nat.zero_add];exact sbt
  ·have hbit:((m.acc.take (k+1)).map bit)=((m.acc.take k).map bit)++[0]:=by rw[hbt,c27];rfl
   rw[row_zero ((m.acc.take k).map bit) m.rows.length (by simp;omega)];refine rC tb 5 U (y_ (Av (T U) Ap qom) ?_ U);refine rO tb 2 U ?_;refine Ar (k+1) ?_ ?_ ⟨qat,trivial⟩ ⟨Aa U,Aa U,trivial⟩ ?_
   ·show k+1≤_;omega
   ·omega
   ·simp only[hbit,List.length_append,List.length_cons,List.length_nil,Nat.zero_add];exact sbt
 ·have hk2:k=m.rows.length:=by omega
  have e1:((m.acc.take k).map bit)=initB m.pl:=by rw[hk2,← hal,List.take_length];rfl
  have e2:(initB m.pl).length=m.rows.length:=by unfold initB;rw[List.length_map];exact hal
  simp only[e1,e2,Nat.sub_self,List.replicate_zero,List.append_nil];refine rC tb 2 U (Ag (rX tb 14 U ?_));refine Ba (X:=Nat × List Nat × Nat × Bool × Option Addr × Nat × List (Nat × Obj)) (V:=fun ⟨f,b,cnt,more,qb,cb,M⟩=>[(3, .slice qb m.rows.length cb),(5, .int .i64 (cnt:Nat)),(6, .bool more)]) (C:=[(1,_)]) (G:=fun ⟨f,b,cnt,more,qb,cb,M⟩=>M++((n1,Cl (encMc m) 68)::H)) (φ:=fun ⟨f,b,cnt,more,qb,cb,M⟩=>b.length=m.rows.length∧Arr w0 (M++H) qb 1 encU b∧(more=true→clR m.pl f b cnt=classesR m.pl∧cnt≤m.rows.length∧201≤f+cnt)∧(more=false→b=classesR m.pl)) (μ:=fun ⟨f,b,cnt,more,qb,cb,M⟩=>bif more then f+1 else 0) (x0:=(201,initB m.pl,0,true,some ⟨n16,0,none⟩,m.rows.length,[(n16,Cl ((initB m.pl).flatMap encU) 3)])) ?_ ⟨Aa rfl,trivial⟩ ⟨qat,qat,qat,trivial⟩ sb0 ?_
  ·exact⟨e2,Bw (fun _=>rfl) U A2,fun _=>⟨rfl,Nat.zero_le _,Nat.le_refl _⟩,fun h=>by cases h⟩
  rintro⟨f,b,cnt,more,qb,cb,M⟩ ⟨hbl,hbA,hmt,hmf⟩;refine rD tb 6 U ?_
  first|refine Ad (Aa U) (fun c31=> ?_) (fun c31=> ?_)|refine Bq (Aa U) (fun c31=> ?_) (fun c31=> ?_)
  ·subst c31;obtain⟨hcl,hcn,hfc⟩:=hmt rfl;obtain⟨f,rfl⟩:∃ g,f=g+1:=⟨f - 1,by omega⟩;refine rC tb 12 U (e_ (B7 (by':=8) (k:=m.rows.length) (T U) runUnderlying27 sizeOf3 typeInfo3 U zeroValue3 U qom qom) ?_ U);rintro _ _ ⟨n34,rfl,rfl⟩;refine rO tb 10 U ?_;refine Ba (X:=Nat × List RowI × Sl × List (Nat × Obj)) (V:=fun ⟨i,S,d7,Ma⟩=>[(9, .int .i64 (i:Nat)),(7,slV d7 S.length)]) (C:=[(1,_),(3,_),(5,_),(8,_)]) (G:=fun ⟨i,S,d7,Ma⟩=>Ma++(slH d7 (S.flatMap encRI) 27++((n34,Cl ((sgK m.pl b i).2.flatMap encU++List.replicate (m.rows.length - (sgK m.pl b i).2.length) (.int .i64 0)) 3)::(M++((n1,Cl (encMc m) 68)::H))))) (φ:=fun ⟨i,S,d7,Ma⟩=>i≤m.rows.length∧S.map RowI.l=(sgK m.pl b i).1∧SlOk d7 S.length 1∧∀ r∈S,Arr w0 (Ma++H) r.q 1 encI r.l∧r.l.length≤100000) (μ:=fun ⟨i,S,d7,Ma⟩=>m.rows.length - i) (x0:=(0,[], .nil,[])) ?_ ⟨Aa rfl,Aa rfl,Aa rfl,Aa rfl,trivial⟩ ⟨qat,qat,trivial⟩ sb0 ?_
   ·exact⟨Nat.zero_le _,rfl,rfl,fun r hr=>by cases hr⟩
   rintro⟨i,S,d7,Ma⟩ ⟨hi,hSm,hd7,hSA⟩;have hsl:=I0 m.pl b i;have hSl0:S.length=(sgK m.pl b i).1.length:=by rw[← hSm,List.length_map]
   refine rD tb 9 U ?_;refine Ad (Aa U) (fun c38=> ?_) (fun c38=> ?_)
   ·have hin:i<m.rows.length:=by omega
    obtain⟨hi1,hi2⟩:=Gc hp hin;have hnx3:(gd m.pl.next i).length≤90002:=by rw[show m.pl.next=m.rows.map RowQ.l from rfl,Fd];omega
    refine rC tb 8 U (y_ (Ld U U runUnderlying27 sizeOf3 qom (by first|exact rfl|exact hm.a3.b (i:=k) qom|exact hbA.b (i:=i) qom)) ?_ U);refine y_ (Lb U isAgg3 (by first|exact c_o|exact cell1 ((hbA.mono sbt).cs (i:=i) qom))) ?_ U;refine e_ (Aj (.cons (T U) .nil) (Bn _)) ?_ U;rintro _ _ ⟨n45,rfl,rfl⟩;refine rO tb 10 U ?_;refine Ba (X:=Nat × Sl) (V:=fun ⟨a,ds⟩=>[(11, .int .i64 (a:Nat)),(10,slV ds (gd b i::((gd m.rows i).l.take a).map (gd b)).length)]) (C:=[(1,_),(3,_),(5,_),(7,_),(8,_),(9,_)]) (G:=fun ⟨a,ds⟩=>slH ds ((gd b i::((gd m.rows i).l.take a).map (gd b)).flatMap encU) 3++(Ma++(slH d7 (S.flatMap encRI) 27++((n34,Cl ((sgK m.pl b i).2.flatMap encU++List.replicate (m.rows.length - (sgK m.pl b i).2.length) (.int .i64 0)) 3)::(M++((n1,Cl (encMc m) 68)::H)))))) (φ:=fun ⟨a,ds⟩=>a≤(gd m.rows i).l.length∧SlOk ds (gd b i::((gd m.rows i).l.take a).map (gd b)).length 1) (μ:=fun ⟨a,ds⟩=>(gd m.rows i).l.length - a) (x0:=(0, .blk n45 1 [])) ?_ ⟨Aa rfl,Aa rfl,Aa rfl,Aa rfl,Aa rfl,Aa rfl,trivial⟩ ⟨qat,qat,trivial⟩ sb0 ?_
    ·exact⟨Nat.zero_le _,Nat.le_refl _,rfl⟩
    rintro⟨a,ds⟩ ⟨ha,hds⟩;refine rD tb 5 U (y_ (Lb U isAgg65 qco) ?_ U);refine rO tb 1 U (y_ (Ld U U runUnderlying65 sizeOf27 qom (by first|exact rfl|exact hm.a3.b (i:=k) qom|exact hbA.b (i:=i) qom|exact hm.a2.b (i:=i) qom)) ?_ U);refine y_ (Lb U isAgg27 (by first|exact c_o|exact cell1 ((hm.a2.mono sbt).cs (i:=i) qom))) ?_ U;refine rO tb 4 U ?_;refine Ad (Aa U) (fun c53=> ?_) (fun c53=> ?_)
    ·have hi3:=hi2 a qom;refine rC tb 8 U (y_ (Lb U isAgg65 qco) ?_ U);refine rO tb 1 U (y_ (Ld U U runUnderlying65 sizeOf27 qom (by first|exact rfl|exact hm.a3.b (i:=k) qom|exact hbA.b (i:=i) qom|exact hm.a2.b (i:=i) qom)) ?_ U);refine y_ (Lb U isAgg27 (by first|exact c_o|exact cell1 ((hm.a2.mono sbt).cs (i:=i) qom))) ?_ U;refine rO tb 1 U (y_ (Ld U U runUnderlying27 sizeOf3 qom (by first|exact rfl|exact hm.a3.b (i:=k) qom|exact hbA.b (i:=i) qom|exact hm.a2.b (i:=i) qom|exact(hm.r (gd m.rows i) (Af qom)).b (i:=a) qom)) ?_ U);refine y_ (Lb U isAgg3 (by first|exact c_o|exact cell1 (((hm.r (gd m.rows i) (Af qom)).mono sbt).cs (i:=a) qom))) ?_ U;refine y_ (Ld U U runUnderlying27 sizeOf3 qom (by first|exact rfl|exact hm.a3.b (i:=k) qom|exact hbA.b (i:=i) qom)) ?_ U;refine y_ (Lb U isAgg3 (by first|exact c_o|exact cell1 ((hbA.mono sbt).cs (i:=gd (gd m.rows i).l a) qom))) ?_ U;refine e_ (Aj (.cons (T U) .nil) (Bn _)) ?_ U;rintro _ _ ⟨n68,rfl,rfl⟩;refine e_ (Bg (gd b (gd (gd m.rows i).l a)) (by':=8) (enc:=encU) (l:=(gd b i::((gd m.rows i).l.take a).map (gd b))) qlc (T U) (T U) runUnderlying27 runUnderlying27 sizeOf3 typeInfo3 U zeroValue3 U (fun _=>rfl) U hds qde (by simp;omega)) ?_ U;rintro _ _ ⟨ds',rfl,hds',rfl⟩;refine kO tb 4 [1,3,5,7,8,9,10,11] rfl U (rG tb 2 U (y_ (Av (T U) Ap qom) ?_ U));refine rO tb 2 U ?_;have hsg:(gd b i::((gd m.rows i).l.take (a+1)).map (gd b))=(gd b i::((gd m.rows i).l.take a).map (gd b))++[gd b (gd (gd m.rows i).l a)]:=by rw[Ch qom,List.map_append];rfl
     refine Ar ((a+1,ds')) ?_ ?_ ⟨qat,(by first|exact Aa U|(refine Be (Aa U) (vint ?_);omega)|(refine Be (Aa U) ?_;simp;done)|(refine Be (Aa U) ?_;exact by rw[hsg])),trivial⟩ ⟨Aa U,Aa U,Aa U,Aa U,Aa U,Aa U,trivial⟩ ?_
     ·exact⟨by omega,by rw[hsg];exact hds'⟩
     ·show _ - (a+1)<_ - a;omega
     ·simp only[hsg];exact sbt
    ·have hsge:(gd b i::((gd m.rows i).l.take a).map (gd b))=sgR m.pl b i:=by rw[List.take_of_length_le qom];show _=gd b i::(gd (m.rows.map RowQ.l) i).map (gd b);rw[Bu hin]
     simp only[hsge] at hds ⊢;refine rC tb 2 U (Ag (rX tb 6 U (y_ (Ay (qe2 U U) call147 (fun H' hs=>place_u S (slQ d7) (slC d7) ((A1 (w0:=w0) (enc:=encRI) (sz:=1) (e:=27) (X:=H) (fun _=>rfl) hd7).mono (stn hs)) (fun r hr=>(hSA r hr).1.mono (stn hs)) (fun r hr=>(hSA r hr).2) qom (sgR m.pl b i) (slQ ds) (slC ds) ((A1 (w0:=w0) (enc:=encU) (sz:=1) (e:=3) (X:=H) (fun _=>rfl) hds).mono (stn hs)))) ?_ U)));refine rO tb 3 U ?_;refine Dm (X:=List RowI × Sl × List (Nat × Obj)) (V:=fun ⟨S2,d8,Mb⟩=>[(7,slV d8 S2.length)]) (C:=[(1,_),(3,_),(5,_),(8,_),(9,_),(12,_)]) (G:=fun ⟨S2,d8,Mb⟩=>Mb++(slH d8 (S2.flatMap encRI) 27++((n34,Cl ((sgK m.pl b i).2.flatMap encU++List.replicate (m.rows.length - (sgK m.pl b i).2.length) (.int .i64 0)) 3)::(M++((n1,Cl (encMc m) 68)::H))))) (φ:=fun ⟨S2,d8,Mb⟩=>S2.map RowI.l=addL (S.map RowI.l) (toInts (sgR m.pl b i))∧SlOk d8 S2.length 1∧∀ r∈S2,Arr w0 (Mb++H) r.q 1 encI r.l∧r.l.length≤100000) ⟨Aa rfl,Aa rfl,Aa rfl,Aa rfl,Aa rfl,Aa rfl,trivial⟩ ?_ ?_
     ·refine rD tb 8 U ?_;refine Ad (Aa U) (fun c76=> ?_) (fun c76=> ?_)
      ·refine rC tb 3 U (e_ (Aj (.cons (T U) .nil) (C0 _ _ _)) ?_ U);rintro _ _ ⟨n79,rfl,rfl⟩;refine e_ (Bg ((⟨slQ ds,slC ds,toInts (sgR m.pl b i)⟩:RowI)) (by':=24) (enc:=encRI) (l:=S) qlc (T U) (T U) runUnderlying65 runUnderlying65 sizeOf27 typeInfo27 U zeroValue27 U (fun _=>rfl) U hd7 qde qom (hn:=by rw[rowI_u];exact A3)) ?_ U;rintro _ _ ⟨d8',rfl,hok8,rfl⟩;refine rO tb 2 U ?_;refine Bb ((S++[⟨slQ ds,slC ds,toInts (sgR m.pl b i)⟩],d8',slH ds ((sgR m.pl b i).flatMap encU) 3++Ma)) ?_ ⟨qat,trivial⟩ ⟨Aa U,Aa U,Aa U,Aa U,Aa U,Aa U,trivial⟩ (by simp only[List.append_assoc];exact sbt)
       first|exact⟨by rw[Iy (by simp;omega),List.map_append];rfl,hok8,fun r hr=>by
        rcases List.mem_append.1 hr with e|e
        ·exact⟨(hSA r e).1.mono (by rw[List.append_assoc];exact List.sublist_append_right _ _),(hSA r e).2⟩
        ·simp at e;subst e;exact⟨by rw[List.append_assoc];exact arrUI (A1 (fun _=>rfl) hds),by simp[toInts,sgR,Fd];omega⟩⟩|exact⟨by rw[addL_no (by simp;omega)],hd7,fun r e=>⟨(hSA r e).1.mono (by rw[List.append_assoc];exact List.sublist_append_right _ _),(hSA r e).2⟩⟩
      ·refine rC tb 1 U ?_;refine Bb ((S,d7,slH ds ((sgR m.pl b i).flatMap encU) 3++Ma)) ?_ ⟨qat,trivial⟩ ⟨Aa U,Aa U,Aa U,Aa U,Aa U,Aa U,trivial⟩ (by simp only[List.append_assoc];exact sbt)
       first|exact⟨by rw[Iy (by simp;omega),List.map_append];rfl,hok8,fun r hr=>by
        rcases List.mem_append.1 hr with e|e
        ·exact⟨(hSA r e).1.mono (by rw[List.append_assoc];exact List.sublist_append_right _ _),(hSA r e).2⟩
        ·simp at e;subst e;exact⟨by rw[List.append_assoc];exact arrUI (A1 (fun _=>rfl) hds),by simp[toInts,sgR,Fd];omega⟩⟩|exact⟨by rw[addL_no (by simp;omega)],hd7,fun r e=>⟨(hSA r e).1.mono (by rw[List.append_assoc];exact List.sublist_append_right _ _),(hSA r e).2⟩⟩
     rintro⟨S2,d8,Mb⟩ ⟨hm2,hd8,hSA2⟩;refine rC tb 4 U (y_ (Ld U U runUnderlying27 sizeOf3 qom (by exact rfl)) ?_ U);refine e_ (Ik (m:=m.rows.length) (v:=idx (S.map RowI.l) (toInts (sgR m.pl b i))) (sgK m.pl b i).2 qom (T U) (T U) sizeOf3 qom (by(repeat (first|exact Upd.h|apply Upd.t|apply E7));done)) ?_ U;rintro _ _ ⟨rfl,rfl⟩;refine rO tb 5 U (y_ (Av (T U) Ap qom) ?_ U);refine rO tb 2 U ?_;have hnw:(sgK m.pl b (i+1)).2=(sgK m.pl b i).2++[idx (S.map RowI.l) (toInts (sgR m.pl b i))]:=by rw[Iz,← hSm]
     refine Ar ((i+1,S2,d8,Mb)) ?_ ?_ ⟨qat,qat,trivial⟩ ⟨Aa U,Aa U,Aa U,Aa U,trivial⟩ ?_
     ·exact⟨by omega,by rw[hm2,Iz,hSm],hd8,hSA2⟩
     ·show _ - (i+1)<_ - i;omega
     ·simp only[hnw,List.length_append,List.length_cons,List.length_nil,Nat.zero_add];exact sbt
   ·have hi3:i=m.rows.length:=by omega
    subst hi3;simp only[hsl.1,Nat.sub_self,List.replicate_zero,List.append_nil];refine rC tb 2 U (Ag (rX tb 23 U ?_));have hSl:S.length=(sgK m.pl b m.rows.length).1.length:=by rw[← hSm,List.length_map]
    have hcs:=clR_succ m.pl f b cnt;rw[hfl] at hcs;refine Ar ((f,(sgK m.pl b m.rows.length).2,(sgK m.pl b m.rows.length).1.length,decide (cnt<(sgK m.pl b m.rows.length).1.length),some ⟨n34,0,none⟩,m.rows.length,[(n34,Cl ((sgK m.pl b m.rows.length).2.flatMap encU) 3)])) ?_ ?_ ⟨qat,(by first|exact Aa U|(refine Be (Aa U) (vint ?_);omega)|(refine Be (Aa U) ?_;simp;done)|(refine Be (Aa U) ?_;exact by rw[hsg])|(refine Be (Aa U) ?_;exact by rw[hSl];exact vbool (decide_eq_decide.2 Int.ofNat_lt))|(refine Be (Aa U) ?_;exact by rw[hSl])),(by first|exact Aa U|(refine Be (Aa U) (vint ?_);omega)|(refine Be (Aa U) ?_;simp;done)|(refine Be (Aa U) ?_;exact by rw[hsg])|(refine Be (Aa U) ?_;exact by rw[hSl];exact vbool (decide_eq_decide.2 Int.ofNat_lt))),trivial⟩ ⟨Aa U,trivial⟩ ?_
    ·refine⟨hsl.1,Bw (fun _=>rfl) U A2,fun h=> ?_,fun h=> ?_⟩
     ·have h2:=of_decide_eq_true h;rw[if_pos h2] at hcs;exact⟨by rw[← hcs];exact hcl,hsl.2,by show 201≤f+(sgK m.pl b m.rows.length).1.length;omega⟩
     ·have h2:=of_decide_eq_false h;rw[if_neg h2] at hcs;show (sgK m.pl b m.rows.length).2=_;rw[← hcs];exact hcl
    ·exact(show ∀ x:Bool,(bif x then f+1 else 0)<f+1+1 from fun x=>by cases x<;>simp) _
    ·exact sbt
  ·subst c31;have hfin:=hmf U;refine rC tb 2 U (Ag (rX tb 9 U (Ah U (K9 U) ?_)));exact⟨_,⟨qb,cb,M,⟨rfl,by rw[← hfin];exact hbl,by rw[← hfin];exact hbA⟩,rfl⟩,sbt⟩
theorem rleast_s {w0:World}{H:List (Nat × Obj)}(m:Mc)(hm:McOk w0 H m)(hp:PMok m.pl)(hnl:m.names.length≤90001):
  FSpec Tryz.prog w0 105 #[.agg (encMc m).toArray] H (fun v H'=>∃ (mc:Mc) (M:List (Nat × Obj)),(v= .agg (encMc mc).toArray∧(∀ X,McOk w0 X m→McOk w0 (M++X) mc)∧mc.pl=numF m.pl (classesR m.pl))∧H'=M++H):=by
 refine Ao Tryz.func105 U ntmps105 U ?_;have hf:=hp.few;have hfl:m.pl.next.length=m.rows.length:=List.length_map ..;have hs:=hp.some';have hal:m.acc.length=m.rows.length:=by have:=hp.acc;rw[hfl] at this;exact this
 refine rD tb 2 U (e_ (Lf U cs_) ?_ U);rintro _ _ ⟨n1,rfl,rfl⟩;refine e_ (Ai zeroValue68 cs_) ?_ U;rintro _ _ ⟨n2,rfl,rfl⟩;refine rO tb 4 U (y_ (Lc U isAgg68 sizeOf68 U qcs) ?_ U);refine e_ (Ak (qe1 U) call148 (classes_s m (hm.mono sbt) hp hnl)) ?_ U;rintro _ _ ⟨qc,cc,M3,⟨rfl,hbl,hC⟩,rfl⟩;obtain⟨b,hbe⟩:∃ b,b=classesR m.pl:=⟨_,rfl⟩;simp only[← hbe] at hbl hC ⊢;refine rO tb 6 U (y_ (Lb U isAgg64 qco) ?_ U);refine y_ (A0 (.cons (T U) .nil) (Ko _ _ _)) (e_ (Ai zeroValue68 cs_) ?_ U) U;rintro _ _ ⟨n4,rfl,rfl⟩;refine Aw (Le U U sizeOf68) U Ac ?_;rintro _ _ ⟨rfl,rfl⟩;refine rO tb 4 U (e_ (Aj (.cons Ap .nil) (Bn _)) ?_ U);rintro _ _ ⟨n16,rfl,rfl⟩;refine rO tb 10 U ?_;refine Ba (X:=Nat × List Nat × List RowQ × List Bool × Sl × Sl × Sl × List (Nat × Obj)) (V:=fun ⟨k,order,rows,acc,d5,dr,da,M⟩=>[(6, .int .i64 (k:Nat)),(5,slV d5 order.length)]) (C:=[(1,_),(2,_),(3,_),(4,_)]) (G:=fun ⟨k,order,rows,acc,d5,dr,da,M⟩=>M++(slH d5 (order.flatMap encU) 3++(slH dr (rows.flatMap encRQ) 27++(slH da (acc.flatMap encB1) 4++((n4,Cl [.slice m.q1 m.names.length m.c1,slV dr rows.length,slV da acc.length] 68)::(M3++((n2,Cl [.slice none 0 0, .slice none 0 0, .slice none 0 0] 68)::(n1,Cl (encMc m) 68)::H))))))) (φ:=fun ⟨k,order,rows,acc,d5,dr,da,M⟩=>OrdOk m.pl b order∧(k≤order.length∧rows.length=k∧acc.length=k)∧(SlOk d5 order.length 1∧SlOk dr rows.length 1∧SlOk da acc.length 1)∧(∀ r∈rows,∀ X,Arr w0 (M++X) r.q 1 encU r.l)∧numGo m.pl b (201 - k) k order (rows.map RowQ.l) acc=numGo m.pl b 201 0 [0] [] []) (μ:=fun ⟨k,order,rows,acc,d5,dr,da,M⟩=>201 - k) (x0:=(0,[0],[],[], .blk n16 1 [], .nil, .nil,[])) ?_ ⟨Aa rfl,Aa rfl,Aa rfl,Aa rfl,trivial⟩ ⟨qat,qat,trivial⟩ sb0 ?_
 ·exact⟨⟨by simp,fun s hs=>by
   simp only[List.mem_cons,List.not_mem_nil,or_false] at hs;subst hs;exact hp.some'⟩,⟨Nat.zero_le _,rfl,rfl⟩,⟨⟨Nat.le_refl _,rfl⟩,rfl,rfl⟩,(fun r hr=>by cases hr),rfl⟩
 rintro⟨k,order,rows,acc,d5,dr,da,M⟩ ⟨hord,⟨hko,hrl,hacl⟩,⟨hd5,hdr,hda⟩,hro,hgo⟩;have hof:=hord.few;refine rD tb 9 U ?_;refine Ad (Aa U) (fun c20=> ?_) (fun c20=> ?_)
 ·have hokl:gd order k<m.rows.length:=by rw[← hfl];exact hord.lt _ (Af qom)
  obtain⟨hr1,hr2⟩:=Gc hp hokl;have htos:(gd m.pl.next (gd order k))=(gd m.rows (gd order k)).l:=Fd _ _;have htl:∀ s∈(gd m.pl.next (gd order k)),s<m.pl.next.length:=fun s hs=>by
   rw[htos] at hs;obtain⟨j,hj,rfl⟩:=mem_gd.1 hs;rw[hfl];exact hr2 j qom
  have htlen:(gd m.pl.next (gd order k)).length=m.names.length+1:=by rw[htos];exact hr1
  refine rC tb 16 U ?_;refine Ba (X:=Nat × Sl × Sl) (V:=fun ⟨a,d5,d7⟩=>[(8, .int .i64 (a:Nat)),(5,slV d5 (numK b (gd m.pl.next (gd order k)) order a).1.length),(7,slV d7 (numK b (gd m.pl.next (gd order k)) order a).2.length)]) (C:=[(1,_),(2,_),(3,_),(4,_),(6,_)]) (G:=fun ⟨a,d5,d7⟩=>slH d7 ((numK b (gd m.pl.next (gd order k)) order a).2.flatMap encU) 3++(M++(slH d5 ((numK b (gd m.pl.next (gd order k)) order a).1.flatMap encU) 3++(slH dr (rows.flatMap encRQ) 27++(slH da (acc.flatMap encB1) 4++((n4,Cl [.slice m.q1 m.names.length m.c1,slV dr rows.length,slV da acc.length] 68)::(M3++((n2,Cl [.slice none 0 0, .slice none 0 0, .slice none 0 0] 68)::(n1,Cl (encMc m) 68)::H)))))))) (φ:=fun ⟨a,d5,d7⟩=>a≤(gd m.pl.next (gd order k)).length∧SlOk d5 (numK b (gd m.pl.next (gd order k)) order a).1.length 1∧SlOk d7 (numK b (gd m.pl.next (gd order k)) order a).2.length 1) (μ:=fun ⟨a,d5,d7⟩=>(gd m.pl.next (gd order k)).length - a) (x0:=(0,d5, .nil)) ?_ ⟨Aa rfl,Aa rfl,Aa rfl,Aa rfl,Aa rfl,trivial⟩ ⟨qat,qat,qat,trivial⟩ sb0 ?_
  ·exact⟨Nat.zero_le _,hd5,rfl⟩
  rintro⟨a,d5,d7⟩ ⟨ha,hd5,hd7⟩;have hstp:=hord.step htl a ha;have hof2:=hstp.1.few;have hsl2:=hstp.2.1;have hgk:=(Fv b (gd m.pl.next (gd order k)) (order:=order) (k:=k) qom a).1;have hge2:=(Fv b (gd m.pl.next (gd order k)) (order:=order) (k:=k) qom a).2;refine rD tb 2 U (Bh 11 [(0,true),(1,true),(2,true),(3,true),(4,true),(5,true),(6,true),(7,true),(8,true),(9,true),(10,true)] _ mixd qkr sb0 ?_ A8);refine rP tb 2 U (o_y U (Lb U isAgg65 qco) ?_ U Ac);refine rP tb 2 U (o_y U (Ld U U runUnderlying27 sizeOf3 qom (by first|exact rfl|exact(A1 (w0:=w0) (X:=[]) (enc:=encU) (sz:=1) (e:=3) (fun _=>rfl) hd5).b (i:=k) qom)) ?_ U Ac);refine o_y U (Lb U isAgg3 (by first|exact c_o|exact Kr (v':= .int .i64 ((gd order k:Nat):Int)) (by rw[hgk]) (cell1 (((A1 (w0:=w0) (X:=H) (enc:=encU) (sz:=1) (e:=3) (fun _=>rfl) hd5).mono sbt).cs (i:=k) qom)))) ?_ U Ac;refine o_y U (Ld U U runUnderlying65 sizeOf27 qom (by first|exact rfl|exact(A1 (w0:=w0) (X:=[]) (enc:=encU) (sz:=1) (e:=3) (fun _=>rfl) hd5).b (i:=k) qom|exact(A1 (w0:=w0) (X:=[]) (enc:=encU) (sz:=1) (e:=3) (fun _=>rfl) hd5).b (i:=j) qom|exact hm.a2.b (i:=gd order k) hokl)) ?_ U Ac;refine o_y U (Lb U isAgg27 (by first|exact c_o|exact cell1 ((hm.a2.mono sbt).cs (i:=gd order k) hokl))) ?_ U Ac;refine rP tb 2 U (A7 U (rO tb 2 U ?_));refine Ad (Aa U) (fun c33=> ?_) (fun c33=> ?_)
  ·have hil:(gd (gd m.rows (gd order k)).l a)<m.rows.length:=hr2 a qom;have hti:gd (gd m.pl.next (gd order k)) a=(gd (gd m.rows (gd order k)).l a):=by rw[htos]
   refine rC tb 5 U (Bh 12 [(0,true),(1,true),(2,true),(3,true),(4,true),(5,true),(6,true),(7,true),(8,true),(9,true),(10,true),(11,true)] _ mixd qkr sb0 ?_ A8);refine rP tb 1 U (o_y U (Lb U isAgg65 qco) ?_ U Ac);refine rP tb 2 U (o_y U (Ld U U runUnderlying27 sizeOf3 qom (by first|exact rfl|exact(A1 (w0:=w0) (X:=[]) (enc:=encU) (sz:=1) (e:=3) (fun _=>rfl) hd5).b (i:=k) qom)) ?_ U Ac);refine o_y U (Lb U isAgg3 (by first|exact c_o|exact Kr (v':= .int .i64 ((gd order k:Nat):Int)) (by rw[hgk]) (cell1 (((A1 (w0:=w0) (X:=H) (enc:=encU) (sz:=1) (e:=3) (fun _=>rfl) hd5).mono sbt).cs (i:=k) qom)))) ?_ U Ac;refine o_y U (Ld U U runUnderlying65 sizeOf27 qom (by first|exact rfl|exact(A1 (w0:=w0) (X:=[]) (enc:=encU) (sz:=1) (e:=3) (fun _=>rfl) hd5).b (i:=k) qom|exact(A1 (w0:=w0) (X:=[]) (enc:=encU) (sz:=1) (e:=3) (fun _=>rfl) hd5).b (i:=j) qom|exact hm.a2.b (i:=gd order k) hokl)) ?_ U Ac;refine o_y U (Lb U isAgg27 (by first|exact c_o|exact cell1 ((hm.a2.mono sbt).cs (i:=gd order k) hokl))) ?_ U Ac;refine rP tb 1 U (o_y U (Ld U U runUnderlying27 sizeOf3 qom (by first|exact rfl|exact(A1 (w0:=w0) (X:=[]) (enc:=encU) (sz:=1) (e:=3) (fun _=>rfl) hd5).b (i:=k) qom|exact(A1 (w0:=w0) (X:=[]) (enc:=encU) (sz:=1) (e:=3) (fun _=>rfl) hd5).b (i:=j) qom|exact hm.a2.b (i:=gd order k) hokl|exact(hm.r (gd m.rows (gd order k)) (Af hokl)).b (i:=a) qom)) ?_ U Ac);refine o_y U (Lb U isAgg3 (by first|exact c_o|exact cell1 (((hm.r (gd m.rows (gd order k)) (Af hokl)).mono sbt).cs (i:=a) qom))) ?_ U Ac;refine rP tb 1 U (A7 U (kO tb 2 [1,2,3,4,5,6,7,8,9] rfl U (rG tb 7 U ?_)));refine Bd (X:=Nat) (V:=fun j=>[(10, .int .i64 (j:Nat))]) (C:=[(1,_),(2,_),(3,_),(4,_),(5,_),(6,_),(7,_),(8,_),(9,_)]) (φ:=fun j=>j≤(numK b (gd m.pl.next (gd order k)) order a).1.length∧∀ x,x<j→¬ gd b (gd (numK b (gd m.pl.next (gd order k)) order a).1 x)=gd b (gd (gd m.rows (gd order k)).l a)) (μ:=fun j=>(numK b (gd m.pl.next (gd order k)) order a).1.length - j) (x0:=0) ?_ ⟨Aa U,Aa U,Aa U,Aa U,Aa U,Aa U,Aa U,Aa U,Aa U,trivial⟩ ⟨qat,trivial⟩ ?_
   ·exact⟨Nat.zero_le _,fun j hj=>absurd hj (Nat.not_lt_zero _)⟩
   rintro j ⟨hj,hno⟩;refine rD tb 2 U (Bh 18 [(0,true),(1,true),(2,true),(3,true),(4,true),(5,true),(6,true),(7,true),(8,true),(9,true),(10,true),(11,true),(12,true),(13,true),(14,true),(15,true),(16,true),(17,true)] _ mixd qkr sb0 ?_ A8);refine rP tb 5 U ?_;refine Cd (s:=51) (Aa U) (fun c51=> ?_) (fun c51=> ?_)
   ·have hoj:gd (numK b (gd m.pl.next (gd order k)) order a).1 j<b.length:=by rw[hbl,← hfl];exact hstp.1.lt _ (Af qom)
    refine rP tb 3 U (o_y U (Ld U U runUnderlying27 sizeOf3 qom (by first|exact rfl|exact(A1 (w0:=w0) (X:=[]) (enc:=encU) (sz:=1) (e:=3) (fun _=>rfl) hd5).b (i:=k) qom)) ?_ U (Az U U (Aa U)));refine o_y U (Lb U isAgg3 (by first|exact c_o|exact cell1 (((A1 (w0:=w0) (X:=H) (enc:=encU) (sz:=1) (e:=3) (fun _=>rfl) hd5).mono sbt).cs (i:=j) qom))) ?_ U (Az U U (Aa U));refine o_y U (Ld U U runUnderlying27 sizeOf3 qom (by first|exact rfl|exact(A1 (w0:=w0) (X:=[]) (enc:=encU) (sz:=1) (e:=3) (fun _=>rfl) hd5).b (i:=k) qom|exact(A1 (w0:=w0) (X:=[]) (enc:=encU) (sz:=1) (e:=3) (fun _=>rfl) hd5).b (i:=j) qom|exact hm.a2.b (i:=gd order k) hokl|exact(hm.r (gd m.rows (gd order k)) (Af hokl)).b (i:=a) qom|exact hC.b (i:=gd (numK b (gd m.pl.next (gd order k)) order a).1 j) hoj)) ?_ U (Az U U (Aa U));refine o_y U (Lb U isAgg3 (by first|exact c_o|exact cell1 ((hC.mono sbt).cs (i:=gd (numK b (gd m.pl.next (gd order k)) order a).1 j) hoj))) ?_ U (Az U U (Aa U));refine rP tb 2 U (o_y U (Ld U U runUnderlying27 sizeOf3 qom (by first|exact rfl|exact(A1 (w0:=w0) (X:=[]) (enc:=encU) (sz:=1) (e:=3) (fun _=>rfl) hd5).b (i:=k) qom|exact(A1 (w0:=w0) (X:=[]) (enc:=encU) (sz:=1) (e:=3) (fun _=>rfl) hd5).b (i:=j) qom|exact hm.a2.b (i:=gd order k) hokl|exact(hm.r (gd m.rows (gd order k)) (Af hokl)).b (i:=a) qom|exact hC.b (i:=gd (numK b (gd m.pl.next (gd order k)) order a).1 j) hoj)) ?_ U (Az U U (Aa U)));refine o_y U (Lb U isAgg3 (by first|exact c_o|exact cell1 ((hC.mono sbt).cs (i:=(gd (gd m.rows (gd order k)).l a)) qom))) ?_ U (Az U U (Aa U));refine rP tb 2 U (A7 U (rO tb 2 U ?_));refine Ad (Aa U) (fun c64=> ?_) (fun c64=> ?_)
    ·refine rC tb 5 U (y_ (Av (T U) Ap qom) ?_ U);refine rO tb 3 U ?_;refine Ar (j+1) ?_ ?_ ⟨qat,trivial⟩ ⟨Aa U,Aa U,Aa U,Aa U,Aa U,Aa U,Aa U,Aa U,Aa U,trivial⟩ ?_
     ·refine⟨by omega,fun x hx=> ?_⟩
      by_cases e:x=j
      ·subst e;omega
      ·exact hno x qom
     ·omega
     ·exact sbt
    ·have hidx:idx ((numK b (gd m.pl.next (gd order k)) order a).1.map (gd b)) (gd b (gd (gd m.rows (gd order k)).l a))=j:=Jg (by rw[List.length_map];omega) (by rw[Bu qom];omega) (fun x hx=>by rw[Bu qom];exact hno x hx);refine rC tb 2 U (Ag (rX tb 2 U ?_));refine Dm (X:=Sl) (V:=fun g5=>[(5,slV g5 (numK b (gd m.pl.next (gd order k)) order (a+1)).1.length)]) (C:=[(1,_),(2,_),(3,_),(4,_),(6,_),(7,_),(8,_),(10,_)]) (G:=fun g5=>slH d7 ((numK b (gd m.pl.next (gd order k)) order a).2.flatMap encU) 3++(M++(slH g5 ((numK b (gd m.pl.next (gd order k)) order (a+1)).1.flatMap encU) 3++(slH dr (rows.flatMap encRQ) 27++(slH da (acc.flatMap encB1) 4++((n4,Cl [.slice m.q1 m.names.length m.c1,slV dr rows.length,slV da acc.length] 68)::(M3++((n2,Cl [.slice none 0 0, .slice none 0 0, .slice none 0 0] 68)::(n1,Cl (encMc m) 68)::H)))))))) (φ:=fun g5=>SlOk g5 (numK b (gd m.pl.next (gd order k)) order (a+1)).1.length 1) ⟨Aa U,Aa U,Aa U,Aa U,Aa U,Aa U,Aa U,Aa U,trivial⟩ ?_ ?_
     ·refine kD tb 8 [1,2,3,4,5,6,7,8,9,10,70] rfl U ?_;refine Ad (Aa U) (fun c70=> ?_) (fun c70=> ?_)
      ·have hrow:(numK b (gd m.pl.next (gd order k)) order (a+1)).1=(numK b (gd m.pl.next (gd order k)) order a).1++[(gd (gd m.rows (gd order k)).l a)]:=by
        rw[Bz];simp only[hti];rw[if_neg (fun hm=>by have:=Cx hm;rw[List.length_map] at this;omega)]
       refine rC tb 3 U (e_ (Aj (.cons (T U) .nil) (Bn _)) ?_ U);rintro _ _ ⟨n73,rfl,rfl⟩;refine e_ (Bg ((gd (gd m.rows (gd order k)).l a)) (by':=8) (enc:=encU) (l:=(numK b (gd m.pl.next (gd order k)) order a).1) qlc (T U) (T U) runUnderlying27 runUnderlying27 sizeOf3 typeInfo3 U zeroValue3 U (fun _=>rfl) U hd5 qde qom) ?_ U;rintro _ _ ⟨d5',rfl,hok5,rfl⟩;refine rO tb 2 U ?_;refine Bb (d5') ?_ ⟨(by first|exact Aa U|(refine Be (Aa U) (vint ?_);omega)|(refine Be (Aa U) ?_;simp;done)|(refine Be (Aa U) ?_;exact by rw[hrow])),trivial⟩ ⟨Aa U,Aa U,Aa U,Aa U,Aa U,Aa U,Aa U,Aa U,trivial⟩ (by simp only[hrow];exact sbt)
       (rw[hrow];exact hok5)
      ·have hrow:(numK b (gd m.pl.next (gd order k)) order (a+1)).1=(numK b (gd m.pl.next (gd order k)) order a).1:=by
        rw[Bz];simp only[hti];rw[if_pos (Classical.byContradiction fun hm=>by have:=Eo hm;rw[List.length_map] at this;omega)]
       refine rC tb 1 U ?_;refine Bb (d5) ?_ ⟨(by first|exact Aa U|(refine Be (Aa U) (vint ?_);omega)|(refine Be (Aa U) ?_;simp;done)|(refine Be (Aa U) ?_;exact by rw[hrow])),trivial⟩ ⟨Aa U,Aa U,Aa U,Aa U,Aa U,Aa U,Aa U,Aa U,trivial⟩ (by simp only[hrow];exact sbt)
       first|(rw[hrow];exact hok5)|(rw[hrow];exact hd5)
     rintro g5 hg5;refine rC tb 3 U (e_ (Aj (.cons (T U) .nil) (Bn _)) ?_ U);rintro _ _ ⟨n77,rfl,rfl⟩;refine e_ (Bg (j) (by':=8) (enc:=encU) (l:=(numK b (gd m.pl.next (gd order k)) order a).2) qlc (T U) (T U) runUnderlying27 runUnderlying27 sizeOf3 typeInfo3 U zeroValue3 U (fun _=>rfl) U hd7 qde qom) ?_ U;rintro _ _ ⟨d7',rfl,hok7,rfl⟩;refine rO tb 6 U (y_ (Av (T U) Ap qom) ?_ U);refine rO tb 2 U ?_;have hrow2:(numK b (gd m.pl.next (gd order k)) order (a+1)).2=(numK b (gd m.pl.next (gd order k)) order a).2++[j]:=by rw[Bz];simp only[hti,hidx]
     refine Ar ((a+1,g5,d7')) ?_ ?_ ⟨qat,qat,(by first|exact Aa U|(refine Be (Aa U) (vint ?_);omega)|(refine Be (Aa U) ?_;simp;done)|(refine Be (Aa U) ?_;exact by rw[hrow])|(refine Be (Aa U) ?_;exact by rw[hrow2])),trivial⟩ ⟨Aa U,Aa U,Aa U,Aa U,Aa U,trivial⟩ ?_
     ·exact⟨by omega,hg5,by rw[hrow2];exact hok7⟩
     ·show _ - (a+1)<_ - a;omega
     ·simp only[hrow2];exact sbt
   ·have hidx:idx ((numK b (gd m.pl.next (gd order k)) order a).1.map (gd b)) (gd b (gd (gd m.rows (gd order k)).l a))=j:=by
     rw[idx_none (fun x hx=> ?_),List.length_map]
     ·omega
     ·rw[List.length_map] at hx;rw[Bu hx];exact hno x qom
    refine rP tb 13 U (A7 U (rO tb 5 U (Ag (rX tb 2 U ?_))));refine Dm (X:=Sl) (V:=fun g5=>[(5,slV g5 (numK b (gd m.pl.next (gd order k)) order (a+1)).1.length)]) (C:=[(1,_),(2,_),(3,_),(4,_),(6,_),(7,_),(8,_),(10,_)]) (G:=fun g5=>slH d7 ((numK b (gd m.pl.next (gd order k)) order a).2.flatMap encU) 3++(M++(slH g5 ((numK b (gd m.pl.next (gd order k)) order (a+1)).1.flatMap encU) 3++(slH dr (rows.flatMap encRQ) 27++(slH da (acc.flatMap encB1) 4++((n4,Cl [.slice m.q1 m.names.length m.c1,slV dr rows.length,slV da acc.length] 68)::(M3++((n2,Cl [.slice none 0 0, .slice none 0 0, .slice none 0 0] 68)::(n1,Cl (encMc m) 68)::H)))))))) (φ:=fun g5=>SlOk g5 (numK b (gd m.pl.next (gd order k)) order (a+1)).1.length 1) ⟨Aa U,Aa U,Aa U,Aa U,Aa U,Aa U,Aa U,Aa U,trivial⟩ ?_ ?_
    ·refine kD tb 8 [1,2,3,4,5,6,7,8,9,10,70] rfl U ?_;refine Ad (Aa U) (fun c70=> ?_) (fun c70=> ?_)
     ·have hrow:(numK b (gd m.pl.next (gd order k)) order (a+1)).1=(numK b (gd m.pl.next (gd order k)) order a).1++[(gd (gd m.rows (gd order k)).l a)]:=by
       rw[Bz];simp only[hti];rw[if_neg (fun hm=>by have:=Cx hm;rw[List.length_map] at this;omega)]
      refine rC tb 3 U (e_ (Aj (.cons (T U) .nil) (Bn _)) ?_ U);rintro _ _ ⟨n73,rfl,rfl⟩;refine e_ (Bg ((gd (gd m.rows (gd order k)).l a)) (by':=8) (enc:=encU) (l:=(numK b (gd m.pl.next (gd order k)) order a).1) qlc (T U) (T U) runUnderlying27 runUnderlying27 sizeOf3 typeInfo3 U zeroValue3 U (fun _=>rfl) U hd5 qde qom) ?_ U;rintro _ _ ⟨d5',rfl,hok5,rfl⟩;refine rO tb 2 U ?_;refine Bb (d5') ?_ ⟨(by first|exact Aa U|(refine Be (Aa U) (vint ?_);omega)|(refine Be (Aa U) ?_;simp;done)|(refine Be (Aa U) ?_;exact by rw[hrow])),trivial⟩ ⟨Aa U,Aa U,Aa U,Aa U,Aa U,Aa U,Aa U,Aa U,trivial⟩ (by simp only[hrow];exact sbt)
      (rw[hrow];exact hok5)
     ·have hrow:(numK b (gd m.pl.next (gd order k)) order (a+1)).1=(numK b (gd m.pl.next (gd order k)) order a).1:=by
       rw[Bz];simp only[hti];rw[if_pos (Classical.byContradiction fun hm=>by have:=Eo hm;rw[List.length_map] at this;omega)]
      refine rC tb 1 U ?_;refine Bb (d5) ?_ ⟨(by first|exact Aa U|(refine Be (Aa U) (vint ?_);omega)|(refine Be (Aa U) ?_;simp;done)|(refine Be (Aa U) ?_;exact by rw[hrow])),trivial⟩ ⟨Aa U,Aa U,Aa U,Aa U,Aa U,Aa U,Aa U,Aa U,trivial⟩ (by simp only[hrow];exact sbt)
      first|(rw[hrow];exact hok5)|(rw[hrow];exact hd5)
    rintro g5 hg5;refine rC tb 3 U (e_ (Aj (.cons (T U) .nil) (Bn _)) ?_ U);rintro _ _ ⟨n77,rfl,rfl⟩;refine e_ (Bg (j) (by':=8) (enc:=encU) (l:=(numK b (gd m.pl.next (gd order k)) order a).2) qlc (T U) (T U) runUnderlying27 runUnderlying27 sizeOf3 typeInfo3 U zeroValue3 U (fun _=>rfl) U hd7 qde qom) ?_ U;rintro _ _ ⟨d7',rfl,hok7,rfl⟩;refine rO tb 6 U (y_ (Av (T U) Ap qom) ?_ U);refine rO tb 2 U ?_;have hrow2:(numK b (gd m.pl.next (gd order k)) order (a+1)).2=(numK b (gd m.pl.next (gd order k)) order a).2++[j]:=by rw[Bz];simp only[hti,hidx]
    refine Ar ((a+1,g5,d7')) ?_ ?_ ⟨qat,qat,(by first|exact Aa U|(refine Be (Aa U) (vint ?_);omega)|(refine Be (Aa U) ?_;simp;done)|(refine Be (Aa U) ?_;exact by rw[hrow])|(refine Be (Aa U) ?_;exact by rw[hrow2])),trivial⟩ ⟨Aa U,Aa U,Aa U,Aa U,Aa U,trivial⟩ ?_
    ·exact⟨by omega,hg5,by rw[hrow2];exact hok7⟩
    ·show _ - (a+1)<_ - a;omega
    ·simp only[hrow2];exact sbt
  ·have ha2:a=(gd m.pl.next (gd order k)).length:=by omega
   subst ha2;refine rC tb 2 U (Ag (rX tb 5 U (y_ (Lb U isAgg65 qco) ?_ U)));refine rO tb 1 U (e_ (Aj (.cons (T U) .nil) (C0 _ _ _)) ?_ U);rintro _ _ ⟨n82,rfl,rfl⟩;refine e_ (Bg ((⟨slQ d7,slC d7,(numK b (gd m.pl.next (gd order k)) order (gd m.pl.next (gd order k)).length).2⟩:RowQ)) (by':=24) (enc:=encRQ) (l:=rows) qlc (T U) (T U) runUnderlying65 runUnderlying65 sizeOf27 typeInfo27 U zeroValue27 U (fun _=>rfl) U hdr qde qom) ?_ U;rintro _ _ ⟨dr',rfl,hokr,rfl⟩;refine rO tb 1 U ?_
   first|refine Aw (Le U U sizeOf65) U Ac ?_|refine Aw (Bs (T U) (T U) U sizeOf65) U Ac ?_|refine Aw (Bj (T U) (T U) U sizeOf65) U Ac ?_
   rintro _ _ ⟨rfl,rfl⟩;refine rO tb 2 U (Bh 11 [(0,true),(1,true),(2,true),(3,true),(4,true),(5,true),(6,true),(7,true),(8,true),(9,true),(10,false)] _ mixd qkr sb0 ?_ A8);refine rP tb 1 U (o_y U (Lb U isAgg66 qco) ?_ U Ac);refine rP tb 1 U (o_y U (Lb U isAgg66 qco) ?_ U Ac);refine rP tb 2 U (o_y U (Ld U U runUnderlying27 sizeOf3 qom (by first|exact rfl|exact(A1 (w0:=w0) (X:=[]) (enc:=encU) (sz:=1) (e:=3) (fun _=>rfl) hd5).b (i:=k) qom)) ?_ U Ac);refine o_y U (Lb U isAgg3 (by first|exact c_o|exact Kr (v':= .int .i64 ((gd order k:Nat):Int)) (by rw[hgk]) (cell1 (((A1 (w0:=w0) (X:=H) (enc:=encU) (sz:=1) (e:=3) (fun _=>rfl) hd5).mono sbt).cs (i:=k) qom)))) ?_ U Ac;refine o_y U (Ld U U runUnderlying66 sizeOf4 qom (by first|exact rfl|exact(A1 (w0:=w0) (X:=[]) (enc:=encU) (sz:=1) (e:=3) (fun _=>rfl) hd5).b (i:=k) qom|exact(A1 (w0:=w0) (X:=[]) (enc:=encU) (sz:=1) (e:=3) (fun _=>rfl) hd5).b (i:=j) qom|exact hm.a2.b (i:=gd order k) hokl|exact(hm.r (gd m.rows (gd order k)) (Af hokl)).b (i:=a) qom|exact hC.b (i:=gd (numK b (gd m.pl.next (gd order k)) order a).1 j) hoj|exact hC.b (i:=(gd (gd m.rows (gd order k)).l a)) qom|exact hm.a3.b (i:=gd order k) qom)) ?_ U Ac;refine o_y U (Lb U isAgg4 (by first|exact c_o|exact cell1 ((hm.a3.mono sbt).cs (i:=gd order k) qom))) ?_ U Ac;refine o_e U (Aj (.cons (T U) .nil) (Fu _)) ?_ U Ac;rintro _ _ ⟨n95,rfl,rfl⟩;refine⟨sbt,(A7 U (e_ (Bg (gd m.acc (gd order k)) (by':=1) (enc:=encB1) (l:=acc) qlc (T U) (T U) runUnderlying66 runUnderlying66 sizeOf4 typeInfo4 U zeroValue4 U (fun _=>rfl) U hda qde qom) ?_ U))⟩;rintro _ _ ⟨da',rfl,hoka,rfl⟩;refine rO tb 1 U ?_
   first|refine Aw (Le U U sizeOf66) U Ac ?_|refine Aw (Bs (T U) (T U) U sizeOf66) U Ac ?_|refine Aw (Bj (T U) (T U) U sizeOf66) U Ac ?_
   rintro _ _ ⟨rfl,rfl⟩;refine kO tb 3 [1,2,3,4,5,6] rfl U (rG tb 2 U (y_ (Av (T U) Ap qom) ?_ U));refine rO tb 2 U ?_;refine Ar ((k+1,(numK b (gd m.pl.next (gd order k)) order (gd m.pl.next (gd order k)).length).1,rows++[⟨slQ d7,slC d7,(numK b (gd m.pl.next (gd order k)) order (gd m.pl.next (gd order k)).length).2⟩],acc++[gd m.acc (gd order k)],d5,dr',da',slH d7 ((numK b (gd m.pl.next (gd order k)) order (gd m.pl.next (gd order k)).length).2.flatMap encU) 3++M)) ?_ ?_ ⟨qat,qat,trivial⟩ ⟨Aa U,Aa U,Aa U,Aa U,trivial⟩ ?_
   ·refine⟨hstp.1,⟨by omega,by simp[hrl],by simp[hacl]⟩,⟨hd5,by simpa using hokr,by simpa using hoka⟩,fun x hx X=>rowQ_push (fun r hr=>hro r hr X) (by simp only[List.append_assoc];exact List.sublist_append_right _ _) (by simp only[List.append_assoc];exact A1 (fun _=>rfl) hd7) x hx,?_⟩;rw[← hgo,List.map_append,show 201 - k=(200 - k)+1 by omega,Cz,if_pos (show k<order.length by omega),show 201 - (k+1)=200 - k by omega];rfl
   ·show 201 - (k+1)<201 - k;omega
   ·simp only[List.append_assoc,List.length_append,List.length_cons,List.length_nil,Nat.zero_add];exact sbt
 ·refine rC tb 2 U (Ag (rX tb 4 U (y_ (Lc U isAgg68 sizeOf68 U qcs) ?_ U)));refine Aw (Le U U sizeOf68) U Ac ?_;rintro _ _ ⟨rfl,rfl⟩;refine rO tb 3 U (Ah U (.cellA (Aa U) isAgg68 sizeOf68 U qcs .nil) ?_);have hfin:numGo m.pl b 201 0 [0] [] []=(rows.map RowQ.l,acc):=by rw[← hgo,show 201 - k=(200 - k)+1 by omega,Cz,if_neg qom]
  exact⟨_,⟨⟨m.names,rows,acc,m.q1,m.c1,slQ dr,slC dr,slQ da,slC da⟩,M++(slH dr (rows.flatMap encRQ) 27++slH da (acc.flatMap encB1) 4),⟨rfl,fun X hX=>⟨hX.a1.mono (by simp only[List.append_assoc];exact sbt),(A1 (w0:=w0) (X:=X) (enc:=encRQ) (sz:=1) (e:=27) (fun _=>rfl) hdr).mono (by simp only[List.append_assoc];exact sbt),(A1 (w0:=w0) (X:=X) (enc:=encB1) (sz:=1) (e:=4) (fun _=>rfl) hda).mono (by simp only[List.append_assoc];exact sbt),fun r hr=>(hro r hr X).mono (by simp only[List.append_assoc];exact sbt)⟩,by unfold numF;rw[hfin];rfl⟩,rfl⟩,by simp only[List.append_assoc];exact sbt⟩
theorem nameF_insS {s:ByteArray}:∀ {l:List ByteArray},nameF s l=insS s l
 |[]=>rfl
 |x::l=>by
  unfold nameF insS
  by_cases h1:toL x<toL s
  ·rw[if_pos h1,if_neg (ltU_ne h1),if_neg (fun e=>by rw[e] at h1;exact List.lt_irrefl _ h1),nameF_insS]
  ·rw[if_neg h1]
   by_cases h2:x=s
   ·subst h2;rw[if_pos rfl,if_neg (List.lt_irrefl _),if_pos rfl]
   ·rw[if_neg h2];have h3: ¬ toL s=toL x:=fun e=>h2 (Dc e).symm
    rcases leU_total (toL s) (toL x) with h|h
    ·rw[if_pos ((Jc h).resolve_right h3)]
    ·exact absurd ((Jc h).resolve_right fun e=>h3 e.symm) h1
theorem ntR_is {m:Rxm}{e:Re}(h:Is m e):∀ {l:List ByteArray},Srt l→Srt (ntR m l)∧∀ x,x∈ntR m l↔x∈l∨x∈e.nms:=by
 induction h with
 |emp=>exact fun h=>⟨h,fun x=>by simp[ntR,ntL,Re.nms]⟩
 | @nod q c s h=>exact fun {l} h=>⟨by show Srt (nameF s l);rw[nameF_insS];exact insS_srt h,fun x=>by show x∈nameF s l↔_;rw[nameF_insS,insS_mem];simp[Re.nms,or_comm]⟩
 |any=>exact fun h=>⟨h,fun x=>by simp[ntR,ntL,Re.nms]⟩
 |seq _ _ i1 i2=>
  intro l h;obtain⟨a1,a2⟩:=i1 h;obtain⟨b1,b2⟩:=i2 a1;exact⟨b1,fun x=>by simp only[ntR,ntL,Re.nms,List.mem_append];rw[if_neg qde,b2,a2,or_assoc]⟩
 |alt _ _ i1 i2=>
  intro l h;obtain⟨a1,a2⟩:=i1 h;obtain⟨b1,b2⟩:=i2 a1;exact⟨b1,fun x=>by simp only[ntR,ntL,Re.nms,List.mem_append];rw[if_neg qde,b2,a2,or_assoc]⟩
 |star _ i1=>
  intro l h;obtain⟨a1,a2⟩:=i1 h;exact⟨a1,fun x=>by simp only[ntR,ntL,Re.nms];rw[if_neg qde,a2]⟩
theorem ntR_let {m:Rxm}{e:Re}(h:Is m e):ntR m []=letF e:=by
 obtain⟨h1,h2⟩:=ntR_is h (l:=[]) .nil;exact srt_ext h1 (Iq e) fun x=>by rw[h2,D9];simp
def Rep (x:Nat) (l:List Nat):Prop:=∀ n,x.testBit n=decide (n∈l)
theorem Rep.eq {x y:Nat}{l:List Nat}(h:Rep x l)(h2:Rep y l):x=y:=Nat.eq_of_testBit_eq fun n=>by rw[h n,h2 n]
theorem Rep.nil:Rep 0 []:=fun n=>by simp
theorem Rep.one (k:Nat):Rep (2 ^ k) [k]:=fun n=>by
 rw[Nat.testBit_two_pow];exact decide_eq_decide.2 (by simp[eq_comm])
theorem Rep.or {x y:Nat}{a b:List Nat}(h1:Rep x a)(h2:Rep y b):Rep (x|||y) (mergeF a b):=fun n=>by
 rw[Nat.testBit_or,h1 n,h2 n,Bool.eq_iff_iff];simp[mem_mergeF]
theorem srn_ext {n:Nat}:∀ {a b:List Nat},a.Pairwise (· < ·)→b.Pairwise (· < ·)→(∀ x,x∈a↔x∈b)→a=b
 |[],[],_,_,_=>rfl
 |[],y::l',_,_,h=>absurd ((h y).2 (by simp)) (by simp)
 |x::l,[],_,_,h=>absurd ((h x).1 (by simp)) (by simp)
 |x::l,y::l',h1,h2,h=>by
  have p1:=List.pairwise_cons.1 h1;have p2:=List.pairwise_cons.1 h2;have e:x=y:=by
   rcases List.mem_cons.1 ((h x).1 (by simp)) with e|e
   ·exact e
   ·rcases List.mem_cons.1 ((h y).2 (by simp)) with e2|e2
    ·exact e2.symm
    ·have:=p1.1 y e2;have:=p2.1 x e;omega
  subst e;rw[srn_ext (n:=n) p1.2 p2.2 fun z=> ?_]
  constructor
  ·intro hz;rcases List.mem_cons.1 ((h z).1 (List.mem_cons_of_mem _ hz)) with e|e
   ·subst e;exact absurd (p1.1 z hz) (Nat.lt_irrefl _)
   ·exact e
  ·intro hz;rcases List.mem_cons.1 ((h z).2 (List.mem_cons_of_mem _ hz)) with e|e
   ·subst e;exact absurd (p2.1 z hz) (Nat.lt_irrefl _)
   ·exact e
theorem Rep.inj {x:Nat}{a b:List Nat}(h1:Rep x a)(h2:Rep x b)(ha:a.Pairwise (· < ·))(hb:b.Pairwise (· < ·)):a=b:=
 srn_ext (n:=0) ha hb fun n=>by
  have:=(h1 n).symm.trans (h2 n);exact decide_eq_decide.1 this
structure TRel (t:Tr) (u:PT):Prop where
 nm:t.names=u.nms
 len:t.fol.length=u.fol.length
 ln2:u.fol.length=u.nms.length
 fol:∀ i,i<t.fol.length→Rep (gd t.fol i) (gd u.fol i)
theorem Ka {α:Type}[Inhabited α] {l:List α}{x:α}{i:Nat}(h:i<l.length):gd (l++[x]) i=gd l i:=by
 rw[An h,An (by simp;omega)];simp[List.getElem_append,h]
theorem Kz {α:Type}[Inhabited α] {l:List α}{x:α}:gd (l++[x]) l.length=x:=by
 rw[An (by simp)];simp
theorem TRel.push {t:Tr}{u:PT}(h:TRel t u)(s:ByteArray):TRel ⟨t.names++[s],t.fol++[0]⟩ ⟨u.nms++[s],u.fol++[[]]⟩:=by
 refine⟨by simp[h.nm],by simp[h.len],by simp[h.ln2],fun i hi=> ?_⟩;simp only[List.length_append,List.length_cons,List.length_nil] at hi;have hl:=h.len
 by_cases e:i<t.fol.length
 ·show Rep (gd (t.fol++[0]) i) (gd (u.fol++[[]]) i);rw[Ka e,Ka qom];exact h.fol i e
 ·obtain rfl:i=t.fol.length:=by omega
  show Rep (gd (t.fol++[0]) t.fol.length) (gd (u.fol++[[]]) t.fol.length);rw[Kz,hl,Kz];exact .nil
theorem gd_set_eq {α:Type}[Inhabited α] {l:List α}{x:α}{k:Nat}(h:k<l.length):gd (l.set k x) k=x:=by
 rw[An (by simpa using h)];simp
theorem F0 {α:Type}[Inhabited α] {l:List α}{x:α}{k i:Nat}(h: ¬ k=i):gd (l.set k x) i=gd l i:=by
 by_cases hi:i<l.length
 ·rw[An (by simpa using hi),An hi];simp[List.getElem_set,h]
 ·have e:∀ l:List α,¬ i<l.length→gd l i=default:=fun l h=>by unfold gd;simp[List.getD_eq_getElem?_getD,List.getElem?_eq_none (show l.length≤i by omega)]
  rw[e _ hi,e _ (by simpa using hi)]
theorem gd_leadP (to:List Nat):∀ {fr:List Nat} {fol:List (List Nat)},fr.Nodup→(∀ x∈fr,x<fol.length)→∀ i,gd (leadP fol fr to) i=if i∈fr then mergeF (gd fol i) to else gd fol i
 |[],fol,_,_,i=>by simp[leadP]
 |x::fr,fol,hn,hx,i=>by
  have hn':=List.nodup_cons.1 hn;have e:leadP fol (x::fr) to=leadP (fol.set x (mergeF (gd fol x) to)) fr to:=rfl;rw[e,gd_leadP to hn'.2 (fun y hy=>by rw[List.length_set];exact hx y (by simp[hy])) i]
  by_cases h:i=x
  ·subst h;rw[if_neg hn'.1,if_pos (by simp),gd_set_eq (hx i (by simp))]
  ·have h': ¬ x=i:=fun e=>h e.symm
   rw[F0 h']
   by_cases h2:i∈fr
   ·rw[if_pos h2,if_pos (by simp[h2])]
   ·rw[if_neg h2,if_neg (by simp[h,h2])]
structure ERel (n:Nat) (e:En) (E:PE):Prop where
 f:Rep e.first E.first
 l:Rep e.last E.last
 emp:e.emp=E.emp
 s1:Srn n E.first
 s2:Srn n E.last
theorem Srn.nodup {n:Nat}{l:List Nat}(h:Srn n l):l.Nodup:=h.1.imp fun h=>Nat.ne_of_lt h
theorem gd_conn {t:Tr}{a b i:Nat}(h:i<t.fol.length)(hw:t.fol.length≤64):gd (conn t a b).fol i=if a.testBit i=true then gd t.fol i|||b else gd t.fol i:=by
 have hl:(conn t a b).fol.length=t.fol.length:=B8 ..;rw[An qom,An h];simp only[conn,connK,List.getElem_mapIdx]
 by_cases hb:a.testBit i=true
 ·rw[if_pos ⟨by omega,hb⟩,if_pos hb]
 ·rw[if_neg (fun h=>hb h.2),if_neg hb]
theorem TRel.lead {t:Tr}{u:PT}(h:TRel t u){a b:Nat}{fr to:List Nat}(ha:Rep a fr)(hb:Rep b to)(hs:Srn t.names.length fr)(hw:t.fol.length≤64):TRel (conn t a b) ⟨u.nms,leadP u.fol fr to⟩:=by
 have hl:(conn t a b).fol.length=t.fol.length:=B8 ..;have h1:=h.len;have h2:=h.ln2;have h3:t.names.length=u.nms.length:=by rw[h.nm]
 refine⟨h.nm,by rw[hl,leadP_len];exact h.len,by rw[leadP_len];exact h.ln2,fun i hi=> ?_⟩;rw[hl] at hi;show Rep (gd (conn t a b).fol i) (gd (leadP u.fol fr to) i);rw[gd_conn hi hw,gd_leadP to hs.nodup (fun x hx=>by have:=hs.2 x hx;omega),ha i]
 by_cases hm:i∈fr
 ·rw[if_pos (decide_eq_true hm),if_pos hm];exact(h.fol i hi).or hb
 ·rw[if_neg (by simpa using hm),if_neg hm];exact h.fol i hi
theorem F3:∀ (e:Re) {t:Tr} {u:PT},TRel t u→t.names.length+e.lv≤64→TRel (addF e t).1 (readP e u).1∧ERel (t.names.length+e.lv) (addF e t).2 (readP e u).2∧(addF e t).1.names.length=t.names.length+e.lv
 | .emp,t,u,h,_=>⟨h,⟨.nil, .nil,rfl, .nil, .nil⟩,rfl⟩
 | .nod s,t,u,h,_=>by
  have hk:t.names.length=u.fol.length:=by rw[h.nm,h.ln2]
  refine⟨h.push s,⟨?_,?_,rfl,?_,?_⟩,by simp[addF,Re.lv]⟩
  ·show Rep (2 ^ t.names.length) [u.fol.length];rw[hk];exact .one _
  ·show Rep (2 ^ t.names.length) [u.fol.length];rw[hk];exact .one _
  ·exact .one (by simp only[Re.lv];omega)
  ·exact .one (by simp only[Re.lv];omega)
 | .any,t,u,h,_=>by
  have hk:t.names.length=u.fol.length:=by rw[h.nm,h.ln2]
  refine⟨h.push _,⟨?_,?_,rfl,?_,?_⟩,by simp[addF,Re.lv]⟩
  ·show Rep (2 ^ t.names.length) [u.fol.length];rw[hk];exact .one _
  ·show Rep (2 ^ t.names.length) [u.fol.length];rw[hk];exact .one _
  ·exact .one (by simp only[Re.lv];omega)
  ·exact .one (by simp only[Re.lv];omega)
 | .alt a b,t,u,h,hl=>by
  simp only[Re.lv] at hl;obtain⟨a1,a2,a3⟩:=F3 a h qom;obtain⟨b1,b2,b3⟩:=F3 b a1 qom;have hle:t.names.length+a.lv≤t.names.length+(a.lv+b.lv):=by omega
  have hee:(addF a t).1.names.length+b.lv=t.names.length+(a.lv+b.lv):=by omega
  rw[hee] at b2;exact⟨b1,⟨a2.f.or b2.f,a2.l.or b2.l,by show ((addF a t).2.emp||_)=_;rw[a2.emp,b2.emp];rfl,(a2.s1.le hle).merge b2.s1,(a2.s2.le hle).merge b2.s2⟩,by simp only[Re.lv];show (addF b (addF a t).1).1.names.length=_;omega⟩
 | .seq a b,t,u,h,hl=>by
  simp only[Re.lv] at hl;obtain⟨a1,a2,a3⟩:=F3 a h qom;obtain⟨b1,b2,b3⟩:=F3 b a1 qom;have hle:t.names.length+a.lv≤t.names.length+(a.lv+b.lv):=by omega
  have hee:(addF a t).1.names.length+b.lv=t.names.length+(a.lv+b.lv):=by omega
  rw[hee] at b2;have hfl:(addF b (addF a t).1).1.fol.length≤64:=by rw[b1.len,b1.ln2,← b1.nm];omega
  have hn:(addF b (addF a t).1).1.names.length=t.names.length+(a.lv+b.lv):=by omega
  refine⟨b1.lead a2.l b2.f (by rw[hn];exact a2.s2.le hle) hfl,⟨?_,?_,?_,?_,?_⟩,by simp only[Re.lv];exact hn⟩
  ·show Rep (if (addF a t).2.emp=true then (addF a t).2.first|||(addF b (addF a t).1).2.first else (addF a t).2.first) (if (readP a u).2.emp=true then mergeF (readP a u).2.first (readP b (readP a u).1).2.first else (readP a u).2.first);rw[a2.emp];split
   ·exact a2.f.or b2.f
   ·exact a2.f
  ·show Rep (if (addF b (addF a t).1).2.emp=true then (addF b (addF a t).1).2.last|||(addF a t).2.last else (addF b (addF a t).1).2.last) (if (readP b (readP a u).1).2.emp=true then mergeF (readP b (readP a u).1).2.last (readP a u).2.last else (readP b (readP a u).1).2.last);rw[b2.emp];split
   ·exact b2.l.or a2.l
   ·exact b2.l
  ·show ((addF a t).2.emp&&(addF b (addF a t).1).2.emp)=_;rw[a2.emp,b2.emp];rfl
  ·show Srn _ (if (readP a u).2.emp=true then mergeF (readP a u).2.first (readP b (readP a u).1).2.first else (readP a u).2.first);simp only[Re.lv]
   split
   ·exact(a2.s1.le hle).merge b2.s1
   ·exact a2.s1.le hle
  ·show Srn _ (if (readP b (readP a u).1).2.emp=true then mergeF (readP b (readP a u).1).2.last (readP a u).2.last else (readP b (readP a u).1).2.last);simp only[Re.lv]
   split
   ·exact b2.s2.merge (a2.s2.le hle)
   ·exact b2.s2
 | .star a,t,u,h,hl=>by
  simp only[Re.lv] at hl;obtain⟨a1,a2,a3⟩:=F3 a h qom;have hfl:(addF a t).1.fol.length≤64:=by rw[a1.len,a1.ln2,← a1.nm];omega
  exact⟨a1.lead a2.l a2.f (by rw[a3];exact a2.s2) hfl,⟨a2.f,a2.l,rfl,a2.s1,a2.s2⟩,a3⟩
theorem toInts_inj {a b:List Nat}(h:toInts a=toInts b):a=b:=by
 unfold toInts at h;exact(List.map_inj_right (f:=fun k:Nat=>(k:Int)) fun x y e=>Int.ofNat.inj e).1 h
def SRel (n:Nat) (s:St) (l:List Int):Prop:=(s=s00∧l=[-1])∨(s.2=true∧∃ ns,Srn n ns∧l=toInts ns∧Rep s.1 ns)
theorem neg_toInts {ns:List Nat}: ¬ [(-1:Int)]=toInts ns:=fun e=>by
 have h:(-1:Int)∈toInts ns:=by rw[← e];simp
 obtain⟨k,_,hk⟩:=mem_toInts.1 h;omega
theorem SRel.iff {n:Nat}{s s':St}{l l':List Int}(h:SRel n s l)(h':SRel n s' l'):s=s'↔l=l':=by
 rcases h with ⟨rfl,rfl⟩|⟨h1,ns,h2,rfl,h3⟩<;>rcases h' with ⟨rfl,rfl⟩|⟨g1,ms,g2,rfl,g3⟩
 ·simp
 ·exact⟨fun e=>(by rw[← e] at g1;cases g1),fun e=>absurd e neg_toInts⟩
 ·exact⟨fun e=>(by rw[e] at h1;cases h1),fun e=>absurd e.symm neg_toInts⟩
 ·constructor
  ·rintro rfl;rw[h3.inj g3 h2.1 g2.1]
  ·intro e;have:=toInts_inj e;subst this;exact Prod.ext (h3.eq g3) (by rw[h1,g1])
structure LRel (n:Nat) (L:List St) (M:List (List Int)):Prop where
 len:L.length=M.length
 at':∀ i,i<L.length→SRel n (gd L i) (gd M i)
theorem idx_before {α:Type}[DecidableEq α] [Inhabited α] {l:List α}{x:α}{j:Nat}(h:j<idx l x)(hl:j<l.length): ¬ gd l j=x:=fun e=>by
 have h4:j<l.findIdx (fun y=>y==x):=h;have h5:=List.not_of_lt_findIdx h4;rw[An hl] at e;simp[e] at h5
theorem LRel.idx {n:Nat}{L:List St}{M:List (List Int)}(h:LRel n L M){s:St}{l:List Int}(hs:SRel n s l):idx L s=idx M l∧(s∈L↔l∈M):=by
 have hl:=h.len
 by_cases hm:s∈L
 ·have h1:=Cx hm;have h2:=Ep hm;have h3:gd M (Go.Proofs.YtpkijiejccngcaaGreatDoor.idx L s)=l:=((h.at' _ h1).iff hs).1 h2;refine⟨(Jg qom h3 fun j hj e=>idx_before hj qom (((h.at' j qom).iff hs).2 e)).symm,fun _=>by rw[← h3];exact Af qom,fun _=>hm⟩
 ·have hm2:l∉M:=fun hM=>by
   obtain⟨j,hj,e⟩:=List.getElem_of_mem hM;have e2:gd M j=l:=by rw[An hj];exact e
   exact hm (by rw[← ((h.at' j qom).iff hs).2 e2];exact Af qom)
  exact⟨by rw[Eo hm,Eo hm2,hl],fun e=>absurd e hm,fun e=>absurd e hm2⟩
theorem LRel.push {n:Nat}{L:List St}{M:List (List Int)}(h:LRel n L M){s:St}{l:List Int}(hs:SRel n s l):LRel n (L++[s]) (M++[l]):=by
 refine⟨by simp[h.len],fun i hi=> ?_⟩;have hl:=h.len;simp only[List.length_append,List.length_cons,List.length_nil] at hi
 by_cases e:i<L.length
 ·rw[Ka e,Ka qom];exact h.at' i e
 ·obtain rfl:i=L.length:=by omega
  rw[Kz,hl,Kz];exact hs
theorem LRel.add {n:Nat}{L:List St}{M:List (List Int)}(h:LRel n L M){s:St}{l:List Int}(hs:SRel n s l):LRel n (addSt L s) (addL M l):=by
 have h1:=(h.idx hs).2;unfold addSt addL
 by_cases hm:s∈L
 ·rw[if_pos hm,if_pos (h1.1 hm)];exact h
 ·rw[if_neg hm,if_neg (fun e=>hm (h1.2 e))];exact h.push hs
theorem orR_bit (fol:List Nat)(x n:Nat):∀ i,(orK fol x i).testBit n=true↔∃ k,k<i∧x.testBit k=true∧(gd fol k).testBit n=true
 |0=>by simp[orK]
 |i+1=>by
  rw[Ft];have ih:=orR_bit fol x n i
  by_cases hb:x.testBit i=true
  ·rw[if_pos hb,Nat.testBit_or,Bool.or_eq_true,ih]
   constructor
   ·rintro(⟨k,h1,h2⟩|h)
    ·exact⟨k,by omega,h2⟩
    ·exact⟨i,by omega,hb,h⟩
   ·rintro⟨k,h1,h2,h3⟩
    by_cases e:k=i
    ·subst e;exact .inr h3
    ·exact .inl ⟨k,by omega,h2,h3⟩
  ·rw[if_neg hb,ih]
   constructor
   ·rintro⟨k,h1,h2⟩;exact⟨k,by omega,h2⟩
   ·rintro⟨k,h1,h2,h3⟩
    by_cases e:k=i
    ·subst e;exact absurd h2 hb
    ·exact⟨k,by omega,h2,h3⟩
theorem mem_tkR {nms names:List ByteArray}{a n:Nat}:∀ {nx to:List Nat},n∈tkR nms names a to nx↔n∈to∨(n∈nx∧takP (gd nms n) names a=true)
 |[],to=>by simp[tkR]
 |x::nx,to=>by
  have e:tkR nms names a to (x::nx)=tkR nms names a (if takP (gd nms x) names a then putF x to else to) nx:=rfl;rw[e,mem_tkR]
  by_cases h:takP (gd nms x) names a=true
  ·rw[if_pos h,mem_putF,List.mem_cons]
   constructor
   ·rintro((rfl|h2)|h2)
    ·exact .inr ⟨.inl U,h⟩
    ·exact .inl h2
    ·exact .inr ⟨.inr h2.1,h2.2⟩
   ·rintro(h2|⟨rfl|h2,h3⟩)
    ·exact .inl (.inr h2)
    ·exact .inl (.inl U)
    ·exact .inr ⟨h2,h3⟩
  ·rw[if_neg h,List.mem_cons]
   constructor
   ·rintro(h2|h2)
    ·exact .inl h2
    ·exact .inr ⟨.inr h2.1,h2.2⟩
   ·rintro(h2|⟨rfl|h2,h3⟩)
    ·exact .inl h2
    ·exact absurd h3 h
    ·exact .inr ⟨h2,h3⟩
theorem mem_stR {t:PT}{first:List Nat}{names:List ByteArray}{a n:Nat}:∀ {st:List Int} {to:List Nat},n∈st.foldl (fun to s=>tkR t.nms names a to (nxR t.fol first s)) to↔n∈to∨((∃ s∈st,n∈nxR t.fol first s)∧takP (gd t.nms n) names a=true)
 |[],to=>by simp
 |x::st,to=>by
  rw[List.foldl_cons,mem_stR,mem_tkR]
  constructor
  ·rintro((h|h)|⟨⟨s,h1,h2⟩,h3⟩)
   ·exact .inl h
   ·exact .inr ⟨⟨x,by simp,h.1⟩,h.2⟩
   ·exact .inr ⟨⟨s,by simp[h1],h2⟩,h3⟩
  ·rintro(h|⟨⟨s,h1,h2⟩,h3⟩)
   ·exact .inl (.inl h)
   ·rcases List.mem_cons.1 h1 with rfl|h1
    ·exact .inl (.inr ⟨h2,h3⟩)
    ·exact .inr ⟨⟨s,h1,h2⟩,h3⟩
structure Both (t:Tr) (e:En) (u:PT) (E:PE):Prop where
 tr:TRel t u
 er:ERel t.names.length e E
 ok:TrOk t
 low:Low t
theorem step_rel {t:Tr}{e:En}{u:PT}{E:PE}(h:Both t e u E){s:St}{l:List Int}(hs:SRel t.names.length s l)(names:List ByteArray)(a:Nat):Rep (stepL t names (canAt t e s) a 256) (stR u E.first names a l):=fun n=>by
 have hfew:=h.ok.few;have hlen:=h.ok.len;rw[Hl,takL_eq,h.tr.nm,Bool.eq_iff_iff];have hst:n∈stR u E.first names a l↔(∃ s∈l,n∈nxR u.fol E.first s)∧takP (gd u.nms n) names a=true:=by
  unfold stR;rw[mem_stR];simp
 rw[decide_eq_true_iff,hst,show (decide (gd u.nms n=⟨#[]⟩)||(decide (a<names.length)&&decide (gd u.nms n=gd names a)))=takP (gd u.nms n) names a from rfl];simp only[Bool.and_eq_true,decide_eq_true_eq];have key:(canAt t e s).testBit n=true↔∃ s∈l,n∈nxR u.fol E.first s:=by
  rcases hs with ⟨rfl,rfl⟩|⟨h1,ns,h2,rfl,h3⟩
  ·have e1:canAt t e s00=e.first:=rfl;rw[e1,h.er.f n,decide_eq_true_iff]
   constructor
   ·intro hm;exact⟨-1,by simp,by unfold nxR;rw[if_neg qom];exact hm⟩
   ·rintro⟨x,hx,hm⟩;obtain rfl:x= -1:=by simpa using hx
    unfold nxR at hm;rw[if_neg qom] at hm;exact hm
  ·have e1:canAt t e s=orK t.fol s.1 256:=by unfold canAt;rw[if_pos h1]
   rw[e1,orR_bit]
   constructor
   ·rintro⟨k,k1,k2,k3⟩;rw[h3 k,decide_eq_true_iff] at k2;have hk:=h2.2 k k2;rw[h.tr.fol k qom n,decide_eq_true_iff] at k3;exact⟨k,mem_toInts.2 ⟨k,k2,rfl⟩,by unfold nxR;rw[if_pos qom];exact k3⟩
   ·rintro⟨x,hx,hm⟩;obtain⟨k,k2,rfl⟩:=mem_toInts.1 hx;have hk:=h2.2 k k2;unfold nxR at hm;rw[if_pos qom] at hm;exact⟨k,by omega,by rw[h3 k];exact decide_eq_true k2,by rw[h.tr.fol k qom n];exact decide_eq_true hm⟩
 rw[key]
 constructor
 ·rintro⟨_,h2,h3⟩;exact⟨h2,h3⟩
 ·rintro⟨h2,h3⟩;refine⟨?_,h2,h3⟩;have hc:canAt t e s<2 ^ t.names.length:=by
   rcases hs with ⟨rfl,rfl⟩|⟨h1,ns,g2,rfl,g3⟩
   ·show e.first<_;refine Nat.lt_pow_two_of_testBit _ fun i hi=> ?_
    rw[h.er.f i];exact decide_eq_false fun hm=>by have:=h.er.s1.2 i hm;omega
   ·unfold canAt;rw[if_pos h1];refine J9 h.ok h.low (Nat.lt_pow_two_of_testBit _ fun i hi=> ?_) 256;rw[g3 i];exact decide_eq_false fun hm=>by have:=g2.2 i hm;omega
  have:=Ga hc (key.2 h2);omega
theorem stR_ok {t:Tr}{e:En}{u:PT}{E:PE}(h:Both t e u E){s:St}{l:List Int}(hs:SRel t.names.length s l)(names:List ByteArray)(a:Nat):SRel t.names.length (stepL t names (canAt t e s) a 256,true) (toInts (stR u E.first names a l)):=by
 have hlen:=h.ok.len;refine .inr ⟨rfl,_,?_,rfl,step_rel h hs names a⟩;refine stR_srn h.er.s1.2 (fun i hi x hx=> ?_) .nil (fun x hx=> ?_)
 ·have h1:=(h.tr.fol i qom x).trans (decide_eq_true hx);exact Ga (h.low _ (Af qom)) h1
 ·rcases hs with ⟨rfl,rfl⟩|⟨h1,ns,g2,rfl,g3⟩
  ·left;simpa using hx
  ·obtain⟨k,hk,rfl⟩:=mem_toInts.1 hx;have:=g2.2 k hk
   right;omega
theorem row_rel {t:Tr}{e:En}{u:PT}{E:PE}(h:Both t e u E){s:St}{l:List Int}(hs:SRel t.names.length s l)(names:List ByteArray){L:List St}{M:List (List Int)}(hL:LRel t.names.length L M):∀ a,LRel t.names.length (rowF t names (canAt t e s) L a).1 (rwR u E.first names l M a).1∧(rowF t names (canAt t e s) L a).2=(rwR u E.first names l M a).2
 |0=>⟨hL,rfl⟩
 |a+1=>by
  obtain⟨h1,h2⟩:=row_rel h hs names hL a;have h3:=stR_ok h hs names a;rw[Ct,E5];exact⟨h1.add h3,by simp only[];rw[h2,(h1.idx h3).1]⟩
theorem acc_rel {t:Tr}{e:En}{u:PT}{E:PE}(h:Both t e u E){s:St}{l:List Int}(hs:SRel t.names.length s l)(k:Nat):accAt e k s=acR E k l:=by
 have key:decide (¬ s.1 &&& e.last=0)=l.any fun s=>decide (s∈toInts E.last):=by
  rw[Bool.eq_iff_iff,decide_eq_true_iff,List.any_eq_true];rcases hs with ⟨rfl,rfl⟩|⟨h1,ns,g2,rfl,g3⟩
  ·constructor
   ·intro hn;exact absurd (by show 0 &&& e.last=0;simp) hn
   ·rintro⟨x,hx,hm⟩;obtain rfl:x= -1:=by simpa using hx
    obtain⟨k,_,hk⟩:=mem_toInts.1 (of_decide_eq_true hm);omega
  ·constructor
   ·intro hn;obtain⟨i,hi⟩:∃ i,(s.1 &&& e.last).testBit i=true:=Classical.byContradiction fun hno=>hn (Nat.eq_of_testBit_eq fun i=>by
     rw[Nat.zero_testBit];cases hb:(s.1 &&& e.last).testBit i with
     |false=>rfl
     |true=>exact absurd ⟨i,hb⟩ hno)
    rw[Nat.testBit_and,Bool.and_eq_true,g3 i,h.er.l i,decide_eq_true_iff,decide_eq_true_iff] at hi;exact⟨i,mem_toInts.2 ⟨i,hi.1,rfl⟩,decide_eq_true (mem_toInts.2 ⟨i,hi.2,rfl⟩)⟩
   ·rintro⟨x,hx,hm⟩ h0;obtain⟨i,hi,rfl⟩:=mem_toInts.1 hx;obtain⟨j,hj,e2⟩:=mem_toInts.1 (of_decide_eq_true hm);obtain rfl:j=i:=by omega
    have h5:(s.1 &&& e.last).testBit j=true:=by
     rw[Nat.testBit_and,g3 j,h.er.l j,decide_eq_true hi,decide_eq_true hj];rfl
    rw[h0,Nat.zero_testBit] at h5;cases h5
 unfold accAt acR;rw[key,h.er.emp,Bool.or_comm]
 congr 2
 exact decide_eq_decide.2 qom
theorem raw_rel {t:Tr}{e:En}{u:PT}{E:PE}(h:Both t e u E)(names:List ByteArray):∀ (f k:Nat) {L:List St} {M:List (List Int)} (rows:List (List Nat)) (acc:List Bool),LRel t.names.length L M→rawGo t e names f k L rows acc=rawGoR u E names f k M rows acc
 |0,_,_,_,_,_,_=>rfl
 |f+1,k,L,M,rows,acc,hL=>by
  have hl:=hL.len;rw[Cy,Fi]
  by_cases hk:k<L.length
  ·have hs:=hL.at' k hk;obtain⟨h1,h2⟩:=row_rel h hs names hL (names.length+1);rw[if_pos hk,if_pos (show k<M.length by omega),h1.len]
   by_cases hb:200<(rwR u E.first names (gd M k) M (names.length+1)).1.length
   ·rw[if_pos hb,if_pos hb]
   ·rw[if_neg hb,if_neg hb,h2,acc_rel h hs k];exact raw_rel h names f (k+1) _ _ h1
  ·rw[if_neg hk,if_neg (show ¬ k<M.length by omega)]
theorem rawR_eq {e:Re}(hl:e.lv≤64):rawR e (letF e)=rawF e:=by
 have h0:TRel t00 ⟨[],[]⟩:=⟨rfl,rfl,rfl,fun i hi=>absurd hi (Nat.not_lt_zero _)⟩;obtain⟨h1,h2,h3⟩:=F3 e h0 (by show 0+e.lv≤64;omega);rw[← h3] at h2;have hB:Both (addF e t00).1 (addF e t00).2 (readP e ⟨[],[]⟩).1 (readP e ⟨[],[]⟩).2:=⟨h1,h2,(B3 e C9 (by show 0+e.lv≤64;omega)).1,Dr e C9 (by show 0+e.lv≤64;omega) Hh⟩;unfold rawR rawF;exact(raw_rel hB (letF e) 201 0 [] [] ⟨rfl,fun i hi=>by
  obtain rfl:i=0:=by simp at hi;exact hi
  exact .inl ⟨rfl,rfl⟩⟩).symm
theorem nodup_of:∀ {l l':List Nat},l.Nodup→(∀ x∈l,x∈l')→l'.length≤l.length→l'.Nodup
 |[],l',_,_,h=>by
  have:l'=[]:=List.eq_nil_of_length_eq_zero (by simpa using h);subst this;exact .nil
 |x::l,l',hn,hs,hl=>by
  have hn':=List.nodup_cons.1 hn;obtain⟨p,q,rfl⟩:=List.append_of_mem (hs x (by simp));have hlen:(p++q).length≤l.length:=by simp at hl ⊢;omega
  have hsub:∀ y∈l,y∈p++q:=fun y hy=>by
   have h1:=hs y (by simp[hy]);have h2: ¬ y=x:=fun e=>by subst e;exact hn'.1 hy
   simp only[List.mem_append,List.mem_cons] at h1 ⊢;rcases h1 with h1|h1|h1
   ·exact .inl h1
   ·exact absurd h1 h2
   ·exact .inr h1
  have hpq:=nodup_of hn'.2 hsub hlen;have hx:x∉p++q:=fun hm=>by
   have:=Ey hn (l':=p++q) fun y hy=>by
    rcases List.mem_cons.1 hy with rfl|hy
    ·exact hm
    ·exact hsub y hy
   simp only[List.length_cons] at this;omega
  exact(List.perm_middle.nodup_iff).2 (List.nodup_cons.2 ⟨hx,hpq⟩)
theorem idx_addL {l:List (List Int)}{s x:List Int}(h:x∈l):idx (addL l s) x=idx l x:=by
 unfold addL;split
 ·rfl
 ·have h1:=Cx h;exact Jg (by simp;omega) (by rw[Ka h1];exact Ep h) fun j hj e=>idx_before hj qom (by rw[Ka qom] at e;exact e)
theorem mem_addL {l:List (List Int)}{s x:List Int}:x∈addL l s↔x∈l∨x=s:=by
 unfold addL;split
 ·rename_i h
  constructor
  ·exact .inl
  ·rintro(h2|rfl)
   ·exact h2
   ·exact h
 ·simp
theorem addL_nd {l:List (List Int)}{s:List Int}(h:l.Nodup):(addL l s).Nodup:=by
 unfold addL;split
 ·exact h
 ·rename_i h2;exact List.nodup_append.2 ⟨h,by simp,fun a ha b hb e=>by simp at hb;subst hb;subst e;exact h2 ha⟩
theorem Hq (m:PM)(b:List Nat):∀ i,(sgK m b i).1.Nodup∧(∀ x,x∈(sgK m b i).1↔∃ j,j<i∧toInts (sgR m b j)=x)∧∀ j,j<i→gd (sgK m b i).2 j=idx (sgK m b i).1 (toInts (sgR m b j))
 |0=>⟨.nil,fun x=>⟨(fun h=>by cases h),fun ⟨j,h,_⟩=>absurd h (Nat.not_lt_zero _)⟩,fun j h=>absurd h (Nat.not_lt_zero _)⟩
 |i+1=>by
  obtain⟨h1,h2,h3⟩:=Hq m b i;have hl:=(I0 m b i).1;rw[Iz];refine⟨addL_nd h1,fun x=> ?_,fun j hj=> ?_⟩
  ·show x∈addL _ _↔_;rw[mem_addL,h2]
   constructor
   ·rintro(⟨j,h4,h5⟩|rfl)
    ·exact⟨j,by omega,h5⟩
    ·exact⟨i,by omega,rfl⟩
   ·rintro⟨j,h4,h5⟩
    by_cases e:j=i
    ·subst e;exact .inr h5.symm
    ·exact .inl ⟨j,by omega,h5⟩
  ·show gd ((sgK m b i).2++_) j=idx (addL _ _) _
   by_cases e:j<i
   ·rw[Ka qom,h3 j e,idx_addL ((h2 _).2 ⟨j,e,rfl⟩)]
   ·obtain rfl:j=i:=by omega
    have e2:gd ((sgK m b j).2++[idx (sgK m b j).1 (toInts (sgR m b j))]) (sgK m b j).2.length=idx (sgK m b j).1 (toInts (sgR m b j)):=Kz;rw[hl] at e2;rw[e2]
    by_cases hm:toInts (sgR m b j)∈(sgK m b j).1
    ·rw[idx_addL hm]
    ·unfold addL;rw[if_neg hm,idx_app hm]
theorem sg_iff (m:PM)(b:List Nat){n i k:Nat}(hi:i<n)(hk:k<n):gd (sgK m b n).2 i=gd (sgK m b n).2 k↔sgR m b i=sgR m b k:=by
 obtain⟨h1,h2,h3⟩:=Hq m b n;rw[h3 i hi,h3 k hk]
 constructor
 ·intro e;have a1:=Ep ((h2 _).2 ⟨i,hi,rfl⟩);have a2:=Ep ((h2 _).2 ⟨k,hk,rfl⟩);rw[e,a2] at a1;exact(toInts_inj a1).symm
 ·intro e;rw[e]
theorem sgR_iff {m:PM}(hp:PMok m)(b:List Nat){i k:Nat}(hi:i<m.next.length)(hk:k<m.next.length):sgR m b i=sgR m b k↔gd b i=gd b k∧∀ a,a<m.names.length+1→gd b (nx m i a)=gd b (nx m k a):=by
 have r1:=(hp.row _ (Af hi)).1;have r2:=(hp.row _ (Af hk)).1;unfold sgR;rw[List.cons.injEq];refine and_congr_right fun _=> ?_
 constructor
 ·intro e a ha;have e2:gd ((gd m.next i).map (gd b)) a=gd ((gd m.next k).map (gd b)) a:=by rw[e]
  rw[Bu qom,Bu qom] at e2;exact e2
 ·intro h;refine list_eq (by simp[r1,r2]) fun j hj=> ?_
  rw[List.length_map] at hj;rw[Bu hj,Bu qom];exact h j qom
structure Cls (m:PM) (b:List Nat):Prop where
 acc:∀ i,i<m.next.length→∀ k,k<m.next.length→gd b i=gd b k→gd m.acc i=gd m.acc k
 dst:∀ i,i<m.next.length→∀ k,k<m.next.length→¬ gd b i=gd b k→Dst m i k
theorem Cls.next {m:PM}(hp:PMok m){b:List Nat}(h:Cls m b):Cls m (sgK m b m.next.length).2:=by
 refine⟨fun i hi k hk e=> ?_,fun i hi k hk e=> ?_⟩
 ·exact h.acc i hi k hk ((sgR_iff hp b hi hk).1 ((sg_iff m b hi hk).1 e)).1
 ·by_cases e1:gd b i=gd b k
  ·have h2: ¬ ∀ a,a<m.names.length+1→gd b (nx m i a)=gd b (nx m k a):=fun h3=>e ((sg_iff m b hi hk).2 ((sgR_iff hp b hi hk).2 ⟨e1,h3⟩))
   obtain⟨a,ha⟩:=Classical.not_forall.1 h2;obtain⟨ha1,ha2⟩:=Classical.not_imp.1 ha;exact .step ha1 (h.dst _ (G2 hp hi ha1) _ (G2 hp hk ha1) ha2)
  ·exact h.dst i hi k hk e1
def Full (n:Nat) (b:List Nat) (c:Nat):Prop:=∀ v,v<c→∃ i,i<n∧gd b i=v
theorem sg_full (m:PM)(b:List Nat)(n:Nat):Full n (sgK m b n).2 (sgK m b n).1.length:=fun v hv=>by
 obtain⟨h1,h2,h3⟩:=Hq m b n;obtain⟨j,hj,e⟩:=(h2 _).1 (Af hv);refine⟨j,hj,?_⟩;rw[h3 j hj,e];refine Jg hv U fun k hk e2=> ?_
 rw[An qom,An hv] at e2;exact List.pairwise_iff_getElem.1 h1 k v qom hv hk e2
theorem sg_same {m:PM}{b:List Nat}{n c:Nat}(hf:Full n b c)(hlt:∀ i,i<n→gd b i<c)(hc:(sgK m b n).1.length≤c){i k:Nat}(hi:i<n)(hk:k<n)(e:gd b i=gd b k):gd (sgK m b n).2 i=gd (sgK m b n).2 k:=by
 obtain⟨h1,h2,h3⟩:=Hq m b n;have hd:∀ j,((toInts (sgR m b j)).headD 0).toNat=gd b j:=fun j=>by simp[sgR,toInts]
 have hnd:((sgK m b n).1.map fun s=>(s.headD 0).toNat).Nodup:=by
  refine nodup_of (l:=List.range c) List.nodup_range (fun v hv=> ?_) (by simpa using hc);obtain⟨j,hj,rfl⟩:=hf v (List.mem_range.1 hv);exact List.mem_map.2 ⟨_,(h2 _).2 ⟨j,hj,rfl⟩,hd j⟩
 rw[h3 i hi,h3 k hk];have m1:=(h2 _).2 ⟨i,hi,rfl⟩;have m2:=(h2 _).2 ⟨k,hk,rfl⟩;have l1:=Cx m1;have l2:=Cx m2;refine Classical.byContradiction fun hne=> ?_
 have hg:∀ x (hx:x<(sgK m b n).1.length),((sgK m b n).1.map fun s=>(s.headD 0).toNat)[x]'(by simpa using hx)=((gd (sgK m b n).1 x).headD 0).toNat:=fun x hx=>by rw[An hx];simp
 have e1:=hg _ l1;have e2:=hg _ l2;rw[Ep m1,hd] at e1;rw[Ep m2,hd] at e2;rcases Nat.lt_or_gt_of_ne hne with h|h
 ·exact List.pairwise_iff_getElem.1 hnd _ _ (by simpa using l1) (by simpa using l2) h (by rw[e1,e2,e])
 ·exact List.pairwise_iff_getElem.1 hnd _ _ (by simpa using l2) (by simpa using l1) h (by rw[e1,e2,e])
theorem sg_part {m:PM}(hp:PMok m){b:List Nat}{c:Nat}(h:Cls m b)(hf:Full m.next.length b c)(hlt:∀ i,i<m.next.length→gd b i<c)(hc:(sgK m b m.next.length).1.length≤c):Part m (sgK m b m.next.length).2:=by
 have h2:=h.next hp;refine⟨h2.acc,fun i hi k hk e a ha=> ?_,h2.dst⟩;have h3:=((sgR_iff hp b hi hk).1 ((sg_iff m b hi hk).1 e)).2 a ha;exact sg_same hf hlt hc (G2 hp hi ha) (G2 hp hk ha) h3
theorem cl_part {m:PM}(hp:PMok m):∀ (f:Nat) {b:List Nat} {c:Nat},Cls m b→0<c→Full m.next.length b c→(∀ i,i<m.next.length→gd b i<c)→c≤m.next.length→201≤f+c→Part m (clR m f b c)
 |0,b,c,_,_,_,_,hc,hf=>by have:=hp.few;omega
 |f+1,b,c,h,h0,hfu,hlt,hc,hf=>by
  rw[clR_succ]
  split
  ·rename_i hlt2;have hl:=I0 m b m.next.length;refine cl_part hp f (h.next hp) qom (sg_full m b _) (fun i hi=> ?_) hl.2 qom;obtain⟨h1,h2,h3⟩:=Hq m b m.next.length;rw[h3 i hi];exact Cx ((h2 _).2 ⟨i,hi,rfl⟩)
  ·rename_i hge;exact sg_part hp h hfu hlt qom
theorem classes_part {m:PM}(hp:PMok m):Part m (classesR m):=by
 have hs:=hp.some';have h0:Cls m (initB m):=by
  have h1:Prt m (initB m):= .init hp;exact⟨h1.acc,h1.dst⟩
 obtain⟨h1,h2,h3⟩:=Hq m (initB m) m.next.length;have hl:=I0 m (initB m) m.next.length;have hpos:0<(sgK m (initB m) m.next.length).1.length:=by
  have:=(h2 _).2 ⟨0,hs,rfl⟩;exact List.length_pos_of_mem this
 unfold classesR;rw[show (201:Nat)=200+1 from rfl,clR_succ,if_pos hpos];refine cl_part hp 200 (h0.next hp) hpos (sg_full m _ _) (fun i hi=> ?_) hl.2 qom;rw[h3 i hi];exact Cx ((h2 _).2 ⟨i,hi,rfl⟩)
theorem idx_congr {m:PM}{b b':List Nat}{n:Nat}(h:∀ i,i<n→∀ k,k<n→(gd b i=gd b k↔gd b' i=gd b' k)){order:List Nat}(ho:∀ x∈order,x<n){t:Nat}(ht:t<n):idx (order.map (gd b)) (gd b t)=idx (order.map (gd b')) (gd b' t)∧(gd b t∈order.map (gd b)↔gd b' t∈order.map (gd b')):=by
 have hlt:∀ j,j<order.length→gd order j<n:=fun j hj=>ho _ (Af hj)
 by_cases hm:gd b t∈order.map (gd b)
 ·have h1:=Cx hm;have h2:=Ep hm;rw[List.length_map] at h1;rw[Bu h1] at h2;have h3:=(h _ (hlt _ h1) _ ht).1 h2;refine⟨(Jg (by simpa using h1) (by rw[Bu h1];exact h3) fun j hj e=> ?_).symm,fun _=>List.mem_map.2 ⟨_,Af h1,h3⟩,fun _=>hm⟩;rw[Bu qom] at e;refine idx_before hj (by rw[List.length_map];omega) ?_;rw[Bu qom];exact(h _ (hlt _ qom) _ ht).2 e
 ·have hm2:gd b' t∉order.map (gd b'):=fun hM=>by
   obtain⟨x,hx,e⟩:=List.mem_map.1 hM;exact hm (List.mem_map.2 ⟨x,hx,(h _ (ho x hx) _ ht).2 e⟩)
  exact⟨by rw[Eo hm,Eo hm2];simp,fun e=>absurd e hm,fun e=>absurd e hm2⟩
theorem numK_congr {m:PM}{b b':List Nat}{n:Nat}(h:∀ i,i<n→∀ k,k<n→(gd b i=gd b k↔gd b' i=gd b' k)){tos order:List Nat}(ho:∀ x∈order,x<n)(ht:∀ x∈tos,x<n):∀ i,i≤tos.length→numK b tos order i=numK b' tos order i∧∀ x∈(numK b tos order i).1,x<n
 |0,_=>⟨rfl,ho⟩
 |i+1,hi=>by
  obtain⟨h1,h2⟩:=numK_congr (m:=m) h ho ht i qom;have h3:=ht _ (Af (show i<tos.length by omega));obtain⟨h4,h5⟩:=idx_congr (m:=m) h h2 h3;rw[Bz,Bz,← h1,h4]
  constructor
  ·by_cases hm:gd b (gd tos i)∈(numK b tos order i).1.map (gd b)
   ·rw[if_pos hm,if_pos (h5.1 hm)]
   ·rw[if_neg hm,if_neg (fun e=>hm (h5.2 e))]
  ·intro x hx;simp only[] at hx
   split at hx
   ·exact h2 x hx
   ·rcases List.mem_append.1 hx with hx|hx
    ·exact h2 x hx
    ·simp at hx;subst hx;exact h3
theorem numGo_congr {m:PM}(hp:PMok m){b b':List Nat}(h:∀ i,i<m.next.length→∀ k,k<m.next.length→(gd b i=gd b k↔gd b' i=gd b' k)):∀ (f k:Nat) (order:List Nat) (rows:List (List Nat)) (acc:List Bool),(∀ x∈order,x<m.next.length)→numGo m b f k order rows acc=numGo m b' f k order rows acc
 |0,_,_,_,_,_=>rfl
 |f+1,k,order,rows,acc,ho=>by
  rw[Cz,Cz]
  by_cases hk:k<order.length
  ·have ht:∀ x∈gd m.next (gd order k),x<m.next.length:=(hp.row _ (Af (ho _ (Af hk)))).2;obtain⟨h1,h2⟩:=numK_congr (m:=m) h ho ht _ (Nat.le_refl _);rw[if_pos hk,if_pos hk,← h1];exact numGo_congr hp h f (k+1) _ _ _ h2
  ·rw[if_neg hk,if_neg hk]
theorem least_same {m:PM}(hp:PMok m):numF m (classesR m)=leastF m:=by
 have h:∀ i,i<m.next.length→∀ k,k<m.next.length→(gd (classesR m) i=gd (classesR m) k↔gd (refineF m 201 (initB m)) i=gd (refineF m 201 (initB m)) k):=fun i hi k hk=>by
  rw[(classes_part hp).iff hp hi hk,(refine_part0 hp).iff hp hi hk]
 unfold leastF numF;rw[numGo_congr hp h 201 0 [0] [] [] (fun x hx=>by simp at hx;subst hx;exact hp.some')]
theorem rbuildX_s {w0:World}{H:List (Nat × Obj)}(m:Rxm)(e:Re)(hI:Is m e)(hM:RxM w0 H m)(hl:e.lv≤64)(hz:m.sz≤90000):
  FSpec Tryz.prog w0 45 #[.agg (encRx m).toArray] H (fun v H'=>∃ (mc:Mc) (M:List (Nat × Obj)),(v= .tuple #[.agg (encMc mc).toArray, .int .i64 (buildF leastF e).2]∧(∀ X,McOk w0 (M++X) mc)∧mc.pl=(buildF leastF e).1)∧H'=M++H):=by
 refine Ao Tryz.func45 U ntmps45 U (rD tb 2 U (e_ (Lf U cs_) ?_ U));rintro _ _ ⟨n1,rfl,rfl⟩;refine e_ (Ai zeroValue68 cs_) ?_ U;rintro _ _ ⟨n2,rfl,rfl⟩;refine rO tb 5 U (y_ (Lc U isAgg56 sizeOf56 U qcs) ?_ U);refine e_ (Ak (qe1 U) call104 (sets_s m e hI (hM.mono sbt) hl hz)) ?_ U;rintro _ _ ⟨mc,M,⟨rfl,hmc,hsm,hnn⟩,rfl⟩;rw[ntR_let hI,rawR_eq hl] at hsm hnn ⊢;obtain⟨er,her⟩:∃ er:Int,er=(if (rawF e).isSome=true then 0 else 2):=⟨_,rfl⟩;rw[← her];refine rO tb 3 U (e_ (Ai zeroValue68 cs_) ?_ U);rintro _ _ ⟨n4,rfl,rfl⟩;refine Aw (Le U U sizeOf68) U Ac ?_;rintro _ _ ⟨rfl,rfl⟩;refine rO tb 10 U ?_;refine Ad (Aa U) (fun c12=> ?_) (fun c12=> ?_)
 ·have hr:rawF e=none:=by
   cases h:rawF e with
   |none=>rfl
   |some r=>rw[h] at her;simp at her;exact absurd her c12
  have he2:er=2:=by rw[her,hr];rfl
  refine rC tb 2 U (y_ (A0 .nil (bd29_z)) (rO tb 1 U ?_) U);refine Aw (Le U U sizeOf68) U Ac ?_;rintro _ _ ⟨rfl,rfl⟩;refine rO tb 5 U (Ah U (.cellA (Aa U) isAgg68 sizeOf68 U qcs (K9 U)) ?_);have hb:buildF leastF e=(⟨[],[],[]⟩,2):=by unfold buildF;rw[hr]
  rw[hb,he2];exact⟨_,⟨⟨[],[],[],none,0,none,0,none,0⟩,[],⟨rfl,fun X=>⟨(fun i x hi=>by cases hi),(fun i x hi=>by cases hi),(fun i x hi=>by cases hi),(fun r hr=>by cases hr)⟩,rfl⟩,rfl⟩,sbt⟩
 ·obtain⟨r,hr⟩:∃ r,rawF e=some r:=by
   cases h:rawF e with
   |none=>rw[h] at her;simp at her;exact absurd (show er=2 from her) qom
   |some r=>exact⟨r,rfl⟩
  have hpl:=hsm r hr;have hpo:PMok mc.pl:=by rw[hpl];exact rawF_ok hl hr
  have hnl:mc.names.length≤90001:=by
   have h1:mc.names=letF e:=congrArg PM.names hpl;rw[h1];have:=letF_few hl;omega
  refine rC tb 4 U (y_ (Lc U isAgg68 sizeOf68 U qcs) ?_ U);refine e_ (Ak (qe1 U) call105 (rleast_s mc ((hmc H).mono sbt) hpo hnl)) ?_ U;rintro _ _ ⟨mc2,M2,⟨rfl,hmc2,hpl2⟩,rfl⟩;refine Aw (Le U U sizeOf68) U Ac ?_;rintro _ _ ⟨rfl,rfl⟩;refine rO tb 4 U (Ah U (.cellA (Aa U) isAgg68 sizeOf68 U qcs (K9 U)) ?_);have hb:buildF leastF e=(leastF mc.pl,0):=by unfold buildF;rw[hr,hpl];rfl
  rw[hb];exact⟨_,⟨mc2,M2++M,⟨rfl,fun X=>by rw[List.append_assoc];exact hmc2 _ (hmc X),by rw[hpl2];exact least_same hpo⟩,rfl⟩,by rw[List.append_assoc];exact sbt⟩
theorem F4 {w0:World}{H:List (Nat × Obj)}(a b c:Int):
  FSpec Tryz.prog w0 46 #[.int .i64 a, .int .i64 b, .int .i64 c] H (Still (.bool (decide (b≤a∧a≤c))) H):=by
 refine Ao Tryz.func46 U ntmps46 U (rD tb 11 U ?_);refine A4 (s:=10) (Aa U) (fun c10=> ?_) (fun c10=> ?_)
 ·refine rO tb 8 U (Ah U (K9 U) ?_);exact⟨_,⟨vbool (decide_eq_decide.2 ⟨fun h=>⟨c10,h⟩,fun h=>h.2⟩),rfl⟩,sbt⟩
 ·refine rO tb 8 U (Ah U (K9 U) ?_);exact⟨_,⟨vbool (by symm;exact decide_eq_false (fun h=>c10 h.1)),rfl⟩,sbt⟩
def cmpL:List Int→List Int→Int
 |[],[]=>0
 |[],_::_=> -1
 |_::_,[]=>1
 |a::x,b::y=>if a<b then -1 else if b<a then 1 else cmpL x y
theorem cmpL_drop:∀ {i:Nat} {a b:List Int},i≤a.length→i≤b.length→(∀ j,j<i→gd a j=gd b j)→cmpL a b=cmpL (a.drop i) (b.drop i)
 |0,_,_,_,_,_=>rfl
 |i+1,[],_,h,_,_=>by simp at h
 |i+1,_::_,[],_,h,_=>by simp at h
 |i+1,x::a,y::b,h1,h2,h=>by
  have h0:x=y:=h 0 qom;rw[cmpL,if_neg qom,if_neg qom,List.drop_succ_cons,List.drop_succ_cons];exact cmpL_drop (by simpa using h1) (by simpa using h2) fun j hj=>h (j+1) qom
theorem cmpL_ne {i:Nat}{a b:List Int}(h1:i<a.length)(h2:i<b.length)(h:∀ j,j<i→gd a j=gd b j)(hn: ¬ gd a i=gd b i):cmpL a b=if gd a i<gd b i then -1 else 1:=by
 rw[cmpL_drop qom qom h,List.drop_eq_getElem_cons h1,List.drop_eq_getElem_cons h2,← An h1,← An h2,cmpL]
 split
 ·rfl
 ·rw[if_pos qom]
theorem Du {i:Nat}{a b:List Int}(h1:i≤a.length)(h2:i≤b.length)(he:i=a.length∨i=b.length)(h:∀ j,j<i→gd a j=gd b j):cmpL a b=if a.length<b.length then -1 else if b.length<a.length then 1 else 0:=by
 rw[cmpL_drop h1 h2 h];have l1:(a.drop i).length=a.length - i:=List.length_drop ..;have l2:(b.drop i).length=b.length - i:=List.length_drop ..;cases ha:a.drop i with
 |nil=>
  rw[ha] at l1;simp at l1;cases hb:b.drop i with
  |nil=>rw[hb] at l2;simp at l2;rw[if_neg qom,if_neg qom];rfl
  |cons y r=>rw[hb] at l2;simp at l2;rw[if_pos qom];rfl
 |cons x r=>
  rw[ha] at l1;simp at l1;cases hb:b.drop i with
  |nil=>rw[hb] at l2;simp at l2;rw[if_neg qom,if_pos qom];rfl
  |cons y r=>rw[hb] at l2;simp at l2;omega
theorem cmpI_zero {a b:Int}(h:cmpI a b=0):a=b:=by
 unfold cmpI at h
 split at h
 ·cases h
 ·split at h
  ·cases h
  ·omega
theorem cmpL_cmpI {i:Nat}{a b:List Int}(h1:i<a.length)(h2:i<b.length)(h:∀ j,j<i→gd a j=gd b j)(hn: ¬ cmpI (gd a i) (gd b i)=0):cmpL a b=cmpI (gd a i) (gd b i):=by
 have hne: ¬ gd a i=gd b i:=fun e=>hn (by rw[e];simp[cmpI])
 rw[cmpL_ne h1 h2 h hne];unfold cmpI
 split
 ·rfl
 ·rw[if_pos qom]
theorem rcmp_s {w0:World}{H:List (Nat × Obj)}(a b:List Int)(q1 q2:Option Addr)(c1 c2:Nat)(hA:Arr w0 H q1 1 encI a)(hB:Arr w0 H q2 1 encI b)(la:a.length≤9223372036854775807)(lb:b.length≤9223372036854775807):
  FSpec Tryz.prog w0 53 #[.slice q1 a.length c1, .slice q2 b.length c2] H (Still (.int .i64 (cmpL a b)) H):=by
 refine Ao Tryz.func53 U ntmps53 U (rD tb 12 U ?_);refine Bd (X:=Nat) (V:=fun i=>[(5, .int .i64 (i:Nat))]) (C:=[(0,_),(1,_)]) (φ:=fun i=>i≤a.length∧i≤b.length∧∀ j,j<i→gd a j=gd b j) (μ:=fun i=>a.length - i) (x0:=0) ?_ ⟨Aa U,Aa U,trivial⟩ ⟨qat,trivial⟩ ?_
 ·exact⟨Nat.zero_le _,Nat.zero_le _,fun j hj=>by omega⟩
 rintro i ⟨h1,h2,hp⟩;refine rD tb 8 U ?_;refine A4 (s:=10) (Aa U) (fun c10=> ?_) (fun c10=> ?_)
 ·refine rO tb 7 U ?_;refine Ad (Aa U) (fun c15=> ?_) (fun c15=> ?_)
  ·refine rC tb 5 U (Bh 9 [(0,true),(1,true),(2,true),(3,true),(4,true),(5,true),(6,true),(7,true),(8,true)] _ mixd qkr sb0 ?_ A8);refine rP tb 2 U (o_y U (Ld U U runUnderlying27 sizeOf3 qom (by first|exact rfl|exact hA.b (i:=i) qom)) ?_ U Ac);refine o_y U (Lb U isAgg3 (by first|exact c_o|exact cell1 ((hA.mono sbt).cs (i:=i) qom))) ?_ U Ac;refine rP tb 2 U (o_y U (Ld U U runUnderlying27 sizeOf3 qom (by first|exact rfl|exact hA.b (i:=i) qom|exact hB.b (i:=i) qom)) ?_ U Ac);refine o_y U (Lb U isAgg3 (by first|exact c_o|exact cell1 ((hB.mono sbt).cs (i:=i) qom))) ?_ U Ac;refine rP tb 1 U (A7 U (rO tb 2 U ?_));refine Ad (Aa U) (fun c26=> ?_) (fun c26=> ?_)
   ·refine rC tb 2 U (Bh 9 [(0,true),(1,true),(2,true),(3,true),(4,true),(5,true),(6,true),(7,true),(8,true)] _ mixd qkr sb0 ?_ A8);refine rP tb 2 U (o_y U (Ld U U runUnderlying27 sizeOf3 qom (by first|exact rfl|exact hA.b (i:=i) qom)) ?_ U Ac);refine o_y U (Lb U isAgg3 (by first|exact c_o|exact cell1 ((hA.mono sbt).cs (i:=i) qom))) ?_ U Ac;refine rP tb 2 U (o_y U (Ld U U runUnderlying27 sizeOf3 qom (by first|exact rfl|exact hA.b (i:=i) qom|exact hB.b (i:=i) qom)) ?_ U Ac);refine o_y U (Lb U isAgg3 (by first|exact c_o|exact cell1 ((hB.mono sbt).cs (i:=i) qom))) ?_ U Ac;refine rP tb 1 U (A7 U (kO tb 2 [35] rfl U ?_));refine Ad (Aa U) (fun c35=> ?_) (fun c35=> ?_)
    ·refine rC tb 9 U (As (rX tb 2 U (Ah U (K9 U) ?_)));exact⟨_,⟨vint (by rw[cmpL_ne (i:=i) qom qom hp c26,if_pos c35]),rfl⟩,sbt⟩
    ·refine rC tb 10 U (As (rX tb 2 U (Ah U (K9 U) ?_)));exact⟨_,⟨vint (by rw[cmpL_ne (i:=i) qom qom hp c26,if_neg c35]),rfl⟩,sbt⟩
   ·refine rC tb 5 U (y_ (Av (T U) Ap qom) ?_ U);refine rO tb 2 U ?_;refine Ar (i+1) ?_ ?_ ⟨qat,trivial⟩ ⟨Aa U,Aa U,trivial⟩ ?_
    ·refine⟨by omega,by omega,fun j hj=> ?_⟩
     by_cases ej:j=i
     ·subst ej;omega
     ·exact hp j qom
    ·omega
    ·exact sbt
  ·refine rC tb 2 U (Ag (rX tb 12 U ?_));refine Ad (Aa U) (fun c40=> ?_) (fun c40=> ?_)
   ·refine rC tb 7 U (Ah U (K9 U) ?_);exact⟨_,⟨vint (by rw[Du h1 h2 qom hp,if_pos qom]),rfl⟩,sbt⟩
   ·refine rC tb 12 U ?_;refine Ad (Aa U) (fun c45=> ?_) (fun c45=> ?_)
    ·refine rC tb 7 U (Ah U (K9 U) ?_);exact⟨_,⟨vint (by rw[Du h1 h2 qom hp,if_neg qom,if_pos qom]),rfl⟩,sbt⟩
    ·refine rC tb 8 U (Ah U (K9 U) ?_);exact⟨_,⟨vint (by rw[Du h1 h2 qom hp,if_neg qom,if_neg qom]),rfl⟩,sbt⟩
 ·refine rO tb 10 U (Ag (rX tb 12 U ?_));refine Ad (Aa U) (fun c40=> ?_) (fun c40=> ?_)
  ·refine rC tb 7 U (Ah U (K9 U) ?_);exact⟨_,⟨vint (by rw[Du h1 h2 qom hp,if_pos qom]),rfl⟩,sbt⟩
  ·refine rC tb 12 U ?_;refine Ad (Aa U) (fun c45=> ?_) (fun c45=> ?_)
   ·refine rC tb 7 U (Ah U (K9 U) ?_);exact⟨_,⟨vint (by rw[Du h1 h2 qom hp,if_neg qom,if_pos qom]),rfl⟩,sbt⟩
   ·refine rC tb 8 U (Ah U (K9 U) ?_);exact⟨_,⟨vint (by rw[Du h1 h2 qom hp,if_neg qom,if_neg qom]),rfl⟩,sbt⟩
theorem scmp_s {w0:World}{H:List (Nat × Obj)}(a b:List Int)(q1 q2:Option Addr)(c1 c2:Nat)(hA:Arr w0 H q1 1 encI a)(hB:Arr w0 H q2 1 encI b)(la:a.length≤9223372036854775807)(lb:b.length≤9223372036854775807):
  FSpec Tryz.prog w0 63 #[.slice q1 a.length c1, .slice q2 b.length c2] H (Still (.int .i64 (cmpL a b)) H):=by
 refine Ao Tryz.func63 U ntmps63 U (rD tb 14 U ?_);refine Bd (X:=Nat) (V:=fun i=>[(11, .int .i64 (i:Nat))]) (C:=[(0,_),(1,_),(9,_),(10,_)]) (φ:=fun i=>i≤a.length∧i≤b.length∧∀ j,j<i→gd a j=gd b j) (μ:=fun i=>a.length - i) (x0:=0) ?_ ⟨Aa U,Aa U,Aa U,Aa U,trivial⟩ ⟨qat,trivial⟩ ?_
 ·exact⟨Nat.zero_le _,Nat.zero_le _,fun j hj=>by omega⟩
 rintro i ⟨h1,h2,hp⟩;refine rD tb 6 U ?_;refine Ad (Aa U) (fun c12=> ?_) (fun c12=> ?_)
 ·refine rC tb 7 U (y_ (Ld U U runUnderlying27 sizeOf3 qom (by first|exact rfl|exact hA.b (i:=i) qom)) ?_ U);refine y_ (Lb U isAgg3 (by first|exact c_o|exact cell1 ((hA.mono sbt).cs (i:=i) qom))) ?_ U;refine rO tb 13 U ?_;refine Ad (Aa U) (fun c19=> ?_) (fun c19=> ?_)
  ·refine rC tb 9 U (As (rX tb 2 U (Ah U (K9 U) ?_)));exact⟨_,⟨vint (by rw[Du h1 h2 qom hp,if_neg qom,if_pos qom]),rfl⟩,sbt⟩
  ·refine rC tb 6 U (y_ (Ld U U runUnderlying27 sizeOf3 qom (by first|exact rfl|exact hA.b (i:=i) qom|exact hB.b (i:=i) qom)) ?_ U);refine y_ (Lb U isAgg3 (by first|exact c_o|exact cell1 ((hB.mono sbt).cs (i:=i) qom))) ?_ U;refine rO tb 7 U (y_ (Ay (qe2 U U) call118 (fun H' hs=>cmpI_s _ _)) (rO tb 9 U ?_) U);refine Ad (Aa U) (fun c28=> ?_) (fun c28=> ?_)
   ·refine rC tb 9 U (As (rX tb 2 U (Ah U (K9 U) ?_)));exact⟨_,⟨vint (by rw[cmpL_cmpI qom qom hp c28]),rfl⟩,sbt⟩
   ·have hz:=cmpI_zero (Classical.not_not.1 c28);refine rC tb 4 U (y_ (Av (T U) Ap qom) ?_ U);refine rO tb 2 U ?_;refine Ar (i+1) ?_ ?_ ⟨qat,trivial⟩ ⟨Aa U,Aa U,Aa U,Aa U,trivial⟩ ?_
    ·refine⟨by omega,by omega,fun j hj=> ?_⟩
     by_cases ej:j=i
     ·subst ej;omega
     ·exact hp j qom
    ·omega
    ·exact sbt
 ·refine rC tb 2 U (Ag (rX tb 12 U ?_));refine Ad (Aa U) (fun c35=> ?_) (fun c35=> ?_)
  ·refine rC tb 7 U (Ah U (K9 U) ?_);exact⟨_,⟨vint (by rw[Du h1 h2 qom hp,if_pos qom]),rfl⟩,sbt⟩
  ·refine rC tb 8 U (Ah U (K9 U) ?_);exact⟨_,⟨vint (by rw[Du h1 h2 qom hp,if_neg qom,if_neg qom]),rfl⟩,sbt⟩
instance:DecidableEq Lan:=fun a b=>decidable_of_iff (a.l=b.l∧a.p=b.p) ⟨fun h=>by cases a;cases b;simp_all,fun h=>by subst h;exact⟨rfl,rfl⟩⟩
structure Lm where
 q:Option Addr
 c:Nat
 l:List Int
 p:Int
instance:Inhabited Lm:=⟨⟨none,0,[],0⟩⟩
def Lm.lan (x:Lm):Lan:=⟨x.l,x.p⟩
abbrev encLm (x:Lm):List Value:=[.slice x.q x.l.length x.c, .int .i64 x.p]
structure Lr where
 q:Option Addr
 c:Nat
 l:List Lm
instance:Inhabited Lr:=⟨⟨none,0,[]⟩⟩
def Lr.pl (x:Lr):List Lan:=x.l.map Lm.lan
abbrev encLr (x:Lr):List Value:=[.slice x.q x.l.length x.c]
structure LmM (w0:World) (H:List (Nat × Obj)) (x:Lm):Prop where
 a:Arr w0 H x.q 1 encI x.l
 n:x.l.length≤9223372036854775807
structure LrM (w0:World) (H:List (Nat × Obj)) (x:Lr):Prop where
 a:Arr w0 H x.q 2 encLm x.l
 n:x.l.length≤9223372036854775807
 m:∀ y∈x.l,LmM w0 H y
structure ShM (w0:World) (H:List (Nat × Obj)) (q:Option Addr) (sh:List Lr):Prop where
 a:Arr w0 H q 1 encLr sh
 n:sh.length≤9223372036854775807
 m:∀ y∈sh,LrM w0 H y
theorem LmM.mono {w0:World}{H H':List (Nat × Obj)}{x:Lm}(h:LmM w0 H x)(hs:H.Sublist H':=by exact sbt):LmM w0 H' x:=⟨h.a.mono hs,h.n⟩
theorem LrM.mono {w0:World}{H H':List (Nat × Obj)}{x:Lr}(h:LrM w0 H x)(hs:H.Sublist H':=by exact sbt):LrM w0 H' x:=⟨h.a.mono hs,h.n,fun y hy=>(h.m y hy).mono hs⟩
theorem ShM.mono {w0:World}{H H':List (Nat × Obj)}{q:Option Addr}{sh:List Lr}(h:ShM w0 H q sh)(hs:H.Sublist H':=by exact sbt):ShM w0 H' q sh:=⟨h.a.mono hs,h.n,fun y hy=>(h.m y hy).mono hs⟩
abbrev plS (sh:List Lr):List (List Lan):=sh.map Lr.pl
theorem cmpL_zero {a b:List Int}:cmpL a b=0↔a=b:=by
 induction a generalizing b with
 |nil=>cases b<;>simp[cmpL]
 |cons x a ih=>
  cases b with
  |nil=>simp[cmpL]
  |cons y b=>
   rw[cmpL]
   by_cases h1:x<y
   ·rw[if_pos h1];simp;omega
   ·by_cases h2:y<x
    ·rw[if_neg h1,if_pos h2];simp;omega
    ·rw[if_neg h1,if_neg h2,ih];simp;omega
theorem E6 {α β:Type}[Inhabited α] {f:α→β}{a b:List α}(hl:a.length=b.length)(h:∀ i,i<a.length→f (gd a i)=f (gd b i)):a.map f=b.map f:=by
 apply List.ext_getElem
 ·simp[hl]
 ·intro i h1 h2;simp only[List.getElem_map];have h1':i<a.length:=by simpa using h1
  have:=h i h1'
  rwa [An h1',An qom] at this
theorem D2 {α β:Type}[Inhabited α] {f:α→β}{a b:List α}{i:Nat}(h1:i<a.length)(h2:i<b.length)(h: ¬ f (gd a i)=f (gd b i)): ¬ a.map f=b.map f:=fun e=>h (by
 have:=congrArg (·[i]?) e;simp only[List.getElem?_map,B2 h1,B2 h2,Option.map_some] at this;exact Option.some.inj this)
theorem lan_eq {x y:Lm}(h1:x.p=y.p)(h2:cmpL x.l y.l=0):x.lan=y.lan:=by
 unfold Lm.lan;rw[h1,cmpL_zero.1 h2]
theorem rsame_s {w0:World}{H:List (Nat × Obj)}(a b:List Lr)(q1 q2:Option Addr)(c1 c2:Nat)(hA:ShM w0 H q1 a)(hB:ShM w0 H q2 b):
  FSpec Tryz.prog w0 18 #[.slice q1 a.length c1, .slice q2 b.length c2] H (Still (.bool (decide (plS a=plS b))) H):=by
 refine Ao Tryz.func18 U ntmps18 U ?_;have hna0:=hA.n;have hnb0:=hB.n;refine rD tb 15 U ?_;refine Ad (Aa U) (fun c11=> ?_) (fun c11=> ?_)
 ·refine rC tb 7 U (Ah U (K9 U) ?_);exact⟨_,⟨vbool (by symm;exact decide_eq_false fun h=>c11 (by have:=congrArg List.length h;simp at this;omega)),rfl⟩,sbt⟩
 ·refine rC tb 9 U ?_;refine Bd (X:=Nat) (V:=fun i=>[(5, .int .i64 (i:Nat))]) (C:=[(0,_),(1,_)]) (φ:=fun i=>i≤a.length∧∀ j,j<i→(gd a j).pl=(gd b j).pl) (μ:=fun i=>a.length - i) (x0:=0) ?_ ⟨Aa U,Aa U,trivial⟩ ⟨qat,trivial⟩ ?_
  ·exact⟨Nat.zero_le _,fun j hj=>by omega⟩
  rintro i ⟨hi,hp⟩;refine rD tb 9 U ?_;refine Ad (Aa U) (fun c15=> ?_) (fun c15=> ?_)
  ·have hna:=(hA.m _ (Af (i:=i) qom)).n;have hnb:=(hB.m _ (Af (i:=i) qom)).n;refine rC tb 6 U (Bh 11 [(0,true),(1,true),(2,true),(3,true),(4,true),(5,true),(6,true),(7,true),(8,true),(9,true),(10,true)] _ mixd qkr sb0 ?_ A8);refine rP tb 2 U (o_y U (Ld U U runUnderlying31 sizeOf79 qom (by first|exact rfl|exact hA.a.b (i:=i) qom)) ?_ U Ac);refine o_y U (Lb U isAgg79 (by first|exact c_o|exact cell1 ((hA.a.mono sbt).cs (i:=i) qom))) ?_ U Ac;refine rP tb 3 U (o_y U (Ld U U runUnderlying31 sizeOf79 qom (by first|exact rfl|exact hA.a.b (i:=i) qom|exact hB.a.b (i:=i) qom)) ?_ U Ac);refine o_y U (Lb U isAgg79 (by first|exact c_o|exact cell1 ((hB.a.mono sbt).cs (i:=i) qom))) ?_ U Ac;refine rP tb 2 U (A7 U (rO tb 2 U ?_));refine Ad (Aa U) (fun c28=> ?_) (fun c28=> ?_)
   ·refine rC tb 9 U (As (rX tb 2 U (Ah U (K9 U) ?_)));exact⟨_,⟨vbool (by symm;exact decide_eq_false (D2 (i:=i) qom qom fun h=>c28 (by have:=congrArg List.length h;simp[Lr.pl] at this;omega))),rfl⟩,sbt⟩
   ·refine rC tb 8 U ?_;refine Bd (X:=Nat) (V:=fun k=>[(6, .int .i64 (k:Nat))]) (C:=[(0,_),(1,_),(5,_)]) (φ:=fun k=>k≤(gd a i).l.length∧∀ j,j<k→(gd (gd a i).l j).lan=(gd (gd b i).l j).lan) (μ:=fun k=>(gd a i).l.length - k) (x0:=0) ?_ ⟨Aa U,Aa U,Aa U,trivial⟩ ⟨qat,trivial⟩ ?_
    ·exact⟨Nat.zero_le _,fun j hj=>by omega⟩
    rintro k ⟨hk1,hk⟩;refine rD tb 6 U (y_ (Ld U U runUnderlying31 sizeOf79 qom (by first|exact rfl|exact hA.a.b (i:=i) qom)) ?_ U);refine y_ (Lb U isAgg79 (by first|exact c_o|exact cell1 ((hA.a.mono sbt).cs (i:=i) qom))) ?_ U;refine rO tb 4 U ?_;refine Ad (Aa U) (fun c35=> ?_) (fun c35=> ?_)
    ·refine rC tb 5 U (Bh 37 [(0,true),(1,true),(2,true),(3,true),(4,true),(5,true),(6,true),(7,true),(8,true),(9,true),(10,true),(11,true),(12,true),(13,true),(14,true),(15,true),(16,true),(17,true),(18,true),(19,true),(20,true),(21,true),(22,true),(23,true),(24,true),(25,true),(26,true),(27,true),(28,true),(29,true),(30,true),(31,true),(32,true),(33,true),(34,true),(35,true),(36,true)] _ mixd qkr sb0 ?_ A8);refine rP tb 2 U (o_y U (Ld U U runUnderlying31 sizeOf79 qom (by first|exact rfl|exact hA.a.b (i:=i) qom)) ?_ U Ac);refine o_y U (Lb U isAgg79 (by first|exact c_o|exact cell1 ((hA.a.mono sbt).cs (i:=i) qom))) ?_ U Ac;refine rP tb 1 U (o_y U (Ld U U runUnderlying79 sizeOf77 qom (by first|exact rfl|exact hA.a.b (i:=i) qom|exact hB.a.b (i:=i) qom|exact(hA.m (gd a i) (Af qom)).a.b (i:=k) qom)) ?_ U Ac);refine rP tb 1 U (o_y U (Lb U isAgg3 (by first|exact c_o|exact c_m ((hA.m (gd a i) (Af qom)).a.f (i:=k) (j:=1) qom U))) ?_ U Ac);refine rP tb 2 U (o_y U (Ld U U runUnderlying31 sizeOf79 qom (by first|exact rfl|exact hA.a.b (i:=i) qom|exact hB.a.b (i:=i) qom)) ?_ U Ac);refine o_y U (Lb U isAgg79 (by first|exact c_o|exact cell1 ((hB.a.mono sbt).cs (i:=i) qom))) ?_ U Ac;refine rP tb 1 U (o_y U (Ld U U runUnderlying79 sizeOf77 qom (by first|exact rfl|exact hA.a.b (i:=i) qom|exact hB.a.b (i:=i) qom|exact(hA.m (gd a i) (Af qom)).a.b (i:=k) qom|exact(hB.m (gd b i) (Af qom)).a.b (i:=k) qom)) ?_ U Ac);refine rP tb 1 U (o_y U (Lb U isAgg3 (by first|exact c_o|exact c_m ((hB.m (gd b i) (Af qom)).a.f (i:=k) (j:=1) qom U))) ?_ U Ac);refine rP tb 2 U ?_;refine Cd (s:=55) (Aa U) (fun c55=> ?_) (fun c55=> ?_)
     ·refine rP tb 19 U (A7 U (kO tb 2 [0,1,5,6,74] rfl U (rG tb 9 U (As (rX tb 3 U (As (rX tb 2 U (Ah U (K9 U) ?_))))))));exact⟨_,⟨vbool (by symm;exact decide_eq_false (D2 (i:=i) qom qom (D2 (i:=k) qom qom fun h=>c55 (congrArg Lan.p h)))),rfl⟩,sbt⟩
     ·refine rP tb 2 U (o_y U (Ld U U runUnderlying31 sizeOf79 qom (by first|exact rfl|exact hA.a.b (i:=i) qom)) ?_ U (Az U U (Aa U)));refine o_y U (Lb U isAgg79 (by first|exact c_o|exact cell1 ((hA.a.mono sbt).cs (i:=i) qom))) ?_ U (Az U U (Aa U));refine rP tb 1 U (o_y U (Ld U U runUnderlying79 sizeOf77 qom (by first|exact rfl|exact hA.a.b (i:=i) qom|exact hB.a.b (i:=i) qom|exact(hA.m (gd a i) (Af qom)).a.b (i:=k) qom)) ?_ U (Az U U (Aa U)));refine rP tb 1 U (o_y U (Lb U isAgg27 (by first|exact c_o|exact c_m ((hA.m (gd a i) (Af qom)).a.f0 (i:=k) qom U))) ?_ U (Az U U (Aa U)));refine rP tb 2 U (o_y U (Ld U U runUnderlying31 sizeOf79 qom (by first|exact rfl|exact hA.a.b (i:=i) qom|exact hB.a.b (i:=i) qom)) ?_ U (Az U U (Aa U)));refine o_y U (Lb U isAgg79 (by first|exact c_o|exact cell1 ((hB.a.mono sbt).cs (i:=i) qom))) ?_ U (Az U U (Aa U));refine rP tb 1 U (o_y U (Ld U U runUnderlying79 sizeOf77 qom (by first|exact rfl|exact hA.a.b (i:=i) qom|exact hB.a.b (i:=i) qom|exact(hA.m (gd a i) (Af qom)).a.b (i:=k) qom|exact(hB.m (gd b i) (Af qom)).a.b (i:=k) qom)) ?_ U (Az U U (Aa U)));refine rP tb 1 U (o_y U (Lb U isAgg27 (by first|exact c_o|exact c_m ((hB.m (gd b i) (Af qom)).a.f0 (i:=k) qom U))) ?_ U (Az U U (Aa U)));refine o_y U (Ay (qe2 U U) call53 (fun H' hs=>rcmp_s (gd (gd a i).l k).l (gd (gd b i).l k).l _ _ _ _ (((hA.m _ (Af (i:=i) qom)).m _ (Af (i:=k) qom)).a.mono (stn hs)) (((hB.m _ (Af (i:=i) qom)).m _ (Af (i:=k) qom)).a.mono (stn hs)) ((hA.m _ (Af (i:=i) qom)).m _ (Af (i:=k) qom)).n ((hB.m _ (Af (i:=i) qom)).m _ (Af (i:=k) qom)).n)) ?_ U (Az U U (Aa U));refine rP tb 2 U (A7 U (kO tb 2 [0,1,5,6,74] rfl U ?_));refine Ad (Aa U) (fun c74=> ?_) (fun c74=> ?_)
      ·refine rC tb 8 U (As (rX tb 3 U (As (rX tb 2 U (Ah U (K9 U) ?_)))));exact⟨_,⟨vbool (by symm;exact decide_eq_false (D2 (i:=i) qom qom (D2 (i:=k) qom qom fun h=>c74 (cmpL_zero.2 (congrArg Lan.l h))))),rfl⟩,sbt⟩
      ·refine rC tb 5 U (y_ (Av (T U) Ap qom) ?_ U);refine rO tb 2 U ?_;refine Ar (k+1) ?_ ?_ ⟨qat,trivial⟩ ⟨Aa U,Aa U,Aa U,trivial⟩ ?_
       ·refine⟨by omega,fun j hj=> ?_⟩
        by_cases ej:j=k
        ·subst ej;exact lan_eq qom qom
        ·exact hk j qom
       ·omega
       ·exact sbt
    ·refine rC tb 2 U (Ag (rX tb 5 U (y_ (Av (T U) Ap qom) ?_ U)));refine rO tb 2 U ?_;refine Ar (i+1) ?_ ?_ ⟨qat,trivial⟩ ⟨Aa U,Aa U,trivial⟩ ?_
     ·refine⟨by omega,fun j hj=> ?_⟩
      by_cases ej:j=i
      ·subst ej;exact E6 qom fun k2 hk2=>hk k2 qom
      ·exact hp j qom
     ·omega
     ·exact sbt
  ·refine rC tb 2 U (Ag (rX tb 8 U (Ah U (K9 U) ?_)));exact⟨_,⟨vbool (by symm;exact decide_eq_true (E6 qom fun j hj=>hp j qom)),rfl⟩,sbt⟩
theorem list_gd {α:Type}[Inhabited α] {a b:List α}(hl:a.length=b.length)(h:∀ i,i<a.length→gd a i=gd b i):a=b:=by
 have:=E6 (f:=id) hl h
 simpa using this
theorem list_ne {α:Type}[Inhabited α] {a b:List α}{i:Nat}(h: ¬ gd a i=gd b i): ¬ a=b:=fun e=>h (by rw[e])
theorem seq_s {w0:World}{H:List (Nat × Obj)}(a b:List Int)(q1 q2:Option Addr)(c1 c2:Nat)(hA:Arr w0 H q1 1 encI a)(hB:Arr w0 H q2 1 encI b)(la:a.length≤9223372036854775807)(lb:b.length≤9223372036854775807):
  FSpec Tryz.prog w0 49 #[.slice q1 a.length c1, .slice q2 b.length c2] H (Still (.bool (decide (a=b))) H):=by
 refine Ao Tryz.func49 U ntmps49 U (rD tb 15 U ?_);refine Ad (Aa U) (fun c10=> ?_) (fun c10=> ?_)
 ·refine rC tb 7 U (Ah U (K9 U) ?_);exact⟨_,⟨vbool (by symm;exact decide_eq_false fun h=>c10 (by rw[h])),rfl⟩,sbt⟩
 ·refine rC tb 11 U ?_;refine Bd (X:=Nat) (V:=fun i=>[(13, .int .i64 (i:Nat))]) (C:=[(0,_),(1,_),(12,_)]) (φ:=fun i=>i≤a.length∧∀ j,j<i→gd a j=gd b j) (μ:=fun i=>a.length - i) (x0:=0) ?_ ⟨Aa U,Aa U,Aa U,trivial⟩ ⟨qat,trivial⟩ ?_
  ·exact⟨Nat.zero_le _,fun j hj=>by omega⟩
  rintro i ⟨hi,hp⟩;refine rD tb 6 U ?_;refine Ad (Aa U) (fun c14=> ?_) (fun c14=> ?_)
  ·refine rC tb 11 U (Bh 9 [(0,true),(1,true),(2,true),(3,true),(4,true),(5,true),(6,true),(7,true),(8,true)] _ mixd qkr sb0 ?_ A8);refine rP tb 2 U (o_y U (Ld U U runUnderlying27 sizeOf3 qom (by first|exact rfl|exact hA.b (i:=i) qom)) ?_ U Ac);refine o_y U (Lb U isAgg3 (by first|exact c_o|exact cell1 ((hA.mono sbt).cs (i:=i) qom))) ?_ U Ac;refine rP tb 2 U (o_y U (Ld U U runUnderlying27 sizeOf3 qom (by first|exact rfl|exact hA.b (i:=i) qom|exact hB.b (i:=i) qom)) ?_ U Ac);refine o_y U (Lb U isAgg3 (by first|exact c_o|exact cell1 ((hB.mono sbt).cs (i:=i) qom))) ?_ U Ac;refine rP tb 1 U (A7 U (rO tb 2 U ?_));refine Ad (Aa U) (fun c24=> ?_) (fun c24=> ?_)
   ·refine rC tb 8 U (As (rX tb 2 U (Ah U (K9 U) ?_)));exact⟨_,⟨vbool (by symm;exact decide_eq_false (list_ne (i:=i) c24)),rfl⟩,sbt⟩
   ·refine rC tb 4 U (y_ (Av (T U) Ap qom) ?_ U);refine rO tb 2 U ?_;refine Ar (i+1) ?_ ?_ ⟨qat,trivial⟩ ⟨Aa U,Aa U,Aa U,trivial⟩ ?_
    ·refine⟨by omega,fun j hj=> ?_⟩
     by_cases ej:j=i
     ·subst ej;omega
     ·exact hp j qom
    ·omega
    ·exact sbt
  ·refine rC tb 2 U (Ag (rX tb 8 U (Ah U (K9 U) ?_)));exact⟨_,⟨vbool (by symm;exact decide_eq_true (list_gd qom fun j hj=>hp j qom)),rfl⟩,sbt⟩
theorem lsame_s {w0:World}{H:List (Nat × Obj)}(x y:Lm)(hx:LmM w0 H x)(hy:LmM w0 H y):
  FSpec Tryz.prog w0 48 #[.agg (encLm x).toArray, .agg (encLm y).toArray] H (Still (.bool (decide (x.lan=y.lan))) H):=by
 refine Ao Tryz.func48 U ntmps48 U (rD tb 2 U (e_ (Lf U cs_) ?_ U));rintro _ _ ⟨n2,rfl,rfl⟩;refine e_ (Lf U cs_) ?_ U;rintro _ _ ⟨n3,rfl,rfl⟩;refine rO tb 6 U (y_ (Lb U isAgg3 qco) ?_ U);refine rO tb 1 U (y_ (Lb U isAgg3 qco) ?_ U);refine rO tb 2 U ?_;refine A4 (s:=10) (Aa U) (fun c10=> ?_) (fun c10=> ?_)
 ·refine rO tb 1 U (A5 (Lb U isAgg27 qco) U (Az U U (Aa U)) ?_);refine rO tb 1 U (A5 (Lb U isAgg27 qco) U (Az U U (Aa U)) ?_);refine A5 (Ay (qe2 U U) call49 (fun H' hs=>seq_s x.l y.l _ _ _ _ (hx.a.mono (stn hs)) (hy.a.mono (stn hs)) hx.n hy.n)) U (Az U U (Aa U)) (rO tb 5 U (Ah U (K9 U) ?_));exact⟨_,⟨vbool (decide_eq_decide.2 ⟨fun h=>by unfold Lm.lan;rw[h,show x.p=y.p from c10],fun h=>congrArg Lan.l h⟩),rfl⟩,sbt⟩
 ·refine rO tb 10 U (Ah U (K9 U) ?_);exact⟨_,⟨vbool (by symm;exact decide_eq_false fun h=>c10 (congrArg Lan.p h)),rfl⟩,sbt⟩
theorem leqf_s {w0:World}{H:List (Nat × Obj)}(a b:Lr)(hA:LrM w0 H a)(hB:LrM w0 H b):
  FSpec Tryz.prog w0 52 #[.slice a.q a.l.length a.c, .slice b.q b.l.length b.c, .func (.func 48) #[] #[]] H (Still (.bool (decide (a.pl=b.pl))) H):=by
 refine Ao Tryz.func52 U ntmps52 U ?_;have hna:=hA.n;have hnb:=hB.n;refine rD tb 15 U ?_;refine Ad (Aa U) (fun c14=> ?_) (fun c14=> ?_)
 ·refine rC tb 7 U (Ah U (K9 U) ?_);exact⟨_,⟨vbool (by symm;exact decide_eq_false fun h=>c14 (by have:=congrArg List.length h;simp[Lr.pl] at this;omega)),rfl⟩,sbt⟩
 ·refine rC tb 11 U ?_;refine Bd (X:=Nat) (V:=fun i=>[(17, .int .i64 (i:Nat))]) (C:=[(1,_),(2,_),(15,_),(16,_)]) (φ:=fun i=>i≤a.l.length∧∀ j,j<i→(gd a.l j).lan=(gd b.l j).lan) (μ:=fun i=>a.l.length - i) (x0:=0) ?_ ⟨Aa U,Aa U,Aa U,Aa U,trivial⟩ ⟨qat,trivial⟩ ?_
  ·exact⟨Nat.zero_le _,fun j hj=>by omega⟩
  rintro i ⟨hi,hp⟩;refine rD tb 6 U ?_;refine Ad (Aa U) (fun c18=> ?_) (fun c18=> ?_)
  ·refine rC tb 7 U (y_ (Ld U U runUnderlying79 sizeOf77 qom (by first|exact rfl|exact hA.a.b (i:=i) qom)) ?_ U);refine y_ (Lc U isAgg77 sizeOf77 U (by exact(hA.a.mono sbt).cs (i:=i) qom)) ?_ U;refine e_ (Ai zeroValue77 cs_) ?_ U;rintro _ _ ⟨n8,rfl,rfl⟩;refine rO tb 1 U ?_;refine Aw (Le U U sizeOf77) U Ac ?_;rintro _ _ ⟨rfl,rfl⟩;refine rO tb 6 U (y_ (Ld U U runUnderlying79 sizeOf77 qom (by first|exact rfl|exact hA.a.b (i:=i) qom|exact hB.a.b (i:=i) qom)) ?_ U);refine y_ (Lc U isAgg77 sizeOf77 U (by exact(hB.a.mono sbt).cs (i:=i) qom)) ?_ U;refine e_ (Ai zeroValue77 cs_) ?_ U;rintro _ _ ⟨n9,rfl,rfl⟩;refine Aw (Le U U sizeOf77) U Ac ?_;rintro _ _ ⟨rfl,rfl⟩;refine rO tb 5 U (y_ (Lc U isAgg77 sizeOf77 U qcs) ?_ U);refine y_ (Lc U isAgg77 sizeOf77 U qcs) ?_ U;refine y_ (Cn (T U) (qe2 U U) call48 (fun H' hs=>lsame_s (gd a.l i) (gd b.l i) ((hA.m _ (Af qom)).mono (stn hs)) ((hB.m _ (Af qom)).mono (stn hs)))) ?_ U;refine A5 (A9 (T U)) U Ac ?_;refine rO tb 2 U ?_;refine Ad (Aa U) (fun c30=> ?_) (fun c30=> ?_)
   ·refine rC tb 8 U (As (rX tb 2 U (Ah U (K9 U) ?_)));exact⟨_,⟨vbool (by symm;exact decide_eq_false (D2 (i:=i) qom qom c30)),rfl⟩,sbt⟩
   ·refine rC tb 4 U (y_ (Av (T U) Ap qom) ?_ U);refine rO tb 2 U ?_;refine Ar (i+1) ?_ ?_ ⟨qat,trivial⟩ ⟨Aa U,Aa U,Aa U,Aa U,trivial⟩ ?_
    ·refine⟨by omega,fun j hj=> ?_⟩
     by_cases ej:j=i
     ·subst ej;exact Classical.not_not.1 c30
     ·exact hp j qom
    ·omega
    ·exact sbt
  ·refine rC tb 2 U (Ag (rX tb 8 U (Ah U (K9 U) ?_)));exact⟨_,⟨vbool (by symm;exact decide_eq_true (E6 qom fun j hj=>hp j qom)),rfl⟩,sbt⟩
theorem lsame2_s {w0:World}{H:List (Nat × Obj)}(a b:Lr)(hA:LrM w0 H a)(hB:LrM w0 H b)(n:Nat)(hn:Fnd H n (Cl [.func (.func 48) #[] #[]] 91)):
  FSpec Tryz.prog w0 51 #[.slice a.q a.l.length a.c, .slice b.q b.l.length b.c, .pointer (some ⟨n,0,none⟩)] H (Still (.bool (decide (a.pl=b.pl))) H):=by
 refine Ao Tryz.func51 U ntmps51 U (rD tb 9 U (y_ (Lb U isAgg91 (by first|exact c_o|exact c_o (hf:=hn.mono sbt))) ?_ U));refine y_ (Ay (qe3 U U U) call52 (fun H' hs=>leqf_s a b (hA.mono (stn hs)) (hB.mono (stn hs)))) (rO tb 4 U (Ah U (K9 U) ?_)) U;exact⟨_,⟨rfl,rfl⟩,sbt⟩
theorem leqg_s {w0:World}{H:List (Nat × Obj)}(a b:List Lr)(q1 q2:Option Addr)(c1 c2:Nat)(hA:ShM w0 H q1 a)(hB:ShM w0 H q2 b)(n:Nat)(hn:Fnd H n (Cl [.func (.func 48) #[] #[]] 91)):
  FSpec Tryz.prog w0 50 #[.slice q1 a.length c1, .slice q2 b.length c2, .func (.func 51) #[] #[.pointer (some ⟨n,0,none⟩)]] H (Still (.bool (decide (plS a=plS b))) H):=by
 refine Ao Tryz.func50 U ntmps50 U ?_;have hna:=hA.n;have hnb:=hB.n;refine rD tb 15 U ?_;refine Ad (Aa U) (fun c14=> ?_) (fun c14=> ?_)
 ·refine rC tb 7 U (Ah U (K9 U) ?_);exact⟨_,⟨vbool (by symm;exact decide_eq_false fun h=>c14 (by have:=congrArg List.length h;simp at this;omega)),rfl⟩,sbt⟩
 ·refine rC tb 11 U ?_;refine Bd (X:=Nat) (V:=fun i=>[(17, .int .i64 (i:Nat))]) (C:=[(1,_),(2,_),(15,_),(16,_)]) (φ:=fun i=>i≤a.length∧∀ j,j<i→(gd a j).pl=(gd b j).pl) (μ:=fun i=>a.length - i) (x0:=0) ?_ ⟨Aa U,Aa U,Aa U,Aa U,trivial⟩ ⟨qat,trivial⟩ ?_
  ·exact⟨Nat.zero_le _,fun j hj=>by omega⟩
  rintro i ⟨hi,hp⟩;refine rD tb 6 U ?_;refine Ad (Aa U) (fun c18=> ?_) (fun c18=> ?_)
  ·refine rC tb 7 U (y_ (Ld U U runUnderlying31 sizeOf79 qom (by first|exact rfl|exact hA.a.b (i:=i) qom)) ?_ U);refine y_ (Lb U isAgg79 (by first|exact c_o|exact cell1 ((hA.a.mono sbt).cs (i:=i) qom))) ?_ U;refine rO tb 8 U (y_ (Ld U U runUnderlying31 sizeOf79 qom (by first|exact rfl|exact hA.a.b (i:=i) qom|exact hB.a.b (i:=i) qom)) ?_ U);refine y_ (Lb U isAgg79 (by first|exact c_o|exact cell1 ((hB.a.mono sbt).cs (i:=i) qom))) ?_ U;refine rO tb 8 U (y_ (Cn (T U) (qe2 U U) call51 (fun H' hs=>lsame2_s (gd a i) (gd b i) ((hA.m _ (Af qom)).mono (stn hs)) ((hB.m _ (Af qom)).mono (stn hs)) n (hn.mono (stn hs)))) ?_ U);refine A5 (A9 (T U)) U Ac ?_;refine rO tb 2 U ?_;refine Ad (Aa U) (fun c30=> ?_) (fun c30=> ?_)
   ·refine rC tb 8 U (As (rX tb 2 U (Ah U (K9 U) ?_)));exact⟨_,⟨vbool (by symm;exact decide_eq_false (D2 (i:=i) qom qom c30)),rfl⟩,sbt⟩
   ·refine rC tb 4 U (y_ (Av (T U) Ap qom) ?_ U);refine rO tb 2 U ?_;refine Ar (i+1) ?_ ?_ ⟨qat,trivial⟩ ⟨Aa U,Aa U,Aa U,Aa U,trivial⟩ ?_
    ·refine⟨by omega,fun j hj=> ?_⟩
     by_cases ej:j=i
     ·subst ej;exact Classical.not_not.1 c30
     ·exact hp j qom
    ·omega
    ·exact sbt
  ·refine rC tb 2 U (Ag (rX tb 8 U (Ah U (K9 U) ?_)));exact⟨_,⟨vbool (by symm;exact decide_eq_true (E6 qom fun j hj=>hp j qom)),rfl⟩,sbt⟩
theorem psame_s {w0:World}{H:List (Nat × Obj)}(a b:List Lr)(q1 q2:Option Addr)(c1 c2:Nat)(hA:ShM w0 H q1 a)(hB:ShM w0 H q2 b):
  FSpec Tryz.prog w0 17 #[.slice q1 a.length c1, .slice q2 b.length c2] H (Still (.bool (decide (plS a=plS b))) H):=by
 refine Ao Tryz.func17 U ntmps17 U (rD tb 7 U (e_ (Ai zeroValue91 cs_) ?_ U));rintro _ _ ⟨n5,rfl,rfl⟩;refine Aw (Al (T U) J1 sizeOf91) U Ac ?_;rintro _ _ ⟨rfl,rfl⟩;refine rO tb 6 U (y_ (Bl (.cons (T U) .nil)) ?_ U);refine y_ (Ay (qe3 U U U) call50 (fun H' hs=>leqg_s a b q1 q2 c1 c2 (hA.mono (stn hs)) (hB.mono (stn hs)) n5 (Fnd.mono fdd hs))) ?_ U;refine rO tb 4 U (Ah U (K9 U) ?_);exact⟨_,⟨rfl,rfl⟩,sbt⟩
theorem yl_pred {P:Program}{w0:World}{L:Fm}{H:List (Nat × Obj)}{ty xt yt:TypeId}{x y:Operand}{k:Nat}(hx:Ev L x (.int .i64 (k:Int)))(hy:Ev L y (.int .i64 1))(h:0<k∧k≤9223372036854775807):Yl P w0 (.binOp .sub xt x y yt) ty L H (.int .i64 ((k - 1:Nat):Int)):=by
 have:=Hz (P:=P) (w0:=w0) (H:=H) (ty:=ty) (xt:=xt) (yt:=yt) hx hy qom
 rwa [show (k:Int) - 1=((k - 1:Nat):Int) by omega] at this
def LanAt (l:List Lm) (k:Nat):Prop:=1≤(gd l k).p∧(gd l k).p≤16∧(0<k→cmpL (gd l (k - 1)).l (gd l k).l<0)
def RowOk (l:List Lm):Prop:=(∀ k,k<l.length→LanAt l k)∧sI l Lm.p=16
def FormedP (no:Nat) (sh:List Lr):Prop:=sh.length=no∧∀ i,i<sh.length→RowOk (gd sh i).l
theorem Dd {l:List Lm}{k:Nat}(h:k<l.length):sI (l.take (k+1)) Lm.p=sI (l.take k) Lm.p+(gd l k).p:=by
 rw[List.take_add_one,B2 h,Fl];simp[sI]
theorem rformed_s {w0:World}{H:List (Nat × Obj)}(no:Nat)(qo:Option Addr)(co:Nat)(hno:no≤9223372036854775807)(a:List Lr)(q1:Option Addr)(c1:Nat)(hA:ShM w0 H q1 a)(hz:∀ x∈a,x.l.length≤1048576):
  FSpec Tryz.prog w0 21 #[.slice qo no co, .slice q1 a.length c1] H (fun v H'=>(∃ t:Bool,v= .bool t∧(t=true↔FormedP no a))∧H'=H):=by
 refine Ao Tryz.func21 U ntmps21 U ?_;have hna0:=hA.n;refine rD tb 15 U ?_;refine Ad (Aa U) (fun c13=> ?_) (fun c13=> ?_)
 ·refine rC tb 7 U (Ah U (K9 U) ?_);exact⟨_,⟨⟨false,rfl,⟨fun h=>(by cases h),fun h=>absurd h.1 qom⟩⟩,rfl⟩,sbt⟩
 ·refine rC tb 9 U ?_;refine Bd (X:=Nat) (V:=fun i=>[(5, .int .i64 (i:Nat))]) (C:=[(1,_)]) (φ:=fun i=>i≤a.length∧∀ j,j<i→RowOk (gd a j).l) (μ:=fun i=>a.length - i) (x0:=0) ?_ ⟨Aa U,trivial⟩ ⟨qat,trivial⟩ ?_
  ·exact⟨Nat.zero_le _,fun j hj=>by omega⟩
  rintro i ⟨hi,hp⟩;refine rD tb 9 U ?_;refine Ad (Aa U) (fun c17=> ?_) (fun c17=> ?_)
  ·have hna:=(hA.m _ (Af (i:=i) qom)).n;have hza:=hz _ (Af (i:=i) qom);refine rC tb 16 U ?_;refine Bd (X:=Nat) (V:=fun k=>[(7, .int .i64 (k:Nat)),(6, .int .i64 (sI ((gd a i).l.take k) Lm.p))]) (C:=[(1,_),(5,_)]) (φ:=fun k=>k≤(gd a i).l.length∧(∀ j,j<k→LanAt (gd a i).l j)∧0≤sI ((gd a i).l.take k) Lm.p∧sI ((gd a i).l.take k) Lm.p≤16*k) (μ:=fun k=>(gd a i).l.length - k) (x0:=0) ?_ ⟨Aa U,Aa U,trivial⟩ ⟨qat,qat,trivial⟩ ?_
   ·exact⟨Nat.zero_le _,fun j hj=>by omega,by simp[sI],by simp[sI]⟩
   rintro k ⟨hk1,hk,hs0,hs1⟩;refine rD tb 6 U (y_ (Ld U U runUnderlying31 sizeOf79 qom (by first|exact rfl|exact hA.a.b (i:=i) qom)) ?_ U);refine y_ (Lb U isAgg79 (by first|exact c_o|exact cell1 ((hA.a.mono sbt).cs (i:=i) qom))) ?_ U;refine rO tb 4 U ?_;refine Ad (Aa U) (fun c26=> ?_) (fun c26=> ?_)
   ·refine rC tb 8 U (y_ (Ld U U runUnderlying31 sizeOf79 qom (by first|exact rfl|exact hA.a.b (i:=i) qom)) ?_ U);refine y_ (Lb U isAgg79 (by first|exact c_o|exact cell1 ((hA.a.mono sbt).cs (i:=i) qom))) ?_ U;refine rO tb 1 U (y_ (Ld U U runUnderlying79 sizeOf77 qom (by first|exact rfl|exact hA.a.b (i:=i) qom|exact(hA.m (gd a i) (Af qom)).a.b (i:=k) qom)) ?_ U);refine rO tb 1 U (y_ (Lb U isAgg3 (by first|exact c_o|exact c_m ((hA.m (gd a i) (Af qom)).a.f (i:=k) (j:=1) qom U))) ?_ U);refine rO tb 5 U (Bh 31 [(0,true),(1,true),(2,true),(3,true),(4,true),(5,true),(6,true),(7,true),(8,true),(9,true),(10,true),(11,true),(12,true),(13,true),(14,true),(15,true),(16,true),(17,true),(18,true),(19,true),(20,true),(21,true),(22,true),(23,true),(24,true),(25,true),(26,true),(27,true),(28,true),(29,true),(30,true)] _ mixd qkr sb0 ?_ A8);refine rP tb 3 U ?_;refine Cd (s:=39) (Aa U) (fun c39=> ?_) (fun c39=> ?_)
    ·refine rP tb 28 U (A7 U (kO tb 2 [1,5,6,7,8,67] rfl U (rG tb 10 U (As (rX tb 4 U (As (rX tb 2 U (Ah U (K9 U) ?_))))))));exact⟨_,⟨⟨false,rfl,⟨fun h=>(by cases h),fun h=>absurd ((h.2 i qom).1 k qom).1 qom⟩⟩,rfl⟩,sbt⟩
    ·refine rP tb 4 U ?_;refine Cd (s:=43) (Aa U) (fun c43=> ?_) (fun c43=> ?_)
     ·refine rP tb 24 U (A7 U (kO tb 2 [1,5,6,7,8,67] rfl U (rG tb 10 U (As (rX tb 4 U (As (rX tb 2 U (Ah U (K9 U) ?_))))))));exact⟨_,⟨⟨false,rfl,⟨fun h=>(by cases h),fun h=>absurd ((h.2 i qom).1 k qom).2.1 qom⟩⟩,rfl⟩,sbt⟩
     ·refine rP tb 3 U ?_;refine Cd (s:=46) (Aa U) (fun c46=> ?_) (fun c46=> ?_)
      ·refine rP tb 2 U (o_y U (Ld U U runUnderlying31 sizeOf79 qom (by first|exact rfl|exact hA.a.b (i:=i) qom)) ?_ U (Az U U (Aa U)));refine o_y U (Lb U isAgg79 (by first|exact c_o|exact cell1 ((hA.a.mono sbt).cs (i:=i) qom))) ?_ U (Az U U (Aa U));refine rP tb 1 U (o_y U (yl_pred (T U) Ap qom) ?_ U (Az U U (Aa U)));refine o_y U (Ld U U runUnderlying79 sizeOf77 qom (by first|exact rfl|exact hA.a.b (i:=i) qom|exact(hA.m (gd a i) (Af qom)).a.b (i:=k) qom)) ?_ U (Az U U (Aa U));refine rP tb 1 U (o_y U (Lb U isAgg27 (by first|exact c_o|exact c_m ((hA.m (gd a i) (Af qom)).a.f0 (i:=(k - 1)) qom U))) ?_ U (Az U U (Aa U)));refine rP tb 2 U (o_y U (Ld U U runUnderlying31 sizeOf79 qom (by first|exact rfl|exact hA.a.b (i:=i) qom)) ?_ U (Az U U (Aa U)));refine o_y U (Lb U isAgg79 (by first|exact c_o|exact cell1 ((hA.a.mono sbt).cs (i:=i) qom))) ?_ U (Az U U (Aa U));refine rP tb 1 U (o_y U (Ld U U runUnderlying79 sizeOf77 qom (by first|exact rfl|exact hA.a.b (i:=i) qom|exact(hA.m (gd a i) (Af qom)).a.b (i:=k) qom)) ?_ U (Az U U (Aa U)));refine rP tb 1 U (o_y U (Lb U isAgg27 (by first|exact c_o|exact c_m ((hA.m (gd a i) (Af qom)).a.f0 (i:=k) qom U))) ?_ U (Az U U (Aa U)));refine o_y U (Ay (qe2 U U) call53 (fun H' hs=>rcmp_s (gd (gd a i).l (k - 1)).l (gd (gd a i).l k).l _ _ _ _ (((hA.m _ (Af (i:=i) qom)).m _ (Af (i:=k - 1) qom)).a.mono (stn hs)) (((hA.m _ (Af (i:=i) qom)).m _ (Af (i:=k) qom)).a.mono (stn hs)) ((hA.m _ (Af (i:=i) qom)).m _ (Af (i:=k - 1) qom)).n ((hA.m _ (Af (i:=i) qom)).m _ (Af (i:=k) qom)).n)) ?_ U (Az U U (Aa U));refine rP tb 3 U (A7 U (kO tb 2 [1,5,6,7,8,67] rfl U ?_));refine Ad (Aa U) (fun c67=> ?_) (fun c67=> ?_)
       ·refine rC tb 9 U (As (rX tb 4 U (As (rX tb 2 U (Ah U (K9 U) ?_)))));exact⟨_,⟨⟨false,rfl,⟨fun h=>(by cases h),fun h=>absurd (((h.2 i qom).1 k qom).2.2 qom) qom⟩⟩,rfl⟩,sbt⟩
       ·have hat:LanAt (gd a i).l k:=⟨by omega,by omega,fun _=>by omega⟩;refine rC tb 5 U (y_ (Av (T U) (T U) qom) ?_ U);refine rO tb 6 U (y_ (Av (T U) Ap qom) ?_ U);refine rO tb 2 U ?_;refine Ar (k+1) ?_ ?_ ⟨qat,(by first|exact Aa U|(refine Be (Aa U) (vint ?_);omega)|(refine Be (Aa U) ?_;simp;done)|(refine Be (Aa U) ?_;exact vint (by rw[Dd qom]))),trivial⟩ ⟨Aa U,Aa U,trivial⟩ ?_
        ·refine⟨by omega,fun j hj=> ?_,?_,?_⟩
         ·by_cases ej:j=k
          ·subst ej;exact hat
          ·exact hk j qom
         ·rw[Dd qom];have:=hat.1;omega
         ·rw[Dd qom];have:=hat.2.1;omega
        ·omega
        ·exact sbt
      ·have hat:LanAt (gd a i).l k:=⟨by omega,by omega,fun h=>by omega⟩;refine rP tb 21 U (A7 U (kO tb 2 [1,5,6,7,8,67] rfl U (rG tb 6 U (y_ (Av (T U) (T U) qom) ?_ U))));refine rO tb 6 U (y_ (Av (T U) Ap qom) ?_ U);refine rO tb 2 U ?_;refine Ar (k+1) ?_ ?_ ⟨qat,(by first|exact Aa U|(refine Be (Aa U) (vint ?_);omega)|(refine Be (Aa U) ?_;simp;done)|(refine Be (Aa U) ?_;exact vint (by rw[Dd qom]))),trivial⟩ ⟨Aa U,Aa U,trivial⟩ ?_
       ·refine⟨by omega,fun j hj=> ?_,?_,?_⟩
        ·by_cases ej:j=k
         ·subst ej;exact hat
         ·exact hk j qom
        ·rw[Dd qom];have:=hat.1;omega
        ·rw[Dd qom];have:=hat.2.1;omega
       ·omega
       ·exact sbt
   ·refine rC tb 2 U (Ag (rX tb 8 U ?_));refine Ad (Aa U) (fun c72=> ?_) (fun c72=> ?_)
    ·refine rC tb 8 U (As (rX tb 2 U (Ah U (K9 U) ?_)));exact⟨_,⟨⟨false,rfl,⟨fun h=>(by cases h),fun h=>absurd (by rw[List.take_of_length_le qom];exact(h.2 i qom).2) c72⟩⟩,rfl⟩,sbt⟩
    ·have hrow:RowOk (gd a i).l:=⟨fun j hj=>hk j qom,by rw[← List.take_of_length_le (l:=(gd a i).l) (i:=k) qom];omega⟩;refine rC tb 5 U (y_ (Av (T U) Ap qom) ?_ U);refine rO tb 2 U ?_;refine Ar (i+1) ?_ ?_ ⟨qat,trivial⟩ ⟨Aa U,trivial⟩ ?_
     ·refine⟨by omega,fun j hj=> ?_⟩
      by_cases ej:j=i
      ·subst ej;exact hrow
      ·exact hp j qom
     ·omega
     ·exact sbt
  ·refine rC tb 2 U (Ag (rX tb 8 U (Ah U (K9 U) ?_)));exact⟨_,⟨⟨true,rfl,⟨fun _=>⟨by omega,fun j hj=>hp j qom⟩,fun _=>rfl⟩⟩,rfl⟩,sbt⟩
theorem pformed_s {w0:World}{H:List (Nat × Obj)}(no:Nat)(qo:Option Addr)(co:Nat)(hno:no≤9223372036854775807)(a:List Lr)(q1:Option Addr)(c1:Nat)(hA:ShM w0 H q1 a)(hz:∀ x∈a,x.l.length≤1048576):
  FSpec Tryz.prog w0 54 #[.slice qo no co, .slice q1 a.length c1] H (fun v H'=>(∃ t:Bool,v= .bool t∧(t=true↔FormedP no a))∧H'=H):=by
 refine Ao Tryz.func54 U ntmps54 U ?_;have hna0:=hA.n;refine rD tb 15 U ?_;refine Ad (Aa U) (fun c14=> ?_) (fun c14=> ?_)
 ·refine rC tb 7 U (Ah U (K9 U) ?_);exact⟨_,⟨⟨false,rfl,⟨fun h=>(by cases h),fun h=>absurd h.1 qom⟩⟩,rfl⟩,sbt⟩
 ·refine rC tb 11 U ?_;refine Bd (X:=Nat) (V:=fun i=>[(17, .int .i64 (i:Nat))]) (C:=[(15,_),(16,_)]) (φ:=fun i=>i≤a.length∧∀ j,j<i→RowOk (gd a j).l) (μ:=fun i=>a.length - i) (x0:=0) ?_ ⟨Aa U,Aa U,trivial⟩ ⟨qat,trivial⟩ ?_
  ·exact⟨Nat.zero_le _,fun j hj=>by omega⟩
  rintro i ⟨hi,hp⟩;refine rD tb 6 U ?_;refine Ad (Aa U) (fun c18=> ?_) (fun c18=> ?_)
  ·have hna:=(hA.m _ (Af (i:=i) qom)).n;have hza:=hz _ (Af (i:=i) qom);refine rC tb 6 U (y_ (Ld U U runUnderlying31 sizeOf79 qom (by first|exact rfl|exact hA.a.b (i:=i) qom)) ?_ U);refine y_ (Lb U isAgg79 (by first|exact c_o|exact cell1 ((hA.a.mono sbt).cs (i:=i) qom))) ?_ U;refine rO tb 17 U ?_;refine Bd (X:=Nat) (V:=fun k=>[(23, .int .i64 (k:Nat)),(7, .int .i64 (sI ((gd a i).l.take k) Lm.p))]) (C:=[(6,_),(15,_),(16,_),(17,_),(21,_),(22,_)]) (φ:=fun k=>k≤(gd a i).l.length∧(∀ j,j<k→LanAt (gd a i).l j)∧0≤sI ((gd a i).l.take k) Lm.p∧sI ((gd a i).l.take k) Lm.p≤16*k) (μ:=fun k=>(gd a i).l.length - k) (x0:=0) ?_ ⟨Aa U,Aa U,Aa U,Aa U,Aa U,Aa U,trivial⟩ ⟨qat,qat,trivial⟩ ?_
   ·exact⟨Nat.zero_le _,fun j hj=>by omega,by simp[sI],by simp[sI]⟩
   rintro k ⟨hk1,hk,hs0,hs1⟩;refine rD tb 6 U ?_;refine Ad (Aa U) (fun c24=> ?_) (fun c24=> ?_)
   ·refine rC tb 7 U (y_ (Ld U U runUnderlying79 sizeOf77 qom (by first|exact rfl|exact hA.a.b (i:=i) qom|exact(hA.m (gd a i) (Af qom)).a.b (i:=k) qom)) ?_ U);refine y_ (Lc U isAgg77 sizeOf77 U (by exact((hA.m (gd a i) (Af qom)).a.mono sbt).cs (i:=k) qom)) ?_ U;refine e_ (Ai zeroValue77 cs_) ?_ U;rintro _ _ ⟨n9,rfl,rfl⟩;refine rO tb 1 U ?_;refine Aw (Le U U sizeOf77) U Ac ?_;rintro _ _ ⟨rfl,rfl⟩;refine rO tb 4 U (Bh 20 [(0,true),(1,true),(2,true),(3,true),(4,true),(5,true),(6,true),(7,true),(8,true),(9,true),(10,true),(11,true),(12,true),(13,true),(14,true),(15,true),(16,true),(17,true),(18,true),(19,true)] _ mixd qkr sb0 ?_ A8);refine rP tb 1 U (o_y U (Lb U isAgg3 qco) ?_ U Ac);refine o_y U (Ay (.cons (T U) (.cons Ap (.cons Ap .nil))) call46 (fun H' hs=>F4 _ _ _)) ?_ U Ac;refine o_y U (A9 (T U)) ?_ U Ac;refine rP tb 1 U ?_;refine Cd (s:=32) (Aa U) (fun c32=> ?_) (fun c32=> ?_)
    ·refine rP tb 15 U (A7 U (kO tb 2 [6,7,9,15,16,17,21,22,23,47] rfl U (rG tb 10 U (As (rX tb 4 U (As (rX tb 2 U (Ah U (K9 U) ?_))))))));exact⟨_,⟨⟨false,rfl,⟨fun h=>(by cases h),fun h=>absurd (And.intro ((h.2 i qom).1 k qom).1 ((h.2 i qom).1 k qom).2.1) c32⟩⟩,rfl⟩,sbt⟩
    ·refine rP tb 3 U ?_;refine Cd (s:=35) (Aa U) (fun c35=> ?_) (fun c35=> ?_)
     ·refine rP tb 2 U (o_y U (yl_pred (T U) Ap qom) ?_ U (Az U U (Aa U)));refine o_y U (Ld U U runUnderlying79 sizeOf77 qom (by first|exact rfl|exact hA.a.b (i:=i) qom|exact(hA.m (gd a i) (Af qom)).a.b (i:=k) qom)) ?_ U (Az U U (Aa U));refine rP tb 1 U (o_y U (Lb U isAgg27 (by first|exact c_o|exact c_m ((hA.m (gd a i) (Af qom)).a.f0 (i:=(k - 1)) qom U))) ?_ U (Az U U (Aa U)));refine rP tb 1 U (o_y U (Lb U isAgg27 qco) ?_ U (Az U U (Aa U)));refine o_y U (Ay (qe2 U U) call63 (fun H' hs=>scmp_s (gd (gd a i).l (k - 1)).l (gd (gd a i).l k).l _ _ _ _ (((hA.m _ (Af (i:=i) qom)).m _ (Af (i:=k - 1) qom)).a.mono (stn hs)) (((hA.m _ (Af (i:=i) qom)).m _ (Af (i:=k) qom)).a.mono (stn hs)) ((hA.m _ (Af (i:=i) qom)).m _ (Af (i:=k - 1) qom)).n ((hA.m _ (Af (i:=i) qom)).m _ (Af (i:=k) qom)).n)) ?_ U (Az U U (Aa U));refine rP tb 3 U (A7 U (kO tb 2 [6,7,9,15,16,17,21,22,23,47] rfl U ?_));refine Ad (Aa U) (fun c47=> ?_) (fun c47=> ?_)
      ·refine rC tb 9 U (As (rX tb 4 U (As (rX tb 2 U (Ah U (K9 U) ?_)))));exact⟨_,⟨⟨false,rfl,⟨fun h=>(by cases h),fun h=>absurd (((h.2 i qom).1 k qom).2.2 qom) qom⟩⟩,rfl⟩,sbt⟩
      ·have hat:LanAt (gd a i).l k:=⟨by omega,by omega,fun _=>by omega⟩;refine rC tb 5 U (y_ (Lb U isAgg3 qco) ?_ U);refine y_ (Av (T U) (T U) qom) ?_ U;refine rO tb 5 U (y_ (Av (T U) Ap qom) ?_ U);refine rO tb 2 U ?_;refine Ar (k+1) ?_ ?_ ⟨qat,(by first|exact Aa U|(refine Be (Aa U) (vint ?_);omega)|(refine Be (Aa U) ?_;simp;done)|(refine Be (Aa U) ?_;exact vint (by rw[Dd qom]))),trivial⟩ ⟨Aa U,Aa U,Aa U,Aa U,Aa U,Aa U,trivial⟩ ?_
       ·refine⟨by omega,fun j hj=> ?_,?_,?_⟩
        ·by_cases ej:j=k
         ·subst ej;exact hat
         ·exact hk j qom
        ·rw[Dd qom];have:=hat.1;omega
        ·rw[Dd qom];have:=hat.2.1;omega
       ·omega
       ·exact sbt
     ·have hat:LanAt (gd a i).l k:=⟨by omega,by omega,fun h=>by omega⟩;refine rP tb 12 U (A7 U (kO tb 2 [6,7,9,15,16,17,21,22,23,47] rfl U (rG tb 6 U (y_ (Lb U isAgg3 qco) ?_ U))));refine y_ (Av (T U) (T U) qom) ?_ U;refine rO tb 5 U (y_ (Av (T U) Ap qom) ?_ U);refine rO tb 2 U ?_;refine Ar (k+1) ?_ ?_ ⟨qat,(by first|exact Aa U|(refine Be (Aa U) (vint ?_);omega)|(refine Be (Aa U) ?_;simp;done)|(refine Be (Aa U) ?_;exact vint (by rw[Dd qom]))),trivial⟩ ⟨Aa U,Aa U,Aa U,Aa U,Aa U,Aa U,trivial⟩ ?_
      ·refine⟨by omega,fun j hj=> ?_,?_,?_⟩
       ·by_cases ej:j=k
        ·subst ej;exact hat
        ·exact hk j qom
       ·rw[Dd qom];have:=hat.1;omega
       ·rw[Dd qom];have:=hat.2.1;omega
      ·omega
      ·exact sbt
   ·refine rC tb 2 U (Ag (rX tb 8 U ?_));refine Ad (Aa U) (fun c54=> ?_) (fun c54=> ?_)
    ·refine rC tb 8 U (As (rX tb 2 U (Ah U (K9 U) ?_)));exact⟨_,⟨⟨false,rfl,⟨fun h=>(by cases h),fun h=>absurd (by rw[List.take_of_length_le qom];exact(h.2 i qom).2) c54⟩⟩,rfl⟩,sbt⟩
    ·have hrow:RowOk (gd a i).l:=⟨fun j hj=>hk j qom,by rw[← List.take_of_length_le (l:=(gd a i).l) (i:=k) qom];omega⟩;refine rC tb 4 U (y_ (Av (T U) Ap qom) ?_ U);refine rO tb 2 U ?_;refine Ar (i+1) ?_ ?_ ⟨qat,trivial⟩ ⟨Aa U,Aa U,trivial⟩ ?_
     ·refine⟨by omega,fun j hj=> ?_⟩
      by_cases ej:j=i
      ·subst ej;exact hrow
      ·exact hp j qom
     ·omega
     ·exact sbt
  ·refine rC tb 2 U (Ag (rX tb 8 U (Ah U (K9 U) ?_)));exact⟨_,⟨⟨true,rfl,⟨fun _=>⟨by omega,fun j hj=>hp j qom⟩,fun _=>rfl⟩⟩,rfl⟩,sbt⟩
def adL (ld:List Int) (x v:Int):List Int:=ld.set x.toNat (gd ld x.toNat+v)
def laneL (ld:List Int) (v:Int) (l:List Int):List Int:=l.foldl (fun ld x=>adL ld x v) ld
def rowL (ld:List Int) (amt:Int) (l:List Lm):List Int:=l.foldl (fun ld s=>laneL ld (amt*s.p) s.l) ld
theorem adL_len (ld:List Int)(x v:Int):(adL ld x v).length=ld.length:=by simp[adL]
theorem B9 (v:Int):∀ (l ld:List Int),(laneL ld v l).length=ld.length
 |[],ld=>rfl
 |x::l,ld=>by show (laneL (adL ld x v) v l).length=_;rw[B9 v l,adL_len]
theorem Cp (amt:Int):∀ (l:List Lm) (ld:List Int),(rowL ld amt l).length=ld.length
 |[],ld=>rfl
 |x::l,ld=>by show (rowL (laneL ld _ _) amt l).length=_;rw[Cp amt l,B9]
theorem adL_gd {ld:List Int}{x v:Int}{k:Nat}(h0:0≤x)(hx:x<ld.length):gd (adL ld x v) k=gd ld k+one k x*v:=by
 unfold adL one
 by_cases e:k=x.toNat
 ·subst e;rw[An (by simp;omega),if_pos qom];simp
 ·rw[if_neg qom];unfold gd;simp[List.getD,List.getElem?_set_ne (Ne.symm e)]
theorem laneL_gd {v:Int}{k:Nat}:∀ {l ld:List Int},(∀ x∈l,0≤x∧x<ld.length)→gd (laneL ld v l) k=gd ld k+cntI l k*v
 |[],ld,_=>by simp[laneL,cntI,sI]
 |x::l,ld,h=>by
  have h1:=h x (by simp);show gd (laneL (adL ld x v) v l) k=_;rw[laneL_gd (fun y hy=>by rw[adL_len];exact h y (by simp[hy])),adL_gd h1.1 h1.2];show _=gd ld k+(one k x+cntI l k)*v;rw[Int.add_mul];omega
theorem I3 {amt:Int}{k:Nat}:∀ {l:List Lm} {ld:List Int},(∀ s∈l,∀ x∈s.l,0≤x∧x<ld.length)→gd (rowL ld amt l) k=gd ld k+ordLd amt (l.map Lm.lan) k
 |[],ld,_=>by simp[rowL,ordLd,sI]
 |s::l,ld,h=>by
  show gd (rowL (laneL ld (amt*s.p) s.l) amt l) k=_;rw[I3 (fun y hy x hx=>by rw[B9];exact h y (by simp[hy]) x hx),laneL_gd (h s (by simp))];show _=gd ld k+(cntI s.lan.l k*(amt*s.lan.p)+ordLd amt (l.map Lm.lan) k);show gd ld k+cntI s.l k*(amt*s.p)+_=gd ld k+(cntI s.l k*(amt*s.p)+_);omega
theorem Gm {v:Int}{l ld:List Int}{k:Nat}(h:k<l.length):laneL ld v (l.take (k+1))=adL (laneL ld v (l.take k)) (gd l k) v:=by
 unfold laneL;rw[List.take_add_one,B2 h,List.foldl_append];rfl
theorem Hr {amt:Int}{l:List Lm}{ld:List Int}{k:Nat}(h:k<l.length):rowL ld amt (l.take (k+1))=laneL (rowL ld amt (l.take k)) (amt*(gd l k).p) (gd l k).l:=by
 unfold rowL;rw[List.take_add_one,B2 h,List.foldl_append];rfl
theorem rbs27_1_0 (a0:Int)(w:World):(Instr.buildSlice 27 1 #[(0, .int .i64 a0)]).run Tryz.prog w= .ok (.slice (some ⟨w.heap.size,0,none⟩) 1 1) (w.alloc (Cl [.int .i64 a0] 3)):=by kernel_rfl
structure Om where
 x:Int
 y:Int
 amt:Int
 m:Rxm
instance:Inhabited Om:=⟨⟨0,0,0,default⟩⟩
abbrev encOm (o:Om):List Value:=[.int .i64 o.x, .int .i64 o.y, .int .i64 o.amt, .int .i64 o.m.kind, .string o.m.node, .slice o.m.q o.m.args.length o.m.cap]
structure OsM (w0:World) (H:List (Nat × Obj)) (q:Option Addr) (os:List Om):Prop where
 a:Arr w0 H q 6 encOm os
 n:os.length≤9223372036854775807
 m:∀ o∈os,RxM w0 H o.m
theorem OsM.mono {w0:World}{H H':List (Nat × Obj)}{q:Option Addr}{os:List Om}(h:OsM w0 H q os)(hs:H.Sublist H':=by exact sbt):OsM w0 H' q os:=⟨h.a.mono hs,h.n,fun o ho=>(h.m o ho).mono hs⟩
def shT (z:List Int) (os:List Om) (a:List Lr):Nat→List Int
 |0=>z
 |i+1=>rowL (shT z os a i) (gd os i).amt (gd a i).l
theorem B5 (z:List Int)(os:List Om)(a:List Lr):∀ i,(shT z os a i).length=z.length
 |0=>rfl
 |i+1=>by rw[shT,Cp,B5 z os a i]
structure LdOk (N:Nat) (os:List Om) (a:List Lr):Prop where
 len:a.length=os.length
 few:a.length≤100
 amt:∀ o∈os,0≤o.amt∧o.amt≤1048576
 lan:∀ r∈a,r.l.length≤100∧∀ s∈r.l,1≤s.p∧s.p≤16∧s.l.length≤3000∧∀ x∈s.l,0≤x∧x<N
theorem Gn {N k:Nat}(h:k<N):gd (List.replicate N (0:Int)) k=0:=by rw[An (by simpa using h)];simp
theorem amt_mul {a p:Int}(h0:0≤a)(h1:a≤1048576)(p0:1≤p)(p1:p≤16):0≤a*p∧a*p≤16777216:=by
 refine⟨Int.mul_nonneg h0 qom,?_⟩;have h2:=Int.mul_le_mul_of_nonneg_left p1 h0;omega
theorem adL_le {ld:List Int}{x v B:Int}{N:Nat}(hN:ld.length=N)(h0:0≤x)(hx:x<N)(hv:0≤v∧v≤16777216)(h:∀ k,k<N→0≤gd ld k∧gd ld k≤B):∀ k,k<N→0≤gd (adL ld x v) k∧gd (adL ld x v) k≤B+16777216:=fun k hk=>by
 rw[adL_gd h0 qom];have:=h k hk;unfold one
 split<;>omega
theorem rload_s {w0:World}{H:List (Nat × Obj)}(n:Nn)(hn:NetR w0 H n)(hnl:n.links.length≤1000000)(os:List Om)(qo:Option Addr)(co:Nat)(hO:OsM w0 H qo os)(a:List Lr)(q1:Option Addr)(c1:Nat)(hA:ShM w0 H q1 a)(hok:LdOk n.links.length os a):
  FSpec Tryz.prog w0 25 #[.agg (encNn n).toArray, .slice qo os.length co, .slice q1 a.length c1] H (fun v H'=>∃ d:Sl,(v=slV d (List.replicate n.links.length (0:Int)).length∧SlOk d (List.replicate n.links.length (0:Int)).length 1)∧H'=slH d ((shT (List.replicate n.links.length (0:Int)) os a a.length).flatMap encI) 3++H):=by
 refine Ao Tryz.func25 U ntmps25 U ?_;have hna0:=hA.n;have hfew:=hok.few;have hal:=hok.len;refine rD tb 2 U (e_ (Lf U cs_) ?_ U);rintro _ _ ⟨n3,rfl,rfl⟩;refine rO tb 15 U ?_;refine Ba (X:=Nat × Sl) (V:=fun ⟨i,d⟩=>[(8, .int .i64 (i:Nat)),(7,slV d (List.replicate i (0:Int)).length)]) (C:=[(1,_),(2,_),(3,_)]) (G:=fun ⟨i,d⟩=>slH d ((List.replicate i (0:Int)).flatMap encI) 3++((n3,Cl (encNn n) 26)::H)) (φ:=fun ⟨i,d⟩=>i≤n.links.length∧SlOk d i 1) (μ:=fun ⟨i,d⟩=>n.links.length - i) (x0:=(0, .nil)) ?_ ⟨Aa rfl,Aa rfl,Aa rfl,trivial⟩ ⟨qat,qat,trivial⟩ sb0 ?_
 ·exact⟨Nat.zero_le _,rfl⟩
 rintro⟨i,d⟩ ⟨hi,hd0⟩;have hd:SlOk d (List.replicate i (0:Int)).length 1:=by rw[List.length_replicate];exact hd0
 refine rD tb 5 U (y_ (Lb U isAgg23 qco) ?_ U);refine rO tb 4 U ?_;refine Ad (Aa U) (fun c17=> ?_) (fun c17=> ?_)
 ·refine rC tb 6 U (e_ (Aj (.cons Ap .nil) (rbs27_1_0 _)) ?_ U);rintro _ _ ⟨n21,rfl,rfl⟩;refine e_ (Bg ((0:Int)) (by':=8) (enc:=encI) (l:=List.replicate i (0:Int)) qlc (T U) (T U) runUnderlying27 runUnderlying27 sizeOf3 typeInfo3 U zeroValue3 U (fun _=>rfl) U hd qde (by simp;omega)) ?_ U;rintro _ _ ⟨d2,rfl,hd2,rfl⟩;refine rO tb 6 U (y_ (Av (T U) Ap qom) ?_ U);refine rO tb 2 U ?_;have hrs:List.replicate (i+1) (0:Int)=List.replicate i 0++[0]:=List.replicate_succ';refine Ar ((i+1,d2)) ?_ ?_ ⟨qat,atd,trivial⟩ ⟨Aa U,Aa U,Aa U,trivial⟩ ?_
  ·exact⟨by omega,by simpa using hd2⟩
  ·first|omega|(simp only[];omega)
  ·show (slH d2 ((List.replicate (i+1) (0:Int)).flatMap encI) 3++_).Sublist _;rw[List.replicate_succ'];exact sbt
 ·have hin:i=n.links.length:=by omega
  subst hin;have hrep:(List.replicate n.links.length (0:Int)).length=n.links.length:=List.length_replicate ..;refine rC tb 2 U (Ag (rX tb 9 U ?_));refine Ba (X:=Nat) (V:=fun i=>[(9, .int .i64 (i:Nat))]) (C:=[(1,_),(2,_),(7,_)]) (G:=fun i=>slH d ((shT (List.replicate n.links.length (0:Int)) os a i).flatMap encI) 3++((n3,Cl (encNn n) 26)::H)) (φ:=fun i=>i≤a.length∧∀ k,k<n.links.length→0≤gd (shT (List.replicate n.links.length (0:Int)) os a i) k∧gd (shT (List.replicate n.links.length (0:Int)) os a i) k≤16777216*(300000*i)) (μ:=fun i=>a.length - i) (x0:=0) ?_ ⟨Aa U,Aa U,Aa U,trivial⟩ ⟨qat,trivial⟩ sb0 ?_
  ·exact⟨Nat.zero_le _,fun k hk=>by rw[shT,Gn hk];omega⟩
  rintro i ⟨hi,hs⟩;refine rD tb 9 U ?_;refine Ad (Aa U) (fun c26=> ?_) (fun c26=> ?_)
  ·have hna:=(hA.m _ (Af (i:=i) qom)).n;have hla:=hok.lan _ (Af (i:=i) qom);have ham:=hok.amt _ (Af (l:=os) (i:=i) qom);refine rC tb 10 U ?_;refine Ba (X:=Nat) (V:=fun k=>[(10, .int .i64 (k:Nat))]) (C:=[(1,_),(2,_),(7,_),(9,_)]) (G:=fun k=>slH d ((rowL (shT (List.replicate n.links.length (0:Int)) os a i) (gd os i).amt ((gd a i).l.take k)).flatMap encI) 3++((n3,Cl (encNn n) 26)::H)) (φ:=fun k=>k≤(gd a i).l.length∧∀ j,j<n.links.length→0≤gd (rowL (shT (List.replicate n.links.length (0:Int)) os a i) (gd os i).amt ((gd a i).l.take k)) j∧gd (rowL (shT (List.replicate n.links.length (0:Int)) os a i) (gd os i).amt ((gd a i).l.take k)) j≤16777216*(300000*i+3000*k)) (μ:=fun k=>(gd a i).l.length - k) (x0:=0) ?_ ⟨Aa U,Aa U,Aa U,Aa U,trivial⟩ ⟨qat,trivial⟩ sb0 ?_
   ·exact⟨Nat.zero_le _,fun j hj=>by have:=hs j hj;show 0≤gd (shT (List.replicate n.links.length (0:Int)) os a i) j∧gd (shT (List.replicate n.links.length (0:Int)) os a i) j≤_;omega⟩
   rintro k ⟨hk1,hk⟩;refine rD tb 6 U (y_ (Ld U U runUnderlying31 sizeOf79 qom (by first|exact rfl|exact hA.a.b (i:=i) qom)) ?_ U);refine y_ (Lb U isAgg79 (by first|exact c_o|exact cell1 ((hA.a.mono sbt).cs (i:=i) qom))) ?_ U;refine rO tb 4 U ?_;refine Ad (Aa U) (fun c35=> ?_) (fun c35=> ?_)
   ·have hlk:=hla.2 _ (Af (i:=k) qom);have hpr:=amt_mul ham.1 ham.2 hlk.1 hlk.2.1;refine rC tb 8 U (y_ (Ld U U runUnderlying31 sizeOf79 qom (by first|exact rfl|exact hA.a.b (i:=i) qom)) ?_ U);refine y_ (Lb U isAgg79 (by first|exact c_o|exact cell1 ((hA.a.mono sbt).cs (i:=i) qom))) ?_ U;refine rO tb 1 U (y_ (Ld U U runUnderlying79 sizeOf77 qom (by first|exact rfl|exact hA.a.b (i:=i) qom|exact(hA.m (gd a i) (Af qom)).a.b (i:=k) qom)) ?_ U);refine y_ (Lc U isAgg77 sizeOf77 U (by exact((hA.m (gd a i) (Af qom)).a.mono sbt).cs (i:=k) qom)) ?_ U;refine e_ (Ai zeroValue77 cs_) ?_ U;rintro _ _ ⟨n11,rfl,rfl⟩;refine Aw (Le U U sizeOf77) U Ac ?_;rintro _ _ ⟨rfl,rfl⟩;refine rO tb 8 U ?_;refine Ba (X:=Nat) (V:=fun m=>[(12, .int .i64 (m:Nat))]) (C:=[(1,_),(2,_),(7,_),(9,_),(10,_),(11,_)]) (G:=fun m=>(n11,Cl (encLm (gd (gd a i).l k)) 77)::(slH d ((laneL (rowL (shT (List.replicate n.links.length (0:Int)) os a i) (gd os i).amt ((gd a i).l.take k)) ((gd os i).amt*(gd (gd a i).l k).p) ((gd (gd a i).l k).l.take m)).flatMap encI) 3++((n3,Cl (encNn n) 26)::H))) (φ:=fun m=>m≤(gd (gd a i).l k).l.length∧∀ j,j<n.links.length→0≤gd (laneL (rowL (shT (List.replicate n.links.length (0:Int)) os a i) (gd os i).amt ((gd a i).l.take k)) ((gd os i).amt*(gd (gd a i).l k).p) ((gd (gd a i).l k).l.take m)) j∧gd (laneL (rowL (shT (List.replicate n.links.length (0:Int)) os a i) (gd os i).amt ((gd a i).l.take k)) ((gd os i).amt*(gd (gd a i).l k).p) ((gd (gd a i).l k).l.take m)) j≤16777216*(300000*i+3000*k+m)) (μ:=fun m=>(gd (gd a i).l k).l.length - m) (x0:=0) ?_ ⟨Aa U,Aa U,Aa U,Aa U,Aa U,Aa U,trivial⟩ ⟨qat,trivial⟩ sb0 ?_
    ·exact⟨Nat.zero_le _,fun j hj=>by have:=hk j hj;show 0≤gd (rowL (shT (List.replicate n.links.length (0:Int)) os a i) (gd os i).amt ((gd a i).l.take k)) j∧gd (rowL (shT (List.replicate n.links.length (0:Int)) os a i) (gd os i).amt ((gd a i).l.take k)) j≤_;omega⟩
    rintro m ⟨hm1,hm⟩;refine rD tb 5 U (y_ (Lb U isAgg27 qco) ?_ U);refine rO tb 4 U ?_;refine Ad (Aa U) (fun c49=> ?_) (fun c49=> ?_)
    ·have hx:=hlk.2.2.2 _ (Af (i:=m) qom);have hcur:=hm (gd (gd (gd a i).l k).l m).toNat qom;refine rC tb 4 U (Bh 24 [(0,true),(1,true),(2,true),(3,true),(4,true),(5,true),(6,true),(7,true),(8,true),(9,true),(10,true),(11,true),(12,true),(13,true),(14,true),(15,true),(16,true),(17,true),(18,true),(19,true),(20,true),(21,true),(22,true),(23,true)] _ mixd qkr sb0 ?_ A8);refine rP tb 2 U (o_y U (Lb U isAgg27 qco) ?_ U Ac);refine rP tb 1 U (o_y U (Ld U U runUnderlying27 sizeOf3 qom (by first|exact rfl|exact hA.a.b (i:=i) qom|exact(hA.m (gd a i) (Af qom)).a.b (i:=k) qom|exact((hA.m _ (Af (i:=i) qom)).m _ (Af (i:=k) qom)).a.b (i:=m) qom)) ?_ U Ac);refine o_y U (Lb U isAgg3 (by first|exact c_o|exact cell1 ((((hA.m _ (Af (i:=i) qom)).m _ (Af (i:=k) qom)).a.mono sbt).cs (i:=m) qom))) ?_ U Ac;refine rP tb 2 U (o_y U (Lb U isAgg27 qco) ?_ U Ac);refine rP tb 1 U (o_y U (Ld U U runUnderlying27 sizeOf3 qom (by first|exact rfl|exact hA.a.b (i:=i) qom|exact(hA.m (gd a i) (Af qom)).a.b (i:=k) qom|exact((hA.m _ (Af (i:=i) qom)).m _ (Af (i:=k) qom)).a.b (i:=m) qom)) ?_ U Ac);refine o_y U (Lb U isAgg3 (by first|exact c_o|exact cell1 ((((hA.m _ (Af (i:=i) qom)).m _ (Af (i:=k) qom)).a.mono sbt).cs (i:=m) qom))) ?_ U Ac;refine o_y U (Bi (T U) (T U) runUnderlying27 sizeOf3 qom (by first|exact rfl|exact hA.a.b (i:=i) qom|exact(hA.m (gd a i) (Af qom)).a.b (i:=k) qom|exact((hA.m _ (Af (i:=i) qom)).m _ (Af (i:=k) qom)).a.b (i:=m) qom|exact hO.a.b (i:=i) qom|exact hd.bas qom)) ?_ U Ac;refine o_y U (Lb U isAgg3 (by first|exact c_o|exact cell1 (((A1 (w0:=w0) (enc:=encI) (sz:=1) (e:=3) (l:=(laneL (rowL (shT (List.replicate n.links.length (0:Int)) os a i) (gd os i).amt ((gd a i).l.take k)) ((gd os i).amt*(gd (gd a i).l k).p) ((gd (gd a i).l k).l.take m))) (X:=H) (fun _=>rfl) (by rw[B9,Cp,B5,List.length_replicate];exact hd0)).mono sbt).cs (i:=(gd (gd (gd a i).l k).l m).toNat) (by rw[B9,Cp,B5,List.length_replicate];omega)))) ?_ U Ac;refine rP tb 2 U (o_y U (Ld U U runUnderlying30 sizeOf58 qom (by first|exact rfl|exact hA.a.b (i:=i) qom|exact(hA.m (gd a i) (Af qom)).a.b (i:=k) qom|exact((hA.m _ (Af (i:=i) qom)).m _ (Af (i:=k) qom)).a.b (i:=m) qom|exact hO.a.b (i:=i) qom)) ?_ U Ac);refine rP tb 1 U (o_y U (Lb U isAgg3 (by first|exact c_o|exact c_m (hO.a.f (i:=i) (j:=2) qom U))) ?_ U Ac);refine rP tb 1 U (o_y U (Lb U isAgg3 qco) ?_ U Ac);refine o_y U (H3 (T U) (T U) qom) ?_ U Ac;refine o_y U (Av (T U) (T U) qom) ?_ U Ac;refine o_y U (Bi (T U) (T U) runUnderlying27 sizeOf3 qom (by first|exact rfl|exact hA.a.b (i:=i) qom|exact(hA.m (gd a i) (Af qom)).a.b (i:=k) qom|exact((hA.m _ (Af (i:=i) qom)).m _ (Af (i:=k) qom)).a.b (i:=m) qom|exact hO.a.b (i:=i) qom|exact hd.bas qom)) ?_ U Ac;refine A7 U (e_ (B4 (l:=(laneL (rowL (shT (List.replicate n.links.length (0:Int)) os a i) (gd os i).amt ((gd a i).l.take k)) ((gd os i).amt*(gd (gd a i).l k).p) ((gd (gd a i).l k).l.take m))) (e:=3) (enc:=encI) (sz:=1) (i:=(gd (gd (gd a i).l k).l m).toNat) (gd (laneL (rowL (shT (List.replicate n.links.length (0:Int)) os a i) (gd os i).amt ((gd a i).l.take k)) ((gd os i).amt*(gd (gd a i).l k).p) ((gd (gd a i).l k).l.take m)) (gd (gd (gd a i).l k).l m).toNat+(gd os i).amt*(gd (gd a i).l k).p) (fun _=>rfl) qlc (T U) (T U) (.one U) U sizeOf3 (by rw[B9,Cp,B5,List.length_replicate];omega) (by rw[B9,Cp,B5,List.length_replicate];exact hd0)) ?_ U);rintro _ _ ⟨rfl,rfl⟩;refine kO tb 3 [1,2,7,9,10,11,12] rfl U (rG tb 2 U (y_ (Av (T U) Ap qom) ?_ U));refine rO tb 2 U ?_;refine Ar (m+1) ?_ ?_ ⟨qat,trivial⟩ ⟨Aa U,Aa U,Aa U,Aa U,Aa U,Aa U,trivial⟩ ?_
     ·refine⟨by omega,fun j hj=> ?_⟩;rw[Gm qom];have:=adL_le (B:=16777216*(300000*i+3000*k+m)) (N:=n.links.length) (by rw[B9,Cp,B5,List.length_replicate]) hx.1 hx.2 hpr hm j hj;omega
     ·omega
     ·show (_::(slH d ((laneL (rowL (shT (List.replicate n.links.length (0:Int)) os a i) (gd os i).amt ((gd a i).l.take k)) ((gd os i).amt*(gd (gd a i).l k).p) ((gd (gd a i).l k).l.take (m+1))).flatMap encI) 3++_)).Sublist _;rw[Gm qom];exact sbt
    ·have hmn:m=(gd (gd a i).l k).l.length:=by omega
     subst hmn;rw[List.take_length] at hm;refine rC tb 2 U (Ag (rX tb 5 U (y_ (Av (T U) Ap qom) ?_ U)));refine rO tb 2 U ?_;refine Ar (k+1) ?_ ?_ ⟨qat,trivial⟩ ⟨Aa U,Aa U,Aa U,Aa U,trivial⟩ ?_
     ·refine⟨by omega,fun j hj=> ?_⟩;rw[Hr qom];have:=hm j hj;omega
     ·omega
     ·show (slH d ((rowL (shT (List.replicate n.links.length (0:Int)) os a i) (gd os i).amt ((gd a i).l.take (k+1))).flatMap encI) 3++_).Sublist _;rw[Hr qom,List.take_length];exact sbt
   ·have hkn:k=(gd a i).l.length:=by omega
    subst hkn;rw[List.take_length] at hk;refine rC tb 2 U (Ag (rX tb 5 U (y_ (Av (T U) Ap qom) ?_ U)));refine rO tb 2 U ?_;refine Ar (i+1) ?_ ?_ ⟨qat,trivial⟩ ⟨Aa U,Aa U,Aa U,trivial⟩ ?_
    ·refine⟨by omega,fun j hj=> ?_⟩;have:=hk j hj;rw[shT];omega
    ·omega
    ·show (slH d ((rowL (shT (List.replicate n.links.length (0:Int)) os a i) (gd os i).amt (gd a i).l).flatMap encI) 3++_).Sublist _;rw[List.take_length];exact sbt
  ·refine rC tb 2 U (Ag (rX tb 9 U (Ah U (K9 U) ?_)));have hin:i=a.length:=by omega
   subst hin;exact⟨_,⟨d,⟨rfl,hd⟩,rfl⟩,sbt⟩
theorem rep_enc (N:Nat):List.replicate N (Value.int .i64 0)=(List.replicate N (0:Int)).flatMap encI++[]:=by
 induction N with
 |zero=>rfl
 |succ N ih=>rw[List.replicate_succ,List.replicate_succ,ih];simp
theorem Jx {w0:World}{H:List (Nat × Obj)}(n:Nn)(hn:NetR w0 H n)(hnl:n.links.length≤1000000)(os:List Om)(qo:Option Addr)(co:Nat)(hO:OsM w0 H qo os)(a:List Lr)(q1:Option Addr)(c1:Nat)(hA:ShM w0 H q1 a)(hok:LdOk n.links.length os a):
  FSpec Tryz.prog w0 24 #[.agg (encNn n).toArray, .slice qo os.length co, .slice q1 a.length c1] H (fun v H'=>∃ d:Sl,(v=slV d n.links.length∧SlOk d n.links.length 1)∧H'=slH d ((shT (List.replicate n.links.length (0:Int)) os a a.length).flatMap encI) 3++H):=by
 refine Ao Tryz.func24 U ntmps24 U ?_;have hna0:=hA.n;have hfew:=hok.few;have hal:=hok.len;refine rD tb 2 U (e_ (Lf U cs_) ?_ U);rintro _ _ ⟨n3,rfl,rfl⟩;refine rO tb 6 U (y_ (Lb U isAgg23 qco) ?_ U);refine rO tb 1 U (e_ (B7 (by':=8) (k:=n.links.length) (T U) runUnderlying27 sizeOf3 typeInfo3 U zeroValue3 U qom qom) ?_ U);rintro _ _ ⟨n17,rfl,rfl⟩;rw[rep_enc n.links.length];have hd0:SlOk (Sl.blk n17 n.links.length []) n.links.length 1:=⟨Nat.le_refl _,by simp⟩;refine rO tb 12 U ?_;refine Ba (X:=Nat) (V:=fun i=>[(20, .int .i64 (i:Nat))]) (C:=[(1,_),(7,_),(18,_),(19,_)]) (G:=fun i=>slH (Sl.blk n17 n.links.length []) ((shT (List.replicate n.links.length (0:Int)) os a i).flatMap encI) 3++((n3,Cl (encNn n) 26)::H)) (φ:=fun i=>i≤a.length∧∀ k,k<n.links.length→0≤gd (shT (List.replicate n.links.length (0:Int)) os a i) k∧gd (shT (List.replicate n.links.length (0:Int)) os a i) k≤16777216*(300000*i)) (μ:=fun i=>a.length - i) (x0:=0) ?_ ⟨Aa U,Aa U,Aa U,Aa U,trivial⟩ ⟨qat,trivial⟩ sb0 ?_
 ·exact⟨Nat.zero_le _,fun k hk=>by rw[shT,Gn hk];omega⟩
 rintro i ⟨hi,hs⟩;refine rD tb 6 U ?_;refine Ad (Aa U) (fun c21=> ?_) (fun c21=> ?_)
 ·have hna:=(hA.m _ (Af (i:=i) qom)).n;have hla:=hok.lan _ (Af (i:=i) qom);have ham:=hok.amt _ (Af (l:=os) (i:=i) qom);refine rC tb 7 U (y_ (Ld U U runUnderlying31 sizeOf79 qom (by first|exact rfl|exact hA.a.b (i:=i) qom)) ?_ U);refine y_ (Lb U isAgg79 (by first|exact c_o|exact cell1 ((hA.a.mono sbt).cs (i:=i) qom))) ?_ U;refine rO tb 12 U ?_;refine Ba (X:=Nat) (V:=fun k=>[(27, .int .i64 (k:Nat))]) (C:=[(1,_),(7,_),(8,_),(18,_),(19,_),(20,_),(25,_),(26,_)]) (G:=fun k=>slH (Sl.blk n17 n.links.length []) ((rowL (shT (List.replicate n.links.length (0:Int)) os a i) (gd os i).amt ((gd a i).l.take k)).flatMap encI) 3++((n3,Cl (encNn n) 26)::H)) (φ:=fun k=>k≤(gd a i).l.length∧∀ j,j<n.links.length→0≤gd (rowL (shT (List.replicate n.links.length (0:Int)) os a i) (gd os i).amt ((gd a i).l.take k)) j∧gd (rowL (shT (List.replicate n.links.length (0:Int)) os a i) (gd os i).amt ((gd a i).l.take k)) j≤16777216*(300000*i+3000*k)) (μ:=fun k=>(gd a i).l.length - k) (x0:=0) ?_ ⟨Aa U,Aa U,Aa U,Aa U,Aa U,Aa U,Aa U,Aa U,trivial⟩ ⟨qat,trivial⟩ sb0 ?_
  ·exact⟨Nat.zero_le _,fun j hj=>by have:=hs j hj;show 0≤gd (shT (List.replicate n.links.length (0:Int)) os a i) j∧gd (shT (List.replicate n.links.length (0:Int)) os a i) j≤_;omega⟩
  rintro k ⟨hk1,hk⟩;refine rD tb 6 U ?_;refine Ad (Aa U) (fun c28=> ?_) (fun c28=> ?_)
  ·have hlk:=hla.2 _ (Af (i:=k) qom);have hpr:=amt_mul ham.1 ham.2 hlk.1 hlk.2.1;refine rC tb 6 U (y_ (Ld U U runUnderlying79 sizeOf77 qom (by first|exact rfl|exact hA.a.b (i:=i) qom|exact(hA.m (gd a i) (Af qom)).a.b (i:=k) qom)) ?_ U);refine y_ (Lc U isAgg77 sizeOf77 U (by exact((hA.m (gd a i) (Af qom)).a.mono sbt).cs (i:=k) qom)) ?_ U;refine e_ (Ai zeroValue77 cs_) ?_ U;rintro _ _ ⟨n11,rfl,rfl⟩;refine Aw (Le U U sizeOf77) U Ac ?_;rintro _ _ ⟨rfl,rfl⟩;refine rO tb 5 U (y_ (Lb U isAgg27 qco) ?_ U);refine rO tb 5 U ?_;refine Ba (X:=Nat) (V:=fun m=>[(34, .int .i64 (m:Nat))]) (C:=[(1,_),(7,_),(8,_),(11,_),(18,_),(19,_),(20,_),(25,_),(26,_),(27,_),(32,_),(33,_)]) (G:=fun m=>(n11,Cl (encLm (gd (gd a i).l k)) 77)::(slH (Sl.blk n17 n.links.length []) ((laneL (rowL (shT (List.replicate n.links.length (0:Int)) os a i) (gd os i).amt ((gd a i).l.take k)) ((gd os i).amt*(gd (gd a i).l k).p) ((gd (gd a i).l k).l.take m)).flatMap encI) 3++((n3,Cl (encNn n) 26)::H))) (φ:=fun m=>m≤(gd (gd a i).l k).l.length∧∀ j,j<n.links.length→0≤gd (laneL (rowL (shT (List.replicate n.links.length (0:Int)) os a i) (gd os i).amt ((gd a i).l.take k)) ((gd os i).amt*(gd (gd a i).l k).p) ((gd (gd a i).l k).l.take m)) j∧gd (laneL (rowL (shT (List.replicate n.links.length (0:Int)) os a i) (gd os i).amt ((gd a i).l.take k)) ((gd os i).amt*(gd (gd a i).l k).p) ((gd (gd a i).l k).l.take m)) j≤16777216*(300000*i+3000*k+m)) (μ:=fun m=>(gd (gd a i).l k).l.length - m) (x0:=0) ?_ ⟨Aa U,Aa U,Aa U,Aa U,Aa U,Aa U,Aa U,Aa U,Aa U,Aa U,Aa U,Aa U,trivial⟩ ⟨qat,trivial⟩ sb0 ?_
   ·exact⟨Nat.zero_le _,fun j hj=>by have:=hk j hj;show 0≤gd (rowL (shT (List.replicate n.links.length (0:Int)) os a i) (gd os i).amt ((gd a i).l.take k)) j∧gd (rowL (shT (List.replicate n.links.length (0:Int)) os a i) (gd os i).amt ((gd a i).l.take k)) j≤_;omega⟩
   rintro m ⟨hm1,hm⟩;refine rD tb 6 U ?_;refine Ad (Aa U) (fun c35=> ?_) (fun c35=> ?_)
   ·have hx:=hlk.2.2.2 _ (Af (i:=m) qom);have hcur:=hm (gd (gd (gd a i).l k).l m).toNat qom;refine rC tb 6 U (y_ (Ld U U runUnderlying27 sizeOf3 qom (by first|exact rfl|exact hA.a.b (i:=i) qom|exact(hA.m (gd a i) (Af qom)).a.b (i:=k) qom|exact((hA.m _ (Af (i:=i) qom)).m _ (Af (i:=k) qom)).a.b (i:=m) qom)) ?_ U);refine y_ (Lb U isAgg3 (by first|exact c_o|exact cell1 ((((hA.m _ (Af (i:=i) qom)).m _ (Af (i:=k) qom)).a.mono sbt).cs (i:=m) qom))) ?_ U;refine rO tb 3 U (Bh 14 [(0,true),(1,true),(2,true),(3,true),(4,true),(5,true),(6,true),(7,true),(8,true),(9,true),(10,true),(11,true),(12,true),(13,true)] _ mixd qkr sb0 ?_ A8);refine rP tb 2 U (o_y U (Bi (T U) (T U) runUnderlying27 sizeOf3 qom (by exact rfl)) ?_ U Ac);refine o_y U (Lb U isAgg3 (by first|exact c_o|exact cell1 (((A1 (w0:=w0) (d:=(Sl.blk n17 n.links.length [])) (enc:=encI) (sz:=1) (e:=3) (l:=(laneL (rowL (shT (List.replicate n.links.length (0:Int)) os a i) (gd os i).amt ((gd a i).l.take k)) ((gd os i).amt*(gd (gd a i).l k).p) ((gd (gd a i).l k).l.take m))) (X:=H) (fun _=>rfl) (by rw[B9,Cp,B5,List.length_replicate];exact hd0)).mono sbt).cs (i:=(gd (gd (gd a i).l k).l m).toNat) (by rw[B9,Cp,B5,List.length_replicate];omega)))) ?_ U Ac;refine rP tb 2 U (o_y U (Ld U U runUnderlying30 sizeOf58 qom (by first|exact rfl|exact hA.a.b (i:=i) qom|exact(hA.m (gd a i) (Af qom)).a.b (i:=k) qom|exact((hA.m _ (Af (i:=i) qom)).m _ (Af (i:=k) qom)).a.b (i:=m) qom|exact hO.a.b (i:=i) qom)) ?_ U Ac);refine rP tb 1 U (o_y U (Lb U isAgg3 (by first|exact c_o|exact c_m (hO.a.f (i:=i) (j:=2) qom U))) ?_ U Ac);refine rP tb 1 U (o_y U (Lb U isAgg3 qco) ?_ U Ac);refine o_y U (H3 (T U) (T U) qom) ?_ U Ac;refine o_y U (Av (T U) (T U) qom) ?_ U Ac;refine o_y U (Bi (T U) (T U) runUnderlying27 sizeOf3 qom (by exact rfl)) ?_ U Ac;refine A7 U (e_ (B4 (d:=(Sl.blk n17 n.links.length [])) (l:=(laneL (rowL (shT (List.replicate n.links.length (0:Int)) os a i) (gd os i).amt ((gd a i).l.take k)) ((gd os i).amt*(gd (gd a i).l k).p) ((gd (gd a i).l k).l.take m))) (e:=3) (enc:=encI) (sz:=1) (i:=(gd (gd (gd a i).l k).l m).toNat) (gd (laneL (rowL (shT (List.replicate n.links.length (0:Int)) os a i) (gd os i).amt ((gd a i).l.take k)) ((gd os i).amt*(gd (gd a i).l k).p) ((gd (gd a i).l k).l.take m)) (gd (gd (gd a i).l k).l m).toNat+(gd os i).amt*(gd (gd a i).l k).p) (fun _=>rfl) qlc (T U) (T U) (.one U) U sizeOf3 (by rw[B9,Cp,B5,List.length_replicate];omega) (by rw[B9,Cp,B5,List.length_replicate];exact hd0)) ?_ U);rintro _ _ ⟨rfl,rfl⟩;refine kO tb 3 [1,7,8,11,18,19,20,25,26,27,32,33,34] rfl U (rG tb 1 U (y_ (Av (T U) Ap qom) ?_ U));refine rO tb 2 U ?_;refine Ar (m+1) ?_ ?_ ⟨qat,trivial⟩ ⟨Aa U,Aa U,Aa U,Aa U,Aa U,Aa U,Aa U,Aa U,Aa U,Aa U,Aa U,Aa U,trivial⟩ ?_
    ·refine⟨by omega,fun j hj=> ?_⟩;rw[Gm qom];have:=adL_le (B:=16777216*(300000*i+3000*k+m)) (N:=n.links.length) (by rw[B9,Cp,B5,List.length_replicate]) hx.1 hx.2 hpr hm j hj;omega
    ·omega
    ·show (_::(slH (Sl.blk n17 n.links.length []) ((laneL (rowL (shT (List.replicate n.links.length (0:Int)) os a i) (gd os i).amt ((gd a i).l.take k)) ((gd os i).amt*(gd (gd a i).l k).p) ((gd (gd a i).l k).l.take (m+1))).flatMap encI) 3++_)).Sublist _;rw[Gm qom];exact sbt
   ·have hmn:m=(gd (gd a i).l k).l.length:=by omega
    subst hmn;rw[List.take_length] at hm;refine rC tb 2 U (Ag (rX tb 4 U (y_ (Av (T U) Ap qom) ?_ U)));refine rO tb 2 U ?_;refine Ar (k+1) ?_ ?_ ⟨qat,trivial⟩ ⟨Aa U,Aa U,Aa U,Aa U,Aa U,Aa U,Aa U,Aa U,trivial⟩ ?_
    ·refine⟨by omega,fun j hj=> ?_⟩;rw[Hr qom];have:=hm j hj;omega
    ·omega
    ·show (slH (Sl.blk n17 n.links.length []) ((rowL (shT (List.replicate n.links.length (0:Int)) os a i) (gd os i).amt ((gd a i).l.take (k+1))).flatMap encI) 3++_).Sublist _;rw[Hr qom,List.take_length];exact sbt
  ·have hkn:k=(gd a i).l.length:=by omega
   subst hkn;rw[List.take_length] at hk;refine rC tb 2 U (Ag (rX tb 4 U (y_ (Av (T U) Ap qom) ?_ U)));refine rO tb 2 U ?_;refine Ar (i+1) ?_ ?_ ⟨qat,trivial⟩ ⟨Aa U,Aa U,Aa U,Aa U,trivial⟩ ?_
   ·refine⟨by omega,fun j hj=> ?_⟩;have:=hk j hj;rw[shT];omega
   ·omega
   ·show (slH (Sl.blk n17 n.links.length []) ((rowL (shT (List.replicate n.links.length (0:Int)) os a i) (gd os i).amt (gd a i).l).flatMap encI) 3++_).Sublist _;rw[List.take_length];exact sbt
 ·refine rC tb 2 U (Ag (rX tb 9 U (Ah U (K9 U) ?_)));have hin:i=a.length:=by omega
  subst hin;exact⟨_,⟨(Sl.blk n17 n.links.length []),⟨rfl,hd0⟩,rfl⟩,sbt⟩
theorem cells_app3 {w0:World}{H:List (Nat × Obj)}{b o:Nat}{l1 l2:List Value}(h3:l1.length=3)(h:Cells w0 H b o (l1++l2)):Cells w0 H b (o+3) l2:=fun i v hi=>by
 have:=h (3+i) v (by rw[List.getElem?_append_right qom,h3,show 3+i - 3=i by omega];exact hi)
 rwa [← Nat.add_assoc] at this
structure FewS (most:Int) (os:List Om) (a:List Lr):Prop where
 o:(os.length:Int)≤most
 s:(a.length:Int)≤most
 e:∀ i,i<os.length→∃ x,Is (gd os i).m x∧(gd os i).m.sz≤40∧x.Nm∧(gd os i).m.dp≤20
 r:∀ i,i<a.length→(gd a i).l.length≤16∧∀ k,k<(gd a i).l.length→(gd (gd a i).l k).l.length≤30
theorem fews_s {w0:World}{H:List (Nat × Obj)}(os:List Om)(qo:Option Addr)(co:Nat)(hO:OsM w0 H qo os)(hoz:∀ o∈os,o.m.sz≤1048576)(most:Int)(a:List Lr)(q1:Option Addr)(c1:Nat)(hA:ShM w0 H q1 a):
  FSpec Tryz.prog w0 12 #[.slice qo os.length co, .int .i64 most, .slice q1 a.length c1] H (fun v H'=>(∃ t:Bool,v= .bool t∧(t=true→FewS most os a))∧H'=H):=by
 refine Ao Tryz.func12 U ntmps12 U ?_;have hna0:=hA.n;have hno:=hO.n;refine rD tb 13 U ?_;refine A4 (s:=15) (Aa U) (fun c15=> ?_) (fun c15=> ?_)
 ·refine rO tb 15 U (Ah U (K9 U) ?_);exact⟨_,⟨⟨false,rfl,fun h=>(by cases h)⟩,rfl⟩,sbt⟩
 ·refine rO tb 7 U ?_;refine Ad (Aa U) (fun c20=> ?_) (fun c20=> ?_)
  ·refine rC tb 7 U (Ah U (K9 U) ?_);exact⟨_,⟨⟨false,rfl,fun h=>(by cases h)⟩,rfl⟩,sbt⟩
  ·refine rC tb 9 U ?_;refine Bd (X:=Nat) (V:=fun i=>[(7, .int .i64 (i:Nat))]) (C:=[(0,_),(2,_)]) (φ:=fun i=>i≤os.length∧∀ j,j<i→∃ x,Is (gd os j).m x∧(gd os j).m.sz≤40∧x.Nm∧(gd os j).m.dp≤20) (μ:=fun i=>os.length - i) (x0:=0) ?_ ⟨Aa U,Aa U,trivial⟩ ⟨qat,trivial⟩ ?_
   ·exact⟨Nat.zero_le _,fun j hj=>by omega⟩
   rintro i ⟨hi,he⟩;refine rD tb 9 U ?_;refine Ad (Aa U) (fun c24=> ?_) (fun c24=> ?_)
   ·refine rC tb 8 U (y_ (Ld U U runUnderlying30 sizeOf58 qom (by first|exact rfl|exact hO.a.b (i:=i) qom)) ?_ U);refine rO tb 1 U (y_ (Lc U isAgg56 sizeOf56 U (by exact cells_app3 (l1:=[.int .i64 (gd os i).x, .int .i64 (gd os i).y, .int .i64 (gd os i).amt]) U ((hO.a.mono sbt).cs (i:=i) qom))) ?_ U);refine e_ (Ak (qe1 U) call40 (few_s (gd os i).m ((hO.m _ (Af qom)).mono sbt) (hoz _ (Af qom)))) ?_ U;rintro _ _ ⟨⟨tf,rfl,hfew⟩,rfl⟩;refine rO tb 6 U ?_
    first|refine A5 (A9 (T U)) U Ac ?_|refine A5 (B0 (T U)) U Ac ?_
    refine rO tb 2 U ?_
    first|refine Ad (Aa U) (fun c34=> ?_) (fun c34=> ?_)|refine Bq (Aa U) (fun c34=> ?_) (fun c34=> ?_)
    ·refine rC tb 8 U (As (rX tb 2 U (Ah U (K9 U) ?_)));exact⟨_,⟨⟨false,rfl,fun h=>(by cases h)⟩,rfl⟩,sbt⟩
    ·refine rC tb 5 U (y_ (Av (T U) Ap qom) ?_ U);refine rO tb 2 U ?_;refine Ar (i+1) ?_ ?_ ⟨qat,trivial⟩ ⟨Aa U,Aa U,trivial⟩ ?_
     ·refine⟨by omega,fun j hj=> ?_⟩
      by_cases ej:j=i
      ·subst ej;exact hfew (by simpa using c34)
      ·exact he j qom
     ·omega
     ·exact sbt
   ·refine rC tb 2 U (Ag (rX tb 9 U ?_));refine Bd (X:=Nat) (V:=fun i=>[(9, .int .i64 (i:Nat))]) (C:=[(2,_)]) (φ:=fun i=>i≤a.length∧∀ j,j<i→(gd a j).l.length≤16∧∀ k,k<(gd a j).l.length→(gd (gd a j).l k).l.length≤30) (μ:=fun i=>a.length - i) (x0:=0) ?_ ⟨Aa U,trivial⟩ ⟨qat,trivial⟩ ?_
    ·exact⟨Nat.zero_le _,fun j hj=>by omega⟩
    rintro i ⟨hi2,hr⟩;refine rD tb 9 U ?_;refine Ad (Aa U) (fun c38=> ?_) (fun c38=> ?_)
    ·have hna:=(hA.m _ (Af (i:=i) qom)).n;refine rC tb 9 U (y_ (Ld U U runUnderlying31 sizeOf79 qom (by first|exact rfl|exact hO.a.b (i:=i) qom|exact hA.a.b (i:=i) qom)) ?_ U);refine y_ (Lb U isAgg79 (by first|exact c_o|exact cell1 ((hA.a.mono sbt).cs (i:=i) qom))) ?_ U;refine rO tb 4 U ?_;refine Ad (Aa U) (fun c46=> ?_) (fun c46=> ?_)
     ·refine rC tb 9 U (As (rX tb 2 U (Ah U (K9 U) ?_)));exact⟨_,⟨⟨false,rfl,fun h=>(by cases h)⟩,rfl⟩,sbt⟩
     ·refine rC tb 8 U ?_;refine Bd (X:=Nat) (V:=fun k=>[(10, .int .i64 (k:Nat))]) (C:=[(2,_),(9,_)]) (φ:=fun k=>k≤(gd a i).l.length∧∀ j,j<k→(gd (gd a i).l j).l.length≤30) (μ:=fun k=>(gd a i).l.length - k) (x0:=0) ?_ ⟨Aa U,Aa U,trivial⟩ ⟨qat,trivial⟩ ?_
      ·exact⟨Nat.zero_le _,fun j hj=>by omega⟩
      rintro k ⟨hk1,hk⟩;refine rD tb 6 U (y_ (Ld U U runUnderlying31 sizeOf79 qom (by first|exact rfl|exact hO.a.b (i:=i) qom|exact hA.a.b (i:=i) qom)) ?_ U);refine y_ (Lb U isAgg79 (by first|exact c_o|exact cell1 ((hA.a.mono sbt).cs (i:=i) qom))) ?_ U;refine rO tb 4 U ?_;refine Ad (Aa U) (fun c53=> ?_) (fun c53=> ?_)
      ·refine rC tb 8 U (y_ (Ld U U runUnderlying31 sizeOf79 qom (by first|exact rfl|exact hO.a.b (i:=i) qom|exact hA.a.b (i:=i) qom)) ?_ U);refine y_ (Lb U isAgg79 (by first|exact c_o|exact cell1 ((hA.a.mono sbt).cs (i:=i) qom))) ?_ U;refine rO tb 1 U (y_ (Ld U U runUnderlying79 sizeOf77 qom (by first|exact rfl|exact hO.a.b (i:=i) qom|exact hA.a.b (i:=i) qom|exact(hA.m (gd a i) (Af qom)).a.b (i:=k) qom)) ?_ U);refine rO tb 1 U (y_ (Lb U isAgg27 (by first|exact c_o|exact c_m ((hA.m (gd a i) (Af qom)).a.f0 (i:=k) qom U))) ?_ U);refine rO tb 4 U ?_;refine Ad (Aa U) (fun c65=> ?_) (fun c65=> ?_)
       ·refine rC tb 8 U (As (rX tb 3 U (As (rX tb 2 U (Ah U (K9 U) ?_)))));exact⟨_,⟨⟨false,rfl,fun h=>(by cases h)⟩,rfl⟩,sbt⟩
       ·refine rC tb 5 U (y_ (Av (T U) Ap qom) ?_ U);refine rO tb 2 U ?_;refine Ar (k+1) ?_ ?_ ⟨qat,trivial⟩ ⟨Aa U,Aa U,trivial⟩ ?_
        ·refine⟨by omega,fun j hj=> ?_⟩
         by_cases ej:j=k
         ·subst ej;omega
         ·exact hk j qom
        ·omega
        ·exact sbt
      ·refine rC tb 2 U (Ag (rX tb 5 U (y_ (Av (T U) Ap qom) ?_ U)));refine rO tb 2 U ?_;refine Ar (i+1) ?_ ?_ ⟨qat,trivial⟩ ⟨Aa U,trivial⟩ ?_
       ·refine⟨by omega,fun j hj=> ?_⟩
        by_cases ej:j=i
        ·subst ej;exact⟨by omega,fun k2 hk2=>hk k2 qom⟩
        ·exact hr j qom
       ·omega
       ·exact sbt
    ·refine rC tb 2 U (Ag (rX tb 8 U (Ah U (K9 U) ?_)));exact⟨_,⟨⟨true,rfl,fun _=>⟨by omega,by omega,fun j hj=>he j qom,fun j hj=>hr j qom⟩⟩,rfl⟩,sbt⟩
end Go.Proofs.YtpkijiejccngcaaGreatDoor
