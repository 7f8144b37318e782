/-
  A part of what LawF rests on: the logic, walks and plain laws. No condition.
-/
import Derived.Test.YtkojjapnfdlddaaGreatJf3
import Derived.KernelRfl
namespace Go.Proofs.YtkojjapnfdlddaaGreat
open _root_.Go.Proofs.Tryz
open Go.RowKit
set_option linter.unusedVariables false
set_option linter.unusedSimpArgs false
set_option linter.unusedSectionVars false
set_option maxRecDepth 100000
theorem zbs64_49_0_1_2_3_4_5_6_7_8_9_10_11_12_13_14_15_16_17_18_19_20_21_22_23_24_25_26_27_28_29_30_31_32_33_34_35_36_37_38_39_40_41_42_43_44_45_46_47_48 (a0:ByteArray)(a1:ByteArray)(a2:ByteArray)(a3:ByteArray)(a4:ByteArray)(a5:ByteArray)(a6:ByteArray)(a7:ByteArray)(a8:ByteArray)(a9:ByteArray)(a10:ByteArray)(a11:ByteArray)(a12:ByteArray)(a13:ByteArray)(a14:ByteArray)(a15:ByteArray)(a16:ByteArray)(a17:ByteArray)(a18:ByteArray)(a19:ByteArray)(a20:ByteArray)(a21:ByteArray)(a22:ByteArray)(a23:ByteArray)(a24:ByteArray)(a25:ByteArray)(a26:ByteArray)(a27:ByteArray)(a28:ByteArray)(a29:ByteArray)(a30:ByteArray)(a31:ByteArray)(a32:ByteArray)(a33:ByteArray)(a34:ByteArray)(a35:ByteArray)(a36:ByteArray)(a37:ByteArray)(a38:ByteArray)(a39:ByteArray)(a40:ByteArray)(a41:ByteArray)(a42:ByteArray)(a43:ByteArray)(a44:ByteArray)(a45:ByteArray)(a46:ByteArray)(a47:ByteArray)(a48:ByteArray)(w:World):(Instr.buildSlice 64 49 #[(0, .string a0),(1, .string a1),(2, .string a2),(3, .string a3),(4, .string a4),(5, .string a5),(6, .string a6),(7, .string a7),(8, .string a8),(9, .string a9),(10, .string a10),(11, .string a11),(12, .string a12),(13, .string a13),(14, .string a14),(15, .string a15),(16, .string a16),(17, .string a17),(18, .string a18),(19, .string a19),(20, .string a20),(21, .string a21),(22, .string a22),(23, .string a23),(24, .string a24),(25, .string a25),(26, .string a26),(27, .string a27),(28, .string a28),(29, .string a29),(30, .string a30),(31, .string a31),(32, .string a32),(33, .string a33),(34, .string a34),(35, .string a35),(36, .string a36),(37, .string a37),(38, .string a38),(39, .string a39),(40, .string a40),(41, .string a41),(42, .string a42),(43, .string a43),(44, .string a44),(45, .string a45),(46, .string a46),(47, .string a47),(48, .string a48)]).run Tryz.prog w= .ok (.slice (some ⟨w.heap.size,0,none⟩) 49 49) (w.alloc (Cl [.string a0, .string a1, .string a2, .string a3, .string a4, .string a5, .string a6, .string a7, .string a8, .string a9, .string a10, .string a11, .string a12, .string a13, .string a14, .string a15, .string a16, .string a17, .string a18, .string a19, .string a20, .string a21, .string a22, .string a23, .string a24, .string a25, .string a26, .string a27, .string a28, .string a29, .string a30, .string a31, .string a32, .string a33, .string a34, .string a35, .string a36, .string a37, .string a38, .string a39, .string a40, .string a41, .string a42, .string a43, .string a44, .string a45, .string a46, .string a47, .string a48] 9)):=by kernel_rfl
abbrev SomB (H:List (Nat × Obj)):Value→List (Nat × Obj)→Prop:=fun u H'=>∃ b:Bool,u= .bool b∧H'=H
theorem letter_s {w0:World}{H:List (Nat × Obj)}(c:Int):
  FSpec Tryz.prog w0 181 #[.int .u8 c] H (SomB H):=by
 refine An Tryz.func181 U ntmps181 U (rD tb 10 U ?_)
 first|refine Am (s:=5) (Aa U) (fun c5=> ?_) (fun c5=> ?_)|refine A1 (s:=5) (Aa U) (fun c5=> ?_) (fun c5=> ?_)
 ·refine rO tb 7 U (Ai U (Kq U) ?_);exact⟨_,⟨_,rfl,rfl⟩,sbt⟩
 ·refine rO tb 7 U (Ai U (Kq U) ?_);exact⟨_,⟨_,rfl,rfl⟩,sbt⟩
theorem digit_s {w0:World}{H:List (Nat × Obj)}(c:Int):
  FSpec Tryz.prog w0 186 #[.int .u8 c] H (SomB H):=by
 refine An Tryz.func186 U ntmps186 U (rD tb 10 U ?_)
 first|refine Am (s:=5) (Aa U) (fun c5=> ?_) (fun c5=> ?_)|refine A1 (s:=5) (Aa U) (fun c5=> ?_) (fun c5=> ?_)
 ·refine rO tb 7 U (Ai U (Kq U) ?_);exact⟨_,⟨_,rfl,rfl⟩,sbt⟩
 ·refine rO tb 7 U (Ai U (Kq U) ?_);exact⟨_,⟨_,rfl,rfl⟩,sbt⟩
theorem wordByte_s {w0:World}{H:List (Nat × Obj)}(c:Int):
  FSpec Tryz.prog w0 185 #[.int .u8 c] H (SomB H):=by
 refine An Tryz.func185 U ntmps185 U (rD tb 8 U (e_ (Ar (qe1 U) call181 (letter_s c)) ?_ U));rintro _ _ ⟨b1,rfl,rfl⟩;refine rO tb 6 U (e_ (Ar (qe1 U) call186 (digit_s c)) ?_ U);rintro _ _ ⟨b2,rfl,rfl⟩;refine rO tb 7 U ?_
 first|refine Am (s:=10) (Aa U) (fun c10=> ?_) (fun c10=> ?_)|refine A1 (s:=10) (Aa U) (fun c10=> ?_) (fun c10=> ?_)
 ·refine rO tb 10 U (Ai U (Kq U) ?_);exact⟨_,⟨_,rfl,rfl⟩,sbt⟩
 ·refine rO tb 3 U ?_
  first|refine Am (s:=13) (Aa U) (fun c13=> ?_) (fun c13=> ?_)|refine A1 (s:=13) (Aa U) (fun c13=> ?_) (fun c13=> ?_)
  ·refine rO tb 7 U (Ai U (Kq U) ?_);exact⟨_,⟨_,rfl,rfl⟩,sbt⟩
  ·refine rO tb 7 U (Ai U (Kq U) ?_);exact⟨_,⟨_,rfl,rfl⟩,sbt⟩
theorem run_s {w0:World}{H:List (Nat × Obj)}(s:ByteArray)(hs9:s.size≤9223372036854775807):
  FSpec Tryz.prog w0 183 #[.string s] H (fun u H'=>∃ n:Int,u= .int .i64 n∧H'=H):=by
 refine An Tryz.func183 U ntmps183 U (rD tb 12 U ?_);refine A9 (X:=Nat) (V:=fun i=>[(3, .int .i64 (i:Nat))]) (C:=[(0,_)]) (G:=fun i=>H) (φ:=fun i=>i≤s.size) (μ:=fun i=>s.size - i) (x0:=0) ?_ ⟨Aa U,trivial⟩ ⟨atd,trivial⟩ sb0 ?_
 ·exact Nat.zero_le _
 rintro i hi;refine rD tb 5 U (y_ (Eb (T U) runUnderlying9) (rO tb 3 U ?_) U)
 first|refine Ac (Aa U) (fun c8=> ?_) (fun c8=> ?_)|refine Ag (Aa U) (fun c8=> ?_) (fun c8=> ?_)
 ·refine rC tb 7 U (y_ (Ei (T U) (T U) runUnderlying9 (by have h9:((i:Nat):Int)<(s.size:Nat):=c8;omega)) ?_ U);refine e_ (Ar (qe1 U) call185 (wordByte_s _)) ?_ U;rintro _ _ ⟨b1,rfl,rfl⟩;refine rO tb 7 U ?_
  first|refine Az (Bq (T U)) U Ae ?_|refine Az (B2 (T U)) U Ae ?_
  refine rO tb 2 U ?_
  first|refine Ac (Aa U) (fun c14=> ?_) (fun c14=> ?_)|refine Ag (Aa U) (fun c14=> ?_) (fun c14=> ?_)
  ·refine rC tb 3 U (Ao (rX tb 9 U (Ai U (Kq U) ?_)));exact⟨_,⟨_,rfl,rfl⟩,sbt⟩
  ·refine rC tb 4 U (y_ (A4 (T U) Aj (by have h9:((i:Nat):Int)<(s.size:Nat):=c8;omega)) ?_ U);refine rO tb 3 U ?_;refine A0 (i+1) ?_ ?_ ⟨atd,trivial⟩ ⟨Aa U,trivial⟩ ?_
   ·have h9:((i:Nat):Int)<(s.size:Nat):=c8;omega
   ·have h9:((i:Nat):Int)<(s.size:Nat):=c8;omega
   ·exact sbt
 ·refine rC tb 2 U (Ao (rX tb 9 U (Ai U (Kq U) ?_)));exact⟨_,⟨_,rfl,rfl⟩,sbt⟩
def wordsL:List ByteArray:=[⟨#[97,110,100]⟩,⟨#[97,110,121]⟩,⟨#[97,116]⟩,⟨#[98,97,99,107]⟩,⟨#[98,111,120]⟩,⟨#[98,117,114,115,116]⟩,⟨#[98,121]⟩,⟨#[99,97,112,97,99,105,116,121]⟩,⟨#[99,101,105,108,105,110,103]⟩,⟨#[99,104,101,99,107]⟩,⟨#[99,111,110,116,114,97,99,116]⟩,⟨#[99,111,117,110,116]⟩,⟨#[100,101,109,97,110,100]⟩,⟨#[100,114,111,112]⟩,⟨#[101,97,99,104]⟩,⟨#[101,100,103,101]⟩,⟨#[101,110,116,114,105,101,115]⟩,⟨#[102,97,108,115,101]⟩,⟨#[102,105,101,108,100]⟩,⟨#[102,108,111,111,114]⟩,⟨#[102,114,111,109]⟩,⟨#[105,100]⟩,⟨#[105,110]⟩,⟨#[105,110,110,101,114]⟩,⟨#[105,110,116,111]⟩,⟨#[108,105,110,107]⟩,⟨#[110,101,116,119,111,114,107]⟩,⟨#[110,111,100,101]⟩,⟨#[110,111,116]⟩,⟨#[111,112,101,110]⟩,⟨#[111,114]⟩,⟨#[112,97,116,104]⟩,⟨#[112,111,114,116]⟩,⟨#[112,114,105,99,101]⟩,⟨#[114,111,117,116,101]⟩,⟨#[114,117,108,101,115]⟩,⟨#[115,116,97,103,101]⟩,⟨#[116,97,107,101]⟩,⟨#[116,101,110,97,110,116]⟩,⟨#[116,104,101,110]⟩,⟨#[116,105,109,101]⟩,⟨#[116,111]⟩,⟨#[116,111,107,101,110]⟩,⟨#[116,114,97,110,115,108,97,116,101]⟩,⟨#[116,114,117,101]⟩,⟨#[118,105,97]⟩,⟨#[119,105,100,116,104]⟩,⟨#[119,105,114,101]⟩,⟨#[119,105,116,104,105,110]⟩]
abbrev wordsV:List Value:=wordsL.map Value.string
theorem words_s {w0:World}{H:List (Nat × Obj)}  :
  FSpec Tryz.prog w0 184 #[] H (fun u H'=>∃ n:Nat,u= .slice (some ⟨n,0,none⟩) 49 49∧H'=(n,Cl wordsV 9)::H):=by
 refine An Tryz.func184 U ntmps184 U (rD tb 7 U (e_ (Bh (.cons Aj (.cons Aj (.cons Aj (.cons Aj (.cons Aj (.cons Aj (.cons Aj (.cons Aj (.cons Aj (.cons Aj (.cons Aj (.cons Aj (.cons Aj (.cons Aj (.cons Aj (.cons Aj (.cons Aj (.cons Aj (.cons Aj (.cons Aj (.cons Aj (.cons Aj (.cons Aj (.cons Aj (.cons Aj (.cons Aj (.cons Aj (.cons Aj (.cons Aj (.cons Aj (.cons Aj (.cons Aj (.cons Aj (.cons Aj (.cons Aj (.cons Aj (.cons Aj (.cons Aj (.cons Aj (.cons Aj (.cons Aj (.cons Aj (.cons Aj (.cons Aj (.cons Aj (.cons Aj (.cons Aj (.cons Aj (.cons Aj .nil))))))))))))))))))))))))))))))))))))))))))))))))) (zbs64_49_0_1_2_3_4_5_6_7_8_9_10_11_12_13_14_15_16_17_18_19_20_21_22_23_24_25_26_27_28_29_30_31_32_33_34_35_36_37_38_39_40_41_42_43_44_45_46_47_48 _ _ _ _ _ _ _ _ _ _ _ _ _ _ _ _ _ _ _ _ _ _ _ _ _ _ _ _ _ _ _ _ _ _ _ _ _ _ _ _ _ _ _ _ _ _ _ _ _)) ?_ U));rintro _ _ ⟨n1,rfl,rfl⟩;refine rO tb 4 U (Ai U (Kq U) ?_);exact⟨_,⟨_,rfl,rfl⟩,sbt⟩
theorem words_cell {w0:World}{H:List (Nat × Obj)}{n i:Nat}(hf:Fnd H n (Cl wordsV 9))(hi:i<49):Cell w0 H ⟨n,0+((i:Nat):Int).toNat*1,none⟩ (.string (gd wordsL i)):=by
 have hl:i<wordsL.length:=hi;have:=Ah (w0:=w0) hf i (.string (gd wordsL i)) (by rw[List.getElem?_map,List.getElem?_eq_getElem hl,Ay hl];rfl)
 rwa [show 0+((i:Nat):Int).toNat*1=0+i by omega]
theorem isWord_s {w0:World}{H:List (Nat × Obj)}(s:ByteArray):
  FSpec Tryz.prog w0 182 #[.string s] H (SomB H):=by
 refine An Tryz.func182 U ntmps182 U (rD tb 7 U (e_ (Ar .nil call184 (words_s)) ?_ U));rintro _ _ ⟨nw,rfl,rfl⟩;refine rO tb 10 U ?_;refine A9 (X:=Nat) (V:=fun i=>[(4, .int .i64 (i:Nat))]) (C:=[(0,_),(3,_)]) (G:=fun i=>(nw,Cl wordsV 9)::H) (φ:=fun i=>i≤49) (μ:=fun i=>49 - i) (x0:=0) ?_ ⟨Aa U,Aa U,trivial⟩ ⟨atd,trivial⟩ sb0 ?_
 ·exact Nat.zero_le _
 rintro i hi;refine rD tb 9 U ?_
 first|refine Ac (Aa U) (fun c9=> ?_) (fun c9=> ?_)|refine Ag (Aa U) (fun c9=> ?_) (fun c9=> ?_)
 ·refine rC tb 8 U (y_ (Ku U U runUnderlying64 sizeOf9 (by have h9:((i:Nat):Int)<49:=c9;omega) (by first|exact rfl)) ?_ U);refine y_ (Kr U isAgg9 (by first|exact c_o|exact words_cell fdd (by have h9:((i:Nat):Int)<49:=c9;omega))) ?_ U;refine rO tb 1 U (y_ (yl_eqS (T U) (T U)) (rO tb 2 U ?_) U)
  first|refine Ac (Aa U) (fun c17=> ?_) (fun c17=> ?_)|refine Ag (Aa U) (fun c17=> ?_) (fun c17=> ?_)
  ·refine rC tb 8 U (Ba (rX tb 2 U (Ai U (Kq U) ?_)));exact⟨_,⟨_,rfl,rfl⟩,sbt⟩
  ·refine rC tb 5 U (y_ (A4 (T U) Aj (by have h9:((i:Nat):Int)<49:=c9;omega)) ?_ U);refine rO tb 2 U ?_;refine A0 (i+1) ?_ ?_ ⟨atd,trivial⟩ ⟨Aa U,Aa U,trivial⟩ ?_
   ·have h9:((i:Nat):Int)<49:=c9;omega
   ·have h9:((i:Nat):Int)<49:=c9;omega
   ·exact sbt
 ·refine rC tb 2 U (Ao (rX tb 8 U (Ai U (Kq U) ?_)));exact⟨_,⟨_,rfl,rfl⟩,sbt⟩
theorem name_s {w0:World}{H:List (Nat × Obj)}(s:ByteArray)(hs9:s.size≤9223372036854775807):
  FSpec Tryz.prog w0 179 #[.string s] H (SomB H):=by
 refine An Tryz.func179 U ntmps179 U (rD tb 9 U (y_ (Eb (T U) runUnderlying9) (rO tb 2 U ?_) U))
 first|refine Am (s:=8) (Aa U) (fun c8=> ?_) (fun c8=> ?_)|refine A1 (s:=8) (Aa U) (fun c8=> ?_) (fun c8=> ?_)
 ·refine rO tb 14 U (Ai U (Kq U) ?_);exact⟨_,⟨_,rfl,rfl⟩,sbt⟩
 ·have h0:0<s.size:=by have h9: ¬ (s.size:Int)=0:=c8;omega
  refine rO tb 1 U (Az (Eb (T U) runUnderlying9) U (A3 U U (Aa U)) (rO tb 4 U ?_))
  first|refine Ac (Aa U) (fun c12=> ?_) (fun c12=> ?_)|refine Ag (Aa U) (fun c12=> ?_) (fun c12=> ?_)
  ·refine rC tb 7 U (Ai U (Kq U) ?_);exact⟨_,⟨_,rfl,rfl⟩,sbt⟩
  ·refine rC tb 5 U (y_ (Ei (T U) Aj runUnderlying9 qom) ?_ U);refine e_ (Ar (qe1 U) call181 (letter_s _)) ?_ U;rintro _ _ ⟨b1,rfl,rfl⟩;refine rO tb 6 U (e_ (Ar (qe1 U) call182 (isWord_s s)) ?_ U);rintro _ _ ⟨b2,rfl,rfl⟩;refine rO tb 7 U ?_
   first|refine Am (s:=19) (Aa U) (fun c19=> ?_) (fun c19=> ?_)|refine A1 (s:=19) (Aa U) (fun c19=> ?_) (fun c19=> ?_)
   ·refine rO tb 1 U (A6 (Ar (qe1 U) call183 (run_s s hs9)) U (A3 U U (Aa U)) ?_);rintro _ _ ⟨nr,rfl,rfl⟩;refine rO tb 1 U (Az (Eb (T U) runUnderlying9) U (A3 U U (Aa U)) (rO tb 3 U ?_))
    first|refine Am (s:=26) (Aa U) (fun c26=> ?_) (fun c26=> ?_)|refine A1 (s:=26) (Aa U) (fun c26=> ?_) (fun c26=> ?_)
    ·refine rO tb 1 U ?_
     first|refine Az (Bq (T U)) U (A3 U U (Aa U)) ?_|refine Az (B2 (T U)) U (A3 U U (Aa U)) ?_
     refine rO tb 5 U (Ai U (Kq U) ?_);exact⟨_,⟨_,rfl,rfl⟩,sbt⟩
    ·refine rO tb 7 U (Ai U (Kq U) ?_);exact⟨_,⟨_,rfl,rfl⟩,sbt⟩
   ·refine rO tb 14 U (Ai U (Kq U) ?_);exact⟨_,⟨_,rfl,rfl⟩,sbt⟩
theorem plain_s {w0:World}{H:List (Nat × Obj)}(s:ByteArray)(hs9:s.size≤9223372036854775807):
  FSpec Tryz.prog w0 174 #[.string s] H (SomB H):=by
 refine An Tryz.func174 U ntmps174 U (rD tb 8 U (e_ (Ar (qe1 U) call179 (name_s s hs9)) ?_ U));rintro _ _ ⟨b1,rfl,rfl⟩;refine rO tb 4 U (Ai U (Kq U) ?_);exact⟨_,⟨_,rfl,rfl⟩,sbt⟩
theorem named_s {w0:World}{H:List (Nat × Obj)}(s:ByteArray)(hs9:s.size≤9223372036854775807):
  FSpec Tryz.prog w0 157 #[.string s] H (SomB H):=by
 refine An Tryz.func157 U ntmps157 U (rD tb 8 U (e_ (Ar (qe1 U) call174 (plain_s s hs9)) ?_ U));rintro _ _ ⟨b1,rfl,rfl⟩;refine rO tb 7 U ?_
 first|refine Am (s:=7) (Aa U) (fun c7=> ?_) (fun c7=> ?_)|refine A1 (s:=7) (Aa U) (fun c7=> ?_) (fun c7=> ?_)
 ·refine rO tb 7 U (Ai U (Kq U) ?_);exact⟨_,⟨_,rfl,rfl⟩,sbt⟩
 ·refine rO tb 1 U (Az (yl_eqS (T U) Aj) U (A3 U U (Aa U)) (rO tb 5 U (Ai U (Kq U) ?_)));exact⟨_,⟨_,rfl,rfl⟩,sbt⟩
theorem zbd84_0_1 (a0:Int)(a1:Int)(w:World):(Instr.build 84 #[(0, .int .i64 a0),(1, .int .i64 a1)]).run Tryz.prog w= .ok (.agg #[.int .i64 a0, .int .i64 a1]) w:=by kernel_rfl
theorem J0 {w0:World}{H:List (Nat × Obj)}{n:Nat}{t:TypeId}{m:Pom}(h:Fnd H n (Cl (encPo m) t)):Cells w0 H n (0+1) (encPd m.pr):=po_pr (.int .i64 m.kind) m.pr [.string m.nm, .int .i64 m.n, .slice m.q m.subs.length m.cap] h
abbrev szV (a:Nat) (d:Int):Value:= .agg #[.int .i64 (a:Nat), .int .i64 d]
abbrev SzK (n b:Nat) (H:List (Nat × Obj)):Value→List (Nat × Obj)→Prop:=fun u H'=>∃ d:Int,(u=szV n d∧0≤d∧d≤b)∧H'=H
abbrev IntK (b:Nat) (H:List (Nat × Obj)):Value→List (Nat × Obj)→Prop:=fun u H'=>∃ n:Int,(u= .int .i64 n∧0≤n∧n≤b)∧H'=H
def SzPS (w0:World) (N:Nat):Prop:=∀ {H:List (Nat × Obj)} {m:Pdm},PdM w0 H m→m.sz≤N→FSpec Tryz.prog w0 81 #[.agg (encPd m).toArray] H (SzK m.sz m.sz H)
def SzOS (w0:World) (N:Nat):Prop:=∀ {H:List (Nat × Obj)} {m:Pom},PoM w0 H m→m.sz≤N→FSpec Tryz.prog w0 41 #[.agg (encPo m).toArray] H (SzK m.nd m.sz H)
def StS (w0:World) (N:Nat):Prop:=∀ {H:List (Nat × Obj)} {m:Pom},PoM w0 H m→m.sz≤N→FSpec Tryz.prog w0 42 #[.agg (encPo m).toArray] H (IntK m.sz H)
def PuS (w0:World) (N:Nat):Prop:=∀ {H:List (Nat × Obj)} {m:Pom},PoM w0 H m→m.sz≤N→FSpec Tryz.prog w0 83 #[.agg (encPo m).toArray] H (IntK m.sz H)
theorem yl_addL {P:Program}{w0:World}{L:Fm}{H:List (Nat × Obj)}{ty xt yt:TypeId}{x y:Operand}{a c:Nat}(hx:Ev L x (.int .i64 (a:Nat)))(hy:Ev L y (.int .i64 (c:Nat)))(h:a+c≤4000000000):Yl P w0 (.binOp .add xt x y yt) ty L H (.int .i64 ((a+c:Nat):Int)):=by
 have h:=A4 (P:=P) (w0:=w0) (H:=H) (ty:=ty) (xt:=xt) (yt:=yt) hx hy qom
 rwa [show (a:Int)+c=((a+c:Nat):Int) by omega] at h
theorem more_s {w0:World}{H:List (Nat × Obj)}(a c:Nat)(b d:Int)(h:a+c≤4000000000∧0≤b∧b≤4000000000∧0≤d∧d≤4000000000):
  FSpec Tryz.prog w0 82 #[szV a b,szV c d] H (Still (szV (a+c) (max b (d+1))) H):=by
 refine An Tryz.func82 U ntmps82 U (rD tb 2 U (e_ (Kw U cs_) ?_ U));rintro _ _ ⟨n2,rfl,rfl⟩;refine e_ (Kw U cs_) ?_ U;rintro _ _ ⟨n3,rfl,rfl⟩;refine e_ (Al zeroValue84 cs_) ?_ U;rintro _ _ ⟨n4,rfl,rfl⟩;refine rO tb 5 U (y_ (Kr U isAgg3 (by first|exact c_o)) ?_ U);refine rO tb 1 U (y_ (Kr U isAgg3 (by first|exact c_o)) ?_ U);refine y_ (yl_addL (T U) (T U) qom) ?_ U;refine rO tb 1 U (y_ (Kr U isAgg3 (by first|exact c_o)) ?_ U);refine rO tb 1 U (y_ (Kr U isAgg3 (by first|exact c_o)) ?_ U);refine y_ (A4 (T U) Aj qom) ?_ U;refine y_ (yl_max (T U) (T U)) (y_ (A8 (.cons (T U) (.cons (T U) .nil)) (zbd84_0_1 _ _)) ?_ U) U
 first|refine A6 (Kv U U sizeOf84) U Ae ?_
 rintro _ _ ⟨rfl,rfl⟩;refine rO tb 3 U (Ai U (.cellA (Aa U) isAgg84 sizeOf84 U (by first|exact Av) .nil) ?_);exact⟨_,⟨rfl,rfl⟩,sbt⟩
theorem szP_step {w0:World}{H:List (Nat × Obj)}{N:Nat}(hN:N≤1000000000)(ih:SzPS w0 N){m:Pdm}(hM:PdM w0 H m)(hm:m.sz≤N+1):
  FSpec Tryz.prog w0 81 #[.agg (encPd m).toArray] H (SzK m.sz m.sz H):=by
 refine An Tryz.func81 U ntmps81 U ?_;have hsz:=Ij m;have hln:=szPL_len m.subs;refine rD tb 2 U (e_ (Kw U cs_) ?_ U);rintro _ _ ⟨n1,rfl,rfl⟩;refine e_ (Al zeroValue84 cs_) ?_ U;rintro _ _ ⟨n2,rfl,rfl⟩;refine rO tb 4 U (y_ (A8 (.cons Aj (.cons Aj .nil)) (zbd84_0_1 _ _)) (e_ (Al zeroValue84 cs_) ?_ U) U);rintro _ _ ⟨n3,rfl,rfl⟩
 first|refine A6 (Kv U U sizeOf84) U Ae ?_
 rintro _ _ ⟨rfl,rfl⟩;refine rO tb 9 U ?_;refine A9 (X:=Nat × Int) (V:=fun ⟨i,dd⟩=>[(4, .int .i64 (i:Nat))]) (C:=[(1,_),(2,_),(3,_)]) (G:=fun ⟨i,dd⟩=>(n3,Cl [.int .i64 ((1+szPL (m.subs.take i):Nat):Int), .int .i64 dd] 84)::(n2,Cl [.int .i64 0, .int .i64 0] 84)::(n1,Cl (encPd m) 25)::H) (φ:=fun ⟨i,dd⟩=>i≤m.subs.length∧0≤dd∧dd≤szPL m.subs+1) (μ:=fun ⟨i,dd⟩=>m.subs.length - i) (x0:=(0,1)) ?_ ⟨Aa rfl,Aa rfl,Aa rfl,trivial⟩ ⟨atd,trivial⟩ (by exact sbt) ?_
 ·exact⟨Nat.zero_le _,by omega,by omega⟩
 rintro⟨i,dd⟩ ⟨hi,hd1,hd2⟩;refine rD tb 5 U (y_ (Kr U isAgg23 (by first|exact c_o)) ?_ U);refine rO tb 4 U ?_
 first|refine Ac (Aa U) (fun c10=> ?_) (fun c10=> ?_)|refine Ag (Aa U) (fun c10=> ?_) (fun c10=> ?_)
 ·have hi2:i<m.subs.length:=by have h9:((i:Nat):Int)<(m.subs.length:Nat):=c10;omega
  have htk:=szPL_take hi2;have hal:=szPL_all (l:=m.subs) (i+1);refine rC tb 4 U (Bl 8 [(0,true),(1,true),(2,true),(3,true),(4,true),(5,true),(6,false),(7,true)] ((n3,Cl [.int .i64 ((1+szPL (m.subs.take i):Nat):Int), .int .i64 dd] 84)::(n1,Cl (encPd m) 25)::H) mixd qkr (by exact sbt) ?_ Bp);refine o_y U (Ks U isAgg84 sizeOf84 U (by first|exact Av)) ?_ U Ae;refine rP tb 1 U (o_y U (Kr U isAgg23 (by first|exact c_o)) ?_ U Ae);refine rP tb 1 U (o_y U (Ku U U runUnderlying23 sizeOf25 qom (by first|exact rfl|exact hM.arr.b (i:=i) hi2)) ?_ U Ae);refine o_y U (Ks U isAgg25 sizeOf25 U (by first|exact(hM.arr.mono (by exact sbt)).cs (i:=i) hi2|exact Av)) ?_ U Ae;refine o_e U (Ar (qe1 U) call81 (ih ((hM.sub (A2 hi2)).mono (by exact sbt)) qom)) ?_ U Ae;rintro _ _ ⟨d1,⟨rfl,d2,d3⟩,rfl⟩;refine⟨sbt,(o_y U (Ak (qe2 U U) call82 (fun H' hs=>more_s _ _ _ _ qom)) ?_ U Ae)⟩;refine A7 U ?_
  first|refine A6 (Kv U U sizeOf84) U Ae ?_
  rintro _ _ ⟨rfl,rfl⟩;refine rO tb 5 U (y_ (A4 (T U) Aj qom) ?_ U);refine rO tb 2 U ?_;refine A0 ((i+1,max dd (d1+1))) ?_ ?_ ⟨atd,trivial⟩ ⟨Aa U,Aa U,Aa U,trivial⟩ ?_
  ·exact⟨hi2,by omega,by omega⟩
  ·first|omega|(simp only[];omega)
  ·dsimp only;rw[htk,← Nat.add_assoc];exact sbt
 ·obtain rfl:i=m.subs.length:=by have h9: ¬ ((i:Nat):Int)<(m.subs.length:Nat):=c10;omega
  have htl:m.subs.take m.subs.length=m.subs:=List.take_length;refine rC tb 2 U (Ao (rX tb 4 U (y_ (Ks U isAgg84 sizeOf84 U (by first|exact Av)) ?_ U)))
  first|refine A6 (Kv U U sizeOf84) U Ae ?_
  rintro _ _ ⟨rfl,rfl⟩;refine rO tb 3 U (Ai U (.cellA (Aa U) isAgg84 sizeOf84 U (by first|exact Av) .nil) ?_);exact⟨_,⟨dd,⟨by rw[hsz,htl,Nat.add_comm];rfl,hd1,by omega⟩,rfl⟩,sbt⟩
theorem szO_step {w0:World}{H:List (Nat × Obj)}{N:Nat}(hN:N≤1000000000)(ih:SzOS w0 N)(ihP:SzPS w0 N){m:Pom}(hM:PoM w0 H m)(hm:m.sz≤N+1):
  FSpec Tryz.prog w0 41 #[.agg (encPo m).toArray] H (SzK m.nd m.sz H):=by
 refine An Tryz.func41 U ntmps41 U ?_;have hsz:=Ew m;have hln:=Gb m.subs;have hnd:=J4 m;have hns:=Kh m;refine rD tb 2 U (e_ (Kw U cs_) ?_ U);rintro _ _ ⟨n1,rfl,rfl⟩;refine e_ (Al zeroValue84 cs_) ?_ U;rintro _ _ ⟨n2,rfl,rfl⟩;refine rO tb 4 U (y_ (A8 (.cons Aj (.cons Aj .nil)) (zbd84_0_1 _ _)) (e_ (Al zeroValue84 cs_) ?_ U) U);rintro _ _ ⟨n3,rfl,rfl⟩
 first|refine A6 (Kv U U sizeOf84) U Ae ?_
 rintro _ _ ⟨rfl,rfl⟩;refine rO tb 2 U ?_;refine Ji (X:=Int) (V:=fun e0=>[]) (C:=[(1,_),(2,_),(3,_)]) (G:=fun e0=>(n3,Cl [.int .i64 ((1+(if m.kind=1 then m.pr.sz else 0):Nat):Int), .int .i64 e0] 84)::(n2,Cl [.int .i64 0, .int .i64 0] 84)::(n1,Cl (encPo m) 28)::H) (φ:=fun e0=>0≤e0∧e0≤m.pr.sz+1) ⟨Aa U,Aa U,Aa U,trivial⟩ ?_ ?_
 ·refine rD tb 3 U (y_ (Kr U isAgg3 (by first|exact c_o)) ?_ U);refine rO tb 3 U ?_
  first|refine Ac (Aa U) (fun c8=> ?_) (fun c8=> ?_)|refine Ag (Aa U) (fun c8=> ?_) (fun c8=> ?_)
  ·refine Bl 5 [(0,true),(1,true),(2,true),(3,false),(4,true)] ((n3,Cl [.int .i64 1, .int .i64 1] 84)::(n2,Cl [.int .i64 0, .int .i64 0] 84)::(n1,Cl (encPo m) 28)::H) mixd qkr (by exact sbt) ?_ Bp;refine o_y U (Ks U isAgg84 sizeOf84 U (by first|exact Av)) ?_ U Ae;refine rP tb 1 U ?_;refine o_y U (Ks U isAgg25 sizeOf25 U (by first|exact J0 (by repeat (first|exact As|refine Ax ?_))|exact Av)) ?_ U Ae;refine o_e U (Ar (qe1 U) call81 (ihP (hM.pred.mono (by exact sbt)) qom)) ?_ U Ae;rintro _ _ ⟨d0,⟨rfl,d5,d6⟩,rfl⟩;refine⟨sbt,(o_y U (Ak (qe2 U U) call82 (fun H' hs=>more_s 1 _ 1 _ qom)) ?_ U Ae)⟩;refine A7 U ?_
   first|refine A6 (Kv U U sizeOf84) U Ae ?_
   rintro _ _ ⟨rfl,rfl⟩;refine rO tb 1 U (Bd (max 1 (d0+1)) ?_ trivial ⟨Aa U,Aa U,Aa U,trivial⟩ (by first|(rw[if_pos (show m.kind=1 from c8)];exact sbt)|(rw[if_neg (show ¬ m.kind=1 from c8)];exact sbt)));exact⟨by omega,by omega⟩
  ·refine rC tb 1 U (Bd (1) ?_ trivial ⟨Aa U,Aa U,Aa U,trivial⟩ (by first|(rw[if_pos (show m.kind=1 from c8)];exact sbt)|(rw[if_neg (show ¬ m.kind=1 from c8)];exact sbt)));exact⟨by omega,by omega⟩
 rintro e0 ⟨he1,he2⟩;refine rC tb 7 U ?_;refine A9 (X:=Nat × Int) (V:=fun ⟨i,dd⟩=>[(4, .int .i64 (i:Nat))]) (C:=[(1,_),(2,_),(3,_)]) (G:=fun ⟨i,dd⟩=>(n3,Cl [.int .i64 ((1+(if m.kind=1 then m.pr.sz else 0)+ndOL (m.subs.take i):Nat):Int), .int .i64 dd] 84)::(n2,Cl [.int .i64 0, .int .i64 0] 84)::(n1,Cl (encPo m) 28)::H) (φ:=fun ⟨i,dd⟩=>i≤m.subs.length∧0≤dd∧dd≤szOL m.subs+m.pr.sz+1) (μ:=fun ⟨i,dd⟩=>m.subs.length - i) (x0:=(0,e0)) ?_ ⟨Aa rfl,Aa rfl,Aa rfl,trivial⟩ ⟨atd,trivial⟩ (by exact sbt) ?_
 ·exact⟨Nat.zero_le _,by omega,by omega⟩
 rintro⟨i,dd⟩ ⟨hi,hd1,hd2⟩;refine rD tb 5 U (y_ (Kr U isAgg26 (by first|exact c_o)) ?_ U);refine rO tb 4 U ?_
 first|refine Ac (Aa U) (fun c18=> ?_) (fun c18=> ?_)|refine Ag (Aa U) (fun c18=> ?_) (fun c18=> ?_)
 ·have hi2:i<m.subs.length:=by have h9:((i:Nat):Int)<(m.subs.length:Nat):=c18;omega
  have htk:=ndOL_take hi2;have hss:=szOL_mem (A2 hi2);have hn1:=Kh (gd m.subs i);have hn2:ndOL (m.subs.take i)≤szOL m.subs:=Nat.le_trans (ndOL_sz _) (Ga i);have hn3:(if m.kind=1 then m.pr.sz else 0)≤m.pr.sz:=by split<;>omega
  refine rC tb 4 U (Bl 8 [(0,true),(1,true),(2,true),(3,true),(4,true),(5,true),(6,false),(7,true)] ((n3,Cl [.int .i64 ((1+(if m.kind=1 then m.pr.sz else 0)+ndOL (m.subs.take i):Nat):Int), .int .i64 dd] 84)::(n1,Cl (encPo m) 28)::H) mixd qkr (by exact sbt) ?_ Bp);refine o_y U (Ks U isAgg84 sizeOf84 U (by first|exact Av)) ?_ U Ae;refine rP tb 1 U (o_y U (Kr U isAgg26 (by first|exact c_o)) ?_ U Ae);refine rP tb 1 U (o_y U (Ku U U runUnderlying26 sizeOf28 qom (by first|exact rfl|exact hM.arr.b (i:=i) hi2)) ?_ U Ae);refine o_y U (Ks U isAgg28 sizeOf28 U (by first|exact(hM.arr.mono (by exact sbt)).cs (i:=i) hi2|exact Av)) ?_ U Ae;refine o_e U (Ar (qe1 U) call41 (ih ((hM.sub (A2 hi2)).mono (by exact sbt)) qom)) ?_ U Ae;rintro _ _ ⟨d1,⟨rfl,d2,d3⟩,rfl⟩;refine⟨sbt,(o_y U (Ak (qe2 U U) call82 (fun H' hs=>more_s _ _ _ _ qom)) ?_ U Ae)⟩;refine A7 U ?_
  first|refine A6 (Kv U U sizeOf84) U Ae ?_
  rintro _ _ ⟨rfl,rfl⟩;refine rO tb 5 U (y_ (A4 (T U) Aj qom) ?_ U);refine rO tb 2 U ?_;refine A0 ((i+1,max dd (d1+1))) ?_ ?_ ⟨atd,trivial⟩ ⟨Aa U,Aa U,Aa U,trivial⟩ ?_
  ·exact⟨hi2,by omega,by omega⟩
  ·first|omega|(simp only[];omega)
  ·dsimp only;rw[htk,← Nat.add_assoc];exact sbt
 ·obtain rfl:i=m.subs.length:=by have h9: ¬ ((i:Nat):Int)<(m.subs.length:Nat):=c18;omega
  have htl:m.subs.take m.subs.length=m.subs:=List.take_length;refine rC tb 2 U (Ao (rX tb 4 U (y_ (Ks U isAgg84 sizeOf84 U (by first|exact Av)) ?_ U)))
  first|refine A6 (Kv U U sizeOf84) U Ae ?_
  rintro _ _ ⟨rfl,rfl⟩;refine rO tb 3 U (Ai U (.cellA (Aa U) isAgg84 sizeOf84 U (by first|exact Av) .nil) ?_);exact⟨_,⟨dd,⟨by rw[hnd,htl];rfl,hd1,by omega⟩,rfl⟩,sbt⟩
theorem st_step {w0:World}{H:List (Nat × Obj)}{N:Nat}(hN:N≤1000000000)(ih:StS w0 N){m:Pom}(hM:PoM w0 H m)(hm:m.sz≤N+1):
  FSpec Tryz.prog w0 42 #[.agg (encPo m).toArray] H (IntK m.sz H):=by
 refine An Tryz.func42 U ntmps42 U ?_;have hsz:=Ew m;have hln:=Gb m.subs;refine rD tb 2 U (e_ (Kw U cs_) ?_ U);rintro _ _ ⟨n1,rfl,rfl⟩;refine rO tb 15 U ?_;refine A9 (X:=Nat × Int) (V:=fun ⟨i,s⟩=>[(3, .int .i64 s),(4, .int .i64 (i:Nat))]) (C:=[(1,_)]) (G:=fun ⟨i,s⟩=>(n1,Cl (encPo m) 28)::H) (φ:=fun ⟨i,s⟩=>i≤m.subs.length∧0≤s∧s≤szOL m.subs) (μ:=fun ⟨i,s⟩=>m.subs.length - i) (x0:=(0,0)) ?_ ⟨Aa rfl,trivial⟩ ⟨atd,atd,trivial⟩ sb0 ?_
 ·exact⟨Nat.zero_le _,by omega,by omega⟩
 rintro⟨i,s⟩ ⟨hi,hs1,hs2⟩;refine rD tb 5 U (y_ (Kr U isAgg26 (by first|exact c_o)) ?_ U);refine rO tb 4 U ?_
 first|refine Ac (Aa U) (fun c9=> ?_) (fun c9=> ?_)|refine Ag (Aa U) (fun c9=> ?_) (fun c9=> ?_)
 ·have hi2:i<m.subs.length:=by have h9:((i:Nat):Int)<(m.subs.length:Nat):=c9;omega
  have htk:=szOL_take hi2;have hal:=Ga (l:=m.subs) (i+1);refine rC tb 7 U (y_ (Kr U isAgg26 (by first|exact c_o)) ?_ U);refine rO tb 1 U (y_ (Ku U U runUnderlying26 sizeOf28 qom (by first|exact rfl|exact hM.arr.b (i:=i) hi2)) ?_ U);refine y_ (Ks U isAgg28 sizeOf28 U (by first|exact(hM.arr.mono (by exact sbt)).cs (i:=i) hi2|exact Av)) ?_ U;refine e_ (Ar (qe1 U) call42 (ih ((hM.sub (A2 hi2)).mono (by exact sbt)) qom)) ?_ U;rintro _ _ ⟨d1,⟨rfl,d2,d3⟩,rfl⟩;refine y_ (yl_max (T U) (T U)) (rO tb 6 U (y_ (A4 (T U) Aj qom) ?_ U)) U;refine rO tb 2 U ?_;refine A0 ((i+1,max s d1)) ?_ ?_ ⟨atd,atd,trivial⟩ ⟨Aa U,trivial⟩ ?_
  ·exact⟨hi2,by omega,by omega⟩
  ·first|omega|(simp only[];omega)
  ·exact sbt
 ·obtain rfl:i=m.subs.length:=by have h9: ¬ ((i:Nat):Int)<(m.subs.length:Nat):=c9;omega
  have htl:m.subs.take m.subs.length=m.subs:=List.take_length;refine rC tb 2 U (Ao (rX tb 6 U (y_ (Kr U isAgg3 (by first|exact c_o)) ?_ U)));refine rO tb 3 U ?_
  first|refine Ac (Aa U) (fun c22=> ?_) (fun c22=> ?_)|refine Ag (Aa U) (fun c22=> ?_) (fun c22=> ?_)
  ·refine rC tb 2 U (y_ (A4 (T U) Aj qom) ?_ U);refine rO tb 10 U (Ai U (Kq U) ?_);exact⟨_,⟨_,⟨rfl,by omega,by omega⟩,rfl⟩,sbt⟩
  ·refine rC tb 9 U (Ai U (Kq U) ?_);exact⟨_,⟨_,⟨rfl,by omega,by omega⟩,rfl⟩,sbt⟩
theorem pu_step {w0:World}{H:List (Nat × Obj)}{N:Nat}(hN:N≤1000000000)(ih:PuS w0 N){m:Pom}(hM:PoM w0 H m)(hm:m.sz≤N+1):
  FSpec Tryz.prog w0 83 #[.agg (encPo m).toArray] H (IntK m.sz H):=by
 refine An Tryz.func83 U ntmps83 U ?_;have hsz:=Ew m;have hln:=Gb m.subs;refine rD tb 2 U (e_ (Kw U cs_) ?_ U);rintro _ _ ⟨n1,rfl,rfl⟩;refine rO tb 15 U ?_;refine A9 (X:=Nat × Int) (V:=fun ⟨i,s⟩=>[(3, .int .i64 s),(4, .int .i64 (i:Nat))]) (C:=[(1,_)]) (G:=fun ⟨i,s⟩=>(n1,Cl (encPo m) 28)::H) (φ:=fun ⟨i,s⟩=>i≤m.subs.length∧0≤s∧s≤szOL (m.subs.take i)) (μ:=fun ⟨i,s⟩=>m.subs.length - i) (x0:=(0,0)) ?_ ⟨Aa rfl,trivial⟩ ⟨atd,atd,trivial⟩ sb0 ?_
 ·exact⟨Nat.zero_le _,by omega,by simp[szOL]⟩
 rintro⟨i,s⟩ ⟨hi,hs1,hs2⟩;have hal0:=Ga (l:=m.subs) i;refine rD tb 5 U (y_ (Kr U isAgg26 (by first|exact c_o)) ?_ U);refine rO tb 4 U ?_
 first|refine Ac (Aa U) (fun c9=> ?_) (fun c9=> ?_)|refine Ag (Aa U) (fun c9=> ?_) (fun c9=> ?_)
 ·have hi2:i<m.subs.length:=by have h9:((i:Nat):Int)<(m.subs.length:Nat):=c9;omega
  have htk:=szOL_take hi2;have hal:=Ga (l:=m.subs) (i+1);refine rC tb 7 U (y_ (Kr U isAgg26 (by first|exact c_o)) ?_ U);refine rO tb 1 U (y_ (Ku U U runUnderlying26 sizeOf28 qom (by first|exact rfl|exact hM.arr.b (i:=i) hi2)) ?_ U);refine y_ (Ks U isAgg28 sizeOf28 U (by first|exact(hM.arr.mono (by exact sbt)).cs (i:=i) hi2|exact Av)) ?_ U;refine e_ (Ar (qe1 U) call83 (ih ((hM.sub (A2 hi2)).mono (by exact sbt)) qom)) ?_ U;rintro _ _ ⟨d1,⟨rfl,d2,d3⟩,rfl⟩;refine y_ (A4 (T U) (T U) qom) ?_ U;refine rO tb 6 U (y_ (A4 (T U) Aj qom) ?_ U);refine rO tb 2 U ?_;refine A0 ((i+1,s+d1)) ?_ ?_ ⟨atd,atd,trivial⟩ ⟨Aa U,trivial⟩ ?_
  ·exact⟨hi2,by omega,by omega⟩
  ·first|omega|(simp only[];omega)
  ·exact sbt
 ·obtain rfl:i=m.subs.length:=by have h9: ¬ ((i:Nat):Int)<(m.subs.length:Nat):=c9;omega
  have htl:m.subs.take m.subs.length=m.subs:=List.take_length;refine rC tb 2 U (Ao (rX tb 6 U (y_ (Kr U isAgg3 (by first|exact c_o)) ?_ U)));refine rO tb 3 U ?_
  first|refine Ac (Aa U) (fun c22=> ?_) (fun c22=> ?_)|refine Ag (Aa U) (fun c22=> ?_) (fun c22=> ?_)
  ·refine rC tb 2 U (y_ (A4 (T U) Aj qom) ?_ U);refine rO tb 10 U (Ai U (Kq U) ?_);rw[htl] at hs2;exact⟨_,⟨_,⟨rfl,by omega,by omega⟩,rfl⟩,sbt⟩
  ·refine rC tb 9 U (Ai U (Kq U) ?_);rw[htl] at hs2;exact⟨_,⟨_,⟨rfl,by omega,by omega⟩,rfl⟩,sbt⟩
theorem szP_s {w0:World}(N:Nat)(hN:N≤1000000000):SzPS w0 N:=by
 induction N with
 |zero=>intro H m _ h;have:=Ij m;omega
 |succ N ih=>
  have hN:N≤1000000000:=by omega
  have ih:SzPS w0 N:=ih hN;intro H m hM hm;exact szP_step hN ih hM hm
theorem szO_s {w0:World}(N:Nat)(hN:N≤1000000000):SzOS w0 N:=by
 induction N with
 |zero=>intro H m _ h;have:=Ew m;omega
 |succ N ih=>
  have hN:N≤1000000000:=by omega
  have ih:SzOS w0 N:=ih hN;intro H m hM hm;exact szO_step hN ih (szP_s N hN) hM hm
theorem stO_s {w0:World}(N:Nat)(hN:N≤1000000000):StS w0 N:=by
 induction N with
 |zero=>intro H m _ h;have:=Ew m;omega
 |succ N ih=>
  have hN:N≤1000000000:=by omega
  have ih:StS w0 N:=ih hN;intro H m hM hm;exact st_step hN ih hM hm
theorem pu_s {w0:World}(N:Nat)(hN:N≤1000000000):PuS w0 N:=by
 induction N with
 |zero=>intro H m _ h;have:=Ew m;omega
 |succ N ih=>
  have hN:N≤1000000000:=by omega
  have ih:PuS w0 N:=ih hN;intro H m hM hm;exact pu_step hN ih hM hm
theorem fewO_s {w0:World}{H:List (Nat × Obj)}{m:Pom}(hM:PoM w0 H m)(hm:m.sz≤1000000000)  :
  FSpec Tryz.prog w0 40 #[.agg (encPo m).toArray] H (SomB H):=by
 refine An Tryz.func40 U ntmps40 U ?_;have hns:=Kh m;have hsz:=Ew m;refine rD tb 2 U (e_ (Kw U cs_) ?_ U);rintro _ _ ⟨n1,rfl,rfl⟩;refine rO tb 5 U (y_ (Ks U isAgg28 sizeOf28 U (by first|exact Av)) ?_ U);refine e_ (Ar (qe1 U) call41 (szO_s _ (Nat.le_refl _) (hM.mono (by exact sbt)) hm)) ?_ U;rintro _ _ ⟨z1,⟨rfl,y1,x1⟩,rfl⟩;refine e_ (Al zeroValue84 cs_) ?_ U;rintro _ _ ⟨n3,rfl,rfl⟩
 first|refine A6 (Kv U U sizeOf84) U Ae ?_
 rintro _ _ ⟨rfl,rfl⟩;refine rO tb 5 U ?_;refine y_ (Ks U isAgg25 sizeOf25 U (by first|exact J0 (by repeat (first|exact As|refine Ax ?_))|exact Av)) ?_ U;refine e_ (Ar (qe1 U) call81 (szP_s _ (Nat.le_refl _) (hM.pred.mono (by exact sbt)) qom)) ?_ U;rintro _ _ ⟨z2,⟨rfl,y2,x2⟩,rfl⟩;refine e_ (Al zeroValue84 cs_) ?_ U;rintro _ _ ⟨n4,rfl,rfl⟩
 first|refine A6 (Kv U U sizeOf84) U Ae ?_
 rintro _ _ ⟨rfl,rfl⟩;refine rO tb 5 U (y_ (Kr U isAgg3 (by first|exact c_o)) ?_ U);refine rO tb 2 U ?_
 first|refine Am (s:=13) (Aa U) (fun c13=> ?_) (fun c13=> ?_)|refine A1 (s:=13) (Aa U) (fun c13=> ?_) (fun c13=> ?_)
 ·refine rO tb 1 U (Az (Kr U isAgg3 (by first|exact c_o)) U (A3 U U (Aa U)) ?_);refine rO tb 3 U ?_
  first|refine Am (s:=18) (Aa U) (fun c18=> ?_) (fun c18=> ?_)|refine A1 (s:=18) (Aa U) (fun c18=> ?_) (fun c18=> ?_)
  ·refine rO tb 1 U (Az (Kr U isAgg3 (by first|exact c_o)) U (A3 U U (Aa U)) ?_);refine rO tb 6 U (Ai U (Kq U) ?_);exact⟨_,⟨_,rfl,rfl⟩,sbt⟩
  ·refine rO tb 8 U (Ai U (Kq U) ?_);exact⟨_,⟨_,rfl,rfl⟩,sbt⟩
 ·refine rO tb 13 U (Ai U (Kq U) ?_);exact⟨_,⟨_,rfl,rfl⟩,sbt⟩
theorem light_s {w0:World}{H:List (Nat × Obj)}{m:Pom}(hM:PoM w0 H m)(hm:m.sz≤1000000000)  :
  FSpec Tryz.prog w0 43 #[.agg (encPo m).toArray] H (SomB H):=by
 refine An Tryz.func43 U ntmps43 U (rD tb 2 U (e_ (Kw U cs_) ?_ U));rintro _ _ ⟨n1,rfl,rfl⟩;refine rO tb 5 U (y_ (Ks U isAgg28 sizeOf28 U (by first|exact Av)) ?_ U);refine e_ (Ar (qe1 U) call42 (stO_s _ (Nat.le_refl _) (hM.mono (by exact sbt)) hm)) ?_ U;rintro _ _ ⟨z1,⟨rfl,y1,x1⟩,rfl⟩;refine rO tb 5 U (y_ (Ks U isAgg28 sizeOf28 U (by first|exact Av)) ?_ U);refine e_ (Ar (qe1 U) call83 (pu_s _ (Nat.le_refl _) (hM.mono (by exact sbt)) hm)) ?_ U;rintro _ _ ⟨z2,⟨rfl,y2,x2⟩,rfl⟩;refine rO tb 8 U ?_
 first|refine Am (s:=11) (Aa U) (fun c11=> ?_) (fun c11=> ?_)|refine A1 (s:=11) (Aa U) (fun c11=> ?_) (fun c11=> ?_)
 ·refine kO tb 34 [2] rfl U (rG tb 1 U (Ai U (Kq U) ?_));exact⟨_,⟨_,rfl,rfl⟩,sbt⟩
 ·refine rO tb 3 U ?_
  first|refine Am (s:=14) (Aa U) (fun c14=> ?_) (fun c14=> ?_)|refine A1 (s:=14) (Aa U) (fun c14=> ?_) (fun c14=> ?_)
  ·refine rO tb 5 U ?_
   first|refine Am (s:=19) (Aa U) (fun c19=> ?_) (fun c19=> ?_)|refine A1 (s:=19) (Aa U) (fun c19=> ?_) (fun c19=> ?_)
   ·refine kO tb 26 [2] rfl U (rG tb 1 U (Ai U (Kq U) ?_));exact⟨_,⟨_,rfl,rfl⟩,sbt⟩
   ·refine rO tb 3 U ?_
    first|refine Am (s:=22) (Aa U) (fun c22=> ?_) (fun c22=> ?_)|refine A1 (s:=22) (Aa U) (fun c22=> ?_) (fun c22=> ?_)
    ·refine rO tb 5 U ?_
     first|refine Am (s:=27) (Aa U) (fun c27=> ?_) (fun c27=> ?_)|refine A1 (s:=27) (Aa U) (fun c27=> ?_) (fun c27=> ?_)
     ·refine kO tb 18 [2] rfl U (rG tb 1 U (Ai U (Kq U) ?_));exact⟨_,⟨_,rfl,rfl⟩,sbt⟩
     ·refine rO tb 3 U ?_
      first|refine Am (s:=30) (Aa U) (fun c30=> ?_) (fun c30=> ?_)|refine A1 (s:=30) (Aa U) (fun c30=> ?_) (fun c30=> ?_)
      ·refine rO tb 5 U ?_
       first|refine Am (s:=35) (Aa U) (fun c35=> ?_) (fun c35=> ?_)|refine A1 (s:=35) (Aa U) (fun c35=> ?_) (fun c35=> ?_)
       ·refine kO tb 10 [2] rfl U (rG tb 1 U (Ai U (Kq U) ?_));exact⟨_,⟨_,rfl,rfl⟩,sbt⟩
       ·refine rO tb 3 U ?_
        first|refine Am (s:=38) (Aa U) (fun c38=> ?_) (fun c38=> ?_)|refine A1 (s:=38) (Aa U) (fun c38=> ?_) (fun c38=> ?_)
        ·refine kO tb 7 [2] rfl U (rG tb 1 U (Ai U (Kq U) ?_));exact⟨_,⟨_,rfl,rfl⟩,sbt⟩
        ·refine kO tb 7 [2] rfl U (rG tb 1 U (Ai U (Kq U) ?_));exact⟨_,⟨_,rfl,rfl⟩,sbt⟩
      ·refine rO tb 8 U ?_
       first|refine Am (s:=38) (Aa U) (fun c38=> ?_) (fun c38=> ?_)|refine A1 (s:=38) (Aa U) (fun c38=> ?_) (fun c38=> ?_)
       ·refine kO tb 7 [2] rfl U (rG tb 1 U (Ai U (Kq U) ?_));exact⟨_,⟨_,rfl,rfl⟩,sbt⟩
       ·refine kO tb 7 [2] rfl U (rG tb 1 U (Ai U (Kq U) ?_));exact⟨_,⟨_,rfl,rfl⟩,sbt⟩
    ·refine rO tb 8 U ?_
     first|refine Am (s:=30) (Aa U) (fun c30=> ?_) (fun c30=> ?_)|refine A1 (s:=30) (Aa U) (fun c30=> ?_) (fun c30=> ?_)
     ·refine rO tb 5 U ?_
      first|refine Am (s:=35) (Aa U) (fun c35=> ?_) (fun c35=> ?_)|refine A1 (s:=35) (Aa U) (fun c35=> ?_) (fun c35=> ?_)
      ·refine kO tb 10 [2] rfl U (rG tb 1 U (Ai U (Kq U) ?_));exact⟨_,⟨_,rfl,rfl⟩,sbt⟩
      ·refine rO tb 3 U ?_
       first|refine Am (s:=38) (Aa U) (fun c38=> ?_) (fun c38=> ?_)|refine A1 (s:=38) (Aa U) (fun c38=> ?_) (fun c38=> ?_)
       ·refine kO tb 7 [2] rfl U (rG tb 1 U (Ai U (Kq U) ?_));exact⟨_,⟨_,rfl,rfl⟩,sbt⟩
       ·refine kO tb 7 [2] rfl U (rG tb 1 U (Ai U (Kq U) ?_));exact⟨_,⟨_,rfl,rfl⟩,sbt⟩
     ·refine rO tb 8 U ?_
      first|refine Am (s:=38) (Aa U) (fun c38=> ?_) (fun c38=> ?_)|refine A1 (s:=38) (Aa U) (fun c38=> ?_) (fun c38=> ?_)
      ·refine kO tb 7 [2] rfl U (rG tb 1 U (Ai U (Kq U) ?_));exact⟨_,⟨_,rfl,rfl⟩,sbt⟩
      ·refine kO tb 7 [2] rfl U (rG tb 1 U (Ai U (Kq U) ?_));exact⟨_,⟨_,rfl,rfl⟩,sbt⟩
  ·refine rO tb 8 U ?_
   first|refine Am (s:=22) (Aa U) (fun c22=> ?_) (fun c22=> ?_)|refine A1 (s:=22) (Aa U) (fun c22=> ?_) (fun c22=> ?_)
   ·refine rO tb 5 U ?_
    first|refine Am (s:=27) (Aa U) (fun c27=> ?_) (fun c27=> ?_)|refine A1 (s:=27) (Aa U) (fun c27=> ?_) (fun c27=> ?_)
    ·refine kO tb 18 [2] rfl U (rG tb 1 U (Ai U (Kq U) ?_));exact⟨_,⟨_,rfl,rfl⟩,sbt⟩
    ·refine rO tb 3 U ?_
     first|refine Am (s:=30) (Aa U) (fun c30=> ?_) (fun c30=> ?_)|refine A1 (s:=30) (Aa U) (fun c30=> ?_) (fun c30=> ?_)
     ·refine rO tb 5 U ?_
      first|refine Am (s:=35) (Aa U) (fun c35=> ?_) (fun c35=> ?_)|refine A1 (s:=35) (Aa U) (fun c35=> ?_) (fun c35=> ?_)
      ·refine kO tb 10 [2] rfl U (rG tb 1 U (Ai U (Kq U) ?_));exact⟨_,⟨_,rfl,rfl⟩,sbt⟩
      ·refine rO tb 3 U ?_
       first|refine Am (s:=38) (Aa U) (fun c38=> ?_) (fun c38=> ?_)|refine A1 (s:=38) (Aa U) (fun c38=> ?_) (fun c38=> ?_)
       ·refine kO tb 7 [2] rfl U (rG tb 1 U (Ai U (Kq U) ?_));exact⟨_,⟨_,rfl,rfl⟩,sbt⟩
       ·refine kO tb 7 [2] rfl U (rG tb 1 U (Ai U (Kq U) ?_));exact⟨_,⟨_,rfl,rfl⟩,sbt⟩
     ·refine rO tb 8 U ?_
      first|refine Am (s:=38) (Aa U) (fun c38=> ?_) (fun c38=> ?_)|refine A1 (s:=38) (Aa U) (fun c38=> ?_) (fun c38=> ?_)
      ·refine kO tb 7 [2] rfl U (rG tb 1 U (Ai U (Kq U) ?_));exact⟨_,⟨_,rfl,rfl⟩,sbt⟩
      ·refine kO tb 7 [2] rfl U (rG tb 1 U (Ai U (Kq U) ?_));exact⟨_,⟨_,rfl,rfl⟩,sbt⟩
   ·refine rO tb 8 U ?_
    first|refine Am (s:=30) (Aa U) (fun c30=> ?_) (fun c30=> ?_)|refine A1 (s:=30) (Aa U) (fun c30=> ?_) (fun c30=> ?_)
    ·refine rO tb 5 U ?_
     first|refine Am (s:=35) (Aa U) (fun c35=> ?_) (fun c35=> ?_)|refine A1 (s:=35) (Aa U) (fun c35=> ?_) (fun c35=> ?_)
     ·refine kO tb 10 [2] rfl U (rG tb 1 U (Ai U (Kq U) ?_));exact⟨_,⟨_,rfl,rfl⟩,sbt⟩
     ·refine rO tb 3 U ?_
      first|refine Am (s:=38) (Aa U) (fun c38=> ?_) (fun c38=> ?_)|refine A1 (s:=38) (Aa U) (fun c38=> ?_) (fun c38=> ?_)
      ·refine kO tb 7 [2] rfl U (rG tb 1 U (Ai U (Kq U) ?_));exact⟨_,⟨_,rfl,rfl⟩,sbt⟩
      ·refine kO tb 7 [2] rfl U (rG tb 1 U (Ai U (Kq U) ?_));exact⟨_,⟨_,rfl,rfl⟩,sbt⟩
    ·refine rO tb 8 U ?_
     first|refine Am (s:=38) (Aa U) (fun c38=> ?_) (fun c38=> ?_)|refine A1 (s:=38) (Aa U) (fun c38=> ?_) (fun c38=> ?_)
     ·refine kO tb 7 [2] rfl U (rG tb 1 U (Ai U (Kq U) ?_));exact⟨_,⟨_,rfl,rfl⟩,sbt⟩
     ·refine kO tb 7 [2] rfl U (rG tb 1 U (Ai U (Kq U) ?_));exact⟨_,⟨_,rfl,rfl⟩,sbt⟩
theorem zbd25_z  (w:World):(Instr.build 25 #[]).run Tryz.prog w= .ok (.agg #[.int .i64 0, .string ⟨#[]⟩, .int .i64 0, .int .i64 0, .slice none 0 0]) w:=by kernel_rfl
theorem sameP0_s {w0:World}{H:List (Nat × Obj)}(m:Pdm):
  FSpec Tryz.prog w0 158 #[.agg (encPd m).toArray, .agg #[.int .i64 0, .string ⟨#[]⟩, .int .i64 0, .int .i64 0, .slice none 0 0]] H (SomB H):=by
 refine An Tryz.func158 U ntmps158 U (rD tb 2 U (e_ (Kw U cs_) ?_ U));rintro _ _ ⟨n2,rfl,rfl⟩;refine e_ (Kw U cs_) ?_ U;rintro _ _ ⟨n3,rfl,rfl⟩;refine rO tb 7 U (y_ (Kr U isAgg3 (by first|exact c_o)) ?_ U);refine rO tb 1 U (y_ (Kr U isAgg3 (by first|exact c_o)) ?_ U);refine rO tb 2 U ?_
 first|refine Am (s:=12) (Aa U) (fun c12=> ?_) (fun c12=> ?_)|refine A1 (s:=12) (Aa U) (fun c12=> ?_) (fun c12=> ?_)
 ·refine kO tb 31 [2,3,41] rfl U (rG tb 8 U (Ai U (Kq U) ?_));exact⟨_,⟨_,rfl,rfl⟩,sbt⟩
 ·refine rO tb 1 U (Az (Kr U isAgg9 (by first|exact c_o)) U (A3 U U (Aa U)) ?_);refine rO tb 1 U (Az (Kr U isAgg9 (by first|exact c_o)) U (A3 U U (Aa U)) ?_);refine Az (yl_neSD (T U) (T U)) U (A3 U U (Aa U)) (rO tb 2 U ?_)
  first|refine Am (s:=19) (Aa U) (fun c19=> ?_) (fun c19=> ?_)|refine A1 (s:=19) (Aa U) (fun c19=> ?_) (fun c19=> ?_)
  ·refine kO tb 24 [2,3,41] rfl U (rG tb 8 U (Ai U (Kq U) ?_));exact⟨_,⟨_,rfl,rfl⟩,sbt⟩
  ·refine rO tb 1 U (Az (Kr U isAgg3 (by first|exact c_o)) U (A3 U U (Aa U)) ?_);refine rO tb 1 U (Az (Kr U isAgg3 (by first|exact c_o)) U (A3 U U (Aa U)) ?_);refine rO tb 3 U ?_
   first|refine Am (s:=26) (Aa U) (fun c26=> ?_) (fun c26=> ?_)|refine A1 (s:=26) (Aa U) (fun c26=> ?_) (fun c26=> ?_)
   ·refine kO tb 17 [2,3,41] rfl U (rG tb 8 U (Ai U (Kq U) ?_));exact⟨_,⟨_,rfl,rfl⟩,sbt⟩
   ·refine rO tb 1 U (Az (Kr U isAgg3 (by first|exact c_o)) U (A3 U U (Aa U)) ?_);refine rO tb 1 U (Az (Kr U isAgg3 (by first|exact c_o)) U (A3 U U (Aa U)) ?_);refine rO tb 3 U ?_
    first|refine Am (s:=33) (Aa U) (fun c33=> ?_) (fun c33=> ?_)|refine A1 (s:=33) (Aa U) (fun c33=> ?_) (fun c33=> ?_)
    ·refine kO tb 10 [2,3,41] rfl U (rG tb 8 U (Ai U (Kq U) ?_));exact⟨_,⟨_,rfl,rfl⟩,sbt⟩
    ·refine rO tb 1 U (Az (Kr U isAgg23 (by first|exact c_o)) U (A3 U U (Aa U)) ?_);refine rO tb 2 U (Az (Kr U isAgg23 (by first|exact c_o)) U (A3 U U (Aa U)) ?_);refine kO tb 5 [2,3,41] rfl U ?_
     first|refine Ac (Aa U) (fun c41=> ?_) (fun c41=> ?_)|refine Ag (Aa U) (fun c41=> ?_) (fun c41=> ?_)
     ·refine rC tb 7 U (Ai U (Kq U) ?_);exact⟨_,⟨_,rfl,rfl⟩,sbt⟩
     ·refine rC tb 9 U ?_;refine A9 (X:=Nat) (V:=fun i=>[(5, .int .i64 (i:Nat))]) (C:=[(2,_),(3,_)]) (G:=fun i=>(n3,Cl [.int .i64 0, .string ⟨#[]⟩, .int .i64 0, .int .i64 0, .slice none 0 0] 25)::(n2,Cl (encPd m) 25)::H) (φ:=fun i=>True) (μ:=fun i=>0) (x0:=0) ?_ ⟨Aa U,Aa U,trivial⟩ ⟨atd,trivial⟩ sb0 ?_
      ·trivial
      rintro i _;refine rD tb 5 U (y_ (Kr U isAgg23 (by first|exact c_o)) ?_ U);refine rO tb 4 U ?_
      first|refine Ac (Aa U) (fun c46=> ?_) (fun c46=> ?_)|refine Ag (Aa U) (fun c46=> ?_) (fun c46=> ?_)
      ·exfalso;have h9:((i:Nat):Int)<(m.subs.length:Nat):=c46;omega
      ·refine rC tb 2 U (Ao (rX tb 8 U (Ai U (Kq U) ?_)));exact⟨_,⟨_,rfl,rfl⟩,sbt⟩
def NmP (m:Pdm):Prop:=∀ a∈prtP m,a.nm.size≤9223372036854775807
def NmO (m:Pom):Prop:=∀ a∈prtO m,a.nm.size≤9223372036854775807∧NmP a.pr
theorem prtPL_mem {l:List Pdm}{a b:Pdm}(ha:a∈l)(hb:b∈prtP a):b∈prtPL l:=by
 induction l with
 |nil=>cases ha
 |cons x l ih=>
  rw[prtPL];rcases List.mem_cons.1 ha with rfl|ha
  ·exact List.mem_append.2 (.inl hb)
  ·exact List.mem_append.2 (.inr (ih ha))
theorem prtOL_mem {l:List Pom}{a b:Pom}(ha:a∈l)(hb:b∈prtO a):b∈prtOL l:=by
 induction l with
 |nil=>cases ha
 |cons x l ih=>
  rw[prtOL];rcases List.mem_cons.1 ha with rfl|ha
  ·exact List.mem_append.2 (.inl hb)
  ·exact List.mem_append.2 (.inr (ih ha))
theorem NmP.self {m:Pdm}(h:NmP m):m.nm.size≤9223372036854775807:=h m (by rw[Gn];simp)
theorem NmO.self {m:Pom}(h:NmO m):m.nm.size≤9223372036854775807∧NmP m.pr:=h m (by rw[Gp];simp)
theorem NmP.sub {m a:Pdm}(h:NmP m)(ha:a∈m.subs):NmP a:=fun b hb=>h b (by rw[Gn];exact List.mem_cons_of_mem _ (prtPL_mem ha hb))
theorem NmO.sub {m a:Pom}(h:NmO m)(ha:a∈m.subs):NmO a:=fun b hb=>h b (by rw[Gp];exact List.mem_cons_of_mem _ (prtOL_mem ha hb))
abbrev SayB (p:Prop) (H:List (Nat × Obj)):Value→List (Nat × Obj)→Prop:=fun u H'=>∃ b:Bool,(u= .bool b∧(b=true→p))∧H'=H
theorem C0 {α:Type}[Inhabited α] {l:List α}{p:α→Prop}(h:∀ j,j<l.length→p (gd l j)):∀ a∈l,p a:=fun a ha=>by
 obtain⟨i,hi,e⟩:=List.getElem_of_mem ha;have:=h i hi
 rwa [Ay hi,e] at this
def FmPS (w0:World) (N:Nat):Prop:=∀ {H:List (Nat × Obj)} {m:Pdm},PdM w0 H m→m.sz≤N→NmP m→FSpec Tryz.prog w0 159 #[.agg (encPd m).toArray] H (SayB (FmP m) H)
def FmOS (w0:World) (N:Nat):Prop:=∀ {H:List (Nat × Obj)} {m:Pom},PoM w0 H m→m.sz≤N→NmO m→FSpec Tryz.prog w0 117 #[.agg (encPo m).toArray] H (SayB (FmO m) H)
theorem fmP_step {w0:World}{H:List (Nat × Obj)}{N:Nat}(hN:N≤1000000000)(ih:FmPS w0 N){m:Pdm}(hM:PdM w0 H m)(hm:m.sz≤N+1)(hz:NmP m):
  FSpec Tryz.prog w0 159 #[.agg (encPd m).toArray] H (SayB (FmP m) H):=by
 refine An Tryz.func159 U ntmps159 U ?_;have hsz:=Ij m;have hln:=szPL_len m.subs;refine rD tb 2 U (e_ (Kw U cs_) ?_ U);rintro _ _ ⟨n1,rfl,rfl⟩;refine rO tb 6 U (y_ (Kr U isAgg9 (by first|exact c_o)) ?_ U);refine e_ (Ar (qe1 U) call157 (named_s m.nm hz.self)) ?_ U;rintro _ _ ⟨b9,rfl,rfl⟩;refine rO tb 3 U ?_;refine Ea (X:=Bool) (V:=fun x4=>[(4, .bool x4)]) (C:=[(1,_),(3,_)]) (φ:=fun x4=>(x4=true→0≤m.val)) ⟨Aa U,Aa U,trivial⟩ ?_ ?_
 ·refine rD tb 2 U (y_ (Kr U isAgg3 (by first|exact c_o)) ?_ U);refine rO tb 2 U ?_
  first|refine Am (s:=16) (Aa U) (fun c16=> ?_) (fun c16=> ?_)|refine A1 (s:=16) (Aa U) (fun c16=> ?_) (fun c16=> ?_)
  ·refine rO tb 1 U (Az (Kr U isAgg3 (by first|exact c_o)) U (A3 U U (Aa U)) ?_);refine rO tb 4 U ?_;refine Bd (decide (m.val≤65535)) ?_ ⟨atd,trivial⟩ ⟨Aa U,Aa U,trivial⟩ sbt;intro h;first|exact c16|cases h
  ·refine rO tb 6 U ?_;refine Bd (false) ?_ ⟨atd,trivial⟩ ⟨Aa U,Aa U,trivial⟩ sbt;intro h;first|exact c16|cases h
 rintro x4 hv4;refine Ea (X:=Bool) (V:=fun x5=>[(5, .bool x5)]) (C:=[(1,_),(3,_),(4,_)]) (φ:=fun x5=>True) ⟨Aa U,Aa U,Aa U,trivial⟩ ?_ ?_
 ·refine rD tb 2 U (y_ (Kr U isAgg9 (by first|exact c_o)) ?_ U);refine y_ (D2 (T U) Aj) (rO tb 1 U ?_) U
  first|refine Am (s:=24) (Aa U) (fun c24=> ?_) (fun c24=> ?_)|refine A1 (s:=24) (Aa U) (fun c24=> ?_) (fun c24=> ?_)
  ·refine rO tb 1 U (Az (Kr U isAgg3 (by first|exact c_o)) U (A3 U U (Aa U)) ?_);refine rO tb 3 U ?_
   first|refine Am (s:=29) (Aa U) (fun c29=> ?_) (fun c29=> ?_)|refine A1 (s:=29) (Aa U) (fun c29=> ?_) (fun c29=> ?_)
   ·refine rO tb 1 U (Az (Kr U isAgg3 (by first|exact c_o)) U (A3 U U (Aa U)) ?_);refine rO tb 4 U ?_;refine Bd (decide (m.to=0)) ?_ ⟨atd,trivial⟩ ⟨Aa U,Aa U,Aa U,trivial⟩ sbt
    trivial
   ·refine rO tb 6 U ?_;refine Bd (false) ?_ ⟨atd,trivial⟩ ⟨Aa U,Aa U,Aa U,trivial⟩ sbt
    trivial
  ·refine rO tb 11 U ?_;refine Bd (false) ?_ ⟨atd,trivial⟩ ⟨Aa U,Aa U,Aa U,trivial⟩ sbt
   trivial
 rintro x5 _;refine rC tb 10 U ?_;refine Ea (X:=Bool × Nat) (V:=fun ⟨b6,n6⟩=>[(6, .int .i64 (n6:Nat)),(7, .bool b6)]) (C:=[(1,_)]) (φ:=fun ⟨b6,n6⟩=>(b6=true→LcP m n6)) ⟨Aa rfl,trivial⟩ ?_ ?_
 ·refine rD tb 3 U (y_ (Kr U isAgg3 (by first|exact c_o)) ?_ U);refine rO tb 10 U ?_
  first|refine Ac (Aa U) (fun c36=> ?_) (fun c36=> ?_)|refine Ag (Aa U) (fun c36=> ?_) (fun c36=> ?_)
  ·refine rC tb 2 U ?_
   first|refine C1 (Aa U) ?_|refine C1 (Ad (Aa U) (vbool (decide_eq_true c36))) ?_
   refine rC tb 5 U ?_;refine Bd ((x5,0)) ?_ ⟨atd,atd,trivial⟩ ⟨Aa U,trivial⟩ sbt;intro h;unfold LcP
   first|(exact absurd h qde)|omega|(have:=hv4 c46;omega)|(have:=hv4 c57;omega)
  ·refine rC tb 5 U ?_
   first|refine Ac (Aa U) (fun c36=> ?_) (fun c36=> ?_)|refine Ag (Aa U) (fun c36=> ?_) (fun c36=> ?_)
   ·refine rC tb 5 U ?_;refine Bd ((x5,0)) ?_ ⟨atd,atd,trivial⟩ ⟨Aa U,trivial⟩ sbt;intro h;unfold LcP
    first|(exact absurd h qde)|omega|(have:=hv4 c46;omega)|(have:=hv4 c57;omega)
   ·refine rC tb 6 U ?_
    first|refine Ac (Aa U) (fun c40=> ?_) (fun c40=> ?_)|refine Ag (Aa U) (fun c40=> ?_) (fun c40=> ?_)
    ·refine rC tb 3 U ?_
     first|refine Am (s:=43) (Aa U) (fun c43=> ?_) (fun c43=> ?_)|refine A1 (s:=43) (Aa U) (fun c43=> ?_) (fun c43=> ?_)
     ·refine rO tb 3 U ?_
      first|refine Am (s:=46) (Aa U) (fun c46=> ?_) (fun c46=> ?_)|refine A1 (s:=46) (Aa U) (fun c46=> ?_) (fun c46=> ?_)
      ·refine rO tb 1 U (Az (Kr U isAgg3 (by first|exact c_o)) U (A3 U U (Aa U)) ?_);refine rO tb 5 U ?_;refine Bd ((decide (m.to=0),0)) ?_ ⟨atd,atd,trivial⟩ ⟨Aa U,trivial⟩ sbt;intro h;unfold LcP
       first|(exact absurd h qde)|omega|(have:=hv4 c46;omega)|(have:=hv4 c57;omega)
      ·refine rO tb 7 U ?_;refine Bd ((false,0)) ?_ ⟨atd,atd,trivial⟩ ⟨Aa U,trivial⟩ sbt;intro h;unfold LcP
       first|(exact absurd h qde)|omega|(have:=hv4 c46;omega)|(have:=hv4 c57;omega)
     ·refine rO tb 10 U ?_;refine Bd ((false,0)) ?_ ⟨atd,atd,trivial⟩ ⟨Aa U,trivial⟩ sbt;intro h;unfold LcP
      first|(exact absurd h qde)|omega|(have:=hv4 c46;omega)|(have:=hv4 c57;omega)
    ·refine rC tb 6 U ?_
     first|refine Ac (Aa U) (fun c51=> ?_) (fun c51=> ?_)|refine Ag (Aa U) (fun c51=> ?_) (fun c51=> ?_)
     ·refine rC tb 3 U ?_
      first|refine Am (s:=54) (Aa U) (fun c54=> ?_) (fun c54=> ?_)|refine A1 (s:=54) (Aa U) (fun c54=> ?_) (fun c54=> ?_)
      ·refine rO tb 3 U ?_
       first|refine Am (s:=57) (Aa U) (fun c57=> ?_) (fun c57=> ?_)|refine A1 (s:=57) (Aa U) (fun c57=> ?_) (fun c57=> ?_)
       ·refine rO tb 1 U (Az (Kr U isAgg3 (by first|exact c_o)) U (A3 U U (Aa U)) ?_);refine rO tb 3 U ?_
        first|refine Am (s:=62) (Aa U) (fun c62=> ?_) (fun c62=> ?_)|refine A1 (s:=62) (Aa U) (fun c62=> ?_) (fun c62=> ?_)
        ·refine rO tb 1 U (Az (Kr U isAgg3 (by first|exact c_o)) U (A3 U U (Aa U)) ?_);refine rO tb 5 U ?_;refine Bd ((decide (m.to≤16),0)) ?_ ⟨atd,atd,trivial⟩ ⟨Aa U,trivial⟩ sbt;intro h;unfold LcP
         first|(exact absurd h qde)|omega|(have:=hv4 c46;omega)|(have:=hv4 c57;omega)
        ·refine rO tb 7 U ?_;refine Bd ((false,0)) ?_ ⟨atd,atd,trivial⟩ ⟨Aa U,trivial⟩ sbt;intro h;unfold LcP
         first|(exact absurd h qde)|omega|(have:=hv4 c46;omega)|(have:=hv4 c57;omega)
       ·refine rO tb 12 U ?_;refine Bd ((false,0)) ?_ ⟨atd,atd,trivial⟩ ⟨Aa U,trivial⟩ sbt;intro h;unfold LcP
        first|(exact absurd h qde)|omega|(have:=hv4 c46;omega)|(have:=hv4 c57;omega)
      ·refine rO tb 15 U ?_;refine Bd ((false,0)) ?_ ⟨atd,atd,trivial⟩ ⟨Aa U,trivial⟩ sbt;intro h;unfold LcP
       first|(exact absurd h qde)|omega|(have:=hv4 c46;omega)|(have:=hv4 c57;omega)
     ·refine rC tb 6 U ?_
      first|refine Ac (Aa U) (fun c67=> ?_) (fun c67=> ?_)|refine Ag (Aa U) (fun c67=> ?_) (fun c67=> ?_)
      ·refine rC tb 3 U ?_
       first|refine Am (s:=70) (Aa U) (fun c70=> ?_) (fun c70=> ?_)|refine A1 (s:=70) (Aa U) (fun c70=> ?_) (fun c70=> ?_)
       ·refine rO tb 1 U (Az (Kr U isAgg3 (by first|exact c_o)) U (A3 U U (Aa U)) ?_);refine rO tb 3 U ?_
        first|refine Am (s:=75) (Aa U) (fun c75=> ?_) (fun c75=> ?_)|refine A1 (s:=75) (Aa U) (fun c75=> ?_) (fun c75=> ?_)
        ·refine rO tb 1 U (Az (Kr U isAgg3 (by first|exact c_o)) U (A3 U U (Aa U)) ?_);refine rO tb 1 U (Az (Kr U isAgg3 (by first|exact c_o)) U (A3 U U (Aa U)) ?_);refine rO tb 3 U ?_
         first|refine Am (s:=82) (Aa U) (fun c82=> ?_) (fun c82=> ?_)|refine A1 (s:=82) (Aa U) (fun c82=> ?_) (fun c82=> ?_)
         ·refine rO tb 1 U (Az (Kr U isAgg3 (by first|exact c_o)) U (A3 U U (Aa U)) ?_);refine rO tb 5 U ?_;refine Bd ((decide (m.to≤65535),0)) ?_ ⟨atd,atd,trivial⟩ ⟨Aa U,trivial⟩ sbt;intro h;unfold LcP
          first|(exact absurd h qde)|omega|(have:=hv4 c46;omega)|(have:=hv4 c57;omega)
         ·refine rO tb 7 U ?_;refine Bd ((false,0)) ?_ ⟨atd,atd,trivial⟩ ⟨Aa U,trivial⟩ sbt;intro h;unfold LcP
          first|(exact absurd h qde)|omega|(have:=hv4 c46;omega)|(have:=hv4 c57;omega)
        ·refine rO tb 14 U ?_;refine Bd ((false,0)) ?_ ⟨atd,atd,trivial⟩ ⟨Aa U,trivial⟩ sbt;intro h;unfold LcP
         first|(exact absurd h qde)|omega|(have:=hv4 c46;omega)|(have:=hv4 c57;omega)
       ·refine rO tb 19 U ?_;refine Bd ((false,0)) ?_ ⟨atd,atd,trivial⟩ ⟨Aa U,trivial⟩ sbt;intro h;unfold LcP
        first|(exact absurd h qde)|omega|(have:=hv4 c46;omega)|(have:=hv4 c57;omega)
      ·refine rC tb 6 U ?_
       first|refine Ac (Aa U) (fun c87=> ?_) (fun c87=> ?_)|refine Ag (Aa U) (fun c87=> ?_) (fun c87=> ?_)
       ·refine rC tb 10 U ?_;refine Bd ((x5,1)) ?_ ⟨atd,atd,trivial⟩ ⟨Aa U,trivial⟩ sbt;intro h;unfold LcP
        first|(exact absurd h qde)|omega|(have:=hv4 c46;omega)|(have:=hv4 c57;omega)
       ·refine rC tb 7 U ?_
        first|refine Ac (Aa U) (fun c90=> ?_) (fun c90=> ?_)|refine Ag (Aa U) (fun c90=> ?_) (fun c90=> ?_)
        ·refine rC tb 2 U ?_
         first|refine C1 (Aa U) ?_|refine C1 (Ad (Aa U) (vbool (decide_eq_true c90))) ?_
         refine rC tb 10 U ?_;refine Bd ((x5,2)) ?_ ⟨atd,atd,trivial⟩ ⟨Aa U,trivial⟩ sbt;intro h;unfold LcP
         first|(exact absurd h qde)|omega|(have:=hv4 c46;omega)|(have:=hv4 c57;omega)
        ·refine rC tb 5 U ?_
         first|refine Ac (Aa U) (fun c90=> ?_) (fun c90=> ?_)|refine Ag (Aa U) (fun c90=> ?_) (fun c90=> ?_)
         ·refine rC tb 10 U ?_;refine Bd ((x5,2)) ?_ ⟨atd,atd,trivial⟩ ⟨Aa U,trivial⟩ sbt;intro h;unfold LcP
          first|(exact absurd h qde)|omega|(have:=hv4 c46;omega)|(have:=hv4 c57;omega)
         ·refine rC tb 6 U ?_
          first|refine Ac (Aa U) (fun c94=> ?_) (fun c94=> ?_)|refine Ag (Aa U) (fun c94=> ?_) (fun c94=> ?_)
          ·refine rC tb 2 U (y_ (Kr U isAgg9 (by first|exact c_o)) ?_ U);refine y_ (D2 (T U) Aj) (rO tb 1 U ?_) U
           first|refine Am (s:=99) (Aa U) (fun c99=> ?_) (fun c99=> ?_)|refine A1 (s:=99) (Aa U) (fun c99=> ?_) (fun c99=> ?_)
           ·refine rO tb 1 U (Az (Kr U isAgg3 (by first|exact c_o)) U (A3 U U (Aa U)) ?_);refine rO tb 3 U ?_
            first|refine Am (s:=104) (Aa U) (fun c104=> ?_) (fun c104=> ?_)|refine A1 (s:=104) (Aa U) (fun c104=> ?_) (fun c104=> ?_)
            ·refine rO tb 1 U (Az (Kr U isAgg3 (by first|exact c_o)) U (A3 U U (Aa U)) ?_);refine rO tb 1 U (Az (Kr U isAgg3 (by first|exact c_o)) U (A3 U U (Aa U)) ?_);refine rO tb 3 U ?_
             first|refine Am (s:=111) (Aa U) (fun c111=> ?_) (fun c111=> ?_)|refine A1 (s:=111) (Aa U) (fun c111=> ?_) (fun c111=> ?_)
             ·refine rO tb 1 U (Az (Kr U isAgg3 (by first|exact c_o)) U (A3 U U (Aa U)) ?_);refine rO tb 5 U ?_;refine Bd ((decide (m.to≤1073741824),0)) ?_ ⟨atd,atd,trivial⟩ ⟨Aa U,trivial⟩ sbt;intro h;unfold LcP
              first|(exact absurd h qde)|omega|(have:=hv4 c46;omega)|(have:=hv4 c57;omega)
             ·refine rO tb 7 U ?_;refine Bd ((false,0)) ?_ ⟨atd,atd,trivial⟩ ⟨Aa U,trivial⟩ sbt;intro h;unfold LcP
              first|(exact absurd h qde)|omega|(have:=hv4 c46;omega)|(have:=hv4 c57;omega)
            ·refine rO tb 14 U ?_;refine Bd ((false,0)) ?_ ⟨atd,atd,trivial⟩ ⟨Aa U,trivial⟩ sbt;intro h;unfold LcP
             first|(exact absurd h qde)|omega|(have:=hv4 c46;omega)|(have:=hv4 c57;omega)
           ·refine rO tb 19 U ?_;refine Bd ((false,0)) ?_ ⟨atd,atd,trivial⟩ ⟨Aa U,trivial⟩ sbt;intro h;unfold LcP
            first|(exact absurd h qde)|omega|(have:=hv4 c46;omega)|(have:=hv4 c57;omega)
          ·refine rC tb 2 U ?_;refine Bd ((false,0)) ?_ ⟨atd,atd,trivial⟩ ⟨Aa U,trivial⟩ sbt;intro h;unfold LcP
           first|(exact absurd h qde)|omega|(have:=hv4 c46;omega)|(have:=hv4 c57;omega)
 rintro⟨b6,n6⟩ hx6;refine rC tb 4 U ?_
 first|refine Az (Bq (T U)) U Ae ?_|refine Az (B2 (T U)) U Ae ?_
 refine rO tb 1 U ?_
 first|refine Am (s:=118) (Aa U) (fun c118=> ?_) (fun c118=> ?_)|refine A1 (s:=118) (Aa U) (fun c118=> ?_) (fun c118=> ?_)
 ·skip
  refine rO tb 16 U (Ai U (Kq U) ?_);exact⟨_,⟨false,⟨rfl,fun h=>by cases h⟩,rfl⟩,sbt⟩
 ·have hb6:=hx6 (by simpa using c118);refine rO tb 1 U (Az (Kr U isAgg23 (by first|exact c_o)) U (A3 U U (Aa U)) ?_);refine rO tb 6 U ?_
  first|refine Ac (Aa U) (fun c124=> ?_) (fun c124=> ?_)|refine Ag (Aa U) (fun c124=> ?_) (fun c124=> ?_)
  ·skip
   refine rC tb 7 U (Ai U (Kq U) ?_);exact⟨_,⟨false,⟨rfl,fun h=>by cases h⟩,rfl⟩,sbt⟩
  ·have hn6:m.subs.length=n6:=by have h9: ¬ ¬ ((m.subs.length:Nat):Int)=(n6:Nat):=c124;omega
   refine rC tb 9 U ?_;refine A9 (X:=Nat) (V:=fun i=>[(8, .int .i64 (i:Nat))]) (C:=[(1,_),(6,_)]) (G:=fun i=>(n1,Cl (encPd m) 25)::H) (φ:=fun i=>i≤n6∧∀ j,j<i→FmP (gd m.subs j)) (μ:=fun i=>n6 - i) (x0:=0) ?_ ⟨Aa U,Aa U,trivial⟩ ⟨atd,trivial⟩ sb0 ?_
   ·exact⟨Nat.zero_le _,fun j hj=>absurd hj (Nat.not_lt_zero _)⟩
   rintro i ⟨hi,hfm⟩;refine rD tb 8 U ?_
   first|refine Ac (Aa U) (fun c127=> ?_) (fun c127=> ?_)|refine Ag (Aa U) (fun c127=> ?_) (fun c127=> ?_)
   ·have hin:i<n6:=by have h9:((i:Nat):Int)<(n6:Nat):=c127;omega
    have hi2:i<m.subs.length:=by omega
    have hss:=szPL_mem (A2 hi2);refine rC tb 7 U (y_ (Kr U isAgg23 (by first|exact c_o)) ?_ U);refine rO tb 1 U (y_ (Ku U U runUnderlying23 sizeOf25 qom (by first|exact rfl|exact hM.arr.b (i:=i) hi2)) ?_ U);refine y_ (Ks U isAgg25 sizeOf25 U (by first|exact(hM.arr.mono (by exact sbt)).cs (i:=i) hi2|exact Av)) ?_ U;refine e_ (Ar (qe1 U) call159 (ih ((hM.sub (A2 hi2)).mono (by exact sbt)) qom (hz.sub (A2 hi2)))) ?_ U;rintro _ _ ⟨b1,⟨rfl,hb1⟩,rfl⟩;refine rO tb 6 U ?_
    first|refine Az (Bq (T U)) U Ae ?_|refine Az (B2 (T U)) U Ae ?_
    refine rO tb 2 U ?_
    first|refine Ac (Aa U) (fun c137=> ?_) (fun c137=> ?_)|refine Ag (Aa U) (fun c137=> ?_) (fun c137=> ?_)
    ·skip
     refine rC tb 8 U (Ba (rX tb 2 U (Ai U (Kq U) ?_)));exact⟨_,⟨false,⟨rfl,fun h=>by cases h⟩,rfl⟩,sbt⟩
    ·have hbt:b1=true:=by simpa using c137
     refine rC tb 5 U (y_ (A4 (T U) Aj qom) ?_ U);refine rO tb 2 U ?_;refine A0 (i+1) ?_ ?_ ⟨atd,trivial⟩ ⟨Aa U,Aa U,trivial⟩ ?_
     ·refine⟨hin,fun j hj=> ?_⟩
      by_cases e:j=i
      ·subst e;exact hb1 hbt
      ·exact hfm j qom
     ·first|omega|(simp only[];omega)
     ·exact sbt
   ·obtain rfl:i=n6:=by have h9: ¬ ((i:Nat):Int)<(n6:Nat):=c127;omega
    refine rC tb 2 U (Ao (rX tb 8 U (Ai U (Kq U) ?_)));exact⟨_,⟨true,⟨rfl,fun _=> .mk (by rw[hn6];exact hb6) (C0 (by rw[hn6];exact hfm))⟩,rfl⟩,sbt⟩
theorem fmO_step {w0:World}{H:List (Nat × Obj)}{N:Nat}(hN:N≤1000000000)(ih:FmOS w0 N)(ihP:FmPS w0 N){m:Pom}(hM:PoM w0 H m)(hm:m.sz≤N+1)(hz:NmO m):
  FSpec Tryz.prog w0 117 #[.agg (encPo m).toArray] H (SayB (FmO m) H):=by
 refine An Tryz.func117 U ntmps117 U ?_;have hsz:=Ew m;have hln:=Gb m.subs;refine rD tb 2 U (e_ (Kw U cs_) ?_ U);rintro _ _ ⟨n1,rfl,rfl⟩;refine rO tb 6 U (y_ (Kr U isAgg9 (by first|exact c_o)) ?_ U);refine e_ (Ar (qe1 U) call157 (named_s m.nm hz.self.1)) ?_ U;rintro _ _ ⟨b9,rfl,rfl⟩;refine rO tb 6 U ?_;refine y_ (Ks U isAgg25 sizeOf25 U (by first|exact J0 (by repeat (first|exact As|refine Ax ?_))|exact Av)) ?_ U;refine y_ (A8 .nil (zbd25_z)) (e_ (Ar (qe2 U U) call158 (sameP0_s m.pr)) ?_ U) U;rintro _ _ ⟨b8,rfl,rfl⟩;refine rO tb 3 U ?_;refine Ea (X:=Bool) (V:=fun x5=>[(5, .bool x5)]) (C:=[(1,_),(3,_),(4,_)]) (φ:=fun x5=>True) ⟨Aa U,Aa U,Aa U,trivial⟩ ?_ ?_
 ·refine rD tb 2 U (y_ (Kr U isAgg9 (by first|exact c_o)) ?_ U);refine y_ (D2 (T U) Aj) (rO tb 1 U ?_) U
  first|refine Am (s:=20) (Aa U) (fun c20=> ?_) (fun c20=> ?_)|refine A1 (s:=20) (Aa U) (fun c20=> ?_) (fun c20=> ?_)
  ·refine rO tb 1 U (Az (Kr U isAgg3 (by first|exact c_o)) U (A3 U U (Aa U)) ?_);refine rO tb 4 U ?_;refine Bd (decide (m.n=0)) ?_ ⟨atd,trivial⟩ ⟨Aa U,Aa U,Aa U,trivial⟩ sbt
   trivial
  ·refine rO tb 6 U ?_;refine Bd (false) ?_ ⟨atd,trivial⟩ ⟨Aa U,Aa U,Aa U,trivial⟩ sbt
   trivial
 rintro x5 _;refine rC tb 10 U ?_;refine Ea (X:=Bool × Nat) (V:=fun ⟨b6,n6⟩=>[(6, .int .i64 (n6:Nat)),(7, .bool b6)]) (C:=[(1,_)]) (φ:=fun ⟨b6,n6⟩=>(b6=true→LcO m n6)) ⟨Aa rfl,trivial⟩ ?_ ?_
 ·refine rD tb 3 U (y_ (Kr U isAgg3 (by first|exact c_o)) ?_ U);refine rO tb 9 U ?_
  first|refine Ac (Aa U) (fun c27=> ?_) (fun c27=> ?_)|refine Ag (Aa U) (fun c27=> ?_) (fun c27=> ?_)
  ·refine rC tb 2 U ?_;refine y_ (Ks U isAgg25 sizeOf25 U (by first|exact J0 (by repeat (first|exact As|refine Ax ?_))|exact Av)) ?_ U;refine e_ (Ar (qe1 U) call159 (ihP (hM.pred.mono (by exact sbt)) qom hz.self.2)) ?_ U;rintro _ _ ⟨b2,⟨rfl,hb2⟩,rfl⟩;refine rO tb 1 U ?_
   first|refine Am (s:=32) (Aa U) (fun c32=> ?_) (fun c32=> ?_)|refine A1 (s:=32) (Aa U) (fun c32=> ?_) (fun c32=> ?_)
   ·refine rO tb 5 U ?_;refine Bd ((x5,0)) ?_ ⟨atd,atd,trivial⟩ ⟨Aa U,trivial⟩ sbt;intro h;unfold LcO
    first|(exact absurd h qde)|omega|(have:=hb2 c32;exact .inl ⟨rfl, .inl ⟨c27,this⟩⟩)
   ·refine rO tb 5 U ?_;refine Bd ((false,0)) ?_ ⟨atd,atd,trivial⟩ ⟨Aa U,trivial⟩ sbt;intro h;unfold LcO
    first|(exact absurd h qde)|omega|(have:=hb2 c32;exact .inl ⟨rfl, .inl ⟨c27,this⟩⟩)
  ·refine rC tb 6 U ?_
   first|refine Ac (Aa U) (fun c35=> ?_) (fun c35=> ?_)|refine Ag (Aa U) (fun c35=> ?_) (fun c35=> ?_)
   ·refine rC tb 3 U ?_
    first|refine Am (s:=38) (Aa U) (fun c38=> ?_) (fun c38=> ?_)|refine A1 (s:=38) (Aa U) (fun c38=> ?_) (fun c38=> ?_)
    ·refine rO tb 3 U ?_
     first|refine Am (s:=41) (Aa U) (fun c41=> ?_) (fun c41=> ?_)|refine A1 (s:=41) (Aa U) (fun c41=> ?_) (fun c41=> ?_)
     ·refine rO tb 1 U (Az (Kr U isAgg3 (by first|exact c_o)) U (A3 U U (Aa U)) ?_);refine rO tb 3 U ?_
      first|refine Am (s:=46) (Aa U) (fun c46=> ?_) (fun c46=> ?_)|refine A1 (s:=46) (Aa U) (fun c46=> ?_) (fun c46=> ?_)
      ·refine rO tb 1 U (Az (Kr U isAgg3 (by first|exact c_o)) U (A3 U U (Aa U)) ?_);refine rO tb 5 U ?_;refine Bd ((decide (m.n≤65535),0)) ?_ ⟨atd,atd,trivial⟩ ⟨Aa U,trivial⟩ sbt;intro h;unfold LcO
       first|(exact absurd h qde)|omega|(have:=hb2 c32;exact .inl ⟨rfl, .inl ⟨c27,this⟩⟩)
      ·refine rO tb 7 U ?_;refine Bd ((false,0)) ?_ ⟨atd,atd,trivial⟩ ⟨Aa U,trivial⟩ sbt;intro h;unfold LcO
       first|(exact absurd h qde)|omega|(have:=hb2 c32;exact .inl ⟨rfl, .inl ⟨c27,this⟩⟩)
     ·refine rO tb 12 U ?_;refine Bd ((false,0)) ?_ ⟨atd,atd,trivial⟩ ⟨Aa U,trivial⟩ sbt;intro h;unfold LcO
      first|(exact absurd h qde)|omega|(have:=hb2 c32;exact .inl ⟨rfl, .inl ⟨c27,this⟩⟩)
    ·refine rO tb 15 U ?_;refine Bd ((false,0)) ?_ ⟨atd,atd,trivial⟩ ⟨Aa U,trivial⟩ sbt;intro h;unfold LcO
     first|(exact absurd h qde)|omega|(have:=hb2 c32;exact .inl ⟨rfl, .inl ⟨c27,this⟩⟩)
   ·refine rC tb 7 U ?_
    first|refine Ac (Aa U) (fun c51=> ?_) (fun c51=> ?_)|refine Ag (Aa U) (fun c51=> ?_) (fun c51=> ?_)
    ·refine rC tb 2 U ?_
     first|refine C1 (Aa U) ?_|refine C1 (Ad (Aa U) (vbool (decide_eq_true c51))) ?_
     refine rC tb 4 U ?_
     first|refine Am (s:=55) (Aa U) (fun c55=> ?_) (fun c55=> ?_)|refine A1 (s:=55) (Aa U) (fun c55=> ?_) (fun c55=> ?_)
     ·refine rO tb 9 U ?_;refine Bd ((x5,2)) ?_ ⟨atd,atd,trivial⟩ ⟨Aa U,trivial⟩ sbt;intro h;unfold LcO
      first|(exact absurd h qde)|omega|(have:=hb2 c32;exact .inl ⟨rfl, .inl ⟨c27,this⟩⟩)
     ·refine rO tb 9 U ?_;refine Bd ((false,2)) ?_ ⟨atd,atd,trivial⟩ ⟨Aa U,trivial⟩ sbt;intro h;unfold LcO
      first|(exact absurd h qde)|omega|(have:=hb2 c32;exact .inl ⟨rfl, .inl ⟨c27,this⟩⟩)
    ·refine rC tb 5 U ?_
     first|refine Ac (Aa U) (fun c51=> ?_) (fun c51=> ?_)|refine Ag (Aa U) (fun c51=> ?_) (fun c51=> ?_)
     ·refine rC tb 4 U ?_
      first|refine Am (s:=55) (Aa U) (fun c55=> ?_) (fun c55=> ?_)|refine A1 (s:=55) (Aa U) (fun c55=> ?_) (fun c55=> ?_)
      ·refine rO tb 9 U ?_;refine Bd ((x5,2)) ?_ ⟨atd,atd,trivial⟩ ⟨Aa U,trivial⟩ sbt;intro h;unfold LcO
       first|(exact absurd h qde)|omega|(have:=hb2 c32;exact .inl ⟨rfl, .inl ⟨c27,this⟩⟩)
      ·refine rO tb 9 U ?_;refine Bd ((false,2)) ?_ ⟨atd,atd,trivial⟩ ⟨Aa U,trivial⟩ sbt;intro h;unfold LcO
       first|(exact absurd h qde)|omega|(have:=hb2 c32;exact .inl ⟨rfl, .inl ⟨c27,this⟩⟩)
     ·refine rC tb 6 U ?_
      first|refine Ac (Aa U) (fun c58=> ?_) (fun c58=> ?_)|refine Ag (Aa U) (fun c58=> ?_) (fun c58=> ?_)
      ·refine rC tb 4 U ?_
       first|refine Am (s:=61) (Aa U) (fun c61=> ?_) (fun c61=> ?_)|refine A1 (s:=61) (Aa U) (fun c61=> ?_) (fun c61=> ?_)
       ·refine rO tb 9 U ?_;refine Bd ((x5,1)) ?_ ⟨atd,atd,trivial⟩ ⟨Aa U,trivial⟩ sbt;intro h;unfold LcO
        first|(exact absurd h qde)|omega|(have:=hb2 c32;exact .inl ⟨rfl, .inl ⟨c27,this⟩⟩)
       ·refine rO tb 9 U ?_;refine Bd ((false,1)) ?_ ⟨atd,atd,trivial⟩ ⟨Aa U,trivial⟩ sbt;intro h;unfold LcO
        first|(exact absurd h qde)|omega|(have:=hb2 c32;exact .inl ⟨rfl, .inl ⟨c27,this⟩⟩)
      ·refine rC tb 2 U ?_;refine Bd ((false,0)) ?_ ⟨atd,atd,trivial⟩ ⟨Aa U,trivial⟩ sbt;intro h;unfold LcO
       first|(exact absurd h qde)|omega|(have:=hb2 c32;exact .inl ⟨rfl, .inl ⟨c27,this⟩⟩)
 rintro⟨b6,n6⟩ hx6;refine rC tb 4 U ?_
 first|refine Az (Bq (T U)) U Ae ?_|refine Az (B2 (T U)) U Ae ?_
 refine rO tb 1 U ?_
 first|refine Am (s:=66) (Aa U) (fun c66=> ?_) (fun c66=> ?_)|refine A1 (s:=66) (Aa U) (fun c66=> ?_) (fun c66=> ?_)
 ·skip
  refine rO tb 16 U (Ai U (Kq U) ?_);exact⟨_,⟨false,⟨rfl,fun h=>by cases h⟩,rfl⟩,sbt⟩
 ·have hb6:=hx6 (by simpa using c66);refine rO tb 1 U (Az (Kr U isAgg26 (by first|exact c_o)) U (A3 U U (Aa U)) ?_);refine rO tb 6 U ?_
  first|refine Ac (Aa U) (fun c72=> ?_) (fun c72=> ?_)|refine Ag (Aa U) (fun c72=> ?_) (fun c72=> ?_)
  ·skip
   refine rC tb 7 U (Ai U (Kq U) ?_);exact⟨_,⟨false,⟨rfl,fun h=>by cases h⟩,rfl⟩,sbt⟩
  ·have hn6:m.subs.length=n6:=by have h9: ¬ ¬ ((m.subs.length:Nat):Int)=(n6:Nat):=c72;omega
   refine rC tb 9 U ?_;refine A9 (X:=Nat) (V:=fun i=>[(8, .int .i64 (i:Nat))]) (C:=[(1,_),(6,_)]) (G:=fun i=>(n1,Cl (encPo m) 28)::H) (φ:=fun i=>i≤n6∧∀ j,j<i→FmO (gd m.subs j)) (μ:=fun i=>n6 - i) (x0:=0) ?_ ⟨Aa U,Aa U,trivial⟩ ⟨atd,trivial⟩ sb0 ?_
   ·exact⟨Nat.zero_le _,fun j hj=>absurd hj (Nat.not_lt_zero _)⟩
   rintro i ⟨hi,hfm⟩;refine rD tb 8 U ?_
   first|refine Ac (Aa U) (fun c75=> ?_) (fun c75=> ?_)|refine Ag (Aa U) (fun c75=> ?_) (fun c75=> ?_)
   ·have hin:i<n6:=by have h9:((i:Nat):Int)<(n6:Nat):=c75;omega
    have hi2:i<m.subs.length:=by omega
    have hss:=szOL_mem (A2 hi2);refine rC tb 7 U (y_ (Kr U isAgg26 (by first|exact c_o)) ?_ U);refine rO tb 1 U (y_ (Ku U U runUnderlying26 sizeOf28 qom (by first|exact rfl|exact hM.arr.b (i:=i) hi2)) ?_ U);refine y_ (Ks U isAgg28 sizeOf28 U (by first|exact(hM.arr.mono (by exact sbt)).cs (i:=i) hi2|exact Av)) ?_ U;refine e_ (Ar (qe1 U) call117 (ih ((hM.sub (A2 hi2)).mono (by exact sbt)) qom (hz.sub (A2 hi2)))) ?_ U;rintro _ _ ⟨b1,⟨rfl,hb1⟩,rfl⟩;refine rO tb 6 U ?_
    first|refine Az (Bq (T U)) U Ae ?_|refine Az (B2 (T U)) U Ae ?_
    refine rO tb 2 U ?_
    first|refine Ac (Aa U) (fun c85=> ?_) (fun c85=> ?_)|refine Ag (Aa U) (fun c85=> ?_) (fun c85=> ?_)
    ·skip
     refine rC tb 8 U (Ba (rX tb 2 U (Ai U (Kq U) ?_)));exact⟨_,⟨false,⟨rfl,fun h=>by cases h⟩,rfl⟩,sbt⟩
    ·have hbt:b1=true:=by simpa using c85
     refine rC tb 5 U (y_ (A4 (T U) Aj qom) ?_ U);refine rO tb 2 U ?_;refine A0 (i+1) ?_ ?_ ⟨atd,trivial⟩ ⟨Aa U,Aa U,trivial⟩ ?_
     ·refine⟨hin,fun j hj=> ?_⟩
      by_cases e:j=i
      ·subst e;exact hb1 hbt
      ·exact hfm j qom
     ·first|omega|(simp only[];omega)
     ·exact sbt
   ·obtain rfl:i=n6:=by have h9: ¬ ((i:Nat):Int)<(n6:Nat):=c75;omega
    refine rC tb 2 U (Ao (rX tb 8 U (Ai U (Kq U) ?_)));exact⟨_,⟨true,⟨rfl,fun _=> .mk (by rw[hn6];exact hb6) (C0 (by rw[hn6];exact hfm))⟩,rfl⟩,sbt⟩
theorem fmP_s {w0:World}(N:Nat)(hN:N≤1000000000):FmPS w0 N:=by
 induction N with
 |zero=>intro H m _ h _;have:=Ij m;omega
 |succ N ih=>
  have ih:FmPS w0 N:=ih qom;intro H m hM hm hz;exact fmP_step qom ih hM hm hz
theorem fmO_s {w0:World}(N:Nat)(hN:N≤1000000000):FmOS w0 N:=by
 induction N with
 |zero=>intro H m _ h _;have:=Ew m;omega
 |succ N ih=>
  have ih:FmOS w0 N:=ih qom;intro H m hM hm hz;exact fmO_step qom ih (fmP_s N qom) hM hm hz
theorem limit_s {w0:World}{H:List (Nat × Obj)}(n:Nat)(d:Int):
  FSpec Tryz.prog w0 156 #[szV n d] H (fun u H'=>∃ e:Int,(u= .int .i64 e∧(e=0→n≤200))∧H'=H):=by
 refine An Tryz.func156 U ntmps156 U (rD tb 2 U (e_ (Kw U cs_) ?_ U));rintro _ _ ⟨n1,rfl,rfl⟩;refine rO tb 7 U (y_ (Kr U isAgg3 (by first|exact c_o)) ?_ U);refine rO tb 2 U ?_
 first|refine Am (s:=6) (Aa U) (fun c6=> ?_) (fun c6=> ?_)|refine A1 (s:=6) (Aa U) (fun c6=> ?_) (fun c6=> ?_)
 ·skip
  refine rO tb 14 U (Ai U (Kq U) ?_);exact⟨_,⟨2,⟨rfl,fun h=>absurd h qde⟩,rfl⟩,sbt⟩
 ·have hn:n≤200:=by have h9: ¬ ((n:Nat):Int)>200:=c6;omega
  refine rO tb 1 U (Az (Kr U isAgg3 (by first|exact c_o)) U (A3 U U (Aa U)) ?_);refine rO tb 4 U ?_
  first|refine Ac (Aa U) (fun c10=> ?_) (fun c10=> ?_)|refine Ag (Aa U) (fun c10=> ?_) (fun c10=> ?_)
  ·refine rC tb 7 U (Ai U (Kq U) ?_);exact⟨_,⟨2,⟨rfl,fun h=>absurd h qde⟩,rfl⟩,sbt⟩
  ·refine rC tb 8 U (Ai U (Kq U) ?_);exact⟨_,⟨0,⟨rfl,fun h=>hn⟩,rfl⟩,sbt⟩
theorem formed_s {w0:World}{H:List (Nat × Obj)}(n:Nat)(d:Int)(b:Bool):
  FSpec Tryz.prog w0 116 #[szV n d, .bool b] H (fun u H'=>∃ e:Int,(u= .int .i64 e∧(e=0→n≤200∧b=true))∧H'=H):=by
 refine An Tryz.func116 U ntmps116 U (rD tb 2 U (e_ (Kw U cs_) ?_ U));rintro _ _ ⟨n2,rfl,rfl⟩;refine rO tb 5 U (y_ (Ks U isAgg84 sizeOf84 U (by first|exact Av)) ?_ U);refine e_ (Ar (qe1 U) call156 (limit_s n d)) ?_ U;rintro _ _ ⟨e1,⟨rfl,he1⟩,rfl⟩;refine rO tb 9 U ?_
 first|refine Am (s:=10) (Aa U) (fun c10=> ?_) (fun c10=> ?_)|refine A1 (s:=10) (Aa U) (fun c10=> ?_) (fun c10=> ?_)
 ·refine rO tb 1 U ?_
  first|refine Az (Bq (T U)) U (A3 U U (Aa U)) ?_|refine Az (B2 (T U)) U (A3 U U (Aa U)) ?_
  refine rO tb 3 U ?_
  first|refine Ac (Aa U) (fun c13=> ?_) (fun c13=> ?_)|refine Ag (Aa U) (fun c13=> ?_) (fun c13=> ?_)
  ·refine rC tb 7 U (Ai U (Kq U) ?_);exact⟨_,⟨1,⟨rfl,fun h=>absurd h qde⟩,rfl⟩,sbt⟩
  ·refine rC tb 9 U (Ai U (Kq U) ?_);exact⟨_,⟨e1,⟨rfl,fun h=>⟨he1 h,by simpa using c13⟩⟩,rfl⟩,sbt⟩
 ·refine rO tb 15 U (Ai U (Kq U) ?_);exact⟨_,⟨e1,⟨rfl,fun h=>absurd h c10⟩,rfl⟩,sbt⟩
theorem checkO_s {w0:World}{H:List (Nat × Obj)}{m:Pom}(hM:PoM w0 H m)(hm:m.sz≤1000000000)(hz:NmO m):
  FSpec Tryz.prog w0 84 #[.agg (encPo m).toArray] H (fun u H'=>∃ e:Int,(u= .int .i64 e∧(e=0→m.nd≤200∧FmO m))∧H'=H):=by
 refine An Tryz.func84 U ntmps84 U (rD tb 2 U (e_ (Kw U cs_) ?_ U));rintro _ _ ⟨n1,rfl,rfl⟩;refine rO tb 4 U (Bl 3 [(0,true),(2,true),(1,false)] ((n1,Cl (encPo m) 28)::H) mixd qkr sb0 ?_ Bp);refine o_y U (Ks U isAgg28 sizeOf28 U (by first|exact Av)) ?_ U Ae;refine o_y U (Ks U isAgg28 sizeOf28 U (by first|exact Av)) ?_ U Ae;refine o_e U (Ar (qe1 U) call41 (szO_s _ hm (hM.mono (by exact sbt)) (Nat.le_refl _))) ?_ U Ae;rintro _ _ ⟨z1,⟨rfl,y1,x1⟩,rfl⟩;refine⟨sbt,(A7 U (e_ (Ar (qe1 U) call117 (fmO_s _ hm (hM.mono (by exact sbt)) (Nat.le_refl _) hz)) ?_ U))⟩;rintro _ _ ⟨b1,⟨rfl,hb1⟩,rfl⟩;refine e_ (Ar (qe2 U U) call116 (formed_s _ _ _)) ?_ U;rintro _ _ ⟨e1,⟨rfl,he1⟩,rfl⟩;refine rO tb 4 U (Ai U (Kq U) ?_);exact⟨_,⟨e1,⟨rfl,fun h=>⟨(he1 h).1,hb1 (he1 h).2⟩⟩,rfl⟩,by exact sbt⟩
theorem zbs23_1_0 (a0:Int)(a1:ByteArray)(a2:Int)(a3:Int)(a4:Option Addr)(a4n a4c:Nat)(w:World):(Instr.buildSlice 23 1 #[(0, .agg #[.int .i64 a0, .string a1, .int .i64 a2, .int .i64 a3, .slice a4 a4n a4c])]).run Tryz.prog w= .ok (.slice (some ⟨w.heap.size,0,none⟩) 1 1) (w.alloc (Cl [.int .i64 a0, .string a1, .int .i64 a2, .int .i64 a3, .slice a4 a4n a4c] 25)):=by kernel_rfl
theorem zbs26_1_0 (a0:Int)(a1:Int)(a2:ByteArray)(a3:Int)(a4:Int)(a5:Option Addr)(a5n a5c:Nat)(a6:ByteArray)(a7:Int)(a8:Option Addr)(a8n a8c:Nat)(w:World):(Instr.buildSlice 26 1 #[(0, .agg #[.int .i64 a0, .int .i64 a1, .string a2, .int .i64 a3, .int .i64 a4, .slice a5 a5n a5c, .string a6, .int .i64 a7, .slice a8 a8n a8c])]).run Tryz.prog w= .ok (.slice (some ⟨w.heap.size,0,none⟩) 1 1) (w.alloc (Cl [.int .i64 a0, .int .i64 a1, .string a2, .int .i64 a3, .int .i64 a4, .slice a5 a5n a5c, .string a6, .int .i64 a7, .slice a8 a8n a8c] 28)):=by kernel_rfl
def PrP (w0:World) (N:Nat):Prop:=∀ {H:List (Nat × Obj)} {m:Pdm},PdM w0 H m→m.sz≤N→FSpec Tryz.prog w0 118 #[.agg (encPd m).toArray] H (fun u H'=>∃ d:Sl,(u=slV d (prtP m).length∧SlOk d (prtP m).length 5)∧H'=slH d ((prtP m).flatMap encPd) 25++H)
theorem prtP_step {w0:World}{H:List (Nat × Obj)}{N:Nat}(hN:N≤1000000000)(ih:PrP w0 N){m:Pdm}(hM:PdM w0 H m)(hm:m.sz≤N+1):
  FSpec Tryz.prog w0 118 #[.agg (encPd m).toArray] H (fun u H'=>∃ d:Sl,(u=slV d (prtP m).length∧SlOk d (prtP m).length 5)∧H'=slH d ((prtP m).flatMap encPd) 25++H):=by
 refine An Tryz.func118 U ntmps118 U ?_;have hsz:=Ij m;have hln:=szPL_len m.subs;have hpm:=Gn m;refine rD tb 2 U (e_ (Kw U cs_) ?_ U);rintro _ _ ⟨n1,rfl,rfl⟩;refine rO tb 5 U (y_ (Ks U isAgg25 sizeOf25 U (by first|exact Av)) ?_ U);refine e_ (Bh (.cons (T U) .nil) (zbs23_1_0 _ _ _ _ _ _ _)) ?_ U;rintro _ _ ⟨n6,rfl,rfl⟩;refine rO tb 10 U ?_;refine A9 (X:=Nat × Sl) (V:=fun ⟨i,d⟩=>[(3,slV d (m::prtPL (m.subs.take i)).length),(4, .int .i64 (i:Nat))]) (C:=[(1,_)]) (G:=fun ⟨i,d⟩=>slH d ((m::prtPL (m.subs.take i)).flatMap encPd) 25++((n1,Cl (encPd m) 25)::H)) (φ:=fun ⟨i,d⟩=>i≤m.subs.length∧SlOk d (m::prtPL (m.subs.take i)).length 5) (μ:=fun ⟨i,d⟩=>m.subs.length - i) (x0:=(0, .blk n6 1 [])) ?_ ⟨Aa rfl,trivial⟩ ⟨(by first|exact Aa rfl|(refine Ad (Aa rfl) (vint ?_);omega)|(refine Ad (Aa rfl) ?_;simp;done)|(refine Ad (Aa rfl) ?_;exact(by rw[e9,List.length_append]))),(by first|exact Aa rfl|(refine Ad (Aa rfl) (vint ?_);omega)|(refine Ad (Aa rfl) ?_;simp;done)|(refine Ad (Aa rfl) ?_;exact(by rw[e9,List.length_append]))),trivial⟩ (by exact List.Sublist.refl _) ?_
 ·exact⟨Nat.zero_le _,Nat.le_refl _,rfl⟩
 rintro⟨i,d⟩ ⟨hi,hd⟩;refine rD tb 5 U (y_ (Kr U isAgg23 (by first|exact c_o|exact Ah (by exact Be As:Fnd _ n1 (Cl (encPd m) 25)) 4 _ U)) ?_ U);refine rO tb 4 U ?_
 first|refine Ac (Aa U) (fun c11=> ?_) (fun c11=> ?_)|refine Ag (Aa U) (fun c11=> ?_) (fun c11=> ?_)
 ·have hi2:i<m.subs.length:=by have h9:((i:Nat):Int)<(m.subs.length:Nat):=c11;omega
  have htk:=prtPL_take hi2;have hss:=szPL_mem (A2 hi2);have hl1:=prtPL_len (m.subs.take i);have hl2:=szPL_all (l:=m.subs) i;have hl3:=prtP_len (gd m.subs i);have e9:(m::prtPL (m.subs.take (i+1)))=(m::prtPL (m.subs.take i))++prtP (gd m.subs i):=by rw[htk];rfl
  refine rC tb 7 U (y_ (Kr U isAgg23 (by first|exact c_o|exact Ah (by exact Be As:Fnd _ n1 (Cl (encPd m) 25)) 4 _ U)) ?_ U);refine rO tb 1 U (y_ (Ku U U runUnderlying23 sizeOf25 qom (by first|exact rfl|exact hM.arr.b (i:=i) hi2)) ?_ U);refine y_ (Ks U isAgg25 sizeOf25 U (by first|exact(hM.arr.mono (by exact sbt)).cs (i:=i) hi2|exact Av)) ?_ U;refine e_ (Ar (qe1 U) call118 (ih ((hM.sub (A2 hi2)).mono (by exact sbt)) qom)) ?_ U;rintro _ _ ⟨d2,⟨rfl,hd2⟩,rfl⟩;refine e_ (Er (enc:=encPd) (l:=m::prtPL (m.subs.take i)) (prtP (gd m.subs i)) (by':=64) (.a .h) (T U) (T U) runUnderlying23 runUnderlying23 sizeOf25 typeInfo25 U zeroValue25 U (fun _=>rfl) (fun _=>rfl) hd qde (by rw[List.length_cons];omega) ((Ck (w0:=w0) (e:=25) (X:=[]) (enc:=encPd) (fun _=>rfl) hd2).mono (by rw[List.append_nil];exact List.sublist_append_left _ _))) ?_ U;rintro _ _ ⟨d3,rfl,hd3,rfl⟩;refine rO tb 6 U (y_ (A4 (T U) Aj qom) ?_ U);refine rO tb 2 U ?_;refine A0 ((i+1,d3)) ?_ ?_ ⟨(by first|exact Aa U|(refine Ad (Aa U) (vint ?_);omega)|(refine Ad (Aa U) ?_;simp;done)|(refine Ad (Aa U) ?_;exact(by rw[e9,List.length_append]))),(by first|exact Aa U|(refine Ad (Aa U) (vint ?_);omega)|(refine Ad (Aa U) ?_;simp;done)|(refine Ad (Aa U) ?_;exact(by rw[e9,List.length_append]))),trivial⟩ ⟨Aa U,trivial⟩ ?_
  ·exact⟨hi2,by rw[e9,List.length_append];exact hd3⟩
  ·first|omega|(simp only[];omega)
  ·dsimp only;rw[e9];exact List.sublist_append_right _ _
 ·obtain rfl:i=m.subs.length:=by have h9: ¬ ((i:Nat):Int)<(m.subs.length:Nat):=c11;omega
  have htl:m.subs.take m.subs.length=m.subs:=List.take_length;refine rC tb 2 U (Ao (rX tb 9 U (Ai U (Kq U) ?_)));exact⟨_,⟨d,⟨by rw[hpm,htl] at *;rfl,by rw[hpm];rw[htl] at hd;exact hd⟩,rfl⟩,by dsimp only;rw[hpm,htl];exact sbt⟩
theorem prtP_s {w0:World}(N:Nat)(hN:N≤1000000000):PrP w0 N:=by
 induction N with
 |zero=>intro H m _ h;have:=Ij m;omega
 |succ N ih=>
  have ih:PrP w0 N:=ih qom;intro H m hM hm;exact prtP_step qom ih hM hm
def PrO (w0:World) (N:Nat):Prop:=∀ {H:List (Nat × Obj)} {m:Pom},PoM w0 H m→m.sz≤N→FSpec Tryz.prog w0 85 #[.agg (encPo m).toArray] H (fun u H'=>∃ d:Sl,(u=slV d (prtO m).length∧SlOk d (prtO m).length 9)∧H'=slH d ((prtO m).flatMap encPo) 28++H)
theorem prtO_step {w0:World}{H:List (Nat × Obj)}{N:Nat}(hN:N≤1000000000)(ih:PrO w0 N){m:Pom}(hM:PoM w0 H m)(hm:m.sz≤N+1):
  FSpec Tryz.prog w0 85 #[.agg (encPo m).toArray] H (fun u H'=>∃ d:Sl,(u=slV d (prtO m).length∧SlOk d (prtO m).length 9)∧H'=slH d ((prtO m).flatMap encPo) 28++H):=by
 refine An Tryz.func85 U ntmps85 U ?_;have hsz:=Ew m;have hln:=Gb m.subs;have hpm:=Gp m;refine rD tb 2 U (e_ (Kw U cs_) ?_ U);rintro _ _ ⟨n1,rfl,rfl⟩;refine rO tb 5 U (y_ (Ks U isAgg28 sizeOf28 U (by first|exact Av)) ?_ U);refine e_ (Bh (.cons (T U) .nil) (zbs26_1_0 _ _ _ _ _ _ _ _ _ _ _ _ _)) ?_ U;rintro _ _ ⟨n6,rfl,rfl⟩;refine rO tb 10 U ?_;refine A9 (X:=Nat × Sl) (V:=fun ⟨i,d⟩=>[(3,slV d (m::prtOL (m.subs.take i)).length),(4, .int .i64 (i:Nat))]) (C:=[(1,_)]) (G:=fun ⟨i,d⟩=>slH d ((m::prtOL (m.subs.take i)).flatMap encPo) 28++((n1,Cl (encPo m) 28)::H)) (φ:=fun ⟨i,d⟩=>i≤m.subs.length∧SlOk d (m::prtOL (m.subs.take i)).length 9) (μ:=fun ⟨i,d⟩=>m.subs.length - i) (x0:=(0, .blk n6 1 [])) ?_ ⟨Aa rfl,trivial⟩ ⟨(by first|exact Aa rfl|(refine Ad (Aa rfl) (vint ?_);omega)|(refine Ad (Aa rfl) ?_;simp;done)|(refine Ad (Aa rfl) ?_;exact(by rw[e9,List.length_append]))),(by first|exact Aa rfl|(refine Ad (Aa rfl) (vint ?_);omega)|(refine Ad (Aa rfl) ?_;simp;done)|(refine Ad (Aa rfl) ?_;exact(by rw[e9,List.length_append]))),trivial⟩ (by exact List.Sublist.refl _) ?_
 ·exact⟨Nat.zero_le _,Nat.le_refl _,rfl⟩
 rintro⟨i,d⟩ ⟨hi,hd⟩;refine rD tb 5 U (y_ (Kr U isAgg26 (by first|exact c_o|exact Ah (by exact Be As:Fnd _ n1 (Cl (encPo m) 28)) 8 _ U)) ?_ U);refine rO tb 4 U ?_
 first|refine Ac (Aa U) (fun c11=> ?_) (fun c11=> ?_)|refine Ag (Aa U) (fun c11=> ?_) (fun c11=> ?_)
 ·have hi2:i<m.subs.length:=by have h9:((i:Nat):Int)<(m.subs.length:Nat):=c11;omega
  have htk:=prtOL_take hi2;have hss:=szOL_mem (A2 hi2);have hl1:=prtOL_len (m.subs.take i);have hl2:=Ga (l:=m.subs) i;have hl3:=prtO_len (gd m.subs i);have e9:(m::prtOL (m.subs.take (i+1)))=(m::prtOL (m.subs.take i))++prtO (gd m.subs i):=by rw[htk];rfl
  refine rC tb 7 U (y_ (Kr U isAgg26 (by first|exact c_o|exact Ah (by exact Be As:Fnd _ n1 (Cl (encPo m) 28)) 8 _ U)) ?_ U);refine rO tb 1 U (y_ (Ku U U runUnderlying26 sizeOf28 qom (by first|exact rfl|exact hM.arr.b (i:=i) hi2)) ?_ U);refine y_ (Ks U isAgg28 sizeOf28 U (by first|exact(hM.arr.mono (by exact sbt)).cs (i:=i) hi2|exact Av)) ?_ U;refine e_ (Ar (qe1 U) call85 (ih ((hM.sub (A2 hi2)).mono (by exact sbt)) qom)) ?_ U;rintro _ _ ⟨d2,⟨rfl,hd2⟩,rfl⟩;refine e_ (Er (enc:=encPo) (l:=m::prtOL (m.subs.take i)) (prtO (gd m.subs i)) (by':=120) (.a .h) (T U) (T U) runUnderlying26 runUnderlying26 sizeOf28 typeInfo28 U zeroValue28 U (fun _=>rfl) (fun _=>rfl) hd qde (by rw[List.length_cons];omega) ((Ck (w0:=w0) (e:=28) (X:=[]) (enc:=encPo) (fun _=>rfl) hd2).mono (by rw[List.append_nil];exact List.sublist_append_left _ _))) ?_ U;rintro _ _ ⟨d3,rfl,hd3,rfl⟩;refine rO tb 6 U (y_ (A4 (T U) Aj qom) ?_ U);refine rO tb 2 U ?_;refine A0 ((i+1,d3)) ?_ ?_ ⟨(by first|exact Aa U|(refine Ad (Aa U) (vint ?_);omega)|(refine Ad (Aa U) ?_;simp;done)|(refine Ad (Aa U) ?_;exact(by rw[e9,List.length_append]))),(by first|exact Aa U|(refine Ad (Aa U) (vint ?_);omega)|(refine Ad (Aa U) ?_;simp;done)|(refine Ad (Aa U) ?_;exact(by rw[e9,List.length_append]))),trivial⟩ ⟨Aa U,trivial⟩ ?_
  ·exact⟨hi2,by rw[e9,List.length_append];exact hd3⟩
  ·first|omega|(simp only[];omega)
  ·dsimp only;rw[e9];exact List.sublist_append_right _ _
 ·obtain rfl:i=m.subs.length:=by have h9: ¬ ((i:Nat):Int)<(m.subs.length:Nat):=c11;omega
  have htl:m.subs.take m.subs.length=m.subs:=List.take_length;refine rC tb 2 U (Ao (rX tb 9 U (Ai U (Kq U) ?_)));exact⟨_,⟨d,⟨by rw[hpm,htl] at *;rfl,by rw[hpm];rw[htl] at hd;exact hd⟩,rfl⟩,by dsimp only;rw[hpm,htl];exact sbt⟩
theorem prtO_s {w0:World}(N:Nat)(hN:N≤1000000000):PrO w0 N:=by
 induction N with
 |zero=>intro H m _ h;have:=Ew m;omega
 |succ N ih=>
  have ih:PrO w0 N:=ih qom;intro H m hM hm;exact prtO_step qom ih hM hm
theorem Ex (a0:ByteArray)(a1:Int)(a2:Int)(w:World):(Instr.build 67 #[(0, .string a0),(1, .int .i64 a1),(2, .int .i64 a2)]).run Tryz.prog w= .ok (.agg #[.string a0, .int .i64 a1, .int .i64 a2]) w:=by kernel_rfl
theorem rport_s {w0:World}{H:List (Nat × Obj)}  :
  FSpec Tryz.prog w0 120 #[] H (Still (.agg (encF portFd).toArray) H):=by
 refine An Tryz.func120 U ntmps120 U (rD tb 2 U (e_ (Al zeroValue67 cs_) ?_ U));rintro _ _ ⟨n0,rfl,rfl⟩;refine rO tb 4 U (y_ (A8 (.cons Aj (.cons Aj (.cons Aj .nil))) (Ex _ _ _)) ?_ U)
 first|refine A6 (Kv U U sizeOf67) U Ae ?_
 rintro _ _ ⟨rfl,rfl⟩;refine rO tb 3 U (Ai U (.cellA (Aa U) isAgg67 sizeOf67 U (by first|exact Av) .nil) ?_);exact⟨_,⟨rfl,rfl⟩,sbt⟩
theorem Hu {w0:World}{H:List (Nat × Obj)}(fl:List Fd)(q:Option Addr)(c:Nat)(hA:Arr w0 H q 3 encF fl)(hl:fl.length≤1000000)(nm:ByteArray):
  FSpec Tryz.prog w0 87 #[.slice q fl.length c, .string nm] H (Still (.tuple #[.agg (encF (fndFd fl nm).1).toArray, .bool (fndFd fl nm).2]) H):=by
 refine An Tryz.func87 U ntmps87 U (rD tb 2 U (e_ (Al zeroValue67 cs_) ?_ U));rintro _ _ ⟨n4,rfl,rfl⟩;refine rO tb 7 U (y_ (D2 (T U) Aj) (rO tb 2 U ?_) U)
 first|refine Ac (Aa U) (fun c8=> ?_) (fun c8=> ?_)|refine Ag (Aa U) (fun c8=> ?_) (fun c8=> ?_)
 ·have hp:nm=portN:=nm_eq.1 c8;refine rC tb 2 U (y_ (Ak .nil call120 (fun H' hs=>rport_s)) ?_ U)
  first|refine A6 (Kv U U sizeOf67) U Ae ?_
  rintro _ _ ⟨rfl,rfl⟩;refine rO tb 5 U (Ai U (.cellA (Aa U) isAgg67 sizeOf67 U (by first|exact Av) (Kq U)) ?_);exact⟨_,⟨by unfold fndFd;rw[if_pos hp];rfl,rfl⟩,sbt⟩
 ·have hp: ¬ nm=portN:=fun e=>c8 (nm_eq.2 e)
  refine rC tb 9 U ?_;refine A9 (X:=Nat) (V:=fun k=>[(6, .int .i64 (k:Nat))]) (C:=[(0,_),(1,_),(4,_)]) (G:=fun k=>(n4,Cl [.string ⟨#[]⟩, .int .i64 0, .int .i64 0] 67)::H) (φ:=fun k=>k≤fl.length∧idxF nm fl 0=idxF nm (fl.drop k) k) (μ:=fun k=>fl.length - k) (x0:=0) ?_ ⟨Aa U,Aa U,Aa U,trivial⟩ ⟨atd,trivial⟩ sb0 ?_
  ·exact⟨Nat.zero_le _,rfl⟩
  rintro k ⟨hk,hix⟩;refine rD tb 9 U ?_
  first|refine Ac (Aa U) (fun c13=> ?_) (fun c13=> ?_)|refine Ag (Aa U) (fun c13=> ?_) (fun c13=> ?_)
  ·have hk2:k<fl.length:=by have h9:((k:Nat):Int)<(fl.length:Nat):=c13;omega
   refine rC tb 8 U (y_ (Ku U U runUnderlying22 sizeOf67 qom (by first|exact rfl|exact(hA k (gd fl k) (B1 qom)).1)) ?_ U);refine rO tb 1 U (y_ (Kr U isAgg9 (by first|exact c_o|exact(hA.mono (by exact sbt)).cs (i:=k) qom 0 _ U)) ?_ U);refine rO tb 1 U (y_ (D2 (T U) (T U)) (rO tb 2 U ?_) U)
   first|refine Ac (Aa U) (fun c22=> ?_) (fun c22=> ?_)|refine Ag (Aa U) (fun c22=> ?_) (fun c22=> ?_)
   ·have heq:(gd fl k).nm=nm:=nm_eq.1 c22;refine rC tb 4 U (y_ (Ku U U runUnderlying22 sizeOf67 qom (by first|exact rfl|exact(hA k (gd fl k) (B1 qom)).1)) ?_ U);refine y_ (Ks U isAgg67 sizeOf67 U (by first|exact(hA.mono (by exact sbt)).cs (i:=k) qom|exact Av)) ?_ U
    first|refine A6 (Kv U U sizeOf67) U Ae ?_
    rintro _ _ ⟨rfl,rfl⟩;refine rO tb 6 U (Ba (rX tb 2 U (Ai U (.cellA (Aa U) isAgg67 sizeOf67 U (by first|exact Av) (Kq U)) ?_)));exact⟨_,⟨by unfold fndFd;rw[if_neg hp,hix,Gl qom,if_pos heq];rfl,rfl⟩,sbt⟩
   ·have hne: ¬ (gd fl k).nm=nm:=fun e=>c22 (nm_eq.2 e)
    refine rC tb 5 U (y_ (A4 (T U) Aj qom) ?_ U);refine rO tb 2 U ?_;refine A0 (k+1) ?_ ?_ ⟨atd,trivial⟩ ⟨Aa U,Aa U,Aa U,trivial⟩ ?_
    ·exact⟨by omega,by rw[hix,Gl qom,if_neg hne]⟩
    ·first|omega|(simp only[];omega)
    ·exact sbt
  ·obtain rfl:k=fl.length:=by have h9: ¬ ((k:Nat):Int)<(fl.length:Nat):=c13;omega
   refine rC tb 2 U (Ao (rX tb 4 U (y_ (A8 .nil (zbd67_z)) ?_ U)))
   first|refine A6 (Kv U U sizeOf67) U Ae ?_
   rintro _ _ ⟨rfl,rfl⟩;refine rO tb 4 U (Ai U (.cellA (Aa U) isAgg67 sizeOf67 U (by first|exact Av) (Kq U)) ?_);exact⟨_,⟨by unfold fndFd;rw[if_neg hp,hix,List.drop_length];rfl,rfl⟩,sbt⟩
theorem pow_step (k:Nat):2 ^ k*2=2 ^ (k+1):=(Nat.pow_succ 2 k).symm
theorem yl_dbl {P:Program}{w0:World}{L:Fm}{H:List (Nat × Obj)}{ty xt yt:TypeId}{x y:Operand}{k:Nat}(hx:Ev L x (.int .i64 ((2 ^ k:Nat):Int)))(hy:Ev L y (.int .i64 2))(hk:k<16):Yl P w0 (.binOp .mul xt x y yt) ty L H (.int .i64 ((2 ^ (k+1):Nat):Int)):=by
 have h1:2 ^ k≤2 ^ 16:=Nat.pow_le_pow_right qom qom;have h:=yl_mul2 (P:=P) (w0:=w0) (H:=H) (ty:=ty) (xt:=xt) (yt:=yt) hx hy qom
 rwa [pow_step] at h
theorem rpower_s {w0:World}{H:List (Nat × Obj)}(n:Nat)(hn:n≤16):
  FSpec Tryz.prog w0 121 #[.int .i64 (n:Nat)] H (Still (.int .i64 ((2 ^ n:Nat):Int)) H):=by
 refine An Tryz.func121 U ntmps121 U (rD tb 17 U ?_);refine G7 (X:=Nat) (V:=fun k=>[(3, .int .i64 ((2 ^ k:Nat):Int)),(4, .int .i64 (k:Nat))]) (C:=[(0,_)]) (φ:=fun k=>k≤n) (μ:=fun k=>n - k) (x0:=0) ?_ ⟨Aa U,trivial⟩ ⟨atd,atd,trivial⟩ ?_
 ·exact Nat.zero_le _
 rintro k hk;refine rD tb 8 U ?_
 first|refine Ac (Aa U) (fun c7=> ?_) (fun c7=> ?_)|refine Ag (Aa U) (fun c7=> ?_) (fun c7=> ?_)
 ·have hk2:k<n:=by have h9:((k:Nat):Int)<(n:Nat):=c7;omega
  refine rC tb 6 U (y_ (yl_dbl (T U) Aj (by have h9:((k:Nat):Int)<(n:Nat):=c7;omega)) ?_ U);refine rO tb 6 U (y_ (A4 (T U) Aj qom) ?_ U);refine rO tb 2 U ?_;refine A0 (k+1) ?_ ?_ ⟨atd,atd,trivial⟩ ⟨Aa U,trivial⟩ ?_
  ·omega
  ·first|omega|(simp only[];omega)
  ·exact sbt
 ·obtain rfl:k=n:=by have h9: ¬ ((k:Nat):Int)<(n:Nat):=c7;omega
  refine rC tb 2 U (Ao (rX tb 9 U (Ai U (Kq U) ?_)));exact⟨_,⟨rfl,rfl⟩,sbt⟩
theorem Gc {w0:World}{H:List (Nat × Obj)}(f:Fd)(hf:f.w≤16):
  FSpec Tryz.prog w0 88 #[.agg (encF f).toArray] H (Still (.int .i64 (((2 ^ f.w:Nat):Int) - 1)) H):=by
 refine An Tryz.func88 U ntmps88 U (rD tb 2 U (e_ (Kw U cs_) ?_ U));rintro _ _ ⟨n1,rfl,rfl⟩;refine rO tb 6 U (y_ (Kr U isAgg3 (by first|exact c_o)) ?_ U);refine y_ (Ak (qe1 U) call121 (fun H' hs=>rpower_s f.w hf)) (y_ (Hz (T U) Aj (by have h1:2 ^ f.w≤2 ^ 16:=Nat.pow_le_pow_right qom hf;revert h1;generalize 2 ^ f.w=p;intro h1;omega)) ?_ U) U;refine rO tb 4 U (Ai U (Kq U) ?_);exact⟨_,⟨rfl,rfl⟩,sbt⟩
theorem pow_c (w:Nat):((2 ^ w:Nat):Int)=(2:Int) ^ w:=by simp
abbrev SayE (p:Prop) (H:List (Nat × Obj)):Value→List (Nat × Obj)→Prop:=fun u H'=>∃ e:Int,(u= .int .i64 e∧(e=0→p))∧H'=H
abbrev FlA (w0:World) (H:List (Nat × Obj)) (q:Option Addr) (fl:List Fd):Prop:=Arr w0 H q 3 encF fl
theorem Bx {fl:List Fd}{m:Pdm}(hfd:(fndFd fl m.nm).2=true)(h1: ¬ m.kind=5→m.val≤((2 ^ (fndFd fl m.nm).1.w:Nat):Int) - 1)(h2:m.kind=5→m.to≤((2 ^ (fndFd fl m.nm).1.w:Nat):Int) - 1)(h4:m.kind=4→m.to≤(fndFd fl m.nm).1.w):FitP fl m:=by
 rw[pow_c] at h1 h2;exact⟨fun hk=>⟨hfd,h1 qom,h4⟩,fun hk=>⟨hfd,h2 hk⟩⟩
theorem fitsP_s {w0:World}{H:List (Nat × Obj)}(fl:List Fd)(hfl:FlOk fl)(q:Option Addr)(c:Nat)(hA:FlA w0 H q fl)(m:Pdm):
  FSpec Tryz.prog w0 119 #[.slice q fl.length c, .agg (encPd m).toArray] H (SayE (FitP fl m) H):=by
 refine An Tryz.func119 U ntmps119 U ?_;have hfew:=hfl.few;refine rD tb 2 U (e_ (Kw U cs_) ?_ U);rintro _ _ ⟨n3,rfl,rfl⟩;refine rO tb 7 U (y_ (Kr U isAgg3 (by first|exact c_o)) ?_ U);refine rO tb 2 U ?_
 first|refine Am (s:=11) (Aa U) (fun c11=> ?_) (fun c11=> ?_)|refine A1 (s:=11) (Aa U) (fun c11=> ?_) (fun c11=> ?_)
 ·refine rO tb 1 U (Az (Kr U isAgg3 (by first|exact c_o)) U (A3 U U (Aa U)) ?_);refine rO tb 3 U ?_
  first|refine Am (s:=16) (Aa U) (fun c16=> ?_) (fun c16=> ?_)|refine A1 (s:=16) (Aa U) (fun c16=> ?_) (fun c16=> ?_)
  ·refine rO tb 1 U (Az (Kr U isAgg3 (by first|exact c_o)) U (A3 U U (Aa U)) ?_);refine rO tb 4 U ?_
   first|refine Ac (Aa U) (fun c20=> ?_) (fun c20=> ?_)|refine Ag (Aa U) (fun c20=> ?_) (fun c20=> ?_)
   ·refine rC tb 7 U (Ai U (Kq U) ?_)
    first|exact⟨_,⟨_,⟨rfl,fun h=>absurd h qde⟩,rfl⟩,sbt⟩|exact⟨_,⟨_,⟨rfl,fun _=>⟨fun hk=>by exfalso;omega,fun hk=>by exfalso;omega⟩⟩,rfl⟩,sbt⟩|exact⟨_,⟨_,⟨rfl,fun _=>Bx hfd (fun h5=>by generalize ((2 ^ (fndFd fl m.nm).1.w:Nat):Int)=P at *;omega) (fun h5=>by generalize ((2 ^ (fndFd fl m.nm).1.w:Nat):Int)=P at *;omega) (fun h4=>by omega)⟩,rfl⟩,sbt⟩
   ·refine rC tb 6 U (y_ (Kr U isAgg9 (by first|exact c_o)) ?_ U);refine y_ (Ak (qe2 U U) call87 (fun H' hs=>Hu fl q c (hA.mono (List.Sublist.trans (by exact sbt) hs)) qom m.nm)) ?_ U;refine rO tb 3 U (e_ (Al zeroValue67 cs_) ?_ U);rintro _ _ ⟨n5,rfl,rfl⟩
    first|refine A6 (Kv U U sizeOf67) U Ae ?_
    rintro _ _ ⟨rfl,rfl⟩;refine rO tb 7 U ?_
    first|refine Az (Bq (T U)) U Ae ?_|refine Az (B2 (T U)) U Ae ?_
    refine rO tb 2 U ?_
    first|refine Ac (Aa U) (fun c29=> ?_) (fun c29=> ?_)|refine Ag (Aa U) (fun c29=> ?_) (fun c29=> ?_)
    ·skip
     refine rC tb 7 U (Ai U (Kq U) ?_)
     first|exact⟨_,⟨_,⟨rfl,fun h=>absurd h qde⟩,rfl⟩,sbt⟩|exact⟨_,⟨_,⟨rfl,fun _=>⟨fun hk=>by exfalso;omega,fun hk=>by exfalso;omega⟩⟩,rfl⟩,sbt⟩|exact⟨_,⟨_,⟨rfl,fun _=>Bx hfd (fun h5=>by generalize ((2 ^ (fndFd fl m.nm).1.w:Nat):Int)=P at *;omega) (fun h5=>by generalize ((2 ^ (fndFd fl m.nm).1.w:Nat):Int)=P at *;omega) (fun h4=>by omega)⟩,rfl⟩,sbt⟩
    ·have hfd:(fndFd fl m.nm).2=true:=by simpa using c29
     refine rC tb 5 U (y_ (Kr U isAgg3 (by first|exact c_o)) ?_ U);refine kO tb 3 [3,5,7] rfl U (rG tb 4 U (y_ (Kr U isAgg3 (by first|exact c_o)) ?_ U));refine rO tb 3 U ?_
     first|refine Ac (Aa U) (fun c34=> ?_) (fun c34=> ?_)|refine Ag (Aa U) (fun c34=> ?_) (fun c34=> ?_)
     ·refine rC tb 2 U (y_ (Kr U isAgg3 (by first|exact c_o)) ?_ U);refine rO tb 7 U (y_ (Ks U isAgg67 sizeOf67 U (by first|exact Av)) ?_ U);refine y_ (Ak (qe1 U) call88 (fun H' hs=>Gc _ (hfl.all _ (Dq hfd)).w16)) (rO tb 2 U ?_) U
      first|refine Am (s:=41) (Aa U) (fun c41=> ?_) (fun c41=> ?_)|refine A1 (s:=41) (Aa U) (fun c41=> ?_) (fun c41=> ?_)
      ·refine rO tb 21 U (Ai U (Kq U) ?_)
       first|exact⟨_,⟨_,⟨rfl,fun h=>absurd h qde⟩,rfl⟩,sbt⟩|exact⟨_,⟨_,⟨rfl,fun _=>⟨fun hk=>by exfalso;omega,fun hk=>by exfalso;omega⟩⟩,rfl⟩,sbt⟩|exact⟨_,⟨_,⟨rfl,fun _=>Bx hfd (fun h5=>by generalize ((2 ^ (fndFd fl m.nm).1.w:Nat):Int)=P at *;omega) (fun h5=>by generalize ((2 ^ (fndFd fl m.nm).1.w:Nat):Int)=P at *;omega) (fun h4=>by omega)⟩,rfl⟩,sbt⟩
      ·refine rO tb 1 U (Az (Kr U isAgg3 (by first|exact c_o)) U (A3 U U (Aa U)) ?_);refine rO tb 2 U ?_
       first|refine Am (s:=45) (Aa U) (fun c45=> ?_) (fun c45=> ?_)|refine A1 (s:=45) (Aa U) (fun c45=> ?_) (fun c45=> ?_)
       ·refine rO tb 1 U (Az (Kr U isAgg3 (by first|exact c_o)) U (A3 U U (Aa U)) ?_);refine rO tb 1 U (Az (Kr U isAgg3 (by first|exact c_o)) U (A3 U U (Aa U)) ?_);refine rO tb 5 U ?_
        first|refine Ac (Aa U) (fun c52=> ?_) (fun c52=> ?_)|refine Ag (Aa U) (fun c52=> ?_) (fun c52=> ?_)
        ·refine rC tb 7 U (Ai U (Kq U) ?_)
         first|exact⟨_,⟨_,⟨rfl,fun h=>absurd h qde⟩,rfl⟩,sbt⟩|exact⟨_,⟨_,⟨rfl,fun _=>⟨fun hk=>by exfalso;omega,fun hk=>by exfalso;omega⟩⟩,rfl⟩,sbt⟩|exact⟨_,⟨_,⟨rfl,fun _=>Bx hfd (fun h5=>by generalize ((2 ^ (fndFd fl m.nm).1.w:Nat):Int)=P at *;omega) (fun h5=>by generalize ((2 ^ (fndFd fl m.nm).1.w:Nat):Int)=P at *;omega) (fun h4=>by omega)⟩,rfl⟩,sbt⟩
        ·refine rC tb 8 U (Ai U (Kq U) ?_)
         first|exact⟨_,⟨_,⟨rfl,fun h=>absurd h qde⟩,rfl⟩,sbt⟩|exact⟨_,⟨_,⟨rfl,fun _=>⟨fun hk=>by exfalso;omega,fun hk=>by exfalso;omega⟩⟩,rfl⟩,sbt⟩|exact⟨_,⟨_,⟨rfl,fun _=>Bx hfd (fun h5=>by generalize ((2 ^ (fndFd fl m.nm).1.w:Nat):Int)=P at *;omega) (fun h5=>by generalize ((2 ^ (fndFd fl m.nm).1.w:Nat):Int)=P at *;omega) (fun h4=>by omega)⟩,rfl⟩,sbt⟩
       ·refine rO tb 18 U (Ai U (Kq U) ?_)
        first|exact⟨_,⟨_,⟨rfl,fun h=>absurd h qde⟩,rfl⟩,sbt⟩|exact⟨_,⟨_,⟨rfl,fun _=>⟨fun hk=>by exfalso;omega,fun hk=>by exfalso;omega⟩⟩,rfl⟩,sbt⟩|exact⟨_,⟨_,⟨rfl,fun _=>Bx hfd (fun h5=>by generalize ((2 ^ (fndFd fl m.nm).1.w:Nat):Int)=P at *;omega) (fun h5=>by generalize ((2 ^ (fndFd fl m.nm).1.w:Nat):Int)=P at *;omega) (fun h4=>by omega)⟩,rfl⟩,sbt⟩
     ·refine rC tb 6 U (y_ (Ks U isAgg67 sizeOf67 U (by first|exact Av)) ?_ U);refine y_ (Ak (qe1 U) call88 (fun H' hs=>Gc _ (hfl.all _ (Dq hfd)).w16)) (rO tb 2 U ?_) U
      first|refine Am (s:=41) (Aa U) (fun c41=> ?_) (fun c41=> ?_)|refine A1 (s:=41) (Aa U) (fun c41=> ?_) (fun c41=> ?_)
      ·refine rO tb 21 U (Ai U (Kq U) ?_)
       first|exact⟨_,⟨_,⟨rfl,fun h=>absurd h qde⟩,rfl⟩,sbt⟩|exact⟨_,⟨_,⟨rfl,fun _=>⟨fun hk=>by exfalso;omega,fun hk=>by exfalso;omega⟩⟩,rfl⟩,sbt⟩|exact⟨_,⟨_,⟨rfl,fun _=>Bx hfd (fun h5=>by generalize ((2 ^ (fndFd fl m.nm).1.w:Nat):Int)=P at *;omega) (fun h5=>by generalize ((2 ^ (fndFd fl m.nm).1.w:Nat):Int)=P at *;omega) (fun h4=>by omega)⟩,rfl⟩,sbt⟩
      ·refine rO tb 1 U (Az (Kr U isAgg3 (by first|exact c_o)) U (A3 U U (Aa U)) ?_);refine rO tb 2 U ?_
       first|refine Am (s:=45) (Aa U) (fun c45=> ?_) (fun c45=> ?_)|refine A1 (s:=45) (Aa U) (fun c45=> ?_) (fun c45=> ?_)
       ·refine rO tb 1 U (Az (Kr U isAgg3 (by first|exact c_o)) U (A3 U U (Aa U)) ?_);refine rO tb 1 U (Az (Kr U isAgg3 (by first|exact c_o)) U (A3 U U (Aa U)) ?_);refine rO tb 5 U ?_
        first|refine Ac (Aa U) (fun c52=> ?_) (fun c52=> ?_)|refine Ag (Aa U) (fun c52=> ?_) (fun c52=> ?_)
        ·refine rC tb 7 U (Ai U (Kq U) ?_)
         first|exact⟨_,⟨_,⟨rfl,fun h=>absurd h qde⟩,rfl⟩,sbt⟩|exact⟨_,⟨_,⟨rfl,fun _=>⟨fun hk=>by exfalso;omega,fun hk=>by exfalso;omega⟩⟩,rfl⟩,sbt⟩|exact⟨_,⟨_,⟨rfl,fun _=>Bx hfd (fun h5=>by generalize ((2 ^ (fndFd fl m.nm).1.w:Nat):Int)=P at *;omega) (fun h5=>by generalize ((2 ^ (fndFd fl m.nm).1.w:Nat):Int)=P at *;omega) (fun h4=>by omega)⟩,rfl⟩,sbt⟩
        ·refine rC tb 8 U (Ai U (Kq U) ?_)
         first|exact⟨_,⟨_,⟨rfl,fun h=>absurd h qde⟩,rfl⟩,sbt⟩|exact⟨_,⟨_,⟨rfl,fun _=>⟨fun hk=>by exfalso;omega,fun hk=>by exfalso;omega⟩⟩,rfl⟩,sbt⟩|exact⟨_,⟨_,⟨rfl,fun _=>Bx hfd (fun h5=>by generalize ((2 ^ (fndFd fl m.nm).1.w:Nat):Int)=P at *;omega) (fun h5=>by generalize ((2 ^ (fndFd fl m.nm).1.w:Nat):Int)=P at *;omega) (fun h4=>by omega)⟩,rfl⟩,sbt⟩
       ·refine rO tb 18 U (Ai U (Kq U) ?_)
        first|exact⟨_,⟨_,⟨rfl,fun h=>absurd h qde⟩,rfl⟩,sbt⟩|exact⟨_,⟨_,⟨rfl,fun _=>⟨fun hk=>by exfalso;omega,fun hk=>by exfalso;omega⟩⟩,rfl⟩,sbt⟩|exact⟨_,⟨_,⟨rfl,fun _=>Bx hfd (fun h5=>by generalize ((2 ^ (fndFd fl m.nm).1.w:Nat):Int)=P at *;omega) (fun h5=>by generalize ((2 ^ (fndFd fl m.nm).1.w:Nat):Int)=P at *;omega) (fun h4=>by omega)⟩,rfl⟩,sbt⟩
  ·refine rO tb 13 U (y_ (Kr U isAgg9 (by first|exact c_o)) ?_ U);refine y_ (Ak (qe2 U U) call87 (fun H' hs=>Hu fl q c (hA.mono (List.Sublist.trans (by exact sbt) hs)) qom m.nm)) ?_ U;refine rO tb 3 U (e_ (Al zeroValue67 cs_) ?_ U);rintro _ _ ⟨n5,rfl,rfl⟩
   first|refine A6 (Kv U U sizeOf67) U Ae ?_
   rintro _ _ ⟨rfl,rfl⟩;refine rO tb 7 U ?_
   first|refine Az (Bq (T U)) U Ae ?_|refine Az (B2 (T U)) U Ae ?_
   refine rO tb 2 U ?_
   first|refine Ac (Aa U) (fun c29=> ?_) (fun c29=> ?_)|refine Ag (Aa U) (fun c29=> ?_) (fun c29=> ?_)
   ·skip
    refine rC tb 7 U (Ai U (Kq U) ?_)
    first|exact⟨_,⟨_,⟨rfl,fun h=>absurd h qde⟩,rfl⟩,sbt⟩|exact⟨_,⟨_,⟨rfl,fun _=>⟨fun hk=>by exfalso;omega,fun hk=>by exfalso;omega⟩⟩,rfl⟩,sbt⟩|exact⟨_,⟨_,⟨rfl,fun _=>Bx hfd (fun h5=>by generalize ((2 ^ (fndFd fl m.nm).1.w:Nat):Int)=P at *;omega) (fun h5=>by generalize ((2 ^ (fndFd fl m.nm).1.w:Nat):Int)=P at *;omega) (fun h4=>by omega)⟩,rfl⟩,sbt⟩
   ·have hfd:(fndFd fl m.nm).2=true:=by simpa using c29
    refine rC tb 5 U (y_ (Kr U isAgg3 (by first|exact c_o)) ?_ U);refine kO tb 3 [3,5,7] rfl U (rG tb 4 U (y_ (Kr U isAgg3 (by first|exact c_o)) ?_ U));refine rO tb 3 U ?_
    first|refine Ac (Aa U) (fun c34=> ?_) (fun c34=> ?_)|refine Ag (Aa U) (fun c34=> ?_) (fun c34=> ?_)
    ·refine rC tb 2 U (y_ (Kr U isAgg3 (by first|exact c_o)) ?_ U);refine rO tb 7 U (y_ (Ks U isAgg67 sizeOf67 U (by first|exact Av)) ?_ U);refine y_ (Ak (qe1 U) call88 (fun H' hs=>Gc _ (hfl.all _ (Dq hfd)).w16)) (rO tb 2 U ?_) U
     first|refine Am (s:=41) (Aa U) (fun c41=> ?_) (fun c41=> ?_)|refine A1 (s:=41) (Aa U) (fun c41=> ?_) (fun c41=> ?_)
     ·refine rO tb 21 U (Ai U (Kq U) ?_)
      first|exact⟨_,⟨_,⟨rfl,fun h=>absurd h qde⟩,rfl⟩,sbt⟩|exact⟨_,⟨_,⟨rfl,fun _=>⟨fun hk=>by exfalso;omega,fun hk=>by exfalso;omega⟩⟩,rfl⟩,sbt⟩|exact⟨_,⟨_,⟨rfl,fun _=>Bx hfd (fun h5=>by generalize ((2 ^ (fndFd fl m.nm).1.w:Nat):Int)=P at *;omega) (fun h5=>by generalize ((2 ^ (fndFd fl m.nm).1.w:Nat):Int)=P at *;omega) (fun h4=>by omega)⟩,rfl⟩,sbt⟩
     ·refine rO tb 1 U (Az (Kr U isAgg3 (by first|exact c_o)) U (A3 U U (Aa U)) ?_);refine rO tb 2 U ?_
      first|refine Am (s:=45) (Aa U) (fun c45=> ?_) (fun c45=> ?_)|refine A1 (s:=45) (Aa U) (fun c45=> ?_) (fun c45=> ?_)
      ·refine rO tb 1 U (Az (Kr U isAgg3 (by first|exact c_o)) U (A3 U U (Aa U)) ?_);refine rO tb 1 U (Az (Kr U isAgg3 (by first|exact c_o)) U (A3 U U (Aa U)) ?_);refine rO tb 5 U ?_
       first|refine Ac (Aa U) (fun c52=> ?_) (fun c52=> ?_)|refine Ag (Aa U) (fun c52=> ?_) (fun c52=> ?_)
       ·refine rC tb 7 U (Ai U (Kq U) ?_)
        first|exact⟨_,⟨_,⟨rfl,fun h=>absurd h qde⟩,rfl⟩,sbt⟩|exact⟨_,⟨_,⟨rfl,fun _=>⟨fun hk=>by exfalso;omega,fun hk=>by exfalso;omega⟩⟩,rfl⟩,sbt⟩|exact⟨_,⟨_,⟨rfl,fun _=>Bx hfd (fun h5=>by generalize ((2 ^ (fndFd fl m.nm).1.w:Nat):Int)=P at *;omega) (fun h5=>by generalize ((2 ^ (fndFd fl m.nm).1.w:Nat):Int)=P at *;omega) (fun h4=>by omega)⟩,rfl⟩,sbt⟩
       ·refine rC tb 8 U (Ai U (Kq U) ?_)
        first|exact⟨_,⟨_,⟨rfl,fun h=>absurd h qde⟩,rfl⟩,sbt⟩|exact⟨_,⟨_,⟨rfl,fun _=>⟨fun hk=>by exfalso;omega,fun hk=>by exfalso;omega⟩⟩,rfl⟩,sbt⟩|exact⟨_,⟨_,⟨rfl,fun _=>Bx hfd (fun h5=>by generalize ((2 ^ (fndFd fl m.nm).1.w:Nat):Int)=P at *;omega) (fun h5=>by generalize ((2 ^ (fndFd fl m.nm).1.w:Nat):Int)=P at *;omega) (fun h4=>by omega)⟩,rfl⟩,sbt⟩
      ·refine rO tb 18 U (Ai U (Kq U) ?_)
       first|exact⟨_,⟨_,⟨rfl,fun h=>absurd h qde⟩,rfl⟩,sbt⟩|exact⟨_,⟨_,⟨rfl,fun _=>⟨fun hk=>by exfalso;omega,fun hk=>by exfalso;omega⟩⟩,rfl⟩,sbt⟩|exact⟨_,⟨_,⟨rfl,fun _=>Bx hfd (fun h5=>by generalize ((2 ^ (fndFd fl m.nm).1.w:Nat):Int)=P at *;omega) (fun h5=>by generalize ((2 ^ (fndFd fl m.nm).1.w:Nat):Int)=P at *;omega) (fun h4=>by omega)⟩,rfl⟩,sbt⟩
    ·refine rC tb 6 U (y_ (Ks U isAgg67 sizeOf67 U (by first|exact Av)) ?_ U);refine y_ (Ak (qe1 U) call88 (fun H' hs=>Gc _ (hfl.all _ (Dq hfd)).w16)) (rO tb 2 U ?_) U
     first|refine Am (s:=41) (Aa U) (fun c41=> ?_) (fun c41=> ?_)|refine A1 (s:=41) (Aa U) (fun c41=> ?_) (fun c41=> ?_)
     ·refine rO tb 21 U (Ai U (Kq U) ?_)
      first|exact⟨_,⟨_,⟨rfl,fun h=>absurd h qde⟩,rfl⟩,sbt⟩|exact⟨_,⟨_,⟨rfl,fun _=>⟨fun hk=>by exfalso;omega,fun hk=>by exfalso;omega⟩⟩,rfl⟩,sbt⟩|exact⟨_,⟨_,⟨rfl,fun _=>Bx hfd (fun h5=>by generalize ((2 ^ (fndFd fl m.nm).1.w:Nat):Int)=P at *;omega) (fun h5=>by generalize ((2 ^ (fndFd fl m.nm).1.w:Nat):Int)=P at *;omega) (fun h4=>by omega)⟩,rfl⟩,sbt⟩
     ·refine rO tb 1 U (Az (Kr U isAgg3 (by first|exact c_o)) U (A3 U U (Aa U)) ?_);refine rO tb 2 U ?_
      first|refine Am (s:=45) (Aa U) (fun c45=> ?_) (fun c45=> ?_)|refine A1 (s:=45) (Aa U) (fun c45=> ?_) (fun c45=> ?_)
      ·refine rO tb 1 U (Az (Kr U isAgg3 (by first|exact c_o)) U (A3 U U (Aa U)) ?_);refine rO tb 1 U (Az (Kr U isAgg3 (by first|exact c_o)) U (A3 U U (Aa U)) ?_);refine rO tb 5 U ?_
       first|refine Ac (Aa U) (fun c52=> ?_) (fun c52=> ?_)|refine Ag (Aa U) (fun c52=> ?_) (fun c52=> ?_)
       ·refine rC tb 7 U (Ai U (Kq U) ?_)
        first|exact⟨_,⟨_,⟨rfl,fun h=>absurd h qde⟩,rfl⟩,sbt⟩|exact⟨_,⟨_,⟨rfl,fun _=>⟨fun hk=>by exfalso;omega,fun hk=>by exfalso;omega⟩⟩,rfl⟩,sbt⟩|exact⟨_,⟨_,⟨rfl,fun _=>Bx hfd (fun h5=>by generalize ((2 ^ (fndFd fl m.nm).1.w:Nat):Int)=P at *;omega) (fun h5=>by generalize ((2 ^ (fndFd fl m.nm).1.w:Nat):Int)=P at *;omega) (fun h4=>by omega)⟩,rfl⟩,sbt⟩
       ·refine rC tb 8 U (Ai U (Kq U) ?_)
        first|exact⟨_,⟨_,⟨rfl,fun h=>absurd h qde⟩,rfl⟩,sbt⟩|exact⟨_,⟨_,⟨rfl,fun _=>⟨fun hk=>by exfalso;omega,fun hk=>by exfalso;omega⟩⟩,rfl⟩,sbt⟩|exact⟨_,⟨_,⟨rfl,fun _=>Bx hfd (fun h5=>by generalize ((2 ^ (fndFd fl m.nm).1.w:Nat):Int)=P at *;omega) (fun h5=>by generalize ((2 ^ (fndFd fl m.nm).1.w:Nat):Int)=P at *;omega) (fun h4=>by omega)⟩,rfl⟩,sbt⟩
      ·refine rO tb 18 U (Ai U (Kq U) ?_)
       first|exact⟨_,⟨_,⟨rfl,fun h=>absurd h qde⟩,rfl⟩,sbt⟩|exact⟨_,⟨_,⟨rfl,fun _=>⟨fun hk=>by exfalso;omega,fun hk=>by exfalso;omega⟩⟩,rfl⟩,sbt⟩|exact⟨_,⟨_,⟨rfl,fun _=>Bx hfd (fun h5=>by generalize ((2 ^ (fndFd fl m.nm).1.w:Nat):Int)=P at *;omega) (fun h5=>by generalize ((2 ^ (fndFd fl m.nm).1.w:Nat):Int)=P at *;omega) (fun h4=>by omega)⟩,rfl⟩,sbt⟩
 ·refine rO tb 18 U (y_ (Kr U isAgg9 (by first|exact c_o)) ?_ U);refine y_ (Ak (qe2 U U) call87 (fun H' hs=>Hu fl q c (hA.mono (List.Sublist.trans (by exact sbt) hs)) qom m.nm)) ?_ U;refine rO tb 3 U (e_ (Al zeroValue67 cs_) ?_ U);rintro _ _ ⟨n5,rfl,rfl⟩
  first|refine A6 (Kv U U sizeOf67) U Ae ?_
  rintro _ _ ⟨rfl,rfl⟩;refine rO tb 7 U ?_
  first|refine Az (Bq (T U)) U Ae ?_|refine Az (B2 (T U)) U Ae ?_
  refine rO tb 2 U ?_
  first|refine Ac (Aa U) (fun c29=> ?_) (fun c29=> ?_)|refine Ag (Aa U) (fun c29=> ?_) (fun c29=> ?_)
  ·skip
   refine rC tb 7 U (Ai U (Kq U) ?_)
   first|exact⟨_,⟨_,⟨rfl,fun h=>absurd h qde⟩,rfl⟩,sbt⟩|exact⟨_,⟨_,⟨rfl,fun _=>⟨fun hk=>by exfalso;omega,fun hk=>by exfalso;omega⟩⟩,rfl⟩,sbt⟩|exact⟨_,⟨_,⟨rfl,fun _=>Bx hfd (fun h5=>by generalize ((2 ^ (fndFd fl m.nm).1.w:Nat):Int)=P at *;omega) (fun h5=>by generalize ((2 ^ (fndFd fl m.nm).1.w:Nat):Int)=P at *;omega) (fun h4=>by omega)⟩,rfl⟩,sbt⟩
  ·have hfd:(fndFd fl m.nm).2=true:=by simpa using c29
   refine rC tb 5 U (y_ (Kr U isAgg3 (by first|exact c_o)) ?_ U);refine kO tb 3 [3,5,7] rfl U (rG tb 4 U (y_ (Kr U isAgg3 (by first|exact c_o)) ?_ U));refine rO tb 3 U ?_
   first|refine Ac (Aa U) (fun c34=> ?_) (fun c34=> ?_)|refine Ag (Aa U) (fun c34=> ?_) (fun c34=> ?_)
   ·refine rC tb 2 U (y_ (Kr U isAgg3 (by first|exact c_o)) ?_ U);refine rO tb 7 U (y_ (Ks U isAgg67 sizeOf67 U (by first|exact Av)) ?_ U);refine y_ (Ak (qe1 U) call88 (fun H' hs=>Gc _ (hfl.all _ (Dq hfd)).w16)) (rO tb 2 U ?_) U
    first|refine Am (s:=41) (Aa U) (fun c41=> ?_) (fun c41=> ?_)|refine A1 (s:=41) (Aa U) (fun c41=> ?_) (fun c41=> ?_)
    ·refine rO tb 21 U (Ai U (Kq U) ?_)
     first|exact⟨_,⟨_,⟨rfl,fun h=>absurd h qde⟩,rfl⟩,sbt⟩|exact⟨_,⟨_,⟨rfl,fun _=>⟨fun hk=>by exfalso;omega,fun hk=>by exfalso;omega⟩⟩,rfl⟩,sbt⟩|exact⟨_,⟨_,⟨rfl,fun _=>Bx hfd (fun h5=>by generalize ((2 ^ (fndFd fl m.nm).1.w:Nat):Int)=P at *;omega) (fun h5=>by generalize ((2 ^ (fndFd fl m.nm).1.w:Nat):Int)=P at *;omega) (fun h4=>by omega)⟩,rfl⟩,sbt⟩
    ·refine rO tb 1 U (Az (Kr U isAgg3 (by first|exact c_o)) U (A3 U U (Aa U)) ?_);refine rO tb 2 U ?_
     first|refine Am (s:=45) (Aa U) (fun c45=> ?_) (fun c45=> ?_)|refine A1 (s:=45) (Aa U) (fun c45=> ?_) (fun c45=> ?_)
     ·refine rO tb 1 U (Az (Kr U isAgg3 (by first|exact c_o)) U (A3 U U (Aa U)) ?_);refine rO tb 1 U (Az (Kr U isAgg3 (by first|exact c_o)) U (A3 U U (Aa U)) ?_);refine rO tb 5 U ?_
      first|refine Ac (Aa U) (fun c52=> ?_) (fun c52=> ?_)|refine Ag (Aa U) (fun c52=> ?_) (fun c52=> ?_)
      ·refine rC tb 7 U (Ai U (Kq U) ?_)
       first|exact⟨_,⟨_,⟨rfl,fun h=>absurd h qde⟩,rfl⟩,sbt⟩|exact⟨_,⟨_,⟨rfl,fun _=>⟨fun hk=>by exfalso;omega,fun hk=>by exfalso;omega⟩⟩,rfl⟩,sbt⟩|exact⟨_,⟨_,⟨rfl,fun _=>Bx hfd (fun h5=>by generalize ((2 ^ (fndFd fl m.nm).1.w:Nat):Int)=P at *;omega) (fun h5=>by generalize ((2 ^ (fndFd fl m.nm).1.w:Nat):Int)=P at *;omega) (fun h4=>by omega)⟩,rfl⟩,sbt⟩
      ·refine rC tb 8 U (Ai U (Kq U) ?_)
       first|exact⟨_,⟨_,⟨rfl,fun h=>absurd h qde⟩,rfl⟩,sbt⟩|exact⟨_,⟨_,⟨rfl,fun _=>⟨fun hk=>by exfalso;omega,fun hk=>by exfalso;omega⟩⟩,rfl⟩,sbt⟩|exact⟨_,⟨_,⟨rfl,fun _=>Bx hfd (fun h5=>by generalize ((2 ^ (fndFd fl m.nm).1.w:Nat):Int)=P at *;omega) (fun h5=>by generalize ((2 ^ (fndFd fl m.nm).1.w:Nat):Int)=P at *;omega) (fun h4=>by omega)⟩,rfl⟩,sbt⟩
     ·refine rO tb 18 U (Ai U (Kq U) ?_)
      first|exact⟨_,⟨_,⟨rfl,fun h=>absurd h qde⟩,rfl⟩,sbt⟩|exact⟨_,⟨_,⟨rfl,fun _=>⟨fun hk=>by exfalso;omega,fun hk=>by exfalso;omega⟩⟩,rfl⟩,sbt⟩|exact⟨_,⟨_,⟨rfl,fun _=>Bx hfd (fun h5=>by generalize ((2 ^ (fndFd fl m.nm).1.w:Nat):Int)=P at *;omega) (fun h5=>by generalize ((2 ^ (fndFd fl m.nm).1.w:Nat):Int)=P at *;omega) (fun h4=>by omega)⟩,rfl⟩,sbt⟩
   ·refine rC tb 6 U (y_ (Ks U isAgg67 sizeOf67 U (by first|exact Av)) ?_ U);refine y_ (Ak (qe1 U) call88 (fun H' hs=>Gc _ (hfl.all _ (Dq hfd)).w16)) (rO tb 2 U ?_) U
    first|refine Am (s:=41) (Aa U) (fun c41=> ?_) (fun c41=> ?_)|refine A1 (s:=41) (Aa U) (fun c41=> ?_) (fun c41=> ?_)
    ·refine rO tb 21 U (Ai U (Kq U) ?_)
     first|exact⟨_,⟨_,⟨rfl,fun h=>absurd h qde⟩,rfl⟩,sbt⟩|exact⟨_,⟨_,⟨rfl,fun _=>⟨fun hk=>by exfalso;omega,fun hk=>by exfalso;omega⟩⟩,rfl⟩,sbt⟩|exact⟨_,⟨_,⟨rfl,fun _=>Bx hfd (fun h5=>by generalize ((2 ^ (fndFd fl m.nm).1.w:Nat):Int)=P at *;omega) (fun h5=>by generalize ((2 ^ (fndFd fl m.nm).1.w:Nat):Int)=P at *;omega) (fun h4=>by omega)⟩,rfl⟩,sbt⟩
    ·refine rO tb 1 U (Az (Kr U isAgg3 (by first|exact c_o)) U (A3 U U (Aa U)) ?_);refine rO tb 2 U ?_
     first|refine Am (s:=45) (Aa U) (fun c45=> ?_) (fun c45=> ?_)|refine A1 (s:=45) (Aa U) (fun c45=> ?_) (fun c45=> ?_)
     ·refine rO tb 1 U (Az (Kr U isAgg3 (by first|exact c_o)) U (A3 U U (Aa U)) ?_);refine rO tb 1 U (Az (Kr U isAgg3 (by first|exact c_o)) U (A3 U U (Aa U)) ?_);refine rO tb 5 U ?_
      first|refine Ac (Aa U) (fun c52=> ?_) (fun c52=> ?_)|refine Ag (Aa U) (fun c52=> ?_) (fun c52=> ?_)
      ·refine rC tb 7 U (Ai U (Kq U) ?_)
       first|exact⟨_,⟨_,⟨rfl,fun h=>absurd h qde⟩,rfl⟩,sbt⟩|exact⟨_,⟨_,⟨rfl,fun _=>⟨fun hk=>by exfalso;omega,fun hk=>by exfalso;omega⟩⟩,rfl⟩,sbt⟩|exact⟨_,⟨_,⟨rfl,fun _=>Bx hfd (fun h5=>by generalize ((2 ^ (fndFd fl m.nm).1.w:Nat):Int)=P at *;omega) (fun h5=>by generalize ((2 ^ (fndFd fl m.nm).1.w:Nat):Int)=P at *;omega) (fun h4=>by omega)⟩,rfl⟩,sbt⟩
      ·refine rC tb 8 U (Ai U (Kq U) ?_)
       first|exact⟨_,⟨_,⟨rfl,fun h=>absurd h qde⟩,rfl⟩,sbt⟩|exact⟨_,⟨_,⟨rfl,fun _=>⟨fun hk=>by exfalso;omega,fun hk=>by exfalso;omega⟩⟩,rfl⟩,sbt⟩|exact⟨_,⟨_,⟨rfl,fun _=>Bx hfd (fun h5=>by generalize ((2 ^ (fndFd fl m.nm).1.w:Nat):Int)=P at *;omega) (fun h5=>by generalize ((2 ^ (fndFd fl m.nm).1.w:Nat):Int)=P at *;omega) (fun h4=>by omega)⟩,rfl⟩,sbt⟩
     ·refine rO tb 18 U (Ai U (Kq U) ?_)
      first|exact⟨_,⟨_,⟨rfl,fun h=>absurd h qde⟩,rfl⟩,sbt⟩|exact⟨_,⟨_,⟨rfl,fun _=>⟨fun hk=>by exfalso;omega,fun hk=>by exfalso;omega⟩⟩,rfl⟩,sbt⟩|exact⟨_,⟨_,⟨rfl,fun _=>Bx hfd (fun h5=>by generalize ((2 ^ (fndFd fl m.nm).1.w:Nat):Int)=P at *;omega) (fun h5=>by generalize ((2 ^ (fndFd fl m.nm).1.w:Nat):Int)=P at *;omega) (fun h4=>by omega)⟩,rfl⟩,sbt⟩
theorem fitsAll_s {w0:World}{H:List (Nat × Obj)}(fl:List Fd)(hfl:FlOk fl)(q:Option Addr)(c:Nat)(hA:FlA w0 H q fl){m:Pdm}(hM:PdM w0 H m)(hm:m.sz≤1000000000):
  FSpec Tryz.prog w0 86 #[.slice q fl.length c, .agg (encPd m).toArray] H (SayE (∀ a∈prtP m,FitP fl a) H):=by
 refine An Tryz.func86 U ntmps86 U ?_;have hpl:=prtP_len m;refine rD tb 2 U (e_ (Kw U cs_) ?_ U);rintro _ _ ⟨n3,rfl,rfl⟩;refine rO tb 5 U (y_ (Ks U isAgg25 sizeOf25 U (by first|exact Av)) ?_ U);refine e_ (Ar (qe1 U) call118 (prtP_s _ hm (hM.mono (by exact sbt)) (Nat.le_refl _))) ?_ U;rintro _ _ ⟨d,⟨rfl,hd⟩,rfl⟩;have hdA:Arr w0 (slH d ((prtP m).flatMap encPd) 25) (slQ d) 5 encPd (prtP m):=by have:=Ck (w0:=w0) (e:=25) (X:=[]) (enc:=encPd) (fun _=>rfl) hd;rwa [List.append_nil] at this
 refine rO tb 10 U ?_;refine A9 (X:=Nat) (V:=fun i=>[(6, .int .i64 (i:Nat))]) (C:=[(0,_),(5,_)]) (G:=fun i=>slH d ((prtP m).flatMap encPd) 25++((n3,Cl (encPd m) 25)::H)) (φ:=fun i=>i≤(prtP m).length∧∀ j,j<i→FitP fl (gd (prtP m) j)) (μ:=fun i=>(prtP m).length - i) (x0:=0) ?_ ⟨Aa U,Aa U,trivial⟩ ⟨atd,trivial⟩ sb0 ?_
 ·exact⟨Nat.zero_le _,fun j hj=>absurd hj (Nat.not_lt_zero _)⟩
 rintro i ⟨hi,hf⟩;refine rD tb 9 U ?_
 first|refine Ac (Aa U) (fun c13=> ?_) (fun c13=> ?_)|refine Ag (Aa U) (fun c13=> ?_) (fun c13=> ?_)
 ·have hi2:i<(prtP m).length:=by have h9:((i:Nat):Int)<((prtP m).length:Nat):=c13;omega
  refine rC tb 9 U (y_ (Ku U U runUnderlying23 sizeOf25 qom (by first|exact rfl|exact hdA.b (i:=i) hi2)) ?_ U);refine y_ (Ks U isAgg25 sizeOf25 U (by first|exact(hdA.mono (by repeat (first|exact List.sublist_append_left _ _|refine List.Sublist.cons _ ?_))).cs (i:=i) hi2|exact Av)) ?_ U;refine e_ (Ar (qe2 U U) call119 (fitsP_s fl hfl q c (hA.mono (by exact sbt)) (gd (prtP m) i))) ?_ U;rintro _ _ ⟨e1,⟨rfl,he1⟩,rfl⟩;refine rO tb 9 U ?_
  first|refine Ac (Aa U) (fun c23=> ?_) (fun c23=> ?_)|refine Ag (Aa U) (fun c23=> ?_) (fun c23=> ?_)
  ·skip
   refine rC tb 9 U (Ba (rX tb 2 U (Ai U (Kq U) ?_)));exact⟨_,⟨e1,⟨rfl,fun h=>absurd h c23⟩,rfl⟩,by exact sbt⟩
  ·have he0:e1=0:=Classical.not_not.1 c23;refine rC tb 5 U (y_ (A4 (T U) Aj qom) ?_ U);refine rO tb 2 U ?_;refine A0 (i+1) ?_ ?_ ⟨atd,trivial⟩ ⟨Aa U,Aa U,trivial⟩ ?_
   ·refine⟨hi2,fun j hj=> ?_⟩
    by_cases e:j=i
    ·subst e;exact he1 he0
    ·exact hf j qom
   ·first|omega|(simp only[];omega)
   ·exact sbt
 ·obtain rfl:i=(prtP m).length:=by have h9: ¬ ((i:Nat):Int)<((prtP m).length:Nat):=c13;omega
  refine rC tb 2 U (Ao (rX tb 8 U (Ai U (Kq U) ?_)));exact⟨_,⟨0,⟨rfl,fun _=>C0 hf⟩,rfl⟩,by exact sbt⟩
theorem Ey {fl:List Fd}{m:Pom}(h1:m.kind=1→∀ a∈prtP m.pr,FitP fl a)(h2:m.kind=2→(fndFd fl m.nm).2=true∧m.n≤((2 ^ (fndFd fl m.nm).1.w:Nat):Int) - 1):FitO fl m:=⟨h1,fun hk=>by have:=h2 hk;rw[pow_c] at this;exact this⟩
theorem po_prc {w0:World}{H:List (Nat × Obj)}{b o:Nat}{m:Pom}(h:Cells w0 H b o (encPo m)):Cells w0 H b (o+1) (encPd m.pr):=fun i v hi=>by
 have hl:=(List.getElem?_eq_some_iff.1 hi).1;have:=h (1+i) v (by
  show (.int .i64 m.kind::(encPd m.pr++[.string m.nm, .int .i64 m.n, .slice m.q m.subs.length m.cap]):List Value)[1+i]? =some v;rw[show 1+i=i+1 by omega,List.getElem?_cons_succ,List.getElem?_append_left hl];exact hi)
 rwa [← Nat.add_assoc] at this
theorem rpolicy_s {w0:World}{H:List (Nat × Obj)}(fl:List Fd)(hfl:FlOk fl)(q:Option Addr)(c:Nat)(hA:FlA w0 H q fl){m:Pom}(hM:PoM w0 H m)(hm:m.sz≤1000000000)(hz:NmO m):
  FSpec Tryz.prog w0 44 #[.slice q fl.length c, .agg (encPo m).toArray] H (SayE (m.nd≤200∧FmO m∧∀ a∈prtO m,FitO fl a) H):=by
 refine An Tryz.func44 U ntmps44 U ?_;have hpl:=prtO_len m;have hfew:=hfl.few;refine rD tb 2 U (e_ (Kw U cs_) ?_ U);rintro _ _ ⟨n3,rfl,rfl⟩;refine rO tb 5 U (y_ (Ks U isAgg28 sizeOf28 U (by first|exact Av)) ?_ U);refine e_ (Ar (qe1 U) call84 (checkO_s (hM.mono (by exact sbt)) hm hz)) ?_ U;rintro _ _ ⟨e1,⟨rfl,he1⟩,rfl⟩;refine rO tb 10 U ?_
 first|refine Ac (Aa U) (fun c13=> ?_) (fun c13=> ?_)|refine Ag (Aa U) (fun c13=> ?_) (fun c13=> ?_)
 ·skip
  refine rC tb 8 U (Ai U (Kq U) ?_)
  first|exact⟨_,⟨_,⟨rfl,fun h=>absurd h qde⟩,rfl⟩,by exact sbt⟩|exact⟨_,⟨_,⟨rfl,fun h=>absurd h (by assumption)⟩,rfl⟩,by exact sbt⟩|exact⟨_,⟨0,⟨rfl,fun _=>⟨hnd,hfo,C0 hf⟩⟩,rfl⟩,by exact sbt⟩
 ·obtain⟨hnd,hfo⟩:=he1 (Classical.not_not.1 c13);refine rC tb 4 U (y_ (Ks U isAgg28 sizeOf28 U (by first|exact Av)) ?_ U);refine e_ (Ar (qe1 U) call85 (prtO_s _ hm (hM.mono (by exact sbt)) (Nat.le_refl _))) ?_ U;rintro _ _ ⟨d,⟨rfl,hd⟩,rfl⟩;have hdA:Arr w0 (slH d ((prtO m).flatMap encPo) 28) (slQ d) 9 encPo (prtO m):=by have:=Ck (w0:=w0) (e:=28) (X:=[]) (enc:=encPo) (fun _=>rfl) hd;rwa [List.append_nil] at this
  refine rO tb 10 U ?_;refine A9 (X:=Nat) (V:=fun i=>[(7, .int .i64 (i:Nat)),(5, .int .i64 0)]) (C:=[(0,_),(6,_)]) (G:=fun i=>slH d ((prtO m).flatMap encPo) 28++((n3,Cl (encPo m) 28)::H)) (φ:=fun i=>i≤(prtO m).length∧∀ j,j<i→FitO fl (gd (prtO m) j)) (μ:=fun i=>(prtO m).length - i) (x0:=0) ?_ ⟨Aa U,Aa U,trivial⟩ ⟨(by first|exact Aa U|(refine Ad (Aa U) (vint ?_);omega)|(refine Ad (Aa U) ?_;simp;done)|(refine Ad (Aa U) ?_;exact vint (by first|omega|exact(Classical.not_not.1 c63)))),(by first|exact Aa U|(refine Ad (Aa U) (vint ?_);omega)|(refine Ad (Aa U) ?_;simp;done)|(refine Ad (Aa U) ?_;exact vint (by first|omega|exact(Classical.not_not.1 c63)))),trivial⟩ sb0 ?_
  ·exact⟨Nat.zero_le _,fun j hj=>absurd hj (Nat.not_lt_zero _)⟩
  rintro i ⟨hi,hf⟩;refine rD tb 9 U ?_
  first|refine Ac (Aa U) (fun c20=> ?_) (fun c20=> ?_)|refine Ag (Aa U) (fun c20=> ?_) (fun c20=> ?_)
  ·have hi2:i<(prtO m).length:=by have h9:((i:Nat):Int)<((prtO m).length:Nat):=c20;omega
   have hmi:=prtO_M hM _ (A2 hi2);have hms:=prtO_sz _ (A2 hi2);have hmz:=Ew (gd (prtO m) i);refine rC tb 9 U (y_ (Ku U U runUnderlying26 sizeOf28 qom (by first|exact rfl|exact hdA.b (i:=i) hi2)) ?_ U);refine rO tb 1 U ?_;refine y_ (Kr U isAgg3 (by first|exact c_o|exact(hdA.mono (by repeat (first|exact List.sublist_append_left _ _|refine List.Sublist.cons _ ?_))).cs (i:=i) hi2 0 _ U)) ?_ U;refine rO tb 3 U ?_
   first|refine Ac (Aa U) (fun c28=> ?_) (fun c28=> ?_)|refine Ag (Aa U) (fun c28=> ?_) (fun c28=> ?_)
   ·refine rC tb 4 U (y_ (Ku U U runUnderlying26 sizeOf28 qom (by first|exact rfl|exact hdA.b (i:=i) hi2)) ?_ U);refine rO tb 1 U ?_;refine y_ (Ks U isAgg25 sizeOf25 U (by first|exact po_prc ((hdA.mono (by repeat (first|exact List.sublist_append_left _ _|refine List.Sublist.cons _ ?_))).cs (i:=i) hi2)|exact Av)) ?_ U;refine e_ (Ar (qe2 U U) call86 (fitsAll_s fl hfl q c (hA.mono (by exact sbt)) (m:=(gd (prtO m) i).pr) ((hmi.pred).mono (by exact sbt)) qom)) ?_ U;rintro _ _ ⟨e2,⟨rfl,he2⟩,rfl⟩;refine rO tb 8 U (y_ (Ku U U runUnderlying26 sizeOf28 qom (by first|exact rfl|exact hdA.b (i:=i) hi2)) ?_ U);refine rO tb 1 U ?_;refine y_ (Kr U isAgg3 (by first|exact c_o|exact(hdA.mono (by repeat (first|exact List.sublist_append_left _ _|refine List.Sublist.cons _ ?_))).cs (i:=i) hi2 0 _ U)) ?_ U;refine rO tb 3 U ?_
    first|refine Ac (Aa U) (fun c41=> ?_) (fun c41=> ?_)|refine Ag (Aa U) (fun c41=> ?_) (fun c41=> ?_)
    ·refine rC tb 5 U (y_ (Ku U U runUnderlying26 sizeOf28 qom (by first|exact rfl|exact hdA.b (i:=i) hi2)) ?_ U);refine rO tb 1 U ?_;refine y_ (Kr U isAgg9 (by first|exact c_o|exact(hdA.mono (by repeat (first|exact List.sublist_append_left _ _|refine List.Sublist.cons _ ?_))).cs (i:=i) hi2 6 _ U)) ?_ U;refine y_ (Ak (qe2 U U) call87 (fun H' hs=>Hu fl q c (hA.mono (List.Sublist.trans (by exact sbt) hs)) qom (gd (prtO m) i).nm)) ?_ U;refine rO tb 3 U (e_ (Al zeroValue67 cs_) ?_ U);rintro _ _ ⟨n8,rfl,rfl⟩
     first|refine A6 (Kv U U sizeOf67) U Ae ?_
     rintro _ _ ⟨rfl,rfl⟩;refine kO tb 3 [0,5,6,7,8,9] rfl U (rG tb 3 U ?_)
     first|refine Az (Bq (T U)) U Ae ?_|refine Az (B2 (T U)) U Ae ?_
     refine rO tb 2 U ?_
     first|refine Ac (Aa U) (fun c53=> ?_) (fun c53=> ?_)|refine Ag (Aa U) (fun c53=> ?_) (fun c53=> ?_)
     ·skip
      refine rC tb 10 U ?_
      first|refine Ac (Aa U) (fun c63=> ?_) (fun c63=> ?_)|refine Ag (Aa U) (fun c63=> ?_) (fun c63=> ?_)
      ·skip
       refine rC tb 9 U (Ba (rX tb 2 U (Ai U (Kq U) ?_)))
       first|exact⟨_,⟨_,⟨rfl,fun h=>absurd h qde⟩,rfl⟩,by exact sbt⟩|exact⟨_,⟨_,⟨rfl,fun h=>absurd h (by assumption)⟩,rfl⟩,by exact sbt⟩|exact⟨_,⟨0,⟨rfl,fun _=>⟨hnd,hfo,C0 hf⟩⟩,rfl⟩,by exact sbt⟩
      ·have he0:=Classical.not_not.1 c63;refine rC tb 5 U (y_ (A4 (T U) Aj qom) ?_ U);refine rO tb 2 U ?_;refine A0 (i+1) ?_ ?_ ⟨(by first|exact Aa U|(refine Ad (Aa U) (vint ?_);omega)|(refine Ad (Aa U) ?_;simp;done)|(refine Ad (Aa U) ?_;exact vint (by first|omega|exact(Classical.not_not.1 c63)))),(by first|exact Aa U|(refine Ad (Aa U) (vint ?_);omega)|(refine Ad (Aa U) ?_;simp;done)|(refine Ad (Aa U) ?_;exact vint (by first|omega|exact(Classical.not_not.1 c63)))),trivial⟩ ⟨Aa U,Aa U,trivial⟩ ?_
       ·refine⟨hi2,fun j hj=> ?_⟩
        by_cases e:j=i
        ·subst e;exact Ey (fun hk=>by first|exact he2 (by first|assumption|omega)|(exfalso;omega)) (fun hk=>by first|(exact⟨hfd,by generalize ((2 ^ (fndFd fl (gd (prtO m) j).nm).1.w:Nat):Int)=P at *;omega⟩)|(exfalso;omega))
        ·exact hf j qom
       ·first|omega|(simp only[];omega)
       ·exact sbt
     ·have hfd:(fndFd fl (gd (prtO m) i).nm).2=true:=by simpa using c53
      refine rC tb 1 U (Bl 8 [(0,true),(1,true),(2,true),(3,true),(4,true),(5,true),(6,true),(7,true)] ((n8,Cl (encF (fndFd fl (gd (prtO m) i).nm).1) 67)::(slH d ((prtO m).flatMap encPo) 28++((n3,Cl (encPo m) 28)::H))) mixd qkr (by exact sbt) ?_ Bp);refine rP tb 2 U (o_y U (Ku U U runUnderlying26 sizeOf28 qom (by first|exact rfl|exact hdA.b (i:=i) hi2)) ?_ U Ae);refine rP tb 1 U ?_;refine o_y U (Kr U isAgg3 (by first|exact c_o|exact(hdA.mono (by repeat (first|exact List.sublist_append_left _ _|refine List.Sublist.cons _ ?_))).cs (i:=i) hi2 7 _ U)) ?_ U Ae;refine o_y U (Ks U isAgg67 sizeOf67 U (by first|exact Av)) ?_ U Ae;refine o_y U (Ak (qe1 U) call88 (fun H' hs=>Gc _ (hfl.all _ (Dq hfd)).w16)) (rP tb 1 U (A7 U (rO tb 2 U ?_))) U Ae
      first|refine Ac (Aa U) (fun c61=> ?_) (fun c61=> ?_)|refine Ag (Aa U) (fun c61=> ?_) (fun c61=> ?_)
      ·refine rC tb 10 U ?_
       first|refine Ac (Aa U) (fun c63=> ?_) (fun c63=> ?_)|refine Ag (Aa U) (fun c63=> ?_) (fun c63=> ?_)
       ·skip
        refine rC tb 9 U (Ba (rX tb 2 U (Ai U (Kq U) ?_)))
        first|exact⟨_,⟨_,⟨rfl,fun h=>absurd h qde⟩,rfl⟩,by exact sbt⟩|exact⟨_,⟨_,⟨rfl,fun h=>absurd h (by assumption)⟩,rfl⟩,by exact sbt⟩|exact⟨_,⟨0,⟨rfl,fun _=>⟨hnd,hfo,C0 hf⟩⟩,rfl⟩,by exact sbt⟩
       ·have he0:=Classical.not_not.1 c63;refine rC tb 5 U (y_ (A4 (T U) Aj qom) ?_ U);refine rO tb 2 U ?_;refine A0 (i+1) ?_ ?_ ⟨(by first|exact Aa U|(refine Ad (Aa U) (vint ?_);omega)|(refine Ad (Aa U) ?_;simp;done)|(refine Ad (Aa U) ?_;exact vint (by first|omega|exact(Classical.not_not.1 c63)))),(by first|exact Aa U|(refine Ad (Aa U) (vint ?_);omega)|(refine Ad (Aa U) ?_;simp;done)|(refine Ad (Aa U) ?_;exact vint (by first|omega|exact(Classical.not_not.1 c63)))),trivial⟩ ⟨Aa U,Aa U,trivial⟩ ?_
        ·refine⟨hi2,fun j hj=> ?_⟩
         by_cases e:j=i
         ·subst e;exact Ey (fun hk=>by first|exact he2 (by first|assumption|omega)|(exfalso;omega)) (fun hk=>by first|(exact⟨hfd,by generalize ((2 ^ (fndFd fl (gd (prtO m) j).nm).1.w:Nat):Int)=P at *;omega⟩)|(exfalso;omega))
         ·exact hf j qom
        ·first|omega|(simp only[];omega)
        ·exact sbt
      ·refine rC tb 8 U ?_
       first|refine Ac (Aa U) (fun c63=> ?_) (fun c63=> ?_)|refine Ag (Aa U) (fun c63=> ?_) (fun c63=> ?_)
       ·skip
        refine rC tb 9 U (Ba (rX tb 2 U (Ai U (Kq U) ?_)))
        first|exact⟨_,⟨_,⟨rfl,fun h=>absurd h qde⟩,rfl⟩,by exact sbt⟩|exact⟨_,⟨_,⟨rfl,fun h=>absurd h (by assumption)⟩,rfl⟩,by exact sbt⟩|exact⟨_,⟨0,⟨rfl,fun _=>⟨hnd,hfo,C0 hf⟩⟩,rfl⟩,by exact sbt⟩
       ·have he0:=Classical.not_not.1 c63;refine rC tb 5 U (y_ (A4 (T U) Aj qom) ?_ U);refine rO tb 2 U ?_;refine A0 (i+1) ?_ ?_ ⟨(by first|exact Aa U|(refine Ad (Aa U) (vint ?_);omega)|(refine Ad (Aa U) ?_;simp;done)|(refine Ad (Aa U) ?_;exact vint (by first|omega|exact(Classical.not_not.1 c63)))),(by first|exact Aa U|(refine Ad (Aa U) (vint ?_);omega)|(refine Ad (Aa U) ?_;simp;done)|(refine Ad (Aa U) ?_;exact vint (by first|omega|exact(Classical.not_not.1 c63)))),trivial⟩ ⟨Aa U,Aa U,trivial⟩ ?_
        ·refine⟨hi2,fun j hj=> ?_⟩
         by_cases e:j=i
         ·subst e;exact Ey (fun hk=>by first|exact he2 (by first|assumption|omega)|(exfalso;omega)) (fun hk=>by first|(exact⟨hfd,by generalize ((2 ^ (fndFd fl (gd (prtO m) j).nm).1.w:Nat):Int)=P at *;omega⟩)|(exfalso;omega))
         ·exact hf j qom
        ·first|omega|(simp only[];omega)
        ·exact sbt
    ·refine kC tb 8 [0,5,6,7,63] rfl U ?_
     first|refine Ac (Aa U) (fun c63=> ?_) (fun c63=> ?_)|refine Ag (Aa U) (fun c63=> ?_) (fun c63=> ?_)
     ·skip
      refine rC tb 9 U (Ba (rX tb 2 U (Ai U (Kq U) ?_)))
      first|exact⟨_,⟨_,⟨rfl,fun h=>absurd h qde⟩,rfl⟩,by exact sbt⟩|exact⟨_,⟨_,⟨rfl,fun h=>absurd h (by assumption)⟩,rfl⟩,by exact sbt⟩|exact⟨_,⟨0,⟨rfl,fun _=>⟨hnd,hfo,C0 hf⟩⟩,rfl⟩,by exact sbt⟩
     ·have he0:=Classical.not_not.1 c63;refine rC tb 5 U (y_ (A4 (T U) Aj qom) ?_ U);refine rO tb 2 U ?_;refine A0 (i+1) ?_ ?_ ⟨(by first|exact Aa U|(refine Ad (Aa U) (vint ?_);omega)|(refine Ad (Aa U) ?_;simp;done)|(refine Ad (Aa U) ?_;exact vint (by first|omega|exact(Classical.not_not.1 c63)))),(by first|exact Aa U|(refine Ad (Aa U) (vint ?_);omega)|(refine Ad (Aa U) ?_;simp;done)|(refine Ad (Aa U) ?_;exact vint (by first|omega|exact(Classical.not_not.1 c63)))),trivial⟩ ⟨Aa U,Aa U,trivial⟩ ?_
      ·refine⟨hi2,fun j hj=> ?_⟩
       by_cases e:j=i
       ·subst e;exact Ey (fun hk=>by first|exact he2 (by first|assumption|omega)|(exfalso;omega)) (fun hk=>by first|(exact⟨hfd,by generalize ((2 ^ (fndFd fl (gd (prtO m) j).nm).1.w:Nat):Int)=P at *;omega⟩)|(exfalso;omega))
       ·exact hf j qom
      ·first|omega|(simp only[];omega)
      ·exact sbt
   ·refine rC tb 7 U (y_ (Ku U U runUnderlying26 sizeOf28 qom (by first|exact rfl|exact hdA.b (i:=i) hi2)) ?_ U);refine rO tb 1 U ?_;refine y_ (Kr U isAgg3 (by first|exact c_o|exact(hdA.mono (by repeat (first|exact List.sublist_append_left _ _|refine List.Sublist.cons _ ?_))).cs (i:=i) hi2 0 _ U)) ?_ U;refine rO tb 3 U ?_
    first|refine Ac (Aa U) (fun c41=> ?_) (fun c41=> ?_)|refine Ag (Aa U) (fun c41=> ?_) (fun c41=> ?_)
    ·refine rC tb 5 U (y_ (Ku U U runUnderlying26 sizeOf28 qom (by first|exact rfl|exact hdA.b (i:=i) hi2)) ?_ U);refine rO tb 1 U ?_;refine y_ (Kr U isAgg9 (by first|exact c_o|exact(hdA.mono (by repeat (first|exact List.sublist_append_left _ _|refine List.Sublist.cons _ ?_))).cs (i:=i) hi2 6 _ U)) ?_ U;refine y_ (Ak (qe2 U U) call87 (fun H' hs=>Hu fl q c (hA.mono (List.Sublist.trans (by exact sbt) hs)) qom (gd (prtO m) i).nm)) ?_ U;refine rO tb 3 U (e_ (Al zeroValue67 cs_) ?_ U);rintro _ _ ⟨n8,rfl,rfl⟩
     first|refine A6 (Kv U U sizeOf67) U Ae ?_
     rintro _ _ ⟨rfl,rfl⟩;refine kO tb 3 [0,5,6,7,8,9] rfl U (rG tb 3 U ?_)
     first|refine Az (Bq (T U)) U Ae ?_|refine Az (B2 (T U)) U Ae ?_
     refine rO tb 2 U ?_
     first|refine Ac (Aa U) (fun c53=> ?_) (fun c53=> ?_)|refine Ag (Aa U) (fun c53=> ?_) (fun c53=> ?_)
     ·skip
      refine rC tb 10 U ?_
      first|refine Ac (Aa U) (fun c63=> ?_) (fun c63=> ?_)|refine Ag (Aa U) (fun c63=> ?_) (fun c63=> ?_)
      ·skip
       refine rC tb 9 U (Ba (rX tb 2 U (Ai U (Kq U) ?_)))
       first|exact⟨_,⟨_,⟨rfl,fun h=>absurd h qde⟩,rfl⟩,by exact sbt⟩|exact⟨_,⟨_,⟨rfl,fun h=>absurd h (by assumption)⟩,rfl⟩,by exact sbt⟩|exact⟨_,⟨0,⟨rfl,fun _=>⟨hnd,hfo,C0 hf⟩⟩,rfl⟩,by exact sbt⟩
      ·have he0:=Classical.not_not.1 c63;refine rC tb 5 U (y_ (A4 (T U) Aj qom) ?_ U);refine rO tb 2 U ?_;refine A0 (i+1) ?_ ?_ ⟨(by first|exact Aa U|(refine Ad (Aa U) (vint ?_);omega)|(refine Ad (Aa U) ?_;simp;done)|(refine Ad (Aa U) ?_;exact vint (by first|omega|exact(Classical.not_not.1 c63)))),(by first|exact Aa U|(refine Ad (Aa U) (vint ?_);omega)|(refine Ad (Aa U) ?_;simp;done)|(refine Ad (Aa U) ?_;exact vint (by first|omega|exact(Classical.not_not.1 c63)))),trivial⟩ ⟨Aa U,Aa U,trivial⟩ ?_
       ·refine⟨hi2,fun j hj=> ?_⟩
        by_cases e:j=i
        ·subst e;exact Ey (fun hk=>by first|exact he2 (by first|assumption|omega)|(exfalso;omega)) (fun hk=>by first|(exact⟨hfd,by generalize ((2 ^ (fndFd fl (gd (prtO m) j).nm).1.w:Nat):Int)=P at *;omega⟩)|(exfalso;omega))
        ·exact hf j qom
       ·first|omega|(simp only[];omega)
       ·exact sbt
     ·have hfd:(fndFd fl (gd (prtO m) i).nm).2=true:=by simpa using c53
      refine rC tb 1 U (Bl 8 [(0,true),(1,true),(2,true),(3,true),(4,true),(5,true),(6,true),(7,true)] ((n8,Cl (encF (fndFd fl (gd (prtO m) i).nm).1) 67)::(slH d ((prtO m).flatMap encPo) 28++((n3,Cl (encPo m) 28)::H))) mixd qkr (by exact sbt) ?_ Bp);refine rP tb 2 U (o_y U (Ku U U runUnderlying26 sizeOf28 qom (by first|exact rfl|exact hdA.b (i:=i) hi2)) ?_ U Ae);refine rP tb 1 U ?_;refine o_y U (Kr U isAgg3 (by first|exact c_o|exact(hdA.mono (by repeat (first|exact List.sublist_append_left _ _|refine List.Sublist.cons _ ?_))).cs (i:=i) hi2 7 _ U)) ?_ U Ae;refine o_y U (Ks U isAgg67 sizeOf67 U (by first|exact Av)) ?_ U Ae;refine o_y U (Ak (qe1 U) call88 (fun H' hs=>Gc _ (hfl.all _ (Dq hfd)).w16)) (rP tb 1 U (A7 U (rO tb 2 U ?_))) U Ae
      first|refine Ac (Aa U) (fun c61=> ?_) (fun c61=> ?_)|refine Ag (Aa U) (fun c61=> ?_) (fun c61=> ?_)
      ·refine rC tb 10 U ?_
       first|refine Ac (Aa U) (fun c63=> ?_) (fun c63=> ?_)|refine Ag (Aa U) (fun c63=> ?_) (fun c63=> ?_)
       ·skip
        refine rC tb 9 U (Ba (rX tb 2 U (Ai U (Kq U) ?_)))
        first|exact⟨_,⟨_,⟨rfl,fun h=>absurd h qde⟩,rfl⟩,by exact sbt⟩|exact⟨_,⟨_,⟨rfl,fun h=>absurd h (by assumption)⟩,rfl⟩,by exact sbt⟩|exact⟨_,⟨0,⟨rfl,fun _=>⟨hnd,hfo,C0 hf⟩⟩,rfl⟩,by exact sbt⟩
       ·have he0:=Classical.not_not.1 c63;refine rC tb 5 U (y_ (A4 (T U) Aj qom) ?_ U);refine rO tb 2 U ?_;refine A0 (i+1) ?_ ?_ ⟨(by first|exact Aa U|(refine Ad (Aa U) (vint ?_);omega)|(refine Ad (Aa U) ?_;simp;done)|(refine Ad (Aa U) ?_;exact vint (by first|omega|exact(Classical.not_not.1 c63)))),(by first|exact Aa U|(refine Ad (Aa U) (vint ?_);omega)|(refine Ad (Aa U) ?_;simp;done)|(refine Ad (Aa U) ?_;exact vint (by first|omega|exact(Classical.not_not.1 c63)))),trivial⟩ ⟨Aa U,Aa U,trivial⟩ ?_
        ·refine⟨hi2,fun j hj=> ?_⟩
         by_cases e:j=i
         ·subst e;exact Ey (fun hk=>by first|exact he2 (by first|assumption|omega)|(exfalso;omega)) (fun hk=>by first|(exact⟨hfd,by generalize ((2 ^ (fndFd fl (gd (prtO m) j).nm).1.w:Nat):Int)=P at *;omega⟩)|(exfalso;omega))
         ·exact hf j qom
        ·first|omega|(simp only[];omega)
        ·exact sbt
      ·refine rC tb 8 U ?_
       first|refine Ac (Aa U) (fun c63=> ?_) (fun c63=> ?_)|refine Ag (Aa U) (fun c63=> ?_) (fun c63=> ?_)
       ·skip
        refine rC tb 9 U (Ba (rX tb 2 U (Ai U (Kq U) ?_)))
        first|exact⟨_,⟨_,⟨rfl,fun h=>absurd h qde⟩,rfl⟩,by exact sbt⟩|exact⟨_,⟨_,⟨rfl,fun h=>absurd h (by assumption)⟩,rfl⟩,by exact sbt⟩|exact⟨_,⟨0,⟨rfl,fun _=>⟨hnd,hfo,C0 hf⟩⟩,rfl⟩,by exact sbt⟩
       ·have he0:=Classical.not_not.1 c63;refine rC tb 5 U (y_ (A4 (T U) Aj qom) ?_ U);refine rO tb 2 U ?_;refine A0 (i+1) ?_ ?_ ⟨(by first|exact Aa U|(refine Ad (Aa U) (vint ?_);omega)|(refine Ad (Aa U) ?_;simp;done)|(refine Ad (Aa U) ?_;exact vint (by first|omega|exact(Classical.not_not.1 c63)))),(by first|exact Aa U|(refine Ad (Aa U) (vint ?_);omega)|(refine Ad (Aa U) ?_;simp;done)|(refine Ad (Aa U) ?_;exact vint (by first|omega|exact(Classical.not_not.1 c63)))),trivial⟩ ⟨Aa U,Aa U,trivial⟩ ?_
        ·refine⟨hi2,fun j hj=> ?_⟩
         by_cases e:j=i
         ·subst e;exact Ey (fun hk=>by first|exact he2 (by first|assumption|omega)|(exfalso;omega)) (fun hk=>by first|(exact⟨hfd,by generalize ((2 ^ (fndFd fl (gd (prtO m) j).nm).1.w:Nat):Int)=P at *;omega⟩)|(exfalso;omega))
         ·exact hf j qom
        ·first|omega|(simp only[];omega)
        ·exact sbt
    ·refine rC tb 8 U ?_
     first|refine Ac (Aa U) (fun c63=> ?_) (fun c63=> ?_)|refine Ag (Aa U) (fun c63=> ?_) (fun c63=> ?_)
     ·skip
      refine rC tb 9 U (Ba (rX tb 2 U (Ai U (Kq U) ?_)))
      first|exact⟨_,⟨_,⟨rfl,fun h=>absurd h qde⟩,rfl⟩,by exact sbt⟩|exact⟨_,⟨_,⟨rfl,fun h=>absurd h (by assumption)⟩,rfl⟩,by exact sbt⟩|exact⟨_,⟨0,⟨rfl,fun _=>⟨hnd,hfo,C0 hf⟩⟩,rfl⟩,by exact sbt⟩
     ·have he0:=Classical.not_not.1 c63;refine rC tb 5 U (y_ (A4 (T U) Aj qom) ?_ U);refine rO tb 2 U ?_;refine A0 (i+1) ?_ ?_ ⟨(by first|exact Aa U|(refine Ad (Aa U) (vint ?_);omega)|(refine Ad (Aa U) ?_;simp;done)|(refine Ad (Aa U) ?_;exact vint (by first|omega|exact(Classical.not_not.1 c63)))),(by first|exact Aa U|(refine Ad (Aa U) (vint ?_);omega)|(refine Ad (Aa U) ?_;simp;done)|(refine Ad (Aa U) ?_;exact vint (by first|omega|exact(Classical.not_not.1 c63)))),trivial⟩ ⟨Aa U,Aa U,trivial⟩ ?_
      ·refine⟨hi2,fun j hj=> ?_⟩
       by_cases e:j=i
       ·subst e;exact Ey (fun hk=>by first|exact he2 (by first|assumption|omega)|(exfalso;omega)) (fun hk=>by first|(exact⟨hfd,by generalize ((2 ^ (fndFd fl (gd (prtO m) j).nm).1.w:Nat):Int)=P at *;omega⟩)|(exfalso;omega))
       ·exact hf j qom
      ·first|omega|(simp only[];omega)
      ·exact sbt
  ·obtain rfl:i=(prtO m).length:=by have h9: ¬ ((i:Nat):Int)<((prtO m).length:Nat):=c20;omega
   refine rC tb 2 U (Ao (rX tb 8 U (Ai U (Kq U) ?_)))
   first|exact⟨_,⟨_,⟨rfl,fun h=>absurd h qde⟩,rfl⟩,by exact sbt⟩|exact⟨_,⟨_,⟨rfl,fun h=>absurd h (by assumption)⟩,rfl⟩,by exact sbt⟩|exact⟨_,⟨0,⟨rfl,fun _=>⟨hnd,hfo,C0 hf⟩⟩,rfl⟩,by exact sbt⟩
theorem field84 (a:Nat)(d:Int)(w:World):(Instr.field 84 (szV a d) 0).run Tryz.prog w= .ok (.int .i64 (a:Nat)) w:=by kernel_rfl
theorem right_s {w0:World}{H:List (Nat × Obj)}(fl:List Fd)(hfl:FlOk fl)(q:Option Addr)(c:Nat)(hA:FlA w0 H q fl){m:Pom}(hM:PoM w0 H m)(hm:m.sz≤1000000000)(hz:NmO m)(most:Nat):
  FSpec Tryz.prog w0 12 #[.slice q fl.length c, .agg (encPo m).toArray, .int .i64 (most:Nat)] H (SayB (m.nd≤most∧FmO m∧∀ a∈prtO m,FitO fl a) H):=by
 refine An Tryz.func12 U ntmps12 U (rD tb 2 U (e_ (Kw U cs_) ?_ U));rintro _ _ ⟨n4,rfl,rfl⟩;refine rO tb 5 U (y_ (Ks U isAgg28 sizeOf28 U (by first|exact Av)) ?_ U);refine e_ (Ar (qe1 U) call40 (fewO_s (hM.mono (by exact sbt)) hm)) ?_ U;rintro _ _ ⟨b1,rfl,rfl⟩;refine rO tb 7 U ?_
 first|refine Az (Bq (T U)) U Ae ?_|refine Az (B2 (T U)) U Ae ?_
 refine rO tb 1 U ?_
 first|refine Am (s:=13) (Aa U) (fun c13=> ?_) (fun c13=> ?_)|refine A1 (s:=13) (Aa U) (fun c13=> ?_) (fun c13=> ?_)
 ·refine rO tb 26 U (Ai U (Kq U) ?_)
  first|exact⟨_,⟨false,⟨rfl,fun h=>by cases h⟩,rfl⟩,by exact sbt⟩|exact⟨_,⟨_,⟨rfl,fun h=>⟨by omega,(he1 (of_decide_eq_true h)).2⟩⟩,rfl⟩,by exact sbt⟩
 ·refine Az (Ks U isAgg28 sizeOf28 U (by first|exact Av)) U (A3 U U (Aa U)) ?_;refine A6 (Ar (qe1 U) call41 (szO_s _ hm (hM.mono (by exact sbt)) (Nat.le_refl _))) U (A3 U U (Aa U)) ?_;rintro _ _ ⟨z1,⟨rfl,y1,x1⟩,rfl⟩;refine Az (yl_field (T U) (field84 _ _)) U (A3 U U (Aa U)) (rO tb 4 U ?_)
  first|refine Am (s:=20) (Aa U) (fun c20=> ?_) (fun c20=> ?_)|refine A1 (s:=20) (Aa U) (fun c20=> ?_) (fun c20=> ?_)
  ·refine rO tb 19 U (Ai U (Kq U) ?_)
   first|exact⟨_,⟨false,⟨rfl,fun h=>by cases h⟩,rfl⟩,by exact sbt⟩|exact⟨_,⟨_,⟨rfl,fun h=>⟨by omega,(he1 (of_decide_eq_true h)).2⟩⟩,rfl⟩,by exact sbt⟩
  ·refine Az (Ks U isAgg28 sizeOf28 U (by first|exact Av)) U (A3 U U (Aa U)) ?_;refine A6 (Ar (qe1 U) call42 (stO_s _ hm (hM.mono (by exact sbt)) (Nat.le_refl _))) U (A3 U U (Aa U)) ?_;rintro _ _ ⟨z2,⟨rfl,y2,x2⟩,rfl⟩;refine rO tb 3 U ?_
   first|refine Am (s:=25) (Aa U) (fun c25=> ?_) (fun c25=> ?_)|refine A1 (s:=25) (Aa U) (fun c25=> ?_) (fun c25=> ?_)
   ·refine rO tb 14 U (Ai U (Kq U) ?_)
    first|exact⟨_,⟨false,⟨rfl,fun h=>by cases h⟩,rfl⟩,by exact sbt⟩|exact⟨_,⟨_,⟨rfl,fun h=>⟨by omega,(he1 (of_decide_eq_true h)).2⟩⟩,rfl⟩,by exact sbt⟩
   ·refine Az (Ks U isAgg28 sizeOf28 U (by first|exact Av)) U (A3 U U (Aa U)) ?_;refine A6 (Ar (qe1 U) call43 (light_s (hM.mono (by exact sbt)) hm)) U (A3 U U (Aa U)) ?_;rintro _ _ ⟨b4,rfl,rfl⟩
    first|refine Az (Bq (T U)) U (A3 U U (Aa U)) ?_|refine Az (B2 (T U)) U (A3 U U (Aa U)) ?_
    refine rO tb 3 U ?_
    first|refine Ac (Aa U) (fun c29=> ?_) (fun c29=> ?_)|refine Ag (Aa U) (fun c29=> ?_) (fun c29=> ?_)
    ·refine rC tb 7 U (Ai U (Kq U) ?_)
     first|exact⟨_,⟨false,⟨rfl,fun h=>by cases h⟩,rfl⟩,by exact sbt⟩|exact⟨_,⟨_,⟨rfl,fun h=>⟨by omega,(he1 (of_decide_eq_true h)).2⟩⟩,rfl⟩,by exact sbt⟩
    ·refine rC tb 5 U (y_ (Ks U isAgg28 sizeOf28 U (by first|exact Av)) ?_ U);refine e_ (Ar (qe2 U U) call44 (rpolicy_s fl hfl q c (hA.mono (by exact sbt)) (hM.mono (by exact sbt)) hm hz)) ?_ U;rintro _ _ ⟨e1,⟨rfl,he1⟩,rfl⟩;refine kO tb 10 [6] rfl U (rG tb 1 U (Ai U (Kq U) ?_))
     first|exact⟨_,⟨false,⟨rfl,fun h=>by cases h⟩,rfl⟩,by exact sbt⟩|exact⟨_,⟨_,⟨rfl,fun h=>⟨by omega,(he1 (of_decide_eq_true h)).2⟩⟩,rfl⟩,by exact sbt⟩
structure Fi where
 nm:ByteArray
 pos:Int
 w:Int
instance:Inhabited Fi:=⟨⟨default,0,0⟩⟩
abbrev encFi (f:Fi):List Value:=[.string f.nm, .int .i64 f.pos, .int .i64 f.w]
structure PlOk (f:Fi):Prop where
 w1:1≤f.w
 w16:f.w≤16
 a1:16≤f.pos
 a2:f.pos≤143
 fit:f.pos % 16+f.w≤16
def Dj (f g:Fi):Prop:=f.pos+f.w≤g.pos∨g.pos+g.w≤f.pos
structure FisOk (l:List Fi):Prop where
 few:l.length≤16
 pl:∀ j,j<l.length→PlOk (gd l j)
 dj:∀ i j,i<j→j<l.length→Dj (gd l i) (gd l j)
def Fi.fd (f:Fi):Fd:=⟨f.nm,f.pos.toNat,f.w.toNat⟩
theorem FisOk.fl {l:List Fi}(h:FisOk l):FlOk (l.map Fi.fd):=by
 have hall:∀ f∈l,PlOk f:=C0 h.pl;refine⟨fun f hf=> ?_,?_,by rw[List.length_map];exact h.few⟩
 ·obtain⟨g,hg,rfl⟩:=List.mem_map.1 hf;have p:=hall g hg;obtain⟨p1,p2,p3,p4,p5⟩:=p;obtain⟨nm,pos,w⟩:=g
  dsimp only at p1 p2 p3 p4 p5
  obtain⟨a,rfl⟩:=Int.eq_ofNat_of_zero_le (show 0≤pos by omega);obtain⟨b,rfl⟩:=Int.eq_ofNat_of_zero_le (show 0≤w by omega);refine⟨⟨?_,?_,?_,?_⟩,?_,?_⟩<;>dsimp only[Fi.fd]<;>simp only[Int.toNat_natCast]<;>omega
 ·rw[List.pairwise_map,List.pairwise_iff_getElem];intro i j hi hj hij;have hd:=h.dj i j hij hj;have p:=h.pl i hi;have q:=h.pl j hj;rw[Ay hi] at hd p;rw[Ay hj] at hd q
  revert hd p q
  generalize l[i]=f
  generalize l[j]=g;intro hd p q;obtain⟨p1,p2,p3,p4,p5⟩:=p;obtain⟨q1,q2,q3,q4,q5⟩:=q;unfold Dj at hd
  dsimp only[Fi.fd]
  omega
theorem FisOk.enc {l:List Fi}(h:FisOk l):l.map encFi=(l.map Fi.fd).map encF:=by
 have hall:∀ f∈l,PlOk f:=C0 h.pl;rw[List.map_map];refine List.map_congr_left fun f hf=> ?_
 have p:=hall f hf;obtain⟨p1,p2,p3,p4,p5⟩:=p;obtain⟨nm,pos,w⟩:=f
 dsimp only at p1 p2 p3 p4 p5
 obtain⟨a,rfl⟩:=Int.eq_ofNat_of_zero_le (show 0≤pos by omega);obtain⟨b,rfl⟩:=Int.eq_ofNat_of_zero_le (show 0≤w by omega)
 rfl
theorem fname_s {w0:World}{H:List (Nat × Obj)}(s:ByteArray)(hs9:s.size≤9223372036854775807):
  FSpec Tryz.prog w0 78 #[.string s] H (SomB H):=by
 refine An Tryz.func78 U ntmps78 U (rD tb 12 U ?_);refine A9 (X:=Nat) (V:=fun i=>[(3, .int .i64 (i:Nat))]) (C:=[(0,_)]) (G:=fun i=>H) (φ:=fun i=>i≤s.size) (μ:=fun i=>s.size - i) (x0:=0) ?_ ⟨Aa U,trivial⟩ ⟨atd,trivial⟩ sb0 ?_
 ·exact Nat.zero_le _
 rintro i hi;refine rD tb 5 U (y_ (Eb (T U) runUnderlying9) (rO tb 3 U ?_) U)
 first|refine Ac (Aa U) (fun c9=> ?_) (fun c9=> ?_)|refine Ag (Aa U) (fun c9=> ?_) (fun c9=> ?_)
 ·refine rC tb 4 U ?_;refine Ea (X:=Bool) (V:=fun b4=>[(4, .bool b4)]) (C:=[(0,_),(3,_)]) (φ:=fun b4=>True) ⟨Aa U,Aa U,trivial⟩ ?_ ?_
  ·refine rD tb 3 U (y_ (Ei (T U) (T U) runUnderlying9 (by have h9:((i:Nat):Int)<(s.size:Nat):=c9;omega)) ?_ U);refine rO tb 2 U ?_
   first|refine Am (s:=16) (Aa U) (fun c16=> ?_) (fun c16=> ?_)|refine A1 (s:=16) (Aa U) (fun c16=> ?_) (fun c16=> ?_)
   ·refine rO tb 2 U (Az (Ei (T U) (T U) runUnderlying9 (by have h9:((i:Nat):Int)<(s.size:Nat):=c9;omega)) U (A3 U U (Aa U)) ?_);refine rO tb 4 U ?_;refine Bd (_) ?_ ⟨atd,trivial⟩ ⟨Aa U,Aa U,trivial⟩ sbt
    trivial
   ·refine rO tb 7 U ?_;refine Bd (_) ?_ ⟨atd,trivial⟩ ⟨Aa U,Aa U,trivial⟩ sbt
    trivial
  rintro b4 _;refine Ea (X:=Bool) (V:=fun b5=>[(5, .bool b5)]) (C:=[(0,_),(3,_),(4,_)]) (φ:=fun b5=>True) ⟨Aa U,Aa U,Aa U,trivial⟩ ?_ ?_
  ·refine rD tb 3 U (y_ (Ei (T U) (T U) runUnderlying9 (by have h9:((i:Nat):Int)<(s.size:Nat):=c9;omega)) ?_ U);refine rO tb 2 U ?_
   first|refine Am (s:=26) (Aa U) (fun c26=> ?_) (fun c26=> ?_)|refine A1 (s:=26) (Aa U) (fun c26=> ?_) (fun c26=> ?_)
   ·refine rO tb 2 U (Az (Ei (T U) (T U) runUnderlying9 (by have h9:((i:Nat):Int)<(s.size:Nat):=c9;omega)) U (A3 U U (Aa U)) ?_);refine rO tb 3 U ?_
    first|refine Am (s:=32) (Aa U) (fun c32=> ?_) (fun c32=> ?_)|refine A1 (s:=32) (Aa U) (fun c32=> ?_) (fun c32=> ?_)
    ·refine rO tb 7 U ?_;refine Bd (_) ?_ ⟨atd,trivial⟩ ⟨Aa U,Aa U,Aa U,trivial⟩ sbt
     trivial
    ·refine rO tb 2 U (Az (Ei (T U) (T U) runUnderlying9 (by have h9:((i:Nat):Int)<(s.size:Nat):=c9;omega)) U (A3 U U (Aa U)) ?_);refine rO tb 4 U ?_;refine Bd (_) ?_ ⟨atd,trivial⟩ ⟨Aa U,Aa U,Aa U,trivial⟩ sbt
     trivial
   ·refine rO tb 8 U (Az (Ei (T U) (T U) runUnderlying9 (by have h9:((i:Nat):Int)<(s.size:Nat):=c9;omega)) U (A3 U U (Aa U)) ?_);refine rO tb 4 U ?_;refine Bd (_) ?_ ⟨atd,trivial⟩ ⟨Aa U,Aa U,Aa U,trivial⟩ sbt
    trivial
  rintro b5 _;refine rC tb 3 U ?_
  first|refine Az (Bq (T U)) U Ae ?_|refine Az (B2 (T U)) U Ae ?_
  refine rO tb 1 U ?_
  first|refine Am (s:=40) (Aa U) (fun c40=> ?_) (fun c40=> ?_)|refine A1 (s:=40) (Aa U) (fun c40=> ?_) (fun c40=> ?_)
  ·refine rO tb 1 U ?_
   first|refine Az (Bq (T U)) U (A3 U U (Aa U)) ?_|refine Az (B2 (T U)) U (A3 U U (Aa U)) ?_
   refine rO tb 1 U ?_
   first|refine Am (s:=43) (Aa U) (fun c43=> ?_) (fun c43=> ?_)|refine A1 (s:=43) (Aa U) (fun c43=> ?_) (fun c43=> ?_)
   ·refine rO tb 15 U (Ba (rX tb 2 U (Ai U (Kq U) ?_)));exact⟨_,⟨_,rfl,rfl⟩,sbt⟩
   ·refine rO tb 6 U ?_
    first|refine Ac (Aa U) (fun c47=> ?_) (fun c47=> ?_)|refine Ag (Aa U) (fun c47=> ?_) (fun c47=> ?_)
    ·refine rC tb 8 U (Ba (rX tb 2 U (Ai U (Kq U) ?_)));exact⟨_,⟨_,rfl,rfl⟩,sbt⟩
    ·refine rC tb 5 U (y_ (A4 (T U) Aj (by have h9:((i:Nat):Int)<(s.size:Nat):=c9;omega)) ?_ U);refine rO tb 2 U ?_;refine A0 (i+1) ?_ ?_ ⟨atd,trivial⟩ ⟨Aa U,trivial⟩ ?_
     ·have h9:((i:Nat):Int)<(s.size:Nat):=c9;omega
     ·have h9:((i:Nat):Int)<(s.size:Nat):=c9;omega
     ·exact sbt
  ·refine rO tb 15 U (y_ (A4 (T U) Aj (by have h9:((i:Nat):Int)<(s.size:Nat):=c9;omega)) ?_ U);refine rO tb 2 U ?_;refine A0 (i+1) ?_ ?_ ⟨atd,trivial⟩ ⟨Aa U,trivial⟩ ?_
   ·have h9:((i:Nat):Int)<(s.size:Nat):=c9;omega
   ·have h9:((i:Nat):Int)<(s.size:Nat):=c9;omega
   ·exact sbt
 ·refine rC tb 2 U (Ao (rX tb 5 U (y_ (Eb (T U) runUnderlying9) (rO tb 2 U ?_) U)))
  first|refine Am (s:=51) (Aa U) (fun c51=> ?_) (fun c51=> ?_)|refine A1 (s:=51) (Aa U) (fun c51=> ?_) (fun c51=> ?_)
  ·refine rO tb 1 U (Az (Eb (T U) runUnderlying9) U (A3 U U (Aa U)) (rO tb 6 U (Ai U (Kq U) ?_)));exact⟨_,⟨_,rfl,rfl⟩,sbt⟩
  ·refine rO tb 8 U (Ai U (Kq U) ?_);exact⟨_,⟨_,rfl,rfl⟩,sbt⟩
theorem place_s {w0:World}{H:List (Nat × Obj)}(f:Fi):
  FSpec Tryz.prog w0 79 #[.agg (encFi f).toArray] H (SayB (PlOk f) H):=by
 refine An Tryz.func79 U ntmps79 U (rD tb 2 U (e_ (Kw U cs_) ?_ U));rintro _ _ ⟨n1,rfl,rfl⟩;refine rO tb 6 U (y_ (Kr U isAgg3 (by first|exact c_o)) ?_ U);refine rO tb 2 U ?_
 first|refine Am (s:=6) (Aa U) (fun c6=> ?_) (fun c6=> ?_)|refine A1 (s:=6) (Aa U) (fun c6=> ?_) (fun c6=> ?_)
 ·refine rO tb 1 U (Az (Kr U isAgg3 (by first|exact c_o)) U (A3 U U (Aa U)) ?_);refine rO tb 3 U ?_
  first|refine Am (s:=11) (Aa U) (fun c11=> ?_) (fun c11=> ?_)|refine A1 (s:=11) (Aa U) (fun c11=> ?_) (fun c11=> ?_)
  ·refine rO tb 1 U (Az (Kr U isAgg3 (by first|exact c_o)) U (A3 U U (Aa U)) ?_);refine rO tb 3 U ?_
   first|refine Am (s:=16) (Aa U) (fun c16=> ?_) (fun c16=> ?_)|refine A1 (s:=16) (Aa U) (fun c16=> ?_) (fun c16=> ?_)
   ·refine rO tb 1 U (Az (Kr U isAgg3 (by first|exact c_o)) U (A3 U U (Aa U)) ?_);refine rO tb 3 U ?_
    first|refine Am (s:=21) (Aa U) (fun c21=> ?_) (fun c21=> ?_)|refine A1 (s:=21) (Aa U) (fun c21=> ?_) (fun c21=> ?_)
    ·refine rO tb 1 U (Az (Kr U isAgg3 (by first|exact c_o)) U (A3 U U (Aa U)) ?_);refine Az (yl_rem (T U) Aj qom) U (A3 U U (Aa U)) ?_;refine rO tb 1 U (Az (Kr U isAgg3 (by first|exact c_o)) U (A3 U U (Aa U)) ?_);refine Az (A4 (T U) (T U) qom) U (A3 U U (Aa U)) ?_;refine kO tb 5 [2] rfl U (rG tb 1 U (Ai U (Kq U) ?_))
     first|exact⟨_,⟨false,⟨rfl,fun h=>by cases h⟩,rfl⟩,sbt⟩|exact⟨_,⟨_,⟨rfl,fun h=>⟨by omega,by omega,by omega,by omega,of_decide_eq_true h⟩⟩,rfl⟩,sbt⟩
    ·refine kO tb 11 [2] rfl U (rG tb 1 U (Ai U (Kq U) ?_))
     first|exact⟨_,⟨false,⟨rfl,fun h=>by cases h⟩,rfl⟩,sbt⟩|exact⟨_,⟨_,⟨rfl,fun h=>⟨by omega,by omega,by omega,by omega,of_decide_eq_true h⟩⟩,rfl⟩,sbt⟩
   ·refine kO tb 16 [2] rfl U (rG tb 1 U (Ai U (Kq U) ?_))
    first|exact⟨_,⟨false,⟨rfl,fun h=>by cases h⟩,rfl⟩,sbt⟩|exact⟨_,⟨_,⟨rfl,fun h=>⟨by omega,by omega,by omega,by omega,of_decide_eq_true h⟩⟩,rfl⟩,sbt⟩
  ·refine kO tb 21 [2] rfl U (rG tb 1 U (Ai U (Kq U) ?_))
   first|exact⟨_,⟨false,⟨rfl,fun h=>by cases h⟩,rfl⟩,sbt⟩|exact⟨_,⟨_,⟨rfl,fun h=>⟨by omega,by omega,by omega,by omega,of_decide_eq_true h⟩⟩,rfl⟩,sbt⟩
 ·refine kO tb 26 [2] rfl U (rG tb 1 U (Ai U (Kq U) ?_))
  first|exact⟨_,⟨false,⟨rfl,fun h=>by cases h⟩,rfl⟩,sbt⟩|exact⟨_,⟨_,⟨rfl,fun h=>⟨by omega,by omega,by omega,by omega,of_decide_eq_true h⟩⟩,rfl⟩,sbt⟩
theorem common_s {w0:World}{H:List (Nat × Obj)}(f g:Fi)(hf:PlOk f)(hg:PlOk g):
  FSpec Tryz.prog w0 80 #[.agg (encFi f).toArray, .agg (encFi g).toArray] H (fun u H'=>∃ b:Bool,(u= .bool b∧(b=false→Dj f g))∧H'=H):=by
 refine An Tryz.func80 U ntmps80 U ?_;obtain⟨f1,f2,f3,f4,f5⟩:=hf;obtain⟨g1,g2,g3,g4,g5⟩:=hg;refine rD tb 2 U (e_ (Kw U cs_) ?_ U);rintro _ _ ⟨n2,rfl,rfl⟩;refine e_ (Kw U cs_) ?_ U;rintro _ _ ⟨n3,rfl,rfl⟩;refine rO tb 6 U (y_ (Kr U isAgg3 (by first|exact c_o)) ?_ U);refine rO tb 1 U (y_ (Kr U isAgg3 (by first|exact c_o)) ?_ U);refine rO tb 1 U (y_ (Kr U isAgg3 (by first|exact c_o)) ?_ U);refine y_ (A4 (T U) (T U) qom) ?_ U;refine rO tb 2 U ?_
 first|refine Am (s:=13) (Aa U) (fun c13=> ?_) (fun c13=> ?_)|refine A1 (s:=13) (Aa U) (fun c13=> ?_) (fun c13=> ?_)
 ·refine rO tb 1 U (Az (Kr U isAgg3 (by first|exact c_o)) U (A3 U U (Aa U)) ?_);refine rO tb 1 U (Az (Kr U isAgg3 (by first|exact c_o)) U (A3 U U (Aa U)) ?_);refine rO tb 1 U (Az (Kr U isAgg3 (by first|exact c_o)) U (A3 U U (Aa U)) ?_);refine Az (A4 (T U) (T U) qom) U (A3 U U (Aa U)) ?_;refine rO tb 6 U (Ai U (Kq U) ?_)
  first|exact⟨_,⟨_,⟨rfl,fun h=>by unfold Dj;omega⟩,rfl⟩,sbt⟩|exact⟨_,⟨_,⟨rfl,fun h=>by unfold Dj;have h9:=of_decide_eq_false h;omega⟩,rfl⟩,sbt⟩
 ·refine rO tb 13 U (Ai U (Kq U) ?_)
  first|exact⟨_,⟨_,⟨rfl,fun h=>by unfold Dj;omega⟩,rfl⟩,sbt⟩|exact⟨_,⟨_,⟨rfl,fun h=>by unfold Dj;have h9:=of_decide_eq_false h;omega⟩,rfl⟩,sbt⟩
theorem check_s {w0:World}{H:List (Nat × Obj)}(fl:List Fi)(q:Option Addr)(c:Nat)(hA:Arr w0 H q 3 encFi fl)(hnm:∀ f∈fl,f.nm.size≤9223372036854775807):
  FSpec Tryz.prog w0 36 #[.slice q fl.length c] H (SayE (FisOk fl) H):=by
 refine An Tryz.func36 U ntmps36 U (rD tb 13 U ?_)
 first|refine Ac (Aa U) (fun c11=> ?_) (fun c11=> ?_)|refine Ag (Aa U) (fun c11=> ?_) (fun c11=> ?_)
 ·skip
  refine rC tb 7 U (Ai U (Kq U) ?_)
  first|exact⟨_,⟨_,⟨rfl,fun h=>absurd h qde⟩,rfl⟩,sbt⟩|exact⟨_,⟨0,⟨rfl,fun _=>⟨hfew,hpl,hdj⟩⟩,rfl⟩,sbt⟩
 ·have hfew:fl.length≤16:=by have h9: ¬ ((fl.length:Nat):Int)>16:=c11;omega
  refine rC tb 9 U ?_;refine A9 (X:=Nat) (V:=fun k=>[(3, .int .i64 (k:Nat))]) (C:=[(0,_)]) (G:=fun k=>H) (φ:=fun k=>k≤fl.length∧(∀ j,j<k→PlOk (gd fl j))∧∀ a b,a<b→b<k→Dj (gd fl a) (gd fl b)) (μ:=fun k=>fl.length - k) (x0:=0) ?_ ⟨Aa U,trivial⟩ ⟨atd,trivial⟩ sb0 ?_
  ·exact⟨Nat.zero_le _,fun j hj=>absurd hj (Nat.not_lt_zero _),fun a b _ hj=>absurd hj (Nat.not_lt_zero _)⟩
  rintro k ⟨hk,hpl,hdj⟩;refine rD tb 9 U ?_
  first|refine Ac (Aa U) (fun c15=> ?_) (fun c15=> ?_)|refine Ag (Aa U) (fun c15=> ?_) (fun c15=> ?_)
  ·have hk2:k<fl.length:=by have h9:((k:Nat):Int)<(fl.length:Nat):=c15;omega
   refine rC tb 8 U (y_ (Ku U U runUnderlying22 sizeOf67 qom (by first|exact rfl|exact(hA k (gd fl k) (B1 qom)).1|exact(hA i (gd fl i) (B1 qom)).1)) ?_ U);refine rO tb 1 U (y_ (Kr U isAgg9 (by first|exact c_o|exact(hA.mono (by exact sbt)).cs (i:=k) qom 0 _ U)) ?_ U);refine e_ (Ar (qe1 U) call78 (fname_s (gd fl k).nm (hnm _ (A2 qom)))) ?_ U;rintro _ _ ⟨b1,rfl,hh⟩;obtain rfl:=hh.symm;refine rO tb 7 U ?_
   first|refine Az (Bq (T U)) U Ae ?_|refine Az (B2 (T U)) U Ae ?_
   refine rO tb 1 U ?_
   first|refine Am (s:=26) (Aa U) (fun c26=> ?_) (fun c26=> ?_)|refine A1 (s:=26) (Aa U) (fun c26=> ?_) (fun c26=> ?_)
   ·refine rO tb 19 U (Ba (rX tb 2 U (Ai U (Kq U) ?_)))
    first|exact⟨_,⟨_,⟨rfl,fun h=>absurd h qde⟩,rfl⟩,sbt⟩|exact⟨_,⟨0,⟨rfl,fun _=>⟨hfew,hpl,hdj⟩⟩,rfl⟩,sbt⟩
   ·refine rO tb 2 U (Az (Ku U U runUnderlying22 sizeOf67 qom (by first|exact rfl|exact(hA k (gd fl k) (B1 qom)).1|exact(hA i (gd fl i) (B1 qom)).1)) U (A3 U U (Aa U)) ?_);refine rO tb 1 U (Az (Kr U isAgg9 (by first|exact c_o|exact(hA.mono (by exact sbt)).cs (i:=k) qom 0 _ U)) U (A3 U U (Aa U)) ?_);refine Az (D2 (T U) Aj) U (A3 U U (Aa U)) (rO tb 3 U ?_)
    first|refine Ac (Aa U) (fun c33=> ?_) (fun c33=> ?_)|refine Ag (Aa U) (fun c33=> ?_) (fun c33=> ?_)
    ·refine rC tb 9 U (Ba (rX tb 2 U (Ai U (Kq U) ?_)))
     first|exact⟨_,⟨_,⟨rfl,fun h=>absurd h qde⟩,rfl⟩,sbt⟩|exact⟨_,⟨0,⟨rfl,fun _=>⟨hfew,hpl,hdj⟩⟩,rfl⟩,sbt⟩
    ·refine rC tb 9 U ?_;refine A9 (X:=Nat) (V:=fun i=>[(5, .int .i64 (i:Nat))]) (C:=[(0,_),(3,_)]) (G:=fun i=>H) (φ:=fun i=>i≤k) (μ:=fun i=>k - i) (x0:=0) ?_ ⟨Aa U,Aa U,trivial⟩ ⟨atd,trivial⟩ sb0 ?_
     ·exact Nat.zero_le _
     rintro i hi;refine rD tb 8 U ?_
     first|refine Ac (Aa U) (fun c36=> ?_) (fun c36=> ?_)|refine Ag (Aa U) (fun c36=> ?_) (fun c36=> ?_)
     ·have hi2:i<k:=by have h9:((i:Nat):Int)<(k:Nat):=c36;omega
      refine rC tb 5 U (Bl 11 [(0,true),(1,true),(2,true),(3,true),(4,true),(5,true),(6,true),(7,true),(8,true),(9,true),(10,true)] _ mixd qkr sb0 ?_ Bp);refine rP tb 2 U (o_y U (Ku U U runUnderlying22 sizeOf67 qom (by first|exact rfl|exact(hA k (gd fl k) (B1 qom)).1|exact(hA i (gd fl i) (B1 qom)).1)) ?_ U Ae);refine rP tb 1 U (o_y U (Kr U isAgg9 (by first|exact c_o|exact(hA.mono (by exact sbt)).cs (i:=i) qom 0 _ U)) ?_ U Ae);refine rP tb 2 U (o_y U (Ch (T U) (T U) runUnderlying22 sizeOf67 qom (by first|exact rfl|exact(hA k (gd fl k) (B1 qom)).1|exact(hA i (gd fl i) (B1 qom)).1)) ?_ U Ae);refine rP tb 1 U (o_y U (Kr U isAgg9 (by first|exact c_o|exact(hA.mono (by exact sbt)).cs (i:=k) qom 0 _ U)) ?_ U Ae);refine o_y U (D2 (T U) (T U)) (A7 U (rO tb 2 U ?_)) U Ae
      first|refine Ac (Aa U) (fun c49=> ?_) (fun c49=> ?_)|refine Ag (Aa U) (fun c49=> ?_) (fun c49=> ?_)
      ·refine rC tb 8 U (Ba (rX tb 4 U (Ba (rX tb 2 U (Ai U (Kq U) ?_)))))
       first|exact⟨_,⟨_,⟨rfl,fun h=>absurd h qde⟩,rfl⟩,sbt⟩|exact⟨_,⟨0,⟨rfl,fun _=>⟨hfew,hpl,hdj⟩⟩,rfl⟩,sbt⟩
      ·refine rC tb 5 U (y_ (A4 (T U) Aj qom) ?_ U);refine rO tb 2 U ?_;refine A0 (i+1) ?_ ?_ ⟨atd,trivial⟩ ⟨Aa U,Aa U,trivial⟩ ?_
       ·omega
       ·first|omega|(simp only[];omega)
       ·exact sbt
     ·skip
      refine rC tb 2 U (Ao (rX tb 6 U (y_ (Ch (T U) (T U) runUnderlying22 sizeOf67 qom (by first|exact rfl|exact(hA k (gd fl k) (B1 qom)).1|exact(hA i (gd fl i) (B1 qom)).1)) ?_ U)));refine y_ (Ks U isAgg67 sizeOf67 U (by first|exact(hA.mono (by exact sbt)).cs (i:=k) qom|exact Av)) ?_ U;refine e_ (Ar (qe1 U) call79 (place_s (gd fl k))) ?_ U;rintro _ _ ⟨b2,⟨rfl,hp2⟩,hh⟩;obtain rfl:=hh.symm;refine rO tb 7 U ?_
      first|refine Az (Bq (T U)) U Ae ?_|refine Az (B2 (T U)) U Ae ?_
      refine rO tb 2 U ?_
      first|refine Ac (Aa U) (fun c56=> ?_) (fun c56=> ?_)|refine Ag (Aa U) (fun c56=> ?_) (fun c56=> ?_)
      ·skip
       refine rC tb 9 U (Ba (rX tb 2 U (Ai U (Kq U) ?_)))
       first|exact⟨_,⟨_,⟨rfl,fun h=>absurd h qde⟩,rfl⟩,sbt⟩|exact⟨_,⟨0,⟨rfl,fun _=>⟨hfew,hpl,hdj⟩⟩,rfl⟩,sbt⟩
      ·have hpk:PlOk (gd fl k):=hp2 (by simpa using c56);refine rC tb 8 U ?_;refine A9 (X:=Nat) (V:=fun i=>[(7, .int .i64 (i:Nat))]) (C:=[(0,_),(3,_)]) (G:=fun i=>H) (φ:=fun i=>i≤k∧∀ j,j<i→Dj (gd fl j) (gd fl k)) (μ:=fun i=>k - i) (x0:=0) ?_ ⟨Aa U,Aa U,trivial⟩ ⟨atd,trivial⟩ sb0 ?_
       ·exact⟨Nat.zero_le _,fun j hj=>absurd hj (Nat.not_lt_zero _)⟩
       rintro i ⟨hi,hdi2⟩;refine rD tb 8 U ?_
       first|refine Ac (Aa U) (fun c59=> ?_) (fun c59=> ?_)|refine Ag (Aa U) (fun c59=> ?_) (fun c59=> ?_)
       ·have hi2:i<k:=by have h9:((i:Nat):Int)<(k:Nat):=c59;omega
        refine rC tb 5 U (Bl 8 [(0,true),(1,true),(2,true),(3,true),(4,true),(5,true),(6,true),(7,true)] _ mixd qkr sb0 ?_ Bp);refine rP tb 2 U (o_y U (Ku U U runUnderlying22 sizeOf67 qom (by first|exact rfl|exact(hA k (gd fl k) (B1 qom)).1|exact(hA i (gd fl i) (B1 qom)).1)) ?_ U Ae);refine o_y U (Ks U isAgg67 sizeOf67 U (by first|exact(hA.mono (by exact sbt)).cs (i:=i) qom|exact Av)) ?_ U Ae;refine rP tb 2 U (o_y U (Ch (T U) (T U) runUnderlying22 sizeOf67 qom (by first|exact rfl|exact(hA k (gd fl k) (B1 qom)).1|exact(hA i (gd fl i) (B1 qom)).1)) ?_ U Ae);refine o_y U (Ks U isAgg67 sizeOf67 U (by first|exact(hA.mono (by exact sbt)).cs (i:=k) qom|exact Av)) ?_ U Ae;refine A7 U (e_ (Ar (qe2 U U) call80 (common_s (gd fl i) (gd fl k) (hpl i qom) hpk)) ?_ U);rintro _ _ ⟨b3,⟨rfl,hd3⟩,hh⟩;obtain rfl:=hh.symm;refine rO tb 8 U ?_
        first|refine Ac (Aa U) (fun c71=> ?_) (fun c71=> ?_)|refine Ag (Aa U) (fun c71=> ?_) (fun c71=> ?_)
        ·skip
         refine rC tb 8 U (Ba (rX tb 3 U (Ba (rX tb 2 U (Ai U (Kq U) ?_)))))
         first|exact⟨_,⟨_,⟨rfl,fun h=>absurd h qde⟩,rfl⟩,sbt⟩|exact⟨_,⟨0,⟨rfl,fun _=>⟨hfew,hpl,hdj⟩⟩,rfl⟩,sbt⟩
        ·have hdi:Dj (gd fl i) (gd fl k):=hd3 (by simpa using c71);refine rC tb 5 U (y_ (A4 (T U) Aj qom) ?_ U);refine rO tb 2 U ?_;refine A0 (i+1) ?_ ?_ ⟨atd,trivial⟩ ⟨Aa U,Aa U,trivial⟩ ?_
         ·refine⟨hi2,fun j hj=> ?_⟩
          by_cases e:j=i
          ·rw[e];exact hdi
          ·exact hdi2 j qom
         ·first|omega|(simp only[];omega)
         ·exact sbt
       ·obtain rfl:k=i:=by have h9: ¬ ((i:Nat):Int)<(k:Nat):=c59;omega
        refine rC tb 2 U (Ao (rX tb 5 U (y_ (A4 (T U) Aj qom) ?_ U)));refine rO tb 2 U ?_;refine A0 (k+1) ?_ ?_ ⟨atd,trivial⟩ ⟨Aa U,trivial⟩ ?_
        ·refine⟨hk2,fun j hj=> ?_,fun a b hab hb=> ?_⟩
         ·by_cases e:j=k
          ·rw[e];exact hpk
          ·exact hpl j qom
         ·by_cases e:b=k
          ·rw[e];exact hdi2 a qom
          ·exact hdj a b hab qom
        ·first|omega|(simp only[];omega)
        ·exact sbt
  ·obtain rfl:k=fl.length:=by have h9: ¬ ((k:Nat):Int)<(fl.length:Nat):=c15;omega
   refine rC tb 2 U (Ao (rX tb 8 U (Ai U (Kq U) ?_)))
   first|exact⟨_,⟨_,⟨rfl,fun h=>absurd h qde⟩,rfl⟩,sbt⟩|exact⟨_,⟨0,⟨rfl,fun _=>⟨hfew,hpl,hdj⟩⟩,rfl⟩,sbt⟩
theorem zbd25_0 (a0:Int)(w:World):(Instr.build 25 #[(0, .int .i64 a0)]).run Tryz.prog w= .ok (.agg #[.int .i64 a0, .string ⟨#[]⟩, .int .i64 0, .int .i64 0, .slice none 0 0]) w:=by kernel_rfl
theorem zbd25_0_1_2 (a0:Int)(a1:ByteArray)(a2:Int)(w:World):(Instr.build 25 #[(0, .int .i64 a0),(1, .string a1),(2, .int .i64 a2)]).run Tryz.prog w= .ok (.agg #[.int .i64 a0, .string a1, .int .i64 a2, .int .i64 0, .slice none 0 0]) w:=by kernel_rfl
theorem zbd28_0_4 (a0:Int)(a1:Option Addr)(a1n a1c:Nat)(w:World):(Instr.build 28 #[(0, .int .i64 a0),(4, .slice a1 a1n a1c)]).run Tryz.prog w= .ok (.agg #[.int .i64 a0, .int .i64 0, .string ⟨#[]⟩, .int .i64 0, .int .i64 0, .slice none 0 0, .string ⟨#[]⟩, .int .i64 0, .slice a1 a1n a1c]) w:=by kernel_rfl
theorem zbs22_3_0_1_2 (a0:ByteArray)(a1:Int)(a2:Int)(a3:ByteArray)(a4:Int)(a5:Int)(a6:ByteArray)(a7:Int)(a8:Int)(w:World):(Instr.buildSlice 22 3 #[(0, .agg #[.string a0, .int .i64 a1, .int .i64 a2]),(1, .agg #[.string a3, .int .i64 a4, .int .i64 a5]),(2, .agg #[.string a6, .int .i64 a7, .int .i64 a8])]).run Tryz.prog w= .ok (.slice (some ⟨w.heap.size,0,none⟩) 3 3) (w.alloc (Cl [.string a0, .int .i64 a1, .int .i64 a2, .string a3, .int .i64 a4, .int .i64 a5, .string a6, .int .i64 a7, .int .i64 a8] 67)):=by kernel_rfl
abbrev encII (x:Int):Value:= .int .i64 x
abbrev hwC (h:List Int):List Value:=h.map encII
theorem hwC_len {h:List Int}(hl:h.length=10):(hwC h).length=10:=by rw[List.length_map,hl]
theorem hi_cell {w0:World}{H:List (Nat × Obj)}{n o:Nat}{h:List Int}(hc:Cells w0 H n o (hwC h)){k:Nat}(hk:k<h.length):Cell w0 H ⟨n,o+((k:Nat):Int).toNat*1,none⟩ (.int .i64 (gd h k)):=by
 have:=hc k (.int .i64 (gd h k)) (by rw[List.getElem?_map,List.getElem?_eq_getElem hk,Ay hk];rfl)
 rwa [show o+((k:Nat):Int).toNat*1=o+k by omega]
theorem hi_hd {h:List Int}(hl:h.length=10)(hr:∀ k,k<10→0≤gd h k∧gd h k≤65535):∃ g:Hd,HdOk g∧hwC h=hdC g:=by
 have hall:∀ x∈h,0≤x∧x≤65535:=C0 (by rw[hl];exact hr);refine⟨h.map Int.toNat,⟨by rw[List.length_map,hl],fun x hx=> ?_⟩,?_⟩
 ·obtain⟨y,hy,rfl⟩:=List.mem_map.1 hx;have:=hall y hy;omega
 ·show h.map encII=(h.map Int.toNat).map fun (x:Nat)=>encNI x
  rw[List.map_map];refine List.map_congr_left fun x hx=> ?_
  have:=hall x hx;show encII x=encNI x.toNat
  obtain⟨n,rfl⟩:=Int.eq_ofNat_of_zero_le this.1
  rfl
theorem rhead_s {w0:World}{H:List (Nat × Obj)}(h:List Int)(hl:h.length=10):
  FSpec Tryz.prog w0 16 #[.agg (hwC h).toArray] H (SayB (∀ k,k<10→0≤gd h k∧gd h k≤65535) H):=by
 refine An Tryz.func16 U ntmps16 U (rD tb 2 U (e_ (Kw U cs_) ?_ U));rintro _ _ ⟨n1,rfl,rfl⟩;refine rO tb 10 U ?_;refine A9 (X:=Nat) (V:=fun i=>[(3, .int .i64 (i:Nat))]) (C:=[(1,_)]) (G:=fun i=>(n1,Cl (hwC h) 30)::H) (φ:=fun i=>i≤10∧∀ k,k<i→0≤gd h k∧gd h k≤65535) (μ:=fun i=>10 - i) (x0:=0) ?_ ⟨Aa U,trivial⟩ ⟨atd,trivial⟩ sb0 ?_
 ·exact⟨Nat.zero_le _,fun k hk=>absurd hk (Nat.not_lt_zero _)⟩
 rintro i ⟨hi,hr⟩;refine rD tb 7 U ?_
 first|refine Ac (Aa U) (fun c5=> ?_) (fun c5=> ?_)|refine Ag (Aa U) (fun c5=> ?_) (fun c5=> ?_)
 ·have hi2:i<10:=by have h9:((i:Nat):Int)<10:=c5;omega
  refine rC tb 7 U (y_ (Bi (T U) (T U) runUnderlying30 sizeOf3 (by have h9:((i:Nat):Int)<10:=c5;omega)) ?_ U);refine y_ (Kr U isAgg3 (by first|exact c_o|exact hi_cell (Ah fdd) (by have h9:((i:Nat):Int)<10:=c5;omega))) ?_ U;refine rO tb 2 U ?_
  first|refine Am (s:=12) (Aa U) (fun c12=> ?_) (fun c12=> ?_)|refine A1 (s:=12) (Aa U) (fun c12=> ?_) (fun c12=> ?_)
  ·refine rO tb 16 U (Ba (rX tb 2 U (Ai U (Kq U) ?_)))
   first|exact⟨_,⟨false,⟨rfl,fun h=>by cases h⟩,rfl⟩,sbt⟩|exact⟨_,⟨true,⟨rfl,fun _=>hr⟩,rfl⟩,sbt⟩
  ·refine rO tb 1 U (Az (Bi (T U) (T U) runUnderlying30 sizeOf3 (by have h9:((i:Nat):Int)<10:=c5;omega)) U (A3 U U (Aa U)) ?_);refine Az (Kr U isAgg3 (by first|exact c_o|exact hi_cell (Ah fdd) (by have h9:((i:Nat):Int)<10:=c5;omega))) U (A3 U U (Aa U)) ?_;refine rO tb 4 U ?_
   first|refine Ac (Aa U) (fun c17=> ?_) (fun c17=> ?_)|refine Ag (Aa U) (fun c17=> ?_) (fun c17=> ?_)
   ·skip
    refine rC tb 8 U (Ba (rX tb 2 U (Ai U (Kq U) ?_)))
    first|exact⟨_,⟨false,⟨rfl,fun h=>by cases h⟩,rfl⟩,sbt⟩|exact⟨_,⟨true,⟨rfl,fun _=>hr⟩,rfl⟩,sbt⟩
   ·have hw2:gd h i≤65535:=by have h9: ¬ gd h i>65535:=c17;omega
    refine rC tb 5 U (y_ (A4 (T U) Aj qom) ?_ U);refine rO tb 2 U ?_;refine A0 (i+1) ?_ ?_ ⟨atd,trivial⟩ ⟨Aa U,trivial⟩ ?_
    ·refine⟨hi2,fun k hk=> ?_⟩
     by_cases e:k=i
     ·subst e;exact⟨by omega,hw2⟩
     ·exact hr k qom
    ·first|omega|(simp only[];omega)
    ·exact sbt
 ·obtain rfl:i=10:=by have h9: ¬ ((i:Nat):Int)<10:=c5;omega
  refine rC tb 2 U (Ao (rX tb 8 U (Ai U (Kq U) ?_)))
  first|exact⟨_,⟨false,⟨rfl,fun h=>by cases h⟩,rfl⟩,sbt⟩|exact⟨_,⟨true,⟨rfl,fun _=>hr⟩,rfl⟩,sbt⟩
theorem lright_s {w0:World}{H:List (Nat × Obj)}(fi:List Fi)(q:Option Addr)(c:Nat)(hA:Arr w0 H q 3 encFi fi)(hnm:∀ f∈fi,f.nm.size≤9223372036854775807)(h:List Int)(hl:h.length=10)(tick:Int):
  FSpec Tryz.prog w0 10 #[.slice q fi.length c, .agg (hwC h).toArray, .int .i64 tick] H (SayB (FisOk fi∧(∀ k,k<10→0≤gd h k∧gd h k≤65535)∧0≤tick∧tick≤1073741824) H):=by
 refine An Tryz.func10 U ntmps10 U (rD tb 2 U (e_ (Kw U cs_) ?_ U));rintro _ _ ⟨n4,rfl,rfl⟩;refine rO tb 6 U (e_ (Ar (qe1 U) call36 (check_s fi q c (hA.mono (by exact sbt)) hnm)) ?_ U);rintro _ _ ⟨e1,⟨rfl,he1⟩,rfl⟩;refine rO tb 5 U (y_ (Ks U isAgg30 sizeOf30 (hwC_len hl) (by first|exact Av)) ?_ U);refine e_ (Ar (qe1 U) call16 (rhead_s h hl)) ?_ U;rintro _ _ ⟨b2,⟨rfl,hb2⟩,rfl⟩;refine rO tb 8 U ?_
 first|refine Am (s:=15) (Aa U) (fun c15=> ?_) (fun c15=> ?_)|refine A1 (s:=15) (Aa U) (fun c15=> ?_) (fun c15=> ?_)
 ·refine rO tb 3 U ?_
  first|refine Am (s:=18) (Aa U) (fun c18=> ?_) (fun c18=> ?_)|refine A1 (s:=18) (Aa U) (fun c18=> ?_) (fun c18=> ?_)
  ·refine rO tb 4 U ?_
   first|refine Am (s:=22) (Aa U) (fun c22=> ?_) (fun c22=> ?_)|refine A1 (s:=22) (Aa U) (fun c22=> ?_) (fun c22=> ?_)
   ·refine rO tb 7 U (Ai U (Kq U) ?_)
    first|exact⟨_,⟨false,⟨rfl,fun h=>by cases h⟩,rfl⟩,by exact sbt⟩|exact⟨_,⟨_,⟨rfl,fun h=>⟨he1 (by assumption),hb2 (by assumption),by omega,of_decide_eq_true h⟩⟩,rfl⟩,by exact sbt⟩
   ·refine rO tb 7 U (Ai U (Kq U) ?_)
    first|exact⟨_,⟨false,⟨rfl,fun h=>by cases h⟩,rfl⟩,by exact sbt⟩|exact⟨_,⟨_,⟨rfl,fun h=>⟨he1 (by assumption),hb2 (by assumption),by omega,of_decide_eq_true h⟩⟩,rfl⟩,by exact sbt⟩
  ·refine rO tb 11 U (Ai U (Kq U) ?_)
   first|exact⟨_,⟨false,⟨rfl,fun h=>by cases h⟩,rfl⟩,by exact sbt⟩|exact⟨_,⟨_,⟨rfl,fun h=>⟨he1 (by assumption),hb2 (by assumption),by omega,of_decide_eq_true h⟩⟩,rfl⟩,by exact sbt⟩
 ·refine rO tb 14 U (Ai U (Kq U) ?_)
  first|exact⟨_,⟨false,⟨rfl,fun h=>by cases h⟩,rfl⟩,by exact sbt⟩|exact⟨_,⟨_,⟨rfl,fun h=>⟨he1 (by assumption),hb2 (by assumption),by omega,of_decide_eq_true h⟩⟩,rfl⟩,by exact sbt⟩
theorem Ki {w0:World}{H:List (Nat × Obj)}(nm:ByteArray)(n:Int):
  FSpec Tryz.prog w0 30 #[.string nm, .int .i64 n] H (Still (.agg (encPd (.mk 3 nm n 0 none 0 [])).toArray) H):=by
 refine An Tryz.func30 U ntmps30 U (rD tb 2 U (e_ (Al zeroValue25 cs_) ?_ U));rintro _ _ ⟨n4,rfl,rfl⟩;refine rO tb 6 U (y_ (A8 (.cons Aj (.cons (T U) (.cons (T U) .nil))) (zbd25_0_1_2 _ _ _)) ?_ U)
 first|refine A6 (Kv U U sizeOf25) U Ae ?_
 rintro _ _ ⟨rfl,rfl⟩;refine rO tb 3 U (Ai U (.cellA (Aa U) isAgg25 sizeOf25 U (by first|exact Av) .nil) ?_);exact⟨_,⟨rfl,rfl⟩,sbt⟩
theorem lfil_s {w0:World}{H:List (Nat × Obj)}(m:Pdm):
  FSpec Tryz.prog w0 28 #[.agg (encPd m).toArray] H (Still (.agg (encPo (.mk 1 m ⟨#[]⟩ 0 none 0 [])).toArray) H):=by
 refine An Tryz.func28 U ntmps28 U (rD tb 2 U (e_ (Kw U cs_) ?_ U));rintro _ _ ⟨n1,rfl,rfl⟩;refine e_ (Al zeroValue28 cs_) ?_ U;rintro _ _ ⟨n2,rfl,rfl⟩;refine rO tb 4 U (y_ (Ks U isAgg25 sizeOf25 U (by first|exact Av)) ?_ U);refine y_ (A8 (.cons Aj (.cons (T U) .nil)) (zbd28_0_1 _ _ _ _ _ _ _ _)) ?_ U
 first|refine A6 (Kv U U sizeOf28) U Ae ?_
 rintro _ _ ⟨rfl,rfl⟩;refine rO tb 3 U (Ai U (.cellA (Aa U) isAgg28 sizeOf28 U (by first|exact Av) .nil) ?_);exact⟨_,⟨rfl,rfl⟩,sbt⟩
theorem Ib {w0:World}{H:List (Nat × Obj)}(nm:ByteArray)(n:Int):
  FSpec Tryz.prog w0 29 #[.string nm, .int .i64 n] H (Still (.agg (encPo (.mk 2 pd0 nm n none 0 [])).toArray) H):=by
 refine An Tryz.func29 U ntmps29 U (rD tb 2 U (e_ (Al zeroValue28 cs_) ?_ U));rintro _ _ ⟨n4,rfl,rfl⟩;refine rO tb 6 U (y_ (A8 (.cons Aj (.cons (T U) (.cons (T U) .nil))) (zbd28_0_2_3 _ _ _)) ?_ U)
 first|refine A6 (Kv U U sizeOf28) U Ae ?_
 rintro _ _ ⟨rfl,rfl⟩;refine rO tb 3 U (Ai U (.cellA (Aa U) isAgg28 sizeOf28 U (by first|exact Av) .nil) ?_);exact⟨_,⟨rfl,rfl⟩,sbt⟩
theorem Jg {w0:World}{H:List (Nat × Obj)}(k:Int)(q:Option Addr)(l:List Pom)(c:Nat):
  FSpec Tryz.prog w0 24 #[.int .i64 k, .slice q l.length c] H (Still (.agg (encPo (.mk k pd0 ⟨#[]⟩ 0 q c l)).toArray) H):=by
 refine An Tryz.func24 U ntmps24 U (rD tb 2 U (e_ (Al zeroValue28 cs_) ?_ U));rintro _ _ ⟨n4,rfl,rfl⟩;refine rO tb 6 U (y_ (A8 (.cons (T U) (.cons (T U) .nil)) (zbd28_0_4 _ _ _ _)) ?_ U)
 first|refine A6 (Kv U U sizeOf28) U Ae ?_
 rintro _ _ ⟨rfl,rfl⟩;refine rO tb 3 U (Ai U (.cellA (Aa U) isAgg28 sizeOf28 U (by first|exact Av) .nil) ?_);exact⟨_,⟨rfl,rfl⟩,sbt⟩
def exF:List Fd:=[⟨⟨#[100,115,116]⟩,16,8⟩,⟨⟨#[115,114,99]⟩,24,8⟩,⟨⟨#[107,105,110,100]⟩,33,3⟩]
theorem lex_s {w0:World}{H:List (Nat × Obj)}  :
  FSpec Tryz.prog w0 37 #[] H (fun u H'=>∃ n:Nat,u= .slice (some ⟨n,0,none⟩) 3 3∧H'=(n,Cl (exF.flatMap encF) 67)::H):=by
 refine An Tryz.func37 U ntmps37 U (rD tb 7 U (y_ (A8 (.cons Aj (.cons Aj (.cons Aj .nil))) (Ex _ _ _)) (y_ (A8 (.cons Aj (.cons Aj (.cons Aj .nil))) (Ex _ _ _)) (y_ (A8 (.cons Aj (.cons Aj (.cons Aj .nil))) (Ex _ _ _)) (e_ (Bh (.cons (T U) (.cons (T U) (.cons (T U) .nil))) (zbs22_3_0_1_2 _ _ _ _ _ _ _ _ _)) ?_ U) U) U) U));rintro _ _ ⟨n4,rfl,rfl⟩;refine rO tb 4 U (Ai U (Kq U) ?_);exact⟨_,⟨_,rfl,rfl⟩,sbt⟩
theorem en_new {w0:World}{H:List (Nat × Obj)}{fl:List Fd}(hfl:FlOk fl){dx db:Sl}(hdx:SlOk dx fl.length 3)(hdb:SlOk db (bsF fl).length 1)(most:Int)(p m:Nat):En w0 (slH db ((bsF fl).flatMap encB1) 3++(slH dx (fl.flatMap encF) 67++H)) (NewD fl most dx db p m) fl:=
 ⟨Ck (w0:=w0) (e:=3) (enc:=encB1) (fun _=>rfl) hdb,H8 hfl,(Ck (w0:=w0) (e:=67) (X:=H) (enc:=encF) (fun _=>rfl) hdx).mono (List.sublist_append_right _ _),rfl,by have:=hfl.few;show fl.length≤1000000;omega⟩
theorem Cl'.one {D:Hd→Hd→Prop}{h g:Hd}(a:D h g):Cl' D h g:= .step a (.base _)
section
variable {bs:List Nat} {t:Int} {x y z:Po}
variable {p q:Pd}
theorem Gq {f:Fd}{h:Hd}{n b:Nat}(hb:b<160):hbit (fset f h n) b=if f.pos≤b∧b<f.pos+f.w then n.testBit (f.pos+f.w - 1 - b) else hbit h b:=by
 unfold fset;exact Bm _ hb
theorem Gs {f:Fd}{h:Hd}{n m:Nat}:fset f (fset f h n) m=fset f h m:=Cp (Ct _ _ _) (Ct _ _ _) fun b hb=>by
 rw[Gq hb,Gq hb,Gq hb]
 split<;>rfl
end
def bsE:List Nat:=[0,1,2,3,4,5,6,7,8,9,10,11,12,13,14,15,16,17,18,19,20,21,22,23,24,25,26,27,28,29,30,31,33,34,35]
abbrev exD:Fd:=⟨⟨#[100,115,116]⟩,16,8⟩
abbrev exK:Fd:=⟨⟨#[107,105,110,100]⟩,33,3⟩
theorem raw_ex:rawF (portFd::exF)=bsE:=by kernel_rfl
theorem I7:bsF exF=bsE:=by
 unfold bsF;rw[raw_ex];refine List.mergeSort_of_pairwise ?_;have:(bsE.Pairwise fun x y=>x≤y):=by unfold bsE;decide
 exact this.imp fun h=>decide_eq_true h
theorem J5:FlOk exF:=by
 refine⟨fun f hf=> ?_,by unfold exF;simp,by decide⟩;simp only[exF,List.mem_cons,List.not_mem_nil,or_false] at hf;rcases hf with rfl|rfl|rfl<;>exact⟨⟨by decide,by decide,by decide,by decide⟩,by decide,by decide⟩
theorem G5:BsOk bsE:=I7 ▸ H8 J5
theorem inD:FIn bsE exD:=I7 ▸ Ia J5 (by unfold exF;simp)
theorem inK:FIn bsE exK:=I7 ▸ Ia J5 (by unfold exF;simp)
def trE:List Nat:=[2,3,4,5,6,7,8,9,10,11,12,13,14,15,16,17,18,19,20,21,22,23,24,25,26,27,28,29,30,31,32,33,34,35,36,37,38,39,40,41,42,43,44,45,46,47,48,49,50,51,52,53,54,55,56,57,58,59,60,61,62,63,64,65,66,67,68,69,70,71,72,73,74,75,76,77,78,79,80,81,82,83,84,85,86,87,88,89,90,91,92,93,94,95,96,97,98,2,3,4,5,6,7,8,9,10,11,12,13,14,15,16,17,18,19,20,21,22,23,24,25,26,27,28,29,30,31,32,33,34,35,36,99,100,101,102,103,104,105,106,107,108,109,110,111,112,113,114,115,116,117,118,119,120,121,122,123,124,125,126,127,128,129,130,131,132,133,134,135,136,137,138,139,140,141,142,143,144,145,146,147,148,149,150,151,152,153,154,155,156,157,158,159,160,2,3,4,5,6,7,8,9,10,11,12,13,14,15,16,17,18,19,20,21,22,23,24,25,26,27,28,29,30,31,32,33,34,35,35,100,100,101,101,103,103,105,105,107,107,109,109,111,111,113,114,115,116,117,118,119,120,121,122,123,124,125,126,127,128,129,130,131,132,133,134,135,136,137,138,139,140,141,142,143,144,145,146,147,148,149,150,151,152,153,154,155,156,157,158,159,160,2,3,4,5,6,7,8,9,10,11,12,13,14,15,16,17,18,19,20,21,22,23,24,25,26,27,28,29,30,31,32,33,34,35,36,99,100,101,102,103,104,105,106,107,108,109,110,111,112,113,114,115,116,117,118,119,120,121,122,123,124,125,126,127,128,129,130,131,132,133,134,135,136,137,138,139,140,141,142,143,144,145,146,147,148,149,150,151,152,153,154,155,156,157,158,159,160,161,162,163,164,165,166,167,168,2,3,4,5,6,7,8,9,10,11,12,13,14,15,16,17,18,19,20,21,22,23,24,25,26,27,28,29,30,31,32,33,34,35,36,169,170,171,172,173,174,175,176,177,178,179,180,181,182,183,184,185,186,187,188,189,190,191,192,193,194,195,196,197,198,199,200,201,202,203,204,205,206,207,208,209,210,211,212,213,214,215,216,217,218,219,220,221,222,223,224,225,226,227,228,229,230,231,232,233,234,235,236,237,238,239,240,241,242,243,244,245,246,247,248,249,250,251,252,253,254,255,256,257,258,259,260,261,262,263,264,265,266,267,268,269,270,271,272,273,274,275,276,277,278,279,280,281,282,283,284,285,286,287,288,289,290,291,292,293,294,295,296,297,298,299,300,301,161,162,163,164,165,166,167,168,302,303,304,305,306,307,308,309,2,3,4,5,6,7,8,9,10,11,12,13,14,15,16,17,18,19,20,21,22,23,24,25,26,27,28,29,30,31,32,33,34,35,36,169,170,171,172,173,174,175,176,177,178,179,180,181,182,183,184,185,186,187,188,189,190,191,192,193,194,195,196,197,198,199,200,201,202,203,204,205,206,207,208,209,210,211,212,213,214,215,216,217,218,219,220,221,222,223,224,225,226,227,228,229,230,231,232,233,234,235,236,237,238,310,311,312,313,314,315,316,317,318,319,320,321,322,323,324,325,326,327,328,329,330,331,332,333,334,335,336,337,338,339,340,341,342,343,344,345,346,347,348,349,350,351,352,353,354,355,356,357,358,359,360,361,362,363,364,365,366,367,368,369,370,371,372,169,170,172,173,175,176,178,179,181,182,184,185,187,188,190,191,192,193,194,195,196,197,198,199,200,201,202,203,204,205,206,207,208,209,210,211,212,213,214,215,216,217,218,219,220,221,222,223,224,225,226,227,228,229,230,231,232,233,234,235,236,237,238,2,3,4,5,6,7,8,9,10,11,12,13,14,15,16,17,18,19,20,21,22,23,24,25,26,27,28,29,30,31,32,33,34,35,36,169,170,171,172,173,174,175,176,177,178,179,180,181,182,183,184,185,186,187,188,189,190,191,192,193,194,195,196,197,198,199,200,201,202,203,204,205,206,207,208,209,210,211,212,213,214,215,216,217,218,219,220,221,222,223,224,225,226,227,228,229,230,231,232,233,234,235,236,237,238,2,3,373,374,375,376,377,378,379,380,381,382,383,384,385,386,387,388,389,390,391,392,393,394,395,396,397,398,399,400,401,402,403,404,405,406,407,408,409,410,411,412,413,414,415,416,417,418,419,420,421,422,423,424,425,426,427,428,429,430,431,432,433,434,435,436,437,438,439,440,441,442,443,444,445,446,447,448,449,450,451,452,453,454,455,456,457,458,459,460,461,462,463,464,465,466,467,468,469,470,471,472,2,3,473,474,475,476,477,478,479,480,481,482,483,484,485,486,487,488,489,490,491,492,493,494,495,496,497,498,499,500,501,502,503,504,505,506,507,508,509,510,511,512,513,514,515,516,517,518,519,520,521,522,523,524,525,526,527,528,529,530,531,532,533,534,535,536,537,538,539,540,541,542,543,544,545,546,547,548,549,550,551,552,553,554,555,556,557,558,559,560,561,562,563,564,565,566,567,568,569,570,571,572,573,574,575,576,577,578,579,580,581,582,583,584,585,586,587,588,589,590,591,592,593,594,595,596,597,598,599,600,601,602,603,604,605,606,607,608,609,610,611,612,613,614,615,616,617,618,619,620,621,622,623,624,625,626,627,628,629,630,631,632,633,634,635,636,637,638,639,640,641,642,643,644,645,646,647,648,649,650,651,652,653,654,655,656,657,658,659,660,661,662,663,664,665,666,667,668,669,670,2,3,4,5,6,7,8,9,10,11,12,13,14,15,16,17,18,19,20,21,22,23,24,25,26,27,28,29,30,31,32,33,34,35,36,169,170,171,172,173,174,175,176,177,178,179,180,181,182,183,184,185,186,187,188,189,190,191,192,193,194,195,196,197,198,199,200,201,202,203,204,205,206,207,208,209,210,211,212,213,214,215,216,217,218,219,220,221,222,223,224,225,226,227,228,229,230,231,232,233,234,235,236,237,238,671,672,673,674,675,676,677,678,679,680,681,682,683,684,685,686,687,688,689,690,691,692,693,694,695,696,697,698,699,700,701,702,703,704,705,706,707,708,709,710,711,712,713,714,715,716,717,718,719,720,721,722,723,724,725,726,727,728,729,730,731,732,733,734,735,736,737,738,739,740,741,742,743,744,745,746,747,748,749,750,751,752,753,754,755,756,757,758,759,760,761,762,763,764,765,766,767,768,769,770,771,772,773,774,3,671,3,3,671,2,2,2,2,672,3,3,3,3,2,2,2,673,673,674,675,676,573,573,3,3,2,2,573,573,2,3,4,5,6,7,677,678,679,680,681,682,683,684,685,686,687,688,689,690,691,692,693,694,695,696,697,698,699,700,701,702,703,704,705,706,707,708,709,710,711,712,713,714,715,716,717,718,719,720,721,722,723,724,725,726,727,728,729,730,731,732,733,734,735,736,737,738,739,740,741,742,743,744,745,746,747,748,749,750,751,752,753,754,755,756,757,758,759,760,761,762,763,764,765,766,767,768,769,770,771,772,773,774,161,775,776,777,778,779,780,781,2,3,4,5,6,7,8,9,10,11,12,13,14,15,16,17,18,19,20,21,22,23,24,25,26,27,28,29,30,31,32,33,34,35,36,169,170,171,172,173,174,175,176,177,178,179,180,181,182,183,184,185,186,187,188,189,190,191,192,193,194,195,196,197,198,199,200,201,202,203,204,205,206,207,208,209,210,211,212,213,214,215,216,217,218,219,220,221,222,223,224,225,226,227,228,229,230,231,232,233,234,235,236,237,238,239,782,783,784,785,786,787,788,789,790,791,792,793,794,795,796,797,798,799,800,801,802,803,804,805,806,807,808,809,810,811,812,813,814,815,816,817,818,819,820,821,822,823,824,825,826,827,828,829,830,831,832,833,834,835,836,837,838,839,840,841,842,843,161,775,776,777,778,779,780,781,2,3,4,5,6,7,8,9,10,11,12,13,14,15,16,17,18,19,20,21,22,23,24,25,26,27,28,29,30,31,32,33,34,35,36,169,170,171,172,173,174,175,176,177,178,179,180,181,182,183,184,185,186,187,188,189,190,191,192,193,194,195,196,197,198,199,200,201,202,203,204,205,206,207,208,209,210,211,212,213,214,215,216,217,218,219,220,221,222,223,224,225,226,227,228,229,230,231,232,233,234,235,236,237,238,239,782,783,784,785,786,787,788,789,790,791,792,793,794,795,796,797,798,799,800,801,802,803,804,805,806,807,808,809,810,811,812,813,814,815,816,817,818,819,820,821,822,823,824,825,826,827,828,829,830,831,832,833,834,835,836,837,838,839,840,841,842,843,2,3,373,374,375,376,377,378,379,380,381,382,383,384,385,386,387,388,389,390,391,392,393,394,395,396,397,398,399,400,401,402,403,404,405,406,407,408,409,410,411,412,413,414,415,416,417,418,419,420,421,422,423,424,425,426,427,428,429,430,431,432,433,434,435,436,437,438,439,440,441,442,443,444,445,446,447,448,449,450,451,452,453,454,455,456,457,458,459,460,461,462,463,464,465,466,467,468,469,470,471,472,2,3,473,474,475,476,477,478,479,480,481,482,483,484,485,486,487,488,489,490,491,492,493,494,495,496,497,498,499,500,501,502,503,504,505,506,507,508,509,510,511,512,513,514,515,516,517,518,519,520,521,522,523,524,525,526,527,528,529,530,531,532,533,534,535,536,537,538,539,540,541,542,543,544,545,546,547,548,549,550,551,552,553,554,555,556,557,558,559,560,561,562,563,564,565,566,567,568,569,570,571,572,573,574,575,576,577,578,579,580,581,582,583,584,585,586,587,588,589,590,591,592,593,594,595,596,597,598,599,600,601,602,603,604,605,606,607,608,609,610,611,612,613,614,615,616,617,618,619,620,621,622,623,624,625,626,627,628,629,630,631,632,633,634,635,636,637,638,639,640,641,642,643,644,645,646,647,648,649,650,651,652,653,654,655,656,657,658,659,660,661,662,663,664,665,666,667,668,669,670,3,3,2,2,573,573,574,574,575,576,577,578,579,580,581,582,583,584,585,586,587,588,589,590,591,592,593,594,595,596,597,598,600,844,845,846,847,848,849,850,851,852,853,854,855,856,857,858,859,860,861,862,863,864,865,866,867,868,869,870,871,872,873,874,875,876,877,878,879,880,881,882,883,884,885,886,887,888,889,890,891,892,893,894,895,896,897,898,899,900,901,902,903,904,905,906]
def sE:Fs:=⟨4810363371590,2,0,trE⟩
abbrev Q1:Po:= .seq (.set exD 1) (.set exD 2)
abbrev Q2:Po:= .set exD 2
abbrev Q3:Po:= .uni (.fil (.eq exD 1)) (.fil (.no (.eq exD 1)))
abbrev Q4:Po:= .fil .tru
abbrev Q5:Po:= .star (.uni (.set exK 1) (.set exK 2))
abbrev Q6:Po:= .fil (.eq exD 3)
abbrev Q7:Po:= .seq (.fil (.eq exD 3)) (.uni (.set exK 1) (.set exK 2))
theorem rs0:Rs 70 (nsE 70) sE:=⟨Kp 70,rfl,by show 4810363371590<2 ^ (36*2);decide,fun i=>by
  match i with
  |0=>rfl
  |1=>rfl
  |i+2=>
   rw[gN_eq,Nat.div_eq_of_lt]
   ·rfl
   ·have:2 ^ (36*2)≤2 ^ (36*(i+2)):=Nat.pow_le_pow_right qde qom;exact Nat.lt_of_lt_of_le (by show 4810363371590<2 ^ (36*2);decide) this,fun i=>by
  match i with
  |0=>decide
  |1=>decide
  |i+2=>exact⟨by show (0:Nat)<128;decide,by show (0:Nat)<16384;decide,by show (0:Nat)<16384;decide⟩,fun x hx=>by cases hx⟩
noncomputable def runE:Option (List Nat × List Nat):=bO (polC 70 bsE (rdN bsE) Q1 sE) fun a=>bO (polC 70 bsE (rdN bsE) Q2 a.2) fun b=>bO (polC 70 bsE (rdN bsE) Q3 b.2) fun c=>bO (polC 70 bsE (rdN bsE) Q4 c.2) fun d=>bO (polC 70 bsE (rdN bsE) Q5 d.2) fun e=>bO (polC 70 bsE (rdN bsE) Q6 e.2) fun f=>bO (polC 70 bsE (rdN bsE) Q7 f.2) fun g=>bO (rdC g.2 35 0 [g.1]) fun L=>some ([a.1,b.1,c.1,d.1,e.1,f.1,g.1],L)
theorem run_ex:runE=some ([160,160,238,238,774,843,906],[2]):=by kernel_rfl
abbrev hk1:Hd:=[0,0,4096,0,0,0,0,0,0,0]
abbrev hk2:Hd:=[0,0,8192,0,0,0,0,0,0,0]
theorem ex_all:∃ n1 n2 n3 n4 n5 n6 n7 s7,polF 200000 bsE 0 (rdN bsE) Q1 (nsE 70)=some (160,n1)∧polF 200000 bsE 0 (rdN bsE) Q2 n1=some (160,n2)∧polF 200000 bsE 0 (rdN bsE) Q3 n2=some (238,n3)∧polF 200000 bsE 0 (rdN bsE) Q4 n3=some (238,n4)∧polF 200000 bsE 0 (rdN bsE) Q5 n4=some (774,n5)∧polF 200000 bsE 0 (rdN bsE) Q6 n5=some (843,n6)∧polF 200000 bsE 0 (rdN bsE) Q7 n6=some (906,n7)∧Rs 70 n7 s7∧rdC s7 35 0 [906]=some [2]:=by
 have h:=run_ex;unfold runE at h;obtain⟨⟨a,s1⟩,h1,h⟩:=Bk h;obtain⟨⟨b,s2⟩,h2,h⟩:=Bk h;obtain⟨⟨c,s3⟩,h3,h⟩:=Bk h;obtain⟨⟨d,s4⟩,h4,h⟩:=Bk h;obtain⟨⟨e,s5⟩,h5,h⟩:=Bk h;obtain⟨⟨f,s6⟩,h6,h⟩:=Bk h;obtain⟨⟨g,s7⟩,h7,h⟩:=Bk h;obtain⟨L,h8,h⟩:=Bk h
 dsimp only at h1 h2 h3 h4 h5 h6 h7 h8 h
 have h9:=Option.some.inj h;simp only[Prod.mk.injEq,List.cons.injEq,and_true] at h9;obtain⟨⟨rfl,rfl,rfl,rfl,rfl,rfl,rfl⟩,rfl⟩:=h9;obtain⟨n1,f1,r1⟩:=C4 (most:=200000) qom qom 0 _ _ rs0 h1;obtain⟨n2,f2,r2⟩:=C4 (most:=200000) qom qom 0 _ _ r1 h2;obtain⟨n3,f3,r3⟩:=C4 (most:=200000) qom qom 0 _ _ r2 h3;obtain⟨n4,f4,r4⟩:=C4 (most:=200000) qom qom 0 _ _ r3 h4;obtain⟨n5,f5,r5⟩:=C4 (most:=200000) qom qom 0 _ _ r4 h5;obtain⟨n6,f6,r6⟩:=C4 (most:=200000) qom qom 0 _ _ r5 h6;obtain⟨n7,f7,r7⟩:=C4 (most:=200000) qom qom 0 _ _ r6 h7;exact⟨n1,n2,n3,n4,n5,n6,n7,s7,f1,f2,f3,f4,f5,f6,f7,r7,h8⟩
theorem fs1:fset exK hd0 1=hk1:=by kernel_rfl
theorem fs2:fset exK hd0 2=hk2:=by kernel_rfl
theorem fg0:fget exD hd0=0:=by kernel_rfl
theorem bit2 (w b:Nat):hbit [0,0,w,0,0,0,0,0,0,0] b=if b / 16=2 then w.testBit (15 - b % 16) else false:=by
 have h:∀ i,gd ([0,0,w,0,0,0,0,0,0,0]:List Nat) i=if i=2 then w else 0:=fun i=>by
  match i with
  |0=>rfl
  |1=>rfl
  |2=>rfl
  |3=>rfl
  |4=>rfl
  |5=>rfl
  |6=>rfl
  |7=>rfl
  |8=>rfl
  |9=>rfl
  |i+10=>rw[if_neg qom];rfl
 unfold hbit;rw[h]
 split
 ·rfl
 ·simp
theorem lt01:hLt hd0 hk1:=⟨35,by decide,fun j hj=>by
 rw[Fj,bit2]
 split
 ·rename_i e;have h:j=32∨j=33∨j=34:=by omega
  rcases h with rfl|rfl|rfl<;>decide
 ·rfl,Fj _,by rw[bit2];decide⟩
theorem lt12:hLt hk1 hk2:=⟨34,by decide,fun j hj=>by
 rw[bit2,bit2]
 split
 ·have h:j=32∨j=33:=by omega
  rcases h with rfl|rfl<;>decide
 ·rfl,by rw[bit2];decide,by rw[bit2];decide⟩
theorem den5 (g:Hd):den 0 Q5 hd0 g↔g=hd0∨g=hk1∨g=hk2:=by
 show Cl' (fun h g=>den 0 (.set exK 1) h g∨den 0 (.set exK 2) h g) hd0 g↔_;simp only[den]
 constructor
 ·intro a;have key:∀ {h g:Hd},Cl' (fun h g=>g=fset exK h 1∨g=fset exK h 2) h g→g=h∨g=fset exK h 1∨g=fset exK h 2:=by
   intro h g a
   induction a with
   |base=>exact .inl rfl
   | @step h m g a _ ih=>
    rcases a with rfl|rfl
    ·rcases ih with rfl|rfl|rfl
     ·exact .inr (.inl U)
     ·exact .inr (.inl Gs)
     ·exact .inr (.inr Gs)
    ·rcases ih with rfl|rfl|rfl
     ·exact .inr (.inr U)
     ·exact .inr (.inl Gs)
     ·exact .inr (.inr Gs)
  have:=key a
  rwa [fs1,fs2] at this
 ·rintro(rfl|rfl|rfl)
  ·exact .base _
  ·exact .one (.inl fs1.symm)
  ·exact .one (.inr fs2.symm)
structure ExOk (ns:Ns):Prop where
 w:Wf 70 ns
 len:906<ns.length
 ev5:evA' ns bsE hd0 774=[hd0,hk1,hk2]
 ev6:evA' ns bsE hd0 843=[]
 df:dfH ns bsE 843 238=hd0
 g4:gvF ns (xh bsE hd0) 238=true
 g6:gvF ns (xh bsE hd0) 843=false
theorem ex_fin {n1 n2 n3 n4 n5 n6 n7:Ns}(f1:polF 200000 bsE 0 (rdN bsE) Q1 (nsE 70)=some (160,n1))(f2:polF 200000 bsE 0 (rdN bsE) Q2 n1=some (160,n2))(f3:polF 200000 bsE 0 (rdN bsE) Q3 n2=some (238,n3))(f4:polF 200000 bsE 0 (rdN bsE) Q4 n3=some (238,n4))(f5:polF 200000 bsE 0 (rdN bsE) Q5 n4=some (774,n5))(f6:polF 200000 bsE 0 (rdN bsE) Q6 n5=some (843,n6))(f7:polF 200000 bsE 0 (rdN bsE) Q7 n6=some (906,n7)):ExOk n7:=by
 have hb:=G5;have d1:(1:Nat)<2 ^ exD.w:=by decide
 have d2:(2:Nat)<2 ^ exD.w:=by decide
 have d3:(3:Nat)<2 ^ exD.w:=by decide
 have k1:(1:Nat)<2 ^ exK.w:=by decide
 have k2:(2:Nat)<2 ^ exK.w:=by decide
 have F1:Q1.Fit bsE:=⟨⟨inD,d1⟩,inD,d2⟩;have F2:Q2.Fit bsE:=⟨inD,d2⟩;have F3:Q3.Fit bsE:=⟨⟨inD,d1⟩,inD,d1⟩;have F4:Q4.Fit bsE:=trivial;have F5:Q5.Fit bsE:=⟨⟨inK,k1⟩,inK,k2⟩;have F6:Q6.Fit bsE:=⟨inD,d3⟩;have F7:Q7.Fit bsE:=⟨⟨inD,d3⟩,⟨inK,k1⟩,inK,k2⟩;obtain⟨g1,l1,r1⟩:=Cq hb 0 _ Q1 F1 (Kp 70) f1;obtain⟨g2,l2,r2⟩:=Cq hb 0 _ Q2 F2 g1.w f2;obtain⟨g3,l3,r3⟩:=Cq hb 0 _ Q3 F3 g2.w f3;obtain⟨g4,l4,r4⟩:=Cq hb 0 _ Q4 F4 g3.w f4;obtain⟨g5,l5,r5⟩:=Cq hb 0 _ Q5 F5 g4.w f5;obtain⟨g6,l6,r6⟩:=Cq hb 0 _ Q6 F6 g5.w f6;obtain⟨g7,l7,r7⟩:=Cq hb 0 _ Q7 F7 g6.w f7;have R4:=r4.gr g4.w l4 (g5.trans (g6.trans g7));have R5:=r5.gr g5.w l5 (g6.trans g7);have R6:=r6.gr g6.w l6 g7;have L4:=Nat.lt_of_lt_of_le l4 (g5.trans (g6.trans g7)).le;have L5:=Nat.lt_of_lt_of_le l5 (g6.trans g7).le;have L6:=Nat.lt_of_lt_of_le l6 g7.le;have O4:∀ {h g:Hd},HdOk h→den 0 Q4 h g→HdOk g∧Out bsE h g:=fun h1 h2=>C3 F4 h1 h2
 have O5:∀ {h g:Hd},HdOk h→den 0 Q5 h g→HdOk g∧Out bsE h g:=fun h1 h2=>C3 F5 h1 h2
 have O6:∀ {h g:Hd},HdOk h→den 0 Q6 h g→HdOk g∧Out bsE h g:=fun h1 h2=>C3 F6 h1 h2
 have n6:∀ g,¬ den 0 Q6 hd0 g:=fun g ⟨_,e⟩=>by
  have e:(fget exD hd0==3)=true:=e;rw[fg0] at e;cases e
 refine⟨g7.w,l7,?_,?_,?_,?_,?_⟩
 ·refine sorted_eq (evA_up hb g7.w B6 L5) ?_ fun f=> ?_
  ·exact .cons (fun x hx=>by simp only[List.mem_cons,List.not_mem_nil,or_false] at hx;rcases hx with rfl|rfl;exact lt01;exact lt01.trans lt12) (.cons (fun x hx=>by simp only[List.mem_cons,List.not_mem_nil,or_false] at hx;subst hx;exact lt12) (List.pairwise_singleton ..))
  ·rw[evA_mem hb g7.w B6 L5 R5 O5,den5];simp
 ·refine List.eq_nil_iff_forall_not_mem.2 fun f hf=>n6 f ((evA_mem hb g7.w B6 L6 R6 O6 f).1 hf)
 ·unfold dfH;rw[if_neg qom];obtain⟨e1,e2⟩:=differ_ok hb g7.w L6 L4 qom R6 R4 O6 O4;have hdh:HdOk (dhF n7 bsE 843 238):=by
   unfold dhF bhF;exact Cf _
  rcases Jn hdh B6 with h|h|h
  ·obtain⟨i,hi,_,_,t⟩:=h;rw[Fj] at t;cases t
  ·exact h
  ·have:=(e2 hd0 B6 h hd0).2 ⟨rfl,rfl⟩;exact(n6 _ this).elim
 ·exact(gv_rep hb g7.w B6 L4 R4 O4).2 ⟨hd0,rfl,rfl⟩
 ·refine Bool.eq_false_iff.2 fun e=> ?_
  obtain⟨g,hg⟩:=(gv_rep hb g7.w B6 L6 R6 O6).1 e;exact n6 g hg
theorem ex_rules {ns:Ns}{s:Fs}(h:Rs 70 ns s)(e:rdC s 35 0 [906]=some [2]):(rulesP ns bsE 906).map (fun c=>c.2.length)=[2]:=by
 unfold rulesP;rw[if_neg qde];have h1:=Jx h bsE 35 0 (hd0,hd0) [pt0 906] [2] e;unfold rsP;rw[List.map_map];have h2:((fun c:Md × List Md=>c.2.length) ∘ fun c:Md × List Md=>(c.1,srtM c.2))=fun c:Md × List Md=>c.2.length:=by
  funext c
  show (srtM c.2).length=_;unfold srtM;rw[List.length_mergeSort]
 refine Eq.trans ?_ h1;exact congrFun (congrArg List.map h2) _
theorem arrPo1 {w0:World}{n:Nat}{a:Pom}{t:TypeId}{H:List (Nat × Obj)}(hf:Fnd H n (Cl (encPo a) t)):Arr w0 H (some ⟨n,0,none⟩) 9 encPo [a]:=fun j x hj=>by
 refine⟨rfl,fun k v hk=> ?_⟩
 match j,hj with
 |0,hj=>
  have:a=x:=by simpa using hj
  subst this;exact Di hf (by show (encPo a)[0+0*9+k]? =some v;rw[show (0:Nat)+0*9+k=k by omega];exact hk)
theorem arrPo2 {w0:World}{n:Nat}{a b:Pom}{t:TypeId}{H:List (Nat × Obj)}(hf:Fnd H n (Cl (encPo a++encPo b) t)):Arr w0 H (some ⟨n,0,none⟩) 9 encPo [a,b]:=fun j x hj=>by
 refine⟨rfl,fun k v hk=> ?_⟩
 match j,hj with
 |0,hj=>
  have:a=x:=by simpa using hj
  subst this;exact Di hf (by show (encPo a++encPo b)[0+0*9+k]? =some v;rw[show (0:Nat)+0*9+k=k by omega,List.getElem?_append_left (by exact(List.getElem?_eq_some_iff.1 hk).1)];exact hk)
 |1,hj=>
  have:b=x:=by simpa using hj
  subst this;exact Di hf (by show (encPo a++encPo b)[0+1*9+k]? =some v;rw[show (0:Nat)+1*9+k=(encPo a).length+k by show 0+1*9+k=9+k;omega,List.getElem?_append_right qom,Nat.add_sub_cancel_left];exact hk)
theorem Dx (a0:Int)(a1:Int)(a2:ByteArray)(a3:Int)(a4:Int)(a5:Option Addr)(a5n a5c:Nat)(a6:ByteArray)(a7:Int)(a8:Option Addr)(a8n a8c:Nat)(a9:Int)(a10:Int)(a11:ByteArray)(a12:Int)(a13:Int)(a14:Option Addr)(a14n a14c:Nat)(a15:ByteArray)(a16:Int)(a17:Option Addr)(a17n a17c:Nat)(w:World):(Instr.buildSlice 26 2 #[(0, .agg #[.int .i64 a0, .int .i64 a1, .string a2, .int .i64 a3, .int .i64 a4, .slice a5 a5n a5c, .string a6, .int .i64 a7, .slice a8 a8n a8c]),(1, .agg #[.int .i64 a9, .int .i64 a10, .string a11, .int .i64 a12, .int .i64 a13, .slice a14 a14n a14c, .string a15, .int .i64 a16, .slice a17 a17n a17c])]).run Tryz.prog w= .ok (.slice (some ⟨w.heap.size,0,none⟩) 2 2) (w.alloc (Cl [.int .i64 a0, .int .i64 a1, .string a2, .int .i64 a3, .int .i64 a4, .slice a5 a5n a5c, .string a6, .int .i64 a7, .slice a8 a8n a8c, .int .i64 a9, .int .i64 a10, .string a11, .int .i64 a12, .int .i64 a13, .slice a14 a14n a14c, .string a15, .int .i64 a16, .slice a17 a17n a17c] 28)):=by kernel_rfl
abbrev nD:ByteArray:=⟨#[100,115,116]⟩
abbrev nK:ByteArray:=⟨#[107,105,110,100]⟩
abbrev mSet (nm:ByteArray) (n:Int):Pom:= .mk 2 pd0 nm n none 0 []
abbrev mFil (m:Pdm):Pom:= .mk 1 m ⟨#[]⟩ 0 none 0 []
abbrev mEq (nm:ByteArray) (n:Int):Pdm:= .mk 3 nm n 0 none 0 []
abbrev mNo (b:Nat) (m:Pdm):Pdm:= .mk 6 ⟨#[]⟩ 0 0 (some ⟨b,0,none⟩) 1 [m]
abbrev mTru:Pdm:= .mk 1 ⟨#[]⟩ 0 0 none 0 []
abbrev mOp2 (k:Int) (b:Nat) (x y:Pom):Pom:= .mk k pd0 ⟨#[]⟩ 0 (some ⟨b,0,none⟩) 2 [x,y]
abbrev mOp1 (k:Int) (b:Nat) (x:Pom):Pom:= .mk k pd0 ⟨#[]⟩ 0 (some ⟨b,0,none⟩) 1 [x]
section
variable {w0:World} {H R:List (Nat × Obj)}
theorem I8 {k:Int}{b:Nat}{x y:Pom}(hf:Fnd R b (Cl (encPo x++encPo y) 28))(hx:PoM w0 R x)(hy:PoM w0 R y):PoM w0 R (mOp2 k b x y):= .mk Ho (arrPo2 hf) fun a ha=>by
 simp only[List.mem_cons,List.not_mem_nil,or_false] at ha;rcases ha with rfl|rfl
 ·exact hx
 ·exact hy
theorem po_op1 {k:Int}{b:Nat}{x:Pom}(hf:Fnd R b (Cl (encPo x) 28))(hx:PoM w0 R x):PoM w0 R (mOp1 k b x):= .mk Ho (arrPo1 hf) fun a ha=>by
 simp only[List.mem_singleton] at ha;subst ha;exact hx
theorem J6 {k:Int}{s:ByteArray}{v t:Int}:PdM w0 R (.mk k s v t none 0 []):= .mk (fun i u hi=>by simp at hi) (fun a ha=>by simp at ha)
theorem arrPd1 {n:Nat}{a:Pdm}{t:TypeId}(hf:Fnd R n (Cl (encPd a) t)):Arr w0 R (some ⟨n,0,none⟩) 5 encPd [a]:=fun j x hj=>by
 refine⟨rfl,fun k v hk=> ?_⟩
 match j,hj with
 |0,hj=>
  have:a=x:=by simpa using hj
  subst this;exact Di hf (by show (encPd a)[0+0*5+k]? =some v;rw[show (0:Nat)+0*5+k=k by omega];exact hk)
theorem pd_no {b:Nat}{m:Pdm}(hf:Fnd R b (Cl (encPd m) 25))(hx:PdM w0 R m):PdM w0 R (mNo b m):= .mk (arrPd1 hf) fun a ha=>by
 simp only[List.mem_singleton] at ha;subst ha;exact hx
theorem fndD:(fndFd exF nD).1=exD:=by kernel_rfl
theorem fndK:(fndFd exF nK).1=exK:=by kernel_rfl
theorem Ic {nm:ByteArray}{n:Nat}{f:Fd}(h:(fndFd exF nm).1=f):IsO exF (mSet nm n) (.set f n):=h ▸ .set U U
theorem Kj {nm:ByteArray}{n:Nat}{f:Fd}(h:(fndFd exF nm).1=f):IsP exF (mEq nm n) (.eq f n):=h ▸ .eq U U
theorem pin (n:Nat)(h:n<4):(n:Nat)<2 ^ exD.w∧n<2 ^ exK.w:=⟨by show n<2 ^ 8;omega,by show n<2 ^ 3;omega⟩
structure ExD (w0:World) (R:List (Nat × Obj)) (D:Sd):Prop where
 bs:D.bs=bsE
 mo:D.most=200000
 en:En w0 R D exF
theorem ExD.mono {R':List (Nat × Obj)}{D:Sd}(h:ExD w0 R D)(hs:R.Sublist R'):ExD w0 R' D:=⟨h.bs,h.mo,h.en.mono hs⟩
theorem new_ex {b:Nat}:FSpec Tryz.prog w0 13 #[.slice (some ⟨b,0,none⟩) 3 3, .int .i64 200000] ((b,Cl (exF.flatMap encF) 67)::H) (fun u H'=>∃ (D:Sd) (v:Sv) (R:List (Nat × Obj)),(u= .pointer (some ⟨D.p,0,none⟩)∧StOk D v (nsE 70)∧ExD w0 R D∧H.Sublist R)∧H'=SM D v (nsE 70)++R):=by
 have hA:Arr w0 ((b,Cl (exF.flatMap encF) 67)::H) (some ⟨b,0,none⟩) 3 encF exF:=Ck (w0:=w0) (e:=67) (X:=H) (enc:=encF) (d:= .blk b 3 []) (fun _=>rfl) ⟨Nat.le_refl _,rfl⟩;intro w hO;refine(new_s exF J5 (some ⟨b,0,none⟩) 3 hA 200000 qom w hO).mono ?_;rintro e w' ⟨u,H',he,hO',⟨dx,db,p,mp,v⟩,⟨rfl,hdx,hdb,hst⟩,rfl⟩;have hN:nsE (2*(bsF exF).length)=nsE 70:=by rw[I7];rfl
 dsimp only at *
 rw[hN] at hst hO';exact⟨_,_,he,hO',NewD exF 200000 dx db p mp,v,slH db ((bsF exF).flatMap encB1) 3++(slH dx (exF.flatMap encF) 67++((b,Cl (exF.flatMap encF) 67)::H)),⟨rfl,hst,⟨I7,rfl,en_new J5 hdx hdb 200000 p mp⟩,by exact sbt⟩,rfl⟩
abbrev PxK (D:Sd) (id:Nat) (ns:Ns) (R:List (Nat × Obj)):Value→List (Nat × Obj)→Prop:=fun u H'=>∃ v:Sv,(u= .tuple #[.int .i64 (id:Nat), .int .i64 0]∧StOk D v ns)∧H'=SM D v ns++R
theorem px_of {f:FuncId}{args:Array Value}{D:Sd}{v:Sv}{ns ns':Ns}{id:Nat}{p:Po}(hD:ExD w0 R D)(hf:polF 200000 bsE 0 (rdN bsE) p ns=some (id,ns'))(h:FSpec Tryz.prog w0 f args (SM D v ns++R) (TryK D (polF D.most.toNat D.bs 0 (rdN D.bs) p ns) ns R)):FSpec Tryz.prog w0 f args (SM D v ns++R) (PxK D id ns' R):=by
 rw[hD.bs,hD.mo] at h;rw[show ((200000:Int)).toNat=200000 from rfl,hf] at h;intro w hO;refine(h w hO).mono ?_;rintro e w' ⟨u,H',he,hO',⟨id1,e1,v1,ns1⟩,⟨rfl,hc,hst1⟩,rfl⟩
 dsimp only at *
 rcases hc with ⟨h1,rfl⟩|⟨h1,_⟩
 ·obtain⟨rfl,rfl⟩:=Prod.mk.inj (Option.some.inj h1);exact⟨_,_,he,hO',v1,⟨rfl,hst1⟩,rfl⟩
 ·cases h1
theorem J1 {D:Sd}{v:Sv}{ns ns':Ns}{id:Nat}{p:Po}(hst:StOk D v ns)(hD:ExD w0 R D)(hf:polF 200000 bsE 0 (rdN bsE) p ns=some (id,ns'))(m:Pom)(hI:IsO exF m p)(hM:PoM w0 R m)(hF:p.Fit bsE):FSpec Tryz.prog w0 14 #[.pointer (some ⟨D.p,0,none⟩), .agg (encPo m).toArray, .int .i64 0] (SM D v ns++R) (PxK D id ns' R):=px_of hD hf (Hn hst hD.en m p hI (hD.bs ▸ hF) hM 0)
theorem set_ex {D:Sd}{v:Sv}{ns ns':Ns}{id:Nat}(hst:StOk D v ns)(hD:ExD w0 R D)(hf:polF 200000 bsE 0 (rdN bsE) (.set exD 2) ns=some (id,ns')):FSpec Tryz.prog w0 38 #[.pointer (some ⟨D.p,0,none⟩), .string nD, .int .i64 2] (SM D v ns++R) (PxK D id ns' R):=by
 have h:=setm_s (R:=R) hst hD.en nD 2 (by rw[fndD,hD.bs];exact⟨inD,by decide⟩);rw[fndD] at h;exact px_of hD hf h
theorem fil_ex {D:Sd}{v:Sv}{ns ns':Ns}{id:Nat}{p:Pd}(hst:StOk D v ns)(hD:ExD w0 R D)(hf:polF 200000 bsE 0 (rdN bsE) (.fil p) ns=some (id,ns'))(m:Pdm)(hI:IsP exF m p)(hM:PdM w0 R m)(hF:p.Fit bsE):FSpec Tryz.prog w0 39 #[.pointer (some ⟨D.p,0,none⟩), .agg (encPd m).toArray, .int .i64 0] (SM D v ns++R) (PxK D id ns' R):=px_of hD hf (filterm_s hst hD.en m p hI (by rw[hD.bs];exact hF) hM 0)
end
instance:Inhabited Chm:=⟨⟨(hd0,hd0), .blk 0 0 [],[]⟩⟩
section
variable {w0:World} {H:List (Nat × Obj)}
structure ExM (w0:World) (H:List (Nat × Obj)) (D:Sd) (v:Sv) (ns:Ns):Prop where
 st:StOk D v ns
 bs:D.bs=bsE
 S:(SM D v ns).Sublist H
 B:Arr w0 H D.qb 1 encB1 D.bs
 ex:ExOk ns
theorem ExM.mono {H':List (Nat × Obj)}{D:Sd}{v:Sv}{ns:Ns}(h:ExM w0 H D v ns)(hs:H.Sublist H'):ExM w0 H' D v ns:=⟨h.st,h.bs,h.S.trans hs,h.B.mono hs,h.ex⟩
variable {D:Sd} {v:Sv} {ns:Ns}
theorem ev5_ex (h:ExM w0 H D v ns):FSpec Tryz.prog w0 21 #[.pointer (some ⟨D.p,0,none⟩), .int .i64 774, .agg (hdC hd0).toArray] H (fun u H'=>∃ d:Sl,(SlOk d [hd0,hk1,hk2].length 10∧u= .tuple #[slV d [hd0,hk1,hk2].length, .int .i64 0])∧H'=slH d ([hd0,hk1,hk2].flatMap encHd) 30++H):=by
 have hl:=h.ex.len;have e:=eval_s B6 h.st (h.bs ▸ G5) h.S h.B 774 qom;rw[h.bs,h.ex.ev5] at e;intro w hO;refine(e w hO).mono ?_;rintro _ w' ⟨u,H',he,hO',⟨d,⟨_,h2,rfl⟩,rfl⟩|⟨h1,_⟩⟩
 ·exact⟨_,_,he,hO',d,⟨h2,rfl⟩,rfl⟩
 ·simp at h1
theorem ev6_ex (h:ExM w0 H D v ns):FSpec Tryz.prog w0 21 #[.pointer (some ⟨D.p,0,none⟩), .int .i64 843, .agg (hdC hd0).toArray] H (fun u H'=>∃ d:Sl,(u= .tuple #[slV d 0, .int .i64 0])∧H'=slH d [] 30++H):=by
 have hl:=h.ex.len;have e:=eval_s B6 h.st (h.bs ▸ G5) h.S h.B 843 qom;rw[h.bs,h.ex.ev6] at e;intro w hO;refine(e w hO).mono ?_;rintro _ w' ⟨u,H',he,hO',⟨d,⟨_,h2,rfl⟩,rfl⟩|⟨h1,_⟩⟩
 ·exact⟨_,_,he,hO',d,rfl,rfl⟩
 ·simp at h1
theorem df1_ex (h:ExM w0 H D v ns):FSpec Tryz.prog w0 15 #[.pointer (some ⟨D.p,0,none⟩), .int .i64 843, .int .i64 238] H (Still (.tuple #[.agg (hdC hd0).toArray, .bool true]) H):=by
 have hl:=h.ex.len;have e:=differ_s h.st (h.bs ▸ G5) h.S h.B 843 238 qom qom;rw[h.bs,h.ex.df] at e;exact e
theorem df2_ex (h:ExM w0 H D v ns):FSpec Tryz.prog w0 15 #[.pointer (some ⟨D.p,0,none⟩), .int .i64 160, .int .i64 160] H (Still (.tuple #[.agg (hdC hd0).toArray, .bool false]) H):=by
 have hl:=h.ex.len;have e:=differ_s h.st (h.bs ▸ G5) h.S h.B 160 160 qom qom;rw[show dfH ns D.bs 160 160=hd0 from if_pos rfl] at e;exact e
theorem gv_ex (h:ExM w0 H D v ns){a:Nat}{b:Bool}(ha:a<906)(hg:gvF ns (xh bsE hd0) a=b):FSpec Tryz.prog w0 34 #[.pointer (some ⟨D.p,0,none⟩), .int .i64 (a:Nat), .agg (hdC hd0).toArray] H (Still (.bool b) H):=by
 have hl:=h.ex.len;have e:=givesm_s B6 h.st (h.bs ▸ G5) h.S h.B a qom;rw[h.bs,hg] at e;exact e
theorem rl_ex (h:ExM w0 H D v ns){s:Fs}(hs:Rs 70 ns s)(hr:rdC s 35 0 [906]=some [2]):FSpec Tryz.prog w0 20 #[.pointer (some ⟨D.p,0,none⟩), .int .i64 906] H (fun u H'=>∃ (d:Sl) (c:Chm) (X:List (Nat × Obj)),(c.ms.length=2∧SlOk d [c].length 21∧u= .tuple #[slV d [c].length, .int .i64 0])∧H'=slH d ([c].flatMap encCh) 81++(X++H)):=by
 have hl:=h.ex.len;have hbdd:Bdd ns D.bs (QC s bsE):=by rw[h.bs];exact qc_bdd hs
 have e:=rules_s h.st (h.bs ▸ G5) h.S h.B hbdd 906 qom (fun _=>⟨[2],hr⟩);have hR:=ex_rules hs hr;rw[h.bs] at e;intro w hO;refine(e w hO).mono ?_;rintro _ w' ⟨u,H',he,hO',⟨⟨d,cs⟩,⟨_,h2,h3,_,rfl⟩,rfl⟩|⟨h1,_⟩⟩
 ·dsimp only at *
  rw[← h2,List.map_map] at hR
  match cs,hR with
  |[c],hR=>
   have hc:c.ms.length=2:=by simpa[Chm.pl] using hR
   exact⟨_,_,he,hO',d,c,chM [c],⟨hc,h3,rfl⟩,by rw[List.append_assoc]⟩
  |[],hR=>simp at hR
  |_::_::_,hR=>simp at hR
 ·have:=congrArg List.length hR;rw[List.length_map] at this;simp at this;omega
end
theorem eq34_nil (a:Nat)(w:World):(Op.equal 34 (.pointer (some ⟨a,0,none⟩)) (.pointer none)).run Tryz.prog w= .ok false w:=by kernel_rfl
theorem yl_ptrN {w0:World}{L:Fm}{H:List (Nat × Obj)}{ty yt:TypeId}{x:Operand}{a:Nat}(hx:Ev L x (.pointer (some ⟨a,0,none⟩))):Yl Tryz.prog w0 (.binOp .eql 34 x (.const (.pointer none)) yt) ty L H (.bool false):=Bb U fun b w=>by
 have hc:ev (lk L b) (.const (.pointer none))= .pointer none:=rfl;have hx':=hx b;simp[exO,execOp,hx',hc,binOp,eqGuard,eq34_nil,Sem.run_bind,Result.andThen]
theorem E2 {P:Program}{w0:World}{L:Fm}{H:List (Nat × Obj)}{ty xt yt:TypeId}{x y:Operand}{k:IntKind}{a c:Int}(hx:Ev L x (.int k a))(hy:Ev L y (.int k c))(h:a=c):Yl P w0 (.binOp .neq xt x y yt) ty L H (.bool false):=by
 have:=yl_neq (P:=P) (w0:=w0) (H:=H) (ty:=ty) (xt:=xt) (yt:=yt) hx hy
 rwa [decide_eq_false (fun e=>e h)] at this
theorem Ge {P:Program}{w0:World}{L:Fm}{H:List (Nat × Obj)}{ty xt yt:TypeId}{x y:Operand}{k:IntKind}{a c:Int}(hx:Ev L x (.int k a))(hy:Ev L y (.int k c))(h:a=c):Yl P w0 (.binOp .eql xt x y yt) ty L H (.bool true):=by
 have:=yl_eql (P:=P) (w0:=w0) (H:=H) (ty:=ty) (xt:=xt) (yt:=yt) hx hy
 rwa [decide_eq_true h] at this
theorem yl_eqF {P:Program}{w0:World}{L:Fm}{H:List (Nat × Obj)}{ty xt yt:TypeId}{x y:Operand}{k:IntKind}{a c:Int}(hx:Ev L x (.int k a))(hy:Ev L y (.int k c))(h: ¬ a=c):Yl P w0 (.binOp .eql xt x y yt) ty L H (.bool false):=by
 have:=yl_eql (P:=P) (w0:=w0) (H:=H) (ty:=ty) (xt:=xt) (yt:=yt) hx hy
 rwa [decide_eq_false h] at this
theorem yl_geT {P:Program}{w0:World}{L:Fm}{H:List (Nat × Obj)}{ty xt yt:TypeId}{x y:Operand}{k:IntKind}{a c:Int}(hx:Ev L x (.int k a))(hy:Ev L y (.int k c))(h:c≤a):Yl P w0 (.binOp .geq xt x y yt) ty L H (.bool true):=by
 have:=yl_geq (P:=P) (w0:=w0) (H:=H) (ty:=ty) (xt:=xt) (yt:=yt) hx hy
 rwa [decide_eq_true h] at this
theorem eqH0 (w:World):(Op.equal 30 (.agg (hdC hd0).toArray) (.agg (hdC hd0).toArray)).run Tryz.prog w= .ok (decide True) w:=by kernel_rfl
theorem zbd25_0_4 (a0:Int)(a1:Option Addr)(a1n a1c:Nat)(w:World):(Instr.build 25 #[(0, .int .i64 a0),(4, .slice a1 a1n a1c)]).run Tryz.prog w= .ok (.agg #[.int .i64 a0, .string ⟨#[]⟩, .int .i64 0, .int .i64 0, .slice a1 a1n a1c]) w:=by kernel_rfl
theorem Fb {w0:World}{H:List (Nat × Obj)}  :
  FSpec Tryz.prog w0 11 #[] H (Still (.bool true) H):=by
 refine An Tryz.func11 U ntmps11 U ?_;obtain⟨n1,n2,n3,n4,n5,n6,n7,s7,f1,f2,f3,f4,f5,f6,f7,hs7,hrd⟩:=ex_all;have hex:=ex_fin f1 f2 f3 f4 f5 f6 f7;refine rD tb 7 U (e_ (Ar .nil call37 (lex_s)) ?_ U);rintro _ _ ⟨n27,rfl,rfl⟩;refine e_ (Ar (.cons (T U) (.cons Aj .nil)) call13 (new_ex)) ?_ U;rintro _ _ ⟨D,v0,R,⟨rfl,hst0,hD,hHR⟩,rfl⟩;refine rO tb 7 U (y_ (yl_ptrN (T U)) (rO tb 8 U (y_ (Ak (.cons Aj (.cons Aj .nil)) call29 (fun H' hs=>Ib nD 1)) (y_ (Ak (.cons Aj (.cons Aj .nil)) call29 (fun H' hs=>Ib nD 2)) (e_ (Bh (.cons (T U) (.cons (T U) .nil)) (Dx _ _ _ _ _ _ _ _ _ _ _ _ _ _ _ _ _ _ _ _ _ _ _ _ _ _)) ?_ U) U) U)) U);rintro _ _ ⟨n35,rfl,rfl⟩;refine y_ (Ak (.cons Aj (.cons (T U) .nil)) call24 (fun H' hs=>Jg 4 (some ⟨n35,0,none⟩) [mSet nD 1,mSet nD 2] 2)) ?_ U;refine e_ (Ar (.cons (T U) (.cons (T U) (.cons Aj .nil))) call14 (B3 (M:=SM D v0 (nsE 70)) (J1 (R:=((n35,Cl (encPo (mSet nD 1)++encPo (mSet nD 2)) 28)::R)) hst0 (hD.mono (by exact sbt)) f1 (mOp2 4 n35 (mSet nD 1) (mSet nD 2)) (.seq U U (Ic (n:=1) fndD) (Ic (n:=2) fndD)) (I8 (by repeat (first|exact As|refine Ax ?_)) (F9 Ho) (F9 Ho)) ⟨⟨inD,(pin 1 qde).1⟩,⟨inD,(pin 2 qde).1⟩⟩) (by repeat (first|exact Bw|exact LocL.h|apply LocL.t|apply LocL.a)))) ?_ U;rintro _ _ ⟨v1,⟨rfl,hst1⟩,rfl⟩;refine rO tb 10 U (e_ (Ar (.cons (T U) (.cons Aj (.cons Aj .nil))) call38 (B3 (M:=SM D v1 n1) (set_ex (R:=((n35,Cl (encPo (mSet nD 1)++encPo (mSet nD 2)) 28)::R)) hst1 (hD.mono (by exact sbt)) f2) (by repeat (first|exact Bw|exact LocL.h|apply LocL.t|apply LocL.a)))) ?_ U);rintro _ _ ⟨v2,⟨rfl,hst2⟩,rfl⟩;refine rO tb 10 U (y_ (Ak (.cons Aj (.cons Aj .nil)) call30 (fun H' hs=>Ki nD 1)) (y_ (Ak (qe1 U) call28 (fun H' hs=>lfil_s (mEq nD 1))) (y_ (Ak (.cons Aj (.cons Aj .nil)) call30 (fun H' hs=>Ki nD 1)) (e_ (Bh (.cons (T U) .nil) (zbs23_1_0 _ _ _ _ _ _ _)) ?_ U) U) U) U);rintro _ _ ⟨n50,rfl,rfl⟩;refine y_ (A8 (.cons Aj (.cons (T U) .nil)) (zbd25_0_4 _ _ _ _)) (y_ (Ak (qe1 U) call28 (fun H' hs=>lfil_s (mNo n50 (mEq nD 1)))) (e_ (Bh (.cons (T U) (.cons (T U) .nil)) (Dx _ _ _ _ _ _ _ _ _ _ _ _ _ _ _ _ _ _ _ _ _ _ _ _ _ _)) ?_ U) U) U;rintro _ _ ⟨n53,rfl,rfl⟩;refine y_ (Ak (.cons Aj (.cons (T U) .nil)) call24 (fun H' hs=>Jg 3 (some ⟨n53,0,none⟩) [mFil (mEq nD 1),mFil (mNo n50 (mEq nD 1))] 2)) ?_ U;refine e_ (Ar (.cons (T U) (.cons (T U) (.cons Aj .nil))) call14 (B3 (M:=SM D v2 n2) (J1 (R:=((n53,Cl (encPo (mFil (mEq nD 1))++encPo (mFil (mNo n50 (mEq nD 1)))) 28)::(n50,Cl (encPd (mEq nD 1)) 25)::(n35,Cl (encPo (mSet nD 1)++encPo (mSet nD 2)) 28)::R)) hst2 (hD.mono (by exact sbt)) f3 (mOp2 3 n53 (mFil (mEq nD 1)) (mFil (mNo n50 (mEq nD 1)))) (.uni U U (.fil U (Kj (n:=1) fndD)) (.fil U (.no U U (Kj (n:=1) fndD)))) (I8 (by repeat (first|exact As|refine Ax ?_)) (F9 J6) (F9 (pd_no (by repeat (first|exact As|refine Ax ?_)) J6))) ⟨⟨inD,(pin 1 qde).1⟩,⟨inD,(pin 1 qde).1⟩⟩) (by repeat (first|exact Bw|exact LocL.h|apply LocL.t|apply LocL.a)))) ?_ U;rintro _ _ ⟨v3,⟨rfl,hst3⟩,rfl⟩;refine kO tb 7 [1,2,3,4,5,6,7] rfl U (rG tb 3 U (y_ (A8 (.cons Aj .nil) (zbd25_0 _)) (e_ (Ar (.cons (T U) (.cons (T U) (.cons Aj .nil))) call39 (B3 (M:=SM D v3 n3) (fil_ex (R:=((n53,Cl (encPo (mFil (mEq nD 1))++encPo (mFil (mNo n50 (mEq nD 1)))) 28)::(n50,Cl (encPd (mEq nD 1)) 25)::(n35,Cl (encPo (mSet nD 1)++encPo (mSet nD 2)) 28)::R)) hst3 (hD.mono (by exact sbt)) f4 mTru (.tru U) J6 trivial) (by repeat (first|exact Bw|exact LocL.h|apply LocL.t|apply LocL.a)))) ?_ U) U));rintro _ _ ⟨v4,⟨rfl,hst4⟩,rfl⟩;refine rO tb 10 U (y_ (Ak (.cons Aj (.cons Aj .nil)) call29 (fun H' hs=>Ib nK 1)) (y_ (Ak (.cons Aj (.cons Aj .nil)) call29 (fun H' hs=>Ib nK 2)) (e_ (Bh (.cons (T U) (.cons (T U) .nil)) (Dx _ _ _ _ _ _ _ _ _ _ _ _ _ _ _ _ _ _ _ _ _ _ _ _ _ _)) ?_ U) U) U);rintro _ _ ⟨n68,rfl,rfl⟩;refine y_ (Ak (.cons Aj (.cons (T U) .nil)) call24 (fun H' hs=>Jg 3 (some ⟨n68,0,none⟩) [mSet nK 1,mSet nK 2] 2)) (e_ (Bh (.cons (T U) .nil) (zbs26_1_0 _ _ _ _ _ _ _ _ _ _ _ _ _)) ?_ U) U;rintro _ _ ⟨n70,rfl,rfl⟩;refine y_ (Ak (.cons Aj (.cons (T U) .nil)) call24 (fun H' hs=>Jg 5 (some ⟨n70,0,none⟩) [(mOp2 3 n68 (mSet nK 1) (mSet nK 2))] 1)) ?_ U;refine e_ (Ar (.cons (T U) (.cons (T U) (.cons Aj .nil))) call14 (B3 (M:=SM D v4 n4) (J1 (R:=((n70,Cl (encPo (mOp2 3 n68 (mSet nK 1) (mSet nK 2))) 28)::(n68,Cl (encPo (mSet nK 1)++encPo (mSet nK 2)) 28)::(n53,Cl (encPo (mFil (mEq nD 1))++encPo (mFil (mNo n50 (mEq nD 1)))) 28)::(n50,Cl (encPd (mEq nD 1)) 25)::(n35,Cl (encPo (mSet nD 1)++encPo (mSet nD 2)) 28)::R)) hst4 (hD.mono (by exact sbt)) f5 (mOp1 5 n70 (mOp2 3 n68 (mSet nK 1) (mSet nK 2))) (.star U U (.uni U U (Ic (n:=1) fndK) (Ic (n:=2) fndK))) (po_op1 (by repeat (first|exact As|refine Ax ?_)) (I8 (by repeat (first|exact As|refine Ax ?_)) (F9 Ho) (F9 Ho))) ⟨⟨inK,(pin 1 qde).2⟩,⟨inK,(pin 2 qde).2⟩⟩) (by repeat (first|exact Bw|exact LocL.h|apply LocL.t|apply LocL.a)))) ?_ U;rintro _ _ ⟨v5,⟨rfl,hst5⟩,rfl⟩;refine rO tb 10 U (y_ (Ak (.cons Aj (.cons Aj .nil)) call30 (fun H' hs=>Ki nD 3)) (e_ (Ar (.cons (T U) (.cons (T U) (.cons Aj .nil))) call39 (B3 (M:=SM D v5 n5) (fil_ex (R:=((n70,Cl (encPo (mOp2 3 n68 (mSet nK 1) (mSet nK 2))) 28)::(n68,Cl (encPo (mSet nK 1)++encPo (mSet nK 2)) 28)::(n53,Cl (encPo (mFil (mEq nD 1))++encPo (mFil (mNo n50 (mEq nD 1)))) 28)::(n50,Cl (encPd (mEq nD 1)) 25)::(n35,Cl (encPo (mSet nD 1)++encPo (mSet nD 2)) 28)::R)) hst5 (hD.mono (by exact sbt)) f6 (mEq nD 3) (Kj (n:=3) fndD) J6 ⟨inD,(pin 3 qde).1⟩) (by repeat (first|exact Bw|exact LocL.h|apply LocL.t|apply LocL.a)))) ?_ U) U);rintro _ _ ⟨v6,⟨rfl,hst6⟩,rfl⟩;refine kO tb 7 [1,2,3,4,5,6,7,8,9,10,11,12,13] rfl U ?_;refine Ji (X:=List (Nat × Obj)) (V:=fun M=>[(14, .int .i64 906),(15, .int .i64 0)]) (C:=[(1,_),(2,_),(3,_),(4,_),(5,_),(6,_),(7,_),(8,_),(9,_),(10,_),(11,_),(12,_),(13,_)]) (G:=fun M=>M) (φ:=fun M=>∃ v7,ExM w0 M D v7 n7∧H.Sublist M) ⟨Aa U,Aa U,Aa U,Aa U,Aa U,Aa U,Aa U,Aa U,Aa U,Aa U,Aa U,Aa U,Aa U,trivial⟩ ?_ ?_
 ·refine rD tb 2 U (y_ (Ak (.cons Aj (.cons Aj .nil)) call30 (fun H' hs=>Ki nD 3)) (y_ (Ak (qe1 U) call28 (fun H' hs=>lfil_s (mEq nD 3))) (y_ (Ak (.cons Aj (.cons Aj .nil)) call29 (fun H' hs=>Ib nK 1)) (y_ (Ak (.cons Aj (.cons Aj .nil)) call29 (fun H' hs=>Ib nK 2)) (e_ (Bh (.cons (T U) (.cons (T U) .nil)) (Dx _ _ _ _ _ _ _ _ _ _ _ _ _ _ _ _ _ _ _ _ _ _ _ _ _ _)) ?_ U) U) U) U) U);rintro _ _ ⟨n87,rfl,rfl⟩;refine y_ (Ak (.cons Aj (.cons (T U) .nil)) call24 (fun H' hs=>Jg 3 (some ⟨n87,0,none⟩) [mSet nK 1,mSet nK 2] 2)) (e_ (Bh (.cons (T U) (.cons (T U) .nil)) (Dx _ _ _ _ _ _ _ _ _ _ _ _ _ _ _ _ _ _ _ _ _ _ _ _ _ _)) ?_ U) U;rintro _ _ ⟨n89,rfl,rfl⟩;refine y_ (Ak (.cons Aj (.cons (T U) .nil)) call24 (fun H' hs=>Jg 4 (some ⟨n89,0,none⟩) [mFil (mEq nD 3),(mOp2 3 n87 (mSet nK 1) (mSet nK 2))] 2)) ?_ U;refine e_ (Ar (.cons (T U) (.cons (T U) (.cons Aj .nil))) call14 (B3 (M:=SM D v6 n6) (J1 (R:=((n89,Cl (encPo (mFil (mEq nD 3))++encPo (mOp2 3 n87 (mSet nK 1) (mSet nK 2))) 28)::(n87,Cl (encPo (mSet nK 1)++encPo (mSet nK 2)) 28)::(n70,Cl (encPo (mOp2 3 n68 (mSet nK 1) (mSet nK 2))) 28)::(n68,Cl (encPo (mSet nK 1)++encPo (mSet nK 2)) 28)::(n53,Cl (encPo (mFil (mEq nD 1))++encPo (mFil (mNo n50 (mEq nD 1)))) 28)::(n50,Cl (encPd (mEq nD 1)) 25)::(n35,Cl (encPo (mSet nD 1)++encPo (mSet nD 2)) 28)::R)) hst6 (hD.mono (by exact sbt)) f7 (mOp2 4 n89 (mFil (mEq nD 3)) (mOp2 3 n87 (mSet nK 1) (mSet nK 2))) (.seq U U (.fil U (Kj (n:=3) fndD)) (.uni U U (Ic (n:=1) fndK) (Ic (n:=2) fndK))) (I8 (by repeat (first|exact As|refine Ax ?_)) (F9 J6) (I8 (by repeat (first|exact As|refine Ax ?_)) (F9 Ho) (F9 Ho))) ⟨⟨inD,(pin 3 qde).1⟩,⟨⟨inK,(pin 1 qde).2⟩,⟨inK,(pin 2 qde).2⟩⟩⟩) (by repeat (first|exact Bw|exact LocL.h|apply LocL.t|apply LocL.a)))) ?_ U;rintro _ _ ⟨v7,⟨rfl,hst7⟩,rfl⟩;refine rO tb 6 U ?_;refine Bd (_) ?_ ⟨atd,atd,trivial⟩ ⟨Aa U,Aa U,Aa U,Aa U,Aa U,Aa U,Aa U,Aa U,Aa U,Aa U,Aa U,Aa U,Aa U,trivial⟩ sbt;exact⟨v7,⟨hst7,hD.bs,by repeat (first|exact List.sublist_append_left _ _|refine List.Sublist.cons _ ?_),hD.en.bits.mono (by exact sbt),hex⟩,hHR.trans (by exact sbt)⟩
 rintro M ⟨v7,hX,hHM⟩;refine rC tb 4 U (y_ (E2 (T U) Aj U) (rO tb 2 U (Az (E2 (T U) Aj U) U (A3 U U (Aa U)) (rO tb 3 U (Az (E2 (T U) Aj U) U (A3 U U (Aa U)) (rO tb 3 U (Az (E2 (T U) Aj U) U (A3 U U (Aa U)) (rO tb 3 U (Az (E2 (T U) Aj U) U (A3 U U (Aa U)) (rO tb 3 U (Az (E2 (T U) Aj U) U (A3 U U (Aa U)) (rO tb 3 U (Az (E2 (T U) Aj U) U (A3 U U (Aa U)) (rO tb 4 U (Az (E2 (T U) (T U) U) U (A3 U U (Aa U)) (rO tb 4 U (Az (E2 (T U) (T U) U) U (A3 U U (Aa U)) (rO tb 4 U (Az (yl_eqF (T U) (T U) qde) U (A3 U U (Aa U)) ?_)))))))))))))))))) U);refine kO tb 3 [1,2,4,8,10,12,14,134] rfl U (rG tb 7 U (y_ (A8 .nil (Eu)) (e_ (Ar (qe3 U U U) call21 (ev5_ex hX)) ?_ U) U));rintro _ _ ⟨d5,⟨hd5,rfl⟩,rfl⟩;have hA5:Arr w0 (slH d5 ([hd0,hk1,hk2].flatMap encHd) 30) (slQ d5) 10 encHd [hd0,hk1,hk2]:=by have:=Ck (w0:=w0) (e:=30) (X:=[]) (enc:=encHd) De hd5;rwa [List.append_nil] at this
 refine rO tb 11 U (y_ (A8 .nil (Eu)) (e_ (Ar (qe3 U U U) call21 (ev6_ex (hX.mono (by exact sbt)))) ?_ U) U);rintro _ _ ⟨d6,rfl,rfl⟩;refine rO tb 12 U (y_ (Ak (qe3 U U U) call15 (fun H' hs=>df1_ex ((hX.mono (by exact sbt)).mono hs))) ?_ U);refine rO tb 3 U (e_ (Al zeroValue30 cs_) ?_ U);rintro _ _ ⟨n20,rfl,rfl⟩
 first|refine A6 (Kv U U sizeOf30) U Ae ?_
 rintro _ _ ⟨rfl,rfl⟩;refine kO tb 3 [1,2,4,8,12,14,16,17,18,19,20,21] rfl U (rG tb 5 U (y_ (Ak (qe3 U U U) call15 (fun H' hs=>df2_ex ((hX.mono (by exact sbt)).mono hs))) ?_ U));refine rO tb 3 U (e_ (Al zeroValue30 cs_) ?_ U);rintro _ _ ⟨n22,rfl,rfl⟩
 first|refine A6 (Kv U U sizeOf30) U Ae ?_
 rintro _ _ ⟨rfl,rfl⟩;refine rO tb 7 U (e_ (Ar (qe2 U U) call20 (rl_ex (hX.mono (by exact sbt)) hs7 hrd)) ?_ U);rintro _ _ ⟨d9,ch9,X9,⟨hms,hd9,rfl⟩,rfl⟩;have hA9:Arr w0 (slH d9 ([ch9].flatMap encCh) 81) (slQ d9) 21 encCh [ch9]:=by have:=Ck (w0:=w0) (e:=81) (X:=[]) (enc:=encCh) encCh_len hd9;rwa [List.append_nil] at this
 refine kO tb 7 [1,8,12,16,17,18,19,20,21,23,24,25] rfl U (rG tb 7 U ?_);refine A9 (X:=Nat) (V:=fun i=>[(26, .int .i64 (i:Nat))]) (C:=[(1,_),(8,_),(12,_),(16,_),(17,_),(18,_),(19,_),(20,_),(21,_),(23,_),(24,_),(25,_)]) (G:=fun i=>slH d9 ([ch9].flatMap encCh) 81++(X9++((n22,Cl (hdC hd0) 30)::(n20,Cl (hdC hd0) 30)::(slH d6 [] 30++(slH d5 ([hd0,hk1,hk2].flatMap encHd) 30++M))))) (φ:=fun i=>i≤1) (μ:=fun i=>1 - i) (x0:=0) ?_ ⟨Aa U,Aa U,Aa U,Aa U,Aa U,Aa U,Aa U,Aa U,Aa U,Aa U,Aa U,Aa U,trivial⟩ ⟨atd,trivial⟩ sb0 ?_
 ·exact Nat.zero_le _
 rintro i hi;refine rD tb 9 U ?_
 first|refine Ac (Aa U) (fun c172=> ?_) (fun c172=> ?_)|refine Ag (Aa U) (fun c172=> ?_) (fun c172=> ?_)
 ·obtain rfl:i=0:=by have h9:((i:Nat):Int)<1:=c172;omega
  refine rC tb 8 U (y_ (Ku U U runUnderlying48 sizeOf81 qom (by first|exact rfl|exact hA9.b (i:=0) Nat.zero_lt_one|exact hA5.b (i:=1) (show 1<3 from qde))) ?_ U);refine rO tb 1 U (y_ (Kr U isAgg79 (by first|exact c_o|exact(hA9.mono (List.sublist_append_left _ _)).cs (i:=0) Nat.zero_lt_one 20 _ U)) ?_ U);refine rO tb 1 U (y_ (E2 (T U) Aj (by show ((ch9.ms.length:Nat):Int)=2;rw[hms];rfl)) ?_ U);refine rO tb 8 U (y_ (A4 (T U) Aj qom) ?_ U);refine rO tb 2 U ?_;refine A0 (0+1) ?_ ?_ ⟨atd,trivial⟩ ⟨Aa U,Aa U,Aa U,Aa U,Aa U,Aa U,Aa U,Aa U,Aa U,Aa U,Aa U,Aa U,trivial⟩ ?_
  ·exact Nat.le_refl _
  ·exact Nat.lt_succ_self _
  ·exact sbt
 ·skip
  refine rC tb 2 U (Ao (rX tb 5 U (y_ (Ge (T U) Aj U) (rO tb 3 U (Az (Ge (T U) Aj U) U (A3 U U (Aa U)) (rO tb 3 U (Az (Ch (T U) Aj runUnderlying42 sizeOf30 qde (by first|exact rfl|exact hA9.b (i:=0) Nat.zero_lt_one|exact hA5.b (i:=1) (show 1<3 from qde))) U (A3 U U (Aa U)) ?_)))) U)));refine Az (Bi (T U) Aj runUnderlying30 sizeOf3 qom) U (A3 U U (Aa U)) ?_;refine Az (Kr U isAgg3 (by first|exact c_o|exact(hA5.mono (by repeat (first|exact List.sublist_append_left _ _|refine List.Sublist.cons _ ?_|refine List.Sublist.trans ?_ (List.sublist_append_right _ _)))).cs (i:=1) (show 1<3 from qde) 2 _ U)) U (A3 U U (Aa U)) ?_;refine Az (Ge (T U) Aj U) U (A3 U U (Aa U)) (rO tb 3 U (Az (Ge (T U) Aj U) U (A3 U U (Aa U)) (rO tb 4 U (Az (Ge (T U) Aj U) U (A3 U U (Aa U)) (rO tb 5 U (Az (Ks U isAgg30 sizeOf30 U (by first|exact Av)) U (A3 U U (Aa U)) ?_))))));refine Az (A8 .nil (Eu)) U (A3 U U (Aa U)) (Az (yl_eqA (T U) (T U) qkr eqH0) U (A3 U U (Aa U)) ?_);refine rO tb 3 U ?_
  first|refine Az (Bq (T U)) U (A3 U U (Aa U)) ?_|refine Az (B2 (T U)) U (A3 U U (Aa U)) ?_
  refine rO tb 3 U (Az (Ge (T U) Aj U) U (A3 U U (Aa U)) (rO tb 4 U (Az (yl_geT (T U) Aj (show (1:Int)≤((1:Nat):Int) from qde)) U (A3 U U (Aa U)) ?_)));refine rO tb 4 U (Az (A8 .nil (Eu)) U (A3 U U (Aa U)) (Az (Ak (qe3 U U U) call34 (fun H' hs=>gv_ex (a:=238) ((hX.mono (by exact sbt)).mono hs) qde hX.ex.g4)) U (A3 U U (Aa U)) ?_));refine rO tb 4 U (Az (A8 .nil (Eu)) U (A3 U U (Aa U)) (Az (Ak (qe3 U U U) call34 (fun H' hs=>gv_ex (a:=843) ((hX.mono (by exact sbt)).mono hs) qde hX.ex.g6)) U (A3 U U (Aa U)) ?_))
  first|refine Az (Bq (T U)) U (A3 U U (Aa U)) ?_|refine Az (B2 (T U)) U (A3 U U (Aa U)) ?_
  refine kO tb 4 [0] rfl U (rG tb 1 U (Ai U (Kq U) ?_));exact⟨_,⟨rfl,rfl⟩,hHM.trans (by exact sbt)⟩
theorem lright_n {w0:World}{H:List (Nat × Obj)}(fi:List Fi)(q:Option Addr)(n c:Nat)(hn:n=fi.length)(hA:Arr w0 H q 3 encFi fi)(hnm:∀ f∈fi,f.nm.size≤9223372036854775807)(h:List Int)(hl:h.length=10)(tick:Int):
  FSpec Tryz.prog w0 10 #[.slice q n c, .agg (hwC h).toArray, .int .i64 tick] H (SayB (FisOk fi∧(∀ k,k<10→0≤gd h k∧gd h k≤65535)∧0≤tick∧tick≤1073741824) H):=by
 subst hn;exact lright_s fi q c hA hnm h hl tick
theorem fis_fl {w0:World}{H:List (Nat × Obj)}{q:Option Addr}{fi:List Fi}(h:FisOk fi)(hA:Arr w0 H q 3 encFi fi):∃ fl:List Fd,FlOk fl∧fi.length=fl.length∧Arr w0 H q 3 encF fl:=⟨fi.map Fi.fd,h.fl,by rw[List.length_map],fun i u hi=>by
 have he:=h.enc;rw[List.getElem?_map] at hi;cases hf:fi[i]? with
 |none=>rw[hf] at hi;cases hi
 |some f=>
  rw[hf] at hi;obtain rfl:f.fd=u:=Option.some.inj hi;have h2:encFi f=encF f.fd:=by
   have h3:(fi.map encFi)[i]? =((fi.map Fi.fd).map encF)[i]? :=by rw[he]
   rw[List.getElem?_map,List.getElem?_map,List.getElem?_map,hf] at h3;exact Option.some.inj h3
  have:=hA i f hf;rw[h2] at this;exact this⟩
theorem try_ok {α:Type}{F:Option α}{z:α}{e:Int}{A B:Prop}(h:(F=some z∧e=0)∨(F=none∧A∧e=12∧B))(he:e=0):F=some z:=by
 rcases h with h|h
 ·exact h.1
 ·have:=h.2.2.1;omega
theorem eqHd {a b:Hd}(ha:HdOk a)(hb:HdOk b)(w:World):(Op.equal 30 (.agg (hdC a).toArray) (.agg (hdC b).toArray)).run Tryz.prog w= .ok (decide (a=b)) w:=by
 obtain⟨a0,a1,a2,a3,a4,a5,a6,a7,a8,a9,rfl⟩:=hd10 ha;obtain⟨b0,b1,b2,b3,b4,b5,b6,b7,b8,b9,rfl⟩:=hd10 hb;unfold Op.equal Op.maxDepth;rw[run_equalIn_array (i:=Tryz.prog.types.getD 3 default) w 9999 _ _ (show Tryz.prog.underlying 30=some (.array 10 3) from by kernel_rfl) qkr];have h:=eqItems_ints 9998 3 .i64 .i64 qkr part3 [(a0:Int),(a1:Int),(a2:Int),(a3:Int),(a4:Int),(a5:Int),(a6:Int),(a7:Int),(a8:Int),(a9:Int)] [(b0:Int),(b1:Int),(b2:Int),(b3:Int),(b4:Int),(b5:Int),(b6:Int),(b7:Int),(b8:Int),(b9:Int)] w [0,1,2,3,4,5,6,7,8,9] (by simp);rw[show Tryz.prog.cellsOf 3=1 from by kernel_rfl,show List.range 10=[0,1,2,3,4,5,6,7,8,9] from rfl];show (Op.eqItems (9998+1) 3 1 ([(a0:Int),(a1:Int),(a2:Int),(a3:Int),(a4:Int),(a5:Int),(a6:Int),(a7:Int),(a8:Int),(a9:Int)].map (Value.int .i64)).toArray ([(b0:Int),(b1:Int),(b2:Int),(b3:Int),(b4:Int),(b5:Int),(b6:Int),(b7:Int),(b8:Int),(b9:Int)].map (Value.int .i64)).toArray [0,1,2,3,4,5,6,7,8,9]).run Tryz.prog w=_;rw[h];refine congrArg (fun r=>Result.ok r w) ?_;rw[Bool.eq_iff_iff];simp[gd];omega
end Go.Proofs.YtkojjapnfdlddaaGreat
