/-
  A part of what LawU rests on: the logic, walks and plain laws. No condition.
-/
import Derived.Test.YtnafbfbfmgfcfaaGreatDoorGU4
import Derived.Shelf.Sort.Plain
import Derived.Shelf.Slices.CompactI
import Derived.Shelf.Slices.In.SortNone
import Derived.Shelf.SlSortCmp.WholeK
import Derived.Shelf.SlSortCmp.NoneTotal
namespace Go.Proofs.YtnafbfbfmgfcfaaGreatDoor
open _root_.Go.Proofs.Tryz
open Go.RowKit
set_option linter.unusedVariables false
set_option linter.unusedSimpArgs false
set_option linter.unusedSectionVars false
set_option maxRecDepth 100000
theorem nodup_few {l:List Int}{N:Nat}(h:l.Nodup)(hb:∀ x∈l,0<=x/\x<N):l.length<=N:=by
 have h2:(l.map Int.toNat).Nodup:=by
  refine List.Pairwise.map _ ?_ (List.Pairwise.and_mem.1 h);intro a b hab e;have ha:=hb a hab.1;have hb':=hb b hab.2.1;exact hab.2.2 qom
 have:=List.Nodup.length_le_of_subset h2 (l₂:=List.range N) (fun x hx=>by
  obtain⟨y,hy,rfl⟩:=List.mem_map.1 hx;have:=hb y hy;exact List.mem_range.2 qom)
 simpa using this
theorem one_few {n:Nm}(hok:NetOk n){steps:Int}{w:Way}(h:oneF n steps w=0):w.links.length+1<=n.nodes.length:=by
 have h1:=Dw h;rw[<- Co n.links w];exact nodup_few h1.nd fun x hx=>by
  obtain⟨p,hp,rfl⟩:=List.mem_map.1 hx;exact(Jt hok h1).2 p hp
theorem chk_one {n:Nm}{steps:Int}{m:Wm}:(chkF n steps [m]).2=0↔0<=steps/\oneF n steps m.way=0:=by
 unfold chkF
 split
 ·exact⟨fun h=>(by cases h),fun h=>qom⟩
 ·rename_i h1;rw[if_neg (by simp)];unfold chkG
  split
  ·rename_i h2;exact⟨fun _=>⟨by omega,h2⟩,fun _=>rfl⟩
  ·rename_i h2;exact⟨fun h=>absurd h h2,fun h=>absurd h.2 h2⟩
abbrev rlW (ws:List Wm) (l:List Dtm) (k:Nat):Way:=(gd ws (gd l k).way.toNat).way
structure RlOk (n:Nm) (steps:Int) (ws:List Wm) (l:List Dtm) (k:Nat):Prop where
 c1:0<=(gd l k).way/\(gd l k).way<ws.length/\0<=(gd l k).place/\(gd l k).place<(rlW ws l k).links.length
 c2:k=0\/((gd l (k - 1)).way<(gd l k).way\/((gd l (k - 1)).way=(gd l k).way/\(gd l (k - 1)).place<(gd l k).place))
 c3:(chkF n steps [(gd l k).m]).2=0/\¬ (gd l k).m.way.links.length=0/\(gd l k).m.way.src=(gd n.links (gd (rlW ws l k).links (gd l k).place.toNat).toNat).src/\(gd l k).m.way.port=(rlW ws l k).port/\(gd l k).m.way.tag=(rlW ws l k).tag/\(gd l k).m.way.step=(rlW ws l k).step/\gd (nodesF n.links (gd l k).m.way) (gd l k).m.way.links.length=gd (nodesF n.links (rlW ws l k)) (rlW ws l k).links.length
 c4:gd (rlW ws l k).links (gd l k).place.toNat∉(gd l k).m.way.links
theorem Cx {p:Prop}(h:p):(false=true↔¬ p):=⟨fun e=>absurd e Bool.false_ne_true,fun e=>absurd h e⟩
theorem rlist_g {w0:World}{H:List (Nat × Obj)}(n:Nm)(hn:NetM w0 H n)(hok:NetOk n)(hsm:n.edges.length<=1000000)(hsn:n.nodes.length<=100000)(steps:Int)(ws:List Wm)(qw:Option Addr)(cw:Nat)(hw:WaysM w0 H qw ws)(hg:Gw n ws)(hwl:∀ m∈ws,m.way.links.length<=100000)(l:List Dtm)(ql:Option Addr)(cl:Nat)(hA:Arr w0 H ql 7 encDt l)(hd:∀ x∈l,WayM w0 H x.m)(hl:l.length<=100000)(hbig:∀ x∈l,x.m.way.links.length<=9000000):
  FSpec prog w0 14 #[.agg (encNm n).toArray, .int .i64 steps, .slice qw ws.length cw, .slice ql l.length cl] H (fun v H'=>(∃ t:Bool,v= .bool t/\(t=true↔∀ k,k<l.length->RlOk n steps ws l k))/\H'=H):=by
 refine Az func14 U ntmps14 U (rD tb 2 U (e_ (Lt U cs_) ?_ U));rintro _ _ ⟨n4,rfl,rfl⟩;refine rO tb 10 U ?_;refine Bz (X:=Nat) (V:=fun k=>[(9, .int .i64 (k:Nat))]) (C:=[(1,_),(2,_),(3,_),(4,_)]) (G:=fun k=>(n4,Cl (encNm n) 26)::H) (φ:=fun k=>k<=l.length/\∀ j,j<k->RlOk n steps ws l j) (μ:=fun k=>l.length - k) (x0:=0) ?_ (kg U) ⟨atd,trivial⟩ (by exact sbt) ?_
 ·exact⟨Nat.zero_le _,fun j h=>absurd h (Nat.not_lt_zero j)⟩
 rintro k ⟨hk,hall⟩;refine rD tb 9 U ?_
 first|refine Ak (Aa U) (fun c18=> ?_) (fun c18=> ?_)|refine Au (Aa U) (fun c18=> ?_) (fun c18=> ?_)
 ·have hk2:k<l.length:=by have h9:((k:Nat):Int)<(l.length:Nat):=c18;omega
  refine rC tb 8 U (y_ (Lq U U runUnderlying34 sizeOf93 qom (by first|exact rfl|exact hA.b (i:=k) hk2|exact hA.b (i:=k - 1) qom|exact hw.arr.b (i:=(gd l k).way.toNat) qom|exact(hw.at hwi).links.b (i:=(gd l k).place.toNat) qom|exact hn.links.b (i:=(gd (gd ws (gd l k).way.toNat).way.links (gd l k).place.toNat).toNat) qom|exact(hd _ (Ao hk2)).links.b (i:=i) qom)) ?_ U);refine y_ (Lp U isAgg93 sizeOf93 U (by first|exact(hA.mono (by exact sbt)).cs (i:=k) hk2|exact A2)) ?_ U;refine e_ (Ap zeroValue93 cs_) ?_ U;rintro _ _ ⟨n10,rfl,rfl⟩
  first|refine A9 (Ls U U sizeOf93) U Ac ?_
  rintro _ _ ⟨rfl,rfl⟩;refine rO tb 3 U ?_;refine H9 (X:=Bool) (V:=fun b51=>[(51, .bool b51)]) (C:=[(1,_),(2,_),(3,_),(4,_),(9,_),(10,_)]) (φ:=fun b51=>(b51=true↔¬ (0<=(gd l k).way/\(gd l k).way<ws.length/\0<=(gd l k).place/\(gd l k).place<(gd ws (gd l k).way.toNat).way.links.length))) (kg U) ?_ ?_
  ·refine rD tb 0 U (B9 27 [(0,true),(1,true),(2,true),(3,true),(4,true),(5,true),(6,true),(7,true),(8,true),(9,true),(10,true),(11,true),(12,true),(13,true),(14,true),(15,true),(16,true),(17,true),(18,true),(19,true),(20,true),(21,true),(22,true),(23,true),(24,true),(25,true),(26,true)] _ mixd qkr sb0 ?_ By);refine rP tb 1 U (o_y U (Lo U isAgg3 (by first|exact c_o)) ?_ U Ac);refine rP tb 2 U ?_
   first|refine Cu (s:=28) (Aa U) (fun c28=> ?_) (fun c28=> ?_)|refine Ds (s:=28) (Aa U) (fun c28=> ?_) (fun c28=> ?_)
   ·refine rP tb 23 U (Bj U (rO tb 1 U ?_));refine Be (_) ?_ ⟨atd,trivial⟩ (kg U) sbt
    first|(refine⟨fun _=> ?_,fun _=>rfl⟩;omega)|(rw[decide_eq_true_eq];constructor<;>intro h<;>omega)|(refine Cx ?_;omega)
   ·refine rP tb 1 U (o_y U (Lo U isAgg3 (by first|exact c_o)) ?_ U (Ax U U (Aa U)));refine rP tb 5 U ?_
    first|refine Cu (s:=35) (Aa U) (fun c35=> ?_) (fun c35=> ?_)|refine Ds (s:=35) (Aa U) (fun c35=> ?_) (fun c35=> ?_)
    ·refine rP tb 16 U (Bj U (rO tb 1 U ?_));refine Be (_) ?_ ⟨atd,trivial⟩ (kg U) sbt
     first|(refine⟨fun _=> ?_,fun _=>rfl⟩;omega)|(rw[decide_eq_true_eq];constructor<;>intro h<;>omega)|(refine Cx ?_;omega)
    ·refine rP tb 1 U (o_y U (Lo U isAgg3 (by first|exact c_o)) ?_ U (Ax U U (Aa U)));refine rP tb 3 U ?_
     first|refine Cu (s:=40) (Aa U) (fun c40=> ?_) (fun c40=> ?_)|refine Ds (s:=40) (Aa U) (fun c40=> ?_) (fun c40=> ?_)
     ·refine rP tb 11 U (Bj U (rO tb 1 U ?_));refine Be (_) ?_ ⟨atd,trivial⟩ (kg U) sbt
      first|(refine⟨fun _=> ?_,fun _=>rfl⟩;omega)|(rw[decide_eq_true_eq];constructor<;>intro h<;>omega)|(refine Cx ?_;omega)
     ·refine rP tb 1 U (o_y U (Lo U isAgg3 (by first|exact c_o)) ?_ U (Ax U U (Aa U)));refine rP tb 2 U (o_y U (Lo U isAgg3 (by first|exact c_o)) ?_ U (Ax U U (Aa U)));refine o_y U (Bl (T U) (T U) runUnderlying27 sizeOf59 qom (by first|exact rfl|exact hA.b (i:=k) hk2|exact hA.b (i:=k - 1) qom|exact hw.arr.b (i:=(gd l k).way.toNat) qom|exact(hw.at hwi).links.b (i:=(gd l k).place.toNat) qom|exact hn.links.b (i:=(gd (gd ws (gd l k).way.toNat).way.links (gd l k).place.toNat).toNat) qom|exact(hd _ (Ao hk2)).links.b (i:=i) qom)) ?_ U (Ax U U (Aa U));refine rP tb 1 U (o_y U (Lo U isAgg41 (by first|exact c_o|exact(hw.arr.mono (by exact sbt)).f (i:=(gd l k).way.toNat) (j:=1) qom U)) ?_ U (Ax U U (Aa U)));refine rP tb 3 U (Bj U (rO tb 1 U ?_));refine Be (_) ?_ ⟨atd,trivial⟩ (kg U) sbt
      first|(refine⟨fun _=> ?_,fun _=>rfl⟩;omega)|(rw[decide_eq_true_eq];constructor<;>intro h<;>omega)|(refine Cx ?_;omega)
  rintro b51 hb51
  first|refine Ak (Aa U) (fun c51=> ?_) (fun c51=> ?_)|refine Au (Aa U) (fun c51=> ?_) (fun c51=> ?_)
  ·have hc1:=hb51.1 c51;refine rC tb 9 U (Bc (rX tb 2 U (As U (Ll U) ?_)));exact⟨_,⟨⟨false,rfl,fun h=>absurd h Bool.false_ne_true,fun h=>absurd (h k hk2).c1 hc1⟩,rfl⟩,sbt⟩
  ·have hc1:(0<=(gd l k).way/\(gd l k).way<ws.length/\0<=(gd l k).place/\(gd l k).place<(gd ws (gd l k).way.toNat).way.links.length):=Decidable.byContradiction fun h=>by rw[hb51.2 h] at c51;cases c51
   have hwi:(gd l k).way.toNat<ws.length:=by omega
   have hlr:=hg.inr _ (Ao hwi) (gd l k).place.toNat (by have h9:=hc1.2.2.2;show _<(gd ws (gd l k).way.toNat).way.links.length;omega);refine rC tb 3 U ?_;refine H9 (X:=Bool) (V:=fun b86=>[(86, .bool b86)]) (C:=[(1,_),(2,_),(3,_),(4,_),(9,_),(10,_)]) (φ:=fun b86=>(b86=true↔¬ (k=0\/((gd l (k - 1)).way<(gd l k).way\/((gd l (k - 1)).way=(gd l k).way/\(gd l (k - 1)).place<(gd l k).place))))) (kg U) ?_ ?_
   ·refine rD tb 0 U (B9 35 [(0,true),(1,true),(2,true),(3,true),(4,true),(5,true),(6,true),(7,true),(8,true),(9,true),(10,true),(11,true),(12,true),(13,true),(14,true),(15,true),(16,true),(17,true),(18,true),(19,true),(20,true),(21,true),(22,true),(23,true),(24,true),(25,true),(26,true),(27,true),(28,true),(29,true),(30,true),(31,true),(32,true),(33,true),(34,true)] _ mixd qkr sb0 ?_ By);refine rP tb 3 U ?_
    first|refine Cu (s:=54) (Aa U) (fun c54=> ?_) (fun c54=> ?_)|refine Ds (s:=54) (Aa U) (fun c54=> ?_) (fun c54=> ?_)
    ·have hk1:(((k:Nat):Int) - 1).toNat=k - 1:=by omega
     refine rP tb 2 U (o_y U (Ed (T U) An qom) ?_ U (Ax U U (Aa U)));refine o_y U (Bl (T U) (T U) runUnderlying34 sizeOf93 qom (by first|exact rfl|exact hA.b (i:=k) hk2|exact hA.b (i:=k - 1) qom|exact hw.arr.b (i:=(gd l k).way.toNat) qom|exact(hw.at hwi).links.b (i:=(gd l k).place.toNat) qom|exact hn.links.b (i:=(gd (gd ws (gd l k).way.toNat).way.links (gd l k).place.toNat).toNat) qom|exact(hd _ (Ao hk2)).links.b (i:=i) qom)) ?_ U (Ax U U (Aa U));refine rP tb 1 U (o_y U (Lo U isAgg3 (by first|exact c_o|exact(show Cell w0 _ _ (.int .i64 (gd l (k - 1)).way) from by rw[hk1];exact(hA.mono (by exact sbt)).f0 (i:=k - 1) qom U))) ?_ U (Ax U U (Aa U)));refine rP tb 1 U (o_y U (Lo U isAgg3 (by first|exact c_o)) ?_ U (Ax U U (Aa U)));refine rP tb 2 U ?_
     first|refine Cu (s:=64) (Aa U) (fun c64=> ?_) (fun c64=> ?_)|refine Ds (s:=64) (Aa U) (fun c64=> ?_) (fun c64=> ?_)
     ·refine rP tb 22 U (Bj U (rO tb 1 U ?_));refine Be (_) ?_ ⟨atd,trivial⟩ (kg U) sbt
      first|(refine⟨fun _=> ?_,fun _=>rfl⟩;omega)|(rw[decide_eq_true_eq];constructor<;>intro h<;>omega)|(refine Cx ?_;omega)
     ·refine rP tb 2 U (o_y U (Ed (T U) An qom) ?_ U (Ax U U (Aa U)));refine o_y U (Bl (T U) (T U) runUnderlying34 sizeOf93 qom (by first|exact rfl|exact hA.b (i:=k) hk2|exact hA.b (i:=k - 1) qom|exact hw.arr.b (i:=(gd l k).way.toNat) qom|exact(hw.at hwi).links.b (i:=(gd l k).place.toNat) qom|exact hn.links.b (i:=(gd (gd ws (gd l k).way.toNat).way.links (gd l k).place.toNat).toNat) qom|exact(hd _ (Ao hk2)).links.b (i:=i) qom)) ?_ U (Ax U U (Aa U));refine rP tb 1 U (o_y U (Lo U isAgg3 (by first|exact c_o|exact(show Cell w0 _ _ (.int .i64 (gd l (k - 1)).way) from by rw[hk1];exact(hA.mono (by exact sbt)).f0 (i:=k - 1) qom U))) ?_ U (Ax U U (Aa U)));refine rP tb 1 U (o_y U (Lo U isAgg3 (by first|exact c_o)) ?_ U (Ax U U (Aa U)));refine rP tb 2 U ?_
      first|refine Cu (s:=74) (Aa U) (fun c74=> ?_) (fun c74=> ?_)|refine Ds (s:=74) (Aa U) (fun c74=> ?_) (fun c74=> ?_)
      ·refine rP tb 2 U (o_y U (Ed (T U) An qom) ?_ U (Ax U U (Aa U)));refine o_y U (Bl (T U) (T U) runUnderlying34 sizeOf93 qom (by first|exact rfl|exact hA.b (i:=k) hk2|exact hA.b (i:=k - 1) qom|exact hw.arr.b (i:=(gd l k).way.toNat) qom|exact(hw.at hwi).links.b (i:=(gd l k).place.toNat) qom|exact hn.links.b (i:=(gd (gd ws (gd l k).way.toNat).way.links (gd l k).place.toNat).toNat) qom|exact(hd _ (Ao hk2)).links.b (i:=i) qom)) ?_ U (Ax U U (Aa U));refine rP tb 1 U (o_y U (Lo U isAgg3 (by first|exact c_o|exact(show Cell w0 _ _ (.int .i64 (gd l (k - 1)).place) from by rw[hk1];exact(hA.mono (by exact sbt)).f (i:=k - 1) (j:=1) qom U))) ?_ U (Ax U U (Aa U)));refine rP tb 1 U (o_y U (Lo U isAgg3 (by first|exact c_o)) ?_ U (Ax U U (Aa U)));refine rP tb 4 U (Bj U (rO tb 1 U ?_));refine Be (_) ?_ ⟨atd,trivial⟩ (kg U) sbt
       first|(refine⟨fun _=> ?_,fun _=>rfl⟩;omega)|(rw[decide_eq_true_eq];constructor<;>intro h<;>omega)|(refine Cx ?_;omega)
      ·refine rP tb 12 U (Bj U (rO tb 1 U ?_));refine Be (_) ?_ ⟨atd,trivial⟩ (kg U) sbt
       first|(refine⟨fun _=> ?_,fun _=>rfl⟩;omega)|(rw[decide_eq_true_eq];constructor<;>intro h<;>omega)|(refine Cx ?_;omega)
    ·skip
     refine rP tb 32 U (Bj U (rO tb 1 U ?_));refine Be (_) ?_ ⟨atd,trivial⟩ (kg U) sbt
     first|(refine⟨fun _=> ?_,fun _=>rfl⟩;omega)|(rw[decide_eq_true_eq];constructor<;>intro h<;>omega)|(refine Cx ?_;omega)
   rintro b86 hb86
   first|refine Ak (Aa U) (fun c86=> ?_) (fun c86=> ?_)|refine Au (Aa U) (fun c86=> ?_) (fun c86=> ?_)
   ·have hc2:=hb86.1 c86;refine rC tb 9 U (Bc (rX tb 2 U (As U (Ll U) ?_)));exact⟨_,⟨⟨false,rfl,fun h=>absurd h Bool.false_ne_true,fun h=>absurd (h k hk2).c2 hc2⟩,rfl⟩,sbt⟩
   ·have hc2:(k=0\/((gd l (k - 1)).way<(gd l k).way\/((gd l (k - 1)).way=(gd l k).way/\(gd l (k - 1)).place<(gd l k).place))):=Decidable.byContradiction fun h=>by rw[hb86.2 h] at c86;cases c86
    refine rC tb 6 U (y_ (Lo U isAgg3 (by first|exact c_o)) ?_ U);refine y_ (Bl (T U) (T U) runUnderlying27 sizeOf59 qom (by first|exact rfl|exact hA.b (i:=k) hk2|exact hA.b (i:=k - 1) qom|exact hw.arr.b (i:=(gd l k).way.toNat) qom|exact(hw.at hwi).links.b (i:=(gd l k).place.toNat) qom|exact hn.links.b (i:=(gd (gd ws (gd l k).way.toNat).way.links (gd l k).place.toNat).toNat) qom|exact(hd _ (Ao hk2)).links.b (i:=i) qom)) ?_ U;refine y_ (Lp U isAgg59 sizeOf59 U (by first|exact(hw.arr.mono (by exact sbt)).cs (i:=(gd l k).way.toNat) qom|exact A2)) ?_ U;refine e_ (Ap zeroValue59 cs_) ?_ U;rintro _ _ ⟨n11,rfl,rfl⟩
    first|refine A9 (Ls U U sizeOf59) U Ac ?_
    rintro _ _ ⟨rfl,rfl⟩;refine rO tb 4 U (y_ (Lp U isAgg26 sizeOf26 U (by first|exact A2)) ?_ U);refine rO tb 2 U ?_;refine y_ (Lp U isAgg59 sizeOf59 U (by first|exact(show Cells w0 _ _ _ (encW (gd l k).m) from Ce (o:=2) (k:=5) (l:=encDt (gd l k)) fdd)|exact A2)) ?_ U;refine e_ (A7 (.cons (T U) .nil) (Ho _ _ _ _ _ _ _)) ?_ U;rintro _ _ ⟨n97,rfl,rfl⟩;refine y_ (Bb (qe3 U U U) call40 (fun H' hs=>rCheckL_s n (hn.mono (stn hs)) hok hsm steps (some ⟨n97,0,none⟩) 1 [(gd l k).m] ⟨Cq (fun _=>rfl) U (hs.subset (show Fnd _ n97 (Cl (encW (gd l k).m) 59) from fdd)),fun m hm=>(by rw[List.mem_singleton.1 hm];exact(hd _ (Ao hk2)).mono (stn hs)),by simp⟩ (fun i hi=>by
      have hi:i<1:=hi;have:i=0:=by omega
      subst this;exact hbig _ (Ao hk2)))) ?_ U
    refine rO tb 8 U ?_;refine H9 (X:=Bool) (V:=fun b160=>[(160, .bool b160)]) (C:=[(1,_),(2,_),(3,_),(4,_),(9,_),(10,_),(11,_)]) (φ:=fun b160=>(b160=true↔¬ ((chkF n steps [(gd l k).m]).2=0/\¬ (gd l k).m.way.links.length=0/\(gd l k).m.way.src=(gd n.links (gd (gd ws (gd l k).way.toNat).way.links (gd l k).place.toNat).toNat).src/\(gd l k).m.way.port=(gd ws (gd l k).way.toNat).way.port/\(gd l k).m.way.tag=(gd ws (gd l k).way.toNat).way.tag/\(gd l k).m.way.step=(gd ws (gd l k).way.toNat).way.step/\gd (nodesF n.links (gd l k).m.way) (gd l k).m.way.links.length=gd (nodesF n.links (gd ws (gd l k).way.toNat).way) (gd ws (gd l k).way.toNat).way.links.length))) (kg U) ?_ ?_
    ·refine rD tb 0 U (B9 60 [(0,true),(1,true),(2,true),(3,true),(4,true),(5,true),(6,true),(7,true),(8,true),(9,true),(10,true),(11,true),(12,true),(13,true),(14,true),(15,true),(16,true),(17,true),(18,true),(19,true),(20,true),(21,true),(22,true),(23,true),(24,true),(25,true),(26,true),(27,true),(28,true),(29,true),(30,true),(31,true),(32,true),(33,true),(34,true),(35,true),(36,true),(37,true),(38,true),(39,true),(40,true),(41,true),(42,true),(43,true),(44,true),(45,true),(46,true),(47,true),(48,true),(49,true),(50,true),(51,true),(52,true),(53,true),(54,true),(55,true),(56,true),(57,true),(58,true),(59,true)] _ mixd qkr sb0 ?_ By);refine rP tb 3 U ?_
     first|refine Cu (s:=103) (Aa U) (fun c103=> ?_) (fun c103=> ?_)|refine Ds (s:=103) (Aa U) (fun c103=> ?_) (fun c103=> ?_)
     ·skip
      refine rP tb 57 U (Bj U (rO tb 1 U ?_));refine Be (_) ?_ ⟨atd,trivial⟩ (kg U) sbt
      first|(refine⟨fun _=> ?_,fun _=>rfl⟩;omega)|(rw[decide_eq_true_eq];constructor<;>intro h<;>omega)|(refine Cx ?_;omega)
     ·have hce:(chkF n steps [(gd l k).m]).2=0:=Decidable.byContradiction c103;have hre:InR n.links (gd l k).m.way.links/\(gd l k).m.way.links.length<=100000:=by
       have h1:=(chk_one.1 hce).2;have h2:=one_few hok h1;exact⟨(Jt hok (Dw h1)).1,by omega⟩
      refine rP tb 2 U (o_y U (Lo U isAgg41 (by first|exact c_o)) ?_ U (Ax U U (Aa U)));refine rP tb 4 U ?_
      first|refine Cu (s:=110) (Aa U) (fun c110=> ?_) (fun c110=> ?_)|refine Ds (s:=110) (Aa U) (fun c110=> ?_) (fun c110=> ?_)
      ·refine rP tb 50 U (Bj U (rO tb 1 U ?_));refine Be (_) ?_ ⟨atd,trivial⟩ (kg U) sbt
       first|(refine⟨fun _=> ?_,fun _=>rfl⟩;omega)|(rw[decide_eq_true_eq];constructor<;>intro h<;>omega)|(refine Cx ?_;omega)
      ·refine rP tb 2 U (o_y U (Lo U isAgg3 (by first|exact c_o)) ?_ U (Ax U U (Aa U)));refine rP tb 1 U (o_y U (Lo U isAgg23 (by first|exact c_o)) ?_ U (Ax U U (Aa U)));refine rP tb 1 U (o_y U (Lo U isAgg41 (by first|exact c_o)) ?_ U (Ax U U (Aa U)));refine rP tb 1 U (o_y U (Lo U isAgg3 (by first|exact c_o)) ?_ U (Ax U U (Aa U)));refine o_y U (Bl (T U) (T U) runUnderlying41 sizeOf3 qom (by first|exact rfl|exact hA.b (i:=k) hk2|exact hA.b (i:=k - 1) qom|exact hw.arr.b (i:=(gd l k).way.toNat) qom|exact(hw.at hwi).links.b (i:=(gd l k).place.toNat) qom|exact hn.links.b (i:=(gd (gd ws (gd l k).way.toNat).way.links (gd l k).place.toNat).toNat) qom|exact(hd _ (Ao hk2)).links.b (i:=i) qom)) ?_ U (Ax U U (Aa U));refine o_y U (Lo U isAgg3 (by first|exact c_o|exact((hw.at hwi).links.mono (by exact sbt)).f0 (i:=(gd l k).place.toNat) qom U)) ?_ U (Ax U U (Aa U));refine o_y U (Bl (T U) (T U) runUnderlying23 sizeOf95 qom (by first|exact rfl|exact hA.b (i:=k) hk2|exact hA.b (i:=k - 1) qom|exact hw.arr.b (i:=(gd l k).way.toNat) qom|exact(hw.at hwi).links.b (i:=(gd l k).place.toNat) qom|exact hn.links.b (i:=(gd (gd ws (gd l k).way.toNat).way.links (gd l k).place.toNat).toNat) qom|exact(hd _ (Ao hk2)).links.b (i:=i) qom)) ?_ U (Ax U U (Aa U));refine rP tb 1 U (o_y U (Lo U isAgg3 (by first|exact c_o|exact(hn.links.mono (by exact sbt)).f0 (i:=(gd (gd ws (gd l k).way.toNat).way.links (gd l k).place.toNat).toNat) qom U)) ?_ U (Ax U U (Aa U)));refine rP tb 3 U ?_
       first|refine Cu (s:=127) (Aa U) (fun c127=> ?_) (fun c127=> ?_)|refine Ds (s:=127) (Aa U) (fun c127=> ?_) (fun c127=> ?_)
       ·refine rP tb 33 U (Bj U (rO tb 1 U ?_));refine Be (_) ?_ ⟨atd,trivial⟩ (kg U) sbt
        first|(refine⟨fun _=> ?_,fun _=>rfl⟩;omega)|(rw[decide_eq_true_eq];constructor<;>intro h<;>omega)|(refine Cx ?_;omega)
       ·refine rP tb 2 U (o_y U (Lo U isAgg3 (by first|exact c_o)) ?_ U (Ax U U (Aa U)));refine rP tb 1 U (o_y U (Lo U isAgg3 (by first|exact c_o)) ?_ U (Ax U U (Aa U)));refine rP tb 3 U ?_
        first|refine Cu (s:=135) (Aa U) (fun c135=> ?_) (fun c135=> ?_)|refine Ds (s:=135) (Aa U) (fun c135=> ?_) (fun c135=> ?_)
        ·refine rP tb 25 U (Bj U (rO tb 1 U ?_));refine Be (_) ?_ ⟨atd,trivial⟩ (kg U) sbt
         first|(refine⟨fun _=> ?_,fun _=>rfl⟩;omega)|(rw[decide_eq_true_eq];constructor<;>intro h<;>omega)|(refine Cx ?_;omega)
        ·refine rP tb 2 U (o_y U (Lo U isAgg3 (by first|exact c_o)) ?_ U (Ax U U (Aa U)));refine rP tb 1 U (o_y U (Lo U isAgg3 (by first|exact c_o)) ?_ U (Ax U U (Aa U)));refine rP tb 3 U ?_
         first|refine Cu (s:=143) (Aa U) (fun c143=> ?_) (fun c143=> ?_)|refine Ds (s:=143) (Aa U) (fun c143=> ?_) (fun c143=> ?_)
         ·refine rP tb 17 U (Bj U (rO tb 1 U ?_));refine Be (_) ?_ ⟨atd,trivial⟩ (kg U) sbt
          first|(refine⟨fun _=> ?_,fun _=>rfl⟩;omega)|(rw[decide_eq_true_eq];constructor<;>intro h<;>omega)|(refine Cx ?_;omega)
         ·refine rP tb 2 U (o_y U (Lo U isAgg3 (by first|exact c_o)) ?_ U (Ax U U (Aa U)));refine rP tb 1 U (o_y U (Lo U isAgg3 (by first|exact c_o)) ?_ U (Ax U U (Aa U)));refine rP tb 3 U ?_
          first|refine Cu (s:=151) (Aa U) (fun c151=> ?_) (fun c151=> ?_)|refine Ds (s:=151) (Aa U) (fun c151=> ?_) (fun c151=> ?_)
          ·refine rP tb 9 U (Bj U (rO tb 1 U ?_));refine Be (_) ?_ ⟨atd,trivial⟩ (kg U) sbt
           first|(refine⟨fun _=> ?_,fun _=>rfl⟩;omega)|(rw[decide_eq_true_eq];constructor<;>intro h<;>omega)|(refine Cx ?_;omega)
          ·refine o_y U (Lp U isAgg26 sizeOf26 U (by first|exact A2)) ?_ U (Ax U U (Aa U));refine rP tb 1 U ?_;refine o_y U (Lp U isAgg59 sizeOf59 U (by first|exact(show Cells w0 _ _ _ (encW (gd l k).m) from Ce (o:=2) (k:=5) (l:=encDt (gd l k)) fdd)|exact A2)) ?_ U (Ax U U (Aa U));refine o_y U (Bb (qe2 U U) call48 (fun H' hs=>rend_g n (hn.mono (stn hs)) (gd l k).m ((hd _ (Ao hk2)).mono (stn hs)) hre.1 hre.2)) (o_y U (Lp U isAgg26 sizeOf26 U (by first|exact A2)) ?_ U (Ax U U (Aa U))) U (Ax U U (Aa U));refine o_y U (Lp U isAgg59 sizeOf59 U (by first|exact A2)) ?_ U (Ax U U (Aa U));refine o_y U (Bb (qe2 U U) call48 (fun H' hs=>rend_g n (hn.mono (stn hs)) (gd ws (gd l k).way.toNat) ((hw.at hwi).mono (stn hs)) (hg.inr _ (Ao hwi)) (hwl _ (Ao hwi)))) (rP tb 2 U (Bj U (rO tb 1 U ?_))) U (Ax U U (Aa U));refine Be (_) ?_ ⟨atd,trivial⟩ (kg U) sbt
           first|(refine⟨fun _=> ?_,fun _=>rfl⟩;omega)|(rw[decide_eq_true_eq];constructor<;>intro h<;>omega)|(refine Cx ?_;omega)
    rintro b160 hb160;have hce:(chkF n steps [(gd l k).m]).2=(chkF n steps [(gd l k).m]).2:=rfl
    first|refine Ak (Aa U) (fun c160=> ?_) (fun c160=> ?_)|refine Au (Aa U) (fun c160=> ?_) (fun c160=> ?_)
    ·have hc3:=hb160.1 c160;refine rC tb 9 U (Bc (rX tb 2 U (As U (Ll U) ?_)));exact⟨_,⟨⟨false,rfl,fun h=>absurd h Bool.false_ne_true,fun h=>absurd (h k hk2).c3 hc3⟩,rfl⟩,sbt⟩
    ·have hbg:=hbig _ (Ao hk2);have hc3:((chkF n steps [(gd l k).m]).2=0/\¬ (gd l k).m.way.links.length=0/\(gd l k).m.way.src=(gd n.links (gd (gd ws (gd l k).way.toNat).way.links (gd l k).place.toNat).toNat).src/\(gd l k).m.way.port=(gd ws (gd l k).way.toNat).way.port/\(gd l k).m.way.tag=(gd ws (gd l k).way.toNat).way.tag/\(gd l k).m.way.step=(gd ws (gd l k).way.toNat).way.step/\gd (nodesF n.links (gd l k).m.way) (gd l k).m.way.links.length=gd (nodesF n.links (gd ws (gd l k).way.toNat).way) (gd ws (gd l k).way.toNat).way.links.length):=Decidable.byContradiction fun h=>by rw[hb160.2 h] at c160;cases c160
     refine rC tb 8 U ?_;refine Cb (X:=Nat) (V:=fun i=>[(14, .int .i64 (i:Nat))]) (C:=[(1,_),(2,_),(3,_),(4,_),(9,_),(10,_),(11,_)]) (φ:=fun i=>i<=(gd l k).m.way.links.length/\∀ j,j<i->¬ gd (gd l k).m.way.links j=gd (gd ws (gd l k).way.toNat).way.links (gd l k).place.toNat) (μ:=fun i=>(gd l k).m.way.links.length - i) (x0:=0) ?_ (kg U) ⟨atd,trivial⟩ ?_
     ·exact⟨Nat.zero_le _,fun j h=>absurd h (Nat.not_lt_zero j)⟩
     rintro i ⟨hi,hno⟩;refine rD tb 6 U (y_ (Lo U isAgg41 (by first|exact c_o)) ?_ U);refine rO tb 4 U ?_
     first|refine Ak (Aa U) (fun c166=> ?_) (fun c166=> ?_)|refine Au (Aa U) (fun c166=> ?_) (fun c166=> ?_)
     ·refine rC tb 5 U (B9 13 [(0,true),(1,true),(2,true),(3,true),(4,true),(5,true),(6,true),(7,true),(8,true),(9,true),(10,true),(11,true),(12,true)] _ mixd qkr sb0 ?_ By);refine rP tb 2 U (o_y U (Lo U isAgg41 (by first|exact c_o)) ?_ U Ac);refine rP tb 1 U (o_y U (Lq U U runUnderlying41 sizeOf3 qom (by first|exact rfl|exact hA.b (i:=k) hk2|exact hA.b (i:=k - 1) qom|exact hw.arr.b (i:=(gd l k).way.toNat) qom|exact(hw.at hwi).links.b (i:=(gd l k).place.toNat) qom|exact hn.links.b (i:=(gd (gd ws (gd l k).way.toNat).way.links (gd l k).place.toNat).toNat) qom|exact(hd _ (Ao hk2)).links.b (i:=i) qom)) ?_ U Ac);refine o_y U (Lo U isAgg3 (by first|exact c_o|exact((hd _ (Ao hk2)).links.mono (by exact sbt)).f0 (i:=i) qom U)) ?_ U Ac;refine rP tb 1 U (o_y U (Lo U isAgg41 (by first|exact c_o)) ?_ U Ac);refine rP tb 1 U (o_y U (Lo U isAgg3 (by first|exact c_o)) ?_ U Ac);refine o_y U (Bl (T U) (T U) runUnderlying41 sizeOf3 qom (by first|exact rfl|exact hA.b (i:=k) hk2|exact hA.b (i:=k - 1) qom|exact hw.arr.b (i:=(gd l k).way.toNat) qom|exact(hw.at hwi).links.b (i:=(gd l k).place.toNat) qom|exact hn.links.b (i:=(gd (gd ws (gd l k).way.toNat).way.links (gd l k).place.toNat).toNat) qom|exact(hd _ (Ao hk2)).links.b (i:=i) qom)) ?_ U Ac;refine o_y U (Lo U isAgg3 (by first|exact c_o|exact((hw.at hwi).links.mono (by exact sbt)).f0 (i:=(gd l k).place.toNat) qom U)) ?_ U Ac;refine rP tb 1 U (Bj U (rO tb 2 U ?_))
      first|refine Ak (Aa U) (fun c181=> ?_) (fun c181=> ?_)|refine Au (Aa U) (fun c181=> ?_) (fun c181=> ?_)
      ·refine rC tb 8 U (Bc (rX tb 3 U (Bc (rX tb 2 U (As U (Ll U) ?_)))));exact⟨_,⟨⟨false,rfl,fun h=>absurd h Bool.false_ne_true,fun h=>absurd (by rw[<- c181];exact Ao qom) (h k hk2).c4⟩,rfl⟩,sbt⟩
      ·refine rC tb 5 U (y_ (Bd (T U) An qom) ?_ U);refine rO tb 2 U ?_;refine A8 (i+1) ?_ ?_ ⟨atd,trivial⟩ (kg U) ?_
       ·refine⟨by omega,fun j hj=> ?_⟩;rcases Nat.lt_succ_iff_lt_or_eq.1 hj with h3|rfl
        ·exact hno j h3
        ·exact c181
       ·first|omega|(simp only[];omega)
       ·exact sbt
     ·refine rC tb 2 U (Aq (rX tb 5 U (y_ (Bd (T U) An qom) ?_ U)));refine rO tb 2 U ?_;refine A8 (k+1) ?_ ?_ ⟨atd,trivial⟩ (kg U) ?_
      ·refine⟨hk2,fun j hj=> ?_⟩;rcases Nat.lt_succ_iff_lt_or_eq.1 hj with h3|rfl
       ·exact hall j h3
       ·refine⟨hc1,hc2,hc3,fun hm=> ?_⟩;obtain⟨i2,hi2,e2⟩:=List.getElem_of_mem hm;exact hno i2 qom (by rw[Ay hi2,e2])
      ·first|omega|(simp only[];omega)
      ·exact sbt
 ·obtain rfl:k=l.length:=by have h9: ¬ ((k:Nat):Int)<(l.length:Nat):=c18;omega
  refine rC tb 2 U (Aq (rX tb 8 U (As U (Ll U) ?_)));exact⟨_,⟨⟨true,rfl,fun _=>hall,fun _=>rfl⟩,rfl⟩,sbt⟩
def usedTo (tg:List Int) (j:Nat):List Int:=((List.range j).map fun (i:Nat)=>(i:Int)+1).filter fun t=>tg.contains t
def usedF (tg:List Int):List Int:=usedTo tg 65535
theorem usedTo_succ (tg:List Int)(j:Nat):usedTo tg (j+1)=if tg.contains ((j:Int)+1) then usedTo tg j++[(j:Int)+1] else usedTo tg j:=by
 unfold usedTo;rw[List.range_succ,List.map_append,List.filter_append];simp only[List.map_cons,List.map_nil,List.filter_cons,List.filter_nil]
 split<;>simp
theorem usedTo_len (tg:List Int)(j:Nat):(usedTo tg j).length<=j:=by
 unfold usedTo;refine Nat.le_trans (List.length_filter_le _ _) ?_;simp
theorem usedTo_mem {tg:List Int}{j:Nat}{t:Int}:t∈usedTo tg j↔(1<=t/\t<=j)/\t∈tg:=by
 unfold usedTo;simp only[List.mem_filter,List.mem_map,List.mem_range,List.contains_iff_mem]
 constructor
 ·rintro⟨⟨i,hi,rfl⟩,h⟩;exact⟨by omega,h⟩
 ·rintro⟨h,h2⟩;exact⟨⟨(t - 1).toNat,by omega,by omega⟩,h2⟩
theorem usedTo_incr (tg:List Int)(j:Nat):(usedTo tg j).Pairwise (· < ·):=by
 unfold usedTo;refine List.Pairwise.filter _ ?_;rw[List.pairwise_map];exact List.pairwise_lt_range.imp fun h=>by omega
theorem contains_take_succ {tg:List Int}{k:Nat}(h:k<tg.length)(t:Int):(tg.take (k+1)).contains t=((tg.take k).contains t||decide (gd tg k=t)):=by
 rw[C6 h,Bool.eq_iff_iff];simp only[List.contains_iff_mem,List.mem_append,List.mem_singleton,Bool.or_eq_true,decide_eq_true_eq]
 constructor
 ·rintro(h|h)
  ·exact .inl h
  ·exact .inr h.symm
 ·rintro(h|h)
  ·exact .inl h
  ·exact .inr h.symm
theorem rUsed_s {w0:World}{H:List (Nat × Obj)}(q2:Option Addr)(cap2:Nat)(tg:List Int)(ht:IntArr w0 H q2 tg)(htl:tg.length<=100000):
  FSpec prog w0 117 #[.slice q2 tg.length cap2] H (fun v H'=>∃ d:Sl,v=slV d (usedF tg).length/\SlOk d (usedF tg).length 1/\H'=slH d ((usedF tg).flatMap encI) 3++H):=by
 refine Az func117 U ntmps117 U (Am (Ad (y_ (Ag An) (Aj (Ah (Am (Ad (y_ (Ag An) (Aj (Ah (Am (Am (Ad (y_ (Ag An) (Aj (Ah (Bo ?_))) U)))))) U))))) U)));refine Bz (X:=Nat × Sl) (V:=fun ⟨j,d⟩=>[(4, .int .i64 ((j:Int)+1)),(3,slV d (usedTo tg j).length)]) (C:=[(0,_)]) (G:=fun ⟨j,d⟩=>slH d ((usedTo tg j).flatMap encI) 3++H) (φ:=fun ⟨j,d⟩=>j<=65535/\SlOk d (usedTo tg j).length 1) (μ:=fun ⟨j,d⟩=>65535 - j) (x0:=(0, .nil)) ?_ (kg U) ⟨atd,atd,trivial⟩ sb0 ?_
 ·exact⟨Nat.zero_le _,rfl⟩
 rintro⟨j,d⟩ ⟨hj,hok⟩;have hul:=usedTo_len tg j;refine Am (Am (Ad (y_ (Af (T U)) (y_ (Ee (T U) An) (Aj (Ah ?_)) U) U)))
 first|refine Ak (Aa U) (fun c8=> ?_) (fun c8=> ?_)|refine Au (Aa U) (fun c8=> ?_) (fun c8=> ?_)
 ·refine Bp (Ah (Am (Bo (Am (Ad (y_ (Ag An) (Aj (Ah (Am (Am (Ad (y_ (Ag An) (Aj (Ah (Bo ?_))) U)))))) U))))));refine Cb (X:=Bool × Nat) (V:=fun ⟨b,k⟩=>[(5, .bool b),(6, .int .i64 (k:Nat))]) (C:=[(0,_),(3,_),(4,_)]) (φ:=fun ⟨b,k⟩=>k<=tg.length/\b=(tg.take k).contains ((j:Int)+1)) (μ:=fun ⟨b,k⟩=>tg.length - k) (x0:=(false,0)) ?_ (kg U) ⟨atd,atd,trivial⟩ ?_
  ·exact⟨Nat.zero_le _,by simp⟩
  rintro⟨b,k⟩ ⟨hk,hb⟩;refine Am (Am (Ad (y_ (Af (T U)) (y_ (Af (T U)) (y_ (Cd (T U) runUnderlying41) (y_ (Ci (T U) (T U)) (Aj (Ah ?_)) U) U) U) U)))
  first|refine Ak (Aa U) (fun c14=> ?_) (fun c14=> ?_)|refine Au (Aa U) (fun c14=> ?_) (fun c14=> ?_)
  ·refine Bp (Ah (Am (Bo (Ad (y_ (Af (T U)) (y_ (Af (T U)) ?_ U) U)))))
   first|refine Bi (s:=18) (Aa U) (fun c18=> ?_) (fun c18=> ?_)|refine B2 (s:=18) (Aa U) (fun c18=> ?_) (fun c18=> ?_)
   ·refine Bs (Bs (Bs (Bs (Bs (Bs (y_ (Bh (T U) An) (y_ (Ag (T U)) (Aj (B4 (Ah (Ad (y_ (Af (T U)) (y_ (Bd (T U) An qom) ?_ U) U))))) U) U) U U U U) U U U U) U U U U) U U U U) U U U U) U U U U;refine y_ (Ag (T U)) (Aj ?_) U;refine A8 ((true,k+1)) ?_ ?_ ⟨atd,atd,trivial⟩ (kg U) ?_
    ·exact⟨by omega,by rw[contains_take_succ qom,<- hb,c18];rfl⟩
    ·first|omega|(simp only[];omega)
    ·exact sbt
   ·refine A3 (Af (T U)) U (Ax U U (Aa U)) (A3 (Af (T U)) U (Ax U U (Aa U)) (A3 (Lq U U runUnderlying41 sizeOf3 qom (by first|exact rfl|exact ht.b (i:=k) qom)) U (Ax U U (Aa U)) ?_));refine A3 (Lo U isAgg3 (by first|exact c_o|exact c_m (ht.f0 (i:=k) qom U))) U (Ax U U (Aa U)) ?_;refine A3 (Af (T U)) U (Ax U U (Aa U)) (A3 (D9 (T U) (T U)) U (Ax U U (Aa U)) (y_ (Bm (T U) (T U)) (y_ (Ag (T U)) (Aj (B4 (Ah (Ad (y_ (Af (T U)) (y_ (Bd (T U) An qom) ?_ U) U))))) U) U));refine y_ (Ag (T U)) (Aj ?_) U;refine A8 ((decide (gd tg k=(j:Int)+1),k+1)) ?_ ?_ ⟨atd,atd,trivial⟩ (kg U) ?_
    ·exact⟨by omega,by rw[contains_take_succ qom,<- hb,c18];rfl⟩
    ·first|omega|(simp only[];omega)
    ·exact sbt
  ·refine Ct (Bv (Aq (Bw (Ah (Am (Ad (y_ (Af (T U)) (Aj (Ah ?_)) U)))))))
   first|refine Ak (Aa U) (fun c26=> ?_) (fun c26=> ?_)|refine Au (Aa U) (fun c26=> ?_) (fun c26=> ?_)
   ·refine Ad (y_ (Af (T U)) (y_ (Af (T U)) (e_ (A7 (.cons (T U) .nil) (Iq)) ?_ U) U) U);rintro _ _ ⟨n29,rfl,rfl⟩;refine e_ (Br ((j:Int)+1) (by':=8) qlc (T U) (T U) runUnderlying41 runUnderlying41 sizeOf3 typeInfo3 U zeroValue3 U (fun _=>rfl) U hok qde qom) ?_ U;rintro _ _ ⟨d',rfl,hok',rfl⟩;refine y_ (Ag (T U)) (Aj (B4 (Ah (Ad (y_ (Af (T U)) (y_ (Bd (T U) An qom) ?_ U) U))))) U;refine y_ (Ag (T U)) (Aj ?_) U;have hsu:=usedTo_succ tg j;rw[show tg.take k=tg from List.take_of_length_le qom] at hb
    first
     |have hin:tg.contains ((j:Int)+1)=true:=by rw[<- hb];exact c26
      rw[if_pos hin] at hsu;rw[show (usedTo tg j).length+1=(usedTo tg (j+1)).length by rw[hsu];simp] at *;rw[<- hsu];refine A8 (j+1,d') ?_ ?_ ⟨by first|exact Aa U|(refine Ae (Aa U) (vint ?_);simp;done),Aa U,trivial⟩ (kg U) sbt
      ·exact⟨by omega,hok'⟩
      ·simp only[];omega
     |have hin: ¬ tg.contains ((j:Int)+1)=true:=by rw[<- hb];simpa using c26
      rw[if_neg hin] at hsu;have hG:(slH d ((usedTo tg (j+1)).flatMap encI) 3++H).Sublist (slH d ((usedTo tg j).flatMap encI) 3++H):=by rw[hsu];exact sb0
      refine A8 (j+1,d) ?_ ?_ ⟨by first|exact Aa U|(refine Ae (Aa U) (vint ?_);simp;done),by(refine Ae (Aa U) ?_;rw[hsu]),trivial⟩ (kg U) hG
      ·exact⟨by omega,by rw[hsu];exact hok⟩
      ·simp only[];omega
   ·refine Bp (B4 (Ah (Ad (y_ (Af (T U)) (y_ (Bd (T U) An qom) ?_ U) U))));refine y_ (Ag (T U)) (Aj ?_) U;have hsu:=usedTo_succ tg j;rw[show tg.take k=tg from List.take_of_length_le qom] at hb
    first
     |have hin:tg.contains ((j:Int)+1)=true:=by rw[<- hb];exact c26
      rw[if_pos hin] at hsu;rw[show (usedTo tg j).length+1=(usedTo tg (j+1)).length by rw[hsu];simp] at *;rw[<- hsu];refine A8 (j+1,d') ?_ ?_ ⟨by first|exact Aa U|(refine Ae (Aa U) (vint ?_);simp;done),Aa U,trivial⟩ (kg U) sbt
      ·exact⟨by omega,hok'⟩
      ·simp only[];omega
     |have hin: ¬ tg.contains ((j:Int)+1)=true:=by rw[<- hb];simpa using c26
      rw[if_neg hin] at hsu;have hG:(slH d ((usedTo tg (j+1)).flatMap encI) 3++H).Sublist (slH d ((usedTo tg j).flatMap encI) 3++H):=by rw[hsu];exact sb0
      refine A8 (j+1,d) ?_ ?_ ⟨by first|exact Aa U|(refine Ae (Aa U) (vint ?_);simp;done),by(refine Ae (Aa U) ?_;rw[hsu]),trivial⟩ (kg U) hG
      ·exact⟨by omega,by rw[hsu];exact hok⟩
      ·simp only[];omega
 ·refine Ct (Bv (Aq (Bw (Ah (Am (Ad (y_ (Af (T U)) (y_ (Ag (T U)) (Aj (Ah (Bq (As U (Ll U) ?_)))) U) U)))))));have e:j=65535:=by omega
  subst e;exact⟨_,⟨d,rfl,hok,rfl⟩,sbt⟩
theorem made_ok {w0:World}{H:List (Nat × Obj)}(n:Nm)(hn:NetM w0 H n)(q:Option Addr)(cap:Nat)(l:List Wm)(hw:WaysM w0 H q l)(hg:Good n.links l)(hl5:l.length<=100000)(q2:Option Addr)(cap2:Nat)(tg:List Int)(ht:IntArr w0 H q2 tg)(htl:tg.length<=100000)(hel:tg.length=l.length)(hmd:madF n.links [] (l.map (·.way)) tg=true):
  FSpec prog w0 110 #[.agg (encNm n).toArray, .slice q l.length cap, .slice q2 tg.length cap2] H (fun v H'=>∃ r pl,v= .tuple #[.map (some r), .bool true]/\H'=(r,mapO encK2 encHv pl)::H/\RepT n.links pl (pairs l tg)/\PlOkT l l.length pl):=
 (made_s n hn q cap l hw hg hl5 q2 cap2 tg ht htl hel).mono fun v H' h=>by
  rcases h with ⟨_,h⟩|⟨h,_⟩
  ·exact h
  ·rw[hmd] at h;cases h
end Go.Proofs.YtnafbfbfmgfcfaaGreatDoor
namespace Go.Proofs.YtnafbfbfmgfcfaaGreatDoor
open _root_.Go.Proofs.Tryz
open Go.RowKit Go.Sort Go.Shelf Go.Proofs
set_option linter.unusedVariables false
set_option linter.unusedSimpArgs false
set_option linter.unusedSectionVars false
set_option maxRecDepth 100000
section
variable {α:Type} [Inhabited α] {enc:α->List Value} {k:Nat}
theorem flat_get2 (he:∀ x,(enc x).length=k)(l:List α)(t:Nat)(ht:t<l.length*k):(l.flatMap enc)[t]? =some ((enc l[t / k]!)[t % k]!):=by
 have hk:0<k:=by
  rcases Nat.eq_zero_or_pos k with h|h
  ·subst h;simp at ht
  ·exact h
 have h1:t / k<l.length:=by rw[Nat.div_lt_iff_lt_mul hk];exact ht
 have h2:t % k<k:=Nat.mod_lt _ hk;have h3:l[t / k]? =some l[t / k]! :=by simp[h1]
 have h4:(enc l[t / k]!)[t % k]? =some ((enc l[t / k]!)[t % k]!):=by
  have:t % k<(enc l[t / k]!).length:=by rw[he];exact h2
  rw[List.getElem?_eq_getElem this,getElem!_pos (enc l[t / k]!) (t % k) this]
 have:=Ih he l (t / k) (l[t / k]!) (t % k) ((enc l[t / k]!)[t % k]!) h3 h4;rw[show t / k*k+t % k=t from by rw[Nat.mul_comm];exact Nat.div_add_mod t k] at this;exact this
theorem flatK_list (he:∀ x,(enc x).length=k)(l:List α):flatK enc k l.toArray=(l.flatMap enc).toArray:=by
 apply Array.ext_getElem?;intro t
 by_cases ht:t<l.length*k
 ·have h1:=flat_get2 he l t ht;have h2:(l.flatMap enc).toArray[t]? =some ((enc l[t / k]!)[t % k]!):=by rw[List.getElem?_toArray];exact h1
  rw[h2];simp[flatK,ht]
 ·rw[Array.getElem?_eq_none (by simp;omega),Array.getElem?_eq_none (by simp only[List.size_toArray];rw[Da he];omega)]
variable {w0 w:World} {n:Nat} {junk:List Value} {e:TypeId} {X:List (Nat × Obj)}
theorem own_holdsK (he:∀ x,(enc x).length=k){l:List α}(hO:Own w0 ((n,Cl (l.flatMap enc++junk) e)::X) w):HoldsK enc k w n 0 l.toArray:=by
 unfold HoldsK;rw[flatK_list he];have:l.flatMap enc=(l.flatMap enc).map id:=by simp
 rw[this] at hO;exact own_holds hO
theorem own_rowK (he:∀ x,(enc x).length=k){l l':List α}(hO:Own w0 ((n,Cl (l.flatMap enc++junk) e)::X) w)(hl:l.length=l'.length)(q:Nat)(os:Array Obj):Own w0 ((n,Cl (l'.flatMap enc++junk) e)::X) (sortWorldK enc k w n 0 q l'.toArray os):=by
 unfold sortWorldK putRowK;rw[flatK_list he];have e1:l.flatMap enc=(l.flatMap enc).map id:=by simp
 have e2:l'.flatMap enc=(l'.flatMap enc).map id:=by simp
 rw[e1] at hO;rw[e2];have:=own_row (enc:=id) hO (l':=(l'.flatMap enc)) (by rw[Da he,Da he,hl]) q os
 simpa using this
end
theorem sorted_list {α:Type}[Inhabited α] {lt:α->α->Bool}{l:List α}{d:Array α}(hp:PermIn 0 l.length l.toArray d)(hs:SortedIn lt 0 l.length d):d.toList.Perm l/\d.toList.Pairwise (fun a b=>lt b a=false):=by
 obtain⟨h1,_,h3⟩:=hp;have hsz:d.size=l.length:=by simpa using h1
 have e1:d.extract 0 l.length=d:=by rw[<- hsz];simp
 have e2:l.toArray.extract 0 l.length=l.toArray:=by simp
 rw[e1,e2] at h3;refine⟨h3,?_⟩;rw[List.pairwise_iff_getElem];intro i j hi hj hij;have hi':i<d.size:=by simpa using hi
 have hj':j<d.size:=by simpa using hj
 have:=hs i j (Nat.zero_le _) hij qom;rw[getElem!_pos d i hi',getElem!_pos d j hj'] at this
 simpa using this
end Go.Proofs.YtnafbfbfmgfcfaaGreatDoor
namespace Go.Proofs.YtnafbfbfmgfcfaaGreatDoor
open _root_.Go.Proofs.Tryz
open Go.RowKit
set_option linter.unusedVariables false
set_option linter.unusedSimpArgs false
set_option linter.unusedSectionVars false
set_option maxRecDepth 100000
abbrev encPlT (p:Int × Int):List Value:=[.int .i64 p.1, .int .i64 p.2]
abbrev encPv (p:Int × Int):List Value:=[encK2 p]
def keysAt (pl:PlanL) (seen:List Nat):List (Int × Int):=seen.map fun i=>(gd pl i).1
def KeysSt (pl:PlanL) (k:List (Int × Int)) (_:Int × Int):Prop:=k.length<pl.length
def KeysEn (pl:PlanL) (k:List (Int × Int)):Prop:=∃ seen:List Nat,seen.Nodup/\(∀ i,i∈seen↔i<pl.length)/\k=keysAt pl seen
theorem Ka:∀ {n:Nat} {seen:List Nat},seen.Nodup->(∀ i∈seen,i<n)->seen.length<=n
 |0,seen,_,hs=>by
  cases seen with
  |nil=>simp
  |cons a l=>have:=hs a (by simp);omega
 |n+1,seen,hn,hs=>by
  by_cases hm:n∈seen
  ·have h1:=Ka (n:=n) (seen:=seen.erase n) (hn.erase n) (fun i hi=>by
    have h2:=hs i (List.mem_of_mem_erase hi);have h3:i≠n:=by rintro rfl;exact(List.Nodup.not_mem_erase hn) hi
    omega)
   rw[List.length_erase_of_mem hm] at h1;omega
  ·have:=Ka (n:=n) hn (fun i hi=>by
    have h2:=hs i hi;have h3:i≠n:=by rintro rfl;exact hm hi
    omega)
   omega
theorem seen_lt {n i:Nat}{seen:List Nat}(hn:seen.Nodup)(hs:∀ i∈seen,i<n)(hi:i∉seen)(hl:i<n):seen.length<n:=by
 have:=Ka (n:=n) (seen:=i::seen) (List.nodup_cons.2 ⟨hi,hn⟩) (fun j hj=>by rcases List.mem_cons.1 hj with rfl|h;exact hl;exact hs j h);simp at this;omega
theorem keys_s {w0:World}{H:List (Nat × Obj)}(r:Nat):
  FSpec prog w0 115 #[.map (some r)] H (fun v H'=>∃ n1:Nat,v= .func (.func 163) #[] #[.pointer (some ⟨n1,0,none⟩)]/\H'=(n1,Cl [.map (some r)] 108)::H):=by
 refine Az func115 U ntmps115 U (Am (Ad (e_ (Lt U cs_) ?_ U)));rintro _ _ ⟨n1,rfl,rfl⟩;refine y_ (Ag An) (Aj (Ah (Am (Ad (y_ (Cg (.cons (T U) .nil)) (y_ (Ag (T U)) (Aj (Ah (Bq (As U (Ll U) ?_)))) U) U))))) U;exact⟨_,⟨n1,rfl,rfl⟩,sbt⟩
theorem keys_it {w0:World}{Hc:List (Nat × Obj)}(n1 r:Nat)(pl:PlanL)(h1:Fnd Hc n1 (Cl [.map (some r)] 108))(h2:Fnd Hc r (mapO encK2 encHv pl)):
  IterSpecD prog w0 163 [.pointer (some ⟨n1,0,none⟩)] Hc encPv (KeysSt pl) (KeysEn pl):=by
 intro l S Sx hHc hY H0 hS0;have hY0:=fun k x H a b hx hS=>YSpec.mono (hY k x H [a,b] hx hS) (K':=fun v H'=>∃ H1,H'=a::b::H1/\((v= .bool true/\S (k++[x]) H1)\/(v= .bool false/\Sx H1))) (by rintro v _ ⟨H1,rfl,h⟩;exact⟨H1,rfl,h⟩)
 refine Az func163 U ntmps163 U (Am (Ad (y_ (Lo U isAgg108 (by first|exact c_o|exact(Cell.mono (w0:=w0) (c_o (i:=0) (hf:=h1)) (List.Sublist.trans (hHc _ _ hS0) sbt)))) ?_ U)));refine e_ (eff_rangeMap (m:=r) (l:=pl) (encK:=encK2) (encV:=encHv) (T U) ((hHc _ _ hS0).subset h2) runUnderlying108) ?_ U;rintro _ _ ⟨n5,rfl,rfl⟩;refine Aj (Ah (Bo ?_));refine Bz (X:=List Nat × List (Nat × Obj)) (V:=fun ⟨seen,Hx⟩=>[]) (C:=[(0,_),(5,_)]) (G:=fun ⟨seen,Hx⟩=>(n5,itO r pl.length seen pl.length)::Hx) (φ:=fun ⟨seen,Hx⟩=>S (keysAt pl seen) Hx/\seen.Nodup/\∀ i∈seen,i<pl.length) (μ:=fun ⟨seen,Hx⟩=>pl.length - seen.length) (x0:=([],H0)) ?_ (kg U) trivial sb0 ?_
 ·exact⟨hS0,by simp,by simp⟩
 rintro⟨seen,Hx⟩ ⟨hS,hnd,hlt⟩;have hr:Fnd Hx r (mapO encK2 encHv pl):=(hHc _ _ hS).subset h2;refine Am (Ad ?_);refine e_ (eff_next (m:=r) (l:=pl) (encK:=encK2) (encV:=encHv) (T U) (by repeat (first|exact hr|exact Ba|refine Av ?_)) (by repeat (first|exact Loc.h|apply Loc.t))) ?_ U;rintro _ _ (⟨i,p,hip,hni,rfl,rfl⟩|⟨hall,rfl,rfl⟩)
 ·refine y_ (Bx (T U) U) (Aj (Ah (Am (Cf (Aa U) (Bp (Ah (Bo (Am (Ad ?_))))))))) U;refine y_ (yl_entry (m:=r) (l:=pl) (encK:=encK2) (encV:=encHv) (T U) (by repeat (first|exact hr|exact Ba|refine Av ?_)) (by repeat (first|exact Ba|refine Av ?_)) hip) ?_ U;refine y_ (Bx (T U) U) (e_ (Ap zeroValue197 cs_) ?_ U) U;rintro _ _ ⟨n3,rfl,rfl⟩
  first|refine A9 (Ls U U sizeOf197) U Ac ?_
  rintro _ _ ⟨rfl,rfl⟩;refine Aj (Ah (Am (Ad (y_ (Af (T U)) (y_ (Lp U isAgg197 sizeOf197 U (by first|exact A2|exact(Cell.mono (w0:=w0) (c_o (i:=0) (hf:=h1)) (List.Sublist.trans (hHc _ _ hS0) sbt)))) ?_ U) U))));refine e_ (eff_yield (T U) (.cons (T U) .nil) (hY0 (keysAt pl seen) p.1 Hx _ _ (by have:=seen_lt hnd hlt hni (List.getElem?_eq_some_iff.1 hip).1;simpa[KeysSt,keysAt] using this) hS)) ?_ U;rintro _ _ ⟨H1,rfl,(⟨rfl,hS1⟩|⟨rfl,hSx⟩)⟩
  ·refine y_ (Cc (T U)) (Aj (Ah (Cz (Aa U) (Bp (B4 ?_))))) U;have hil:=(List.getElem?_eq_some_iff.1 hip).1;have hgp:(gd pl i).1=p.1:=by rw[Dt hil] at hip;simp at hip;rw[hip]
   have hsl:=seen_lt hnd hlt hni hil;refine A8 ((seen++[i],H1)) ?_ ?_ trivial (kg U) ?_
   ·refine⟨by unfold keysAt at *;rw[List.map_append];simpa[hgp] using hS1,?_,fun j hj=> ?_⟩
    ·rw[List.nodup_append];exact⟨hnd,by simp,by intro a ha b hb;simp at hb;subst hb;rintro rfl;exact hni ha⟩
    ·rcases List.mem_append.1 hj with h|h
     ·exact hlt j h
     ·simp at h;subst h;exact hil
   ·show pl.length - (seen++[i]).length<_;simp;omega
   ·exact sbt
  ·refine y_ (Cc (T U)) (Aj (Ah (Cf (Aa U) (Bq (A4 (Bc (A4 (As U .nil ?_)))))))) U;exact⟨_, .inr hSx,sbt⟩
 ·refine y_ (Bx (T U) U) (Aj (Ah (Am (Cz (Aa U) (Ct (Bv (Aq (Bw (Ea U .nil ?_))))))))) U;exact⟨_, .inl ⟨_,⟨seen,hnd,fun i=>⟨fun h=>hlt i h,hall i⟩,rfl⟩,hS⟩,sbt⟩
theorem bs102_1_0 (a0:Int)(a1:Int)(w:World):(Instr.buildSlice 199 1 #[(0, .agg #[.int .i64 a0, .int .i64 a1])]).run prog w= .ok (.slice (some ⟨w.heap.size,0,none⟩) 1 1) (w.alloc (Cl [.int .i64 a0, .int .i64 a1] 197)):=by kernel_rfl
theorem appKeys_s {w0:World}{H:List (Nat × Obj)}(n1 r:Nat)(pl:PlanL)(h1:Fnd H n1 (Cl [.map (some r)] 108))(h2:Fnd H r (mapO encK2 encHv pl))(hpl:pl.length<=1000000):
  FSpec prog w0 192 #[.slice none 0 0, .func (.func 163) #[] #[.pointer (some ⟨n1,0,none⟩)]] H (fun v H'=>∃ (d:Sl) (ks:List (Int × Int)),v=slV d ks.length/\SlOk d ks.length 2/\KeysEn pl ks/\H'=slH d (ks.flatMap encPlT) 197++H):=by
 refine Az func192 U ntmps192 U (Am (Ad (e_ (Lt U cs_) ?_ U)));rintro _ _ ⟨n2,rfl,rfl⟩;refine y_ (Ag An) (Aj (Ah (Am (Am (Ad (y_ (Af (T U)) (Aj (Ah (Bo ?_))) U)))))) U;refine j_rangeD (Z:=Sl × Nat × List (Int × Int)) (T rfl) call163 (keys_it n1 r pl h1 h2) (fun _=>rfl) rfl (fun ⟨d,c,l⟩=>slH d (l.flatMap encPlT) 197++((n2,Cl [slV d c] 199)::H)) (fun k ⟨d,c,l⟩=>c=l.length/\l=k/\SlOk d l.length 2) (fun ⟨d,c,l⟩=>False) (fun _ ⟨d,c,l⟩=>False) ((.nil,0,[])) ?_ sbt ?_ ?_ ?_ ?_ ?_
 ·exact⟨rfl,rfl,rfl⟩
 ·rintro⟨d,c,l⟩;exact sbt
 ·rintro l lr Y X k x1 ⟨d,c,l⟩ hl hx ⟨rfl,hll,hok⟩;have hlb:l.length<pl.length:=by rw[hll];exact hx
  refine B5 [(2,_),(7,_)] (kg U) (Ad (e_ (Ap zeroValue197 cs_) ?_ U));rintro _ _ ⟨n5,rfl,rfl⟩
  first|refine A9 (Ls U U sizeOf197) U Ac ?_
  rintro _ _ ⟨rfl,rfl⟩;refine Aj (Ii hl ?_);refine Bo (Ad (y_ (Lo U isAgg199 (by first|exact c_o)) ?_ U));refine y_ (Lp U isAgg197 sizeOf197 U (by first|exact A2)) ?_ U;refine e_ (A7 (.cons (T U) .nil) (bs102_1_0 _ _)) ?_ U;rintro _ _ ⟨n10,rfl,rfl⟩;refine e_ (Br (x1) (by':=16) qlc (T U) (T U) runUnderlying199 runUnderlying199 sizeOf197 typeInfo197 U zeroValue197 U (fun _=>rfl) U hok qde qom) ?_ U;rintro _ _ ⟨d',rfl,hok',rfl⟩
  first|refine A9 (Ls U U sizeOf199) U Ac ?_|refine A9 (B1 (T U) (T U) U sizeOf199) U Ac ?_
  rintro _ _ ⟨rfl,rfl⟩;refine Aj (B4 (Em ((d',l.length+1,l++[x1])) ?_ sbt));exact⟨by simp,by rw[hll],by simpa using hok'⟩
 ·rintro D0 ⟨d,c,l⟩ kk hEn ⟨rfl,hll,hok⟩;refine B4 (Ah (Am (Ad (y_ (Lo U isAgg199 (by first|exact c_o)) ?_ U))));refine y_ (Ag (T U)) (Aj (Ah (Bq (Eg ?_)))) U;refine As U (Ll U) ?_;exact⟨_,⟨d,l,rfl,hok,hll ▸ hEn,rfl⟩,sbt⟩
 ·exact fun _ _ h=>h.elim
 ·exact fun _ _ _ h=>h.elim
theorem collectKeys_s {w0:World}{H:List (Nat × Obj)}(n1 r:Nat)(pl:PlanL)(h1:Fnd H n1 (Cl [.map (some r)] 108))(h2:Fnd H r (mapO encK2 encHv pl))(hpl:pl.length<=1000000):
  FSpec prog w0 161 #[.func (.func 163) #[] #[.pointer (some ⟨n1,0,none⟩)]] H (fun v H'=>∃ (d:Sl) (ks:List (Int × Int)),v=slV d ks.length/\SlOk d ks.length 2/\KeysEn pl ks/\H'=slH d (ks.flatMap encPlT) 197++H):=by
 refine Az func161 U ntmps161 U (Am (Ad (y_ (Ag An) (Aj (Ah (Am (Ad (y_ (Af (T U)) (e_ (A1 (.cons An (.cons (T U) .nil)) call192 (appKeys_s _ r pl h1 h2 hpl)) ?_ U) U))))) U)));rintro _ _ ⟨d,ks,rfl,hok,hen,rfl⟩;refine y_ (Ag (T U)) (Aj (Ah (Bq (As U (Ll U) ?_)))) U;exact⟨_,⟨d,ks,rfl,hok,hen,rfl⟩,sbt⟩
structure Plc where
 val:Int × Int
 ok:1<=val.1/\val.1<=65535
instance:Inhabited Plc:=⟨⟨(1,0),by decide⟩⟩
def encPc (x:Plc):List Value:=encPlT x.1
def laysSF_renT:Go.Shelf.Ren:=⟨fun|6=>162|15=>194|14=>193|28=>220|29=>221|20=>212|21=>213|22=>214|23=>215|24=>216|25=>217|26=>218|27=>219|46=>235|47=>236|48=>237|49=>238|50=>239|57=>244|n=>n,fun|22=>199|24=>197|25=>198|3=>3|39=>280|0=>0|53=>302|55=>149|4=>4|46=>296|45=>295|50=>65|5=>5|9=>9|66=>311|70=>315|76=>319|77=>320|n=>n,fun|n=>n⟩
theorem laysSFT:Go.Proofs.SlLaysF0.n6 prog laysSF_renT:={
 mixed:=by kernel_rfl,
 f6:=⟨Tryz.f162.name,by decide,func162.trans (congrArg some qkr)⟩,
 f14:=⟨Tryz.f193.name,by decide,func193.trans (congrArg some qkr)⟩,
 f15:=func194.trans (congrArg some qkr),
 f20:=⟨Tryz.f212.name,by decide,func212.trans (congrArg some qkr)⟩,
 f21:=⟨Tryz.f213.name,by decide,func213.trans (congrArg some qkr)⟩,
 f22:=⟨Tryz.f214.name,by decide,func214.trans (congrArg some qkr)⟩,
 f23:=⟨Tryz.f215.name,by decide,func215.trans (congrArg some qkr)⟩,
 f24:=⟨Tryz.f216.name,by decide,func216.trans (congrArg some qkr)⟩,
 f25:=⟨Tryz.f217.name,by decide,func217.trans (congrArg some qkr)⟩,
 f26:=⟨Tryz.f218.name,by decide,func218.trans (congrArg some qkr)⟩,
 f27:=⟨Tryz.f219.name,by decide,func219.trans (congrArg some qkr)⟩,
 f28:=func220.trans (congrArg some qkr),
 f29:=func221.trans (congrArg some qkr),
 f46:=⟨Tryz.f235.name,by decide,func235.trans (congrArg some qkr)⟩,
 f47:=func236.trans (congrArg some qkr),
 f48:=func237.trans (congrArg some qkr),
 f49:=⟨Tryz.f238.name,by decide,func238.trans (congrArg some qkr)⟩,
 f50:=⟨Tryz.f239.name,by decide,func239.trans (congrArg some qkr)⟩,
 f57:=⟨Tryz.f244.name,by decide,func244.trans (congrArg some qkr)⟩,
 t0:=underlying0,
 a0:=isAgg0,
 z0:=sizeOf0,
 v0:=zeroValue0,
 t3:=underlying3,
 a3:=isAgg3,
 z3:=sizeOf3,
 v3:=zeroValue3,
 t4:=underlying4,
 a4:=isAgg4,
 z4:=sizeOf4,
 v4:=zeroValue4,
 t5:=underlying5,
 a5:=isAgg5,
 z5:=sizeOf5,
 v5:=zeroValue5,
 t9:=underlying9,
 a9:=isAgg9,
 z9:=sizeOf9,
 v9:=zeroValue9,
 t22:=underlying199,
 a22:=isAgg199,
 z22:=sizeOf199,
 v22:=zeroValue199,
 t25:=underlying198,
 a25:=isAgg198,
 z25:=sizeOf198,
 v25:=zeroValue198,
 t39:=underlying280,
 a39:=isAgg280,
 z39:=sizeOf280,
 v39:=zeroValue280,
 t45:=underlying295,
 a45:=isAgg295,
 z45:=sizeOf295,
 v45:=zeroValue295,
 t46:=underlying296,
 a46:=isAgg296,
 z46:=sizeOf296,
 v46:=zeroValue296,
 t50:=underlying65,
 a50:=isAgg65,
 z50:=sizeOf65,
 v50:=zeroValue65,
 t53:=underlying302,
 a53:=isAgg302,
 z53:=sizeOf302,
 v53:=zeroValue302,
 t55:=underlying149,
 a55:=isAgg149,
 z55:=sizeOf149,
 v55:=zeroValue149,
 t66:=underlying311,
 a66:=isAgg311,
 z66:=sizeOf311,
 v66:=zeroValue311,
 t70:=underlying315,
 a70:=isAgg315,
 z70:=sizeOf315,
 v70:=zeroValue315,
 t76:=underlying319,
 a76:=isAgg319,
 z76:=sizeOf319,
 v76:=zeroValue319,
 t77:=underlying320,
 a77:=isAgg320,
 z77:=sizeOf320,
 v77:=zeroValue320}
def cmpP (x y:Plc):Int:=x.1.1 - y.1.1
theorem ltP (x y:Plc):ltOf cmpP x y=decide (x.1.1<y.1.1):=by
 unfold ltOf cmpP;exact decide_eq_decide.2 qom
theorem swoP:Go.Sort.SWO (ltOf cmpP) where
 irrefl x:=by rw[ltP];simp
 trans x y z h1 h2:=by rw[ltP,decide_eq_true_iff] at *;omega
 ntrans x y z h1 h2:=by rw[ltP,decide_eq_false_iff_not] at *;omega
set_option maxHeartbeats 1000000 in
theorem cmp50 (a b c d:Int)(hw:IntKind.i64.wrap (a - c)=a - c)(W:World):Calls prog 113 #[.agg #[.int .i64 a, .int .i64 b], .agg #[.int .i64 c, .int .i64 d]] W fun e w'=>e= .returned (.int .i64 (a - c))/\∃ q os',w'=Go.Sort.grow (W.drewN q) os':=by
 go_enter func113,ntmps113
 go_wp2
 go_ret
 exact⟨by simp[hw],0,_,by rw[Go.Sort.alloc_eq_grow,Go.Sort.alloc_eq_grow,Go.Sort.grow_grow];rfl⟩
theorem cmpLays50 (blk off size:Nat)(w:World):Go.Proofs.CmpLays prog 113 #[] encPc 2 cmpP blk off size w:=fun _ _ _ _ x y=>cmp50 x.1.1 x.1.2 y.1.1 y.1.2 (IntWalk.i64_in _ (by have:=x.2;have:=y.2;omega)) _
theorem pc_flat (l:List Plc):l.flatMap encPc=(l.map (·.1)).flatMap encPlT:=by simp only[List.flatMap_map];rfl
open Go.Sort Go.Proofs in
theorem sortF_none (p:Option Addr)(cap:Nat)(f:Value)(w:World):
  Calls prog 162 #[.slice p 0 cap, .func (.func 113) #[] #[]] w fun e w'=>e= .returned (.tuple #[])/\w'=w:=AnyF.slices_SortFunc_none laysSFT p cap _ w
open Go.Sort Go.Proofs in
theorem sortF_s {w0:World}{H:List (Nat × Obj)}(d:Sl)(zs:List (Int × Int))(hb:∀ p∈zs,1<=p.1/\p.1<=65535)(hok:SlOk d zs.length 2)(hsz:zs.length<=1000000):
  FSpec prog w0 162 #[slV d zs.length, .func (.func 113) #[] #[]] (slH d (zs.flatMap encPlT) 197++H) (fun v H'=>∃ ks:List (Int × Int),v= .tuple #[]/\ks.Perm zs/\ks.Pairwise (fun a b=>a.1<=b.1)/\H'=slH d (ks.flatMap encPlT) 197++H):=fun w hO=>by
 cases d with
 |nil=>
  have:zs=[]:=List.eq_nil_of_length_eq_zero hok;subst this;exact(sortF_none none 0 .nilFunc w).mono fun e w' ⟨he,hw⟩=>⟨_,_,he,hw ▸ hO,[],rfl,List.Perm.refl _,List.Pairwise.nil,by simp[slH]⟩
 |blk n cap junk=>
  obtain⟨ps,rfl⟩:∃ ps:List Plc,zs=ps.map (·.1):=⟨zs.attach.map fun p=>⟨p.1,hb _ p.2⟩,by rw[List.map_map];exact(List.attach_map_subtype_val zs).symm⟩;simp only[slH,<- pc_flat,List.singleton_append,List.cons_append,List.nil_append,List.length_map,slQ,slC] at hO hsz ⊢;have hcon:=AnyQ.slices_SortFunc laysSFT 2 isAgg197 sizeOf197 encPc (fun _=>rfl) (fun x v hv=>by simp[encPc] at hv;rcases hv with rfl|rfl<;>rfl) cmpP swoP 113 #[] n 0 cap ps.toArray w call113 (cmpLays50 n 0 ps.toArray.size w) (own_holdsK (enc:=encPc) (k:=2) (fun _=>rfl) hO) (own_lt hO) (by simp;omega);rw[List.size_toArray] at hcon
  change Calls prog 162 _ _ _ at hcon
  refine hcon.mono fun e w' ⟨he,d',q,os,hp,hs,hw⟩=> ?_
  obtain⟨h1,h2⟩:=sorted_list hp hs;have hO':=own_rowK (enc:=encPc) (k:=2) (l':=d'.toList) (fun _=>rfl) hO h1.length_eq.symm q os;rw[show d'.toList.toArray=d' by simp] at hO';refine⟨_,_,he,hw ▸ hO',d'.toList.map (·.1),rfl,h1.map _,?_,by rw[pc_flat]⟩;rw[List.pairwise_map];exact h2.imp fun {a b} h=>by rw[ltP,decide_eq_false_iff_not] at h;omega
theorem keysEn_sub {pl:PlanL}{k:List (Int × Int)}(h:KeysEn pl k):∀ p∈k,∃ e∈pl,e.1=p:=by
 obtain⟨seen,_,h2,rfl⟩:=h;intro p hp;unfold keysAt at hp;obtain⟨i,hi,rfl⟩:=List.mem_map.1 hp;exact⟨_,Ao ((h2 i).1 hi),rfl⟩
theorem keysEn_len {pl:PlanL}{k:List (Int × Int)}(h:KeysEn pl k):k.length<=pl.length:=by
 obtain⟨seen,h1,h2,rfl⟩:=h
 simpa[keysAt] using Ka h1 (fun i hi=>(h2 i).1 hi)
theorem sortedF_s {w0:World}{H:List (Nat × Obj)}(n1 r:Nat)(pl:PlanL)(h1:Fnd H n1 (Cl [.map (some r)] 108))(h2:Fnd H r (mapO encK2 encHv pl))(hpl:pl.length<=1000000)(hkb:∀ e∈pl,1<=e.1.1/\e.1.1<=65535):
  FSpec prog w0 114 #[.func (.func 163) #[] #[.pointer (some ⟨n1,0,none⟩)], .func (.func 113) #[] #[]] H (fun v H'=>∃ (d:Sl) (ks:List (Int × Int)),v=slV d ks.length/\SlOk d ks.length 2/\(∃ k,KeysEn pl k/\ks.Perm k)/\ks.Pairwise (fun a b=>a.1<=b.1)/\H'=slH d (ks.flatMap encPlT) 197++H):=by
 refine Az func114 U ntmps114 U (Am (Ad (y_ (Ag An) (Aj (Ah (Am (Ad (y_ (Af (T U)) (e_ (A1 (qe1 U) call161 (collectKeys_s _ r pl h1 h2 hpl)) ?_ U) U))))) U)));rintro _ _ ⟨d,ks,rfl,hok,hen,rfl⟩;refine y_ (Ag (T rfl)) (Aj (Ah (Am (Ad (y_ (Af (T rfl)) (y_ (Af (T rfl)) (e_ (A1 (qe2 rfl rfl) call162 (sortF_s d ks (fun p hp=>by obtain⟨e,he,rfl⟩:=keysEn_sub hen p hp;exact hkb e he) hok (by have:=keysEn_len hen;omega))) ?_ rfl) rfl) rfl))))) rfl;rintro _ _ ⟨ks',rfl,hpm,hpw,rfl⟩;refine Aj (Ah (Am (Ad (y_ (Af (T U)) (y_ (Ag (T U)) (Aj (Ah (Bq (As U (Ll U) ?_)))) U) U))));exact⟨_,⟨d,ks',by rw[hpm.length_eq];rfl,by rw[hpm.length_eq];exact hok,⟨ks,hen,hpm⟩,hpw,rfl⟩,sbt⟩
structure Rul where
 prio:Int
 tag:Int
 hop:Hop
instance:DecidableEq Rul:=fun a b=>decidable_of_iff (a.prio=b.prio/\a.tag=b.tag/\a.hop=b.hop) ⟨fun h=>by cases a;cases b;simp_all,fun h=>by subst h;exact⟨rfl,rfl,rfl⟩⟩
instance:Inhabited Rul:=⟨⟨0,0,default⟩⟩
abbrev z0:Value:= .int .i64 0
abbrev mx:Value:= .int .i64 65535
abbrev encRule (prio tag step:Int) (outs:Value):List Value:=[.int .i64 prio,z0,z0,z0,z0,z0,z0,z0,z0,z0,mx,z0,z0,z0,z0,z0,z0,z0,z0,z0, .int .i64 tag, .int .i64 step,outs]
abbrev encAltN (link port:Int):List Value:=[.int .i64 link,mx,z0,z0,z0,z0,z0,z0,z0,z0,z0, .int .i64 port,z0,z0,z0,z0,z0,z0,z0,z0,z0]
abbrev encAltE (link port tag:Int):List Value:=[.int .i64 link,mx,z0,z0,z0,z0,z0,z0,z0,z0,mx, .int .i64 port,z0,z0,z0,z0,z0,z0,z0,z0, .int .i64 tag]
def encAlt (h:Hop):List Value:=if h.link<0 then encAltE h.link h.port h.tag else encAltN h.link h.port
structure Rm where
 r:Rul
 o:Nat
 a:Nat
instance:Inhabited Rm:=⟨⟨default,0,0⟩⟩
abbrev outV (a:Nat):Value:= .slice (some ⟨a,0,none⟩) 1 1
abbrev encRm (m:Rm):List Value:=encRule m.r.prio m.r.tag m.r.hop.step (outV m.o)
abbrev rmH (m:Rm):List (Nat × Obj):=[(m.o,Cl [outV m.a] 128),(m.a,Cl (encAlt m.r.hop) 127)]
structure Tb where
 d:Sl
 rs:List Rm
instance:Inhabited Tb:=⟨⟨.nil,[]⟩⟩
abbrev tbV (t:Tb):Value:=slV t.d t.rs.length
def tbH (t:Tb):List (Nat × Obj):=slH t.d (t.rs.flatMap encRm) 124++t.rs.flatMap rmH
def tsH (ts:List Tb):List (Nat × Obj):=ts.flatMap tbH
def restT (ts:List Tb) (j:Nat):List Tb:=ts.take j++ts.drop (j+1)
theorem ts_split {ts:List Tb}{j:Nat}(h:j<ts.length):(tsH ts).Perm (tbH (gd ts j)++tsH (restT ts j)):=by
 unfold tsH restT;have e:ts=ts.take j++gd ts j::ts.drop (j+1):=by rw[<- Cy h,List.take_append_drop]
 have e2:ts.flatMap tbH=(ts.take j).flatMap tbH++(tbH (gd ts j)++(ts.drop (j+1)).flatMap tbH):=by
  conv=>lhs;rw[e]
  rw[List.flatMap_append,List.flatMap_cons]
 rw[e2,List.flatMap_append,<- List.append_assoc,<- List.append_assoc];exact(List.perm_append_comm).append_right _
theorem rest_set {ts:List Tb}{j:Nat}(t:Tb)(h:j<ts.length):restT (ts.set j t) j=restT ts j:=by
 unfold restT;rw[List.take_set_of_le (Nat.le_refl _),List.drop_set_of_lt qom]
theorem gd_setT {ts:List Tb}{j:Nat}(t:Tb)(h:j<ts.length):gd (ts.set j t) j=t:=by
 rw[Ay (by simpa using h)];simp
theorem ts_join {ts:List Tb}{j:Nat}(t:Tb)(h:j<ts.length):(tbH t++tsH (restT ts j)).Perm (tsH (ts.set j t)):=by
 have:=ts_split (ts:=ts.set j t) (j:=j) (by simpa using h);rw[rest_set t h,gd_setT t h] at this;exact this.symm
theorem bd56_0_2 (a0:Int)(a1:Int)(w:World):(Instr.build 124 #[(0, .int .i64 a0),(2, .int .i64 a1)]).run prog w= .ok (.agg #[.int .i64 a0, .int .i64 0, .int .i64 0, .int .i64 0, .int .i64 0, .int .i64 0, .int .i64 0, .int .i64 0, .int .i64 0, .int .i64 0, .int .i64 0, .int .i64 0, .int .i64 0, .int .i64 0, .int .i64 0, .int .i64 0, .int .i64 0, .int .i64 0, .int .i64 0, .int .i64 0, .int .i64 0, .int .i64 a1, .slice none 0 0]) w:=by kernel_rfl
theorem bd67_0 {a0:Int}(w:World):(Instr.build 127 #[(0, .int .i64 a0)]).run prog w= .ok (.agg #[.int .i64 a0, .int .i64 0, .int .i64 0, .int .i64 0, .int .i64 0, .int .i64 0, .int .i64 0, .int .i64 0, .int .i64 0, .int .i64 0, .int .i64 0, .int .i64 0, .int .i64 0, .int .i64 0, .int .i64 0, .int .i64 0, .int .i64 0, .int .i64 0, .int .i64 0, .int .i64 0, .int .i64 0]) w:=by kernel_rfl
theorem Jh (a0:Option Addr)(a0n a0c:Nat)(w:World):(Instr.buildSlice 122 1 #[(0, .slice a0 a0n a0c)]).run prog w= .ok (.slice (some ⟨w.heap.size,0,none⟩) 1 1) (w.alloc (Cl [.slice a0 a0n a0c] 128)):=by kernel_rfl
theorem Ji (a0:Int)(a1:Int)(a2:Int)(a3:Int)(a4:Int)(a5:Int)(a6:Int)(a7:Int)(a8:Int)(a9:Int)(a10:Int)(a11:Int)(a12:Int)(a13:Int)(a14:Int)(a15:Int)(a16:Int)(a17:Int)(a18:Int)(a19:Int)(a20:Int)(w:World):(Instr.buildSlice 128 1 #[(0, .agg #[.int .i64 a0, .int .i64 a1, .int .i64 a2, .int .i64 a3, .int .i64 a4, .int .i64 a5, .int .i64 a6, .int .i64 a7, .int .i64 a8, .int .i64 a9, .int .i64 a10, .int .i64 a11, .int .i64 a12, .int .i64 a13, .int .i64 a14, .int .i64 a15, .int .i64 a16, .int .i64 a17, .int .i64 a18, .int .i64 a19, .int .i64 a20])]).run prog w= .ok (.slice (some ⟨w.heap.size,0,none⟩) 1 1) (w.alloc (Cl [.int .i64 a0, .int .i64 a1, .int .i64 a2, .int .i64 a3, .int .i64 a4, .int .i64 a5, .int .i64 a6, .int .i64 a7, .int .i64 a8, .int .i64 a9, .int .i64 a10, .int .i64 a11, .int .i64 a12, .int .i64 a13, .int .i64 a14, .int .i64 a15, .int .i64 a16, .int .i64 a17, .int .i64 a18, .int .i64 a19, .int .i64 a20] 127)):=by kernel_rfl
theorem set9_s {w0:World}{H:List (Nat × Obj)}(a0 a1 a2 a3 a4 a5 a6 a7 a8 a9 a10 a11 a12 a13 a14 a15 a16 a17 a18 a19 v:Int):
  FSpec prog w0 116 #[.agg #[.int .i64 a0, .int .i64 a1, .int .i64 a2, .int .i64 a3, .int .i64 a4, .int .i64 a5, .int .i64 a6, .int .i64 a7, .int .i64 a8, .int .i64 a9, .int .i64 a10, .int .i64 a11, .int .i64 a12, .int .i64 a13, .int .i64 a14, .int .i64 a15, .int .i64 a16, .int .i64 a17, .int .i64 a18, .int .i64 a19], .int .i64 9, .int .i64 v] H (Still (.agg #[.int .i64 a0, .int .i64 a1, .int .i64 a2, .int .i64 a3, .int .i64 a4, .int .i64 a5, .int .i64 a6, .int .i64 a7, .int .i64 a8, .int .i64 65535, .int .i64 a10, .int .i64 a11, .int .i64 a12, .int .i64 a13, .int .i64 a14, .int .i64 a15, .int .i64 a16, .int .i64 a17, .int .i64 a18, .int .i64 v]) H):=by
 refine Az func116 U ntmps116 U (Am (Ad (e_ (Lt U cs_) ?_ U)));rintro _ _ ⟨n3,rfl,rfl⟩;refine e_ (Ap zeroValue125 cs_) ?_ U;rintro _ _ ⟨n6,rfl,rfl⟩;refine Aj (Ah (Am (Ad (y_ (Af (T U)) (y_ (Af (T U)) (y_ (Af (T U)) (y_ (Cj (T U) Ha) (y_ (Cm (T U) (T U) runUnderlying74 sizeOf3 qom) ?_ U) U) U) U) U))))
 first|refine A9 (Ar (T U) An sizeOf3) U Ac ?_|refine A9 (B1 (T U) An U sizeOf3) U Ac ?_|refine A9 (Bu (T U) An U sizeOf3) U Ac ?_
 rintro _ _ ⟨rfl,rfl⟩;refine y_ (Bt (T U) Hd) (y_ (Cm (T U) (T U) runUnderlying74 sizeOf3 qom) ?_ U) U
 first|refine A9 (Ls U U sizeOf3) U Ac ?_|refine A9 (B1 (T U) (T U) U sizeOf3) U Ac ?_|refine A9 (Bu (T U) (T U) U sizeOf3) U Ac ?_
 rintro _ _ ⟨rfl,rfl⟩;refine Aj (Ah (Am (Ad (y_ (Lp U isAgg125 sizeOf125 U (by first|exact A2)) ?_ U))))
 first|refine A9 (Ls U U sizeOf125) U Ac ?_
 rintro _ _ ⟨rfl,rfl⟩;refine Aj (Ah (Bq (As U (.cellA (Aa U) isAgg125 sizeOf125 U (by first|exact A2) .nil) ?_)));exact⟨_,⟨rfl,rfl⟩,sbt⟩
theorem set0_s {w0:World}{H:List (Nat × Obj)}(a0 a1 a2 a3 a4 a5 a6 a7 a8 a9 a10 a11 a12 a13 a14 a15 a16 a17 a18 a19 v:Int):
  FSpec prog w0 116 #[.agg #[.int .i64 a0, .int .i64 a1, .int .i64 a2, .int .i64 a3, .int .i64 a4, .int .i64 a5, .int .i64 a6, .int .i64 a7, .int .i64 a8, .int .i64 a9, .int .i64 a10, .int .i64 a11, .int .i64 a12, .int .i64 a13, .int .i64 a14, .int .i64 a15, .int .i64 a16, .int .i64 a17, .int .i64 a18, .int .i64 a19], .int .i64 0, .int .i64 v] H (Still (.agg #[.int .i64 65535, .int .i64 a1, .int .i64 a2, .int .i64 a3, .int .i64 a4, .int .i64 a5, .int .i64 a6, .int .i64 a7, .int .i64 a8, .int .i64 a9, .int .i64 v, .int .i64 a11, .int .i64 a12, .int .i64 a13, .int .i64 a14, .int .i64 a15, .int .i64 a16, .int .i64 a17, .int .i64 a18, .int .i64 a19]) H):=by
 refine Az func116 U ntmps116 U (Am (Ad (e_ (Lt U cs_) ?_ U)));rintro _ _ ⟨n3,rfl,rfl⟩;refine e_ (Ap zeroValue125 cs_) ?_ U;rintro _ _ ⟨n6,rfl,rfl⟩;refine Aj (Ah (Am (Ad (y_ (Af (T U)) (y_ (Af (T U)) (y_ (Af (T U)) (y_ (Cj (T U) Ha) (y_ (Cm (T U) (T U) runUnderlying74 sizeOf3 qom) ?_ U) U) U) U) U))))
 first|refine A9 (Ar (T U) An sizeOf3) U Ac ?_|refine A9 (B1 (T U) An U sizeOf3) U Ac ?_|refine A9 (Bu (T U) An U sizeOf3) U Ac ?_
 rintro _ _ ⟨rfl,rfl⟩;refine y_ (Bt (T U) Hd) (y_ (Cm (T U) (T U) runUnderlying74 sizeOf3 qom) ?_ U) U
 first|refine A9 (Ls U U sizeOf3) U Ac ?_|refine A9 (B1 (T U) (T U) U sizeOf3) U Ac ?_|refine A9 (Bu (T U) (T U) U sizeOf3) U Ac ?_
 rintro _ _ ⟨rfl,rfl⟩;refine Aj (Ah (Am (Ad (y_ (Lp U isAgg125 sizeOf125 U (by first|exact A2)) ?_ U))))
 first|refine A9 (Ls U U sizeOf125) U Ac ?_
 rintro _ _ ⟨rfl,rfl⟩;refine Aj (Ah (Bq (As U (.cellA (Aa U) isAgg125 sizeOf125 U (by first|exact A2) .nil) ?_)));exact⟨_,⟨rfl,rfl⟩,sbt⟩
theorem rule_s {w0:World}{H:List (Nat × Obj)}(prio t:Int)(h:Hop)(hl:h.link= -1\/0<=h.link):
  FSpec prog w0 119 #[.int .i64 prio, .int .i64 t, .agg (encH h).toArray] H (fun v H'=>∃ o a:Nat,v= .agg (encRule prio t h.step (outV o)).toArray/\H'=(o,Cl [outV a] 128)::(a,Cl (encAlt h) 127)::H):=by
 refine Az func119 U ntmps119 U (Am (Ad (e_ (Lt U cs_) ?_ U)));rintro _ _ ⟨n5,rfl,rfl⟩;refine e_ (Ap zeroValue124 cs_) ?_ U;rintro _ _ ⟨n6,rfl,rfl⟩;refine Aj (Ah (Am (Ad (y_ (Af (T U)) (y_ (Bt (T U) fa194_3) (y_ (Lo U isAgg3 (by first|exact c_o)) ?_ U) U) U))));refine y_ (Bg (.cons (T U) (.cons (T U) .nil)) (bd56_0_2 _ _)) (e_ (Ap zeroValue124 cs_) ?_ U) U;rintro _ _ ⟨n7,rfl,rfl⟩
 first|refine A9 (Ls U U sizeOf124) U Ac ?_
 rintro _ _ ⟨rfl,rfl⟩;refine Aj (Ah (Am (Ad (y_ (Bt (T U) fa124_1) (y_ (Cj (T U) fa121_0) (y_ (Cm (T U) An runUnderlying74 sizeOf3 qom) ?_ U) U) U))))
 first|refine A9 (Ar (T U) An sizeOf3) U Ac ?_|refine A9 (B1 (T U) An U sizeOf3) U Ac ?_|refine A9 (Bu (T U) An U sizeOf3) U Ac ?_
 rintro _ _ ⟨rfl,rfl⟩;refine Aj (Ah (Am (Ad (y_ (Af (T U)) (y_ (Bt (T U) fa124_1) (y_ (Bt (T U) fa121_1) (y_ (Cm (T U) An runUnderlying74 sizeOf3 qom) ?_ U) U) U) U))))
 first|refine A9 (Ls U U sizeOf3) U Ac ?_|refine A9 (B1 (T U) (T U) U sizeOf3) U Ac ?_|refine A9 (Bu (T U) (T U) U sizeOf3) U Ac ?_
 rintro _ _ ⟨rfl,rfl⟩;refine Aj (Ah (Am (Ad (y_ (Cj (T U) He) (y_ (Lo U isAgg3 (by first|exact c_o)) ?_ U) U))));refine y_ (Bg (.cons (T U) .nil) (bd67_0)) (e_ (Ap zeroValue127 cs_) ?_ U) U;rintro _ _ ⟨n8,rfl,rfl⟩
 first|refine A9 (Ls U U sizeOf127) U Ac ?_
 rintro _ _ ⟨rfl,rfl⟩;refine Aj (Ah (Am (Ad (y_ (Bt (T U) Im) (y_ (Cj (T U) Ha) (y_ (Cm (T U) An runUnderlying74 sizeOf3 qom) ?_ U) U) U))))
 first|refine A9 (Ar (T U) An sizeOf3) U Ac ?_|refine A9 (B1 (T U) An U sizeOf3) U Ac ?_|refine A9 (Bu (T U) An U sizeOf3) U Ac ?_
 rintro _ _ ⟨rfl,rfl⟩;refine Aj (Ah (B5 [(5,_),(6,_),(7,_),(8,_)] (kg U) (Am (Ad (y_ (Bt (T U) fa194_1) (y_ (Lo U isAgg3 (by first|exact c_o)) ?_ U) U)))));refine y_ (Bt (T U) Im) (y_ (Bt (T U) Hd) (y_ (Cm (T U) An runUnderlying74 sizeOf3 qom) ?_ U) U) U
 first|refine A9 (Ls U U sizeOf3) U Ac ?_|refine A9 (B1 (T U) (T U) U sizeOf3) U Ac ?_|refine A9 (Bu (T U) (T U) U sizeOf3) U Ac ?_
 rintro _ _ ⟨rfl,rfl⟩;refine Aj (Ah (Am (Am (Ad (y_ (Cj (T U) He) (y_ (Lo U isAgg3 (by first|exact c_o)) ?_ U) U)))));refine y_ (D9 (T U) An) (Aj (Ah ?_)) U
 first|refine Ak (Aa U) (fun c33=> ?_) (fun c33=> ?_)|refine Au (Aa U) (fun c33=> ?_) (fun c33=> ?_)
 ·refine Am (Ad (y_ (Bt (T U) Im) (y_ (Cj (T U) Ha) (y_ (Cm (T U) An runUnderlying74 sizeOf3 qom) ?_ U) U) U))
  first|refine A9 (Ar (T U) An sizeOf3) U Ac ?_|refine A9 (B1 (T U) An U sizeOf3) U Ac ?_|refine A9 (Bu (T U) An U sizeOf3) U Ac ?_
  rintro _ _ ⟨rfl,rfl⟩;refine Aj (Ah (Ad (y_ (Bt (T U) fa194_2) (y_ (Lo U isAgg3 (by first|exact c_o)) ?_ U) U)));refine y_ (Bt (T U) Im) (y_ (Bt (T U) Hd) (y_ (Cm (T U) An runUnderlying74 sizeOf3 qom) ?_ U) U) U
  first|refine A9 (Ls U U sizeOf3) U Ac ?_|refine A9 (B1 (T U) (T U) U sizeOf3) U Ac ?_|refine A9 (Bu (T U) (T U) U sizeOf3) U Ac ?_
  rintro _ _ ⟨rfl,rfl⟩;refine Aj (Ah (Am (Ad (y_ (Lp U isAgg127 sizeOf127 U (by first|exact A2)) ?_ U))));refine e_ (A7 (.cons (T U) .nil) (Ji _ _ _ _ _ _ _ _ _ _ _ _ _ _ _ _ _ _ _ _ _)) ?_ U;rintro _ _ ⟨n43,rfl,rfl⟩;refine e_ (A7 (.cons (T U) .nil) (Jh _ _ _)) ?_ U;rintro _ _ ⟨n44,rfl,rfl⟩;refine y_ (Bt (T U) Gb) ?_ U
  first|refine A9 (Ls U U sizeOf122) U Ac ?_|refine A9 (B1 (T U) (T U) U sizeOf122) U Ac ?_|refine A9 (Bu (T U) (T U) U sizeOf122) U Ac ?_
  rintro _ _ ⟨rfl,rfl⟩;refine Aj (Ah (B5 [(6,_),(7,_)] (kg U) (Am (Ad (y_ (Lp U isAgg124 sizeOf124 U (by first|exact A2)) ?_ U)))))
  first|refine A9 (Ls U U sizeOf124) U Ac ?_
  rintro _ _ ⟨rfl,rfl⟩;refine Aj (Ah (Bq (As U (.cellA (Aa U) isAgg124 sizeOf124 U (by first|exact A2) .nil) ?_)));have ea:encAlt h=encAltE h.link h.port h.tag:=by unfold encAlt;rw[if_pos qom]
  exact⟨_,⟨n44,n43,rfl,by rw[ea]⟩,sbt⟩
 ·refine Bp (Ah (Am (Ad (y_ (Lp U isAgg127 sizeOf127 U (by first|exact A2)) ?_ U))));refine e_ (A7 (.cons (T U) .nil) (Ji _ _ _ _ _ _ _ _ _ _ _ _ _ _ _ _ _ _ _ _ _)) ?_ U;rintro _ _ ⟨n43,rfl,rfl⟩;refine e_ (A7 (.cons (T U) .nil) (Jh _ _ _)) ?_ U;rintro _ _ ⟨n44,rfl,rfl⟩;refine y_ (Bt (T U) Gb) ?_ U
  first|refine A9 (Ls U U sizeOf122) U Ac ?_|refine A9 (B1 (T U) (T U) U sizeOf122) U Ac ?_|refine A9 (Bu (T U) (T U) U sizeOf122) U Ac ?_
  rintro _ _ ⟨rfl,rfl⟩;refine Aj (Ah (Am (Ad (y_ (Lp U isAgg124 sizeOf124 U (by first|exact A2)) ?_ U))))
  first|refine A9 (Ls U U sizeOf124) U Ac ?_
  rintro _ _ ⟨rfl,rfl⟩;refine Aj (Ah (Bq (As U (.cellA (Aa U) isAgg124 sizeOf124 U (by first|exact A2) .nil) ?_)));have ea:encAlt h=encAltN h.link h.port:=by unfold encAlt;rw[if_neg qom]
  exact⟨_,⟨n44,n43,rfl,by rw[ea]⟩,sbt⟩
abbrev encHd (h:Nat->Int):List Value:=[.int .i64 (h 0), .int .i64 (h 1), .int .i64 (h 2), .int .i64 (h 3), .int .i64 (h 4), .int .i64 (h 5), .int .i64 (h 6), .int .i64 (h 7), .int .i64 (h 8), .int .i64 (h 9)]
def hdT (h:Nat->Int) (p t:Int):Nat->Int
 |0=>p
 |9=>t
 |j=>h j
def hdM (a z:Int):Nat->Int
 |0=>a
 |9=>z
 |_=>0
def RgH (h:Nat->Int):Prop:=∀ i,i<10->0<=h i/\h i<=65535
theorem Lk {a z:Int}(ha:0<=a/\a<=65535)(hz:0<=z/\z<=65535):RgH (hdM a z):=fun i _=>by
 unfold hdM;split
 ·exact ha
 ·exact hz
 ·exact⟨by decide,by decide⟩
theorem hd_get {h:Nat->Int}{i:Nat}(hi:i<10):(encHd h)[i]? =some (.int .i64 (h i)):=by
 match i,hi with
 |0,_=>rfl
 |1,_=>rfl
 |2,_=>rfl
 |3,_=>rfl
 |4,_=>rfl
 |5,_=>rfl
 |6,_=>rfl
 |7,_=>rfl
 |8,_=>rfl
 |9,_=>rfl
def updH (h:Nat->Int) (w:Nat) (x:Int):Nat->Int:=fun j=>if j=w then x else h j
theorem hd_set {h:Nat->Int}{i:Nat}(x:Int)(hi:i<10):SetN (encHd h) i (.int .i64 x) (encHd (updH h i x)):=by
 have:(encHd h).set i (.int .i64 x)=encHd (updH h i x):=by
  match i,hi with
  |0,_=>rfl
  |1,_=>rfl
  |2,_=>rfl
  |3,_=>rfl
  |4,_=>rfl
  |5,_=>rfl
  |6,_=>rfl
  |7,_=>rfl
  |8,_=>rfl
  |9,_=>rfl
 rw[<- this];exact Gx (by simpa using hi)
theorem Fi {w0:World}{H:List (Nat × Obj)}{n:Nat}{h:Nat->Int}{t:TypeId}{i:Nat}(hi:i<10)(hf:Fnd H n (Cl (encHd h) t)):Cell w0 H ⟨n,0+(i:Int).toNat*1,none⟩ (.int .i64 (h i)):=by
 rw[show 0+(i:Int).toNat*1=i by omega];exact B6 hf (hd_get qom)
abbrev modL (k p t:Int):List Value:=[mx,z0,z0,z0,z0,z0,z0,z0,z0, .int .i64 k, .int .i64 p,z0,z0,z0,z0,z0,z0,z0,z0, .int .i64 t]
structure Al where
 link:Int
 k:Int
 p:Int
 t:Int
instance:Inhabited Al:=⟨⟨0,0,0,0⟩⟩
abbrev encAl (a:Al):List Value:= .int .i64 a.link::modL a.k a.p a.t
structure Ru where
 prio:Int
 tag:Int
 step:Int
 alts:List Al
 qo:Option Addr
 co:Nat
 qa:Option Addr
 ca:Nat
instance:Inhabited Ru:=⟨⟨0,0,0,[],none,0,none,0⟩⟩
abbrev encRu (r:Ru):List Value:=encRule r.prio r.tag r.step (.slice r.qo 1 r.co)
structure RuM (w0:World) (H:List (Nat × Obj)) (r:Ru):Prop where
 o:Arr w0 H r.qo 1 (fun x:Unit=>[.slice r.qa r.alts.length r.ca]) [()]
 a:Arr w0 H r.qa 21 encAl r.alts
theorem RuM.mono {w0:World}{H H':List (Nat × Obj)}{r:Ru}(h:RuM w0 H r)(hs:H.Sublist H':=by exact sbt):RuM w0 H' r:=⟨h.o.mono hs,h.a.mono hs⟩
structure Tl where
 q:Option Addr
 c:Nat
 rs:List Ru
instance:Inhabited Tl:=⟨⟨none,0,[]⟩⟩
abbrev encTl (t:Tl):List Value:=[.slice t.q t.rs.length t.c]
structure TlM (w0:World) (H:List (Nat × Obj)) (t:Tl):Prop where
 a:Arr w0 H t.q 23 encRu t.rs
 r:∀ r∈t.rs,RuM w0 H r
 n:t.rs.length<=100000
theorem TlM.mono {w0:World}{H H':List (Nat × Obj)}{t:Tl}(h:TlM w0 H t)(hs:H.Sublist H':=by exact sbt):TlM w0 H' t:=⟨h.a.mono hs,fun r hr=>(h.r r hr).mono hs,h.n⟩
structure TlsM (w0:World) (H:List (Nat × Obj)) (q:Option Addr) (ts:List Tl):Prop where
 a:Arr w0 H q 1 encTl ts
 t:∀ t∈ts,TlM w0 H t
theorem TlsM.mono {w0:World}{H H':List (Nat × Obj)}{q:Option Addr}{ts:List Tl}(h:TlsM w0 H q ts)(hs:H.Sublist H':=by exact sbt):TlsM w0 H' q ts:=⟨h.a.mono hs,fun t ht=>(h.t t ht).mono hs⟩
structure AlOk (L:Nat) (a:Al):Prop where
 l:a.link= -1\/(0<=a.link/\a.link<L)
 k:a.k=0\/a.k=65535
 p:0<=a.p/\a.p<=65535
 t:0<=a.t/\a.t<=65535
 z:a.k=0->a.t=0
structure RuOk (L:Nat) (r:Ru):Prop where
 a:∀ a∈r.alts,AlOk L a
 n:r.alts.length<=100000
 t:0<=r.tag/\r.tag<=65535
def appH (h:Nat->Int) (a:Al):Nat->Int:=hdT h a.p (if a.k=0 then h 9 else a.t)
def lupF (rs:List Ru) (h:Nat->Int):Option Nat:=(List.range rs.length).find? fun k=>decide ((gd rs k).tag=h 9)
def altF (up:Int->Bool) (ls:List Al):Option Nat:=(List.range ls.length).find? fun k=>decide ((gd ls k).link<0)||up (gd ls k).link
def sndF (up:Int->Bool) (r:Ru) (h:Nat->Int):Option (Nat->Int):=(altF up r.alts).map fun k=>appH h (gd r.alts k)
def nxtF (up:Int->Bool) (rs:List Ru) (h:Nat->Int):Option ((Nat->Int) × Int):=
 match lupF rs h with
 |none=>none
 |some k=>(sndF up (gd rs k) h).map fun y=>(y,(gd rs k).step)
abbrev H5:=Int × Int × Int × Int × Int
instance:DecidableEq H5:=inferInstance
abbrev Vis:=Int × H5 × H5
instance:DecidableEq Vis:=inferInstance
def visT (x:Int) (h:Nat->Int):Vis:=(x,(h 0,h 1,h 2,h 3,h 4),(h 5,h 6,h 7,h 8,h 9))
structure Jr where
 links:List Int
 node:Int
 step:Int
 head:Nat->Int
 arr:Bool
 loop:Bool
def folF (ls:List Lnk) (ts:List Tl) (up:Int->Bool):Nat->List Vis->List Int->Int->(Nat->Int)->Option Jr
 |0,_,_,_,_=>none
 |f+1,seen,links,x,h=>
  if visT x h∈seen then some ⟨links,x,0,fun _=>0,false,true⟩ else
  match nxtF up (gd ts x.toNat).rs h with
  |none=>some ⟨links,x,0,fun _=>0,false,false⟩
  |some (y,s)=>if (ls.length:Int)<=y 0 then some ⟨links,x,s,y,true,false⟩ else folF ls ts up f (seen++[visT x h]) (links++[y 0]) (gd ls (y 0).toNat).dst y
theorem find_rng {p:Nat->Bool}{n k:Nat}(hk:k<n)(h:p k=true)(hl:∀ j,j<k->p j=false):(List.range n).find? p=some k:=by
 rw[List.find?_range_eq_some];exact⟨h,List.mem_range.2 hk,fun j hj=>by rw[hl j hj];rfl⟩
theorem find_rngN {p:Nat->Bool}{n:Nat}(hl:∀ j,j<n->p j=false):(List.range n).find? p=none:=by
 rw[List.find?_eq_none];intro k hk;rw[hl k (List.mem_range.1 hk)];exact Bool.false_ne_true
def andN (a b:Nat):Nat:=a ^^^ (a &&& b)
theorem andN_bit (a b i:Nat):(andN a b).testBit i=(a.testBit i&& !b.testBit i):=by
 unfold andN;rw[Nat.testBit_xor,Nat.testBit_and];cases a.testBit i<;>cases b.testBit i<;>rfl
theorem andN_lt {a b k:Nat}(h:a<2 ^ k):andN a b<2 ^ k:=Nat.xor_lt_two_pow h (Nat.lt_of_le_of_lt Nat.and_le_left h)
theorem two63:(2:Nat) ^ 63=9223372036854775808:=by decide
section
variable {P:Program} {w0:World} {L:Fm} {H:List (Nat × Obj)} {ty xt yt:TypeId} {x y:Operand}
theorem yl_andNotI {m n:Nat}(hm:m<9223372036854775808)(hn:n<9223372036854775808)(hx:Ev L x (.int .i64 (m:Int)))(hy:Ev L y (.int .i64 (n:Int))):Yl P w0 (.binOp .andNot xt x y yt) ty L H (.int .i64 ((andN m n:Nat):Int)):=B3 U fun b w=>by
 have t64:=two64;have e:(BitVec.ofInt 64 (m:Int) &&& ~~~ BitVec.ofInt 64 (n:Int)).toNat=andN m n:=by
  refine Nat.eq_of_testBit_eq fun i=> ?_
  rw[C7,C7,andN_bit];rw[BitVec.toNat_and,Nat.testBit_and,BitVec.toNat_ofNat,Nat.mod_eq_of_lt qom]
  by_cases hi:i<64
  ·have h9:(BitVec.ofNat 64 n).getLsbD i=n.testBit i:=by rw[<- BitVec.testBit_toNat,BitVec.toNat_ofNat,Nat.mod_eq_of_lt qom]
   rw[BitVec.testBit_toNat,BitVec.getLsbD_not,h9];simp[hi]
  ·have:m.testBit i=false:=Nat.testBit_lt_two_pow (Nat.lt_of_lt_of_le (by omega:m<2 ^ 64) (Nat.pow_le_pow_right qde qom));rw[this];simp
 have hl:andN m n<2 ^ 63:=andN_lt (by rw[two63];exact hm);rw[two63] at hl;have e2:IntKind.i64.wrap ((andN m n:Nat):Int)=((andN m n:Nat):Int):=IntWalk.i64_in _ qom;have e3:(Op.intBits .andNot .i64 (m:Int) (n:Int)).run P w= .ok (.int .i64 ((andN m n:Nat):Int)) w:=by
  show Result.ok (Value.int .i64 (IntKind.i64.wrap ((BitVec.ofInt 64 (m:Int) &&& ~~~ BitVec.ofInt 64 (n:Int)).toNat:Int))) w=_;rw[e,e2]
 simp[exO,execOp,hx b,hy b,binOp,eqGuard,Sem.run_bind,Result.andThen,e3]
theorem yl_orI {m n:Nat}(hm:m<9223372036854775808)(hn:n<9223372036854775808)(hx:Ev L x (.int .i64 (m:Int)))(hy:Ev L y (.int .i64 (n:Int))):Yl P w0 (.binOp .or xt x y yt) ty L H (.int .i64 ((m|||n:Nat):Int)):=B3 U fun b w=>by
 have t64:=two64;have e:(BitVec.ofInt 64 (m:Int)|||BitVec.ofInt 64 (n:Int)).toNat=m|||n:=by
  rw[C7,C7,BitVec.toNat_or,BitVec.toNat_ofNat,BitVec.toNat_ofNat,Nat.mod_eq_of_lt qom,Nat.mod_eq_of_lt qom]
 have hl:m|||n<2 ^ 63:=Nat.or_lt_two_pow (by rw[two63];exact hm) (by rw[two63];exact hn)
 rw[two63] at hl;have e2:IntKind.i64.wrap ((m|||n:Nat):Int)=((m|||n:Nat):Int):=IntWalk.i64_in _ qom;have e3:(Op.intBits .or .i64 (m:Int) (n:Int)).run P w= .ok (.int .i64 ((m|||n:Nat):Int)) w:=by
  show Result.ok (Value.int .i64 (IntKind.i64.wrap ((BitVec.ofInt 64 (m:Int)|||BitVec.ofInt 64 (n:Int)).toNat:Int))) w=_;rw[e,e2]
 simp[exO,execOp,hx b,hy b,binOp,eqGuard,Sem.run_bind,Result.andThen,e3]
theorem yl_andI {m n:Nat}(hm:m<9223372036854775808)(hn:n<9223372036854775808)(hx:Ev L x (.int .i64 (m:Int)))(hy:Ev L y (.int .i64 (n:Int))):Yl P w0 (.binOp .and xt x y yt) ty L H (.int .i64 ((m &&& n:Nat):Int)):=B3 U fun b w=>by
 have t64:=two64;have e:(BitVec.ofInt 64 (m:Int) &&& BitVec.ofInt 64 (n:Int)).toNat=m &&& n:=by
  rw[C7,C7,BitVec.toNat_and,BitVec.toNat_ofNat,BitVec.toNat_ofNat,Nat.mod_eq_of_lt qom,Nat.mod_eq_of_lt qom]
 have hl:m &&& n<=m:=Nat.and_le_left;have e2:IntKind.i64.wrap ((m &&& n:Nat):Int)=((m &&& n:Nat):Int):=IntWalk.i64_in _ qom;have e3:(Op.intBits .and .i64 (m:Int) (n:Int)).run P w= .ok (.int .i64 ((m &&& n:Nat):Int)) w:=by
  show Result.ok (Value.int .i64 (IntKind.i64.wrap ((BitVec.ofInt 64 (m:Int) &&& BitVec.ofInt 64 (n:Int)).toNat:Int))) w=_;rw[e,e2]
 simp[exO,execOp,hx b,hy b,binOp,eqGuard,Sem.run_bind,Result.andThen,e3]
theorem yl_xorI {m n:Nat}(hm:m<9223372036854775808)(hn:n<9223372036854775808)(hx:Ev L x (.int .i64 (m:Int)))(hy:Ev L y (.int .i64 (n:Int))):Yl P w0 (.binOp .xor xt x y yt) ty L H (.int .i64 ((m ^^^ n:Nat):Int)):=B3 U fun b w=>by
 have t64:=two64;have e:(BitVec.ofInt 64 (m:Int) ^^^ BitVec.ofInt 64 (n:Int)).toNat=m ^^^ n:=by
  rw[C7,C7,BitVec.toNat_xor,BitVec.toNat_ofNat,BitVec.toNat_ofNat,Nat.mod_eq_of_lt qom,Nat.mod_eq_of_lt qom]
 have hl:m ^^^ n<2 ^ 63:=Nat.xor_lt_two_pow (by rw[two63];exact hm) (by rw[two63];exact hn);rw[two63] at hl;have e2:IntKind.i64.wrap ((m ^^^ n:Nat):Int)=((m ^^^ n:Nat):Int):=IntWalk.i64_in _ qom;have e3:(Op.intBits .xor .i64 (m:Int) (n:Int)).run P w= .ok (.int .i64 ((m ^^^ n:Nat):Int)) w:=by
  show Result.ok (Value.int .i64 (IntKind.i64.wrap ((BitVec.ofInt 64 (m:Int) ^^^ BitVec.ofInt 64 (n:Int)).toNat:Int))) w=_;rw[e,e2]
 simp[exO,execOp,hx b,hy b,binOp,eqGuard,Sem.run_bind,Result.andThen,e3]
variable {a c:Int}
theorem yl_xorJ (ha:0<=a/\a<=65535)(hc:0<=c/\c<=65535)(hx:Ev L x (.int .i64 a))(hy:Ev L y (.int .i64 c)):Yl P w0 (.binOp .xor xt x y yt) ty L H (.int .i64 ((a.toNat ^^^ c.toNat:Nat):Int)):=
 yl_xorI qom qom (by rw[Int.toNat_of_nonneg ha.1];exact hx) (by rw[Int.toNat_of_nonneg hc.1];exact hy)
theorem yl_andJ {m:Nat}(ha:m<65536)(hc:0<=c/\c<=65535)(hx:Ev L x (.int .i64 (m:Int)))(hy:Ev L y (.int .i64 c)):Yl P w0 (.binOp .and xt x y yt) ty L H (.int .i64 ((m &&& c.toNat:Nat):Int)):=
 yl_andI qom qom hx (by rw[Int.toNat_of_nonneg hc.1];exact hy)
theorem yl_andNotJ (ha:0<=a/\a<=65535)(hc:0<=c/\c<=65535)(hx:Ev L x (.int .i64 a))(hy:Ev L y (.int .i64 c)):Yl P w0 (.binOp .andNot xt x y yt) ty L H (.int .i64 ((andN a.toNat c.toNat:Nat):Int)):=
 yl_andNotI qom qom (by rw[Int.toNat_of_nonneg ha.1];exact hx) (by rw[Int.toNat_of_nonneg hc.1];exact hy)
theorem yl_orJ {m:Nat}(ha:m<65536)(hc:0<=c/\c<=65535)(hx:Ev L x (.int .i64 (m:Int)))(hy:Ev L y (.int .i64 c)):Yl P w0 (.binOp .or xt x y yt) ty L H (.int .i64 ((m|||c.toNat:Nat):Int)):=
 yl_orI qom qom hx (by rw[Int.toNat_of_nonneg hc.1];exact hy)
end
theorem G2 {m:Nat}(h:m<65536):m &&& 65535=m:=by
 have:=Nat.and_two_pow_sub_one_eq_mod m 16
 simpa[Nat.mod_eq_of_lt h] using this
theorem andN_full {m:Nat}(h:m<65536):andN m 65535=0:=by unfold andN;rw[G2 h,Nat.xor_self]
theorem andN_none (m:Nat):andN m 0=m:=by unfold andN;rw[Nat.and_zero,Nat.xor_zero]
theorem xor_none {a b:Nat}(h:a ^^^ b=0):a=b:=by
 refine Nat.eq_of_testBit_eq fun i=> ?_
 have h1:(a ^^^ b).testBit i=false:=by rw[h];exact Nat.zero_testBit i
 rw[Nat.testBit_xor] at h1;cases h2:a.testBit i<;>cases h3:b.testBit i<;>simp_all
theorem xor_lt16 {a b:Nat}(ha:a<65536)(hb:b<65536):a ^^^ b<65536:=Nat.xor_lt_two_pow (n:=16) ha hb
theorem Ju {a z:Int}(ha:0<=a/\a<=65535)(hz:0<=z/\z<=65535)(i:Nat):0<=hdM a z i/\hdM a z i<=65535:=by
 unfold hdM;split
 ·exact ha
 ·exact hz
 ·exact⟨by decide,by decide⟩
theorem match_w {h:Nat->Int}{t:Int}(hr:RgH h)(ht:0<=t/\t<=65535){i:Nat}(hi:i<10):((((hdM 0 t i).toNat ^^^ (h i).toNat) &&& (hdM 0 65535 i).toNat:Nat):Int)=0↔(i=9->h 9=t):=by
 have h9:=hr 9 qom
 by_cases e:i=9
 ·subst e;show (((t.toNat ^^^ (h 9).toNat) &&& 65535:Nat):Int)=0↔_;rw[G2 (xor_lt16 qom qom)]
  constructor
  ·intro h1 _;have:=xor_none (show t.toNat ^^^ (h 9).toNat=0 by omega);omega
  ·intro h1;rw[h1 U,Nat.xor_self];rfl
 ·have:hdM 0 65535 i=0:=by
   unfold hdM;split
   ·rfl
   ·exact absurd U e
   ·rfl
  rw[this];simp[e]
def apK (h:Nat->Int) (a:Al) (i:Nat):Nat->Int:=fun j=>if j<i then appH h a j else h j
theorem apK_zero (h:Nat->Int)(a:Al):apK h a 0=h:=by funext j;unfold apK;rw[if_neg qom]
theorem apK_at (h:Nat->Int)(a:Al)(i:Nat):apK h a i i=h i:=by unfold apK;rw[if_neg qom]
theorem encHd_congr {h g:Nat->Int}(e:∀ i,i<10->h i=g i):encHd h=encHd g:=by
 unfold encHd;rw[e 0 qom,e 1 qom,e 2 qom,e 3 qom,e 4 qom,e 5 qom,e 6 qom,e 7 qom,e 8 qom,e 9 qom]
theorem apK_end (h:Nat->Int)(a:Al):encHd (apK h a 10)=encHd (appH h a):=encHd_congr fun i hi=>by unfold apK;rw[if_pos hi]
theorem apK_succ (h:Nat->Int)(a:Al)(i:Nat):updH (apK h a i) i (appH h a i)=apK h a (i+1):=by
 funext j
 unfold updH apK
 by_cases e:j=i
 ·subst e;rw[if_pos rfl,if_pos qom]
 ·rw[if_neg e]
  by_cases h2:j<i
  ·rw[if_pos h2,if_pos qom]
  ·rw[if_neg h2,if_neg qom]
theorem app_w {h:Nat->Int}{a:Al}{L:Nat}(hr:RgH h)(ha:AlOk L a){i:Nat}(hi:i<10):((andN (h i).toNat (hdM 65535 a.k i).toNat|||(hdM a.p a.t i).toNat:Nat):Int)=appH h a i:=by
 have h0:=hr i hi;have hp:=ha.p;have ht:=ha.t;unfold hdM appH hdT
 split
 ·show ((andN (h 0).toNat 65535|||a.p.toNat:Nat):Int)=a.p;rw[andN_full qom,Nat.zero_or];omega
 ·show ((andN (h 9).toNat a.k.toNat|||a.t.toNat:Nat):Int)=if a.k=0 then h 9 else a.t
  rcases ha.k with e|e
  ·rw[e,ha.z e,if_pos U,show (0:Int).toNat=0 from rfl,andN_none,Nat.or_zero];omega
  ·rw[e,if_neg qde,show (65535:Int).toNat=65535 from rfl,andN_full qom,Nat.zero_or];omega
 ·rename_i h1 h2;show ((andN (h i).toNat 0|||0:Nat):Int)=h i;rw[andN_none,Nat.or_zero];omega
theorem app_rgJ {h:Nat->Int}{a:Al}{L:Nat}(hr:RgH h)(ha:AlOk L a):RgH (appH h a):=fun i hi=>by
 unfold appH hdT
 split
 ·exact ha.p
 ·split
  ·exact hr 9 qom
  ·exact ha.t
 ·exact hr i hi
theorem hd_cellP {w0:World}{H:List (Nat × Obj)}{n:Nat}{h g:Nat->Int}{t:TypeId}{i:Nat}(hi:i<10)(hf:Fnd H n (Cl (encHd h++encHd g) t)):Cell w0 H ⟨n,0+10+(i:Int).toNat*1,none⟩ (.int .i64 (g i)):=by
 rw[show 0+10+(i:Int).toNat*1=10+i by omega];refine B6 hf ?_;rw[List.getElem?_append_right (by show 10<=10+i;omega),show 10+i - (encHd h).length=i by show 10+i - 10=i;omega];exact hd_get hi
theorem hd_cellM {w0:World}{H:List (Nat × Obj)}{n:Nat}{h g:Nat->Int}{t:TypeId}{i:Nat}(hi:i<10)(hf:Fnd H n (Cl (encHd h++encHd g) t)):Cell w0 H ⟨n,0+(i:Int).toNat*1,none⟩ (.int .i64 (h i)):=by
 rw[show 0+(i:Int).toNat*1=i by omega];refine B6 hf ?_;rw[List.getElem?_append_left (by show i<10;omega)];exact hd_get hi
theorem eff_sI {P:Program}{w0:World}{L:Fm}{ty t T:TypeId}{x y:Operand}{H H':List (Nat × Obj)}{b i:Nat}{h:Nat->Int}{v:Int}(hx:Ev L x (.pointer (some ⟨b,0+(i:Int).toNat*1,none⟩)))(hy:Ev L y (.int .i64 v))(hz:∀ w,(sizeOf t).run P w= .ok 1 w)(hi:i<10)
  (hu:Upd H b (Cl (encHd h) T) (Cl (encHd (updH h i v)) T) H'):Eff P w0 (.store t x y) ty L H (Still undef H'):=by
 rw[show 0+(i:Int).toNat*1=i by omega] at hx;exact Dz hx hy U hz (hd_set v hi) hu
theorem match_g {w0:World}{H:List (Nat × Obj)}(h:Nat->Int)(t:Int)(hr:RgH h)(ht:0<=t/\t<=65535):
  FSpec prog w0 143 #[.agg (encHd (hdM 0 65535)++encHd (hdM 0 t)).toArray, .agg (encHd h).toArray] H (Still (.bool (decide (t=h 9))) H):=by
 refine Az func143 U ntmps143 U (rD tb 2 U (e_ (Lt U cs_) ?_ U));rintro _ _ ⟨n2,rfl,rfl⟩;refine e_ (Lt U cs_) ?_ U;rintro _ _ ⟨n3,rfl,rfl⟩;refine rO tb 10 U ?_;refine Cb (X:=Nat) (V:=fun i=>[(6, .int .i64 (i:Nat))]) (C:=[(2,_),(3,_)]) (φ:=fun i=>i<=10/\(9<i->h 9=t)) (μ:=fun i=>10 - i) (x0:=0) ?_ (kg U) ⟨atd,trivial⟩ ?_
 ·exact⟨Nat.zero_le _,fun h=>by omega⟩
 rintro i ⟨hi,hm⟩;refine rD tb 6 U ?_
 first|refine Ak (Aa U) (fun c7=> ?_) (fun c7=> ?_)|refine Au (Aa U) (fun c7=> ?_) (fun c7=> ?_)
 ·have hi2:i<10:=by have h9:((i:Nat):Int)<10:=c7;omega
  refine rC tb 11 U (B9 14 [(0,true),(1,true),(2,true),(3,true),(4,true),(5,true),(6,true),(7,true),(8,true),(9,true),(10,true),(11,true),(12,true),(13,true)] _ mixd qkr sb0 ?_ By);refine rP tb 2 U (o_y U (Cm (T U) (T U) runUnderlying74 sizeOf3 qom) ?_ U Ac);refine o_y U (Lo U isAgg3 (by first|exact c_o|exact hd_cellP hi2 fdd)) ?_ U Ac;refine rP tb 1 U (o_y U (Cm (T U) (T U) runUnderlying74 sizeOf3 qom) ?_ U Ac);refine o_y U (Lo U isAgg3 (by first|exact c_o|exact Fi hi2 fdd)) ?_ U Ac;refine o_y U (yl_xorJ (Ju qde ht i) (hr i hi2) (T U) (T U)) ?_ U Ac;refine rP tb 2 U (o_y U (Cm (T U) (T U) runUnderlying74 sizeOf3 qom) ?_ U Ac);refine o_y U (Lo U isAgg3 (by first|exact c_o|exact hd_cellM hi2 fdd)) ?_ U Ac;refine o_y U (yl_andJ (xor_lt16 (by have:=Ju (a:=0) qde ht i;omega) (by have:=hr i hi2;omega)) (Ju qde qde i) (T U) (T U)) ?_ U Ac;refine rP tb 1 U (Bj U (rO tb 2 U ?_))
  first|refine Ak (Aa U) (fun c22=> ?_) (fun c22=> ?_)|refine Au (Aa U) (fun c22=> ?_) (fun c22=> ?_)
  ·refine rC tb 8 U (Bc (rX tb 2 U (As U (Ll U) ?_)));rw[decide_eq_false (fun e=>c22 ((match_w hr ht hi2).2 fun _=>e.symm))];exact⟨_,⟨rfl,rfl⟩,sbt⟩
  ·refine rC tb 4 U (y_ (Bd (T U) An qom) ?_ U);refine rO tb 2 U ?_;refine A8 (i+1) ?_ ?_ ⟨atd,trivial⟩ (kg U) ?_
   ·refine⟨hi2,fun h9=> ?_⟩;exact(match_w hr ht hi2).1 (Decidable.byContradiction c22) qom
   ·first|omega|(simp only[];omega)
   ·exact sbt
 ·have hi2:i=10:=by have h9: ¬ ((i:Nat):Int)<10:=c7;omega
  refine rC tb 2 U (Aq (rX tb 8 U (As U (Ll U) ?_)));rw[decide_eq_true (hm qom).symm];exact⟨_,⟨rfl,rfl⟩,sbt⟩
theorem apply_g {w0:World}{H:List (Nat × Obj)}(h:Nat->Int)(a:Al)(L:Nat)(hr:RgH h)(ha:AlOk L a):
  FSpec prog w0 146 #[.agg (modL a.k a.p a.t).toArray, .agg (encHd h).toArray] H (Still (.agg (encHd (appH h a)).toArray) H):=by
 refine Az func146 U ntmps146 U ?_;have hkr:0<=a.k/\a.k<=65535:=by have:=ha.k;omega
 refine rD tb 2 U (e_ (Lt U cs_) ?_ U);rintro _ _ ⟨n2,rfl,rfl⟩;refine e_ (Lt U cs_) ?_ U;rintro _ _ ⟨n3,rfl,rfl⟩;refine e_ (Ap zeroValue74 cs_) ?_ U;rintro _ _ ⟨n4,rfl,rfl⟩;refine rO tb 9 U ?_;refine Bz (X:=Nat) (V:=fun i=>[(6, .int .i64 (i:Nat))]) (C:=[(2,_),(3,_),(4,_)]) (G:=fun i=>(n4,Cl (encHd fun _=>0) 74)::(n3,Cl (encHd (apK h a i)) 74)::(n2,Cl (modL a.k a.p a.t) 125)::H) (φ:=fun i=>i<=10) (μ:=fun i=>10 - i) (x0:=0) ?_ (kg U) ⟨atd,trivial⟩ (by rw[apK_zero];exact sbt) ?_
 ·exact Nat.zero_le _
 rintro i hi;refine rD tb 6 U ?_
 first|refine Ak (Aa U) (fun c7=> ?_) (fun c7=> ?_)|refine Au (Aa U) (fun c7=> ?_) (fun c7=> ?_)
 ·have hi2:i<10:=by have h9:((i:Nat):Int)<10:=c7;omega
  refine rC tb 10 U (Jm 15 15 ((n4,Cl (encHd fun _=>0) 74)::(n2,Cl (modL a.k a.p a.t) 125)::H) ((n4,Cl (encHd fun _=>0) 74)::(n3,Cl (encHd (apK h a i)) 74)::(n2,Cl (modL a.k a.p a.t) 125)::H) mixd qkr (by exact sbt) (by exact sbt) ?_ By);refine Ch [0] qkr U (i:=0) U qkr (Af (T U)) ?_ U Ac;refine Ch [1] qkr U (i:=1) U qkr (Af (T U)) ?_ U Ac;refine Ch [2] qkr U (i:=2) U qkr (Cm (T U) (T U) runUnderlying74 sizeOf3 qom) ?_ U Ac;refine Ch [3] qkr U (i:=3) U qkr (Lo U isAgg3 (by first|exact c_o|exact(show Cell w0 _ _ (.int .i64 (h i)) from by rw[<- apK_at h a i];exact Fi (h:=apK h a i) hi2 fdd))) ?_ U Ac;refine Ch [4] qkr U (i:=4) U qkr (Af (T U)) ?_ U Ac;refine Ch [5] qkr U (i:=5) U qkr (Cj (T U) Ha) ?_ U Ac;refine Ch [6] qkr U (i:=6) U qkr (Cm (T U) (T U) runUnderlying74 sizeOf3 qom) ?_ U Ac;refine Ch [7] qkr U (i:=7) U qkr (Lo U isAgg3 (by first|exact c_o|exact hd_cellM (h:=hdM 65535 a.k) (g:=hdM a.p a.t) hi2 fdd)) ?_ U Ac;refine Ch [8] qkr U (i:=8) U qkr (yl_andNotJ (hr i hi2) (Ju qde hkr i) (T U) (T U)) ?_ U Ac;refine Ch [9] qkr U (i:=9) U qkr (Af (T U)) ?_ U Ac;refine Ch [10] qkr U (i:=10) U qkr (Bt (T U) Hd) ?_ U Ac;refine Ch [11] qkr U (i:=11) U qkr (Cm (T U) (T U) runUnderlying74 sizeOf3 qom) ?_ U Ac;refine Ch [12] qkr U (i:=12) U qkr (Lo U isAgg3 (by first|exact c_o|exact hd_cellP (h:=hdM 65535 a.k) (g:=hdM a.p a.t) hi2 fdd)) ?_ U Ac;refine Ch [13] qkr U (i:=13) U qkr (yl_orJ (andN_lt (k:=16) (by have:=hr i hi2;show _<65536;omega)) (Ju ha.p ha.t i) (T U) (T U)) ?_ U Ac;refine Ch [14] qkr U (i:=14) U qkr (Cm (T U) (T U) runUnderlying74 sizeOf3 qom) ?_ U Ac;refine H8 qkr U ?_;refine e_ (eff_sI (h:=apK h a i) (v:=appH h a i) (T U) (by rw[<- app_w hr ha hi2];exact(T U)) sizeOf3 hi2 (by(repeat (first|exact Upd.h|apply Upd.t|apply D7));done)) ?_ U;rintro _ _ ⟨rfl,rfl⟩;rw[apK_succ];refine rO tb 4 U (y_ (Bd (T U) An qom) ?_ U);refine rO tb 2 U ?_;refine A8 (i+1) ?_ ?_ ⟨atd,trivial⟩ (kg U) ?_
  ·exact hi2
  ·first|omega|(simp only[];omega)
  ·exact sbt
 ·have hi2:i=10:=by have h9: ¬ ((i:Nat):Int)<10:=c7;omega
  refine rC tb 2 U (Aq (rX tb 4 U (y_ (Lp U isAgg74 sizeOf74 U (by first|exact A2)) ?_ U)))
  first|refine A9 (Ls U U sizeOf74) U Ac ?_
  rintro _ _ ⟨rfl,rfl⟩;refine rO tb 3 U (As U (.cellA (Aa U) isAgg74 sizeOf74 U (by first|exact A2) .nil) ?_);subst hi2;rw[show (encHd (apK h a 10))=encHd (appH h a) from apK_end h a];exact⟨_,⟨rfl,rfl⟩,sbt⟩
def idI (o:Option Nat):Int:=match o with|some k=>(k:Int)|none=> -1
theorem lup_some {rs:List Ru}{h:Nat->Int}{i:Nat}(hi:i<rs.length)(h1:(gd rs i).tag=h 9)(h2:∀ j,j<i->¬ (gd rs j).tag=h 9):lupF rs h=some i:=find_rng hi (decide_eq_true h1) fun j hj=>decide_eq_false (h2 j hj)
theorem lup_none {rs:List Ru}{h:Nat->Int}(h2:∀ j,j<rs.length->¬ (gd rs j).tag=h 9):lupF rs h=none:=find_rngN fun j hj=>decide_eq_false (h2 j hj)
theorem lookc_g {w0:World}{H:List (Nat × Obj)}(r:Ru)(ht:0<=r.tag/\r.tag<=65535)(h:Nat->Int)(hr:RgH h)(b:Nat)(hf:Fnd H b (Cl (encHd h) 74)):
  FSpec prog w0 142 #[.agg (encRu r).toArray,Pt b 0] H (Still (.bool (decide (r.tag=h 9))) H):=by
 refine Az func142 U ntmps142 U (rD tb 2 U (e_ (Lt U cs_) ?_ U));rintro _ _ ⟨n2,rfl,rfl⟩;refine rO tb 6 U ?_;refine y_ (Lp U isAgg121 sizeOf121 U (by first|exact(show Cells w0 _ _ _ (encHd (hdM 0 65535)++encHd (hdM 0 r.tag)) from Ce (o:=1) (k:=20) (l:=encRu r) fdd)|exact A2)) ?_ U;refine y_ (Lp U isAgg74 sizeOf74 U (by first|exact Dn (Fnd.mono hf (by exact sbt))|exact A2)) ?_ U;refine y_ (Bb (qe2 rfl rfl) call143 (fun H' hs=>match_g h r.tag hr ht)) (rO tb 4 rfl (As rfl (Ll rfl) ?_)) rfl;exact⟨_,⟨rfl,rfl⟩,sbt⟩
theorem lookx_g {w0:World}{H:List (Nat × Obj)}(q:Option Addr)(c:Nat)(rs:List Ru)(hA:Arr w0 H q 23 encRu rs)(hlen:rs.length<=9223372036854775807)(ht:∀ r∈rs,0<=r.tag/\r.tag<=65535)(h:Nat->Int)(hr:RgH h)(b:Nat)(hf:Fnd H b (Cl (encHd h) 74)):
  FSpec prog w0 141 #[.slice q rs.length c, .func (.func 142) #[] #[Pt b 0]] H (Still (.int .i64 (idI (lupF rs h))) H):=by
 refine Az func141 U ntmps141 U (rD tb 14 U ?_);refine Cb (X:=Nat) (V:=fun i=>[(8, .int .i64 (i:Nat))]) (C:=[(0,_),(1,_),(7,_)]) (φ:=fun i=>i<=rs.length/\∀ j,j<i->¬ (gd rs j).tag=h 9) (μ:=fun i=>rs.length - i) (x0:=0) ?_ (kg U) ⟨atd,trivial⟩ ?_
 ·exact⟨Nat.zero_le _,fun j hj=>absurd hj (Nat.not_lt_zero j)⟩
 rintro i ⟨hi,hall⟩;refine rD tb 6 U ?_
 first|refine Ak (Aa U) (fun c9=> ?_) (fun c9=> ?_)|refine Au (Aa U) (fun c9=> ?_) (fun c9=> ?_)
 ·have hi2:i<rs.length:=by have h9:((i:Nat):Int)<(rs.length:Nat):=c9;omega
  refine rC tb 15 U (y_ (Lq U U runUnderlying54 sizeOf124 qom (by first|exact rfl|exact hA.b (i:=i) hi2)) ?_ U);refine y_ (Lp U isAgg124 sizeOf124 U (by first|exact(hA.mono (by exact sbt)).cs (i:=i) hi2|exact A2)) ?_ U;refine y_ (C1 (T U) (qe1 U) call142 (fun H' hs=>lookc_g (gd rs i) (ht _ (Ao hi2)) h hr b (Fnd.mono hf (stn hs)))) (rO tb 2 U ?_) U
  first|refine Ak (Aa U) (fun c16=> ?_) (fun c16=> ?_)|refine Au (Aa U) (fun c16=> ?_) (fun c16=> ?_)
  ·refine rC tb 9 U (Bc (rX tb 2 U (As U (Ll U) ?_)));rw[lup_some hi2 c16 hall];exact⟨_,⟨rfl,rfl⟩,sbt⟩
  ·refine rC tb 4 U (y_ (Bd (T U) An qom) ?_ U);refine rO tb 2 U ?_;refine A8 (i+1) ?_ ?_ ⟨atd,trivial⟩ (kg U) ?_
   ·refine⟨hi2,fun j hj=> ?_⟩;rcases Nat.lt_succ_iff_lt_or_eq.1 hj with h3|rfl
    ·exact hall j h3
    ·exact c16
   ·first|omega|(simp only[];omega)
   ·exact sbt
 ·obtain rfl:i=rs.length:=by have h9: ¬ ((i:Nat):Int)<(rs.length:Nat):=c9;omega
  refine rC tb 2 U (Aq (rX tb 8 U (As U (Ll U) ?_)));rw[lup_none hall];exact⟨_,⟨rfl,rfl⟩,sbt⟩
theorem lookup_g {w0:World}{H:List (Nat × Obj)}(q:Option Addr)(c:Nat)(rs:List Ru)(hA:Arr w0 H q 23 encRu rs)(hlen:rs.length<=9223372036854775807)(ht:∀ r∈rs,0<=r.tag/\r.tag<=65535)(h:Nat->Int)(hr:RgH h):
  FSpec prog w0 92 #[.slice q rs.length c, .agg (encHd h).toArray] H (Still (.int .i64 (idI (lupF rs h))) H):=by
 refine Az func92 U ntmps92 U (rD tb 2 U (e_ (Lt U cs_) ?_ U));rintro _ _ ⟨n3,rfl,rfl⟩;refine rO tb 6 U (y_ (Cg (.cons (T U) .nil)) ?_ U);refine y_ (Bb (qe2 U U) call141 (fun H' hs=>lookx_g q c rs (hA.mono (stn hs)) hlen ht h hr n3 (hs.subset fdd))) ?_ U;refine rO tb 4 U (As U (Ll U) ?_);exact⟨_,⟨rfl,rfl⟩,sbt⟩
theorem Kb8 (a0:Int)(a1:Int)(a2:Int)(a3:Int)(a4:Int)(a5:Int)(a6:Int)(a7:Int)(a8:Int)(a9:Int)(w:World):(Instr.buildSlice 164 1 #[(0, .agg #[.int .i64 a0, .int .i64 a1, .int .i64 a2, .int .i64 a3, .int .i64 a4, .int .i64 a5, .int .i64 a6, .int .i64 a7, .int .i64 a8, .int .i64 a9])]).run prog w= .ok (.slice (some ⟨w.heap.size,0,none⟩) 1 1) (w.alloc (Cl [.int .i64 a0, .int .i64 a1, .int .i64 a2, .int .i64 a3, .int .i64 a4, .int .i64 a5, .int .i64 a6, .int .i64 a7, .int .i64 a8, .int .i64 a9] 74)):=by kernel_rfl
def upI (fl:List Int) (l:Int):Bool:=decide (l∉fl)
theorem gupI_g {w0:World}{H:List (Nat × Obj)}(n:Nm)(hn:NetM w0 H n)(hok:NetOk n)(fl:List Int)(q:Option Addr)(c:Nat)(hf:Arr w0 H q 1 encI fl)(hfl:fl.length<=4611686018427387903)(l:Int)(hl:0<=l/\l<n.links.length):
  FSpec prog w0 30 #[.agg (encNm n).toArray, .agg #[.slice q fl.length c, .int .i64 (-1)], .int .i64 l] H (Still (.bool (upI fl l)) H):=by
 have h:=gup_s (w0:=w0) (nnOf n) (nn_net hn hok) ⟨q,c,fl, -1⟩ hf hfl l.toNat (by show _<(n.links.map lnOf).length;rw[List.length_map];omega);rw[nn_enc,Int.toNat_of_nonneg hl.1] at h;have e:upF (nnOf n) ⟨q,c,fl, -1⟩ l.toNat=upI fl l:=by
  unfold upF upI;rw[Int.toNat_of_nonneg hl.1];rw[decide_eq_true (show ¬ ((gd (nnOf n).links l.toNat).src:Int)= -1 by omega),decide_eq_true (show ¬ ((gd (nnOf n).links l.toNat).dst:Int)= -1 by omega)]
  rfl
 rw[e] at h;exact h
theorem alt_some {up:Int->Bool}{ls:List Al}{i:Nat}(hi:i<ls.length)(h1:(decide ((gd ls i).link<0)||up (gd ls i).link)=true)(h2:∀ j,j<i->(decide ((gd ls j).link<0)||up (gd ls j).link)=false):altF up ls=some i:=find_rng hi h1 h2
theorem alt_none {up:Int->Bool}{ls:List Al}(h2:∀ j,j<ls.length->(decide ((gd ls j).link<0)||up (gd ls j).link)=false):altF up ls=none:=find_rngN h2
theorem alt_lt {up:Int->Bool}{ls:List Al}{i:Nat}(h:altF up ls=some i):i<ls.length:=List.mem_range.1 (List.mem_of_find?_eq_some h)
theorem lup_lt {rs:List Ru}{h:Nat->Int}{i:Nat}(e:lupF rs h=some i):i<rs.length:=List.mem_range.1 (List.mem_of_find?_eq_some e)
theorem sendc_g {w0:World}{H:List (Nat × Obj)}(n:Nm)(hn:NetM w0 H n)(hok:NetOk n)(fl:List Int)(qf:Option Addr)(cf:Nat)(hfa:Arr w0 H qf 1 encI fl)(hfl:fl.length<=4611686018427387903)(b1 b2:Nat)(hf1:Fnd H b1 (Cl (encNm n) 26))(hf2:Fnd H b2 (Cl [.slice qf fl.length cf, .int .i64 (-1)] 64))(a:Al)(ha:AlOk n.links.length a):
  FSpec prog w0 145 #[.agg (encAl a).toArray,Pt b1 0,Pt b2 0] H (Still (.bool (decide (a.link<0)||upI fl a.link)) H):=by
 refine Az func145 U ntmps145 U (rD tb 2 U (e_ (Lt U cs_) ?_ U));rintro _ _ ⟨n3,rfl,rfl⟩;refine rO tb 6 U (y_ (Lo U isAgg3 (by first|exact c_o)) ?_ U);refine rO tb 2 U ?_
 first|refine Bi (s:=8) (Aa U) (fun c8=> ?_) (fun c8=> ?_)|refine B2 (s:=8) (Aa U) (fun c8=> ?_) (fun c8=> ?_)
 ·refine rO tb 10 U (As U (Ll U) ?_);rw[decide_eq_true c8];exact⟨_,⟨rfl,rfl⟩,sbt⟩
 ·refine A3 (Lp U isAgg26 sizeOf26 U (by first|exact Dn (Fnd.mono hf1 (by exact sbt))|exact A2)) U (Ax U U (Aa U)) ?_;refine A3 (Lp U isAgg64 sizeOf64 U (by first|exact Dn (Fnd.mono hf2 (by exact sbt))|exact A2)) U (Ax U U (Aa U)) ?_;refine rO tb 1 U (A3 (Lo U isAgg3 (by first|exact c_o)) U (Ax U U (Aa U)) ?_);refine A3 (Bb (qe3 U U U) call30 (fun H' hs=>gupI_g n (hn.mono (stn hs)) hok fl qf cf (hfa.mono (stn hs)) hfl a.link (by have:=ha.l;omega))) U (Ax U U (Aa U)) ?_;refine rO tb 5 U (As U (Ll U) ?_);rw[decide_eq_false c8];exact⟨_,⟨rfl,rfl⟩,sbt⟩
theorem sendx_g {w0:World}{H:List (Nat × Obj)}(n:Nm)(hn:NetM w0 H n)(hok:NetOk n)(fl:List Int)(qf:Option Addr)(cf:Nat)(hfa:Arr w0 H qf 1 encI fl)(hfl:fl.length<=4611686018427387903)(b1 b2:Nat)(hf1:Fnd H b1 (Cl (encNm n) 26))(hf2:Fnd H b2 (Cl [.slice qf fl.length cf, .int .i64 (-1)] 64))(q:Option Addr)(c:Nat)(ls:List Al)(hA:Arr w0 H q 21 encAl ls)(hlen:ls.length<=9223372036854775807)(ho:∀ a∈ls,AlOk n.links.length a):
  FSpec prog w0 144 #[.slice q ls.length c, .func (.func 145) #[] #[Pt b1 0,Pt b2 0]] H (Still (.int .i64 (idI (altF (upI fl) ls))) H):=by
 refine Az func144 U ntmps144 U (rD tb 14 U ?_);refine Cb (X:=Nat) (V:=fun i=>[(8, .int .i64 (i:Nat))]) (C:=[(0,_),(1,_),(7,_)]) (φ:=fun i=>i<=ls.length/\∀ j,j<i->(decide ((gd ls j).link<0)||upI fl (gd ls j).link)=false) (μ:=fun i=>ls.length - i) (x0:=0) ?_ (kg U) ⟨atd,trivial⟩ ?_
 ·exact⟨Nat.zero_le _,fun j hj=>absurd hj (Nat.not_lt_zero j)⟩
 rintro i ⟨hi,hall⟩;refine rD tb 6 U ?_
 first|refine Ak (Aa U) (fun c9=> ?_) (fun c9=> ?_)|refine Au (Aa U) (fun c9=> ?_) (fun c9=> ?_)
 ·have hi2:i<ls.length:=by have h9:((i:Nat):Int)<(ls.length:Nat):=c9;omega
  refine rC tb 15 U (y_ (Lq U U runUnderlying128 sizeOf127 qom (by first|exact rfl|exact hA.b (i:=i) hi2)) ?_ U);refine y_ (Lp U isAgg127 sizeOf127 U (by first|exact(hA.mono (by exact sbt)).cs (i:=i) hi2|exact A2)) ?_ U;refine y_ (C1 (T U) (qe1 U) call145 (fun H' hs=>sendc_g n (hn.mono (stn hs)) hok fl qf cf (hfa.mono (stn hs)) hfl b1 b2 (Fnd.mono hf1 (stn hs)) (Fnd.mono hf2 (stn hs)) (gd ls i) (ho _ (Ao hi2)))) (rO tb 2 U ?_) U
  first|refine Ak (Aa U) (fun c16=> ?_) (fun c16=> ?_)|refine Au (Aa U) (fun c16=> ?_) (fun c16=> ?_)
  ·refine rC tb 9 U (Bc (rX tb 2 U (As U (Ll U) ?_)));rw[alt_some hi2 c16 hall];exact⟨_,⟨rfl,rfl⟩,sbt⟩
  ·refine rC tb 4 U (y_ (Bd (T U) An qom) ?_ U);refine rO tb 2 U ?_;refine A8 (i+1) ?_ ?_ ⟨atd,trivial⟩ (kg U) ?_
   ·refine⟨hi2,fun j hj=> ?_⟩;rcases Nat.lt_succ_iff_lt_or_eq.1 hj with h3|rfl
    ·exact hall j h3
    ·exact c16
   ·first|omega|(simp only[];omega)
   ·exact sbt
 ·obtain rfl:i=ls.length:=by have h9: ¬ ((i:Nat):Int)<(ls.length:Nat):=c9;omega
  refine rC tb 2 U (Aq (rX tb 8 U (As U (Ll U) ?_)));rw[alt_none hall];exact⟨_,⟨rfl,rfl⟩,sbt⟩
abbrev sndL (fl:List Int) (r:Ru) (h:Nat->Int):List (Nat->Int):=(sndF (upI fl) r h).toList
theorem snd_some {fl:List Int}{r:Ru}{h:Nat->Int}{k:Nat}(e:altF (upI fl) r.alts=some k):sndL fl r h=[appH h (gd r.alts k)]:=by unfold sndL sndF;rw[e];rfl
theorem snd_none {fl:List Int}{r:Ru}{h:Nat->Int}(e:altF (upI fl) r.alts=none):sndL fl r h=[]:=by unfold sndL sndF;rw[e];rfl
theorem send_g {w0:World}{H:List (Nat × Obj)}(n:Nm)(hn:NetM w0 H n)(hok:NetOk n)(fl:List Int)(qf:Option Addr)(cf:Nat)(hfa:Arr w0 H qf 1 encI fl)(hfl:fl.length<=4611686018427387903)(r:Ru)(hR:RuM w0 H r)(ho:RuOk n.links.length r)(h:Nat->Int)(hr:RgH h):
  FSpec prog w0 93 #[.agg (encNm n).toArray, .agg #[.slice qf fl.length cf, .int .i64 (-1)], .agg (encRu r).toArray, .agg (encHd h).toArray] H (fun v H'=>∃ d:Sl,(v=slV d (sndL fl r h).length/\SlOk d (sndL fl r h).length 10)/\H'=slH d ((sndL fl r h).flatMap encHd) 74++H):=by
 refine Az func93 U ntmps93 U ?_;have hal:=ho.n;refine rD tb 2 U (e_ (Lt U cs_) ?_ U);rintro _ _ ⟨n4,rfl,rfl⟩;refine e_ (Lt U cs_) ?_ U;rintro _ _ ⟨n5,rfl,rfl⟩;refine e_ (Lt U cs_) ?_ U;rintro _ _ ⟨n6,rfl,rfl⟩;refine e_ (Lt U cs_) ?_ U;rintro _ _ ⟨n7,rfl,rfl⟩;refine rO tb 12 U (y_ (Lo U isAgg122 (by first|exact c_o)) ?_ U);refine rO tb 5 U ?_;refine Bz (X:=Nat × Sl × List (Nat->Int)) (V:=fun ⟨i,d,l⟩=>[(9,slV d l.length),(16, .int .i64 (i:Nat))]) (C:=[(4,_),(5,_),(7,_),(14,_),(15,_)]) (G:=fun ⟨i,d,l⟩=>slH d (l.flatMap encHd) 74++((n7,Cl (encHd h) 74)::(n6,Cl (encRu r) 124)::(n5,Cl [.slice qf fl.length cf, .int .i64 (-1)] 64)::(n4,Cl (encNm n) 26)::H)) (φ:=fun ⟨i,d,l⟩=>((i=0/\l=[])\/(i=1/\l=sndL fl r h))/\SlOk d l.length 10) (μ:=fun ⟨i,d,l⟩=>1 - i) (x0:=(0, .nil,[])) ?_ (kg U) ⟨atd,atd,trivial⟩ (by exact List.Sublist.refl _) ?_
 ·exact⟨.inl ⟨rfl,rfl⟩,rfl⟩
 rintro⟨i,d,l⟩ ⟨hl,hd⟩;refine rD tb 6 U ?_
 first|refine Ak (Aa U) (fun c17=> ?_) (fun c17=> ?_)|refine Au (Aa U) (fun c17=> ?_) (fun c17=> ?_)
 ·obtain⟨rfl,rfl⟩:i=0/\l=[]:=by
   have h9:((i:Nat):Int)<1:=c17;rcases hl with h|h
   ·exact h
   ·omega
  refine rC tb 6 U (y_ (Lq U U runUnderlying122 sizeOf128 qom (by first|exact rfl|exact hR.o.b (i:=0) (by exact Nat.zero_lt_one)|exact hR.a.b (i:=k) hk2)) ?_ U);refine y_ (Lo U isAgg128 (by first|exact c_o|exact(hR.o.mono (by exact sbt)).f0 (i:=0) (by exact Nat.zero_lt_one) U)) ?_ U;refine rO tb 6 U (y_ (Cg (.cons (T U) (.cons (T U) .nil))) ?_ U);refine y_ (Bb (qe2 U U) call144 (fun H' hs=>sendx_g n (hn.mono (stn hs)) hok fl qf cf (hfa.mono (stn hs)) hfl n4 n5 (hs.subset fdd) (hs.subset fdd) r.qa r.ca r.alts (hR.a.mono (stn hs)) qom ho.a)) ?_ U;refine rO tb 9 U ?_
  first|refine Ak (Aa U) (fun c24=> ?_) (fun c24=> ?_)|refine Au (Aa U) (fun c24=> ?_) (fun c24=> ?_)
  ·obtain⟨k,hk⟩:∃ k,altF (upI fl) r.alts=some k:=by
    cases hh:altF (upI fl) r.alts with
    |some k=>exact⟨k,rfl⟩
    |none=>rw[hh] at c24;exact absurd c24 qde
   have hk2:=alt_lt hk;rw[hk,show idI (some k)=(k:Int) from rfl];refine B9 9 [(0,true),(1,true),(2,true),(3,true),(4,true),(5,true),(6,true),(7,true),(8,false)] _ mixd qkr sb0 ?_ By;refine rP tb 3 U (o_y U (Bl (T U) (T U) runUnderlying128 sizeOf127 qom (by first|exact rfl|exact hR.o.b (i:=0) (by exact Nat.zero_lt_one)|exact hR.a.b (i:=k) hk2)) ?_ U Ac);refine rP tb 1 U (o_y U (Lp U isAgg125 sizeOf125 U (by first|exact(show Cells w0 _ _ _ (modL (gd r.alts k).k (gd r.alts k).p (gd r.alts k).t) from cs_sub (k:=1) (m:=20) ((hR.a.mono (by exact sbt)).cs (i:=k) hk2))|exact A2)) ?_ U Ac);refine o_y U (Lp U isAgg74 sizeOf74 U (by first|exact A2)) ?_ U Ac;refine o_y U (Bb (qe2 U U) call146 (fun H' hs=>apply_g h (gd r.alts k) n.links.length hr (ho.a _ (Ao hk2)))) (o_e U (A7 (.cons (T U) .nil) (Kb8 _ _ _ _ _ _ _ _ _ _)) ?_ U Ac) U Ac;rintro _ _ ⟨n33,rfl,rfl⟩;refine⟨sbt,(Bj U (e_ (Dk ((appH h (gd r.alts k))) (by':=80) (enc:=encHd) (d:=d) (l:=[]) qlc (T U) (T U) runUnderlying164 runUnderlying164 sizeOf74 typeInfo74 U zeroValue74 U (fun _=>rfl) U hd qde (by show (2*(0+1)+600)*80<=281474976710656;omega)) ?_ U))⟩;rintro _ _ ⟨d2,rfl,hd2,rfl⟩;refine rO tb 5 U (y_ (Bd (T U) An qom) ?_ U);refine rO tb 2 U ?_;refine A8 ((1,d2,[appH h (gd r.alts k)])) ?_ ?_ ⟨atd,atd,trivial⟩ (kg U) ?_
   ·exact⟨.inr ⟨rfl,(snd_some hk).symm⟩,hd2⟩
   ·first|omega|(simp only[];omega)
   ·exact sbt
  ·have hk:altF (upI fl) r.alts=none:=by
    cases hh:altF (upI fl) r.alts with
    |none=>rfl
    |some k=>rw[hh] at c24;exact absurd (show (0:Int)<=idI (some k) from by unfold idI;simp only[];omega) c24
   refine rC tb 4 U (y_ (Bd (T U) An qom) ?_ U);refine rO tb 2 U ?_;refine A8 ((1,d,[])) ?_ ?_ ⟨atd,atd,trivial⟩ (kg U) ?_
   ·exact⟨.inr ⟨rfl,(snd_none hk).symm⟩,hd⟩
   ·first|omega|(simp only[];omega)
   ·exact sbt
 ·have hl2:l=sndL fl r h:=by
   have h9: ¬ ((i:Nat):Int)<1:=c17;rcases hl with h|h
   ·omega
   ·exact h.2
  subst hl2;refine rC tb 2 U (Aq (rX tb 9 U (As U (Ll U) ?_)));exact⟨_,⟨d,⟨rfl,hd⟩,rfl⟩,sbt⟩
theorem gd_ext {xs ys:List Int}(hl:xs.length=ys.length)(h:∀ i,i<xs.length->gd xs i=gd ys i):xs=ys:=by
 refine List.ext_getElem hl fun i h1 h2=> ?_
 have:=h i h1
 rwa [Ay h1,Ay h2] at this
theorem all_gd {xs ys:List Int}(hx:xs.length=10)(hy:ys.length=10):((List.range 10).all fun i=>gd xs i==gd ys i)=decide (ys=xs):=by
 rw[Bool.eq_iff_iff,List.all_eq_true,decide_eq_true_eq]
 constructor
 ·intro h;refine(gd_ext (hx.trans hy.symm) fun i hi=> ?_).symm;have:=h i (List.mem_range.2 qom)
  simpa using this
 ·rintro rfl i hi;simp
theorem eqHd (d:Nat)(xs ys:List Int)(hx:xs.length=10)(hy:ys.length=10)(w:World):(Op.equalIn (d+2) 74 (.agg (xs.map (Value.int .i64)).toArray) (.agg (ys.map (Value.int .i64)).toArray)).run prog w= .ok (decide (ys=xs)) w:=by
 rw[run_equalIn_array (i:=prog.types.getD 3 default) w (d+1) _ _ (show prog.underlying 74=some (.array 10 3) from by kernel_rfl) qkr];have h:=E3 d 3 .i64 .i64 qkr part3 xs ys w (List.range 10) (fun i hi=>by have:=List.mem_range.1 hi;omega);rw[show prog.cellsOf 3=1 from by kernel_rfl,h,all_gd hx hy]
abbrev visL (v:Vis):List Int:=[v.2.1.1,v.2.1.2.1,v.2.1.2.2.1,v.2.1.2.2.2.1,v.2.1.2.2.2.2,v.2.2.1,v.2.2.2.1,v.2.2.2.2.1,v.2.2.2.2.2.1,v.2.2.2.2.2.2]
abbrev encVis (v:Vis):Value:= .agg (.int .i64 v.1::(visL v).map (Value.int .i64)).toArray
theorem eqVis (a b:Vis)(w:World):(Op.equal 162 (encVis a) (encVis b)).run prog w= .ok (decide (b=a)) w:=by
 unfold Op.equal Op.maxDepth;rw[run_equalIn_struct w 9999 162 _ _ qkr qkr];have e1:∀ (s:Vis) w,(part 3 (.int .i64 s.1::(visL s).map (Value.int .i64)).toArray 0).run prog w= .ok (.int .i64 s.1) w:=fun s w=>by
  simp[part,isAgg3,Sem.run_bind,Result.andThen]
 have e2:∀ (s:Vis) w,(part 74 (.int .i64 s.1::(visL s).map (Value.int .i64)).toArray 1).run prog w= .ok (.agg ((visL s).map (Value.int .i64)).toArray) w:=fun s w=>by
  simp[part,isAgg74,sizeOf74,Sem.run_bind,Result.andThen]
 have e3:(prog.fieldsOf 162).toList.map (fun f=>(f.type,f.offset,f.name== "_"))=[(3,0,false),(74,1,false)]:=by kernel_rfl
 obtain⟨f,g,hfg⟩:∃ f g,(prog.fieldsOf 162).toList=[f,g]:=by
  generalize (prog.fieldsOf 162).toList=l at e3;have hl:l.length=2:=by simpa using congrArg List.length e3
  match l,hl with
  |[f,g],_=>exact⟨f,g,rfl⟩
 rw[hfg] at e3 ⊢;simp only[List.map_cons,List.map_nil,List.cons.injEq,Prod.mk.injEq,and_true] at e3;obtain⟨⟨f1,f2,f3⟩,g1,g2,g3⟩:=e3;have f4:f.name≠ "_" :=by simpa using f3
 have g4:g.name≠ "_" :=by simpa using g3
 have h1:=eqHd 9997 (visL a) (visL b) U U;have h2:=fun w=>run_equalIn_int (P:=prog) w 9998 3 .i64 .i64 a.1 b.1 (show prog.underlying 3=some (.int .i64) from by kernel_rfl)
 simp only[Op.eqFields,ne_eq,f4,g4,not_false_eq_true,if_true,f1,f2,g1,g2,Sem.run_bind,e1,e2,Result.andThen_ok,h1,h2,Sem.run_ite,Sem.run_pure];obtain⟨a0,⟨a1,a2,a3,a4,a5⟩,a6,a7,a8,a9,a10⟩:=a;obtain⟨b0,⟨b1,b2,b3,b4,b5⟩,b6,b7,b8,b9,b10⟩:=b
 by_cases h:a0=b0
 ·subst h;simp[Prod.mk.injEq,visL]
  split
  ·rename_i h4;refine congrArg (fun r=>Result.ok r w) ?_
   symm
   rw[Bool.eq_false_iff];intro hb;simp only[Bool.and_eq_true,decide_eq_true_eq] at hb;omega
  ·rename_i h4;refine congrArg (fun r=>Result.ok r w) ?_
   symm
   simp only[Bool.and_eq_true,decide_eq_true_eq];omega
 ·have h3: ¬ b0=a0:=fun e=>h e.symm
  simp[h,h3]
theorem keyVis {V:Type}:KeyOk (V:=V) prog 162 encVis:=Fs runUnderlying162 (fun b k w=>by cases b<;>kernel_rfl) (fun k k'=>by simp[Instr.sameNow]) eqVis (fun k=>by simp[Instr.sameBits])
section
variable {ls:List Lnk} {ts:List Tl} {fl:List Int} {f:Nat} {seen:List Vis} {links:List Int} {x:Int} {h:Nat->Int} {j:Jr}
theorem fol_seen (hF:folF ls ts (upI fl) (f+1) seen links x h=some j)(hs:visT x h∈seen):j=⟨links,x,0,fun _=>0,false,true⟩:=by
 rw[folF,if_pos hs] at hF;exact(Option.some.inj hF).symm
theorem fol_none (hF:folF ls ts (upI fl) (f+1) seen links x h=some j)(hs: ¬ visT x h∈seen)(hk:lupF (gd ts x.toNat).rs h=none):j=⟨links,x,0,fun _=>0,false,false⟩:=by
 rw[folF,if_neg hs] at hF;unfold nxtF at hF;rw[hk] at hF;exact(Option.some.inj hF).symm
theorem fol_drop {k:Nat}(hF:folF ls ts (upI fl) (f+1) seen links x h=some j)(hs: ¬ visT x h∈seen)(hk:lupF (gd ts x.toNat).rs h=some k)(hn:sndF (upI fl) (gd (gd ts x.toNat).rs k) h=none):j=⟨links,x,0,fun _=>0,false,false⟩:=by
 rw[folF,if_neg hs] at hF;unfold nxtF at hF;rw[hk] at hF;simp only[hn] at hF;exact(Option.some.inj hF).symm
theorem fol_arr {k:Nat}{y:Nat->Int}(hF:folF ls ts (upI fl) (f+1) seen links x h=some j)(hs: ¬ visT x h∈seen)(hk:lupF (gd ts x.toNat).rs h=some k)(hn:sndF (upI fl) (gd (gd ts x.toNat).rs k) h=some y)(hy:(ls.length:Int)<=y 0):j=⟨links,x,(gd (gd ts x.toNat).rs k).step,y,true,false⟩:=by
 rw[folF,if_neg hs] at hF;unfold nxtF at hF;rw[hk] at hF;simp only[hn,Option.map_some,if_pos hy] at hF;exact(Option.some.inj hF).symm
theorem fol_go {k:Nat}{y:Nat->Int}(hF:folF ls ts (upI fl) (f+1) seen links x h=some j)(hs: ¬ visT x h∈seen)(hk:lupF (gd ts x.toNat).rs h=some k)(hn:sndF (upI fl) (gd (gd ts x.toNat).rs k) h=some y)(hy: ¬ (ls.length:Int)<=y 0):folF ls ts (upI fl) f (seen++[visT x h]) (links++[y 0]) (gd ls (y 0).toNat).dst y=some j:=by
 rw[folF,if_neg hs] at hF;unfold nxtF at hF;rw[hk] at hF;simp only[hn,Option.map_some,if_neg hy] at hF;exact hF
end
abbrev encJ (d:Sl) (j:Jr):List Value:=[slV d j.links.length, .int .i64 j.node, .int .i64 j.step]++encHd j.head++[.bool j.arr, .bool j.loop]
theorem snd_ok {n:Nm}{fl:List Int}{r:Ru}{h y:Nat->Int}(hr:RgH h)(ho:RuOk n.links.length r)(e:sndF (upI fl) r h=some y):RgH y:=by
 unfold sndF at e;cases hk:altF (upI fl) r.alts with
 |none=>rw[hk] at e;cases e
 |some k=>
  rw[hk] at e;obtain rfl:=Option.some.inj e;exact app_rgJ hr (ho.a _ (Ao (alt_lt hk)))
theorem Ka6 (a0:Int)(a1:Int)(a2:Int)(a3:Int)(a4:Int)(a5:Int)(a6:Int)(a7:Int)(a8:Int)(a9:Int)(a10:Int)(w:World):(Instr.build 162 #[(0, .int .i64 a0),(1, .agg #[.int .i64 a1, .int .i64 a2, .int .i64 a3, .int .i64 a4, .int .i64 a5, .int .i64 a6, .int .i64 a7, .int .i64 a8, .int .i64 a9, .int .i64 a10])]).run prog w= .ok (.agg #[.int .i64 a0, .int .i64 a1, .int .i64 a2, .int .i64 a3, .int .i64 a4, .int .i64 a5, .int .i64 a6, .int .i64 a7, .int .i64 a8, .int .i64 a9, .int .i64 a10]) w:=by kernel_rfl
theorem Kb4 {a0:Int}(w:World):(Instr.build 77 #[(1, .int .i64 a0)]).run prog w= .ok (.agg #[.slice none 0 0, .int .i64 a0, .int .i64 0, .int .i64 0, .int .i64 0, .int .i64 0, .int .i64 0, .int .i64 0, .int .i64 0, .int .i64 0, .int .i64 0, .int .i64 0, .int .i64 0, .bool false, .bool false]) w:=by kernel_rfl
theorem Jj {w0:World}{H:List (Nat × Obj)}(n:Nm)(hn:NetM w0 H n)(hok:NetOk n)(fl:List Int)(qf:Option Addr)(cf:Nat)(hfa:Arr w0 H qf 1 encI fl)(hfl:fl.length<=4611686018427387903)(ts:List Tl)(qt:Option Addr)(ct:Nat)(hT:TlsM w0 H qt ts)(htl:ts.length=n.nodes.length)(hto:∀ t∈ts,∀ r∈t.rs,RuOk n.links.length r)(x0:Int)(hx0:0<=x0/\x0<n.nodes.length)(h:Nat->Int)(hr:RgH h)(F:Nat)(hF0:F<=100000)(j:Jr)(hF:folF n.links ts (upI fl) F [] [] x0 h=some j):
  FSpec prog w0 35 #[.agg (encNm n).toArray, .agg #[.slice qf fl.length cf, .int .i64 (-1)], .slice qt ts.length ct, .int .i64 x0, .agg (encHd h).toArray] H (fun v H'=>∃ d:Sl,(v= .agg (encJ d j).toArray/\SlOk d j.links.length 1)/\H'=slH d (j.links.flatMap encI) 3++H):=by
 refine Az func35 U ntmps35 U (rD tb 2 U (e_ (Lt U cs_) ?_ U));rintro _ _ ⟨n5,rfl,rfl⟩;refine e_ (Lt U cs_) ?_ U;rintro _ _ ⟨n6,rfl,rfl⟩;refine e_ (Lt U cs_) ?_ U;rintro _ _ ⟨n9,rfl,rfl⟩;refine e_ (Ap zeroValue77 cs_) ?_ U;rintro _ _ ⟨n10,rfl,rfl⟩;refine rO tb 6 U (y_ (Bg (.cons (T U) .nil) (Kb4)) (e_ (Ap zeroValue77 cs_) ?_ U) U);rintro _ _ ⟨n11,rfl,rfl⟩
 first|refine A9 (Ls U U sizeOf77) U Ac ?_
 rintro _ _ ⟨rfl,rfl⟩;refine rO tb 6 U (y_ (Lo U isAgg3 (by first|exact c_o)) ?_ U);refine rO tb 4 U ?_
 first|refine Ak (Aa U) (fun c20=> ?_) (fun c20=> ?_)|refine Au (Aa U) (fun c20=> ?_) (fun c20=> ?_)
 ·exfalso;omega
 ·skip
  refine rC tb 4 U (e_ Dd ?_ U);rintro _ _ ⟨n22,rfl,rfl⟩;refine rO tb 8 U ?_;refine Bz (X:=Nat × List Vis × List Int × Int × (Nat->Int) × Sl × Int) (V:=fun ⟨f,seen,links,x,g,dL,nd⟩=>[(3, .int .i64 x)]) (C:=[(2,_),(5,_),(6,_),(9,_),(10,_),(11,_),(12,_)]) (G:=fun ⟨f,seen,links,x,g,dL,nd⟩=>(n22,mapO encVis encBv (trueL seen))::(n11,Cl ([slV dL links.length, .int .i64 nd, .int .i64 0]++encHd (fun _=>0)++[.bool false, .bool false]) 77)::(slH dL (links.flatMap encI) 3++((n10,Cl [.slice none 0 0, .int .i64 0, .int .i64 0, .int .i64 0, .int .i64 0, .int .i64 0, .int .i64 0, .int .i64 0, .int .i64 0, .int .i64 0, .int .i64 0, .int .i64 0, .int .i64 0, .bool false, .bool false] 77)::(n9,Cl (encHd g) 74)::(n6,Cl [.slice qf fl.length cf, .int .i64 (-1)] 64)::(n5,Cl (encNm n) 26)::H))) (φ:=fun ⟨f,seen,links,x,g,dL,nd⟩=>folF n.links ts (upI fl) f seen links x g=some j/\(0<=x/\x<n.nodes.length)/\RgH g/\SlOk dL links.length 1/\links.length+f<=100000) (μ:=fun ⟨f,seen,links,x,g,dL,nd⟩=>f) (x0:=(F,[],[],x0,h, .nil,x0)) ?_ (kg U) ⟨atd,trivial⟩ (by exact List.Sublist.refl _) ?_
  ·exact⟨hF,hx0,hr,rfl,by show 0+F<=_;omega⟩
  rintro⟨f,seen,links,x,g,dL,nd⟩ ⟨hF,hx,hg,hdL,hlf⟩;have hTm:(gd ts x.toNat)∈ts:=Ao qom;have hTx:=hT.t _ hTm;cases f with
  |zero=>cases hF
  |succ f=>
  refine rD tb 5 U ?_
  first|refine A9 (Ls U U sizeOf3) U Ac ?_|refine A9 (B1 (T U) (T U) U sizeOf3) U Ac ?_|refine A9 (Bu (T U) (T U) U sizeOf3) U Ac ?_
  rintro _ _ ⟨rfl,rfl⟩;refine rO tb 7 U (y_ (Lp U isAgg74 sizeOf74 U (by first|exact A2)) ?_ U);refine y_ (Bg (.cons (T U) (.cons (T U) .nil)) (Ka6 _ _ _ _ _ _ _ _ _ _ _)) ?_ U;refine y_ (yl_seenL (l:=seen) (p:=visT x g) keyVis (T U) (T U) U runUnderlying160 zeroValue4 fdd) ?_ U;refine rO tb 2 U ?_
  first|refine Ak (Aa U) (fun c29=> ?_) (fun c29=> ?_)|refine Au (Aa U) (fun c29=> ?_) (fun c29=> ?_)
  ·have hj:=fol_seen hF (by simpa using c29);subst hj;refine rC tb 3 U ?_
   first|refine A9 (Ar (T U) An sizeOf4) U Ac ?_|refine A9 (B1 (T U) An U sizeOf4) U Ac ?_|refine A9 (Bu (T U) An U sizeOf4) U Ac ?_
   rintro _ _ ⟨rfl,rfl⟩;refine rO tb 5 U (Aq (rX tb 4 U (y_ (Lp U isAgg77 sizeOf77 U (by first|exact A2)) ?_ U)))
   first|refine A9 (Ls U U sizeOf77) U Ac ?_
   rintro _ _ ⟨rfl,rfl⟩;refine rO tb 4 U (As U (.cellA (Aa U) isAgg77 sizeOf77 U (by first|exact A2) .nil) ?_);exact⟨_,⟨dL,⟨rfl,hdL⟩,rfl⟩,by exact sbt⟩
  ·have c29: ¬ visT x g∈seen:=by simpa using c29
   refine rC tb 6 U (y_ (Lp U isAgg74 sizeOf74 U (by first|exact A2)) ?_ U);refine y_ (Bg (.cons (T U) (.cons (T U) .nil)) (Ka6 _ _ _ _ _ _ _ _ _ _ _)) (e_ (C5 (l:=trueL seen) (encV:=encBv) (visT x g) true (keyVis (V:=Bool)) (T U) (T U) U An U runUnderlying160) ?_ U) U;rintro _ _ ⟨rfl,rfl⟩;rw[upsert_trueL c29];refine rO tb 3 U (B9 7 [(0,true),(1,true),(2,true),(3,true),(4,true),(5,true),(6,true)] _ mixd qkr sb0 ?_ By);refine rP tb 2 U (o_y U (Bl (T U) (T U) runUnderlying49 sizeOf54 qom (by first|exact rfl|exact hT.a.b (i:=x.toNat) qom|exact hTx.a.b (i:=k) hk2|exact hY.b (i:=0) Nat.zero_lt_one|exact hn.links.b (i:=(y 0).toNat) qom)) ?_ U Ac);refine o_y U (Lo U isAgg54 (by first|exact c_o|exact(hT.a.mono (by exact sbt)).f0 (i:=x.toNat) qom U)) ?_ U Ac;refine o_y U (Lp U isAgg74 sizeOf74 U (by first|exact A2)) ?_ U Ac;refine o_y U (Bb (qe2 U U) call92 (fun H' hs=>lookup_g (gd ts x.toNat).q (gd ts x.toNat).c (gd ts x.toNat).rs (hTx.a.mono (stn hs)) (by have:=hTx.n;omega) (fun r hr=>(hto _ hTm r hr).t) g hg)) ?_ U Ac;refine rP tb 1 U (Bj U (kO tb 9 [2,3,5,6,9,10,11,12,13,42] rfl U ?_))
   first|refine Ak (Aa U) (fun c42=> ?_) (fun c42=> ?_)|refine Au (Aa U) (fun c42=> ?_) (fun c42=> ?_)
   ·have hk:lupF (gd ts x.toNat).rs g=none:=by
     cases hh:lupF (gd ts x.toNat).rs g with
     |none=>rfl
     |some k=>rw[hh,show idI (some k)=(k:Int) from rfl] at c42;omega
    have hj:=fol_none hF c29 hk;subst hj;refine rC tb 3 U (Aq (rX tb 4 U (y_ (Lp U isAgg77 sizeOf77 U (by first|exact A2)) ?_ U)))
    first|refine A9 (Ls U U sizeOf77) U Ac ?_
    rintro _ _ ⟨rfl,rfl⟩;refine rO tb 4 U (As U (.cellA (Aa U) isAgg77 sizeOf77 U (by first|exact A2) .nil) ?_);exact⟨_,⟨dL,⟨rfl,hdL⟩,rfl⟩,by exact sbt⟩
   ·obtain⟨k,hk⟩:∃ k,lupF (gd ts x.toNat).rs g=some k:=by
     cases hh:lupF (gd ts x.toNat).rs g with
     |some k=>exact⟨k,rfl⟩
     |none=>rw[hh] at c42;exact absurd (show idI none<0 from by decide) c42
    have hk2:=lup_lt hk;rw[hk,show idI (some k)=(k:Int) from rfl];refine rC tb 3 U (B9 10 [(0,true),(1,true),(2,true),(3,true),(4,true),(5,true),(6,true),(7,true),(8,true),(9,true)] _ mixd qkr sb0 ?_ By);refine o_y U (Lp U isAgg26 sizeOf26 U (by first|exact A2)) ?_ U Ac;refine o_y U (Lp U isAgg64 sizeOf64 U (by first|exact A2)) ?_ U Ac;refine rP tb 2 U (o_y U (Bl (T U) (T U) runUnderlying49 sizeOf54 qom (by first|exact rfl|exact hT.a.b (i:=x.toNat) qom|exact hTx.a.b (i:=k) hk2|exact hY.b (i:=0) Nat.zero_lt_one|exact hn.links.b (i:=(y 0).toNat) qom)) ?_ U Ac);refine o_y U (Lo U isAgg54 (by first|exact c_o|exact(hT.a.mono (by exact sbt)).f0 (i:=x.toNat) qom U)) ?_ U Ac;refine rP tb 1 U (o_y U (Bl (T U) (T U) runUnderlying54 sizeOf124 qom (by first|exact rfl|exact hT.a.b (i:=x.toNat) qom|exact hTx.a.b (i:=k) hk2|exact hY.b (i:=0) Nat.zero_lt_one|exact hn.links.b (i:=(y 0).toNat) qom)) ?_ U Ac);refine o_y U (Lp U isAgg124 sizeOf124 U (by first|exact(hTx.a.mono (by exact sbt)).cs (i:=k) hk2|exact A2)) ?_ U Ac;refine o_y U (Lp U isAgg74 sizeOf74 U (by first|exact A2)) ?_ U Ac;refine Bj U (e_ (A1 (qe4 U U U U) call93 (send_g n (hn.mono (by exact sbt)) hok fl qf cf (hfa.mono (by exact sbt)) hfl (gd (gd ts x.toNat).rs k) ((hTx.r _ (Ao hk2)).mono (by exact sbt)) (hto _ hTm _ (Ao hk2)) g hg)) ?_ U);rintro _ _ ⟨d53,⟨rfl,hd53⟩,rfl⟩;refine rO tb 13 U ?_
    first|refine Ak (Aa U) (fun c54=> ?_) (fun c54=> ?_)|refine Au (Aa U) (fun c54=> ?_) (fun c54=> ?_)
    ·have hs0:sndF (upI fl) (gd (gd ts x.toNat).rs k) g=none:=by
      cases hh:sndF (upI fl) (gd (gd ts x.toNat).rs k) g with
      |none=>rfl
      |some y=>rw[show sndL fl (gd (gd ts x.toNat).rs k) g=[y] from by unfold sndL;rw[hh];rfl] at c54;exact absurd c54 (by simp)
     have hj:=fol_drop hF c29 hk hs0;subst hj;refine rC tb 4 U (Aq (rX tb 4 U (y_ (Lp U isAgg77 sizeOf77 U (by first|exact A2)) ?_ U)))
     first|refine A9 (Ls U U sizeOf77) U Ac ?_
     rintro _ _ ⟨rfl,rfl⟩;refine rO tb 4 U (As U (.cellA (Aa U) isAgg77 sizeOf77 U (by first|exact A2) .nil) ?_);exact⟨_,⟨dL,⟨rfl,hdL⟩,rfl⟩,by exact sbt⟩
    ·obtain⟨y,hs0⟩:∃ y,sndF (upI fl) (gd (gd ts x.toNat).rs k) g=some y:=by
      cases hh:sndF (upI fl) (gd (gd ts x.toNat).rs k) g with
      |some y=>exact⟨y,rfl⟩
      |none=>rw[show sndL fl (gd (gd ts x.toNat).rs k) g=[] from by unfold sndL;rw[hh];rfl] at c54;exact absurd rfl c54
     have hsl:sndL fl (gd (gd ts x.toNat).rs k) g=[y]:=by unfold sndL;rw[hs0];rfl
     rw[hsl] at hd53 ⊢;have hyr:=snd_ok hg (hto _ hTm _ (Ao hk2)) hs0;have hy0:=hyr 0 qom;have hY:Arr w0 (slH d53 ([y].flatMap encHd) 74++H) (slQ d53) 10 encHd [y]:=A5 (fun _=>rfl) hd53;refine rC tb 1 U (B9 9 [(0,true),(1,true),(2,true),(3,true),(4,true),(5,true),(6,true),(7,true),(8,true)] _ mixd qkr sb0 ?_ By);refine rP tb 1 U (o_y U (Bl (T U) An runUnderlying164 sizeOf74 (by simp) (by first|exact rfl|exact hT.a.b (i:=x.toNat) qom|exact hTx.a.b (i:=k) hk2|exact hY.b (i:=0) Nat.zero_lt_one|exact hn.links.b (i:=(y 0).toNat) qom)) ?_ U Ac);refine o_y U (Cm (T U) An runUnderlying74 sizeOf3 qom) ?_ U Ac;refine o_y U (Lo U isAgg3 (by first|exact c_o|exact(show Cell w0 _ _ (.int .i64 (y 0)) from (hY.mono (by exact sbt)).f0 (i:=0) Nat.zero_lt_one U))) ?_ U Ac;refine rP tb 1 U (o_y U (Lo U isAgg23 (by first|exact c_o)) ?_ U Ac);refine rP tb 3 U (Bj U (kO tb 2 [2,3,5,6,9,10,11,12,13,14,58] rfl U ?_))
     first|refine Ak (Aa U) (fun c58=> ?_) (fun c58=> ?_)|refine Au (Aa U) (fun c58=> ?_) (fun c58=> ?_)
     ·have hj:=fol_arr hF c29 hk hs0 c58;subst hj;refine rC tb 1 U (B9 16 [(0,true),(1,true),(2,true),(3,true),(4,true),(5,true),(6,true),(7,true),(8,true),(9,true),(10,true),(11,true),(12,false),(13,true),(14,false),(15,true)] (slH d53 ([y].flatMap encHd) 74++((n22,mapO encVis encBv (trueL (seen++[visT x g])))::(slH dL (links.flatMap encI) 3++((n10,Cl [.slice none 0 0, .int .i64 0, .int .i64 0, .int .i64 0, .int .i64 0, .int .i64 0, .int .i64 0, .int .i64 0, .int .i64 0, .int .i64 0, .int .i64 0, .int .i64 0, .int .i64 0, .bool false, .bool false] 77)::(n9,Cl (encHd g) 74)::(n6,Cl [.slice qf fl.length cf, .int .i64 (-1)] 64)::(n5,Cl (encNm n) 26)::H)))) mixd qkr (by exact sbt) ?_ By);refine rP tb 2 U (o_y U (Bl (T U) (T U) runUnderlying49 sizeOf54 qom (by first|exact rfl|exact hT.a.b (i:=x.toNat) qom|exact hTx.a.b (i:=k) hk2|exact hY.b (i:=0) Nat.zero_lt_one|exact hn.links.b (i:=(y 0).toNat) qom)) ?_ U Ac);refine o_y U (Lo U isAgg54 (by first|exact c_o|exact(hT.a.mono (by exact sbt)).f0 (i:=x.toNat) qom U)) ?_ U Ac;refine rP tb 1 U (o_y U (Bl (T U) (T U) runUnderlying54 sizeOf124 qom (by first|exact rfl|exact hT.a.b (i:=x.toNat) qom|exact hTx.a.b (i:=k) hk2|exact hY.b (i:=0) Nat.zero_lt_one|exact hn.links.b (i:=(y 0).toNat) qom)) ?_ U Ac);refine rP tb 1 U (o_y U (Lo U isAgg3 (by first|exact c_o|exact(show Cell w0 _ _ (.int .i64 (gd (gd ts x.toNat).rs k).step) from (hTx.a.mono (by exact sbt)).f (i:=k) (j:=21) hk2 U))) ?_ U Ac);refine rP tb 1 U (o_y U (Bl (T U) An runUnderlying164 sizeOf74 (by simp) (by first|exact rfl|exact hT.a.b (i:=x.toNat) qom|exact hTx.a.b (i:=k) hk2|exact hY.b (i:=0) Nat.zero_lt_one|exact hn.links.b (i:=(y 0).toNat) qom)) ?_ U Ac);refine o_y U (Lp U isAgg74 sizeOf74 U (by first|exact(show Cells w0 _ _ _ (encHd y) from (hY.mono (by exact sbt)).cs (i:=0) Nat.zero_lt_one)|exact A2)) ?_ U Ac;refine rP tb 1 U ?_
      first|refine o_e U (Ar (T U) An sizeOf4) ?_ U Ac|refine o_e U (B1 (T U) An U sizeOf4) ?_ U Ac|refine o_e U (Bu (T U) An U sizeOf4) ?_ U Ac
      rintro _ _ ⟨rfl,rfl⟩;refine⟨sbt,(rP tb 1 U ?_)⟩
      first|refine o_e U (Ls U U sizeOf3) ?_ U Ac|refine o_e U (B1 (T U) (T U) U sizeOf3) ?_ U Ac|refine o_e U (Bu (T U) (T U) U sizeOf3) ?_ U Ac
      rintro _ _ ⟨rfl,rfl⟩;refine⟨sbt,(rP tb 1 U (Bj U (e_ (E4 (vs:=encHd y) (T U) (T U) .agg U sizeOf74 (by(repeat (first|exact Upd.h|apply Upd.t|apply D7));done) (by show 3+10<=15;omega)) ?_ U)))⟩;rintro _ _ ⟨rfl,rfl⟩;refine rO tb 6 U (Aq (rX tb 4 U (y_ (Lp U isAgg77 sizeOf77 U (by first|exact A2)) ?_ U)))
      first|refine A9 (Ls U U sizeOf77) U Ac ?_
      rintro _ _ ⟨rfl,rfl⟩;refine kO tb 2 [10] rfl U (rG tb 2 U (As U (.cellA (Aa U) isAgg77 sizeOf77 U (by first|exact A2) .nil) ?_));exact⟨_,⟨dL,⟨rfl,hdL⟩,rfl⟩,by exact sbt⟩
     ·have c58: ¬ (n.links.length:Int)<=y 0:=c58;have hgo:=fol_go hF c29 hk hs0 c58;have hli:=hok.links (y 0).toNat qom;have hd0:=hli.d0;have hd1:=hli.d1;refine rC tb 6 U (y_ (Bl (T U) An runUnderlying164 sizeOf74 (by simp) (by first|exact rfl|exact hT.a.b (i:=x.toNat) qom|exact hTx.a.b (i:=k) hk2|exact hY.b (i:=0) Nat.zero_lt_one|exact hn.links.b (i:=(y 0).toNat) qom)) ?_ U);refine y_ (Lp U isAgg74 sizeOf74 U (by first|exact(show Cells w0 _ _ _ (encHd y) from (hY.mono (by exact sbt)).cs (i:=0) Nat.zero_lt_one)|exact A2)) ?_ U
      first|refine A9 (Ls U U sizeOf74) U Ac ?_
      rintro _ _ ⟨rfl,rfl⟩;refine rO tb 5 U (y_ (Lo U isAgg41 (by first|exact c_o)) ?_ U);refine y_ (Cm (T U) An runUnderlying74 sizeOf3 qom) ?_ U;refine y_ (Lo U isAgg3 (by first|exact c_o)) ?_ U;refine e_ (A7 (.cons (T U) .nil) (C9)) ?_ U;rintro _ _ ⟨n88,rfl,rfl⟩;refine e_ (Dk ((y 0)) (by':=8) (enc:=encI) (d:=dL) (l:=links) qlc (T U) (T U) runUnderlying41 runUnderlying41 sizeOf3 typeInfo3 U zeroValue3 U (fun _=>rfl) U hdL qde qom) ?_ U;rintro _ _ ⟨d2,rfl,hd2,rfl⟩;refine rO tb 1 U ?_
      first|refine A9 (Ls U U sizeOf41) U Ac ?_|refine A9 (B1 (T U) (T U) U sizeOf41) U Ac ?_|refine A9 (Bu (T U) (T U) U sizeOf41) U Ac ?_
      rintro _ _ ⟨rfl,rfl⟩;refine rO tb 4 U (y_ (Lo U isAgg23 (by first|exact c_o)) ?_ U);refine y_ (Cm (T U) An runUnderlying74 sizeOf3 qom) ?_ U;refine y_ (Lo U isAgg3 (by first|exact c_o)) ?_ U;refine y_ (Bl (T U) (T U) runUnderlying23 sizeOf95 qom (by first|exact rfl|exact hT.a.b (i:=x.toNat) qom|exact hTx.a.b (i:=k) hk2|exact hY.b (i:=0) Nat.zero_lt_one|exact hn.links.b (i:=(y 0).toNat) qom)) ?_ U;refine rO tb 1 U (y_ (Lo U isAgg3 (by first|exact c_o|exact(show Cell w0 _ _ (.int .i64 (gd n.links (y 0).toNat).dst) from (hn.links.mono (by exact sbt)).f (i:=(y 0).toNat) (j:=1) qom U))) ?_ U);refine rO tb 3 U ?_;refine A8 ((f,seen++[visT x g],links++[y 0],(gd n.links (y 0).toNat).dst,y,d2,x)) ?_ ?_ ⟨atd,trivial⟩ (kg U) ?_
      ·exact⟨hgo,⟨hd0,hd1⟩,hyr,hd2,by rw[List.length_append,List.length_singleton];omega⟩
      ·first|omega|(simp only[];omega)
      ·exact sbt
theorem Kb3 {a0:Int}(w:World):(Instr.build 74 #[(9, .int .i64 a0)]).run prog w= .ok (.agg #[.int .i64 0, .int .i64 0, .int .i64 0, .int .i64 0, .int .i64 0, .int .i64 0, .int .i64 0, .int .i64 0, .int .i64 0, .int .i64 a0]) w:=by kernel_rfl
theorem El {α:Type}[Inhabited α] {l:List α}{i j:Nat}(x:α)(h: ¬ i=j):gd (l.set j x) i=gd l i:=by
 unfold gd;simp only[List.getD];rw[List.getElem?_set_ne qom]
instance:Inhabited Jr:=⟨⟨[],0,0,fun _=>0,false,false⟩⟩
def lstJ (n:Nm) (ts:List Tl) (F:Nat) (w:Way) (t:Int) (k:Nat):Jr:=(folF n.links ts (upI [(k:Int)]) F [] [] w.src (hdM 0 t)).getD default
def JrOk (n:Nm) (w:Way) (j:Jr):Prop:=j.arr=true/\j.node=(walkF n.links w.src w.links).1/\j.step=w.step/\j.head 0=w.port/\j.head 9=w.tag
instance (n:Nm) (w:Way) (j:Jr):Decidable (JrOk n w j):=by unfold JrOk;infer_instance
def lstF (n:Nm) (ts:List Tl) (F:Nat) (w:Way) (t:Int) (k:Nat):List Nat:=(List.range k).filter fun k=>decide (¬ JrOk n w (lstJ n ts F w t k))
theorem lst_yes {n:Nm}{ts:List Tl}{F:Nat}{w:Way}{t:Int}{k:Nat}(h: ¬ JrOk n w (lstJ n ts F w t k)):lstF n ts F w t (k+1)=lstF n ts F w t k++[k]:=by
 unfold lstF;rw[List.range_succ,List.filter_append];simp[h]
theorem lst_no {n:Nm}{ts:List Tl}{F:Nat}{w:Way}{t:Int}{k:Nat}(h:JrOk n w (lstJ n ts F w t k)):lstF n ts F w t (k+1)=lstF n ts F w t k:=by
 unfold lstF;rw[List.range_succ,List.filter_append];simp[h]
theorem lst_len (n:Nm)(ts:List Tl)(F:Nat)(w:Way)(t:Int)(k:Nat):(lstF n ts F w t k).length<=k:=by
 unfold lstF;exact Nat.le_trans (List.length_filter_le _ _) (by rw[List.length_range];exact Nat.le_refl _)
theorem lost_g {w0:World}{H:List (Nat × Obj)}(n:Nm)(hn:NetM w0 H n)(hok:NetOk n)(hnl:n.links.length<=1000)(ws:List Wm)(qw:Option Addr)(cw:Nat)(hw:WaysM w0 H qw ws)(hwl:ws.length<=1000)(hwk:∀ m∈ws,m.way.links.length<=100000/\(0<=m.way.src/\m.way.src<n.nodes.length))(tags:List Int)(qg:Option Addr)(cg:Nat)(hG:Arr w0 H qg 1 encI tags)(hgl:tags.length=ws.length)(hgr:∀ t∈tags,0<=t/\t<=65535)(ts:List Tl)(qt:Option Addr)(ct:Nat)(hT:TlsM w0 H qt ts)(htl:ts.length=n.nodes.length)(hto:∀ t∈ts,∀ r∈t.rs,RuOk n.links.length r)(F:Nat)(hF0:F<=100000)(hJ:∀ i,i<ws.length->∀ k,k<n.links.length->∃ j,folF n.links ts (upI [(k:Int)]) F [] [] (gd ws i).way.src (hdM 0 (gd tags i))=some j):
  FSpec prog w0 36 #[.agg (encNm n).toArray, .slice qw ws.length cw, .slice qg tags.length cg, .slice qt ts.length ct] H (fun v H'=>∃ (d:Sl) (rows:List Row),(v=slV d rows.length/\SlOk d rows.length 1/\(∀ r∈rows,SlOk r.d r.l.length 1)/\rows.length=ws.length/\∀ i,i<ws.length->(gd rows i).l=lstF n ts F (gd ws i).way (gd tags i) n.links.length)/\H'=slH d (rows.flatMap encRow) 41++(rowsM rows++H)):=by
 refine Az func36 U ntmps36 U (rD tb 2 U (e_ (Lt U cs_) ?_ U));rintro _ _ ⟨n4,rfl,rfl⟩;refine rO tb 7 U (e_ (Cp (by':=24) (k:=ws.length) (T U) runUnderlying80 sizeOf41 typeInfo41 U zeroValue41 U qom qom) ?_ U);rintro _ _ ⟨n16,rfl,rfl⟩;rw[rep_row ws.length];refine rO tb 12 U ?_;refine Bz (X:=Nat × List Row) (V:=fun ⟨i,rows⟩=>[(19, .int .i64 (i:Nat))]) (C:=[(2,_),(3,_),(4,_),(9,_),(17,_),(18,_)]) (G:=fun ⟨i,rows⟩=>slH (Sl.blk n16 ws.length []) (rows.flatMap encRow) 41++(rowsM rows++((n4,Cl (encNm n) 26)::H))) (φ:=fun ⟨i,rows⟩=>i<=ws.length/\rows.length=ws.length/\(∀ r∈rows,SlOk r.d r.l.length 1)/\(∀ a,a<i->(gd rows a).l=lstF n ts F (gd ws a).way (gd tags a) n.links.length)/\∀ a,i<=a->a<ws.length->(gd rows a).l=[]) (μ:=fun ⟨i,rows⟩=>ws.length - i) (x0:=(0,List.replicate ws.length ⟨.nil,[]⟩)) ?_ (kg U) ⟨atd,trivial⟩ (by show (_++(rowsM (List.replicate ws.length (⟨.nil,[]⟩:Row))++_)).Sublist _;rw[rowsM_rep];exact sbt) ?_
 ·exact⟨Nat.zero_le _,List.length_replicate ..,fun r hr=>by rw[List.eq_of_mem_replicate hr];rfl,fun a h=>absurd h (Nat.not_lt_zero a),fun a _ h=>by rw[Ay (by simpa using h),List.getElem_replicate]⟩
 rintro⟨i,rows⟩ ⟨hi,hrn,hro,hrl,hrz⟩;refine rD tb 6 U ?_
 first|refine Ak (Aa U) (fun c20=> ?_) (fun c20=> ?_)|refine Au (Aa U) (fun c20=> ?_) (fun c20=> ?_)
 ·have hi2:i<ws.length:=by have h9:((i:Nat):Int)<(ws.length:Nat):=c20;omega
  refine rC tb 7 U (y_ (Lq U U runUnderlying27 sizeOf59 qom (by first|exact rfl|exact hw.arr.b (i:=i) hi2|exact hG.b (i:=i) qom)) ?_ U);refine y_ (Lp U isAgg59 sizeOf59 U (by first|exact(hw.arr.mono (by exact sbt)).cs (i:=i) hi2|exact A2)) ?_ U;refine e_ (Ap zeroValue59 cs_) ?_ U;rintro _ _ ⟨n11,rfl,rfl⟩;refine rO tb 1 U ?_
  first|refine A9 (Ls U U sizeOf59) U Ac ?_
  rintro _ _ ⟨rfl,rfl⟩;refine rO tb 5 U (y_ (Lo U isAgg23 (by first|exact c_o)) ?_ U);refine rO tb 5 U ?_;refine Bz (X:=Nat × List Row) (V:=fun ⟨k,rows⟩=>[(27, .int .i64 (k:Nat))]) (C:=[(2,_),(3,_),(4,_),(9,_),(10,_),(11,_),(17,_),(18,_),(19,_),(26,_)]) (G:=fun ⟨k,rows⟩=>(n11,Cl (encW (gd ws i)) 59)::(slH (Sl.blk n16 ws.length []) (rows.flatMap encRow) 41++(rowsM rows++((n4,Cl (encNm n) 26)::H)))) (φ:=fun ⟨k,rows⟩=>k<=n.links.length/\rows.length=ws.length/\(∀ r∈rows,SlOk r.d r.l.length 1)/\(∀ a,a<i->(gd rows a).l=lstF n ts F (gd ws a).way (gd tags a) n.links.length)/\(∀ a,i+1<=a->a<ws.length->(gd rows a).l=[])/\(gd rows i).l=lstF n ts F (gd ws i).way (gd tags i) k) (μ:=fun ⟨k,rows⟩=>n.links.length - k) (x0:=(0,rows)) ?_ (kg U) ⟨atd,trivial⟩ (by exact sbt) ?_
  ·exact⟨Nat.zero_le _,hrn,hro,hrl,fun a h1 h2=>hrz a qom h2,hrz i (Nat.le_refl _) hi2⟩
  rintro⟨k,rows⟩ ⟨hk,hrn,hro,hrl,hrz,hrw⟩;refine rD tb 6 U ?_
  first|refine Ak (Aa U) (fun c28=> ?_) (fun c28=> ?_)|refine Au (Aa U) (fun c28=> ?_) (fun c28=> ?_)
  ·have hk2:k<n.links.length:=by have h9:((k:Nat):Int)<(n.links.length:Nat):=c28;omega
   obtain⟨j,hj⟩:=hJ i hi2 k hk2;have hjj:j=(lstJ n ts F (gd ws i).way (gd tags i) k):=by unfold lstJ;rw[hj];rfl
   subst hjj;refine rC tb 10 U ?_;refine Fp (X:=Nat × Nat × Sl) (V:=fun ⟨b13,b32,dJ⟩=>[(13,Pt b13 0)]) (C:=[(2,_),(3,_),(4,_),(9,_),(10,_),(11,_),(12,_),(17,_),(18,_),(19,_),(26,_),(27,_)]) (G:=fun ⟨b13,b32,dJ⟩=>(b13,Cl (encJ dJ (lstJ n ts F (gd ws i).way (gd tags i) k)) 77)::(slH dJ ((lstJ n ts F (gd ws i).way (gd tags i) k).links.flatMap encI) 3++((b32,Cl [.int .i64 (k:Nat)] 3)::((n11,Cl (encW (gd ws i)) 59)::(slH (Sl.blk n16 ws.length []) (rows.flatMap encRow) 41++(rowsM rows++((n4,Cl (encNm n) 26)::H))))))) (φ:=fun ⟨b13,b32,dJ⟩=>SlOk dJ (lstJ n ts F (gd ws i).way (gd tags i) k).links.length 1) (kg U) ?_ ?_
   ·refine rD tb 0 U (Gs 14 _ mixd qkr sb0 ?_ By);refine x_y (i:=0) U qkr (Lp U isAgg26 sizeOf26 U (by first|exact A2)) ?_ U Ac;refine x_y (i:=1) U qkr (Af (T U)) ?_ U Ac;refine x_y (i:=4) U qkr (Af (T U)) ?_ U Ac;refine x_y (i:=5) U qkr (Cj (T U) Gt) ?_ U Ac;refine x_y (i:=6) U qkr (Lo U isAgg3 (by first|exact c_o)) ?_ U Ac;refine x_y (i:=7) U qkr (Af (T U)) ?_ U Ac;refine x_y (i:=8) U qkr (Af (T U)) ?_ U Ac;refine x_y (i:=9) U qkr (Bl (T U) (T U) runUnderlying41 sizeOf3 qom (by first|exact rfl|exact hw.arr.b (i:=i) hi2|exact hG.b (i:=i) qom)) ?_ U Ac;refine x_y (i:=10) U qkr (Lo U isAgg3 (by first|exact c_o|exact(hG.mono (by exact sbt)).f0 (i:=i) qom U)) ?_ U Ac;refine x_y (i:=11) U qkr (Bg (.cons (T U) .nil) (Kb3)) ?_ U Ac;refine Dh (i:=2) (j:=13) qkr qkr ?_ ?_
    ·refine Ca U (A7 (.cons (T U) .nil) (C9)) ?_ U Ac;rintro _ _ ⟨n32,rfl,rfl⟩;refine⟨sbt,(x_y (i:=3) U qkr (Bg (.cons (T U) (.cons An .nil)) (Hq _ _ _ _)) ?_ U Ac)⟩;refine Dh (i:=12) (j:=13) qkr qkr ?_ ?_
     ·refine Ca U (A1 (.cons (T U) (.cons (T U) (.cons (T U) (.cons (T U) (.cons (T U) .nil))))) call35 (Jj n (hn.mono (by exact sbt)) hok [(k:Int)] (some ⟨n32,0,none⟩) 1 (Cq (fun _=>rfl) U fdd) (by show 1<=_;omega) ts qt ct (hT.mono (by exact sbt)) htl hto (gd ws i).way.src (hwk _ (Ao hi2)).2 (hdM 0 (gd tags i)) (Lk qde (hgr _ (Ao qom))) F hF0 _ hj)) ?_ U Ac;rintro _ _ ⟨dJ,⟨rfl,hdJ⟩,rfl⟩;refine⟨sbt,(Cn (i:=13) qkr qkr ?_)⟩;refine Ca U (Ap zeroValue77 cs_) ?_ U Ac;rintro _ _ ⟨n13,rfl,rfl⟩;refine⟨sbt,(Cv qkr U ?_)⟩
      first|refine A9 (Ls U U sizeOf77) U Ac ?_
      rintro _ _ ⟨rfl,rfl⟩;refine rO tb 1 U ?_
      first|(refine Be ((n13,n32,dJ)) ?_ ⟨atd,trivial⟩ (kg U) (List.Sublist.refl _))|(refine Bn List.perm_middle ?_;refine Be ((n13,n32,dJ)) ?_ ⟨atd,trivial⟩ (kg U) (List.Sublist.refl _))|(refine Bn ((List.Perm.append_left _ (List.Perm.swap _ _ _)).trans List.perm_middle) ?_;refine Be ((n13,n32,dJ)) ?_ ⟨atd,trivial⟩ (kg U) (List.Sublist.refl _))
      exact hdJ
     ·refine Ca U (Ap zeroValue77 cs_) ?_ U Ac;rintro _ _ ⟨n13,rfl,rfl⟩;refine⟨sbt,(Cn (i:=12) qkr qkr ?_)⟩;refine Ca U (A1 (.cons (T U) (.cons (T U) (.cons (T U) (.cons (T U) (.cons (T U) .nil))))) call35 (Jj n (hn.mono (by exact sbt)) hok [(k:Int)] (some ⟨n32,0,none⟩) 1 (Cq (fun _=>rfl) U fdd) (by show 1<=_;omega) ts qt ct (hT.mono (by exact sbt)) htl hto (gd ws i).way.src (hwk _ (Ao hi2)).2 (hdM 0 (gd tags i)) (Lk qde (hgr _ (Ao qom))) F hF0 _ hj)) ?_ U Ac;rintro _ _ ⟨dJ,⟨rfl,hdJ⟩,rfl⟩;refine⟨sbt,(Cv qkr U ?_)⟩
      first|refine A9 (Ls U U sizeOf77) U Ac ?_
      rintro _ _ ⟨rfl,rfl⟩;refine rO tb 1 U ?_
      first|(refine Be ((n13,n32,dJ)) ?_ ⟨atd,trivial⟩ (kg U) (List.Sublist.refl _))|(refine Bn List.perm_middle ?_;refine Be ((n13,n32,dJ)) ?_ ⟨atd,trivial⟩ (kg U) (List.Sublist.refl _))|(refine Bn ((List.Perm.append_left _ (List.Perm.swap _ _ _)).trans List.perm_middle) ?_;refine Be ((n13,n32,dJ)) ?_ ⟨atd,trivial⟩ (kg U) (List.Sublist.refl _))
      exact hdJ
    ·refine Ca U (Ap zeroValue77 cs_) ?_ U Ac;rintro _ _ ⟨n13,rfl,rfl⟩;refine⟨sbt,(Cn (i:=2) qkr qkr ?_)⟩;refine Ca U (A7 (.cons (T U) .nil) (C9)) ?_ U Ac;rintro _ _ ⟨n32,rfl,rfl⟩;refine⟨sbt,(x_y (i:=3) U qkr (Bg (.cons (T U) (.cons An .nil)) (Hq _ _ _ _)) ?_ U Ac)⟩;refine Cn (i:=12) qkr qkr ?_;refine Ca U (A1 (.cons (T U) (.cons (T U) (.cons (T U) (.cons (T U) (.cons (T U) .nil))))) call35 (Jj n (hn.mono (by exact sbt)) hok [(k:Int)] (some ⟨n32,0,none⟩) 1 (Cq (fun _=>rfl) U fdd) (by show 1<=_;omega) ts qt ct (hT.mono (by exact sbt)) htl hto (gd ws i).way.src (hwk _ (Ao hi2)).2 (hdM 0 (gd tags i)) (Lk qde (hgr _ (Ao qom))) F hF0 _ hj)) ?_ U Ac;rintro _ _ ⟨dJ,⟨rfl,hdJ⟩,rfl⟩;refine⟨sbt,(Cv qkr U ?_)⟩
     first|refine A9 (Ls U U sizeOf77) U Ac ?_
     rintro _ _ ⟨rfl,rfl⟩;refine rO tb 1 U ?_
     first|(refine Be ((n13,n32,dJ)) ?_ ⟨atd,trivial⟩ (kg U) (List.Sublist.refl _))|(refine Bn List.perm_middle ?_;refine Be ((n13,n32,dJ)) ?_ ⟨atd,trivial⟩ (kg U) (List.Sublist.refl _))|(refine Bn ((List.Perm.append_left _ (List.Perm.swap _ _ _)).trans List.perm_middle) ?_;refine Be ((n13,n32,dJ)) ?_ ⟨atd,trivial⟩ (kg U) (List.Sublist.refl _))
     exact hdJ
   rintro⟨b13,b32,dJ⟩ hdJ;refine H9 (X:=Bool) (V:=fun b76=>[(76, .bool b76)]) (C:=[(2,_),(3,_),(4,_),(9,_),(10,_),(11,_),(12,_),(17,_),(18,_),(19,_),(26,_),(27,_)]) (φ:=fun b76=>(b76=true↔¬ ((lstJ n ts F (gd ws i).way (gd tags i) k).arr=true/\(lstJ n ts F (gd ws i).way (gd tags i) k).node=(walkF n.links (gd ws i).way.src (gd ws i).way.links).1/\(lstJ n ts F (gd ws i).way (gd tags i) k).step=(gd ws i).way.step/\(lstJ n ts F (gd ws i).way (gd tags i) k).head 0=(gd ws i).way.port/\(lstJ n ts F (gd ws i).way (gd tags i) k).head 9=(gd ws i).way.tag))) (kg U) ?_ ?_
   ·refine rD tb 0 U (B9 34 [(0,true),(1,true),(2,true),(3,true),(4,true),(5,true),(6,true),(7,true),(8,true),(9,true),(10,true),(11,true),(12,true),(13,true),(14,true),(15,true),(16,true),(17,true),(18,true),(19,true),(20,true),(21,true),(22,true),(23,true),(24,true),(25,true),(26,true),(27,true),(28,true),(29,true),(30,true),(31,true),(32,true),(33,true)] _ mixd qkr sb0 ?_ By);refine rP tb 1 U (o_y U (Lo U isAgg4 (by first|exact c_o)) ?_ U Ac)
    first|refine o_y U (B7 (T U)) ?_ U Ac|refine o_y U (Cc (T U)) ?_ U Ac
    refine rP tb 1 U ?_
    first|refine Cu (s:=46) (Aa U) (fun c46=> ?_) (fun c46=> ?_)|refine Ds (s:=46) (Aa U) (fun c46=> ?_) (fun c46=> ?_)
    ·refine rP tb 30 U (Bj U (rO tb 1 U ?_));refine Be (_) ?_ ⟨atd,trivial⟩ (kg U) sbt
     first|(refine⟨fun _ h9=> ?_,fun _=>rfl⟩;rw[h9.1] at c46;revert c46;decide)|(refine⟨fun _ h9=> ?_,fun _=>rfl⟩;obtain⟨h1,h2,h3,h4,h5⟩:=h9;omega)|(have ha:(lstJ n ts F (gd ws i).way (gd tags i) k).arr=true:=(by simpa using c46);rw[decide_eq_true_eq];exact⟨fun h hh=>h hh.2.2.2.2,fun h h5=>h ⟨ha,by omega,by omega,by omega,h5⟩⟩)
    ·refine rP tb 1 U (o_y U (Lo U isAgg3 (by first|exact c_o)) ?_ U (Ax U U (Aa U)));refine o_y U (Lp U isAgg26 sizeOf26 U (by first|exact A2)) ?_ U (Ax U U (Aa U));refine o_y U (Lp U isAgg59 sizeOf59 U (by first|exact A2)) ?_ U (Ax U U (Aa U));refine o_y U (Bb (qe2 U U) call78 (fun H' hs=>last_g n (hn.mono (stn hs)) (gd ws i) ((hw.at hi2).mono (stn hs)) (hwk _ (Ao hi2)).1)) (rP tb 3 U ?_) U (Ax U U (Aa U))
     first|refine Cu (s:=54) (Aa U) (fun c54=> ?_) (fun c54=> ?_)|refine Ds (s:=54) (Aa U) (fun c54=> ?_) (fun c54=> ?_)
     ·refine rP tb 22 U (Bj U (rO tb 1 U ?_));refine Be (_) ?_ ⟨atd,trivial⟩ (kg U) sbt
      first|(refine⟨fun _ h9=> ?_,fun _=>rfl⟩;rw[h9.1] at c46;revert c46;decide)|(refine⟨fun _ h9=> ?_,fun _=>rfl⟩;obtain⟨h1,h2,h3,h4,h5⟩:=h9;omega)|(have ha:(lstJ n ts F (gd ws i).way (gd tags i) k).arr=true:=(by simpa using c46);rw[decide_eq_true_eq];exact⟨fun h hh=>h hh.2.2.2.2,fun h h5=>h ⟨ha,by omega,by omega,by omega,h5⟩⟩)
     ·refine rP tb 1 U (o_y U (Lo U isAgg3 (by first|exact c_o)) ?_ U (Ax U U (Aa U)));refine rP tb 1 U (o_y U (Lo U isAgg3 (by first|exact c_o)) ?_ U (Ax U U (Aa U)));refine rP tb 3 U ?_
      first|refine Cu (s:=61) (Aa U) (fun c61=> ?_) (fun c61=> ?_)|refine Ds (s:=61) (Aa U) (fun c61=> ?_) (fun c61=> ?_)
      ·refine rP tb 15 U (Bj U (rO tb 1 U ?_));refine Be (_) ?_ ⟨atd,trivial⟩ (kg U) sbt
       first|(refine⟨fun _ h9=> ?_,fun _=>rfl⟩;rw[h9.1] at c46;revert c46;decide)|(refine⟨fun _ h9=> ?_,fun _=>rfl⟩;obtain⟨h1,h2,h3,h4,h5⟩:=h9;omega)|(have ha:(lstJ n ts F (gd ws i).way (gd tags i) k).arr=true:=(by simpa using c46);rw[decide_eq_true_eq];exact⟨fun h hh=>h hh.2.2.2.2,fun h h5=>h ⟨ha,by omega,by omega,by omega,h5⟩⟩)
      ·refine rP tb 1 U (o_y U (Cm (T U) An runUnderlying74 sizeOf3 qom) ?_ U (Ax U U (Aa U)));refine o_y U (Lo U isAgg3 (by first|exact c_o)) ?_ U (Ax U U (Aa U));refine rP tb 1 U (o_y U (Lo U isAgg3 (by first|exact c_o)) ?_ U (Ax U U (Aa U)));refine rP tb 3 U ?_
       first|refine Cu (s:=69) (Aa U) (fun c69=> ?_) (fun c69=> ?_)|refine Ds (s:=69) (Aa U) (fun c69=> ?_) (fun c69=> ?_)
       ·refine rP tb 7 U (Bj U (rO tb 1 U ?_));refine Be (_) ?_ ⟨atd,trivial⟩ (kg U) sbt
        first|(refine⟨fun _ h9=> ?_,fun _=>rfl⟩;rw[h9.1] at c46;revert c46;decide)|(refine⟨fun _ h9=> ?_,fun _=>rfl⟩;obtain⟨h1,h2,h3,h4,h5⟩:=h9;omega)|(have ha:(lstJ n ts F (gd ws i).way (gd tags i) k).arr=true:=(by simpa using c46);rw[decide_eq_true_eq];exact⟨fun h hh=>h hh.2.2.2.2,fun h h5=>h ⟨ha,by omega,by omega,by omega,h5⟩⟩)
       ·refine rP tb 1 U (o_y U (Cm (T U) An runUnderlying74 sizeOf3 qom) ?_ U (Ax U U (Aa U)));refine o_y U (Lo U isAgg3 (by first|exact c_o)) ?_ U (Ax U U (Aa U));refine rP tb 1 U (o_y U (Lo U isAgg3 (by first|exact c_o)) ?_ U (Ax U U (Aa U)));refine rP tb 2 U (Bj U (rO tb 1 U ?_));refine Be (_) ?_ ⟨atd,trivial⟩ (kg U) sbt
        first|(refine⟨fun _ h9=> ?_,fun _=>rfl⟩;rw[h9.1] at c46;revert c46;decide)|(refine⟨fun _ h9=> ?_,fun _=>rfl⟩;obtain⟨h1,h2,h3,h4,h5⟩:=h9;omega)|(have ha:(lstJ n ts F (gd ws i).way (gd tags i) k).arr=true:=(by simpa using c46);rw[decide_eq_true_eq];exact⟨fun h hh=>h hh.2.2.2.2,fun h h5=>h ⟨ha,by omega,by omega,by omega,h5⟩⟩)
   rintro b76 hb76
   first|refine Ak (Aa U) (fun c76=> ?_) (fun c76=> ?_)|refine Au (Aa U) (fun c76=> ?_) (fun c76=> ?_)
   ·have hlj: ¬ JrOk n (gd ws i).way (lstJ n ts F (gd ws i).way (gd tags i) k):=hb76.1 c76;refine rC tb 5 U (y_ (Bl (T U) (T U) runUnderlying80 sizeOf41 qom (by first|exact rfl|exact hw.arr.b (i:=i) hi2|exact hG.b (i:=i) qom)) ?_ U);refine y_ (Lo U isAgg41 (by first|exact c_o|exact cell1 (((A5 (w0:=w0) (d:=(Sl.blk n16 ws.length [])) (enc:=encRow) (sz:=1) (e:=41) (l:=rows) (X:=H) (fun _=>rfl) (show SlOk (Sl.blk n16 ws.length []) rows.length 1 from ⟨by omega,by simp;omega⟩)).mono (by exact sbt)).cs (i:=i) qom))) ?_ U;refine rO tb 1 U (e_ (A7 (.cons (T U) .nil) (C9)) ?_ U);rintro _ _ ⟨n84,rfl,rfl⟩;refine e_ (Dk (k) (by':=8) (enc:=encU) (l:=(gd rows i).l) (d:=(gd rows i).d) (by repeat (first|exact locRow (i:=i) qom _|apply LocL.a|apply LocL.t)) (T U) (T U) runUnderlying41 runUnderlying41 sizeOf3 typeInfo3 U zeroValue3 U (fun _=>rfl) U (hro _ (Ao qom)) qde (by rw[hrw];have:=lst_len n ts F (gd ws i).way (gd tags i) k;omega)) ?_ U;rintro _ _ ⟨d2,rfl,hd2,rfl⟩;refine y_ (Bl (T U) (T U) runUnderlying80 sizeOf41 qom (by first|exact rfl|exact hw.arr.b (i:=i) hi2|exact hG.b (i:=i) qom)) ?_ U;refine e_ (D2 (d:=(Sl.blk n16 ws.length [])) (l:=rows) (e:=41) (enc:=encRow) (sz:=1) (i:=i) (⟨d2,(gd rows i).l++[k]⟩:Row) (fun _=>rfl) qlc (T U) (T U) (.one U) U sizeOf41 qom (show SlOk (Sl.blk n16 ws.length []) rows.length 1 from ⟨by omega,by simp;omega⟩)) ?_ U;rintro _ _ ⟨rfl,rfl⟩;refine rO tb 4 U (y_ (Bd (T U) An qom) ?_ U);refine rO tb 2 U ?_;refine A8 ((k+1,rows.set i (⟨d2,(gd rows i).l++[k]⟩:Row))) ?_ ?_ ⟨atd,trivial⟩ (kg U) ?_
    ·refine⟨hk2,by rw[List.length_set,hrn],fun r hr=> ?_,fun a ha=> ?_,fun a h1 h2=> ?_,?_⟩
     ·rcases List.mem_or_eq_of_mem_set hr with h|rfl
      ·exact hro r h
      ·exact hd2
     ·rw[El _ (show ¬ a=i by omega)];exact hrl a ha
     ·rw[El _ (show ¬ a=i by omega)];exact hrz a h1 h2
     ·rw[Ay (by rw[List.length_set];omega),List.getElem_set_self,lst_yes hlj,<- hrw]
    ·first|omega|(simp only[];omega)
    ·first|(show (_::(slH (Sl.blk n16 ws.length []) ((rows.set i (⟨d2,(gd rows i).l++[k]⟩:Row)).flatMap encRow) 41++(rowsM (rows.set i (⟨d2,(gd rows i).l++[k]⟩:Row))++_))).Sublist _;rw[rowsM_set qom,List.append_assoc,List.append_assoc];exact sbt)|exact sbt
   ·have hlj:JrOk n (gd ws i).way (lstJ n ts F (gd ws i).way (gd tags i) k):=Decidable.byContradiction fun h=>by rw[hb76.2 h] at c76;cases c76
    refine rC tb 4 U (y_ (Bd (T U) An qom) ?_ U);refine rO tb 2 U ?_;refine A8 ((k+1,rows)) ?_ ?_ ⟨atd,trivial⟩ (kg U) ?_
    ·exact⟨hk2,hrn,hro,hrl,hrz,by rw[lst_no hlj];exact hrw⟩
    ·first|omega|(simp only[];omega)
    ·first|(show (_::(slH (Sl.blk n16 ws.length []) ((rows.set i (⟨d2,(gd rows i).l++[k]⟩:Row)).flatMap encRow) 41++(rowsM (rows.set i (⟨d2,(gd rows i).l++[k]⟩:Row))++_))).Sublist _;rw[rowsM_set qom,List.append_assoc,List.append_assoc];exact sbt)|exact sbt
  ·obtain rfl:k=n.links.length:=by have h9: ¬ ((k:Nat):Int)<(n.links.length:Nat):=c28;omega
   refine rC tb 2 U (Aq (rX tb 4 U (y_ (Bd (T U) An qom) ?_ U)));refine rO tb 2 U ?_;refine A8 ((i+1,rows)) ?_ ?_ ⟨atd,trivial⟩ (kg U) ?_
   ·refine⟨hi2,hrn,hro,fun a ha=> ?_,fun a h1 h2=>hrz a qom h2⟩;rcases Nat.lt_succ_iff_lt_or_eq.1 ha with h3|rfl
    ·exact hrl a h3
    ·exact hrw
   ·first|omega|(simp only[];omega)
   ·exact sbt
 ·obtain rfl:i=ws.length:=by have h9: ¬ ((i:Nat):Int)<(ws.length:Nat):=c20;omega
  refine rC tb 2 U (Aq (rX tb 9 U (As U (Ll U) ?_)));exact⟨_,⟨(Sl.blk n16 ws.length []),rows,⟨by rw[hrn];rfl,(show SlOk (Sl.blk n16 ws.length []) rows.length 1 from ⟨by omega,by simp;omega⟩),hro,hrn,fun a ha=>hrl a ha⟩,rfl⟩,sbt⟩
def tblS (top:Int) (f:Int->Option Hop) (rs:List Rul) (t:Int):List Rul:=match f t with
 |some h=>rs++[⟨top - rs.length,t,h⟩]
 |none=>rs
def tblK (top:Int) (f:Int->Option Hop) (us:List Int):List Rul:=us.foldl (tblS top f) []
theorem tblK_snoc (top:Int)(f:Int->Option Hop)(us:List Int)(t:Int):tblK top f (us++[t])=tblS top f (tblK top f us) t:=by unfold tblK;rw[List.foldl_append];rfl
theorem tblK_take {top:Int}{f:Int->Option Hop}{us:List Int}{i:Nat}(h:i<us.length):tblK top f (us.take (i+1))=tblS top f (tblK top f (us.take i)) (gd us i):=by rw[C6 h,tblK_snoc]
theorem Fa {top:Int}{f:Int->Option Hop}{rs:List Rul}{t:Int}{h:Hop}(hf:f t=some h):tblS top f rs t=rs++[⟨top - rs.length,t,h⟩]:=by unfold tblS;rw[hf]
theorem tblS_none {top:Int}{f:Int->Option Hop}{rs:List Rul}{t:Int}(hf:f t=none):tblS top f rs t=rs:=by unfold tblS;rw[hf]
theorem tblK_filter (top:Int)(f:Int->Option Hop):∀ (us:List Int) (rs:List Rul),us.foldl (tblS top f) rs=(us.filter fun t=>(f t).isSome).foldl (tblS top f) rs
 |[],rs=>rfl
 |t::us,rs=>by
  rw[List.filter_cons];cases hf:f t with
  |none=>rw[List.foldl_cons,tblS_none hf];simpa using tblK_filter top f us rs
  |some h=>rw[List.foldl_cons];simp only[Option.isSome_some,if_true,List.foldl_cons];exact tblK_filter top f us _
theorem tblK_len_le (top:Int)(f:Int->Option Hop)(us vs:List Int):(tblK top f us).length<=(tblK top f (us++vs)).length:=by
 unfold tblK;rw[List.foldl_append]
 generalize us.foldl (tblS top f) []=rs
 induction vs generalizing rs with
 |nil=>exact Nat.le_refl _
 |cons v vs ih=>
  rw[List.foldl_cons];refine Nat.le_trans ?_ (ih _);unfold tblS
  split<;>simp
def rulesRes (N:Nat) (top:Int) (us:List Int) (f:Int->Int->Option Hop):List (List Rul) × Int:=
 if 1<=top/\top<=65535 then
  (if (List.range N).all (fun (k:Nat)=>decide (((tblK top (fun t=>f t k) us).length:Int)<=top/\(tblK top (fun t=>f t k) us).length<=4000)) then ((List.range N).map (fun (k:Nat)=>tblK top (fun t=>f t k) us),0) else ([],2))
 else ([],1)
theorem rules_arg {N:Nat}{top:Int}{us:List Int}{f:Int->Int->Option Hop}(h: ¬ (1<=top/\top<=65535)):rulesRes N top us f=([],1):=by unfold rulesRes;rw[if_neg h]
theorem Gj {N:Nat}{top:Int}{us:List Int}{f:Int->Int->Option Hop}(h:1<=top/\top<=65535){k:Nat}(hk:k<N)(hl:top<(tblK top (fun t=>f t k) us).length\/4000<(tblK top (fun t=>f t k) us).length):rulesRes N top us f=([],2):=by
 unfold rulesRes;rw[if_pos h,if_neg];intro ha;rw[List.all_eq_true] at ha;have:=of_decide_eq_true (ha k (List.mem_range.2 hk));omega
theorem rules_ok {N:Nat}{top:Int}{us:List Int}{f:Int->Int->Option Hop}(h:1<=top/\top<=65535)(hl:∀ k:Nat,k<N->((tblK top (fun t=>f t k) us).length:Int)<=top/\(tblK top (fun t=>f t k) us).length<=4000){r:List (List Rul)}(hr:r.length=N)(hg:∀ k:Nat,k<N->gd r k=tblK top (fun t=>f t k) us):rulesRes N top us f=(r,0):=by
 unfold rulesRes;rw[if_pos h,if_pos]
 ·congr 1
  apply List.ext_getElem (by simp[hr]);intro i h1 h2;have:=hg i (by simpa using h1);rw[Ay h2] at this;simp[this]
 ·rw[List.all_eq_true];intro k hk;exact decide_eq_true (hl k (List.mem_range.1 hk))
abbrev encTb (t:Tb):List Value:=[tbV t]
theorem tb_add2 (S Z:List (Nat × Obj))(rs:List Rm)(m:Rm):(rmH m++(S++(rs.flatMap rmH++Z))).Perm (S++((rs++[m]).flatMap rmH++Z)):=by
 rw[List.flatMap_append,List.flatMap_cons,List.flatMap_nil,List.append_nil];have h1:(rmH m++(S++(rs.flatMap rmH++Z))).Perm (S++(rmH m++(rs.flatMap rmH++Z))):=by
  simp only[<- List.append_assoc];exact(List.perm_append_comm.append_right _).append_right _
 refine h1.trans (List.Perm.append_left S ?_);rw[<- List.append_assoc];exact List.perm_append_comm.append_right _
theorem ts_snoc (ts:List Tb)(t:Tb)(Y:List (Nat × Obj)):(slH t.d (t.rs.flatMap encRm) 124++(t.rs.flatMap rmH++(tsH ts++Y))).Perm (tsH (ts++[t])++Y):=by
 unfold tsH;rw[List.flatMap_append,List.flatMap_cons,List.flatMap_nil,List.append_nil,<- List.append_assoc,<- List.append_assoc];exact List.perm_append_comm.append_right _
theorem plan_none {ls:List Lnk}{ps:List (Way × Int)}{t k:Int}(h:∀ e∈ps,e.2=t->atF ls e.1 k=none):planR ls ps t k=none:=by
 cases hp:planR ls ps t k with
 |none=>rfl
 |some x=>
  obtain⟨e,he,h1,h2⟩:=E5 hp;rw[h e he h1] at h2;cases h2
theorem hop_link {ls:List Lnk}{w:Way}(hr:InR ls w.links){k:Int}{h:Hop}(ha:atF ls w k=some h):h.link= -1\/0<=h.link:=by
 have hm:=Hf ha;obtain⟨i,hi,he⟩:=List.getElem_of_mem hm;rw[C3] at hi;have h1:=Eb (ls:=ls) (w:=w) (k:=i) qom;rw[Ay (by rw[C3];omega),he] at h1;have h2:h=hopN w i:=by simpa using (congrArg (·.2) h1)
 rw[h2];unfold hopN
 split
 ·rename_i hlt;exact .inr (hr i hlt).1
 ·exact .inl U
theorem bs39_1_0 (a0:Option Addr)(a0n a0c:Nat)(w:World):(Instr.buildSlice 49 1 #[(0, .slice a0 a0n a0c)]).run prog w= .ok (.slice (some ⟨w.heap.size,0,none⟩) 1 1) (w.alloc (Cl [.slice a0 a0n a0c] 54)):=by kernel_rfl
theorem bs51_1_0 (a0:Int)(a1:Int)(a2:Int)(a3:Int)(a4:Int)(a5:Int)(a6:Int)(a7:Int)(a8:Int)(a9:Int)(a10:Int)(a11:Int)(a12:Int)(a13:Int)(a14:Int)(a15:Int)(a16:Int)(a17:Int)(a18:Int)(a19:Int)(a20:Int)(a21:Int)(a22:Option Addr)(a22n a22c:Nat)(w:World):(Instr.buildSlice 54 1 #[(0, .agg #[.int .i64 a0, .int .i64 a1, .int .i64 a2, .int .i64 a3, .int .i64 a4, .int .i64 a5, .int .i64 a6, .int .i64 a7, .int .i64 a8, .int .i64 a9, .int .i64 a10, .int .i64 a11, .int .i64 a12, .int .i64 a13, .int .i64 a14, .int .i64 a15, .int .i64 a16, .int .i64 a17, .int .i64 a18, .int .i64 a19, .int .i64 a20, .int .i64 a21, .slice a22 a22n a22c])]).run prog w= .ok (.slice (some ⟨w.heap.size,0,none⟩) 1 1) (w.alloc (Cl [.int .i64 a0, .int .i64 a1, .int .i64 a2, .int .i64 a3, .int .i64 a4, .int .i64 a5, .int .i64 a6, .int .i64 a7, .int .i64 a8, .int .i64 a9, .int .i64 a10, .int .i64 a11, .int .i64 a12, .int .i64 a13, .int .i64 a14, .int .i64 a15, .int .i64 a16, .int .i64 a17, .int .i64 a18, .int .i64 a19, .int .i64 a20, .int .i64 a21, .slice a22 a22n a22c] 124)):=by kernel_rfl
theorem rRules_s {w0:World}{H:List (Nat × Obj)}(n:Nm)(hn:NetM w0 H n)(q:Option Addr)(cap:Nat)(l:List Wm)(hw:WaysM w0 H q l)(hg:Gw n l)(hl5:l.length<=100000)(q2:Option Addr)(cap2:Nat)(tg:List Int)(ht:IntArr w0 H q2 tg)(htl:tg.length<=100000)(hel:tg.length=l.length)(hc:Cons n.links (pairs l tg))(hN:n.nodes.length<=1000000)(top:Int):
  FSpec prog w0 67 #[.agg (encNm n).toArray, .slice q l.length cap, .slice q2 tg.length cap2, .int .i64 top] H (fun v H'=>∃ (d:Sl) (ts:List Tb) (e:Int),v= .tuple #[slV d ts.length, .int .i64 e]/\SlOk d ts.length 1/\(∀ t∈ts,SlOk t.d t.rs.length 23)/\H'=tsH ts++(slH d (ts.flatMap encTb) 54++H)/\rulesRes n.nodes.length top (usedF tg) (planR n.links (pairs l tg))=(ts.map (fun t=>t.rs.map (·.r)),e)):=by
 refine Az func67 U ntmps67 U ?_;have hln:=hn.ln;refine Am (Ad (e_ (Lt U cs_) ?_ U));rintro _ _ ⟨n4,rfl,rfl⟩;refine y_ (Ag An) (y_ (Ag An) (Aj (Ah (Am (Am (Ad (y_ (Af (T U)) (y_ (Ci (T U) An) (y_ (Af (T U)) ?_ U) U) U)))))) U) U
 first|refine Bi (s:=21) (Aa U) (fun c21=> ?_) (fun c21=> ?_)|refine B2 (s:=21) (Aa U) (fun c21=> ?_) (fun c21=> ?_)
 ·refine Bs (Bs (y_ (Bh (T U) An) (Aj (Ah (Cf (Aa U) (Am (Ad (y_ (Ag An) (y_ (Ag An) (Aj (Ah (Bq (Aw (As U (.tmp (Aa U) (Ll U)) ?_))))) U) U)))))) U) U U U U) U U U U;exact⟨H,⟨.nil,[],1,rfl,rfl,by simp,rfl,by rw[rules_arg qom];rfl⟩,sbt⟩
 ·refine A3 (Af (T U)) U (Ax U U (Aa U)) (A3 (Dx (T U) An) U (Ax U U (Aa U)) (y_ (Bm (T U) (T U)) (Aj (Ah ?_)) U))
  first|refine Ak (Aa U) (fun c24=> ?_) (fun c24=> ?_)|refine Au (Aa U) (fun c24=> ?_) (fun c24=> ?_)
  ·refine Am (Ad (y_ (Ag An) (y_ (Ag An) (Aj (Ah (Bq (Aw (As U (.tmp (Aa U) (Ll U)) ?_))))) U) U));exact⟨H,⟨.nil,[],1,rfl,rfl,by simp,rfl,by rw[rules_arg qom];rfl⟩,sbt⟩
  ·refine Bp (Ah (Am (Ad (y_ (Af (T U)) (e_ (A1 (qe1 U) call117 (rUsed_s _ _ tg ht.m htl)) ?_ U) U))));rintro _ _ ⟨du,rfl,hoku,rfl⟩
   generalize hus:usedF tg=us at *;have hul:us.length<=65535:=by rw[<- hus];exact usedTo_len tg 65535
   refine y_ (Ag (T U)) (Aj (Ah (Am (Ad (y_ (Ag An) (Aj (Ah (Am (Am (Ad (y_ (Ag An) (Aj (Ah (Bo ?_))) U)))))) U))))) U;refine Bz (X:=Nat × Sl × List Tb) (V:=fun ⟨k,d,ts⟩=>[(12, .int .i64 (k:Nat)),(11,slV d ts.length)]) (C:=[(1,_),(2,_),(3,_),(4,_),(10,_)]) (G:=fun ⟨k,d,ts⟩=>tsH ts++(slH d (ts.flatMap encTb) 54++(slH du (us.flatMap encI) 3++((n4,Cl (encNm n) 26)::H)))) (φ:=fun ⟨k,d,ts⟩=>k<=n.nodes.length/\ts.length=k/\SlOk d ts.length 1/\(∀ t∈ts,SlOk t.d t.rs.length 23)/\∀ i:Nat,i<k->(gd ts i).rs.map (·.r)=tblK top (fun t=>planR n.links (pairs l tg) t i) us/\((tblK top (fun t=>planR n.links (pairs l tg) t i) us).length:Int)<=top/\(tblK top (fun t=>planR n.links (pairs l tg) t i) us).length<=4000) (μ:=fun ⟨k,d,ts⟩=>n.nodes.length - k) (x0:=(0, .nil,[])) ?_ (kg U) ⟨atd,atd,trivial⟩ sb0 ?_
   ·exact⟨Nat.zero_le _,rfl,rfl,by simp,fun i hi=>by omega⟩
   rintro⟨k,d,ts⟩ ⟨hk,htsl,hok,htok,htab⟩;refine Am (Am (Ad (y_ (Af (T U)) (y_ (Cj (T U) Eu) (y_ (Lo U isAgg22 (by first|exact c_o|exact c_m (ht.f0 (i:=m) qom U)|exact(Cell.mono (((A5 (w0:=w0) (enc:=encI) (sz:=1) (e:=3) (X:=H) (fun _=>rfl) hoku)).f0 (i:=i) qom U) sbt))) ?_ U) U) U)));refine y_ (Cd (T U) runUnderlying22) (y_ (Ci (T U) (T U)) (Aj (Ah ?_)) U) U
   first|refine Ak (Aa U) (fun c31=> ?_) (fun c31=> ?_)|refine Au (Aa U) (fun c31=> ?_) (fun c31=> ?_)
   ·refine Bp (Ah (Am (Bo (Am (Ad (y_ (Ag An) (Aj (Ah (Am (Am (Ad (y_ (Ag An) (Aj (Ah (Bo ?_))) U)))))) U))))));refine Bz (X:=Nat × Tb) (V:=fun ⟨i,t⟩=>[(14, .int .i64 (i:Nat)),(13,tbV t)]) (C:=[(1,_),(2,_),(3,_),(4,_),(10,_),(11,_),(12,_)]) (G:=fun ⟨i,t⟩=>slH t.d (t.rs.flatMap encRm) 124++(t.rs.flatMap rmH++(tsH ts++(slH d (ts.flatMap encTb) 54++(slH du (us.flatMap encI) 3++((n4,Cl (encNm n) 26)::H)))))) (φ:=fun ⟨i,t⟩=>i<=us.length/\SlOk t.d t.rs.length 23/\t.rs.map (·.r)=tblK top (fun t=>planR n.links (pairs l tg) t k) (us.take i)/\t.rs.length<=i) (μ:=fun ⟨i,t⟩=>us.length - i) (x0:=(0,⟨.nil,[]⟩)) ?_ (kg U) ⟨atd,atd,trivial⟩ sb0 ?_
    ·exact⟨Nat.zero_le _,rfl,by simp[tblK],Nat.zero_le _⟩
    rintro⟨i,t⟩ ⟨hi,hokt,htb,htl2⟩;refine Am (Am (Ad (y_ (Af (T U)) (y_ (Af (T U)) (y_ (Cd (T U) runUnderlying41) (y_ (Ci (T U) (T U)) (Aj (Ah ?_)) U) U) U) U)))
    first|refine Ak (Aa U) (fun c37=> ?_) (fun c37=> ?_)|refine Au (Aa U) (fun c37=> ?_) (fun c37=> ?_)
    ·refine Bp (Ah (Am (Bo (Am (Ad (y_ (Ag An) (Aj (Ah (Am (Ad (y_ (Ag An) (Aj (Ah (Bo ?_))) U))))) U))))));refine Bz (X:=Nat × Bool × Tb) (V:=fun ⟨m,fd,t⟩=>[(16, .int .i64 (m:Nat)),(15, .bool fd),(13,tbV t)]) (C:=[(1,_),(2,_),(3,_),(4,_),(10,_),(11,_),(12,_),(14,_)]) (G:=fun ⟨m,fd,t⟩=>slH t.d (t.rs.flatMap encRm) 124++(t.rs.flatMap rmH++(tsH ts++(slH d (ts.flatMap encTb) 54++(slH du (us.flatMap encI) 3++((n4,Cl (encNm n) 26)::H)))))) (φ:=fun ⟨m,fd,t⟩=>m<=l.length/\SlOk t.d t.rs.length 23/\(fd=true->t.rs.map (·.r)=tblK top (fun t=>planR n.links (pairs l tg) t k) (us.take (i+1))/\t.rs.length<=i+1)/\(fd=false->t.rs.map (·.r)=tblK top (fun t=>planR n.links (pairs l tg) t k) (us.take i)/\t.rs.length<=i/\∀ j,j<m->gd tg j=gd us i->atF n.links (gd l j).way k=none)) (μ:=fun ⟨m,fd,t⟩=>l.length - m) (x0:=(0,false,t)) ?_ (kg U) ⟨atd,atd,atd,trivial⟩ sb0 ?_
     ·exact⟨Nat.zero_le _,hokt,fun h=>(by cases h),fun _=>⟨htb,htl2,fun j hj=>by omega⟩⟩
     rintro⟨m,fd,t⟩ ⟨hm,hokt,hfd1,hfd0⟩;refine Am (Am (Ad (y_ (Af (T U)) (y_ (Af (T U)) (y_ (Cd (T U) runUnderlying27) (y_ (Ci (T U) (T U)) (y_ (Af (T U)) ?_ U) U) U) U) U)))
     first|refine Bi (s:=44) (Aa U) (fun c44=> ?_) (fun c44=> ?_)|refine B2 (s:=44) (Aa U) (fun c44=> ?_) (fun c44=> ?_)
     ·refine A3 (Af (T U)) U (Ax U U (Aa U)) ?_
      first|refine A3 (B7 (T U)) U (Ax U U (Aa U)) ?_|refine A3 (Cc (T U)) U (Ax U U (Aa U)) ?_
      refine y_ (Bh (T U) (T U)) (Aj (Ah ?_)) U
      first|refine Ak (Aa U) (fun c47=> ?_) (fun c47=> ?_)|refine Au (Aa U) (fun c47=> ?_) (fun c47=> ?_)
      ·obtain rfl:fd=false:=by simpa using c47
       have hfd:false=false:=rfl;refine Bp (Ah (Am (Bo (Am (B9 13 [(0,true),(1,true),(2,true),(3,true),(4,true),(5,true),(6,true),(7,true),(8,true),(9,true),(10,false),(11,false),(12,true)] _ mixd qkr sb0 ?_)))));refine o_y U (Lp U isAgg26 sizeOf26 U (by first|exact A2|exact Cw (ht.f0 (i:=m) qom U)|exact(Cell.mono (((A5 (w0:=w0) (enc:=encI) (sz:=1) (e:=3) (X:=H) (fun _=>rfl) hoku)).f0 (i:=i) qom U) sbt))) ?_ U Ac;refine o_y U (Af (T U)) (o_y U (Af (T U)) (o_y U (Lq U U runUnderlying27 sizeOf59 qom (by first|exact rfl|exact hw.arr.b (i:=m) qom|exact ht.b (i:=m) qom|exact hoku.bas qom)) ?_ U Ac) U Ac) U Ac;refine o_y U (Lp U isAgg59 sizeOf59 U (by first|exact A2|exact Cw (hw.arr.cs (i:=m) qom)|exact Cw (ht.f0 (i:=m) qom U)|exact(Cell.mono (((A5 (w0:=w0) (enc:=encI) (sz:=1) (e:=3) (X:=H) (fun _=>rfl) hoku)).f0 (i:=i) qom U) sbt))) ?_ U Ac;refine o_y U (Af (T U)) (o_y U (Bb (qe3 U U U) call118 (fun H' hs=>Lf n (hn.mono (stn hs)) (gd l m) ((hw.at (i:=m) qom).mono (stn hs)) (hg.inr _ (Ao qom)) (Nat.le_trans (hg.len _ (Ao (i:=m) qom)) qom) _)) ?_ U Ac) U Ac;refine o_y U (Af (T U)) (o_y U (Bx (T U) U) (o_y U (Bx (T U) U) (o_e U (Ap zeroValue194 cs_) ?_ U Ac) U Ac) U Ac) U Ac;rintro _ _ ⟨n17,rfl,rfl⟩;refine⟨sbt,?_⟩
       first|refine o_e U (Ls U U sizeOf194) ?_ U Ac
       rintro _ _ ⟨rfl,rfl⟩;refine⟨sbt,(o_y U (Ag (T U)) (Bj U (Aj (Ah (B5 [(1,_),(2,_),(3,_),(4,_),(10,_),(11,_),(12,_),(13,_),(14,_),(15,_),(16,_),(17,_),(18,_)] (kg U) (Am (B9 12 [(0,true),(1,true),(2,true),(3,true),(4,true),(5,true),(6,true),(7,true),(8,true),(9,true),(10,true),(11,true)] _ mixd qkr sb0 ?_)))))) U Ac)⟩;refine o_y U (Af (T U)) (o_y U (Af (T U)) ?_ U Ac) U Ac
       first|refine Cu (s:=61) (Aa U) (fun c61=> ?_) (fun c61=> ?_)|refine Ds (s:=61) (Aa U) (fun c61=> ?_) (fun c61=> ?_)
       ·obtain⟨hh,hat⟩:=Option.isSome_iff_exists.1 c61;have hlb:t.rs.length<=i:=(hfd0 hfd).2.1;refine o_y U (Af (T U)) (o_y U (Af (T U)) (o_y U (Lq U U runUnderlying41 sizeOf3 qom (by first|exact rfl|exact hw.arr.b (i:=m) qom|exact ht.b (i:=m) qom|exact hoku.bas qom)) ?_ U (Ax U U (Aa U))) U (Ax U U (Aa U))) U (Ax U U (Aa U));refine o_y U (Lo U isAgg3 (by first|exact c_o|exact c_m (ht.f0 (i:=m) qom U)|exact(Cell.mono (((A5 (w0:=w0) (enc:=encI) (sz:=1) (e:=3) (X:=H) (fun _=>rfl) hoku)).f0 (i:=i) qom U) sbt))) ?_ U (Ax U U (Aa U));refine o_y U (Af (T U)) (o_y U (Af (T U)) (o_y U (Bl (T U) (T U) runUnderlying41 sizeOf3 qom (by first|exact rfl|exact hw.arr.b (i:=m) qom|exact ht.b (i:=m) qom|exact hoku.bas qom)) ?_ U (Ax U U (Aa U))) U (Ax U U (Aa U))) U (Ax U U (Aa U));refine o_y U (Lo U isAgg3 (by first|exact c_o|exact c_m (ht.f0 (i:=m) qom U)|exact(Cell.mono (((A5 (w0:=w0) (enc:=encI) (sz:=1) (e:=3) (X:=H) (fun _=>rfl) hoku)).f0 (i:=i) qom U) sbt))) ?_ U (Ax U U (Aa U));refine o_y U (D9 (T U) (T U)) (o_y U (Bh (T U) (T U)) (Bj U (Aj (Ah (B5 [(1,_),(2,_),(3,_),(4,_),(10,_),(11,_),(12,_),(13,_),(14,_),(15,_),(16,_),(17,_),(71,_)] (kg U) ?_)))) U Ac) U (Ax U U (Aa U))
        first|refine Ak (Aa U) (fun c71=> ?_) (fun c71=> ?_)|refine Au (Aa U) (fun c71=> ?_) (fun c71=> ?_)
        ·refine Am (B9 12 [(0,true),(1,true),(2,true),(3,true),(4,true),(5,true),(6,true),(7,true),(8,true),(9,true),(10,false),(11,false)] _ mixd qkr sb0 ?_);refine o_y U (Af (T U)) (o_y U (Af (T U)) (o_y U (Af (T U)) (o_y U (Cd (T U) runUnderlying54) (o_y U (Ed (T U) (T U) qom) ?_ U Ac) U Ac) U Ac) U Ac) U Ac;refine o_y U (Af (T U)) (o_y U (Af (T U)) (o_y U (Bl (T U) (T U) runUnderlying41 sizeOf3 qom (by first|exact rfl|exact hw.arr.b (i:=m) qom|exact ht.b (i:=m) qom|exact hoku.bas qom)) ?_ U Ac) U Ac) U Ac;refine o_y U (Lo U isAgg3 (by first|exact c_o|exact c_m (ht.f0 (i:=m) qom U)|exact(Cell.mono (((A5 (w0:=w0) (enc:=encI) (sz:=1) (e:=3) (X:=H) (fun _=>rfl) hoku)).f0 (i:=i) qom U) sbt))) ?_ U Ac;refine o_y U (Lp U isAgg194 sizeOf194 U (by first|exact A2|exact Cw (ht.f0 (i:=m) qom U)|exact(Cell.mono (((A5 (w0:=w0) (enc:=encI) (sz:=1) (e:=3) (X:=H) (fun _=>rfl) hoku)).f0 (i:=i) qom U) sbt))) ?_ U Ac;refine o_e U (A1 (qe3 U U U) call119 (rule_s _ _ _ (by rw[show hopOr (atF n.links (gd l m).way k)=hh by rw[hat];rfl];exact hop_link (hg.inr _ (Ao (i:=m) qom)) hat))) ?_ U Ac;rintro _ _ ⟨o,a,rfl,rfl⟩;refine⟨sbt,(o_e U (A7 (.cons (T U) .nil) (bs51_1_0 _ _ _ _ _ _ _ _ _ _ _ _ _ _ _ _ _ _ _ _ _ _ _ _ _)) ?_ U Ac)⟩;rintro _ _ ⟨n83,rfl,rfl⟩;refine⟨sbt,(Bj U (e_ (Br ((⟨⟨top - t.rs.length,gd us i,hopOr (atF n.links (gd l m).way k)⟩,o,a⟩:Rm)) (by':=200) qlc (T U) (T U) runUnderlying54 runUnderlying54 sizeOf124 typeInfo124 U zeroValue124 U (fun _=>rfl) U hokt qde qom) ?_ U))⟩;rintro _ _ ⟨d',rfl,hok',rfl⟩;refine y_ (Ag (T U)) (Aj (Ah (B5 [(1,_),(2,_),(3,_),(4,_),(10,_),(11,_),(12,_),(13,_),(14,_),(16,_)] (kg U) (Ad (y_ (Ag An) (Aj (B4 (Ah (Ad (y_ (Af (T U)) (y_ (Bd (T U) An qom) ?_ U) U))))) U))))) U;refine y_ (Ag (T U)) (Aj (Jy (H':=rmH (⟨⟨top - t.rs.length,gd us i,hopOr (atF n.links (gd l m).way k)⟩,o,a⟩:Rm)++(slH d' ((t.rs++[(⟨⟨top - t.rs.length,gd us i,hopOr (atF n.links (gd l m).way k)⟩,o,a⟩:Rm)]).flatMap encRm) 124++(t.rs.flatMap rmH++(tsH ts++(slH d (ts.flatMap encTb) 54++(slH du (us.flatMap encI) 3++((n4,Cl (encNm n) 26)::H))))))) sbt (Bn (tb_add2 _ _ _ _) ?_))) U;refine A8 ((m+1,true,⟨d',t.rs++[(⟨⟨top - t.rs.length,gd us i,hopOr (atF n.links (gd l m).way k)⟩,o,a⟩:Rm)]⟩)) ?_ ?_ ⟨atd,atd,atd,trivial⟩ (kg U) ?_
         ·have h0:=hfd0 hfd;refine⟨by omega,by simpa using hok',fun _=>⟨?_,by simp;omega⟩,fun h=>(by cases h)⟩;have hpl:planR n.links (pairs l tg) (gd us i) k=some hh:=by
           have:=Io hc (e:=((gd l m).way,gd tg m)) ((C8 qom).2 ⟨m,by omega,rfl⟩) hat
           rw[<- c71];exact this
          rw[tblK_take qom,Fa (f:=(fun t=>planR n.links (pairs l tg) t k)) hpl,<- h0.1];simp[hat,hopOr]
         ·first|omega|(simp only[];omega)
         ·exact sbt
        ·refine Bp (B4 (Ah (Ad (y_ (Af (T U)) (y_ (Bd (T U) An qom) ?_ U) U))));refine y_ (Ag (T U)) (Aj ?_) U;refine A8 ((m+1,false,t)) ?_ ?_ ⟨atd,atd,atd,trivial⟩ (kg U) ?_
         ·have h0:=hfd0 hfd;refine⟨by omega,hokt,fun h=>(by cases h),fun _=>⟨h0.1,h0.2.1,fun j hj hje=> ?_⟩⟩
          by_cases e:j=m
          ·subst e;exact absurd hje c71
          ·exact h0.2.2 j qom hje
         ·first|omega|(simp only[];omega)
         ·exact sbt
       ·refine o_n U (o_n U (o_n U (o_n U (o_n U (o_n U (o_n U (o_n U (o_n U (o_y U (Bm (T U) An) (Bj U (Aj (Ah (B5 [(1,_),(2,_),(3,_),(4,_),(10,_),(11,_),(12,_),(13,_),(14,_),(15,_),(16,_),(17,_),(71,_)] (kg U) (Cz (Aa U) (Bp (B4 (Ah (Ad (y_ (Af (T U)) (y_ (Bd (T U) An qom) ?_ U) U)))))))))) U Ac) U (H7 U U (Aa U))) U (H7 U U (Aa U))) U (H7 U U (Aa U))) U (H7 U U (Aa U))) U (H7 U U (Aa U))) U (H7 U U (Aa U))) U (H7 U U (Aa U))) U (H7 U U (Aa U))) U (H7 U U (Aa U));refine y_ (Ag (T U)) (Aj ?_) U;refine A8 ((m+1,false,t)) ?_ ?_ ⟨atd,atd,atd,trivial⟩ (kg U) ?_
        ·have h0:=hfd0 hfd;refine⟨by omega,hokt,fun h=>(by cases h),fun _=>⟨h0.1,h0.2.1,fun j hj hje=> ?_⟩⟩
         by_cases e:j=m
         ·subst e;simpa using c61
         ·exact h0.2.2 j qom hje
        ·first|omega|(simp only[];omega)
        ·exact sbt
      ·refine Ct (Bv (Aq (Bw (B4 (Ah (Ad (y_ (Af (T U)) (y_ (Bd (T U) An qom) ?_ U) U)))))));refine y_ (Ag (T U)) (Aj ?_) U;refine A8 ((i+1,t)) ?_ ?_ ⟨atd,atd,trivial⟩ (kg U) ?_
       ·have hf:fd=true:=by simpa using c47
        exact⟨by omega,hokt,(hfd1 hf).1,(hfd1 hf).2⟩
       ·first|omega|(simp only[];omega)
       ·exact sbt
     ·refine B8 (B8 (y_ (Bm (T U) An) (Aj (Ah (Cz (Aa U) (Ct (Bv (Aq (Bw (B4 (Ah (Ad (y_ (Af (T U)) (y_ (Bd (T U) An qom) ?_ U) U))))))))))) U) U U U U) U U U U;refine y_ (Ag (T U)) (Aj ?_) U;refine A8 ((i+1,t)) ?_ ?_ ⟨atd,atd,trivial⟩ (kg U) ?_
      ·cases fd with
       |true=>exact⟨by omega,hokt,(hfd1 rfl).1,(hfd1 rfl).2⟩
       |false=>
        have h0:=hfd0 U;refine⟨by omega,hokt,?_,by omega⟩;rw[tblK_take qom,tblS_none (f:=(fun t=>planR n.links (pairs l tg) t k)) ?_]
        ·exact h0.1
        ·exact plan_none fun e he het=>by obtain⟨j,hj,rfl⟩:=(C8 qom).1 he;exact h0.2.2 j qom het
      ·first|omega|(simp only[];omega)
      ·exact sbt
    ·refine Ct (Bv (Aq (Bw (Ah (Am (Am (Ad (y_ (Af (T U)) (y_ (Cd (T U) runUnderlying54) (y_ (Af (T U)) (y_ (Dx (T U) (T U)) (y_ (Af (T U)) ?_ U) U) U) U) U))))))))
     first|refine Bi (s:=89) (Aa U) (fun c89=> ?_) (fun c89=> ?_)|refine B2 (s:=89) (Aa U) (fun c89=> ?_) (fun c89=> ?_)
     ·refine Bs (Bs (Bs (y_ (Bh (T U) An) (Aj (Ah (Cf (Aa U) (Am (Ad (y_ (Ag An) (y_ (Ag An) (Aj (Ah (B5 [(8,_),(9,_)] (kg U) (Bq (Aw (A4 (Aw (Bc (A4 (Aw (As U (.tmp (Aa U) (Ll U)) ?_))))))))))) U) U)))))) U) U U U U) U U U U) U U U U;have hk':t.rs.map (·.r)=tblK top (fun t=>planR n.links (pairs l tg) t k) us:=by rw[htb,Er qom]
      have hlen:(tblK top (fun t=>planR n.links (pairs l tg) t k) us).length=t.rs.length:=by rw[<- hk'];simp
      exact⟨H,⟨.nil,[],2,rfl,rfl,by simp,rfl,by rw[Gj (k:=k) qom qom qom];rfl⟩,sbt⟩
     ·refine A3 (Af (T U)) U (Ax U U (Aa U)) (A3 (Cd (T U) runUnderlying54) U (Ax U U (Aa U)) (A3 (Dx (T U) An) U (Ax U U (Aa U)) (y_ (Bm (T U) (T U)) (Aj (Ah ?_)) U)))
      first|refine Ak (Aa U) (fun c93=> ?_) (fun c93=> ?_)|refine Au (Aa U) (fun c93=> ?_) (fun c93=> ?_)
      ·refine Am (Ad (y_ (Ag An) (y_ (Ag An) (Aj (Ah (B5 [(8,_),(9,_)] (kg U) (Bq (Aw (A4 (Aw (Bc (A4 (Aw (As U (.tmp (Aa U) (Ll U)) ?_))))))))))) U) U));have hk':t.rs.map (·.r)=tblK top (fun t=>planR n.links (pairs l tg) t k) us:=by rw[htb,Er qom]
       have hlen:(tblK top (fun t=>planR n.links (pairs l tg) t k) us).length=t.rs.length:=by rw[<- hk'];simp
       exact⟨H,⟨.nil,[],2,rfl,rfl,by simp,rfl,by rw[Gj (k:=k) qom qom qom];rfl⟩,sbt⟩
      ·refine Bp (Ah (Ad (y_ (Af (T U)) (y_ (Af (T U)) (e_ (A7 (.cons (T U) .nil) (bs39_1_0 _ _ _)) ?_ U) U) U)));rintro _ _ ⟨n96,rfl,rfl⟩;refine e_ (Br (t) (by':=24) qlc (T U) (T U) runUnderlying49 runUnderlying49 sizeOf54 typeInfo54 U zeroValue54 U (fun _=>rfl) U hok qde qom) ?_ U;rintro _ _ ⟨d',rfl,hok',rfl⟩;refine y_ (Ag (T U)) (Aj (B4 (Ah (B5 [(1,_),(2,_),(3,_),(4,_),(10,_),(11,_),(12,_)] (kg U) (Ad (y_ (Af (T U)) (y_ (Bd (T U) An qom) ?_ U) U)))))) U;refine y_ (Ag (T U)) (Aj (Jy (H':=slH t.d (t.rs.flatMap encRm) 124++(t.rs.flatMap rmH++(tsH ts++(slH d' ((ts++[t]).flatMap encTb) 54++(slH du (us.flatMap encI) 3++((n4,Cl (encNm n) 26)::H)))))) sbt (Bn (ts_snoc ts t _) ?_))) U;refine A8 ((k+1,d',ts++[t])) ?_ ?_ ⟨atd,atd,trivial⟩ (kg U) ?_
       ·have hk':t.rs.map (·.r)=tblK top (fun t=>planR n.links (pairs l tg) t k) us:=by rw[htb,Er qom]
        have hlen:(tblK top (fun t=>planR n.links (pairs l tg) t k) us).length=t.rs.length:=by rw[<- hk'];simp
        refine⟨by omega,by simp[htsl],by simpa using hok',?_,?_⟩
        ·intro u hu;rcases List.mem_append.1 hu with h|h
         ·exact htok u h
         ·simp at h;subst h;exact hokt
        ·intro j hj
         by_cases e:j=k
         ·subst e;rw[show gd (ts++[t]) j=t from by rw[Ay (by simp;omega)];simp[htsl]];exact⟨hk',by omega,by omega⟩
         ·rw[show gd (ts++[t]) j=gd ts j from by rw[Ay (by simp;omega),Ay qom,List.getElem_append_left]];exact htab j qom
       ·first|omega|(simp only[];omega)
       ·exact sbt
   ·refine Ct (Bv (Aq (Bw (Ah (Am (Ad (y_ (Af (T U)) (y_ (Ag (T U)) (y_ (Ag An) (Aj (Ah (Bq (As U (.tmp (Aa U) (Ll U)) ?_)))) U) U) U)))))));exact⟨_,⟨d,ts,0,rfl,hok,htok,rfl,rules_ok qom (fun k' hk'=>(htab k' qom).2) (by simp;omega) (fun k' hk'=>by rw[Cr qom];exact(htab k' qom).1)⟩,sbt⟩
theorem Hr {K V:Type}[DecidableEq K]:∀ (l:List (K × V)) (k:K),(look l k).isSome=true↔k∈l.map (·.1)
 |[],k=>by simp[look,findI]
 |e::l,k=>by
  rw[Db]
  split
  ·rename_i h;simp[h]
  ·rename_i h;rw[Hr l k];simp only[List.map_cons,List.mem_cons];exact⟨fun h2=> .inr h2,fun h2=>h2.resolve_left (fun h3=>h h3.symm)⟩
theorem keysEn_perm {pl:PlanL}{k:List (Int × Int)}(h:KeysEn pl k):k.Perm (pl.map (·.1)):=by
 obtain⟨seen,h1,h2,rfl⟩:=h;have h3:seen.Perm (List.range pl.length):=(List.perm_ext_iff_of_nodup h1 List.nodup_range).2 fun i=>by rw[h2,List.mem_range]
 have h4:=h3.map fun i=>(gd pl i).1
 have h5:(List.range pl.length).map (fun i=>(gd pl i).1)=pl.map (·.1):=by
  apply List.ext_getElem (by simp);intro i h6 h7;simp at h6;simp[Ay h6]
 rw[h5] at h4;exact h4
theorem plan_dom {n:Nm}{l:List Wm}(hg:Gw n l){tg:List Int}(hel:tg.length=l.length)(hb:∀ i,i<tg.length->1<=gd tg i/\gd tg i<=65535){t k:Int}{h:Hop}(hp:planR n.links (pairs l tg) t k=some h):
  (1<=t/\t<=65535)/\(0<=k/\k<n.nodes.length)/\(h.link= -1\/0<=h.link)/\t∈tg:=by
 obtain⟨e,he,h1,h2⟩:=E5 hp;obtain⟨i,hi,rfl⟩:=(C8 qom).1 he;simp only at h1 h2;refine⟨h1 ▸ hb i hi,?_,hop_link (hg.inr _ (Ao qom)) h2,h1 ▸ Ao hi⟩;exact hg.at' _ (Ao qom) _ (Hf h2)
def tblP (top:Int) (f:Int->Int->Option Hop) (ks:List (Int × Int)) (j:Int):List Rul:=tblK top (fun t=>f t j) ((ks.filter fun p=>p.2==j).map (·.1))
theorem Ht {top:Int}{f:Int->Int->Option Hop}{ks:List (Int × Int)}{k:Nat}(hk:k<ks.length)(j:Int):tblP top f (ks.take (k+1)) j=if (gd ks k).2=j then tblS top (fun t=>f t j) (tblP top f (ks.take k) j) (gd ks k).1 else tblP top f (ks.take k) j:=by
 unfold tblP;rw[C6 hk,List.filter_append]
 by_cases h:(gd ks k).2=j
 ·rw[if_pos h];simp only[List.filter_cons,beq_iff_eq,h,if_true,List.filter_nil,List.map_append,List.map_cons,List.map_nil,tblK_snoc]
 ·rw[if_neg h];have hb:((gd ks k).2==j)=false:=by simpa using h
  simp[List.filter_cons,h]
theorem tblP_le (top:Int)(f:Int->Int->Option Hop)(ks:List (Int × Int))(k:Nat)(j:Int):(tblP top f (ks.take k) j).length<=(tblP top f ks j).length:=by
 unfold tblP
 conv=>rhs;rw[<- List.take_append_drop k ks]
 rw[List.filter_append,List.map_append];exact tblK_len_le _ _ _ _
theorem tblP_all {n:Nm}{l:List Wm}(hg:Gw n l){tg:List Int}(hel:tg.length=l.length)(hb:∀ i,i<tg.length->1<=gd tg i/\gd tg i<=65535){pl:PlanL}(hrep:RepT n.links pl (pairs l tg))(hok:PlOkT l l.length pl){k0 ks:List (Int × Int)}
  (hen:KeysEn pl k0) (hpm:ks.Perm k0) (hpw:ks.Pairwise fun a b=>a.1<=b.1) (top j:Int):tblP top (planR n.links (pairs l tg)) ks j=tblK top (fun t=>planR n.links (pairs l tg) t j) (usedF tg):=by
 have hp2:=hpm.trans (keysEn_perm hen);have hmem:∀ t k,(t,k)∈ks↔t∈usedF tg/\(planR n.links (pairs l tg) t k).isSome=true:=fun t k=>by
  rw[hp2.mem_iff,<- Hr,hrep t k]
  constructor
  ·intro h;obtain⟨x,hx⟩:=Option.isSome_iff_exists.1 h;have hd:=plan_dom hg hel hb hx;refine⟨?_,h⟩;unfold usedF;exact usedTo_mem.2 ⟨by omega,hd.2.2.2⟩
  ·exact fun h=>h.2
 have h1:=places_node (ps:=ks) (us:=usedF tg) (f:=fun t k=>(planR n.links (pairs l tg) t k).isSome) (hp2.nodup_iff.2 hok.nd) hpw (usedTo_incr tg 65535) hmem j;unfold tblP tblK;rw[h1,<- tblK_filter]
theorem ts_expose {ts:List Tb}{j:Nat}(h:j<ts.length)(Z:List (Nat × Obj)):(tsH ts++Z).Perm (slH (gd ts j).d ((gd ts j).rs.flatMap encRm) 124++((gd ts j).rs.flatMap rmH++(tsH (restT ts j)++Z))):=by
 have:=(ts_split h).append_right Z;unfold tbH at this
 simpa only[List.append_assoc] using this
theorem ts_close {ts:List Tb}{j:Nat}(h:j<ts.length)(d:Sl)(rs:List Rm)(m:Rm)(Z:List (Nat × Obj)):(rmH m++(slH d ((rs++[m]).flatMap encRm) 124++(rs.flatMap rmH++(tsH (restT ts j)++Z)))).Perm (tsH (ts.set j ⟨d,rs++[m]⟩)++Z):=by
 refine(tb_add2 _ _ _ _).trans ?_;have:=(ts_join (⟨d,rs++[m]⟩:Tb) h).append_right Z;unfold tbH at this
 simpa only[List.append_assoc] using this
theorem ts_nil (N:Nat):tsH (List.replicate N ⟨.nil,[]⟩)=[]:=by
 induction N with
 |zero=>rfl
 |succ N ih=>rw[List.replicate_succ];unfold tsH at *;rw[List.flatMap_cons,ih];rfl
theorem Jk (ts:List Tb):ts.flatMap encTb=ts.map tbV:=Ik ts
theorem ts_zero (N:Nat):(List.replicate N (⟨.nil,[]⟩:Tb)).flatMap encTb=List.replicate N (.slice none 0 0):=by rw[Jk];simp[slQ,slC]
theorem c_tb {w0:World}{H:List (Nat × Obj)}{b:Nat}{ts:List Tb}{j:Nat}(hf:Fnd H b (Cl (ts.flatMap encTb) 54))(hj:j<ts.length):Cell w0 H ⟨b,0+j*1,none⟩ (tbV (gd ts j)):=by
 refine B6 hf ?_;rw[Jk];simp[hj,Ay hj]
theorem eff_sT {P:Program}{w0:World}{L:Fm}{ty t:TypeId}{x y:Operand}{H H':List (Nat × Obj)}{b:Nat}{ts:List Tb}{j:Nat}{v:Value}(t':Tb)(hx:Ev L x (.pointer (some ⟨b,0+j*1,none⟩)))(hy:Ev L y v)(hv:v=tbV t')(hz:∀ w,(sizeOf t).run P w= .ok 1 w)(hj:j<ts.length)
  (hu:Upd H b (Cl (ts.flatMap encTb) 54) (Cl ((ts.set j t').flatMap encTb) 54) H'):Eff P w0 (.store t x y) ty L H (Still undef H'):=by
 subst hv;refine Dz hx hy U hz ?_ hu;rw[Jk,Jk,show (ts.set j t').map tbV=(ts.map tbV).set (0+j*1) (tbV t') by simp];exact Gx (by simpa using hj)
theorem gd_set_neT {ts:List Tb}{i j:Nat}(t:Tb)(h: ¬ i=j):gd (ts.set j t) i=gd ts i:=by
 unfold gd;simp only[List.getD];rw[List.getElem?_set_ne qom]
theorem yl_lookH1 {w0:World}{L:Fm}{H:List (Nat × Obj)}{ty:TypeId}{x y:Operand}{r:Nat}{l:PlanL}{k:Int × Int}{v:Value}{h:Hop}(hlk:look l k=some h)(hx:Ev L x (.map (some r)))(hy:Ev L y v)(hv:v=encK2 k)(hf:Fnd H r (mapO encK2 encHv l)):
  Yl prog w0 (.lookup 108 x y false) ty L H (encHv h):=by
 have h1:=G9 (P:=prog) (w0:=w0) (ty:=ty) (keyP (V:=Hop)) hx hy hv runUnderlying108 zeroValue194 hf
 rwa [hlk] at h1
theorem bd56_0_1_2 (a0:Int)(a1:Int)(a2:Int)(a3:Int)(a4:Int)(a5:Int)(a6:Int)(a7:Int)(a8:Int)(a9:Int)(a10:Int)(a11:Int)(a12:Int)(a13:Int)(a14:Int)(a15:Int)(a16:Int)(a17:Int)(a18:Int)(a19:Int)(a20:Int)(a21:Int)(w:World):(Instr.build 124 #[(0, .int .i64 a0),(1, .agg #[.int .i64 a1, .int .i64 a2, .int .i64 a3, .int .i64 a4, .int .i64 a5, .int .i64 a6, .int .i64 a7, .int .i64 a8, .int .i64 a9, .int .i64 a10, .int .i64 a11, .int .i64 a12, .int .i64 a13, .int .i64 a14, .int .i64 a15, .int .i64 a16, .int .i64 a17, .int .i64 a18, .int .i64 a19, .int .i64 a20]),(2, .int .i64 a21)]).run prog w= .ok (.agg #[.int .i64 a0, .int .i64 a1, .int .i64 a2, .int .i64 a3, .int .i64 a4, .int .i64 a5, .int .i64 a6, .int .i64 a7, .int .i64 a8, .int .i64 a9, .int .i64 a10, .int .i64 a11, .int .i64 a12, .int .i64 a13, .int .i64 a14, .int .i64 a15, .int .i64 a16, .int .i64 a17, .int .i64 a18, .int .i64 a19, .int .i64 a20, .int .i64 a21, .slice none 0 0]) w:=by kernel_rfl
theorem bd65_z  (w:World):(Instr.build 125 #[]).run prog w= .ok (.agg #[.int .i64 0, .int .i64 0, .int .i64 0, .int .i64 0, .int .i64 0, .int .i64 0, .int .i64 0, .int .i64 0, .int .i64 0, .int .i64 0, .int .i64 0, .int .i64 0, .int .i64 0, .int .i64 0, .int .i64 0, .int .i64 0, .int .i64 0, .int .i64 0, .int .i64 0, .int .i64 0]) w:=by kernel_rfl
theorem bd67_0_1 (a0:Int)(a1:Int)(a2:Int)(a3:Int)(a4:Int)(a5:Int)(a6:Int)(a7:Int)(a8:Int)(a9:Int)(a10:Int)(a11:Int)(a12:Int)(a13:Int)(a14:Int)(a15:Int)(a16:Int)(a17:Int)(a18:Int)(a19:Int)(a20:Int)(w:World):(Instr.build 127 #[(0, .int .i64 a0),(1, .agg #[.int .i64 a1, .int .i64 a2, .int .i64 a3, .int .i64 a4, .int .i64 a5, .int .i64 a6, .int .i64 a7, .int .i64 a8, .int .i64 a9, .int .i64 a10, .int .i64 a11, .int .i64 a12, .int .i64 a13, .int .i64 a14, .int .i64 a15, .int .i64 a16, .int .i64 a17, .int .i64 a18, .int .i64 a19, .int .i64 a20])]).run prog w= .ok (.agg #[.int .i64 a0, .int .i64 a1, .int .i64 a2, .int .i64 a3, .int .i64 a4, .int .i64 a5, .int .i64 a6, .int .i64 a7, .int .i64 a8, .int .i64 a9, .int .i64 a10, .int .i64 a11, .int .i64 a12, .int .i64 a13, .int .i64 a14, .int .i64 a15, .int .i64 a16, .int .i64 a17, .int .i64 a18, .int .i64 a19, .int .i64 a20]) w:=by kernel_rfl
theorem rules_s {w0:World}{H:List (Nat × Obj)}(n:Nm)(hn:NetM w0 H n)(q:Option Addr)(cap:Nat)(l:List Wm)(hw:WaysM w0 H q l)(hg:Gw n l)(hl5:l.length<=100000)(q2:Option Addr)(cap2:Nat)(tg:List Int)(ht:IntArr w0 H q2 tg)(htl:tg.length<=100000)(hel:tg.length=l.length)(hrt:rgtF n.links [] (l.map (·.way)) tg=true)(hN:n.nodes.length<=1000000)(hl3:l.length<=1000)(hsm:∀ m∈l,m.way.links.length+1<=100)(top:Int):
  FSpec prog w0 64 #[.agg (encNm n).toArray, .slice q l.length cap, .slice q2 tg.length cap2, .int .i64 top] H (fun v H'=>∃ (d:Sl) (ts:List Tb) (e:Int),v= .tuple #[slV d ts.length, .int .i64 e]/\SlOk d ts.length 1/\(∀ t∈ts,SlOk t.d t.rs.length 23)/\H'=tsH ts++(slH d (ts.flatMap encTb) 54++H)/\rulesRes n.nodes.length top (usedF tg) (planR n.links (pairs l tg))=(ts.map (fun t=>t.rs.map (·.r)),e)):=by
 refine Az func64 U ntmps64 U ?_;have hln:=hn.ln;have hrc:=Iu hg hel hrt;have hmd:madF n.links [] (l.map (·.way)) tg=true:=by rw[E0] at hrt;simp at hrt;exact hrt.2
 refine Am (Ad (e_ (Lt U cs_) ?_ U));rintro _ _ ⟨n4,rfl,rfl⟩;refine y_ (Ag An) (y_ (Ag An) (Aj (Ah (Am (Am (Ad (y_ (Af (T U)) (y_ (Bb (.cons (T U) (.cons An (.cons An .nil))) call59 (fun H' hs=>within_sT _ _ _)) ?_ U) U)))))) U) U
 first|refine A3 (B7 (T U)) U Ac ?_|refine A3 (Cc (T U)) U Ac ?_
 refine Aj (Ah ?_)
 first|refine Ak (Aa U) (fun c22=> ?_) (fun c22=> ?_)|refine Au (Aa U) (fun c22=> ?_) (fun c22=> ?_)
 ·refine Am (Ad (y_ (Ag An) (y_ (Ag An) (Aj (Ah (Bq (Aw (As U (.tmp (Aa U) (Ll U)) ?_))))) U) U));exact⟨H,⟨.nil,[],1,rfl,rfl,by simp,rfl,by rw[rules_arg qom];rfl⟩,sbt⟩
 ·refine Bp (Ah (Am (Ad (y_ (Lp U isAgg26 sizeOf26 U (by first|exact A2)) ?_ U))));refine y_ (Af (T U)) (y_ (Af (T U)) (e_ (A1 (qe3 U U U) call110 (made_ok n hn.mono _ _ l hw.mono hg.good hl5 _ _ tg ht.m htl hel hmd)) ?_ U) U) U;rintro _ _ ⟨r,pl,rfl,rfl,hrep,hplk⟩;refine y_ (Af (T U)) (y_ (Bx (T U) U) (y_ (Bx (T U) U) (y_ (Ag (T U)) (y_ (Ag (T U)) (Aj (Ah (Am (Ad (y_ (Ag Ku) (Aj (Ah (Am (Ad (y_ (Cj (T U) Eu) (y_ (Lo U isAgg22 (by first|exact c_o)) ?_ U) U))))) U))))) U) U) U) U) U;refine y_ (Cd (T U) runUnderlying22) (e_ (Cp (by':=24) (T U) runUnderlying49 sizeOf54 typeInfo54 U zeroValue54 U qom qom) ?_ U) U;rintro _ _ ⟨n33,rfl,rfl⟩;refine y_ (Ag (T U)) (Aj (Ah (Am (Am (Ad (y_ (Af (T U)) (e_ (A1 (qe1 U) call115 (keys_s _)) ?_ U) U)))))) U;rintro _ _ ⟨n35,rfl,rfl⟩;have hpll:pl.length<=100000:=by
   have:=hplk.len 100 hsm;omega
  have hkb:∀ e∈pl,1<=e.1.1/\e.1.1<=65535:=fun e he=>by
   obtain⟨h,hh⟩:=Option.isSome_iff_exists.1 ((Hr pl e.1).2 (List.mem_map.2 ⟨e,he,rfl⟩));have h2:look pl e.1=planR n.links (pairs l tg) e.1.1 e.1.2:=hrep e.1.1 e.1.2;rw[hh] at h2;exact(plan_dom hg hel hrc.2 h2.symm).1
  refine y_ (Af (T U)) ?_ U;refine e_ (A1 (qe2 U U) call114 (sortedF_s _ r pl fdd fdd qom hkb)) ?_ U;rintro _ _ ⟨dk,ks,rfl,hokk,⟨k0,hen,hpm⟩,hpw,rfl⟩;have hall:=tblP_all hg hel hrc.2 hrep hplk hen hpm hpw;have hkl:ks.length<=100000:=by have h1:=hpm.length_eq;have h2:=keysEn_len hen;omega
  have hks:∀ k,k<ks.length->∃ h,look pl (gd ks k)=some h/\planR n.links (pairs l tg) (gd ks k).1 (gd ks k).2=some h/\(1<=(gd ks k).1/\(gd ks k).1<=65535)/\(0<=(gd ks k).2/\(gd ks k).2<n.nodes.length)/\(h.link= -1\/0<=h.link):=fun k hk=>by
   have h1:gd ks k∈pl.map (·.1):=(hpm.trans (keysEn_perm hen)).mem_iff.1 (Ao hk);obtain⟨h,hh⟩:=Option.isSome_iff_exists.1 ((Hr _ _).2 h1);have h2:look pl (gd ks k)=planR n.links (pairs l tg) (gd ks k).1 (gd ks k).2:=hrep _ _;rw[hh] at h2;have h3:=plan_dom hg hel hrc.2 h2.symm;exact⟨h,hh,h2.symm,h3.1,h3.2.1,h3.2.2.1⟩
  refine y_ (Cd (T U) runUnderlying199) (y_ (Af An) (Aj (Ah (B5 [(3,_),(10,_),(13,_),(37,_),(38,_),(39,_)] (kg U) (Bo ?_)))) U) U;refine Bz (X:=Nat × List Tb) (V:=fun ⟨k,ts⟩=>[(39, .int .i64 (k:Nat))]) (C:=[(3,_),(10,_),(13,_),(37,_),(38,_)]) (G:=fun ⟨k,ts⟩=>tsH ts++(slH dk (ks.flatMap encPlT) 197++((n35,Cl [.map (some r)] 108)::(n33,Cl (ts.flatMap encTb) 54)::(r,mapO encK2 encHv pl)::(n4,Cl (encNm n) 26)::H))) (φ:=fun ⟨k,ts⟩=>k<=ks.length/\ts.length=n.nodes.length/\(∀ t∈ts,SlOk t.d t.rs.length 23)/\∀ j:Nat,j<n.nodes.length->(gd ts j).rs.map (·.r)=tblP top (planR n.links (pairs l tg)) (ks.take k) j/\((gd ts j).rs.length:Int)<=top/\(gd ts j).rs.length<=4000) (μ:=fun ⟨k,ts⟩=>ks.length - k) (x0:=(0,List.replicate n.nodes.length ⟨.nil,[]⟩)) ?_ (kg U) ⟨atd,trivial⟩ (by simp only[];rw[ts_nil,ts_zero];exact sb0) ?_
  ·refine⟨Nat.zero_le _,by simp,fun t ht2=> ?_,fun j hj=> ?_⟩
   ·rw[List.eq_of_mem_replicate ht2];rfl
   ·rw[Ay (by simpa using hj)];simp[tblP,tblK];omega
  rintro⟨k,ts⟩ ⟨hk,htl3,htok,htab⟩;refine Am (Ad (y_ (Ci (T U) (T U)) (Aj (Ah (Am ?_))) U))
  first|refine Ak (Aa U) (fun c40=> ?_) (fun c40=> ?_)|refine Au (Aa U) (fun c40=> ?_) (fun c40=> ?_)
  ·obtain⟨h,hlk,hpf,hpt,hpn,hlnk⟩:=hks k qom;obtain⟨hjt,hjl1,hjl2⟩:=htab (gd ks k).2.toNat qom;have hjc:(((gd ks k).2.toNat:Nat):Int)=(gd ks k).2:=by omega
   have hokj:=htok (gd ts (gd ks k).2.toNat) (Ao qom);refine j_perm (ts_expose (ts:=ts) (j:=(gd ks k).2.toNat) qom _) ?_;refine Bp (Ah (Am (Bo (Am (Ad (y_ (Lq U U runUnderlying199 sizeOf197 qom (by first|exact rfl|exact hokk.bas qom)) ?_ U))))));refine y_ (Lp U isAgg197 sizeOf197 U (by first|exact Cw (Arr.cs (A5 (w0:=w0) (enc:=encPlT) (sz:=2) (e:=197) (X:=H) (fun _=>rfl) hokk) (i:=k) qom)|exact A2)) ?_ U;refine e_ (Ap zeroValue197 cs_) ?_ U;rintro _ _ ⟨n15,rfl,rfl⟩
   first|refine A9 (Ls U U sizeOf197) U Ac ?_
   rintro _ _ ⟨rfl,rfl⟩;refine Aj (Ah (Am (B9 11 [(0,true),(1,true),(2,true),(3,true),(4,true),(5,true),(6,true),(7,true),(8,false),(9,false),(10,true)] _ mixd qkr sb0 ?_)));refine o_y U (Af (T U)) (o_y U (Lp U isAgg197 sizeOf197 U (by first|exact A2)) ?_ U Ac) U Ac;refine o_y U (yl_lookH1 hlk (T U) (T U) U fdd) ?_ U Ac;refine o_y U (Af (T U)) (o_y U (Bt (T U) J5) (o_y U (Lo U isAgg3 (by first|exact c_o)) ?_ U Ac) U Ac) U Ac;refine o_y U (Bl (T U) (T U) runUnderlying49 sizeOf54 qom (by first|exact rfl|exact hokk.bas qom)) ?_ U Ac;refine o_y U (Lo U isAgg54 (by first|exact c_o|exact c_tb (j:=(gd ks k).2.toNat) fdd qom)) ?_ U Ac;refine o_e U (Ap zeroValue194 cs_) ?_ U Ac;rintro _ _ ⟨n16,rfl,rfl⟩;refine⟨sbt,?_⟩
   first|refine o_e U (Ls U U sizeOf194) ?_ U Ac
   rintro _ _ ⟨rfl,rfl⟩;refine⟨sbt,(o_y U (Ag (T U)) (Bj U (Aj (Ah (Am (B9 12 [(0,true),(1,true),(2,true),(3,true),(4,true),(5,true),(6,true),(7,true),(8,true),(9,true),(10,true),(11,false)] _ mixd qkr sb0 ?_))))) U Ac)⟩;refine o_y U (Af (T U)) (o_y U (Af (T U)) (o_y U (Cd (T U) runUnderlying54) (o_y U (Ed (T U) (T U) qom) ?_ U Ac) U Ac) U Ac) U Ac;refine o_y U (Bg .nil (bd65_z)) (o_y U (Cj (T U) fa197_0) (o_y U (Lo U isAgg3 (by first|exact c_o)) ?_ U Ac) U Ac) U Ac;refine o_y U (Bb (.cons (T U) (.cons An (.cons (T U) .nil))) call116 (fun H' hs=>set9_s _ _ _ _ _ _ _ _ _ _ _ _ _ _ _ _ _ _ _ _ _)) (o_y U (Bt (T U) fa194_3) (o_y U (Lo U isAgg3 (by first|exact c_o)) ?_ U Ac) U Ac) U Ac;refine o_y U (Bg (.cons (T U) (.cons (T U) (.cons (T U) .nil))) (bd56_0_1_2 _ _ _ _ _ _ _ _ _ _ _ _ _ _ _ _ _ _ _ _ _ _)) (o_e U (Ap zeroValue124 cs_) ?_ U Ac) U Ac;rintro _ _ ⟨n18,rfl,rfl⟩;refine⟨sbt,(Bj U ?_)⟩
   first|refine A9 (Ls U U sizeOf124) U Ac ?_
   rintro _ _ ⟨rfl,rfl⟩;refine Aj (Ah (B5 [(3,_),(10,_),(13,_),(15,_),(16,_),(17,_),(18,_),(37,_),(38,_),(39,_)] (kg U) (Am (Ad (y_ (Bg .nil (bd65_z)) (y_ (Bt (T U) fa194_1) (y_ (Lo U isAgg3 (by first|exact c_o)) ?_ U) U) U)))));refine y_ (Bb (.cons (T U) (.cons An (.cons (T U) .nil))) call116 (fun H' hs=>set0_s _ _ _ _ _ _ _ _ _ _ _ _ _ _ _ _ _ _ _ _ _)) (e_ (Ap zeroValue125 cs_) ?_ U) U;rintro _ _ ⟨n19,rfl,rfl⟩
   first|refine A9 (Ls U U sizeOf125) U Ac ?_
   rintro _ _ ⟨rfl,rfl⟩;refine Aj (Ah (Am (Am (Ad (y_ (Cj (T U) He) (y_ (Lo U isAgg3 (by first|exact c_o)) ?_ U) U)))));refine y_ (Ci (T U) An) (Aj (Ah ?_)) U
   first|refine Ak (Aa U) (fun c68=> ?_) (fun c68=> ?_)|refine Au (Aa U) (fun c68=> ?_) (fun c68=> ?_)
   ·refine Ad (y_ (Lp U isAgg125 sizeOf125 U (by first|exact A2)) ?_ U);refine y_ (Bt (T U) fa194_2) (y_ (Lo U isAgg3 (by first|exact c_o)) ?_ U) U;refine y_ (Bb (.cons (T U) (.cons An (.cons (T U) .nil))) call116 (fun H' hs=>set9_s _ _ _ _ _ _ _ _ _ _ _ _ _ _ _ _ _ _ _ _ _)) ?_ U
    first|refine A9 (Ls U U sizeOf125) U Ac ?_
    rintro _ _ ⟨rfl,rfl⟩;refine Aj (Ah (B5 [(3,_),(10,_),(13,_),(15,_),(16,_),(17,_),(18,_),(19,_),(37,_),(38,_),(39,_)] (kg U) (Am (Ad (y_ (Cj (T U) He) (y_ (Lo U isAgg3 (by first|exact c_o)) ?_ U) U)))));refine y_ (Lp U isAgg125 sizeOf125 U (by first|exact A2)) ?_ U;refine y_ (Bg (.cons (T U) (.cons (T U) .nil)) (bd67_0_1 _ _ _ _ _ _ _ _ _ _ _ _ _ _ _ _ _ _ _ _ _)) (e_ (A7 (.cons (T U) .nil) (Ji _ _ _ _ _ _ _ _ _ _ _ _ _ _ _ _ _ _ _ _ _)) ?_ U) U;rintro _ _ ⟨n77,rfl,rfl⟩;refine e_ (A7 (.cons (T U) .nil) (Jh _ _ _)) ?_ U;rintro _ _ ⟨n78,rfl,rfl⟩;refine y_ (Bt (T U) Gb) ?_ U
    first|refine A9 (Ls U U sizeOf122) U Ac ?_|refine A9 (B1 (T U) (T U) U sizeOf122) U Ac ?_|refine A9 (Bu (T U) (T U) U sizeOf122) U Ac ?_
    rintro _ _ ⟨rfl,rfl⟩;refine Aj (Ah (Am (B9 8 [(0,true),(1,true),(2,true),(3,true),(4,true),(5,false),(6,false),(7,true)] _ mixd qkr (List.Sublist.cons_cons _ (List.Sublist.cons_cons _ (List.Sublist.cons_cons _ (List.Sublist.cons_cons _ (List.Sublist.cons_cons _ (List.Sublist.cons_cons _ (List.sublist_append_right _ _))))))) ?_)));refine o_y U (Af (T U)) (o_y U (Bt (T U) J5) (o_y U (Lo U isAgg3 (by first|exact c_o)) ?_ U Ac) U Ac) U Ac;refine o_y U (Af (T U)) (o_y U (Lp U isAgg124 sizeOf124 U (by first|exact A2)) ?_ U Ac) U Ac;refine o_e U (A7 (.cons (T U) .nil) (bs51_1_0 _ _ _ _ _ _ _ _ _ _ _ _ _ _ _ _ _ _ _ _ _ _ _ _ _)) ?_ U Ac;rintro _ _ ⟨n85,rfl,rfl⟩;refine⟨sbt,(o_e U (Br ((⟨⟨top - (gd ts (gd ks k).2.toNat).rs.length,(gd ks k).1,h⟩,n78,n77⟩:Rm)) (by':=200) qlc (T U) (T U) runUnderlying54 runUnderlying54 sizeOf124 typeInfo124 U zeroValue124 U (fun _=>rfl) U hokj qde qom) ?_ U Ac)⟩;rintro _ _ ⟨d',rfl,hok',rfl⟩;refine⟨sbt,(o_y U (Bl (T U) (T U) runUnderlying49 sizeOf54 qom (by first|exact rfl|exact hokk.bas qom)) ?_ U Ac)⟩;refine Bj U (e_ (eff_sT (ts:=ts) (j:=(gd ks k).2.toNat) (⟨d',(gd ts (gd ks k).2.toNat).rs++[(⟨⟨top - (gd ts (gd ks k).2.toNat).rs.length,(gd ks k).1,h⟩,n78,n77⟩:Rm)]⟩:Tb) (T U) (T U) (by simp) sizeOf54 qom (by repeat (first|exact Upd.h|apply Upd.t|apply D7))) ?_ U);rintro _ _ ⟨rfl,rfl⟩;refine Aj (Ah (B5 [(3,_),(10,_),(13,_),(17,_),(37,_),(38,_),(39,_)] (kg U) (Am (Ad (y_ (Af (T U)) (y_ (Cd (T U) runUnderlying54) (y_ (Af (T U)) (y_ (yl_min (T U) An) (y_ (Dy (T U) (T U)) (Aj (Ah ?_)) U) U) U) U) U)))))
    first|refine Ak (Aa U) (fun c92=> ?_) (fun c92=> ?_)|refine Au (Aa U) (fun c92=> ?_) (fun c92=> ?_)
    ·refine Am (Ad (y_ (Ag An) (y_ (Ag An) (Aj (Ah (Bq (A4 (Aw (Bc (A4 (Aw (As U (.tmp (Aa U) (Ll U)) ?_))))))))) U) U));have hlt:(gd ts (gd ks k).2.toNat).rs.length+1<=(tblP top (planR n.links (pairs l tg)) ks (gd ks k).2).length:=by
      have h1:=tblP_le top (planR n.links (pairs l tg)) ks (k+1) (gd ks k).2;rw[Ht qom,if_pos U,Fa (f:=fun t=>planR n.links (pairs l tg) t (gd ks k).2) hpf] at h1;rw[hjc] at hjt;rw[<- hjt] at h1
      simpa using h1
     rw[hall] at hlt;have hlt2:(gd ts (gd ks k).2.toNat).rs.length+1<=(tblK top (fun t=>planR n.links (pairs l tg) t (((gd ks k).2.toNat:Nat):Int)) (usedF tg)).length:=by rw[hjc];exact hlt
     clear hlt;exact⟨H,⟨.nil,[],2,rfl,rfl,by simp,rfl,by rw[Gj (k:=(gd ks k).2.toNat) qom qom qom];rfl⟩,sbt⟩
    ·refine Bp (B4 (Ah (Ad (y_ (Bd (T U) An qom) ?_ U))));refine y_ (Af (T U)) (Aj ?_) U;have ea:encAlt h=encAltE h.link h.port h.tag:=by unfold encAlt;rw[if_pos qom]
     have hrm:([(n78,Cl [outV n77] 128),(n77,Cl (encAltE h.link h.port h.tag) 127)]:List (Nat × Obj))=rmH (⟨⟨top - (gd ts (gd ks k).2.toNat).rs.length,(gd ks k).1,h⟩,n78,n77⟩:Rm):=by simp only[rmH,ea]
     refine Jy (H':=[(n78,Cl [outV n77] 128),(n77,Cl (encAltE h.link h.port h.tag) 127)]++(slH d' (((gd ts (gd ks k).2.toNat).rs++[(⟨⟨top - (gd ts (gd ks k).2.toNat).rs.length,(gd ks k).1,h⟩,n78,n77⟩:Rm)]).flatMap encRm) 124++((gd ts (gd ks k).2.toNat).rs.flatMap rmH++(tsH (restT ts (gd ks k).2.toNat)++(slH dk (ks.flatMap encPlT) 197++((n35,Cl [.map (some r)] 108)::(n33,Cl ((ts.set (gd ks k).2.toNat ⟨d',(gd ts (gd ks k).2.toNat).rs++[(⟨⟨top - (gd ts (gd ks k).2.toNat).rs.length,(gd ks k).1,h⟩,n78,n77⟩:Rm)]⟩).flatMap encTb) 54)::(r,mapO encK2 encHv pl)::(n4,Cl (encNm n) 26)::H)))))) sbt ?_;rw[hrm];refine Bn (ts_close qom _ _ _ _) ?_;refine A8 ((k+1,(ts.set (gd ks k).2.toNat ⟨d',(gd ts (gd ks k).2.toNat).rs++[(⟨⟨top - (gd ts (gd ks k).2.toNat).rs.length,(gd ks k).1,h⟩,n78,n77⟩:Rm)]⟩))) ?_ ?_ ⟨atd,trivial⟩ (kg U) ?_
     ·have hmn: ¬ min top 4000<=((gd ts (gd ks k).2.toNat).rs.length:Int):=by omega
      refine⟨by omega,by simp[htl3],?_,fun i hi'=> ?_⟩
      ·intro t ht2;rcases List.mem_or_eq_of_mem_set ht2 with h1|h1
       ·exact htok t h1
       ·rw[h1];simpa using hok'
      ·rw[Ht qom]
       by_cases e:i=(gd ks k).2.toNat
       ·rw[e,gd_setT _ qom,if_pos qom,hjc,Fa (f:=fun t=>planR n.links (pairs l tg) t (gd ks k).2) hpf];rw[hjc] at hjt;rw[<- hjt];refine⟨by simp,?_,?_⟩<;>simp<;>omega
       ·rw[gd_set_neT _ e,if_neg qom];exact htab i hi'
     ·first|omega|(simp only[];omega)
     ·exact sbt
   ·refine Bp (Ah (Am (Ad (y_ (Cj (T U) He) (y_ (Lo U isAgg3 (by first|exact c_o)) ?_ U) U))));refine y_ (Lp U isAgg125 sizeOf125 U (by first|exact A2)) ?_ U;refine y_ (Bg (.cons (T U) (.cons (T U) .nil)) (bd67_0_1 _ _ _ _ _ _ _ _ _ _ _ _ _ _ _ _ _ _ _ _ _)) (e_ (A7 (.cons (T U) .nil) (Ji _ _ _ _ _ _ _ _ _ _ _ _ _ _ _ _ _ _ _ _ _)) ?_ U) U;rintro _ _ ⟨n77,rfl,rfl⟩;refine e_ (A7 (.cons (T U) .nil) (Jh _ _ _)) ?_ U;rintro _ _ ⟨n78,rfl,rfl⟩;refine y_ (Bt (T U) Gb) ?_ U
    first|refine A9 (Ls U U sizeOf122) U Ac ?_|refine A9 (B1 (T U) (T U) U sizeOf122) U Ac ?_|refine A9 (Bu (T U) (T U) U sizeOf122) U Ac ?_
    rintro _ _ ⟨rfl,rfl⟩;refine Aj (Ah (B5 [(3,_),(10,_),(13,_),(15,_),(17,_),(18,_),(37,_),(38,_),(39,_)] (kg U) (Am (B9 8 [(0,true),(1,true),(2,true),(3,true),(4,true),(5,false),(6,false),(7,true)] _ mixd qkr (List.Sublist.cons_cons _ (List.Sublist.cons_cons _ (List.Sublist.cons_cons _ (List.Sublist.cons_cons _ (List.Sublist.cons_cons _ (List.Sublist.cons_cons _ (List.sublist_append_right _ _))))))) ?_))));refine o_y U (Af (T U)) (o_y U (Bt (T U) J5) (o_y U (Lo U isAgg3 (by first|exact c_o)) ?_ U Ac) U Ac) U Ac;refine o_y U (Af (T U)) (o_y U (Lp U isAgg124 sizeOf124 U (by first|exact A2)) ?_ U Ac) U Ac;refine o_e U (A7 (.cons (T U) .nil) (bs51_1_0 _ _ _ _ _ _ _ _ _ _ _ _ _ _ _ _ _ _ _ _ _ _ _ _ _)) ?_ U Ac;rintro _ _ ⟨n85,rfl,rfl⟩;refine⟨sbt,(o_e U (Br ((⟨⟨top - (gd ts (gd ks k).2.toNat).rs.length,(gd ks k).1,h⟩,n78,n77⟩:Rm)) (by':=200) qlc (T U) (T U) runUnderlying54 runUnderlying54 sizeOf124 typeInfo124 U zeroValue124 U (fun _=>rfl) U hokj qde qom) ?_ U Ac)⟩;rintro _ _ ⟨d',rfl,hok',rfl⟩;refine⟨sbt,(o_y U (Bl (T U) (T U) runUnderlying49 sizeOf54 qom (by first|exact rfl|exact hokk.bas qom)) ?_ U Ac)⟩;refine Bj U (e_ (eff_sT (ts:=ts) (j:=(gd ks k).2.toNat) (⟨d',(gd ts (gd ks k).2.toNat).rs++[(⟨⟨top - (gd ts (gd ks k).2.toNat).rs.length,(gd ks k).1,h⟩,n78,n77⟩:Rm)]⟩:Tb) (T U) (T U) (by simp) sizeOf54 qom (by repeat (first|exact Upd.h|apply Upd.t|apply D7))) ?_ U);rintro _ _ ⟨rfl,rfl⟩;refine Aj (Ah (Am (Ad (y_ (Af (T U)) (y_ (Cd (T U) runUnderlying54) (y_ (Af (T U)) (y_ (yl_min (T U) An) (y_ (Dy (T U) (T U)) (Aj (Ah ?_)) U) U) U) U) U))))
    first|refine Ak (Aa U) (fun c92=> ?_) (fun c92=> ?_)|refine Au (Aa U) (fun c92=> ?_) (fun c92=> ?_)
    ·refine Am (Ad (y_ (Ag An) (y_ (Ag An) (Aj (Ah (B5 [(8,_),(9,_)] (kg U) (Bq (A4 (Aw (Bc (A4 (Aw (As U (.tmp (Aa U) (Ll U)) ?_)))))))))) U) U));have hlt:(gd ts (gd ks k).2.toNat).rs.length+1<=(tblP top (planR n.links (pairs l tg)) ks (gd ks k).2).length:=by
      have h1:=tblP_le top (planR n.links (pairs l tg)) ks (k+1) (gd ks k).2;rw[Ht qom,if_pos U,Fa (f:=fun t=>planR n.links (pairs l tg) t (gd ks k).2) hpf] at h1;rw[hjc] at hjt;rw[<- hjt] at h1
      simpa using h1
     rw[hall] at hlt;have hlt2:(gd ts (gd ks k).2.toNat).rs.length+1<=(tblK top (fun t=>planR n.links (pairs l tg) t (((gd ks k).2.toNat:Nat):Int)) (usedF tg)).length:=by rw[hjc];exact hlt
     clear hlt;exact⟨H,⟨.nil,[],2,rfl,rfl,by simp,rfl,by rw[Gj (k:=(gd ks k).2.toNat) qom qom qom];rfl⟩,sbt⟩
    ·refine Bp (B4 (Ah (Ad (y_ (Bd (T U) An qom) ?_ U))));refine y_ (Af (T U)) (Aj ?_) U;have ea:encAlt h=encAltN h.link h.port:=by unfold encAlt;rw[if_neg qom]
     have hrm:([(n78,Cl [outV n77] 128),(n77,Cl (encAltN h.link h.port) 127)]:List (Nat × Obj))=rmH (⟨⟨top - (gd ts (gd ks k).2.toNat).rs.length,(gd ks k).1,h⟩,n78,n77⟩:Rm):=by simp only[rmH,ea]
     refine Jy (H':=[(n78,Cl [outV n77] 128),(n77,Cl (encAltN h.link h.port) 127)]++(slH d' (((gd ts (gd ks k).2.toNat).rs++[(⟨⟨top - (gd ts (gd ks k).2.toNat).rs.length,(gd ks k).1,h⟩,n78,n77⟩:Rm)]).flatMap encRm) 124++((gd ts (gd ks k).2.toNat).rs.flatMap rmH++(tsH (restT ts (gd ks k).2.toNat)++(slH dk (ks.flatMap encPlT) 197++((n35,Cl [.map (some r)] 108)::(n33,Cl ((ts.set (gd ks k).2.toNat ⟨d',(gd ts (gd ks k).2.toNat).rs++[(⟨⟨top - (gd ts (gd ks k).2.toNat).rs.length,(gd ks k).1,h⟩,n78,n77⟩:Rm)]⟩).flatMap encTb) 54)::(r,mapO encK2 encHv pl)::(n4,Cl (encNm n) 26)::H)))))) sbt ?_;rw[hrm];refine Bn (ts_close qom _ _ _ _) ?_;refine A8 ((k+1,(ts.set (gd ks k).2.toNat ⟨d',(gd ts (gd ks k).2.toNat).rs++[(⟨⟨top - (gd ts (gd ks k).2.toNat).rs.length,(gd ks k).1,h⟩,n78,n77⟩:Rm)]⟩))) ?_ ?_ ⟨atd,trivial⟩ (kg U) ?_
     ·have hmn: ¬ min top 4000<=((gd ts (gd ks k).2.toNat).rs.length:Int):=by omega
      refine⟨by omega,by simp[htl3],?_,fun i hi'=> ?_⟩
      ·intro t ht2;rcases List.mem_or_eq_of_mem_set ht2 with h1|h1
       ·exact htok t h1
       ·rw[h1];simpa using hok'
      ·rw[Ht qom]
       by_cases e:i=(gd ks k).2.toNat
       ·rw[e,gd_setT _ qom,if_pos qom,hjc,Fa (f:=fun t=>planR n.links (pairs l tg) t (gd ks k).2) hpf];rw[hjc] at hjt;rw[<- hjt];refine⟨by simp,?_,?_⟩<;>simp<;>omega
       ·rw[gd_set_neT _ e,if_neg qom];exact htab i hi'
     ·first|omega|(simp only[];omega)
     ·exact sbt
  ·refine Ct (Bv (Aq (Bw (Ah (Am (Ad (y_ (Af (T rfl)) (y_ (Ag (T rfl)) (y_ (Ag An) (Aj (Ah (Bq (As rfl (.tmp (Aa rfl) (Ll rfl)) (⟨tsH ts++((n33,Cl (ts.flatMap encTb) 54)::H),⟨.blk n33 n.nodes.length [],ts,0,by rw[htl3];rfl,⟨by omega,by simp[htl3]⟩,htok,by simp[slH],?_⟩,sbt⟩))))) rfl) rfl) rfl)))))));have hfull:∀ j:Nat,j<n.nodes.length->(gd ts j).rs.map (·.r)=tblK top (fun t=>planR n.links (pairs l tg) t j) (usedF tg):=fun j hj=>by
    rw[<- hall,(htab j hj).1,Er qom]
   refine rules_ok qom (fun j hj=> ?_) (by simp[htl3]) (fun j hj=>by rw[Cr qom];exact hfull j hj);have h1:=congrArg List.length (hfull j hj);have h2:=htab j hj;rw[List.length_map] at h1;omega
variable {mt:Nat->ByteArray->Prop}
structure Vi where
 p:Pl
 q:Option Addr
 c:Nat
 l:List Nat
instance:Inhabited Vi:=⟨⟨(0,0),none,0,[]⟩⟩
theorem Gk {P:Program}{w0:World}{L:Fm}{ty:TypeId}{H:List (Nat × Obj)}{x y:Operand}{t t2 e:TypeId}{α:Type}{enc:α->List Value}(l2:List α){R:List (Nat × Obj)}{F:List (Nat × Obj)->List (Nat × Obj)}{n:Nat}{q:Option Addr}{k c sz by':Nat}{z:Value}{i0:TypeInfo}{e2:TypeId}(hk:k=l2.length)(hl:LocL H [(n,Cl [] e)] R F)(hx:Ev L x (.slice (some ⟨n,0,none⟩) 0 0))(hy:Ev L y (.slice q k c))
  (ht:∀ w,(underlying t).run P w= .ok (.slice e) w) (ht2:∀ w,(underlying t2).run P w= .ok (.slice e2) w) (hz:∀ w,(sizeOf e).run P w= .ok sz w) (hi:∀ w,(typeInfo e).run P w= .ok i0 w) (hby:i0.bytes=by') (hzv:∀ w,(zeroValue e).run P w= .ok z w) (hzs:z.cells.size=sz)
  (he:∀ u,(enc u).length=sz) (h1:∀ u,(enc u).all oneB=true) (hb0:by'≠0) (hb:(2*l2.length+600)*by'<=281474976710656) (hA:Arr w0 H q sz enc l2):
  Eff P w0 (.call {callee:= .builtin .append,args:= #[x,y],argTypes:= #[t,t2]}) ty L H (fun u H'=>∃ d',u=slV d' l2.length/\SlOk d' l2.length sz/\H'=F (slH d' (l2.flatMap enc) e)):=by
 have h:=F0 (P:=P) (w0:=w0) (L:=L) (ty:=ty) (H:=H) (x:=x) (y:=y) (t:=t) (t2:=t2) (e:=e) (enc:=enc) l2 (d:= .blk n 0 []) (l:=[]) (R:=R) (F:=F) hk hl hx hy ht ht2 hz hi hby hzv hzs he h1 ⟨Nat.le_refl _,by simp⟩ hb0 (by simpa using hb) hA
 simpa using h
theorem locH1 {e:Nat × Obj}{X:List (Nat × Obj)}:LocL (e::X) [e] X (fun M'=>M'++X):=show LocL ([e]++X) _ _ _ from .h
end Go.Proofs.YtnafbfbfmgfcfaaGreatDoor
