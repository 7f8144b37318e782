/-
  A part of what LawF rests on: the logic, walks and plain laws. No condition.
-/
import Derived.Test.YtkdolgnpkjihpaaGreatDoorJF4
namespace Go.Proofs.YtkdolgnpkjihpaaGreatDoor
open _root_.Go.Proofs.Tryz
open Go.RowKit
set_option linter.unusedVariables false
set_option linter.unusedSimpArgs false
theorem fa138_2 (b o : Nat) (w : World) : (Instr.fieldAt 138 (.pointer (some ⟨b, o, none⟩)) 2).run Tryz.prog w = .ok (.pointer (some ⟨b, o + 2, none⟩)) w := by kernel_rfl
theorem fa138_3 (b o : Nat) (w : World) : (Instr.fieldAt 138 (.pointer (some ⟨b, o, none⟩)) 3).run Tryz.prog w = .ok (.pointer (some ⟨b, o + 3, none⟩)) w := by kernel_rfl
theorem fa154_0 (b o : Nat) (w : World) : (Instr.fieldAt 154 (.pointer (some ⟨b, o, none⟩)) 0).run Tryz.prog w = .ok (.pointer (some ⟨b, o, none⟩)) w := by kernel_rfl
theorem fa154_1 (b o : Nat) (w : World) : (Instr.fieldAt 154 (.pointer (some ⟨b, o, none⟩)) 1).run Tryz.prog w = .ok (.pointer (some ⟨b, o + 1, none⟩)) w := by kernel_rfl
theorem fa71_2 (b o : Nat) (w : World) : (Instr.fieldAt 71 (.pointer (some ⟨b, o, none⟩)) 2).run Tryz.prog w = .ok (.pointer (some ⟨b, o + 2, none⟩)) w := by kernel_rfl
theorem isNode_s {w0 : World} {H : List (Nat × Obj)} (n : Nm) (k : Int) :
  FSpec Tryz.prog w0 124 #[.agg (encNm n).toArray, .int .i64 k] H (Still (.bool (decide (0 ≤ k ∧ k < n.nodes.length))) H) := by
 refine A9 Tryz.func124 E ntmps124 E (Ag (Ab (e_ (Ba (T E) cs_) ?_ E)))
 rintro _ _ ⟨n2, rfl, rfl⟩
 refine y_ (Ad Aj) (Af (Ae (Ag (Ab (y_ (Ac (T E)) (y_ (C2 (T E) Aj) (y_ (Ac (T E)) ?_ E) E) E))))) E
 first | refine Bz (s := 7) (Aa E) (fun c7 => ?_) (fun c7 => ?_) | refine Cf (s := 7) (Aa E) (fun c7 => ?_) (fun c7 => ?_)
 ·refine Ax (Ac (T E)) E (Ao E E (Aa E)) (Ax (Bc (T E) C8) E (Ao E E (Aa E)) (Ax (Ai (T E) isAgg52 (by first | exact c_o)) E (Ao E E (Aa E)) ?_))
  refine Ax (Bp (T E) runUnderlying52) E (Ao E E (Aa E)) (Ax (Bu (T E) (T E)) E (Ao E E (Aa E)) (y_ (Aq (T E) (T E)) (y_ (Ad (T E)) (Af (Ae (Ay (Az E (.tmp (Aa E) .nil) ?_)))) E) E))
  exact ⟨_, ⟨by simp [resOf, c7], rfl⟩, sbt⟩
 ·refine Bs (Bs (Bs (Bs (Bs (y_ (Au (T E) Aj) (y_ (Ad (T E)) (Af (Ae (Ay (Az E (.tmp (Aa E) .nil) ?_)))) E) E) E E E E) E E E E) E E E E) E E E E) E E E E
  exact ⟨_, ⟨by simp [resOf, c7], rfl⟩, sbt⟩
theorem netFew_s {w0 : World} {H : List (Nat × Obj)} (n : Nm) (x y z : Int) :
  FSpec Tryz.prog w0 75 #[.agg (encNm n).toArray, .int .i64 x, .int .i64 y, .int .i64 z] H (Still (.bool (decide (n.nodes.length ≤ x ∧ n.links.length ≤ y ∧ n.edges.length ≤ z))) H) := by
 refine A9 Tryz.func75 E ntmps75 E (Ag (Ab (e_ (Ba (T E) cs_) ?_ E)))
 rintro _ _ ⟨n4, rfl, rfl⟩
 refine y_ (Ad Aj) (Af (Ae (Ag (Ab (y_ (Bc (T E) C8) (y_ (Ai (T E) isAgg52 (by first | exact c_o)) ?_ E) E))))) E
 refine y_ (Bp (T E) runUnderlying52) (y_ (Ac (T E)) (y_ (D0 (T E) (T E)) (y_ (Ac (T E)) ?_ E) E) E) E
 first | refine Bz (s := 14) (Aa E) (fun c14 => ?_) (fun c14 => ?_) | refine Cf (s := 14) (Aa E) (fun c14 => ?_) (fun c14 => ?_)
 ·refine Ax (Bi (T E) C6) E (Ao E E (Aa E)) (Ax (Ai (T E) isAgg53 (by first | exact c_o)) E (Ao E E (Aa E)) ?_)
  refine Ax (Bp (T E) runUnderlying53) E (Ao E E (Aa E)) (Ax (Ac (T E)) E (Ao E E (Aa E)) (Ax (D0 (T E) (T E)) E (Ao E E (Aa E)) (y_ (Aq (T E) (T E)) (y_ (Ac (T E)) ?_ E) E)))
  first | refine Bz (s := 21) (Aa E) (fun c21 => ?_) (fun c21 => ?_) | refine Cf (s := 21) (Aa E) (fun c21 => ?_) (fun c21 => ?_)
  ·refine Ax (Bi (T E) fa56_2) E (Ao E E (Aa E)) (Ax (Ai (T E) isAgg54 (by first | exact c_o)) E (Ao E E (Aa E)) ?_)
   refine Ax (Bp (T E) runUnderlying54) E (Ao E E (Aa E)) (Ax (Ac (T E)) E (Ao E E (Aa E)) (Ax (D0 (T E) (T E)) E (Ao E E (Aa E)) (y_ (Aq (T E) (T E)) (y_ (Ad (T E)) (Af (Ae (Ay (Az E (.tmp (Aa E) .nil) ?_)))) E) E)))
   exact ⟨_, ⟨by simp [resOf, *], rfl⟩, sbt⟩
  ·refine Bs (Bs (Bs (Bs (Bs (y_ (Au (T E) Aj) (y_ (Ad (T E)) (Af (Ae (Ay (Az E (.tmp (Aa E) .nil) ?_)))) E) E) E E E E) E E E E) E E E E) E E E E) E E E E
   exact ⟨_, ⟨by simp [resOf, *], rfl⟩, sbt⟩
 ·refine Bs (Bs (Bs (Bs (Bs (y_ (Au (T E) Aj) (y_ (Ac (T E)) (Bs (Bs (Bs (Bs (Bs (y_ (Au (T E) Aj) (y_ (Ad (T E)) (Af (Ae (Ay (Az E (.tmp (Aa E) .nil) ?_)))) E) E) E E E E) E E E E) E E E E) E E E E) E E E E) E) E) E E E E) E E E E) E E E E) E E E E) E E E E
  exact ⟨_, ⟨by simp [resOf, *], rfl⟩, sbt⟩
theorem name_s {w0 : World} {H : List (Nat × Obj)} (s : ByteArray) (hs : s.size ≤ 9223372036854775807) :
  FSpec Tryz.prog w0 144 #[.string s] H (fun v H' => (∃ t : Bool, v = .bool t) ∧ H' = H) := by
 refine A9 Tryz.func144 E ntmps144 E (Ag (Ab (y_ (Ad Aj) (Af (Ae (Ag (Ag (Ab (y_ (Ad Aj) (Af (Ae (Aw ?_))) E)))))) E)))
 refine Cc (X := Nat) (V := fun k => [(3, .int .i64 (k : Nat))]) (C := [(0, _)]) (φ := fun k => k ≤ s.size) (μ := fun k => s.size - k) (x0 := 0) ?_ ⟨Aa E, trivial⟩ ⟨(by first | exact Aa E | (refine Ak (Aa E) (vint ?_); omega) | (refine Ak (Aa E) ?_; simp; done)), trivial⟩ ?_
 ·exact Nat.zero_le _
 rintro k hk
 refine Ag (Ag (Ab (y_ (Ac (T E)) (y_ (Ac (T E)) (y_ (yl_len_s (T E) runUnderlying9) (y_ (Bu (T E) (T E)) (Af (Ae ?_)) E) E) E) E)))
 first | refine Ar (Aa E) (fun c9 => ?_) (fun c9 => ?_) | refine A6 (Aa E) (fun c9 => ?_) (fun c9 => ?_)
 ·refine A2 (Ae (Ag (Aw ?_)))
  refine j_cutH (X := Bool) (V := fun t => [(4, .bool t)]) (C := [(0, _), (3, _)]) (φ := fun t => True) ⟨Aa E, Aa E, trivial⟩ ?_ ?_
  ·refine Ab (y_ (Ac (T E)) (y_ (Ac (T E)) (y_ (yl_sidx (T E) (T E) runUnderlying9 (by omega)) ?_ E) E) E)
   refine y_ (C2 (T E) Aj) (y_ (Ac (T E)) ?_ E) E
   first | refine Bz (s := 16) (Aa E) (fun c16 => ?_) (fun c16 => ?_) | refine Cf (s := 16) (Aa E) (fun c16 => ?_) (fun c16 => ?_)
   ·refine Ax (Ac (T E)) E (Ao E E (Aa E)) (Ax (Ac (T E)) E (Ao E E (Aa E)) (Ax (yl_sidx (T E) (T E) runUnderlying9 (by omega)) E (Ao E E (Aa E)) ?_))
    refine Ax (D0 (T E) Aj) E (Ao E E (Aa E)) (y_ (Aq (T E) (T E)) (y_ (Ad (T E)) (Af ?_) E) E)
    refine Bw (_) ?_ ⟨(by first | exact Aa E | (refine Ak (Aa E) (vint ?_); omega) | (refine Ak (Aa E) ?_; simp; done)), trivial⟩ ⟨Aa E, Aa E, trivial⟩ sbt
    trivial
   ·refine Bs (Bs (Bs (Bs (y_ (Au (T E) Aj) (y_ (Ad (T E)) (Af ?_) E) E) E E E E) E E E E) E E E E) E E E E
    refine Bw (_) ?_ ⟨(by first | exact Aa E | (refine Ak (Aa E) (vint ?_); omega) | (refine Ak (Aa E) ?_; simp; done)), trivial⟩ ⟨Aa E, Aa E, trivial⟩ sbt
    trivial
  rintro t -
  refine j_cutH (X := Bool) (V := fun t => [(5, .bool t)]) (C := [(0, _), (3, _), (4, _)]) (φ := fun t => True) ⟨Aa E, Aa E, Aa E, trivial⟩ ?_ ?_
  ·refine Ab (y_ (Ac (T E)) (y_ (Ac (T E)) (y_ (yl_sidx (T E) (T E) runUnderlying9 (by omega)) ?_ E) E) E)
   refine y_ (C2 (T E) Aj) (y_ (Ac (T E)) ?_ E) E
   first | refine Bz (s := 26) (Aa E) (fun c26 => ?_) (fun c26 => ?_) | refine Cf (s := 26) (Aa E) (fun c26 => ?_) (fun c26 => ?_)
   ·refine Ax (Ac (T E)) E (Ao E E (Aa E)) (Ax (Ac (T E)) E (Ao E E (Aa E)) (Ax (yl_sidx (T E) (T E) runUnderlying9 (by omega)) E (Ao E E (Aa E)) ?_))
    refine Ax (D0 (T E) Aj) E (Ao E E (Aa E)) (y_ (Aq (T E) (T E)) (y_ (Ac (T E)) ?_ E) E)
    first | refine Bz (s := 32) (Aa E) (fun c32 => ?_) (fun c32 => ?_) | refine Cf (s := 32) (Aa E) (fun c32 => ?_) (fun c32 => ?_)
    ·refine Bm (Bm (Bm (Bm (y_ (Aq (T E) Aj) (y_ (Ad (T E)) (Af ?_) E) E) E E E E) E E E E) E E E E) E E E E
     refine Bw (_) ?_ ⟨(by first | exact Aa E | (refine Ak (Aa E) (vint ?_); omega) | (refine Ak (Aa E) ?_; simp; done)), trivial⟩ ⟨Aa E, Aa E, Aa E, trivial⟩ sbt
     trivial
    ·refine Ax (Ac (T E)) E (Ao E E (Aa E)) (Ax (Ac (T E)) E (Ao E E (Aa E)) (Ax (yl_sidx (T E) (T E) runUnderlying9 (by omega)) E (Ao E E (Aa E)) ?_))
     refine Ax (B2 (T E) Aj) E (Ao E E (Aa E)) (y_ (Au (T E) (T E)) (y_ (Ad (T E)) (Af ?_) E) E)
     refine Bw (_) ?_ ⟨(by first | exact Aa E | (refine Ak (Aa E) (vint ?_); omega) | (refine Ak (Aa E) ?_; simp; done)), trivial⟩ ⟨Aa E, Aa E, Aa E, trivial⟩ sbt
     trivial
   ·refine Bs (Bs (Bs (Bs (y_ (Au (T E) Aj) (y_ (Ac (T E)) (Ax (Ac (T E)) E (Ao E E (Aa E)) (Ax (Ac (T E)) E (Ao E E (Aa E)) (Ax (yl_sidx (T E) (T E) runUnderlying9 (by omega)) E (Ao E E (Aa E)) ?_))) E) E) E E E E) E E E E) E E E E) E E E E
    refine Ax (B2 (T E) Aj) E (Ao E E (Aa E)) (y_ (Au (T E) (T E)) (y_ (Ad (T E)) (Af ?_) E) E)
    refine Bw (_) ?_ ⟨(by first | exact Aa E | (refine Ak (Aa E) (vint ?_); omega) | (refine Ak (Aa E) ?_; simp; done)), trivial⟩ ⟨Aa E, Aa E, Aa E, trivial⟩ sbt
    trivial
  rintro t -
  refine j_cutH (X := Bool) (V := fun t => [(47, .bool t)]) (C := [(0, _), (3, _)]) (φ := fun t => True) ⟨Aa E, Aa E, trivial⟩ ?_ ?_
  ·refine Ab (y_ (Ac (T E)) ?_ E)
   first | refine Ax (Ca (T E)) E Ah ?_ | refine Ax (Co (T E)) E Ah ?_
   refine y_ (Ac (T E)) ?_ E
   first | refine Bz (s := 40) (Aa E) (fun c40 => ?_) (fun c40 => ?_) | refine Cf (s := 40) (Aa E) (fun c40 => ?_) (fun c40 => ?_)
   ·refine Ax (Ac (T E)) E (Ao E E (Aa E)) ?_
    first | refine Ax (Ca (T E)) E (Ao E E (Aa E)) ?_ | refine Ax (Co (T E)) E (Ao E E (Aa E)) ?_
    refine Ax (Ac (T E)) E (Ao E E (Aa E)) ?_
    first | refine Bz (s := 43) (Aa E) (fun c43 => ?_) (fun c43 => ?_) | refine Cf (s := 43) (Aa E) (fun c43 => ?_) (fun c43 => ?_)
    ·refine Bm (Bm (Ax (Aq (T E) Aj) E (Ao E E (Aa E)) (y_ (Aq (T E) (T E)) (Af ?_) E)) E E E E) E E E E
     refine Bw (_) ?_ ⟨(by first | exact Aa E | (refine Ak (Aa E) (vint ?_); omega) | (refine Ak (Aa E) ?_; simp; done)), trivial⟩ ⟨Aa E, Aa E, trivial⟩ sbt
     trivial
    ·refine Ax (Ac (T E)) E (Ao E E (Aa E)) (Ax (B2 (T E) Aj) E (Ao E E (Aa E)) (Ax (Au (T E) (T E)) E (Ao E E (Aa E)) (y_ (Aq (T E) (T E)) (Af ?_) E)))
     refine Bw (_) ?_ ⟨(by first | exact Aa E | (refine Ak (Aa E) (vint ?_); omega) | (refine Ak (Aa E) ?_; simp; done)), trivial⟩ ⟨Aa E, Aa E, trivial⟩ sbt
     trivial
   ·refine Bs (Bs (Bs (n_u (n_u (Bs (y_ (Au (T E) Aj) (Af ?_) E) E E E E) E E E E) E E E E) E E E E) E E E E) E E E E
    refine Bw (_) ?_ ⟨(by first | exact Aa E | (refine Ak (Aa E) (vint ?_); omega) | (refine Ak (Aa E) ?_; simp; done)), trivial⟩ ⟨Aa E, Aa E, trivial⟩ sbt
    trivial
  rintro t -
  first | refine Ar (Aa E) (fun c47 => ?_) (fun c47 => ?_) | refine A6 (Aa E) (fun c47 => ?_) (fun c47 => ?_)
  ·refine Ag (Ab (y_ (Ad Aj) (Af (Ae (Ay (An (Al (Bo (An (Al (Az E (.tmp (Aa E) .nil) ?_))))))))) E))
   exact ⟨_, ⟨⟨_, rfl⟩, rfl⟩, sbt⟩
  ·refine A2 (Bl (Ae (Ab (y_ (Ac (T E)) (y_ (Bt (T E) Aj (by omega)) ?_ E) E))))
   refine y_ (Ad (T E)) (Af ?_) E
   refine Bn (k + 1) ?_ ?_ ⟨(by first | exact Aa E | (refine Ak (Aa E) (vint ?_); omega) | (refine Ak (Aa E) ?_; simp; done)), trivial⟩ ⟨Aa E, trivial⟩ ?_
   ·show k + 1 ≤ _; omega
   ·first | omega | (simp only []; omega)
   ·exact sbt
 ·refine B4 (A0 (A4 (A3 (Ae (Ag (Ab (y_ (Ac (T E)) (y_ (yl_len_s (T E) runUnderlying9) (y_ (C2 (T E) Aj) (y_ (Ac (T E)) ?_ E) E) E) E)))))))
  first | refine Bz (s := 51) (Aa E) (fun c51 => ?_) (fun c51 => ?_) | refine Cf (s := 51) (Aa E) (fun c51 => ?_) (fun c51 => ?_)
  ·refine Ax (Ac (T E)) E (Ao E E (Aa E)) (Ax (yl_len_s (T E) runUnderlying9) E (Ao E E (Aa E)) (Ax (D0 (T E) Aj) E (Ao E E (Aa E)) (y_ (Aq (T E) (T E)) (y_ (Ad (T E)) (Af (Ae (Ay (Az E (.tmp (Aa E) .nil) ?_)))) E) E)))
   exact ⟨_, ⟨⟨_, rfl⟩, rfl⟩, sbt⟩
  ·refine Bs (Bs (Bs (y_ (Au (T E) Aj) (y_ (Ad (T E)) (Af (Ae (Ay (Az E (.tmp (Aa E) .nil) ?_)))) E) E) E E E E) E E E E) E E E E
   exact ⟨_, ⟨⟨_, rfl⟩, rfl⟩, sbt⟩
theorem names_s {w0 : World} {H : List (Nat × Obj)} (n : Nm) (hn : NetM w0 H n) (h1 : n.nodes.length ≤ 1000000) (h2 : n.edges.length ≤ 1000000) :
  FSpec Tryz.prog w0 122 #[.agg (encNm n).toArray] H (fun v H' => ∃ d1 d2 : Sl, v = .tuple #[slV d1 (n.nodes.map (·.name)).length, slV d2 (n.edges.map (·.name)).length] ∧ SlOk d1 (n.nodes.map (·.name)).length 1 ∧ SlOk d2 (n.edges.map (·.name)).length 1 ∧ H' = slH d2 ((n.edges.map (·.name)).flatMap encS) 9 ++ (slH d1 ((n.nodes.map (·.name)).flatMap encS) 9 ++ H)) := by
 refine A9 Tryz.func122 E ntmps122 E (Ag (Ab (e_ (Ba (T E) cs_) ?_ E)))
 rintro _ _ ⟨n1, rfl, rfl⟩
 refine y_ (Ad Aj) (y_ (Ad Aj) (Af (Ae (Ag (Ab (y_ (Ad Aj) (Af (Ae (Ag (Ab (y_ (Ad Aj) (Af (Ae (Ag (Ag (Ab (y_ (Ad Aj) (Af (Ae (Aw ?_))) E)))))) E))))) E))))) E) E
 refine j_loopG (X := Nat × Sl × List ByteArray) (V := fun ⟨k, d, l⟩ => [(6, .int .i64 (k : Nat)), (4, slV d l.length)]) (C := [(1, _), (5, _)]) (G := fun ⟨k, d, l⟩ => slH d (l.flatMap encS) 9) (Hc := _) (φ := fun ⟨k, d, l⟩ => k ≤ n.nodes.length ∧ l = (n.nodes.take k).map (·.name) ∧ SlOk d l.length 1) (μ := fun ⟨k, d, l⟩ => n.nodes.length - k) (x0 := (0, .nil, [])) ?_ ⟨Aa rfl, Aa rfl, trivial⟩ ⟨(by first | exact Aa rfl | (refine Ak (Aa rfl) (vint ?_); omega) | (refine Ak (Aa rfl) ?_; simp; done)), (by first | exact Aa rfl | (refine Ak (Aa rfl) (vint ?_); omega) | (refine Ak (Aa rfl) ?_; simp; done)), trivial⟩ sb0 ?_
 ·exact ⟨Nat.zero_le _, rfl, rfl⟩
 rintro ⟨k, d, l⟩ ⟨hk, hl, hok⟩
 have hlen : l.length = k := by rw [hl]; simp; omega
 refine Ag (Ag (Ab (y_ (Ac (T E)) (y_ (Bc (T E) C8) (y_ (Ai (T E) isAgg52 (by first | exact c_o | exact c_m (hn.nodes.f0 (by omega) E) | exact c_m (hn.edges.f0 (by omega) E))) ?_ E) E) E)))
 refine y_ (Bp (T E) runUnderlying52) (y_ (Bu (T E) (T E)) (Af (Ae ?_)) E) E
 first | refine Ar (Aa E) (fun c12 => ?_) (fun c12 => ?_) | refine A6 (Aa E) (fun c12 => ?_) (fun c12 => ?_)
 ·refine A2 (Ae (Ag (Aw (Ab (y_ (Ac (T E)) (y_ (Bc (T E) C8) (y_ (Ai (T E) isAgg52 (by first | exact c_o | exact c_m (hn.nodes.f0 (by omega) E) | exact c_m (hn.edges.f0 (by omega) E))) ?_ E) E) E)))))
  refine y_ (Ac (T E)) (y_ (Be (T E) (T E) runUnderlying52 sizeOf138 (by omega) (by first | exact rfl | exact hn.nodes.b (i := k) (by omega) | exact hn.edges.b (i := k2) (by omega))) ?_ E) E
  refine y_ (Bc (T E) Dw) (y_ (Ai (T E) isAgg9 (by first | exact c_o | exact c_m (hn.nodes.f0 (by omega) E) | exact c_m (hn.edges.f0 (by omega) E))) ?_ E) E
  refine e_ (Ap (.cons (T E) .nil) (De _)) ?_ E
  rintro _ _ ⟨n22, rfl, rfl⟩
  refine e_ (eff_app1 ((gd n.nodes k).name) (A := [_]) (by' := 16) (T E) (T E) runUnderlying25 runUnderlying25 sizeOf9 typeInfo9 E zeroValue9 E (fun _ => rfl) E hok (by decide) (by omega)) ?_ E
  rintro _ _ ⟨d', rfl, hok', rfl⟩
  refine y_ (Ad (T E)) (Af (Bl (Ae (Ab (y_ (Ac (T E)) (y_ (Bt (T E) Aj (by omega)) ?_ E) E))))) E
  refine y_ (Ad (T E)) (Af ?_) E
  refine Bn ((k + 1, d', l ++ [(gd n.nodes k).name])) ?_ ?_ ⟨(by first | exact Aa E | (refine Ak (Aa E) (vint ?_); omega) | (refine Ak (Aa E) ?_; simp; done)), (by first | exact Aa E | (refine Ak (Aa E) (vint ?_); omega) | (refine Ak (Aa E) ?_; simp; done)), trivial⟩ ⟨Aa E, Aa E, trivial⟩ ?_
  ·exact ⟨by omega, by rw [hl, take_gd (by omega), List.map_append]; rfl, by simpa using hok'⟩
  ·first | omega | (simp only []; omega)
  ·exact sbt
 ·refine B4 (A0 (A4 (A3 (Ae (Ag (Ag (Ab (y_ (Ad Aj) (Af (Ae (Aw ?_))) E))))))))
  refine j_loopG (X := Nat × Sl × List ByteArray) (V := fun ⟨k2, d2, l2⟩ => [(7, .int .i64 (k2 : Nat)), (5, slV d2 l2.length)]) (C := [(1, _), (4, _)]) (G := fun ⟨k2, d2, l2⟩ => slH d2 (l2.flatMap encS) 9) (Hc := _) (φ := fun ⟨k2, d2, l2⟩ => k2 ≤ n.edges.length ∧ l2 = (n.edges.take k2).map (·.name) ∧ SlOk d2 l2.length 1) (μ := fun ⟨k2, d2, l2⟩ => n.edges.length - k2) (x0 := (0, .nil, [])) ?_ ⟨Aa rfl, Aa rfl, trivial⟩ ⟨(by first | exact Aa rfl | (refine Ak (Aa rfl) (vint ?_); omega) | (refine Ak (Aa rfl) ?_; simp; done)), (by first | exact Aa rfl | (refine Ak (Aa rfl) (vint ?_); omega) | (refine Ak (Aa rfl) ?_; simp; done)), trivial⟩ sb0 ?_
  ·exact ⟨Nat.zero_le _, rfl, rfl⟩
  rintro ⟨k2, d2, l2⟩ ⟨hk2, hl2, hok2⟩
  have hlen2 : l2.length = k2 := by rw [hl2]; simp; omega
  refine Ag (Ag (Ab (y_ (Ac (T E)) (y_ (Bi (T E) fa56_2) (y_ (Ai (T E) isAgg54 (by first | exact c_o | exact c_m (hn.nodes.f0 (by omega) E) | exact c_m (hn.edges.f0 (by omega) E))) ?_ E) E) E)))
  refine y_ (Bp (T E) runUnderlying54) (y_ (Bu (T E) (T E)) (Af (Ae ?_)) E) E
  first | refine Ar (Aa E) (fun c28 => ?_) (fun c28 => ?_) | refine A6 (Aa E) (fun c28 => ?_) (fun c28 => ?_)
  ·refine A2 (Ae (Ag (Aw (Ab (y_ (Ac (T E)) (y_ (Bi (T E) fa56_2) (y_ (Ai (T E) isAgg54 (by first | exact c_o | exact c_m (hn.nodes.f0 (by omega) E) | exact c_m (hn.edges.f0 (by omega) E))) ?_ E) E) E)))))
   refine y_ (Ac (T E)) (y_ (Be (T E) (T E) runUnderlying54 sizeOf154 (by omega) (by first | exact rfl | exact hn.nodes.b (i := k) (by omega) | exact hn.edges.b (i := k2) (by omega))) ?_ E) E
   refine y_ (Bc (T E) fa154_0) (y_ (Ai (T E) isAgg9 (by first | exact c_o | exact c_m (hn.nodes.f0 (by omega) E) | exact c_m (hn.edges.f0 (by omega) E))) ?_ E) E
   refine e_ (Ap (.cons (T E) .nil) (De _)) ?_ E
   rintro _ _ ⟨n38, rfl, rfl⟩
   refine e_ (eff_app1 ((gd n.edges k2).name) (A := [_]) (by' := 16) (T E) (T E) runUnderlying25 runUnderlying25 sizeOf9 typeInfo9 E zeroValue9 E (fun _ => rfl) E hok2 (by decide) (by omega)) ?_ E
   rintro _ _ ⟨d', rfl, hok', rfl⟩
   refine y_ (Ad (T E)) (Af (Bl (Ae (Ab (y_ (Ac (T E)) (y_ (Bt (T E) Aj (by omega)) ?_ E) E))))) E
   refine y_ (Ad (T E)) (Af ?_) E
   refine Bn ((k2 + 1, d', l2 ++ [(gd n.edges k2).name])) ?_ ?_ ⟨(by first | exact Aa E | (refine Ak (Aa E) (vint ?_); omega) | (refine Ak (Aa E) ?_; simp; done)), (by first | exact Aa E | (refine Ak (Aa E) (vint ?_); omega) | (refine Ak (Aa E) ?_; simp; done)), trivial⟩ ⟨Aa E, Aa E, trivial⟩ ?_
   ·exact ⟨by omega, by rw [hl2, take_gd (by omega), List.map_append]; rfl, by simpa using hok'⟩
   ·first | omega | (simp only []; omega)
   ·exact sbt
  ·refine B4 (A0 (A4 (A3 (Ae (Ag (Ab (y_ (Ac (T E)) (y_ (Ac (T E)) (y_ (Ad (T E)) (y_ (Ad (T E)) (Af (Ae (Ay (Az E (.tmp (Aa E) (.tmp (Aa E) .nil)) ?_)))) E) E) E) E)))))))
   rw [List.take_of_length_le (by omega)] at hl hl2
   rw [← hl, ← hl2]
   exact ⟨_, ⟨d, d2, rfl, hok, hok2, rfl⟩, sbt⟩
theorem named_s {w0 : World} {H : List (Nat × Obj)} (q : Option Addr) (cap : Nat) (l : List ByteArray) (ha : Arr w0 H q 1 encS l) (hb : ∀ x ∈ l, x.size ≤ 9223372036854775807) (hl : l.length ≤ 1000000) :
  FSpec Tryz.prog w0 123 #[.slice q l.length cap] H (fun v H' => (∃ t : Bool, v = .bool t) ∧ H' = H) := by
 refine A9 Tryz.func123 E ntmps123 E (Ag (Ab (y_ (Ad Aj) (Af (Ae (Ag (Ag (Ab (y_ (Ad Aj) (Af (Ae (Aw ?_))) E)))))) E)))
 refine Cc (X := Nat) (V := fun k => [(3, .int .i64 (k : Nat))]) (C := [(0, _)]) (φ := fun k => k ≤ l.length) (μ := fun k => l.length - k) (x0 := 0) ?_ ⟨Aa E, trivial⟩ ⟨(by first | exact Aa E | (refine Ak (Aa E) (vint ?_); omega) | (refine Ak (Aa E) ?_; simp; done)), trivial⟩ ?_
 ·exact Nat.zero_le _
 rintro k hk
 refine Ag (Ag (Ab (y_ (Ac (T E)) (y_ (Ac (T E)) (y_ (Bp (T E) runUnderlying25) (y_ (Bu (T E) (T E)) (Af (Ae ?_)) E) E) E) E)))
 first | refine Ar (Aa E) (fun c9 => ?_) (fun c9 => ?_) | refine A6 (Aa E) (fun c9 => ?_) (fun c9 => ?_)
 ·refine A2 (Ae (Ag (Aw (Ag (Ab (y_ (Ac (T E)) (y_ (Ac (T E)) (y_ (Be (T E) (T E) runUnderlying25 sizeOf9 (by omega) (by first | exact rfl | exact ha.b (i := k) (by omega))) ?_ E) E) E))))))
  refine y_ (Ai (T E) isAgg9 (by first | exact c_o | exact c_m (ha.f0 (i := k) (by omega) E) | exact c_m (ha.f0 (i := k2) (by omega) E))) ?_ E
  refine e_ (A1 (.cons (T E) .nil) call144 (name_s _ (hb _ (Bg (i := k) (by omega))))) ?_ E
  rintro _ _ ⟨⟨t, rfl⟩, rfl⟩
  refine y_ (Ad (T E)) (Af (Ae (Ag (Ag (Ab (y_ (Ac (T E)) ?_ E)))))) E
  first | refine Ax (Ca (T E)) E Ah ?_ | refine Ax (Co (T E)) E Ah ?_
  refine Af (Ae ?_)
  first | refine Ar (Aa E) (fun c18 => ?_) (fun c18 => ?_) | refine A6 (Aa E) (fun c18 => ?_) (fun c18 => ?_)
  ·refine Ag (Ab (y_ (Ad Aj) (Af (Ae (Ay (Al (An (Al (Bo (An (Al (Az E (.tmp (Aa E) .nil) ?_)))))))))) E))
   exact ⟨_, ⟨⟨_, rfl⟩, rfl⟩, sbt⟩
  ·refine A2 (Ae (Ag (Ab (y_ (Ad Aj) (Af (Ae (Aw ?_))) E))))
   refine Cc (X := Nat) (V := fun k2 => [(5, .int .i64 (k2 : Nat))]) (C := [(0, _), (3, _)]) (φ := fun k2 => k2 ≤ k) (μ := fun k2 => k - k2) (x0 := 0) ?_ ⟨Aa E, Aa E, trivial⟩ ⟨(by first | exact Aa E | (refine Ak (Aa E) (vint ?_); omega) | (refine Ak (Aa E) ?_; simp; done)), trivial⟩ ?_
   ·exact Nat.zero_le _
   rintro k2 hk2
   refine Ag (Ag (Ab (y_ (Ac (T E)) (y_ (Ac (T E)) (y_ (Bu (T E) (T E)) (Af (Ae ?_)) E) E) E)))
   first | refine Ar (Aa E) (fun c21 => ?_) (fun c21 => ?_) | refine A6 (Aa E) (fun c21 => ?_) (fun c21 => ?_)
   ·refine A2 (Ae (Ag (Aw (Ag (Ch 9 [(0, true), (1, true), (2, true), (3, true), (4, true), (5, true), (6, true), (7, true), (8, true)] _ mixd (by kernel_rfl) sb0 ?_)))))
    refine o_y E (Ac (T E)) (o_y E (Ac (T E)) (o_y E (Be (T E) (T E) runUnderlying25 sizeOf9 (by omega) (by first | exact rfl | exact ha.b (i := k) (by omega))) ?_ E Ah) E Ah) E Ah
    refine o_y E (Ai (T E) isAgg9 (by first | exact c_o | exact c_m (ha.f0 (i := k) (by omega) E) | exact c_m (ha.f0 (i := k2) (by omega) E))) ?_ E Ah
    refine o_y E (Ac (T E)) (o_y E (Ac (T E)) (o_y E (Ck (T E) (T E) runUnderlying25 sizeOf9 (by omega) (by first | exact rfl | exact ha.b (i := k) (by omega))) ?_ E Ah) E Ah) E Ah
    refine o_y E (Ai (T E) isAgg9 (by first | exact c_o | exact c_m (ha.f0 (i := k) (by omega) E) | exact c_m (ha.f0 (i := k2) (by omega) E))) ?_ E Ah
    refine o_y E (yl_eqS (T E) (T E)) (Bx E (Af (Ae ?_))) E Ah
    first | refine Ar (Aa E) (fun c32 => ?_) (fun c32 => ?_) | refine A6 (Aa E) (fun c32 => ?_) (fun c32 => ?_)
    ·refine Ag (Ab (y_ (Ad Aj) (Af (Ae (Ay (An (Al (Bo (An (An (Al (Bo (An (Al (Az E (.tmp (Aa E) .nil) ?_))))))))))))) E))
     exact ⟨_, ⟨⟨_, rfl⟩, rfl⟩, sbt⟩
    ·refine A2 (Bl (Ae (Ab (y_ (Ac (T E)) (y_ (Bt (T E) Aj (by omega)) ?_ E) E))))
     refine y_ (Ad (T E)) (Af ?_) E
     refine Bn (k2 + 1) ?_ ?_ ⟨(by first | exact Aa E | (refine Ak (Aa E) (vint ?_); omega) | (refine Ak (Aa E) ?_; simp; done)), trivial⟩ ⟨Aa E, Aa E, trivial⟩ ?_
     ·show k2 + 1 ≤ _; omega
     ·first | omega | (simp only []; omega)
     ·exact sbt
   ·refine B4 (A0 (A4 (A3 (Bl (Ae (Ab (y_ (Ac (T E)) (y_ (Bt (T E) Aj (by omega)) ?_ E) E)))))))
    refine y_ (Ad (T E)) (Af ?_) E
    refine Bn (k + 1) ?_ ?_ ⟨(by first | exact Aa E | (refine Ak (Aa E) (vint ?_); omega) | (refine Ak (Aa E) ?_; simp; done)), trivial⟩ ⟨Aa E, trivial⟩ ?_
    ·show k + 1 ≤ _; omega
    ·first | omega | (simp only []; omega)
    ·exact sbt
 ·refine B4 (A0 (A4 (A3 (Ae (Ag (Ab (y_ (Ad Aj) (Af (Ae (Ay (Az E (.tmp (Aa E) .nil) ?_)))) E)))))))
  exact ⟨_, ⟨⟨_, rfl⟩, rfl⟩, sbt⟩
theorem netCheck_s {w0 : World} {H : List (Nat × Obj)} (n : Nm) (hn : NetM w0 H n) :
  FSpec Tryz.prog w0 76 #[.agg (encNm n).toArray] H (fun v H' => (∃ e : Int, v = .int .i64 e ∧ (e = 0 → NetOk n)) ∧ H' = H) := by
 refine A9 Tryz.func76 E ntmps76 E ?_
 have hln := hn.ln; have hll := hn.ll; have hle := hn.le
 refine Ag (Ab (e_ (Ba (T E) cs_) ?_ E))
 rintro _ _ ⟨n1, rfl, rfl⟩
 refine y_ (Ad Aj) (Af (Ae (Ag (Ag (Ab (y_ (Bc (T E) C8) (y_ (Ai (T E) isAgg52 (by first | exact c_o | exact c_m (hn.nodes.f0 (i := k) (by omega) E) | exact c_m (hn.edges.f0 (i := k3) (by omega) E) | exact c_m (hn.edges.f (i := k3) (by omega) E))) ?_ E) E)))))) E
 refine y_ (Bp (T E) runUnderlying52) (y_ (C7 (T E) Aj) (y_ (Ac (T E)) ?_ E) E) E
 first | refine Bz (s := 16) (Aa E) (fun c16 => ?_) (fun c16 => ?_) | refine Cf (s := 16) (Aa E) (fun c16 => ?_) (fun c16 => ?_)
 ·refine Bm (Bm (Bm (Bm (y_ (Aq (T E) Aj) (y_ (Ac (T E)) (Bm (Bm (Bm (Bm (y_ (Aq (T E) Aj) (Af (Ae ?_)) E) E E E E) E E E E) E E E E) E E E E) E) E) E E E E) E E E E) E E E E) E E E E
  first | refine A8 (Aa E) ?_ | refine A8 (Ak (Aa E) (vbool (decide_eq_true c27))) ?_
  refine Ag (Ab (y_ (Ad Aj) (Af (Ae (Ay (Al (Az E (.tmp (Aa E) .nil) ?_))))) E))
  exact ⟨_, ⟨⟨_, rfl, fun h => by first | (exfalso; omega) | exact ⟨fun i hi => hl2 i (by omega), fun i hi => hl3 i (by omega)⟩⟩, rfl⟩, sbt⟩
 ·refine Ax (Bi (T E) C6) E (Ao E E (Aa E)) (Ax (Ai (T E) isAgg53 (by first | exact c_o | exact c_m (hn.nodes.f0 (i := k) (by omega) E) | exact c_m (hn.edges.f0 (i := k3) (by omega) E) | exact c_m (hn.edges.f (i := k3) (by omega) E))) E (Ao E E (Aa E)) ?_)
  refine Ax (Bp (T E) runUnderlying53) E (Ao E E (Aa E)) (Ax (C7 (T E) Aj) E (Ao E E (Aa E)) (y_ (Au (T E) (T E)) (y_ (Ac (T E)) ?_ E) E))
  first | refine Bz (s := 22) (Aa E) (fun c22 => ?_) (fun c22 => ?_) | refine Cf (s := 22) (Aa E) (fun c22 => ?_) (fun c22 => ?_)
  ·refine Bm (Bm (Bm (Bm (y_ (Aq (T E) Aj) (Af (Ae ?_)) E) E E E E) E E E E) E E E E) E E E E
   first | refine A8 (Aa E) ?_ | refine A8 (Ak (Aa E) (vbool (decide_eq_true c27))) ?_
   refine Ag (Ab (y_ (Ad Aj) (Af (Ae (Ay (Al (Az E (.tmp (Aa E) .nil) ?_))))) E))
   exact ⟨_, ⟨⟨_, rfl, fun h => by first | (exfalso; omega) | exact ⟨fun i hi => hl2 i (by omega), fun i hi => hl3 i (by omega)⟩⟩, rfl⟩, sbt⟩
  ·refine Ax (Bi (T E) fa56_2) E (Ao E E (Aa E)) (Ax (Ai (T E) isAgg54 (by first | exact c_o | exact c_m (hn.nodes.f0 (i := k) (by omega) E) | exact c_m (hn.edges.f0 (i := k3) (by omega) E) | exact c_m (hn.edges.f (i := k3) (by omega) E))) E (Ao E E (Aa E)) ?_)
   refine Ax (Bp (T E) runUnderlying54) E (Ao E E (Aa E)) (Ax (C7 (T E) Aj) E (Ao E E (Aa E)) (y_ (Au (T E) (T E)) (Af (Ae ?_)) E))
   first | refine Ar (Aa E) (fun c27 => ?_) (fun c27 => ?_) | refine A6 (Aa E) (fun c27 => ?_) (fun c27 => ?_)
   ·refine Ag (Ab (y_ (Ad Aj) (Af (Ae (Ay (Al (Az E (.tmp (Aa E) .nil) ?_))))) E))
    exact ⟨_, ⟨⟨_, rfl, fun h => by first | (exfalso; omega) | exact ⟨fun i hi => hl2 i (by omega), fun i hi => hl3 i (by omega)⟩⟩, rfl⟩, sbt⟩
   ·refine A2 (Ae (Ag (Ab (y_ (Am (T E) isAgg56 sizeOf56 E (by first | exact Bb | exact Dq (hn.nodes.f0 (i := k) (by omega) E) | exact Dq (hn.edges.f0 (i := k3) (by omega) E) | exact Dq (hn.edges.f (i := k3) (by omega) E))) ?_ E))))
    refine e_ (A1 (.cons (T E) .nil) call122 (names_s n (hn.mono) (by omega) (by omega))) ?_ E
    rintro _ _ ⟨d1, d2, rfl, hok1, hok2, rfl⟩
    refine y_ (Ac (T rfl)) (y_ (Bf (T rfl) rfl) (y_ (Bf (T rfl) rfl) (y_ (Ad (T rfl)) (y_ (Ad (T rfl)) (Af (Ae (Bh [(1, _), (3, _), (4, _)] ⟨Aa rfl, Aa rfl, Aa rfl, trivial⟩ (Ag (Ab (y_ (Ac (T rfl)) (e_ (A1 (.cons (T rfl) .nil) call123 (named_s _ _ _ ((Bq (enc := encS) (sz := 1) (fun _ => rfl) hok1).mono (List.sublist_append_right _ _)) (by intro x hx; obtain ⟨y, hy, rfl⟩ := List.mem_map.1 hx; exact hn.sn y hy) (by simp; omega))) ?_ rfl) rfl)))))) rfl) rfl) rfl) rfl) rfl
    rintro _ _ ⟨⟨t1, rfl⟩, rfl⟩
    refine y_ (Ad (T rfl)) (Af (Ae (Ag (Ab (y_ (Ac (T rfl)) (e_ (A1 (.cons (T rfl) .nil) call123 (named_s _ _ _ (Bq (enc := encS) (sz := 1) (fun _ => rfl) hok2) (by intro x hx; obtain ⟨y, hy, rfl⟩ := List.mem_map.1 hx; exact hn.se y hy) (by simp; omega))) ?_ rfl) rfl))))) rfl
    rintro _ _ ⟨⟨t2, rfl⟩, rfl⟩
    refine y_ (Ad (T E)) (Af (Ae (Ag (Ag (Ab (y_ (Ac (T E)) ?_ E)))))) E
    first | refine Ax (Ca (T E)) E Ah ?_ | refine Ax (Co (T E)) E Ah ?_
    refine y_ (Ac (T E)) ?_ E
    first | refine Bz (s := 39) (Aa E) (fun c39 => ?_) (fun c39 => ?_) | refine Cf (s := 39) (Aa E) (fun c39 => ?_) (fun c39 => ?_)
    ·refine Bm (Bm (y_ (Aq (T E) Aj) (Af (Ae ?_)) E) E E E E) E E E E
     first | refine A8 (Aa E) ?_ | refine A8 (Ak (Aa E) (vbool (decide_eq_true c42))) ?_
     refine Ag (Ab (y_ (Ad Aj) (Af (Ae (Ay (Al (Az E (.tmp (Aa E) .nil) ?_))))) E))
     exact ⟨_, ⟨⟨_, rfl, fun h => by first | (exfalso; omega) | exact ⟨fun i hi => hl2 i (by omega), fun i hi => hl3 i (by omega)⟩⟩, rfl⟩, sbt⟩
    ·refine Ax (Ac (T E)) E (Ao E E (Aa E)) ?_
     first | refine Ax (Ca (T E)) E (Ao E E (Aa E)) ?_ | refine Ax (Co (T E)) E (Ao E E (Aa E)) ?_
     refine y_ (Au (T E) (T E)) (Af (Ae ?_)) E
     first | refine Ar (Aa E) (fun c42 => ?_) (fun c42 => ?_) | refine A6 (Aa E) (fun c42 => ?_) (fun c42 => ?_)
     ·refine Ag (Ab (y_ (Ad Aj) (Af (Ae (Ay (Al (Az E (.tmp (Aa E) .nil) ?_))))) E))
      exact ⟨_, ⟨⟨_, rfl, fun h => by first | (exfalso; omega) | exact ⟨fun i hi => hl2 i (by omega), fun i hi => hl3 i (by omega)⟩⟩, rfl⟩, sbt⟩
     ·refine A2 (Ae (Ag (Ag (Ab (y_ (Ad Aj) (Af (Ae (Aw ?_))) E)))))
      refine Cc (X := Nat) (V := fun k => [(7, .int .i64 (k : Nat))]) (C := [(1, _)]) (φ := fun k => k ≤ n.nodes.length) (μ := fun k => n.nodes.length - k) (x0 := 0) ?_ ⟨Aa E, trivial⟩ ⟨(by first | exact Aa E | (refine Ak (Aa E) (vint ?_); omega) | (refine Ak (Aa E) ?_; simp; done)), trivial⟩ ?_
      ·exact Nat.zero_le _
      rintro k hk
      refine Ag (Ag (Ab (y_ (Ac (T E)) (y_ (Bc (T E) C8) (y_ (Ai (T E) isAgg52 (by first | exact c_o | exact c_m (hn.nodes.f0 (i := k) (by omega) E) | exact c_m (hn.edges.f0 (i := k3) (by omega) E) | exact c_m (hn.edges.f (i := k3) (by omega) E))) ?_ E) E) E)))
      refine y_ (Bp (T E) runUnderlying52) (y_ (Bu (T E) (T E)) (Af (Ae ?_)) E) E
      first | refine Ar (Aa E) (fun c47 => ?_) (fun c47 => ?_) | refine A6 (Aa E) (fun c47 => ?_) (fun c47 => ?_)
      ·refine A2 (Ae (Ag (Aw (Ag (Ab (y_ (Bc (T E) C8) (y_ (Ai (T E) isAgg52 (by first | exact c_o | exact c_m (hn.nodes.f0 (i := k) (by omega) E) | exact c_m (hn.edges.f0 (i := k3) (by omega) E) | exact c_m (hn.edges.f (i := k3) (by omega) E))) ?_ E) E))))))
       refine y_ (Ac (T E)) (y_ (Be (T E) (T E) runUnderlying52 sizeOf138 (by omega) (by first | exact rfl | exact hn.nodes.b (i := k) (by omega) | exact hn.links.b (i := k2) (by omega) | exact hn.edges.b (i := k3) (by omega))) ?_ E) E
       refine y_ (Am (T E) isAgg138 sizeOf138 E (by first | exact Dq (hn.nodes.cs (i := k) (by omega)) | exact Bb | exact Dq (hn.nodes.f0 (i := k) (by omega) E) | exact Dq (hn.edges.f0 (i := k3) (by omega) E) | exact Dq (hn.edges.f (i := k3) (by omega) E))) ?_ E
       refine e_ (A5 zeroValue138 cs_) ?_ E
       rintro _ _ ⟨n8, rfl, rfl⟩
       first | refine Bk (A7 (T E) (T E) sizeOf138) E Ah ?_
       rintro _ _ ⟨rfl, rfl⟩
       refine Af (Ae (Ag (Ab (y_ (Bi (T E) fa138_2) (y_ (Ai (T E) isAgg3 (by first | exact c_o | exact c_m (hn.nodes.f0 (i := k) (by omega) E) | exact c_m (hn.edges.f0 (i := k3) (by omega) E) | exact c_m (hn.edges.f (i := k3) (by omega) E))) ?_ E) E))))
       refine y_ (Bu (T E) Aj) (y_ (Ac (T E)) ?_ E) E
       first | refine Bz (s := 58) (Aa E) (fun c58 => ?_) (fun c58 => ?_) | refine Cf (s := 58) (Aa E) (fun c58 => ?_) (fun c58 => ?_)
       ·refine Bm (Bm (Bm (y_ (Aq (T E) Aj) (y_ (Ac (T E)) (Bm (Bm (Bm (y_ (Aq (T E) Aj) (y_ (Ac (T E)) (Bm (Bm (Bm (y_ (Aq (T E) Aj) (Af (Ae (Bh [(1, _), (7, _), (72, _)] ⟨Aa E, Aa E, Aa E, trivial⟩ ?_))) E) E E E E) E E E E) E E E E) E) E) E E E E) E E E E) E E E E) E) E) E E E E) E E E E) E E E E
        first | refine A8 (Aa E) ?_ | refine A8 (Ak (Aa E) (vbool (decide_eq_true c72))) ?_
        refine Ag (Ab (y_ (Ad Aj) (Af (Ae (Ay (An (Al (Bo (An (Al (Az E (.tmp (Aa E) .nil) ?_))))))))) E))
        exact ⟨_, ⟨⟨_, rfl, fun h => by first | (exfalso; omega) | exact ⟨fun i hi => hl2 i (by omega), fun i hi => hl3 i (by omega)⟩⟩, rfl⟩, sbt⟩
       ·refine Ax (Bi (T E) fa138_2) E (Ao E E (Aa E)) (Ax (Ai (T E) isAgg3 (by first | exact c_o | exact c_m (hn.nodes.f0 (i := k) (by omega) E) | exact c_m (hn.edges.f0 (i := k3) (by omega) E) | exact c_m (hn.edges.f (i := k3) (by omega) E))) E (Ao E E (Aa E)) ?_)
        refine Ax (C7 (T E) Aj) E (Ao E E (Aa E)) (y_ (Au (T E) (T E)) (y_ (Ac (T E)) ?_ E) E)
        first | refine Bz (s := 63) (Aa E) (fun c63 => ?_) (fun c63 => ?_) | refine Cf (s := 63) (Aa E) (fun c63 => ?_) (fun c63 => ?_)
        ·refine Bm (Bm (Bm (y_ (Aq (T E) Aj) (y_ (Ac (T E)) (Bm (Bm (Bm (y_ (Aq (T E) Aj) (Af (Ae (Bh [(1, _), (7, _), (72, _)] ⟨Aa E, Aa E, Aa E, trivial⟩ ?_))) E) E E E E) E E E E) E E E E) E) E) E E E E) E E E E) E E E E
         first | refine A8 (Aa E) ?_ | refine A8 (Ak (Aa E) (vbool (decide_eq_true c72))) ?_
         refine Ag (Ab (y_ (Ad Aj) (Af (Ae (Ay (An (Al (Bo (An (Al (Az E (.tmp (Aa E) .nil) ?_))))))))) E))
         exact ⟨_, ⟨⟨_, rfl, fun h => by first | (exfalso; omega) | exact ⟨fun i hi => hl2 i (by omega), fun i hi => hl3 i (by omega)⟩⟩, rfl⟩, sbt⟩
        ·refine Ax (Bi (T E) fa138_3) E (Ao E E (Aa E)) (Ax (Ai (T E) isAgg3 (by first | exact c_o | exact c_m (hn.nodes.f0 (i := k) (by omega) E) | exact c_m (hn.edges.f0 (i := k3) (by omega) E) | exact c_m (hn.edges.f (i := k3) (by omega) E))) E (Ao E E (Aa E)) ?_)
         refine Ax (Bu (T E) Aj) E (Ao E E (Aa E)) (y_ (Au (T E) (T E)) (y_ (Ac (T E)) ?_ E) E)
         first | refine Bz (s := 68) (Aa E) (fun c68 => ?_) (fun c68 => ?_) | refine Cf (s := 68) (Aa E) (fun c68 => ?_) (fun c68 => ?_)
         ·refine Bm (Bm (Bm (y_ (Aq (T E) Aj) (Af (Ae (Bh [(1, _), (7, _), (72, _)] ⟨Aa E, Aa E, Aa E, trivial⟩ ?_))) E) E E E E) E E E E) E E E E
          first | refine A8 (Aa E) ?_ | refine A8 (Ak (Aa E) (vbool (decide_eq_true c72))) ?_
          refine Ag (Ab (y_ (Ad Aj) (Af (Ae (Ay (An (Al (Bo (An (Al (Az E (.tmp (Aa E) .nil) ?_))))))))) E))
          exact ⟨_, ⟨⟨_, rfl, fun h => by first | (exfalso; omega) | exact ⟨fun i hi => hl2 i (by omega), fun i hi => hl3 i (by omega)⟩⟩, rfl⟩, sbt⟩
         ·refine Ax (Bi (T E) fa138_3) E (Ao E E (Aa E)) (Ax (Ai (T E) isAgg3 (by first | exact c_o | exact c_m (hn.nodes.f0 (i := k) (by omega) E) | exact c_m (hn.edges.f0 (i := k3) (by omega) E) | exact c_m (hn.edges.f (i := k3) (by omega) E))) E (Ao E E (Aa E)) ?_)
          refine Ax (C7 (T E) Aj) E (Ao E E (Aa E)) (y_ (Au (T E) (T E)) (Af (Ae (Bh [(1, _), (7, _), (72, _)] ⟨Aa E, Aa E, Aa E, trivial⟩ ?_))) E)
          first | refine Ar (Aa E) (fun c72 => ?_) (fun c72 => ?_) | refine A6 (Aa E) (fun c72 => ?_) (fun c72 => ?_)
          ·refine Ag (Ab (y_ (Ad Aj) (Af (Ae (Ay (An (Al (Bo (An (Al (Az E (.tmp (Aa E) .nil) ?_))))))))) E))
           exact ⟨_, ⟨⟨_, rfl, fun h => by first | (exfalso; omega) | exact ⟨fun i hi => hl2 i (by omega), fun i hi => hl3 i (by omega)⟩⟩, rfl⟩, sbt⟩
          ·refine A2 (Bl (Ae (Ab (y_ (Ac (T E)) (y_ (Bt (T E) Aj (by omega)) ?_ E) E))))
           refine y_ (Ad (T E)) (Af ?_) E
           refine Bn (k + 1) ?_ ?_ ⟨(by first | exact Aa E | (refine Ak (Aa E) (vint ?_); omega) | (refine Ak (Aa E) ?_; simp; done)), trivial⟩ ⟨Aa E, trivial⟩ ?_
           ·show k + 1 ≤ _; omega
           ·first | omega | (simp only []; omega)
           ·exact sbt
      ·refine B4 (A0 (A4 (A3 (Ae (Ag (Ag (Ab (y_ (Ad Aj) (Af (Ae (Aw ?_))) E))))))))
       refine Cc (X := Nat) (V := fun k2 => [(9, .int .i64 (k2 : Nat))]) (C := [(1, _)]) (φ := fun k2 => k2 ≤ n.links.length ∧ ∀ i, i < k2 → LnkOk n (gd n.links i)) (μ := fun k2 => n.links.length - k2) (x0 := 0) ?_ ⟨Aa E, trivial⟩ ⟨(by first | exact Aa E | (refine Ak (Aa E) (vint ?_); omega) | (refine Ak (Aa E) ?_; simp; done)), trivial⟩ ?_
       ·exact ⟨Nat.zero_le _, fun i hi => by omega⟩
       rintro k2 ⟨hk2, hl2⟩
       refine Ag (Ag (Ab (y_ (Ac (T E)) (y_ (Bi (T E) C6) (y_ (Ai (T E) isAgg53 (by first | exact c_o | exact c_m (hn.nodes.f0 (i := k) (by omega) E) | exact c_m (hn.edges.f0 (i := k3) (by omega) E) | exact c_m (hn.edges.f (i := k3) (by omega) E))) ?_ E) E) E)))
       refine y_ (Bp (T E) runUnderlying53) (y_ (Bu (T E) (T E)) (Af (Ae ?_)) E) E
       first | refine Ar (Aa E) (fun c77 => ?_) (fun c77 => ?_) | refine A6 (Aa E) (fun c77 => ?_) (fun c77 => ?_)
       ·refine A2 (Ae (Ag (Aw (Ag (Ab (y_ (Bi (T E) C6) (y_ (Ai (T E) isAgg53 (by first | exact c_o | exact c_m (hn.nodes.f0 (i := k) (by omega) E) | exact c_m (hn.edges.f0 (i := k3) (by omega) E) | exact c_m (hn.edges.f (i := k3) (by omega) E))) ?_ E) E))))))
        refine y_ (Ac (T E)) (y_ (Be (T E) (T E) runUnderlying53 sizeOf71 (by omega) (by first | exact rfl | exact hn.nodes.b (i := k) (by omega) | exact hn.links.b (i := k2) (by omega) | exact hn.edges.b (i := k3) (by omega))) ?_ E) E
        refine y_ (Am (T E) isAgg71 sizeOf71 E (by first | exact Dq (hn.links.cs (i := k2) (by omega)) | exact Bb | exact Dq (hn.nodes.f0 (i := k) (by omega) E) | exact Dq (hn.edges.f0 (i := k3) (by omega) E) | exact Dq (hn.edges.f (i := k3) (by omega) E))) ?_ E
        refine e_ (A5 zeroValue71 cs_) ?_ E
        rintro _ _ ⟨n10, rfl, rfl⟩
        first | refine Bk (A7 (T E) (T E) sizeOf71) E Ah ?_
        rintro _ _ ⟨rfl, rfl⟩
        refine Af (Ae (Ag (Ab (y_ (Am (T E) isAgg56 sizeOf56 E (by first | exact Bb | exact Dq (hn.nodes.f0 (i := k) (by omega) E) | exact Dq (hn.edges.f0 (i := k3) (by omega) E) | exact Dq (hn.edges.f (i := k3) (by omega) E))) ?_ E))))
        refine y_ (Bc (T E) fa71_0) (y_ (Ai (T E) isAgg3 (by first | exact c_o | exact c_m (hn.nodes.f0 (i := k) (by omega) E) | exact c_m (hn.edges.f0 (i := k3) (by omega) E) | exact c_m (hn.edges.f (i := k3) (by omega) E))) ?_ E) E
        refine y_ (Av (.cons (T E) (.cons (T E) .nil)) call124 (fun H' hs => isNode_s _ _)) ?_ E
        first | refine Ax (Ca (T E)) E Ah ?_ | refine Ax (Co (T E)) E Ah ?_
        refine y_ (Ac (T E)) ?_ E
        first | refine Bz (s := 90) (Aa E) (fun c90 => ?_) (fun c90 => ?_) | refine Cf (s := 90) (Aa E) (fun c90 => ?_) (fun c90 => ?_)
        ·refine Bm (Bm (Bm (Bm (Bm (y_ (Aq (T E) Aj) (y_ (Ac (T E)) (Bm (Bm (Bm (Bm (Bm (y_ (Aq (T E) Aj) (y_ (Ac (T E)) (Bm (Bm (Bm (y_ (Aq (T E) Aj) (y_ (Ac (T E)) (Bm (Bm (Bm (y_ (Aq (T E) Aj) (Af (Ae (Bh [(1, _), (9, _), (113, _)] ⟨Aa E, Aa E, Aa E, trivial⟩ ?_))) E) E E E E) E E E E) E E E E) E) E) E E E E) E E E E) E E E E) E) E) E E E E) E E E E) E E E E) E E E E) E E E E) E) E) E E E E) E E E E) E E E E) E E E E) E E E E
         first | refine A8 (Aa E) ?_ | refine A8 (Ak (Aa E) (vbool (decide_eq_true c113))) ?_
         refine Ag (Ab (y_ (Ad Aj) (Af (Ae (Ay (An (Al (Bo (An (Al (Az E (.tmp (Aa E) .nil) ?_))))))))) E))
         exact ⟨_, ⟨⟨_, rfl, fun h => by first | (exfalso; omega) | exact ⟨fun i hi => hl2 i (by omega), fun i hi => hl3 i (by omega)⟩⟩, rfl⟩, sbt⟩
        ·refine Ax (Am (T E) isAgg56 sizeOf56 E (by first | exact Bb | exact Dq (hn.nodes.f0 (i := k) (by omega) E) | exact Dq (hn.edges.f0 (i := k3) (by omega) E) | exact Dq (hn.edges.f (i := k3) (by omega) E))) E (Ao E E (Aa E)) ?_
         refine Ax (Bi (T E) fa71_1) E (Ao E E (Aa E)) (Ax (Ai (T E) isAgg3 (by first | exact c_o | exact c_m (hn.nodes.f0 (i := k) (by omega) E) | exact c_m (hn.edges.f0 (i := k3) (by omega) E) | exact c_m (hn.edges.f (i := k3) (by omega) E))) E (Ao E E (Aa E)) ?_)
         refine Ax (Av (.cons (T E) (.cons (T E) .nil)) call124 (fun H' hs => isNode_s _ _)) E (Ao E E (Aa E)) ?_
         first | refine Ax (Ca (T E)) E (Ao E E (Aa E)) ?_ | refine Ax (Co (T E)) E (Ao E E (Aa E)) ?_
         refine y_ (Au (T E) (T E)) (y_ (Ac (T E)) ?_ E) E
         first | refine Bz (s := 97) (Aa E) (fun c97 => ?_) (fun c97 => ?_) | refine Cf (s := 97) (Aa E) (fun c97 => ?_) (fun c97 => ?_)
         ·refine Bm (Bm (Bm (Bm (Bm (y_ (Aq (T E) Aj) (y_ (Ac (T E)) (Bm (Bm (Bm (y_ (Aq (T E) Aj) (y_ (Ac (T E)) (Bm (Bm (Bm (y_ (Aq (T E) Aj) (Af (Ae (Bh [(1, _), (9, _), (113, _)] ⟨Aa E, Aa E, Aa E, trivial⟩ ?_))) E) E E E E) E E E E) E E E E) E) E) E E E E) E E E E) E E E E) E) E) E E E E) E E E E) E E E E) E E E E) E E E E
          first | refine A8 (Aa E) ?_ | refine A8 (Ak (Aa E) (vbool (decide_eq_true c113))) ?_
          refine Ag (Ab (y_ (Ad Aj) (Af (Ae (Ay (An (Al (Bo (An (Al (Az E (.tmp (Aa E) .nil) ?_))))))))) E))
          exact ⟨_, ⟨⟨_, rfl, fun h => by first | (exfalso; omega) | exact ⟨fun i hi => hl2 i (by omega), fun i hi => hl3 i (by omega)⟩⟩, rfl⟩, sbt⟩
         ·refine Ax (Bc (T E) fa71_0) E (Ao E E (Aa E)) (Ax (Ai (T E) isAgg3 (by first | exact c_o | exact c_m (hn.nodes.f0 (i := k) (by omega) E) | exact c_m (hn.edges.f0 (i := k3) (by omega) E) | exact c_m (hn.edges.f (i := k3) (by omega) E))) E (Ao E E (Aa E)) ?_)
          refine Ax (Bi (T E) fa71_1) E (Ao E E (Aa E)) (Ax (Ai (T E) isAgg3 (by first | exact c_o | exact c_m (hn.nodes.f0 (i := k) (by omega) E) | exact c_m (hn.edges.f0 (i := k3) (by omega) E) | exact c_m (hn.edges.f (i := k3) (by omega) E))) E (Ao E E (Aa E)) ?_)
          refine Ax (B2 (T E) (T E)) E (Ao E E (Aa E)) (y_ (Au (T E) (T E)) (y_ (Ac (T E)) ?_ E) E)
          first | refine Bz (s := 104) (Aa E) (fun c104 => ?_) (fun c104 => ?_) | refine Cf (s := 104) (Aa E) (fun c104 => ?_) (fun c104 => ?_)
          ·refine Bm (Bm (Bm (y_ (Aq (T E) Aj) (y_ (Ac (T E)) (Bm (Bm (Bm (y_ (Aq (T E) Aj) (Af (Ae (Bh [(1, _), (9, _), (113, _)] ⟨Aa E, Aa E, Aa E, trivial⟩ ?_))) E) E E E E) E E E E) E E E E) E) E) E E E E) E E E E) E E E E
           first | refine A8 (Aa E) ?_ | refine A8 (Ak (Aa E) (vbool (decide_eq_true c113))) ?_
           refine Ag (Ab (y_ (Ad Aj) (Af (Ae (Ay (An (Al (Bo (An (Al (Az E (.tmp (Aa E) .nil) ?_))))))))) E))
           exact ⟨_, ⟨⟨_, rfl, fun h => by first | (exfalso; omega) | exact ⟨fun i hi => hl2 i (by omega), fun i hi => hl3 i (by omega)⟩⟩, rfl⟩, sbt⟩
          ·refine Ax (Bi (T E) fa71_2) E (Ao E E (Aa E)) (Ax (Ai (T E) isAgg3 (by first | exact c_o | exact c_m (hn.nodes.f0 (i := k) (by omega) E) | exact c_m (hn.edges.f0 (i := k3) (by omega) E) | exact c_m (hn.edges.f (i := k3) (by omega) E))) E (Ao E E (Aa E)) ?_)
           refine Ax (Bu (T E) Aj) E (Ao E E (Aa E)) (y_ (Au (T E) (T E)) (y_ (Ac (T E)) ?_ E) E)
           first | refine Bz (s := 109) (Aa E) (fun c109 => ?_) (fun c109 => ?_) | refine Cf (s := 109) (Aa E) (fun c109 => ?_) (fun c109 => ?_)
           ·refine Bm (Bm (Bm (y_ (Aq (T E) Aj) (Af (Ae (Bh [(1, _), (9, _), (113, _)] ⟨Aa E, Aa E, Aa E, trivial⟩ ?_))) E) E E E E) E E E E) E E E E
            first | refine A8 (Aa E) ?_ | refine A8 (Ak (Aa E) (vbool (decide_eq_true c113))) ?_
            refine Ag (Ab (y_ (Ad Aj) (Af (Ae (Ay (An (Al (Bo (An (Al (Az E (.tmp (Aa E) .nil) ?_))))))))) E))
            exact ⟨_, ⟨⟨_, rfl, fun h => by first | (exfalso; omega) | exact ⟨fun i hi => hl2 i (by omega), fun i hi => hl3 i (by omega)⟩⟩, rfl⟩, sbt⟩
           ·refine Ax (Bi (T E) fa71_2) E (Ao E E (Aa E)) (Ax (Ai (T E) isAgg3 (by first | exact c_o | exact c_m (hn.nodes.f0 (i := k) (by omega) E) | exact c_m (hn.edges.f0 (i := k3) (by omega) E) | exact c_m (hn.edges.f (i := k3) (by omega) E))) E (Ao E E (Aa E)) ?_)
            refine Ax (C7 (T E) Aj) E (Ao E E (Aa E)) (y_ (Au (T E) (T E)) (Af (Ae (Bh [(1, _), (9, _), (113, _)] ⟨Aa E, Aa E, Aa E, trivial⟩ ?_))) E)
            first | refine Ar (Aa E) (fun c113 => ?_) (fun c113 => ?_) | refine A6 (Aa E) (fun c113 => ?_) (fun c113 => ?_)
            ·refine Ag (Ab (y_ (Ad Aj) (Af (Ae (Ay (An (Al (Bo (An (Al (Az E (.tmp (Aa E) .nil) ?_))))))))) E))
             exact ⟨_, ⟨⟨_, rfl, fun h => by first | (exfalso; omega) | exact ⟨fun i hi => hl2 i (by omega), fun i hi => hl3 i (by omega)⟩⟩, rfl⟩, sbt⟩
            ·refine A2 (Bl (Ae (Ab (y_ (Ac (T E)) (y_ (Bt (T E) Aj (by omega)) ?_ E) E))))
             refine y_ (Ad (T E)) (Af ?_) E
             refine Bn (k2 + 1) ?_ ?_ ⟨(by first | exact Aa E | (refine Ak (Aa E) (vint ?_); omega) | (refine Ak (Aa E) ?_; simp; done)), trivial⟩ ⟨Aa E, trivial⟩ ?_
             ·refine ⟨by omega, fun i hi => ?_⟩
              by_cases e : i = k2
              ·subst e; exact ⟨by omega, by omega, by omega, by omega, by omega, by omega, by omega⟩
              ·exact hl2 i (by omega)
             ·first | omega | (simp only []; omega)
             ·exact sbt
       ·refine B4 (A0 (A4 (A3 (Ae (Ag (Ag (Ab (y_ (Ad Aj) (Af (Ae (Aw ?_))) E))))))))
        refine Cc (X := Nat) (V := fun k3 => [(11, .int .i64 (k3 : Nat))]) (C := [(1, _)]) (φ := fun k3 => k3 ≤ n.edges.length ∧ ∀ i, i < k3 → 0 ≤ (gd n.edges i).node ∧ (gd n.edges i).node < n.nodes.length) (μ := fun k3 => n.edges.length - k3) (x0 := 0) ?_ ⟨Aa E, trivial⟩ ⟨(by first | exact Aa E | (refine Ak (Aa E) (vint ?_); omega) | (refine Ak (Aa E) ?_; simp; done)), trivial⟩ ?_
        ·exact ⟨Nat.zero_le _, fun i hi => by omega⟩
        rintro k3 ⟨hk3, hl3⟩
        refine Ag (Ag (Ab (y_ (Ac (T E)) (y_ (Bi (T E) fa56_2) (y_ (Ai (T E) isAgg54 (by first | exact c_o | exact c_m (hn.nodes.f0 (i := k) (by omega) E) | exact c_m (hn.edges.f0 (i := k3) (by omega) E) | exact c_m (hn.edges.f (i := k3) (by omega) E))) ?_ E) E) E)))
        refine y_ (Bp (T E) runUnderlying54) (y_ (Bu (T E) (T E)) (Af (Ae ?_)) E) E
        first | refine Ar (Aa E) (fun c118 => ?_) (fun c118 => ?_) | refine A6 (Aa E) (fun c118 => ?_) (fun c118 => ?_)
        ·refine A2 (Ae (Ag (Aw (Ag (Ch 9 [(0, true), (1, true), (2, true), (3, true), (4, true), (5, true), (6, true), (7, true), (8, true)] _ mixd (by kernel_rfl) sb0 ?_)))))
         refine o_y E (Am (T E) isAgg56 sizeOf56 E (by first | exact Bb | exact Dq (hn.nodes.f0 (i := k) (by omega) E) | exact Dq (hn.edges.f0 (i := k3) (by omega) E) | exact Dq (hn.edges.f (i := k3) (by omega) E))) ?_ E Ah
         refine o_y E (Bi (T E) fa56_2) (o_y E (Ai (T E) isAgg54 (by first | exact c_o | exact c_m (hn.nodes.f0 (i := k) (by omega) E) | exact c_m (hn.edges.f0 (i := k3) (by omega) E) | exact c_m (hn.edges.f (i := k3) (by omega) E))) ?_ E Ah) E Ah
         refine o_y E (Ac (T E)) (o_y E (Be (T E) (T E) runUnderlying54 sizeOf154 (by omega) (by first | exact rfl | exact hn.nodes.b (i := k) (by omega) | exact hn.links.b (i := k2) (by omega) | exact hn.edges.b (i := k3) (by omega))) ?_ E Ah) E Ah
         refine o_y E (Bi (T E) fa154_1) (o_y E (Ai (T E) isAgg3 (by first | exact c_o | exact c_m (hn.nodes.f0 (i := k) (by omega) E) | exact c_m (hn.edges.f0 (i := k3) (by omega) E) | exact c_m (hn.edges.f (i := k3) (by omega) E))) ?_ E Ah) E Ah
         refine o_y E (Av (.cons (T E) (.cons (T E) .nil)) call124 (fun H' hs => isNode_s _ _)) ?_ E Ah
         first | refine o_y E (Ca (T E)) ?_ E Ah | refine o_y E (Co (T E)) ?_ E Ah
         refine Bx E (Af (Ae ?_))
         first | refine Ar (Aa E) (fun c129 => ?_) (fun c129 => ?_) | refine A6 (Aa E) (fun c129 => ?_) (fun c129 => ?_)
         ·refine Ag (Ab (y_ (Ad Aj) (Af (Ae (Ay (An (Al (Bo (An (Al (Az E (.tmp (Aa E) .nil) ?_))))))))) E))
          exact ⟨_, ⟨⟨_, rfl, fun h => by first | (exfalso; omega) | exact ⟨fun i hi => hl2 i (by omega), fun i hi => hl3 i (by omega)⟩⟩, rfl⟩, sbt⟩
         ·refine A2 (Bl (Ae (Ab (y_ (Ac (T E)) (y_ (Bt (T E) Aj (by omega)) ?_ E) E))))
          refine y_ (Ad (T E)) (Af ?_) E
          refine Bn (k3 + 1) ?_ ?_ ⟨(by first | exact Aa E | (refine Ak (Aa E) (vint ?_); omega) | (refine Ak (Aa E) ?_; simp; done)), trivial⟩ ⟨Aa E, trivial⟩ ?_
          ·refine ⟨by omega, fun i hi => ?_⟩
           by_cases e : i = k3
           ·subst e; omega
           ·exact hl3 i (by omega)
          ·first | omega | (simp only []; omega)
          ·exact sbt
        ·refine B4 (A0 (A4 (A3 (Ae (Ag (Ab (y_ (Ad Aj) (Af (Ae (Ay (Az E (.tmp (Aa E) .nil) ?_)))) E)))))))
         exact ⟨_, ⟨⟨_, rfl, fun h => by first | (exfalso; omega) | exact ⟨fun i hi => hl2 i (by omega), fun i hi => hl3 i (by omega)⟩⟩, rfl⟩, sbt⟩
theorem chkF_s {w0 : World} {H : List (Nat × Obj)} (n : Nm) (hn : NetM w0 H n) (f : Flr) (hf : Arr w0 H f.q 1 encI f.links) (hfl : f.links.length ≤ 9223372036854775807) :
  FSpec Tryz.prog w0 77 #[.agg (encNm n).toArray, .agg (encFl f).toArray] H (fun v H' => (∃ e : Int, v = .int .i64 e) ∧ H' = H) := by
 refine A9 Tryz.func77 E ntmps77 E (Ag (Ab (e_ (Ba (T E) cs_) ?_ E)))
 rintro _ _ ⟨n2, rfl, rfl⟩
 refine e_ (Ba (T E) cs_) ?_ E
 rintro _ _ ⟨n3, rfl, rfl⟩
 refine y_ (Ad Aj) (Af (Ae (Ag (Ag (Ab (y_ (Ad Aj) (Af (Ae (Aw ?_))) E)))))) E
 refine Cc (X := Nat) (V := fun k => [(5, .int .i64 (k : Nat))]) (C := [(2, _), (3, _)]) (φ := fun k => k ≤ f.links.length) (μ := fun k => f.links.length - k) (x0 := 0) ?_ ⟨Aa E, Aa E, trivial⟩ ⟨(by first | exact Aa E | (refine Ak (Aa E) (vint ?_); omega) | (refine Ak (Aa E) ?_; simp; done)), trivial⟩ ?_
 ·exact Nat.zero_le _
 rintro k hk
 refine Ag (Ag (Ab (y_ (Ac (T E)) (y_ (Bc (T E) fa58_0) (y_ (Ai (T E) isAgg42 (by first | exact c_o)) ?_ E) E) E)))
 refine y_ (Bp (T E) runUnderlying42) (y_ (Bu (T E) (T E)) (Af (Ae ?_)) E) E
 first | refine Ar (Aa E) (fun c10 => ?_) (fun c10 => ?_) | refine A6 (Aa E) (fun c10 => ?_) (fun c10 => ?_)
 ·refine A2 (Ae (Ag (Aw (Ag (Ch 35 [(0, true), (1, true), (2, true), (3, true), (4, true), (5, true), (6, true), (7, true), (8, true), (9, true), (10, true), (11, true), (12, true), (13, true), (14, true), (15, true), (16, true), (17, true), (18, true), (19, true), (20, true), (21, true), (22, true), (23, true), (24, true), (25, true), (26, true), (27, true), (28, true), (29, true), (30, true), (31, true), (32, true), (33, true), (34, true)] _ mixd (by kernel_rfl) sb0 ?_)))))
  refine o_y E (Bc (T E) fa58_0) (o_y E (Ai (T E) isAgg42 (by first | exact c_o)) ?_ E Ah) E Ah
  refine o_y E (Ac (T E)) (o_y E (Be (T E) (T E) runUnderlying42 sizeOf3 (by omega) (by first | exact rfl | exact hf.b (i := k) (by omega) | exact hf.b (i := ((k : Int) - 1).toNat) (by omega))) ?_ E Ah) E Ah
  refine o_y E (Ai (T E) isAgg3 (by first | exact c_o | exact cell1 ((hf.mono sbt).cs (i := k) (by omega)))) ?_ E Ah
  refine o_y E (Bu (T E) Aj) (o_y E (Ac (T E)) ?_ E Ah) E Ah
  first | refine Cy (s := 19) (Aa E) (fun c19 => ?_) (fun c19 => ?_) | refine Dx (s := 19) (Aa E) (fun c19 => ?_) (fun c19 => ?_)
  ·refine o_n E (o_n E (o_n E (o_n E (o_n E (o_n E (o_n E (o_n E (o_n E (o_y E (Aq (T E) Aj) (o_y E (Ac (T E)) (o_n E (o_n E (o_n E (o_n E (o_n E (o_n E (o_n E (o_n E (o_n E (o_n E (o_n E (o_n E (o_n E (o_n E (o_n E (o_n E (o_y E (Aq (T E) Aj) (Bx E (Af (Ae (Bh [(2, _), (3, _), (5, _), (47, _)] ⟨Aa E, Aa E, Aa E, Aa E, trivial⟩ ?_)))) E Ah) E (Bj E E (Aa E))) E (Ci E E (Aa E))) E (Ci E E (Aa E))) E (Ci E E (Aa E))) E (Ci E E (Aa E))) E (Ci E E (Aa E))) E (Ci E E (Aa E))) E (Ci E E (Aa E))) E (Ci E E (Aa E))) E (Ci E E (Aa E))) E (Ci E E (Aa E))) E (Ci E E (Aa E))) E (Ci E E (Aa E))) E (Bj E E (Aa E))) E (Bj E E (Aa E))) E (Bj E E (Aa E))) E Ah) E Ah) E (Bj E E (Aa E))) E (Bj E E (Aa E))) E (Bj E E (Aa E))) E (Bj E E (Aa E))) E (Bj E E (Aa E))) E (Bj E E (Aa E))) E (Bj E E (Aa E))) E (Bj E E (Aa E))) E (Bj E E (Aa E))
   first | refine A8 (Aa E) ?_ | refine A8 (Ak (Aa E) (vbool (decide_eq_true c47))) ?_
   refine Ag (Ab (y_ (Ad Aj) (Af (Ae (Ay (An (Al (Bo (An (Al (Az E (.tmp (Aa E) .nil) ?_))))))))) E))
   exact ⟨_, ⟨⟨_, rfl⟩, rfl⟩, sbt⟩
  ·refine o_y E (Bc (T E) fa58_0) (o_y E (Ai (T E) isAgg42 (by first | exact c_o)) ?_ E (Ao E E (Aa E))) E (Ao E E (Aa E))
   refine o_y E (Ac (T E)) (o_y E (Be (T E) (T E) runUnderlying42 sizeOf3 (by omega) (by first | exact rfl | exact hf.b (i := k) (by omega) | exact hf.b (i := ((k : Int) - 1).toNat) (by omega))) ?_ E (Ao E E (Aa E))) E (Ao E E (Aa E))
   refine o_y E (Ai (T E) isAgg3 (by first | exact c_o | exact cell1 ((hf.mono sbt).cs (i := k) (by omega)))) ?_ E (Ao E E (Aa E))
   refine o_y E (Bi (T E) C6) (o_y E (Ai (T E) isAgg53 (by first | exact c_o)) ?_ E (Ao E E (Aa E))) E (Ao E E (Aa E))
   refine o_y E (Bp (T E) runUnderlying53) (o_y E (C2 (T E) (T E)) (o_y E (Au (T E) (T E)) (o_y E (Ac (T E)) ?_ E Ah) E Ah) E (Ao E E (Aa E))) E (Ao E E (Aa E))
   first | refine Cy (s := 30) (Aa E) (fun c30 => ?_) (fun c30 => ?_) | refine Dx (s := 30) (Aa E) (fun c30 => ?_) (fun c30 => ?_)
   ·refine o_n E (o_n E (o_n E (o_n E (o_n E (o_n E (o_n E (o_n E (o_n E (o_n E (o_n E (o_n E (o_n E (o_n E (o_n E (o_n E (o_y E (Aq (T E) Aj) (Bx E (Af (Ae (Bh [(2, _), (3, _), (5, _), (47, _)] ⟨Aa E, Aa E, Aa E, Aa E, trivial⟩ ?_)))) E Ah) E (Bj E E (Aa E))) E (Ci E E (Aa E))) E (Ci E E (Aa E))) E (Ci E E (Aa E))) E (Ci E E (Aa E))) E (Ci E E (Aa E))) E (Ci E E (Aa E))) E (Ci E E (Aa E))) E (Ci E E (Aa E))) E (Ci E E (Aa E))) E (Ci E E (Aa E))) E (Ci E E (Aa E))) E (Ci E E (Aa E))) E (Bj E E (Aa E))) E (Bj E E (Aa E))) E (Bj E E (Aa E))
    first | refine A8 (Aa E) ?_ | refine A8 (Ak (Aa E) (vbool (decide_eq_true c47))) ?_
    refine Ag (Ab (y_ (Ad Aj) (Af (Ae (Ay (An (Al (Bo (An (Al (Az E (.tmp (Aa E) .nil) ?_))))))))) E))
    exact ⟨_, ⟨⟨_, rfl⟩, rfl⟩, sbt⟩
   ·refine o_y E (Ac (T E)) (o_y E (C7 (T E) Aj) (o_y E (Ac (T E)) ?_ E (Ao E E (Aa E))) E (Ao E E (Aa E))) E (Ao E E (Aa E))
    first | refine Cy (s := 33) (Aa E) (fun c33 => ?_) (fun c33 => ?_) | refine Dx (s := 33) (Aa E) (fun c33 => ?_) (fun c33 => ?_)
    ·refine o_y E (Bc (T E) fa58_0) (o_y E (Ai (T E) isAgg42 (by first | exact c_o)) ?_ E (Ao E E (Aa E))) E (Ao E E (Aa E))
     refine o_y E (Ac (T E)) (o_y E (Dz (T E) Aj (by omega)) ?_ E (Ao E E (Aa E))) E (Ao E E (Aa E))
     refine o_y E (Ck (T E) (T E) runUnderlying42 sizeOf3 (by omega) (by first | exact rfl | exact hf.b (i := k) (by omega) | exact hf.b (i := ((k : Int) - 1).toNat) (by omega))) ?_ E (Ao E E (Aa E))
     refine o_y E (Ai (T E) isAgg3 (by first | exact c_o | exact cell1 ((hf.mono sbt).cs (i := ((k : Int) - 1).toNat) (by omega)))) ?_ E (Ao E E (Aa E))
     refine o_y E (Bc (T E) fa58_0) (o_y E (Ai (T E) isAgg42 (by first | exact c_o)) ?_ E (Ao E E (Aa E))) E (Ao E E (Aa E))
     refine o_y E (Ac (T E)) (o_y E (Be (T E) (T E) runUnderlying42 sizeOf3 (by omega) (by first | exact rfl | exact hf.b (i := k) (by omega) | exact hf.b (i := ((k : Int) - 1).toNat) (by omega))) ?_ E (Ao E E (Aa E))) E (Ao E E (Aa E))
     refine o_y E (Ai (T E) isAgg3 (by first | exact c_o | exact cell1 ((hf.mono sbt).cs (i := k) (by omega)))) ?_ E (Ao E E (Aa E))
     refine o_y E (C2 (T E) (T E)) (o_y E (Aq (T E) (T E)) (o_y E (Au (T E) (T E)) (Bx E (Af (Ae (Bh [(2, _), (3, _), (5, _), (47, _)] ⟨Aa E, Aa E, Aa E, Aa E, trivial⟩ ?_)))) E Ah) E (Ao E E (Aa E))) E (Ao E E (Aa E))
     first | refine Ar (Aa E) (fun c47 => ?_) (fun c47 => ?_) | refine A6 (Aa E) (fun c47 => ?_) (fun c47 => ?_)
     ·refine Ag (Ab (y_ (Ad Aj) (Af (Ae (Ay (An (Al (Bo (An (Al (Az E (.tmp (Aa E) .nil) ?_))))))))) E))
      exact ⟨_, ⟨⟨_, rfl⟩, rfl⟩, sbt⟩
     ·refine A2 (Bl (Ae (Ab (y_ (Ac (T E)) (y_ (Bt (T E) Aj (by omega)) ?_ E) E))))
      refine y_ (Ad (T E)) (Af ?_) E
      refine Bn (k + 1) ?_ ?_ ⟨(by first | exact Aa E | (refine Ak (Aa E) (vint ?_); omega) | (refine Ak (Aa E) ?_; simp; done)), trivial⟩ ⟨Aa E, Aa E, trivial⟩ ?_
      ·show k + 1 ≤ _; omega
      ·first | omega | (simp only []; omega)
      ·exact sbt
    ·refine o_n E (o_n E (o_n E (o_n E (o_n E (o_n E (o_n E (o_n E (o_n E (o_n E (o_n E (o_n E (o_y E (Au (T E) Aj) (o_y E (Au (T E) (T E)) (Bx E (Af (Ae (Bh [(2, _), (3, _), (5, _), (47, _)] ⟨Aa E, Aa E, Aa E, Aa E, trivial⟩ ?_)))) E Ah) E (Ao E E (Aa E))) E (B8 E E (Aa E))) E (B8 E E (Aa E))) E (B8 E E (Aa E))) E (B8 E E (Aa E))) E (B8 E E (Aa E))) E (B8 E E (Aa E))) E (B8 E E (Aa E))) E (B8 E E (Aa E))) E (B8 E E (Aa E))) E (B8 E E (Aa E))) E (B8 E E (Aa E))) E (B8 E E (Aa E))
     first | refine Br (Aa E) ?_ | refine Br (Ak (Aa E) (vbool (decide_eq_false c47))) ?_
     refine A2 (Bl (Ae (Ab (y_ (Ac (T E)) (y_ (Bt (T E) Aj (by omega)) ?_ E) E))))
     refine y_ (Ad (T E)) (Af ?_) E
     refine Bn (k + 1) ?_ ?_ ⟨(by first | exact Aa E | (refine Ak (Aa E) (vint ?_); omega) | (refine Ak (Aa E) ?_; simp; done)), trivial⟩ ⟨Aa E, Aa E, trivial⟩ ?_
     ·show k + 1 ≤ _; omega
     ·first | omega | (simp only []; omega)
     ·exact sbt
 ·refine B4 (A0 (A4 (A3 (Ae (Ag (Ag (Ab (y_ (Bi (T E) fa58_1) (y_ (Ai (T E) isAgg3 (by first | exact c_o)) ?_ E) E))))))))
  refine y_ (Cu (T E) Aj) (y_ (Ac (T E)) ?_ E) E
  first | refine Bz (s := 51) (Aa E) (fun c51 => ?_) (fun c51 => ?_) | refine Cf (s := 51) (Aa E) (fun c51 => ?_) (fun c51 => ?_)
  ·refine Ax (Am (T E) isAgg56 sizeOf56 E (by first | exact Bb)) E (Ao E E (Aa E)) ?_
   refine Ax (Bi (T E) fa58_1) E (Ao E E (Aa E)) (Ax (Ai (T E) isAgg3 (by first | exact c_o)) E (Ao E E (Aa E)) ?_)
   refine Ax (Av (.cons (T E) (.cons (T E) .nil)) call124 (fun H' hs => isNode_s _ _)) E (Ao E E (Aa E)) ?_
   first | refine Ax (Ca (T E)) E (Ao E E (Aa E)) ?_ | refine Ax (Co (T E)) E (Ao E E (Aa E)) ?_
   refine y_ (Aq (T E) (T E)) (Af (Ae ?_)) E
   first | refine Ar (Aa E) (fun c57 => ?_) (fun c57 => ?_) | refine A6 (Aa E) (fun c57 => ?_) (fun c57 => ?_)
   ·refine Ag (Ab (y_ (Ad Aj) (Af (Ae (Ay (Al (Az E (.tmp (Aa E) .nil) ?_))))) E))
    exact ⟨_, ⟨⟨_, rfl⟩, rfl⟩, sbt⟩
   ·refine A2 (Ae (Ag (Ab (y_ (Ad Aj) (Af (Ae (Ay (Az E (.tmp (Aa E) .nil) ?_)))) E))))
    exact ⟨_, ⟨⟨_, rfl⟩, rfl⟩, sbt⟩
  ·refine Bs (Bs (Bs (Bs (Bs (y_ (Au (T E) Aj) (Af (Ae ?_)) E) E E E E) E E E E) E E E E) E E E E) E E E E
   first | refine Br (Aa E) ?_ | refine Br (Ak (Aa E) (vbool (decide_eq_false c57))) ?_
   refine A2 (Ae (Ag (Ab (y_ (Ad Aj) (Af (Ae (Ay (Az E (.tmp (Aa E) .nil) ?_)))) E))))
   exact ⟨_, ⟨⟨_, rfl⟩, rfl⟩, sbt⟩
structure RgtOk (n : Nm) (f : Flr) (x y : Int) : Prop where
 net : NetOk n
 nn : n.nodes.length ≤ 12
 nl : n.links.length ≤ 30
 fl : f.links.length ≤ 30
 x : 0 ≤ x ∧ x < n.nodes.length
 y : 0 ≤ y ∧ y < n.nodes.length
theorem right_s {w0 : World} {H : List (Nat × Obj)} (n : Nm) (hn : NetM w0 H n) (f : Flr) (hf : Arr w0 H f.q 1 encI f.links) (hfl : f.links.length ≤ 9223372036854775807) (x y : Int) :
  FSpec Tryz.prog w0 28 #[.agg (encNm n).toArray, .agg (encFl f).toArray, .int .i64 x, .int .i64 y] H (fun v H' => (∃ t : Bool, v = .bool t ∧ (t = true → RgtOk n f x y)) ∧ H' = H) := by
 refine A9 Tryz.func28 E ntmps28 E (Ag (Ab (e_ (Ba (T E) cs_) ?_ E)))
 rintro _ _ ⟨n4, rfl, rfl⟩
 refine e_ (Ba (T E) cs_) ?_ E
 rintro _ _ ⟨n5, rfl, rfl⟩
 refine y_ (Ad Aj) (Af (Ae (Ag (Ab (y_ (Am (T E) isAgg56 sizeOf56 E (by first | exact Bb)) ?_ E))))) E
 refine y_ (Av (.cons (T E) (.cons Aj (.cons Aj (.cons Aj .nil)))) call75 (fun H' hs => netFew_s _ _ _ _)) (y_ (Ac (T E)) ?_ E) E
 first | refine Bz (s := 11) (Aa E) (fun c11 => ?_) (fun c11 => ?_) | refine Cf (s := 11) (Aa E) (fun c11 => ?_) (fun c11 => ?_)
 ·refine Ax (Am (T E) isAgg56 sizeOf56 E (by first | exact Bb)) E (Ao E E (Aa E)) ?_
  refine Bk (A1 (.cons (T E) .nil) call76 (netCheck_s n (hn.mono sbt))) E (Ao E E (Aa E)) ?_
  rintro _ _ ⟨⟨e, rfl, hne⟩, rfl⟩
  refine Ax (B2 (T E) Aj) E (Ao E E (Aa E)) (y_ (Aq (T E) (T E)) (y_ (Ac (T E)) ?_ E) E)
  first | refine Bz (s := 16) (Aa E) (fun c16 => ?_) (fun c16 => ?_) | refine Cf (s := 16) (Aa E) (fun c16 => ?_) (fun c16 => ?_)
  ·refine Ax (Am (T E) isAgg56 sizeOf56 E (by first | exact Bb)) E (Ao E E (Aa E)) ?_
   refine Ax (Am (T E) isAgg58 sizeOf58 E (by first | exact Bb)) E (Ao E E (Aa E)) ?_
   refine Bk (A1 (.cons (T E) (.cons (T E) .nil)) call77 (chkF_s n (hn.mono sbt) f (hf.mono sbt) hfl)) E (Ao E E (Aa E)) ?_
   rintro _ _ ⟨⟨e2, rfl⟩, rfl⟩
   refine Ax (B2 (T E) Aj) E (Ao E E (Aa E)) (y_ (Aq (T E) (T E)) (y_ (Ac (T E)) ?_ E) E)
   first | refine Bz (s := 22) (Aa E) (fun c22 => ?_) (fun c22 => ?_) | refine Cf (s := 22) (Aa E) (fun c22 => ?_) (fun c22 => ?_)
   ·refine Ax (Bc (T E) fa58_0) E (Ao E E (Aa E)) (Ax (Ai (T E) isAgg42 (by first | exact c_o)) E (Ao E E (Aa E)) ?_)
    refine Ax (Bp (T E) runUnderlying42) E (Ao E E (Aa E)) (Ax (D0 (T E) Aj) E (Ao E E (Aa E)) (y_ (Aq (T E) (T E)) (y_ (Ac (T E)) ?_ E) E))
    first | refine Bz (s := 28) (Aa E) (fun c28 => ?_) (fun c28 => ?_) | refine Cf (s := 28) (Aa E) (fun c28 => ?_) (fun c28 => ?_)
    ·refine Ax (Ac (T E)) E (Ao E E (Aa E)) (Ax (C2 (T E) Aj) E (Ao E E (Aa E)) (y_ (Aq (T E) (T E)) (y_ (Ac (T E)) ?_ E) E))
     first | refine Bz (s := 32) (Aa E) (fun c32 => ?_) (fun c32 => ?_) | refine Cf (s := 32) (Aa E) (fun c32 => ?_) (fun c32 => ?_)
     ·refine Ax (Ac (T E)) E (Ao E E (Aa E)) (Ax (Bc (T E) C8) E (Ao E E (Aa E)) (Ax (Ai (T E) isAgg52 (by first | exact c_o)) E (Ao E E (Aa E)) ?_))
      refine Ax (Bp (T E) runUnderlying52) E (Ao E E (Aa E)) (Ax (Bu (T E) (T E)) E (Ao E E (Aa E)) (y_ (Aq (T E) (T E)) (y_ (Ac (T E)) ?_ E) E))
      first | refine Bz (s := 39) (Aa E) (fun c39 => ?_) (fun c39 => ?_) | refine Cf (s := 39) (Aa E) (fun c39 => ?_) (fun c39 => ?_)
      ·refine Ax (Ac (T E)) E (Ao E E (Aa E)) (Ax (C2 (T E) Aj) E (Ao E E (Aa E)) (y_ (Aq (T E) (T E)) (y_ (Ac (T E)) ?_ E) E))
       first | refine Bz (s := 43) (Aa E) (fun c43 => ?_) (fun c43 => ?_) | refine Cf (s := 43) (Aa E) (fun c43 => ?_) (fun c43 => ?_)
       ·refine Ax (Ac (T E)) E (Ao E E (Aa E)) (Ax (Bc (T E) C8) E (Ao E E (Aa E)) (Ax (Ai (T E) isAgg52 (by first | exact c_o)) E (Ao E E (Aa E)) ?_))
        refine Ax (Bp (T E) runUnderlying52) E (Ao E E (Aa E)) (Ax (Bu (T E) (T E)) E (Ao E E (Aa E)) (y_ (Aq (T E) (T E)) (y_ (Ad (T E)) (Af (Ae (Bh [(8, _)] ⟨Aa E, trivial⟩ (Ay (Az E (.tmp (Aa E) .nil) ?_))))) E) E))
        exact ⟨_, ⟨⟨_, rfl, fun h => by first | (cases h; done) | (exfalso; simp at h; omega) | (have hy := of_decide_eq_true h; exact ⟨hne (by omega), by omega, by omega, by omega, ⟨by omega, by omega⟩, ⟨by omega, by omega⟩⟩)⟩, rfl⟩, sbt⟩
       ·refine Bs (Bs (Bs (Bs (Bs (y_ (Au (T E) Aj) (y_ (Ad (T E)) (Af (Ae (Bh [(8, _)] ⟨Aa E, trivial⟩ (Ay (Az E (.tmp (Aa E) .nil) ?_))))) E) E) E E E E) E E E E) E E E E) E E E E) E E E E
        exact ⟨_, ⟨⟨_, rfl, fun h => by first | (cases h; done) | (exfalso; simp at h; omega) | (have hy := of_decide_eq_true h; exact ⟨hne (by omega), by omega, by omega, by omega, ⟨by omega, by omega⟩, ⟨by omega, by omega⟩⟩)⟩, rfl⟩, sbt⟩
      ·refine Bs (Bs (y_ (Au (T E) Aj) (y_ (Ac (T E)) (Bs (Bs (Bs (Bs (Bs (y_ (Au (T E) Aj) (y_ (Ad (T E)) (Af (Ae (Bh [(8, _)] ⟨Aa E, trivial⟩ (Ay (Az E (.tmp (Aa E) .nil) ?_))))) E) E) E E E E) E E E E) E E E E) E E E E) E E E E) E) E) E E E E) E E E E
       exact ⟨_, ⟨⟨_, rfl, fun h => by first | (cases h; done) | (exfalso; simp at h; omega) | (have hy := of_decide_eq_true h; exact ⟨hne (by omega), by omega, by omega, by omega, ⟨by omega, by omega⟩, ⟨by omega, by omega⟩⟩)⟩, rfl⟩, sbt⟩
     ·refine Bs (Bs (Bs (Bs (Bs (y_ (Au (T E) Aj) (y_ (Ac (T E)) (Bs (Bs (y_ (Au (T E) Aj) (y_ (Ac (T E)) (Bs (Bs (Bs (Bs (Bs (y_ (Au (T E) Aj) (y_ (Ad (T E)) (Af (Ae (Bh [(8, _)] ⟨Aa E, trivial⟩ (Ay (Az E (.tmp (Aa E) .nil) ?_))))) E) E) E E E E) E E E E) E E E E) E E E E) E E E E) E) E) E E E E) E E E E) E) E) E E E E) E E E E) E E E E) E E E E) E E E E
      exact ⟨_, ⟨⟨_, rfl, fun h => by first | (cases h; done) | (exfalso; simp at h; omega) | (have hy := of_decide_eq_true h; exact ⟨hne (by omega), by omega, by omega, by omega, ⟨by omega, by omega⟩, ⟨by omega, by omega⟩⟩)⟩, rfl⟩, sbt⟩
    ·refine Bs (Bs (y_ (Au (T E) Aj) (y_ (Ac (T E)) (Bs (Bs (Bs (Bs (Bs (y_ (Au (T E) Aj) (y_ (Ac (T E)) (Bs (Bs (y_ (Au (T E) Aj) (y_ (Ac (T E)) (Bs (Bs (Bs (Bs (Bs (y_ (Au (T E) Aj) (y_ (Ad (T E)) (Af (Ae (Bh [(8, _)] ⟨Aa E, trivial⟩ (Ay (Az E (.tmp (Aa E) .nil) ?_))))) E) E) E E E E) E E E E) E E E E) E E E E) E E E E) E) E) E E E E) E E E E) E) E) E E E E) E E E E) E E E E) E E E E) E E E E) E) E) E E E E) E E E E
     exact ⟨_, ⟨⟨_, rfl, fun h => by first | (cases h; done) | (exfalso; simp at h; omega) | (have hy := of_decide_eq_true h; exact ⟨hne (by omega), by omega, by omega, by omega, ⟨by omega, by omega⟩, ⟨by omega, by omega⟩⟩)⟩, rfl⟩, sbt⟩
   ·refine Bs (Bs (Bs (Bs (y_ (Au (T E) Aj) (y_ (Ac (T E)) (Bs (Bs (y_ (Au (T E) Aj) (y_ (Ac (T E)) (Bs (Bs (Bs (Bs (Bs (y_ (Au (T E) Aj) (y_ (Ac (T E)) (Bs (Bs (y_ (Au (T E) Aj) (y_ (Ac (T E)) (Bs (Bs (Bs (Bs (Bs (y_ (Au (T E) Aj) (y_ (Ad (T E)) (Af (Ae (Bh [(8, _)] ⟨Aa E, trivial⟩ (Ay (Az E (.tmp (Aa E) .nil) ?_))))) E) E) E E E E) E E E E) E E E E) E E E E) E E E E) E) E) E E E E) E E E E) E) E) E E E E) E E E E) E E E E) E E E E) E E E E) E) E) E E E E) E E E E) E) E) E E E E) E E E E) E E E E) E E E E
    exact ⟨_, ⟨⟨_, rfl, fun h => by first | (cases h; done) | (exfalso; simp at h; omega) | (have hy := of_decide_eq_true h; exact ⟨hne (by omega), by omega, by omega, by omega, ⟨by omega, by omega⟩, ⟨by omega, by omega⟩⟩)⟩, rfl⟩, sbt⟩
  ·refine Bs (Bs (Bs (Bs (y_ (Au (T E) Aj) (y_ (Ac (T E)) (Bs (Bs (Bs (Bs (y_ (Au (T E) Aj) (y_ (Ac (T E)) (Bs (Bs (y_ (Au (T E) Aj) (y_ (Ac (T E)) (Bs (Bs (Bs (Bs (Bs (y_ (Au (T E) Aj) (y_ (Ac (T E)) (Bs (Bs (y_ (Au (T E) Aj) (y_ (Ac (T E)) (Bs (Bs (Bs (Bs (Bs (y_ (Au (T E) Aj) (y_ (Ad (T E)) (Af (Ae (Bh [(8, _)] ⟨Aa E, trivial⟩ (Ay (Az E (.tmp (Aa E) .nil) ?_))))) E) E) E E E E) E E E E) E E E E) E E E E) E E E E) E) E) E E E E) E E E E) E) E) E E E E) E E E E) E E E E) E E E E) E E E E) E) E) E E E E) E E E E) E) E) E E E E) E E E E) E E E E) E E E E) E) E) E E E E) E E E E) E E E E) E E E E
   exact ⟨_, ⟨⟨_, rfl, fun h => by first | (cases h; done) | (exfalso; simp at h; omega) | (have hy := of_decide_eq_true h; exact ⟨hne (by omega), by omega, by omega, by omega, ⟨by omega, by omega⟩, ⟨by omega, by omega⟩⟩)⟩, rfl⟩, sbt⟩
 ·refine Bs (Bs (Bs (y_ (Au (T E) Aj) (y_ (Ac (T E)) (Bs (Bs (Bs (Bs (y_ (Au (T E) Aj) (y_ (Ac (T E)) (Bs (Bs (Bs (Bs (y_ (Au (T E) Aj) (y_ (Ac (T E)) (Bs (Bs (y_ (Au (T E) Aj) (y_ (Ac (T E)) (Bs (Bs (Bs (Bs (Bs (y_ (Au (T E) Aj) (y_ (Ac (T E)) (Bs (Bs (y_ (Au (T E) Aj) (y_ (Ac (T E)) (Bs (Bs (Bs (Bs (Bs (y_ (Au (T E) Aj) (y_ (Ad (T E)) (Af (Ae (Bh [(8, _)] ⟨Aa E, trivial⟩ (Ay (Az E (.tmp (Aa E) .nil) ?_))))) E) E) E E E E) E E E E) E E E E) E E E E) E E E E) E) E) E E E E) E E E E) E) E) E E E E) E E E E) E E E E) E E E E) E E E E) E) E) E E E E) E E E E) E) E) E E E E) E E E E) E E E E) E E E E) E) E) E E E E) E E E E) E E E E) E E E E) E) E) E E E E) E E E E) E E E E
  exact ⟨_, ⟨⟨_, rfl, fun h => by first | (cases h; done) | (exfalso; simp at h; omega) | (have hy := of_decide_eq_true h; exact ⟨hne (by omega), by omega, by omega, by omega, ⟨by omega, by omega⟩, ⟨by omega, by omega⟩⟩)⟩, rfl⟩, sbt⟩
end Go.Proofs.YtkdolgnpkjihpaaGreatDoor
namespace Go.Proofs.YtkdolgnpkjihpaaGreatDoor
open _root_.Go.Proofs.Tryz
open Go.RowKit
set_option linter.unusedVariables false
set_option linter.unusedSimpArgs false
section
variable {P : Program} {w0 : World} {L : Fm} {ty : TypeId} {H : List (Nat × Obj)} {x y : Operand} {t t2 e : TypeId}
theorem eff_appNil {α : Type} {enc : α → List Value} (l2 : List α) {q : Option Addr} {k c sz by' : Nat} {z : Value} {i0 : TypeInfo} {e2 : TypeId} (hk : k = l2.length) (hx : Ev L x (.slice none 0 0)) (hy : Ev L y (.slice q k c))
  (ht : ∀ w, (underlying t).run P w = .ok (.slice e) w) (ht2 : ∀ w, (underlying t2).run P w = .ok (.slice e2) w) (hz : ∀ w, (sizeOf e).run P w = .ok sz w) (hi : ∀ w, (typeInfo e).run P w = .ok i0 w) (hby : i0.bytes = by') (hzv : ∀ w, (zeroValue e).run P w = .ok z w) (hzs : z.cells.size = sz)
  (he : ∀ u, (enc u).length = sz) (h1 : ∀ u, (enc u).all oneB = true) (hb0 : by' ≠ 0) (hb : (2 * l2.length + 600) * by' ≤ 281474976710656) (hA : Arr w0 H q sz enc l2) :
  Eff P w0 (.call { callee := .builtin .append, args := #[x, y], argTypes := #[t, t2] }) ty L H (fun u H' => ∃ d', u = slV d' l2.length ∧ SlOk d' l2.length sz ∧ H' = slH d' (l2.flatMap enc) e ++ H) := by
 subst hk
 have h := eff_appN_at (P := P) (w0 := w0) (L := L) (ty := ty) (H := H) (x := x) (y := y) (t := t) (t2 := t2) (e := e) (enc := enc) l2 (R := H) (d := .nil) (l := []) (F := fun M' => M' ++ H) (show LocL ([] ++ H) [] H _ from .h) hx hy ht ht2 hz hi hby hzv hzs he h1 E hb0 (by simpa using hb) hA
 simpa using h
theorem eff_appTo {α : Type} {enc : α → List Value} (l2 : List α) {R : List (Nat × Obj)} {F : List (Nat × Obj) → List (Nat × Obj)} {d : Sl} {l : List α} {q : Option Addr} {k c sz by' : Nat} {z : Value} {i0 : TypeInfo} {e2 : TypeId} (hk : k = l2.length) (hl : LocL H (slH d (l.flatMap enc) e) R F) (hx : Ev L x (slV d l.length)) (hy : Ev L y (.slice q k c))
  (ht : ∀ w, (underlying t).run P w = .ok (.slice e) w) (ht2 : ∀ w, (underlying t2).run P w = .ok (.slice e2) w) (hz : ∀ w, (sizeOf e).run P w = .ok sz w) (hi : ∀ w, (typeInfo e).run P w = .ok i0 w) (hby : i0.bytes = by') (hzv : ∀ w, (zeroValue e).run P w = .ok z w) (hzs : z.cells.size = sz)
  (he : ∀ u, (enc u).length = sz) (h1 : ∀ u, (enc u).all oneB = true) (hok : SlOk d l.length sz) (hb0 : by' ≠ 0) (hb : (2 * (l.length + l2.length) + 600) * by' ≤ 281474976710656) (hA : Arr w0 H q sz enc l2) :
  Eff P w0 (.call { callee := .builtin .append, args := #[x, y], argTypes := #[t, t2] }) ty L H (fun u H' => ∃ d', u = slV d' (l ++ l2).length ∧ SlOk d' (l ++ l2).length sz ∧ H' = F (slH d' ((l ++ l2).flatMap enc) e)) := by
 subst hk
 rw [List.length_append]
 exact eff_appN_at l2 hl hx hy ht ht2 hz hi hby hzv hzs he h1 hok hb0 hb hA
theorem Cz {α : Type} {enc : α → List Value} (v : α) {R : List (Nat × Obj)} {F : List (Nat × Obj) → List (Nat × Obj)} {d : Sl} {l : List α} {n sz by' : Nat} {z : Value} {i0 : TypeInfo} {e2 : TypeId} (hl : LocL H (slH d (l.flatMap enc) e) R F) (hx : Ev L x (slV d l.length)) (hy : Ev L y (.slice (some ⟨n, 0, none⟩) 1 1))
  (ht : ∀ w, (underlying t).run P w = .ok (.slice e) w) (ht2 : ∀ w, (underlying t2).run P w = .ok (.slice e2) w) (hz : ∀ w, (sizeOf e).run P w = .ok sz w) (hi : ∀ w, (typeInfo e).run P w = .ok i0 w) (hby : i0.bytes = by') (hzv : ∀ w, (zeroValue e).run P w = .ok z w) (hzs : z.cells.size = sz)
  (he : ∀ u, (enc u).length = sz) (h1 : (enc v).all oneB = true) (hok : SlOk d l.length sz) (hb0 : by' ≠ 0) (hb : (2 * (l.length + 1) + 600) * by' ≤ 281474976710656) (hn : Cells w0 H n 0 (enc v) := by exact Bb) :
  Eff P w0 (.call { callee := .builtin .append, args := #[x, y], argTypes := #[t, t2] }) ty L H (fun u H' => ∃ d', u = slV d' (l ++ [v]).length ∧ SlOk d' (l ++ [v]).length sz ∧ H' = F (slH d' ((l ++ [v]).flatMap enc) e)) := by
 rw [List.length_append]
 exact B0 v hl hx hy ht ht2 hz hi hby hzv hzs he h1 hok hb0 hb hn
end
theorem sl_le {d : Sl} {k sz : Nat} (h : SlOk d k sz) : k ≤ slC d := by
 cases d with
 | nil => have : k = 0 := h; rw [this]; exact Nat.zero_le _
 | blk n cap junk => exact h.1
def putF (n : Nat) : List Nat → List Nat
 | [] => [n]
 | x :: l => if x < n then x :: putF n l else if x = n then x :: l else n :: x :: l
theorem putF_in {n : Nat} : ∀ {l : List Nat} {k : Nat}, k < l.length → (∀ j, j < k → gd l j < n) → gd l k = n → putF n l = l
 | [], k, h, _, _ => by simp at h
 | x :: l, 0, _, _, h => by have h : x = n := h; subst h; simp [putF]
 | x :: l, k + 1, h, hj, hk => by
  have h0 : x < n := hj 0 (by omega)
  unfold putF
  rw [if_pos h0, putF_in (k := k) (by simpa using h) (fun j hj2 => hj (j + 1) (by omega)) hk]
theorem putF_at {n : Nat} : ∀ {l : List Nat} {k : Nat}, k ≤ l.length → (∀ j, j < k → gd l j < n) → (k < l.length → n < gd l k) → putF n l = l.take k ++ [n] ++ l.drop k
 | [], 0, _, _, _ => rfl
 | x :: l, 0, _, _, h => by
  have h : n < x := h (by simp)
  unfold putF
  rw [if_neg (by omega), if_neg (by omega)]; rfl
 | x :: l, k + 1, h, hj, hk => by
  have h0 : x < n := hj 0 (by omega)
  unfold putF
  rw [if_pos h0, putF_at (k := k) (by simpa using h) (fun j hj2 => hj (j + 1) (by omega)) fun h2 => hk (by simpa using h2)]
  simp
theorem putF_len (n : Nat) : ∀ l : List Nat, (putF n l).length ≤ l.length + 1
 | [] => by simp [putF]
 | x :: l => by
  have := putF_len n l
  unfold putF; split
  ·simp only [List.length_cons]; omega
  ·split <;> simp
def mergeF (a b : List Nat) : List Nat := b.foldl (fun l n => putF n l) a
theorem mergeF_take {a b : List Nat} {k : Nat} (h : k < b.length) : mergeF a (b.take (k + 1)) = putF (gd b k) (mergeF a (b.take k)) := by
 unfold mergeF; rw [take_gd h]; simp
theorem mergeF_len (a : List Nat) : ∀ b : List Nat, (mergeF a b).length ≤ a.length + b.length := fun b => by
 unfold mergeF
 induction b generalizing a with
 | nil => simp
 | cons x b ih =>
  simp only [List.foldl_cons, List.length_cons]
  have := ih (putF x a)
  have := putF_len x a
  omega
theorem has_r {w0 : World} {H : List (Nat × Obj)} (l : List Nat) (q : Option Addr) (c : Nat) (hA : Arr w0 H q 1 encU l) (hl : l.length ≤ 100000) (n : Nat) :
  FSpec Tryz.prog w0 59 #[.slice q l.length c, .int .i64 (n : Int)] H (Still (.bool (decide (n ∈ l))) H) := by
 refine A9 Tryz.func59 E ntmps59 E (Ag (Ab (y_ (Ad Aj) (Af (Ae (Ag (Ag (Ab (y_ (Ad Aj) (Af (Ae (Aw ?_))) E)))))) E)))
 refine Cc (X := Nat) (V := fun k => [(5, .int .i64 (k : Nat))]) (C := [(0, _), (1, _)]) (φ := fun k => k ≤ l.length ∧ ∀ j, j < k → ¬ gd l j = n) (μ := fun k => l.length - k) (x0 := 0) ?_ ⟨Aa E, Aa E, trivial⟩ ⟨(by first | exact Aa E | (refine Ak (Aa E) (vint ?_); omega) | (refine Ak (Aa E) ?_; simp; done)), trivial⟩ ?_
 ·exact ⟨Nat.zero_le _, fun j hj => by omega⟩
 rintro k ⟨hk, hno⟩
 refine Ag (Ag (Ab (y_ (Ac (T E)) (y_ (Ac (T E)) (y_ (Bp (T E) runUnderlying42) (y_ (Bu (T E) (T E)) (Af (Ae ?_)) E) E) E) E)))
 first | refine Ar (Aa E) (fun c9 => ?_) (fun c9 => ?_) | refine A6 (Aa E) (fun c9 => ?_) (fun c9 => ?_)
 ·refine A2 (Ae (Ag (Aw (Ag (Ab (y_ (Ac (T E)) (y_ (Ac (T E)) (y_ (Be (T E) (T E) runUnderlying42 sizeOf3 (by omega) (by first | exact rfl | exact hA.b (i := k) (by omega))) ?_ E) E) E))))))
  refine y_ (Ai (T E) isAgg3 (by first | exact c_o | exact cell1 ((hA.mono sbt).cs (i := k) (by omega)))) ?_ E
  refine y_ (Ac (T E)) (y_ (B2 (T E) (T E)) (Af (Ae ?_)) E) E
  first | refine Ar (Aa E) (fun c17 => ?_) (fun c17 => ?_) | refine A6 (Aa E) (fun c17 => ?_) (fun c17 => ?_)
  ·refine Ag (Ab (y_ (Ad Aj) (Af (Ae (Ay (An (Al (Bo (An (Al (Az E (.tmp (Aa E) .nil) ?_))))))))) E))
   exact ⟨_, ⟨vbool (by symm; exact decide_eq_true (mem_gd.2 ⟨k, by omega, by omega⟩)), rfl⟩, sbt⟩
  ·refine A2 (Bl (Ae (Ab (y_ (Ac (T E)) (y_ (Bt (T E) Aj (by omega)) ?_ E) E))))
   refine y_ (Ad (T E)) (Af ?_) E
   refine Bn (k + 1) ?_ ?_ ⟨(by first | exact Aa E | (refine Ak (Aa E) (vint ?_); omega) | (refine Ak (Aa E) ?_; simp; done)), trivial⟩ ⟨Aa E, Aa E, trivial⟩ ?_
   ·refine ⟨by omega, fun j hj => ?_⟩
    by_cases e : j = k
    ·subst e; omega
    ·exact hno j (by omega)
   ·first | omega | (simp only []; omega)
   ·exact sbt
 ·refine B4 (A0 (A4 (A3 (Ae (Ag (Ab (y_ (Ad Aj) (Af (Ae (Ay (Az E (.tmp (Aa E) .nil) ?_)))) E)))))))
  exact ⟨_, ⟨vbool (by symm; exact decide_eq_false fun hm => by obtain ⟨j, h1, h2⟩ := mem_gd.1 hm; exact hno j (by omega) h2), rfl⟩, sbt⟩
theorem put_r {w0 : World} {H : List (Nat × Obj)} (l : List Nat) (q : Option Addr) (c : Nat) (hA : Arr w0 H q 1 encU l) (hc : l.length ≤ c) (hl : l.length ≤ 100000) (n : Nat) :
  FSpec Tryz.prog w0 108 #[.slice q l.length c, .int .i64 (n : Int)] H (fun v H' => ∃ (q' : Option Addr) (c' : Nat) (M : List (Nat × Obj)), (v = .slice q' (putF n l).length c' ∧ (putF n l).length ≤ c' ∧ Arr w0 (M ++ H) q' 1 encU (putF n l)) ∧ H' = M ++ H) := by
 refine A9 Tryz.func108 E ntmps108 E (Ag (Ab (y_ (Ad Aj) (Af (Ae (Ag (Ab (y_ (Ad Aj) (Af (Ae (Ag (Aw ?_)))) E))))) E)))
 refine Cc (X := Nat) (V := fun k => [(5, .int .i64 (k : Nat))]) (C := [(0, _), (1, _)]) (φ := fun k => k ≤ l.length ∧ ∀ j, j < k → gd l j < n) (μ := fun k => l.length - k) (x0 := 0) ?_ ⟨Aa E, Aa E, trivial⟩ ⟨(by first | exact Aa E | (refine Ak (Aa E) (vint ?_); omega) | (refine Ak (Aa E) ?_; simp; done)), trivial⟩ ?_
 ·exact ⟨Nat.zero_le _, fun j hj => by omega⟩
 rintro k ⟨hk, hlt⟩
 refine Ag (Ag (Ab (y_ (Ac (T E)) (y_ (Ac (T E)) (y_ (Bp (T E) runUnderlying42) (y_ (Bu (T E) (T E)) (y_ (Ac (T E)) ?_ E) E) E) E) E)))
 first | refine Bz (s := 11) (Aa E) (fun c11 => ?_) (fun c11 => ?_) | refine Cf (s := 11) (Aa E) (fun c11 => ?_) (fun c11 => ?_)
 ·refine Ax (Ac (T E)) E (Ao E E (Aa E)) (Ax (Ac (T E)) E (Ao E E (Aa E)) (Ax (Be (T E) (T E) runUnderlying42 sizeOf3 (by omega) (by first | exact rfl | exact hA.b (i := k) (by omega))) E (Ao E E (Aa E)) ?_))
  refine Ax (Ai (T E) isAgg3 (by first | exact c_o | exact cell1 ((hA.mono sbt).cs (i := k) (by omega)))) E (Ao E E (Aa E)) ?_
  refine Ax (Ac (T E)) E (Ao E E (Aa E)) (Ax (Bu (T E) (T E)) E (Ao E E (Aa E)) (y_ (Aq (T E) (T E)) (Af (Ae ?_)) E))
  first | refine Ar (Aa E) (fun c18 => ?_) (fun c18 => ?_) | refine A6 (Aa E) (fun c18 => ?_) (fun c18 => ?_)
  ·refine A2 (Ae (Aw (Ab (y_ (Ac (T E)) (y_ (Bt (T E) Aj (by omega)) ?_ E) E))))
   refine y_ (Ad (T E)) (Af (Bl ?_)) E
   refine Bn (k + 1) ?_ ?_ ⟨(by first | exact Aa E | (refine Ak (Aa E) (vint ?_); omega) | (refine Ak (Aa E) ?_; simp; done)), trivial⟩ ⟨Aa E, Aa E, trivial⟩ ?_
   ·refine ⟨by omega, fun j hj => ?_⟩
    by_cases e : j = k
    ·subst e; omega
    ·exact hlt j (by omega)
   ·first | omega | (simp only []; omega)
   ·exact sbt
  ·refine B4 (A0 (A4 (A3 (Ae (Ag (Ag (Ab (y_ (Ac (T E)) (y_ (Ac (T E)) (y_ (Bp (T E) runUnderlying42) (y_ (Bu (T E) (T E)) (y_ (Ac (T E)) ?_ E) E) E) E) E))))))))
   first | refine Bz (s := 25) (Aa E) (fun c25 => ?_) (fun c25 => ?_) | refine Cf (s := 25) (Aa E) (fun c25 => ?_) (fun c25 => ?_)
   ·refine Ax (Ac (T E)) E (Ao E E (Aa E)) (Ax (Ac (T E)) E (Ao E E (Aa E)) (Ax (Be (T E) (T E) runUnderlying42 sizeOf3 (by omega) (by first | exact rfl | exact hA.b (i := k) (by omega))) E (Ao E E (Aa E)) ?_))
    refine Ax (Ai (T E) isAgg3 (by first | exact c_o | exact cell1 ((hA.mono sbt).cs (i := k) (by omega)))) E (Ao E E (Aa E)) ?_
    refine Ax (Ac (T E)) E (Ao E E (Aa E)) (Ax (B2 (T E) (T E)) E (Ao E E (Aa E)) (y_ (Aq (T E) (T E)) (Af (Ae (Bh [(0, _), (1, _), (5, _), (32, _)] ⟨Aa E, Aa E, Aa E, Aa E, trivial⟩ ?_))) E))
    first | refine Ar (Aa E) (fun c32 => ?_) (fun c32 => ?_) | refine A6 (Aa E) (fun c32 => ?_) (fun c32 => ?_)
    ·refine Ag (Ab (y_ (Ac (T E)) (y_ (Ad (T E)) (Af (Ae (Ay (Al (Az E (.tmp (Aa E) .nil) ?_))))) E) E))
     first | (have hp : putF n l = l := putF_in (k := k) (by omega) hlt (by omega); exact ⟨_, ⟨q, c, [], ⟨by rw [hp]; rfl, by rw [hp]; exact hc, by rw [hp]; exact hA⟩, rfl⟩, sbt⟩) | (have hp : putF n l = l.take k ++ [n] ++ l.drop k := putF_at (by omega) hlt (fun h => by omega); exact ⟨_, ⟨slQ d3, slC d3, slH d3 ((l.take k ++ [n] ++ l.drop k).flatMap encU) 3, ⟨by rw [hp]; rfl, by rw [hp]; exact sl_le hd3, by rw [hp]; exact Bq (fun _ => rfl) hd3⟩, rfl⟩, sbt⟩)
    ·refine A2 (Ae (Ag (Ab (y_ (Ad Aj) (Af (Ae (Ag (Ab (y_ (Ac (T E)) (y_ (Ac (T E)) (y_ (Ac (T E)) (y_ (yl_sliceH  (T E) (T E) runUnderlying42 sizeOf3 (by omega)) ?_ E) E) E) E))))) E))))
     refine e_ (eff_appNil (l.take k) (by' := 8) (by first | exact (by simp; omega) | omega) (T E) (T E) runUnderlying42 runUnderlying42 sizeOf3 typeInfo3 E zeroValue3 E (fun _ => rfl) (fun _ => rfl) (by decide) (by simp; omega) ((hA.mono sbt).take k)) ?_ E
     rintro _ _ ⟨d1, rfl, hd1, rfl⟩
     refine y_ (Ad (T E)) (Af (Ae (Ag (Ab (y_ (Ac (T E)) (y_ (Ac (T E)) (e_ (Ap (.cons (T E) .nil) (Cw _)) ?_ E) E) E))))) E
     rintro _ _ ⟨n41, rfl, rfl⟩
     refine e_ (Cz (n) (by' := 8) (by repeat (first | exact LocL.h | apply LocL.t | apply LocL.a)) (T E) (T E) runUnderlying42 runUnderlying42 sizeOf3 typeInfo3 E zeroValue3 E (fun _ => rfl) E hd1 (by decide) (by simp; omega)) ?_ E
     rintro _ _ ⟨d2, rfl, hd2, rfl⟩
     refine y_ (Ad (T E)) (Af (Ae (Ag (Ab (y_ (Ac (T E)) (y_ (Ac (T E)) (y_ (Ac (T E)) (y_ (yl_sliceL  (T E) (T E) runUnderlying42 sizeOf3 (by omega)) ?_ E) E) E) E))))) E
     refine e_ (eff_appTo (l.drop k) (by' := 8) (by first | exact (by simp) | omega) (by repeat (first | exact LocL.h | apply LocL.t | apply LocL.a)) (T E) (T E) runUnderlying42 runUnderlying42 sizeOf3 typeInfo3 E zeroValue3 E (fun _ => rfl) (fun _ => rfl) hd2 (by decide) (by simp; omega) ((hA.mono sbt).drop hc k)) ?_ E
     rintro _ _ ⟨d3, rfl, hd3, rfl⟩
     refine y_ (Ad (T E)) (Af (Ae (Ay (Az E (.tmp (Aa E) .nil) ?_)))) E
     first | (have hp : putF n l = l := putF_in (k := k) (by omega) hlt (by omega); exact ⟨_, ⟨q, c, [], ⟨by rw [hp]; rfl, by rw [hp]; exact hc, by rw [hp]; exact hA⟩, rfl⟩, sbt⟩) | (have hp : putF n l = l.take k ++ [n] ++ l.drop k := putF_at (by omega) hlt (fun h => by omega); exact ⟨_, ⟨slQ d3, slC d3, slH d3 ((l.take k ++ [n] ++ l.drop k).flatMap encU) 3, ⟨by rw [hp]; rfl, by rw [hp]; exact sl_le hd3, by rw [hp]; exact Bq (fun _ => rfl) hd3⟩, rfl⟩, sbt⟩)
   ·refine Bs (Bs (Bs (Bs (Bs (Bs (y_ (Au (T E) Aj) (Af (Ae (Bh [(0, _), (1, _), (5, _), (32, _)] ⟨Aa E, Aa E, Aa E, Aa E, trivial⟩ ?_))) E) E E E E) E E E E) E E E E) E E E E) E E E E) E E E E
    first | refine Br (Aa E) ?_ | refine Br (Ak (Aa E) (vbool (decide_eq_false c32))) ?_
    refine A2 (Ae (Ag (Ab (y_ (Ad Aj) (Af (Ae (Ag (Ab (y_ (Ac (T E)) (y_ (Ac (T E)) (y_ (Ac (T E)) (y_ (yl_sliceH  (T E) (T E) runUnderlying42 sizeOf3 (by omega)) ?_ E) E) E) E))))) E))))
    refine e_ (eff_appNil (l.take k) (by' := 8) (by first | exact (by simp; omega) | omega) (T E) (T E) runUnderlying42 runUnderlying42 sizeOf3 typeInfo3 E zeroValue3 E (fun _ => rfl) (fun _ => rfl) (by decide) (by simp; omega) ((hA.mono sbt).take k)) ?_ E
    rintro _ _ ⟨d1, rfl, hd1, rfl⟩
    refine y_ (Ad (T E)) (Af (Ae (Ag (Ab (y_ (Ac (T E)) (y_ (Ac (T E)) (e_ (Ap (.cons (T E) .nil) (Cw _)) ?_ E) E) E))))) E
    rintro _ _ ⟨n41, rfl, rfl⟩
    refine e_ (Cz (n) (by' := 8) (by repeat (first | exact LocL.h | apply LocL.t | apply LocL.a)) (T E) (T E) runUnderlying42 runUnderlying42 sizeOf3 typeInfo3 E zeroValue3 E (fun _ => rfl) E hd1 (by decide) (by simp; omega)) ?_ E
    rintro _ _ ⟨d2, rfl, hd2, rfl⟩
    refine y_ (Ad (T E)) (Af (Ae (Ag (Ab (y_ (Ac (T E)) (y_ (Ac (T E)) (y_ (Ac (T E)) (y_ (yl_sliceL  (T E) (T E) runUnderlying42 sizeOf3 (by omega)) ?_ E) E) E) E))))) E
    refine e_ (eff_appTo (l.drop k) (by' := 8) (by first | exact (by simp) | omega) (by repeat (first | exact LocL.h | apply LocL.t | apply LocL.a)) (T E) (T E) runUnderlying42 runUnderlying42 sizeOf3 typeInfo3 E zeroValue3 E (fun _ => rfl) (fun _ => rfl) hd2 (by decide) (by simp; omega) ((hA.mono sbt).drop hc k)) ?_ E
    rintro _ _ ⟨d3, rfl, hd3, rfl⟩
    refine y_ (Ad (T E)) (Af (Ae (Ay (Az E (.tmp (Aa E) .nil) ?_)))) E
    first | (have hp : putF n l = l := putF_in (k := k) (by omega) hlt (by omega); exact ⟨_, ⟨q, c, [], ⟨by rw [hp]; rfl, by rw [hp]; exact hc, by rw [hp]; exact hA⟩, rfl⟩, sbt⟩) | (have hp : putF n l = l.take k ++ [n] ++ l.drop k := putF_at (by omega) hlt (fun h => by omega); exact ⟨_, ⟨slQ d3, slC d3, slH d3 ((l.take k ++ [n] ++ l.drop k).flatMap encU) 3, ⟨by rw [hp]; rfl, by rw [hp]; exact sl_le hd3, by rw [hp]; exact Bq (fun _ => rfl) hd3⟩, rfl⟩, sbt⟩)
 ·refine Bs (Bs (Bs (Bs (Bs (Bs (y_ (Au (T E) Aj) (Af (Ae ?_)) E) E E E E) E E E E) E E E E) E E E E) E E E E) E E E E
  first | refine Br (Aa E) ?_ | refine Br (Ak (Aa E) (vbool (decide_eq_false c18))) ?_
  refine B4 (A0 (A4 (A3 (Ae (Ag (Ag (Ab (y_ (Ac (T E)) (y_ (Ac (T E)) (y_ (Bp (T E) runUnderlying42) (y_ (Bu (T E) (T E)) (y_ (Ac (T E)) ?_ E) E) E) E) E))))))))
  first | refine Bz (s := 25) (Aa E) (fun c25 => ?_) (fun c25 => ?_) | refine Cf (s := 25) (Aa E) (fun c25 => ?_) (fun c25 => ?_)
  ·refine Ax (Ac (T E)) E (Ao E E (Aa E)) (Ax (Ac (T E)) E (Ao E E (Aa E)) (Ax (Be (T E) (T E) runUnderlying42 sizeOf3 (by omega) (by first | exact rfl | exact hA.b (i := k) (by omega))) E (Ao E E (Aa E)) ?_))
   refine Ax (Ai (T E) isAgg3 (by first | exact c_o | exact cell1 ((hA.mono sbt).cs (i := k) (by omega)))) E (Ao E E (Aa E)) ?_
   refine Ax (Ac (T E)) E (Ao E E (Aa E)) (Ax (B2 (T E) (T E)) E (Ao E E (Aa E)) (y_ (Aq (T E) (T E)) (Af (Ae (Bh [(0, _), (1, _), (5, _), (32, _)] ⟨Aa E, Aa E, Aa E, Aa E, trivial⟩ ?_))) E))
   first | refine Ar (Aa E) (fun c32 => ?_) (fun c32 => ?_) | refine A6 (Aa E) (fun c32 => ?_) (fun c32 => ?_)
   ·refine Ag (Ab (y_ (Ac (T E)) (y_ (Ad (T E)) (Af (Ae (Ay (Al (Az E (.tmp (Aa E) .nil) ?_))))) E) E))
    first | (have hp : putF n l = l := putF_in (k := k) (by omega) hlt (by omega); exact ⟨_, ⟨q, c, [], ⟨by rw [hp]; rfl, by rw [hp]; exact hc, by rw [hp]; exact hA⟩, rfl⟩, sbt⟩) | (have hp : putF n l = l.take k ++ [n] ++ l.drop k := putF_at (by omega) hlt (fun h => by omega); exact ⟨_, ⟨slQ d3, slC d3, slH d3 ((l.take k ++ [n] ++ l.drop k).flatMap encU) 3, ⟨by rw [hp]; rfl, by rw [hp]; exact sl_le hd3, by rw [hp]; exact Bq (fun _ => rfl) hd3⟩, rfl⟩, sbt⟩)
   ·refine A2 (Ae (Ag (Ab (y_ (Ad Aj) (Af (Ae (Ag (Ab (y_ (Ac (T E)) (y_ (Ac (T E)) (y_ (Ac (T E)) (y_ (yl_sliceH  (T E) (T E) runUnderlying42 sizeOf3 (by omega)) ?_ E) E) E) E))))) E))))
    refine e_ (eff_appNil (l.take k) (by' := 8) (by first | exact (by simp; omega) | omega) (T E) (T E) runUnderlying42 runUnderlying42 sizeOf3 typeInfo3 E zeroValue3 E (fun _ => rfl) (fun _ => rfl) (by decide) (by simp; omega) ((hA.mono sbt).take k)) ?_ E
    rintro _ _ ⟨d1, rfl, hd1, rfl⟩
    refine y_ (Ad (T E)) (Af (Ae (Ag (Ab (y_ (Ac (T E)) (y_ (Ac (T E)) (e_ (Ap (.cons (T E) .nil) (Cw _)) ?_ E) E) E))))) E
    rintro _ _ ⟨n41, rfl, rfl⟩
    refine e_ (Cz (n) (by' := 8) (by repeat (first | exact LocL.h | apply LocL.t | apply LocL.a)) (T E) (T E) runUnderlying42 runUnderlying42 sizeOf3 typeInfo3 E zeroValue3 E (fun _ => rfl) E hd1 (by decide) (by simp; omega)) ?_ E
    rintro _ _ ⟨d2, rfl, hd2, rfl⟩
    refine y_ (Ad (T E)) (Af (Ae (Ag (Ab (y_ (Ac (T E)) (y_ (Ac (T E)) (y_ (Ac (T E)) (y_ (yl_sliceL  (T E) (T E) runUnderlying42 sizeOf3 (by omega)) ?_ E) E) E) E))))) E
    refine e_ (eff_appTo (l.drop k) (by' := 8) (by first | exact (by simp) | omega) (by repeat (first | exact LocL.h | apply LocL.t | apply LocL.a)) (T E) (T E) runUnderlying42 runUnderlying42 sizeOf3 typeInfo3 E zeroValue3 E (fun _ => rfl) (fun _ => rfl) hd2 (by decide) (by simp; omega) ((hA.mono sbt).drop hc k)) ?_ E
    rintro _ _ ⟨d3, rfl, hd3, rfl⟩
    refine y_ (Ad (T E)) (Af (Ae (Ay (Az E (.tmp (Aa E) .nil) ?_)))) E
    first | (have hp : putF n l = l := putF_in (k := k) (by omega) hlt (by omega); exact ⟨_, ⟨q, c, [], ⟨by rw [hp]; rfl, by rw [hp]; exact hc, by rw [hp]; exact hA⟩, rfl⟩, sbt⟩) | (have hp : putF n l = l.take k ++ [n] ++ l.drop k := putF_at (by omega) hlt (fun h => by omega); exact ⟨_, ⟨slQ d3, slC d3, slH d3 ((l.take k ++ [n] ++ l.drop k).flatMap encU) 3, ⟨by rw [hp]; rfl, by rw [hp]; exact sl_le hd3, by rw [hp]; exact Bq (fun _ => rfl) hd3⟩, rfl⟩, sbt⟩)
  ·refine Bs (Bs (Bs (Bs (Bs (Bs (y_ (Au (T E) Aj) (Af (Ae (Bh [(0, _), (1, _), (5, _), (32, _)] ⟨Aa E, Aa E, Aa E, Aa E, trivial⟩ ?_))) E) E E E E) E E E E) E E E E) E E E E) E E E E) E E E E
   first | refine Br (Aa E) ?_ | refine Br (Ak (Aa E) (vbool (decide_eq_false c32))) ?_
   refine A2 (Ae (Ag (Ab (y_ (Ad Aj) (Af (Ae (Ag (Ab (y_ (Ac (T E)) (y_ (Ac (T E)) (y_ (Ac (T E)) (y_ (yl_sliceH  (T E) (T E) runUnderlying42 sizeOf3 (by omega)) ?_ E) E) E) E))))) E))))
   refine e_ (eff_appNil (l.take k) (by' := 8) (by first | exact (by simp; omega) | omega) (T E) (T E) runUnderlying42 runUnderlying42 sizeOf3 typeInfo3 E zeroValue3 E (fun _ => rfl) (fun _ => rfl) (by decide) (by simp; omega) ((hA.mono sbt).take k)) ?_ E
   rintro _ _ ⟨d1, rfl, hd1, rfl⟩
   refine y_ (Ad (T E)) (Af (Ae (Ag (Ab (y_ (Ac (T E)) (y_ (Ac (T E)) (e_ (Ap (.cons (T E) .nil) (Cw _)) ?_ E) E) E))))) E
   rintro _ _ ⟨n41, rfl, rfl⟩
   refine e_ (Cz (n) (by' := 8) (by repeat (first | exact LocL.h | apply LocL.t | apply LocL.a)) (T E) (T E) runUnderlying42 runUnderlying42 sizeOf3 typeInfo3 E zeroValue3 E (fun _ => rfl) E hd1 (by decide) (by simp; omega)) ?_ E
   rintro _ _ ⟨d2, rfl, hd2, rfl⟩
   refine y_ (Ad (T E)) (Af (Ae (Ag (Ab (y_ (Ac (T E)) (y_ (Ac (T E)) (y_ (Ac (T E)) (y_ (yl_sliceL  (T E) (T E) runUnderlying42 sizeOf3 (by omega)) ?_ E) E) E) E))))) E
   refine e_ (eff_appTo (l.drop k) (by' := 8) (by first | exact (by simp) | omega) (by repeat (first | exact LocL.h | apply LocL.t | apply LocL.a)) (T E) (T E) runUnderlying42 runUnderlying42 sizeOf3 typeInfo3 E zeroValue3 E (fun _ => rfl) (fun _ => rfl) hd2 (by decide) (by simp; omega) ((hA.mono sbt).drop hc k)) ?_ E
   rintro _ _ ⟨d3, rfl, hd3, rfl⟩
   refine y_ (Ad (T E)) (Af (Ae (Ay (Az E (.tmp (Aa E) .nil) ?_)))) E
   first | (have hp : putF n l = l := putF_in (k := k) (by omega) hlt (by omega); exact ⟨_, ⟨q, c, [], ⟨by rw [hp]; rfl, by rw [hp]; exact hc, by rw [hp]; exact hA⟩, rfl⟩, sbt⟩) | (have hp : putF n l = l.take k ++ [n] ++ l.drop k := putF_at (by omega) hlt (fun h => by omega); exact ⟨_, ⟨slQ d3, slC d3, slH d3 ((l.take k ++ [n] ++ l.drop k).flatMap encU) 3, ⟨by rw [hp]; rfl, by rw [hp]; exact sl_le hd3, by rw [hp]; exact Bq (fun _ => rfl) hd3⟩, rfl⟩, sbt⟩)
theorem merge_r {w0 : World} {H : List (Nat × Obj)} (a : List Nat) (q : Option Addr) (c : Nat) (hA : Arr w0 H q 1 encU a) (hc : a.length ≤ c) (b : List Nat) (q2 : Option Addr) (c2 : Nat) (hB : Arr w0 H q2 1 encU b) (hl : a.length + b.length ≤ 100000) :
  FSpec Tryz.prog w0 111 #[.slice q a.length c, .slice q2 b.length c2] H (fun v H' => ∃ (q' : Option Addr) (c' : Nat) (M : List (Nat × Obj)), (v = .slice q' (mergeF a b).length c' ∧ (mergeF a b).length ≤ c' ∧ Arr w0 (M ++ H) q' 1 encU (mergeF a b)) ∧ H' = M ++ H) := by
 refine A9 Tryz.func111 E ntmps111 E (Ag (Ab (y_ (Ad Aj) (Af (Ae (Ag (Ag (Ab (y_ (Ad Aj) (Af (Ae (Aw ?_))) E)))))) E)))
 refine Cm (X := Nat × Option Addr × Nat × List (Nat × Obj)) (V := fun ⟨k, q1, c1, M⟩ => [(5, .int .i64 (k : Nat)), (0, .slice q1 (mergeF a (b.take k)).length c1)]) (C := [(1, _)]) (G := fun ⟨k, q1, c1, M⟩ => M ++ H) (φ := fun ⟨k, q1, c1, M⟩ => k ≤ b.length ∧ (mergeF a (b.take k)).length ≤ c1 ∧ Arr w0 (M ++ H) q1 1 encU (mergeF a (b.take k))) (μ := fun ⟨k, q1, c1, M⟩ => b.length - k) (x0 := (0, q, c, [])) ?_ ⟨Aa rfl, trivial⟩ ⟨(by first | exact Aa rfl | (refine Ak (Aa rfl) (vint ?_); omega) | (refine Ak (Aa rfl) ?_; simp; done) | (refine Ak (Aa rfl) ?_; exact by rw [hmt])), (by first | exact Aa rfl | (refine Ak (Aa rfl) (vint ?_); omega) | (refine Ak (Aa rfl) ?_; simp; done) | (refine Ak (Aa rfl) ?_; exact by rw [hmt])), trivial⟩ sb0 ?_
 ·exact ⟨Nat.zero_le _, hc, hA⟩
 rintro ⟨k, q1, c1, M⟩ ⟨hk, hc1, hA1⟩
 have hml := mergeF_len a (b.take k)
 rw [List.length_take] at hml
 refine Ag (Ag (Ab (y_ (Ac (T E)) (y_ (Ac (T E)) (y_ (Bp (T E) runUnderlying42) (y_ (Bu (T E) (T E)) (Af (Ae ?_)) E) E) E) E)))
 first | refine Ar (Aa E) (fun c9 => ?_) (fun c9 => ?_) | refine A6 (Aa E) (fun c9 => ?_) (fun c9 => ?_)
 ·refine A2 (Ae (Ag (Aw (Ab (y_ (Ac (T E)) (y_ (Ac (T E)) (y_ (Ac (T E)) (y_ (Be (T E) (T E) runUnderlying42 sizeOf3 (by omega) (by first | exact rfl | exact hB.b (i := k) (by omega))) ?_ E) E) E) E)))))
  refine y_ (Ai (T E) isAgg3 (by first | exact c_o | exact cell1 ((hB.mono sbt).cs (i := k) (by omega)))) ?_ E
  refine e_ (A1 (.cons (T E) (.cons (T E) .nil)) call108 (put_r _ q1 c1 hA1 hc1 (by omega) (gd b k))) ?_ E
  rintro _ _ ⟨q3, c3, M3, ⟨rfl, hc3, hA3⟩, rfl⟩
  refine y_ (Ad (T E)) (Af (Bl (Ae (Ab (y_ (Ac (T E)) (y_ (Bt (T E) Aj (by omega)) ?_ E) E))))) E
  refine y_ (Ad (T E)) (Af ?_) E
  have hmt := mergeF_take (a := a) (b := b) (k := k) (by omega)
  refine Bn ((k + 1, q3, c3, M3 ++ M)) ?_ ?_ ⟨(by first | exact Aa E | (refine Ak (Aa E) (vint ?_); omega) | (refine Ak (Aa E) ?_; simp; done) | (refine Ak (Aa E) ?_; exact by rw [hmt])), (by first | exact Aa E | (refine Ak (Aa E) (vint ?_); omega) | (refine Ak (Aa E) ?_; simp; done) | (refine Ak (Aa E) ?_; exact by rw [hmt])), trivial⟩ ⟨Aa E, trivial⟩ ?_
  ·exact ⟨by omega, by rw [hmt]; exact hc3, by rw [hmt, List.append_assoc]; exact hA3⟩
  ·first | omega | (simp only []; omega)
  ·show (M3 ++ M ++ H).Sublist _; rw [List.append_assoc]; exact sbt
 ·refine B4 (A0 (A4 (A3 (Ae (Ag (Ab (y_ (Ac (T E)) (y_ (Ad (T E)) (Af (Ae (Ay (Az E (.tmp (Aa E) .nil) ?_)))) E) E)))))))
  have hb : b.take k = b := List.take_of_length_le (by omega)
  rw [hb] at hc1 hA1 ⊢
  exact ⟨_, ⟨q1, c1, M, ⟨rfl, hc1, hA1⟩, rfl⟩, sbt⟩
end Go.Proofs.YtkdolgnpkjihpaaGreatDoor
namespace Go.Proofs.YtkdolgnpkjihpaaGreatDoor
open _root_.Go.Proofs.Tryz
open Go.RowKit
set_option linter.unusedVariables false
set_option linter.unusedSimpArgs false
inductive Lang : Re → List ByteArray → Prop
 | emp : Lang .emp []
 | nod (s) : Lang (.nod s) [s]
 | any (s) : Lang .any [s]
 | seq {a b u v} : Lang a u → Lang b v → Lang (.seq a b) (u ++ v)
 | altl {a b u} : Lang a u → Lang (.alt a b) u
 | altr {a b u} : Lang b u → Lang (.alt a b) u
 | stn {a} : Lang (.star a) []
 | stc {a u v} : Lang a u → Lang (.star a) v → Lang (.star a) (u ++ v)
def nulE : Re → Bool
 | .emp => true
 | .nod _ => false
 | .any => false
 | .seq a b => nulE a && nulE b
 | .alt a b => nulE a || nulE b
 | .star _ => true
def fiE : Re → Nat → Nat → Prop
 | .emp, _, _ => False
 | .nod _, n, p => p = n
 | .any, n, p => p = n
 | .seq a b, n, p => fiE a n p ∨ (nulE a = true ∧ fiE b (n + a.lv) p)
 | .alt a b, n, p => fiE a n p ∨ fiE b (n + a.lv) p
 | .star a, n, p => fiE a n p
def laE : Re → Nat → Nat → Prop
 | .emp, _, _ => False
 | .nod _, n, p => p = n
 | .any, n, p => p = n
 | .seq a b, n, p => laE b (n + a.lv) p ∨ (nulE b = true ∧ laE a n p)
 | .alt a b, n, p => laE a n p ∨ laE b (n + a.lv) p
 | .star a, n, p => laE a n p
def foE : Re → Nat → Nat → Nat → Prop
 | .emp, _, _, _ => False
 | .nod _, _, _, _ => False
 | .any, _, _, _ => False
 | .seq a b, n, p, q => foE a n p q ∨ foE b (n + a.lv) p q ∨ (laE a n p ∧ fiE b (n + a.lv) q)
 | .alt a b, n, p, q => foE a n p q ∨ foE b (n + a.lv) p q
 | .star a, n, p, q => foE a n p q ∨ (laE a n p ∧ fiE a n q)
theorem D6 : ∀ {e : Re} {n p : Nat}, fiE e n p → n ≤ p ∧ p < n + e.lv
 | .emp, _, _, h => by cases h
 | .nod _, _, _, h => by simp only [fiE, Re.lv] at *; omega
 | .any, _, _, h => by simp only [fiE, Re.lv] at *; omega
 | .seq a b, _, _, h => by
  simp only [Re.lv]
  rcases h with h | ⟨_, h⟩
  ·have := D6 h; omega
  ·have := D6 h; omega
 | .alt a b, _, _, h => by
  simp only [Re.lv]
  rcases h with h | h
  ·have := D6 h; omega
  ·have := D6 h; omega
 | .star a, _, _, h => D6 (e := a) h
theorem D3 : ∀ {e : Re} {n p : Nat}, laE e n p → n ≤ p ∧ p < n + e.lv
 | .emp, _, _, h => by cases h
 | .nod _, _, _, h => by simp only [laE, Re.lv] at *; omega
 | .any, _, _, h => by simp only [laE, Re.lv] at *; omega
 | .seq a b, _, _, h => by
  simp only [Re.lv]
  rcases h with h | ⟨_, h⟩
  ·have := D3 h; omega
  ·have := D3 h; omega
 | .alt a b, _, _, h => by
  simp only [Re.lv]
  rcases h with h | h
  ·have := D3 h; omega
  ·have := D3 h; omega
 | .star a, _, _, h => D3 (e := a) h
theorem Dv : ∀ {e : Re} {n p q : Nat}, foE e n p q → (n ≤ p ∧ p < n + e.lv) ∧ (n ≤ q ∧ q < n + e.lv)
 | .emp, _, _, _, h => by cases h
 | .nod _, _, _, _, h => by cases h
 | .any, _, _, _, h => by cases h
 | .seq a b, _, _, _, h => by
  simp only [Re.lv]
  rcases h with h | h | ⟨h1, h2⟩
  ·have := Dv h; omega
  ·have := Dv h; omega
  ·have := D3 h1; have := D6 h2; omega
 | .alt a b, _, _, _, h => by
  simp only [Re.lv]
  rcases h with h | h
  ·have := Dv h; omega
  ·have := Dv h; omega
 | .star a, n, _, _, h => by
  rcases h with h | ⟨h1, h2⟩
  ·exact Dv (e := a) h
  ·have := D3 h1; have := D6 h2; simp only [Re.lv]; omega
inductive Rw (F : Nat → Nat → Prop) (La : Nat → Prop) (mt : Nat → ByteArray → Prop) : Nat → List ByteArray → Prop
 | nil {p} : La p → Rw F La mt p []
 | cons {p q s w} : F p q → mt q s → Rw F La mt q w → Rw F La mt p (s :: w)
theorem Rw.app {F F' : Nat → Nat → Prop} {La La' : Nat → Prop} {mt : Nat → ByteArray → Prop} {p : Nat} {u v : List ByteArray} (h : Rw F La mt p u) (hF : ∀ p q, F p q → F' p q) (hL : ∀ p, La p → Rw F' La' mt p v) : Rw F' La' mt p (u ++ v) := by
 induction h with
 | nil h => exact hL _ h
 | cons h1 h2 _ ih => exact .cons (hF _ _ h1) h2 ih
theorem Rw.mono {F F' : Nat → Nat → Prop} {La La' : Nat → Prop} {mt : Nat → ByteArray → Prop} {p : Nat} {u : List ByteArray} (h : Rw F La mt p u) (hF : ∀ p q, F p q → F' p q) (hL : ∀ p, La p → La' p) : Rw F' La' mt p u := by
 have := h.app (v := []) hF fun p hp => .nil (hL p hp)
 rwa [List.append_nil] at this
def Thr (mt : Nat → ByteArray → Prop) (e : Re) (n : Nat) (w : List ByteArray) : Prop := (w = [] ∧ nulE e = true) ∨ ∃ p s v, w = s :: v ∧ fiE e n p ∧ mt p s ∧ Rw (foE e n) (laE e n) mt p v
def Mts (mt : Nat → ByteArray → Prop) : Re → Nat → Prop
 | .emp, _ => True
 | .nod x, n => ∀ s, mt n s ↔ s = x
 | .any, n => ∀ s, mt n s
 | .seq a b, n => Mts mt a n ∧ Mts mt b (n + a.lv)
 | .alt a b, n => Mts mt a n ∧ Mts mt b (n + a.lv)
 | .star a, n => Mts mt a n
variable {mt : Nat → ByteArray → Prop}
theorem Thr.seq {a b : Re} {n : Nat} {u v : List ByteArray} (h1 : Thr mt a n u) (h2 : Thr mt b (n + a.lv) v) : Thr mt (.seq a b) n (u ++ v) := by
 rcases h2 with ⟨rfl, hb⟩ | ⟨q, t, v', rfl, hq, hm, hr⟩
 ·rw [List.append_nil]
  rcases h1 with ⟨rfl, ha⟩ | ⟨p, s, u', rfl, hp, hm, hr⟩
  ·exact .inl ⟨rfl, by simp [nulE, ha, hb]⟩
  ·exact .inr ⟨p, s, u', rfl, .inl hp, hm, hr.mono (fun _ _ h => .inl h) fun _ h => .inr ⟨hb, h⟩⟩
 ·have hr' : Rw (foE (.seq a b) n) (laE (.seq a b) n) mt q v' := hr.mono (fun _ _ h => .inr (.inl h)) fun _ h => .inl h
  rcases h1 with ⟨rfl, ha⟩ | ⟨p, s, u', rfl, hp, hm1, hr1⟩
  ·exact .inr ⟨q, t, v', rfl, .inr ⟨ha, hq⟩, hm, hr'⟩
  ·exact .inr ⟨p, s, u' ++ t :: v', rfl, .inl hp, hm1, hr1.app (fun _ _ h => .inl h) fun p' h => .cons (.inr (.inr ⟨h, hq⟩)) hm hr'⟩
theorem Thr.star {a : Re} {n : Nat} {u v : List ByteArray} (h1 : Thr mt a n u) (h2 : Thr mt (.star a) n v) : Thr mt (.star a) n (u ++ v) := by
 rcases h1 with ⟨rfl, ha⟩ | ⟨p, s, u', rfl, hp, hm1, hr1⟩
 ·exact h2
 ·rcases h2 with ⟨rfl, hb⟩ | ⟨q, t, v', rfl, hq, hm, hr⟩
  ·rw [List.append_nil]
   exact .inr ⟨p, s, u', rfl, hp, hm1, hr1.mono (fun _ _ h => .inl h) fun _ h => h⟩
  ·exact .inr ⟨p, s, u' ++ t :: v', rfl, hp, hm1, hr1.app (fun _ _ h => .inl h) fun p' h => .cons (.inr ⟨h, hq⟩) hm hr⟩
theorem thr_of {e : Re} {w : List ByteArray} (h : Lang e w) : ∀ {n : Nat}, Mts mt e n → Thr mt e n w := by
 induction h with
 | emp => exact fun _ => .inl ⟨rfl, rfl⟩
 | nod s => exact fun hm => .inr ⟨_, s, [], rfl, rfl, (hm s).2 rfl, .nil rfl⟩
 | any s => exact fun hm => .inr ⟨_, s, [], rfl, rfl, hm s, .nil rfl⟩
 | seq _ _ ih1 ih2 => exact fun hm => .seq (ih1 hm.1) (ih2 hm.2)
 | altl _ ih =>
  intro n hm
  rcases ih hm.1 with ⟨rfl, ha⟩ | ⟨p, s, v, rfl, hp, hm1, hr⟩
  ·exact .inl ⟨rfl, by simp [nulE, ha]⟩
  ·exact .inr ⟨p, s, v, rfl, .inl hp, hm1, hr.mono (fun _ _ h => .inl h) fun _ h => .inl h⟩
 | altr _ ih =>
  intro n hm
  rcases ih hm.2 with ⟨rfl, ha⟩ | ⟨p, s, v, rfl, hp, hm1, hr⟩
  ·exact .inl ⟨rfl, by simp [nulE, ha]⟩
  ·exact .inr ⟨p, s, v, rfl, .inr hp, hm1, hr.mono (fun _ _ h => .inr h) fun _ h => .inr h⟩
 | stn => exact fun _ => .inl ⟨rfl, rfl⟩
 | stc _ _ ih1 ih2 => exact fun hm => .star (ih1 hm) (ih2 hm)
theorem rw_r {a b : Re} {n p : Nat} {w : List ByteArray} (h : Rw (foE (.seq a b) n) (laE (.seq a b) n) mt p w) : n + a.lv ≤ p → Rw (foE b (n + a.lv)) (laE b (n + a.lv)) mt p w := by
 induction h with
 | nil h =>
  intro hp
  rcases h with h | ⟨_, h⟩
  ·exact .nil h
  ·have := D3 h; omega
 | cons h1 h2 _ ih =>
  intro hp
  rcases h1 with h1 | h1 | ⟨h1, _⟩
  ·have := Dv h1; omega
  ·exact .cons h1 h2 (ih (Dv h1).2.1)
  ·have := D3 h1; omega
theorem rw_alt1 {a b : Re} {n p : Nat} {w : List ByteArray} (h : Rw (foE (.alt a b) n) (laE (.alt a b) n) mt p w) : p < n + a.lv → Rw (foE a n) (laE a n) mt p w := by
 induction h with
 | nil h =>
  intro hp
  rcases h with h | h
  ·exact .nil h
  ·have := D3 h; omega
 | cons h1 h2 _ ih =>
  intro hp
  rcases h1 with h1 | h1
  ·exact .cons h1 h2 (ih (Dv h1).2.2)
  ·have := Dv h1; omega
theorem rw_alt2 {a b : Re} {n p : Nat} {w : List ByteArray} (h : Rw (foE (.alt a b) n) (laE (.alt a b) n) mt p w) : n + a.lv ≤ p → Rw (foE b (n + a.lv)) (laE b (n + a.lv)) mt p w := by
 induction h with
 | nil h =>
  intro hp
  rcases h with h | h
  ·have := D3 h; omega
  ·exact .nil h
 | cons h1 h2 _ ih =>
  intro hp
  rcases h1 with h1 | h1
  ·have := Dv h1; omega
  ·exact .cons h1 h2 (ih (Dv h1).2.1)
theorem lang_of : ∀ {e : Re} {n : Nat} {w : List ByteArray}, Mts mt e n → Thr mt e n w → Lang e w
 | .emp, n, w, _, h => by
  rcases h with ⟨rfl, _⟩ | ⟨p, s, v, rfl, hp, _⟩
  ·exact .emp
  ·cases hp
 | .nod x, n, w, hm, h => by
  rcases h with ⟨rfl, h⟩ | ⟨p, s, v, rfl, hp, hs, hr⟩
  ·cases h
  ·simp only [fiE] at hp; subst hp
   have := (hm s).1 hs; subst this
   cases hr with
   | nil _ => exact .nod _
   | cons h _ _ => cases h
 | .any, n, w, hm, h => by
  rcases h with ⟨rfl, h⟩ | ⟨p, s, v, rfl, hp, hs, hr⟩
  ·cases h
  ·cases hr with
   | nil _ => exact .any _
   | cons h _ _ => cases h
 | .seq a b, n, w, hm, h => by
  have iha := fun {w} => lang_of (e := a) (w := w) hm.1
  have ihb := fun {w} => lang_of (e := b) (w := w) hm.2
  have key : ∀ {p : Nat} {w : List ByteArray}, Rw (foE (.seq a b) n) (laE (.seq a b) n) mt p w → p < n + a.lv → ∃ u v, w = u ++ v ∧ Rw (foE a n) (laE a n) mt p u ∧ Lang b v := by
   intro p w h
   induction h with
   | nil h =>
    intro hp
    rcases h with h | ⟨hb, h⟩
    ·have := D3 h; omega
    ·exact ⟨[], [], rfl, .nil h, ihb (.inl ⟨rfl, hb⟩)⟩
   | @cons p q s w h1 h2 h3 ih =>
    intro hp
    rcases h1 with h1 | h1 | ⟨h1, h4⟩
    ·obtain ⟨u, v, rfl, e1, e2⟩ := ih (Dv h1).2.2
     exact ⟨s :: u, v, rfl, .cons h1 h2 e1, e2⟩
    ·have := Dv h1; omega
    ·exact ⟨[], s :: w, rfl, .nil h1, ihb (.inr ⟨q, s, w, rfl, h4, h2, rw_r h3 (D6 h4).1⟩)⟩
  rcases h with ⟨rfl, h⟩ | ⟨p, s, v, rfl, hp, hs, hr⟩
  ·simp only [nulE, Bool.and_eq_true] at h
   exact .seq (u := []) (iha (.inl ⟨rfl, h.1⟩)) (ihb (.inl ⟨rfl, h.2⟩))
  ·rcases hp with hp | ⟨ha, hp⟩
   ·obtain ⟨u, v, rfl, e1, e2⟩ := key hr (D6 hp).2
    exact .seq (u := s :: u) (iha (.inr ⟨p, s, u, rfl, hp, hs, e1⟩)) e2
   ·exact .seq (u := []) (iha (.inl ⟨rfl, ha⟩)) (ihb (.inr ⟨p, s, v, rfl, hp, hs, rw_r hr (D6 hp).1⟩))
 | .alt a b, n, w, hm, h => by
  rcases h with ⟨rfl, h⟩ | ⟨p, s, v, rfl, hp, hs, hr⟩
  ·simp only [nulE, Bool.or_eq_true] at h
   rcases h with h | h
   ·exact .altl (lang_of hm.1 (.inl ⟨rfl, h⟩))
   ·exact .altr (lang_of hm.2 (.inl ⟨rfl, h⟩))
  ·rcases hp with hp | hp
   ·exact .altl (lang_of hm.1 (.inr ⟨p, s, v, rfl, hp, hs, rw_alt1 hr (D6 hp).2⟩))
   ·exact .altr (lang_of hm.2 (.inr ⟨p, s, v, rfl, hp, hs, rw_alt2 hr (D6 hp).1⟩))
 | .star a, n, w, hm, h => by
  have iha := fun {w} => lang_of (e := a) (n := n) (w := w) hm
  have key : ∀ {p : Nat} {w : List ByteArray}, Rw (foE (.star a) n) (laE (.star a) n) mt p w → ∃ u v, w = u ++ v ∧ Rw (foE a n) (laE a n) mt p u ∧ Lang (.star a) v := by
   intro p w h
   induction h with
   | nil h => exact ⟨[], [], rfl, .nil h, .stn⟩
   | @cons p q s w h1 h2 h3 ih =>
    obtain ⟨u, v, rfl, e1, e2⟩ := ih
    rcases h1 with h1 | ⟨h1, h4⟩
    ·exact ⟨s :: u, v, rfl, .cons h1 h2 e1, e2⟩
    ·exact ⟨[], s :: (u ++ v), rfl, .nil h1, .stc (u := s :: u) (iha (.inr ⟨q, s, u, rfl, h4, h2, e1⟩)) e2⟩
  rcases h with ⟨rfl, h⟩ | ⟨p, s, v, rfl, hp, hs, hr⟩
  ·exact .stn
  ·obtain ⟨u, v, rfl, e1, e2⟩ := key hr
   exact .stc (u := s :: u) (iha (.inr ⟨p, s, u, rfl, hp, hs, e1⟩)) e2
structure Adds (e : Re) (t : Tr) (r : Tr × En) : Prop where
 emp : r.2.emp = nulE e
 fst : ∀ p, r.2.first.testBit p = true ↔ fiE e t.names.length p
 lst : ∀ p, r.2.last.testBit p = true ↔ laE e t.names.length p
 fol : ∀ p, p < r.1.names.length → ∀ q, (gd r.1.fol p).testBit q = true ↔ (p < t.names.length ∧ (gd t.fol p).testBit q = true) ∨ foE e t.names.length p q
theorem conn_bit {t : Tr} (h : TrOk t) (a b : Nat) {p : Nat} (hp : p < t.names.length) (q : Nat) : (gd (conn t a b).fol p).testBit q = true ↔ (gd t.fol p).testBit q = true ∨ (a.testBit p = true ∧ b.testBit q = true) := by
 have hl : p < t.fol.length := by rw [h.len]; exact hp
 have hf := h.few
 rw [Bv (show p < (conn t a b).fol.length by rw [show (conn t a b).fol.length = t.fol.length from connK_len ..]; exact hl), Bv hl]
 simp only [conn, connK, List.getElem_mapIdx]
 by_cases h1 : a.testBit p = true
 ·rw [if_pos ⟨by omega, h1⟩, Nat.testBit_or, Bool.or_eq_true]; simp [h1]
 ·rw [if_neg (fun h => h1 h.2)]; simp [h1]
theorem adds : ∀ (e : Re) {t : Tr}, TrOk t → t.names.length + e.lv ≤ 64 → Adds e t (addF e t)
 | .emp, t, h, hl => ⟨rfl, fun p => by simp [addF, fiE], fun p => by simp [addF, laE], fun p hp q => by simp only [addF] at *; simp [foE, hp]⟩
 | .nod s, t, h, hl => by
  refine ⟨rfl, fun p => by simp [addF, fiE, Nat.testBit_two_pow, eq_comm], fun p => by simp [addF, laE, Nat.testBit_two_pow, eq_comm], fun p hp q => ?_⟩
  simp only [addF, List.length_append, List.length_cons, List.length_nil] at *
  simp only [foE, or_false]
  by_cases e : p = t.names.length
  ·subst e
   rw [show gd (t.fol ++ [0]) t.names.length = 0 by rw [← h.len]; exact C0]
   simp
  ·rw [Cp (by rw [h.len]; omega)]
   simp; intro _; omega
 | .any, t, h, hl => by
  refine ⟨rfl, fun p => by simp [addF, fiE, Nat.testBit_two_pow, eq_comm], fun p => by simp [addF, laE, Nat.testBit_two_pow, eq_comm], fun p hp q => ?_⟩
  simp only [addF, List.length_append, List.length_cons, List.length_nil] at *
  simp only [foE, or_false]
  by_cases e : p = t.names.length
  ·subst e
   rw [show gd (t.fol ++ [0]) t.names.length = 0 by rw [← h.len]; exact C0]
   simp
  ·rw [Cp (by rw [h.len]; omega)]
   simp; intro _; omega
 | .alt a b, t, h, hl => by
  simp only [Re.lv] at hl
  obtain ⟨h1, h2, h3, h4⟩ := C5 a h (by omega)
  obtain ⟨k1, k2, k3, k4⟩ := C5 b h1 (by omega)
  have ia := adds a h (by omega)
  have ib := adds b h1 (by omega)
  simp only [addF]
  refine ⟨by simp [nulE, ia.emp, ib.emp], fun p => ?_, fun p => ?_, fun p hp q => ?_⟩
  ·simp only [Nat.testBit_or, Bool.or_eq_true, fiE, ia.fst, ib.fst, h2]
  ·simp only [Nat.testBit_or, Bool.or_eq_true, laE, ia.lst, ib.lst, h2]
  ·simp only [] at hp ⊢
   rw [ib.fol p hp q, h2]
   simp only [foE]
   constructor
   ·rintro (⟨e1, e2⟩ | e)
    ·exact ((ia.fol p (by omega) q).1 e2).imp id .inl
    ·exact .inr (.inr e)
   ·rintro (e | e | e)
    ·exact .inl ⟨by omega, (ia.fol p (by omega) q).2 (.inl e)⟩
    ·have := Dv e
     exact .inl ⟨by omega, (ia.fol p (by omega) q).2 (.inr e)⟩
    ·exact .inr e
 | .seq a b, t, h, hl => by
  simp only [Re.lv] at hl
  obtain ⟨h1, h2, h3, h4⟩ := C5 a h (by omega)
  obtain ⟨k1, k2, k3, k4⟩ := C5 b h1 (by omega)
  have ia := adds a h (by omega)
  have ib := adds b h1 (by omega)
  simp only [addF]
  refine ⟨by simp [nulE, ia.emp, ib.emp], fun p => ?_, fun p => ?_, fun p hp q => ?_⟩
  ·simp only [ia.emp]
   cases hn : nulE a <;> simp [Nat.testBit_or, fiE, ia.fst, ib.fst, h2, hn]
  ·simp only [ib.emp]
   cases hn : nulE b <;> simp [Nat.testBit_or, laE, ia.lst, ib.lst, h2, hn]
  ·simp only [] at hp ⊢
   rw [show (conn (addF b (addF a t).1).1 (addF a t).2.last (addF b (addF a t).1).2.first).names = (addF b (addF a t).1).1.names from rfl] at hp
   rw [conn_bit k1 _ _ hp, ib.fol p hp q, ia.lst, ib.fst, h2]
   simp only [foE]
   constructor
   ·rintro ((⟨e1, e2⟩ | e) | e)
    ·exact ((ia.fol p (by omega) q).1 e2).imp id .inl
    ·exact .inr (.inr (.inl e))
    ·exact .inr (.inr (.inr e))
   ·rintro (e | e | e | e)
    ·exact .inl (.inl ⟨by omega, (ia.fol p (by omega) q).2 (.inl e)⟩)
    ·have := Dv e
     exact .inl (.inl ⟨by omega, (ia.fol p (by omega) q).2 (.inr e)⟩)
    ·exact .inl (.inr e)
    ·exact .inr e
 | .star a, t, h, hl => by
  simp only [Re.lv] at hl
  obtain ⟨h1, h2, h3, h4⟩ := C5 a h (by omega)
  have ia := adds a h (by omega)
  simp only [addF]
  refine ⟨rfl, ia.fst, ia.lst, fun p hp q => ?_⟩
  simp only [] at hp ⊢
  rw [show (conn (addF a t).1 (addF a t).2.last (addF a t).2.first).names = (addF a t).1.names from rfl] at hp
  rw [conn_bit h1 _ _ hp, ia.fol p hp q, ia.lst, ia.fst]
  simp only [foE]
  rw [or_assoc]
def Re.good : Re → Prop
 | .emp => True
 | .nod s => s ≠ ⟨#[]⟩
 | .any => True
 | .seq a b => a.good ∧ b.good
 | .alt a b => a.good ∧ b.good
 | .star a => a.good
theorem Is.good {m : Rxm} {e : Re} (h : Is m e) : e.good := by
 induction h with
 | emp => trivial
 | nod h => exact fun e => h (by rw [e]; rfl)
 | any => trivial
 | seq _ _ h1 h2 => exact ⟨h1, h2⟩
 | alt _ _ h1 h2 => exact ⟨h1, h2⟩
 | star _ h => exact h
theorem lvs_len : ∀ e : Re, e.lvs.length = e.lv
 | .emp => rfl
 | .nod _ => rfl
 | .any => rfl
 | .seq a b => by simp [Re.lvs, Re.lv, lvs_len a, lvs_len b]
 | .alt a b => by simp [Re.lvs, Re.lv, lvs_len a, lvs_len b]
 | .star a => lvs_len a
theorem mts_of {t : Tr} : ∀ {e : Re} {n : Nat} {u v : List ByteArray}, e.good → t.names = u ++ e.lvs ++ v → u.length = n → Mts (fun p s => mtch t s p = true) e n
 | .emp, _, _, _, _, _, _ => trivial
 | .nod x, n, u, v, hg, ht, hn => fun s => by
  have : gd t.names n = x := by rw [ht, ← hn]; simp [gd, Re.lvs]
  simp only []
  rw [mtch_eq, this]
  have hx : ¬ x = ⟨#[]⟩ := hg
  simp [hx, eq_comm]
 | .any, n, u, v, hg, ht, hn => fun s => by
  have : gd t.names n = ⟨#[]⟩ := by rw [ht, ← hn]; simp [gd, Re.lvs]
  simp only []
  rw [mtch_eq, this]; simp
 | .seq a b, n, u, v, hg, ht, hn => ⟨mts_of (v := b.lvs ++ v) hg.1 (by rw [ht]; simp [Re.lvs]) hn, mts_of (u := u ++ a.lvs) (v := v) hg.2 (by rw [ht]; simp [Re.lvs]) (by simp [hn, lvs_len])⟩
 | .alt a b, n, u, v, hg, ht, hn => ⟨mts_of (v := b.lvs ++ v) hg.1 (by rw [ht]; simp [Re.lvs]) hn, mts_of (u := u ++ a.lvs) (v := v) hg.2 (by rw [ht]; simp [Re.lvs]) (by simp [hn, lvs_len])⟩
 | .star a, n, u, v, hg, ht, hn => mts_of (e := a) hg ht hn
theorem orK_bit (fol : List Nat) (x q : Nat) : ∀ i, (orK fol x i).testBit q = true ↔ ∃ p, p < i ∧ x.testBit p = true ∧ (gd fol p).testBit q = true
 | 0 => by simp [orK]
 | i + 1 => by
  rw [orK_succ]
  split
  ·rename_i h
   rw [Nat.testBit_or, Bool.or_eq_true, orK_bit fol x q i]
   constructor
   ·rintro (⟨p, h1, h2, h3⟩ | h3)
    ·exact ⟨p, by omega, h2, h3⟩
    ·exact ⟨i, by omega, h, h3⟩
   ·rintro ⟨p, h1, h2, h3⟩
    by_cases e : p = i
    ·subst e; exact .inr h3
    ·exact .inl ⟨p, by omega, h2, h3⟩
  ·rename_i h
   rw [orK_bit fol x q i]
   constructor
   ·rintro ⟨p, h1, h2, h3⟩; exact ⟨p, by omega, h2, h3⟩
   ·rintro ⟨p, h1, h2, h3⟩
    by_cases e : p = i
    ·subst e; exact absurd h2 h
    ·exact ⟨p, by omega, h2, h3⟩
theorem and_bit (a b : Nat) : ¬ a &&& b = 0 ↔ ∃ p, a.testBit p = true ∧ b.testBit p = true := by
 constructor
 ·intro h
  refine Classical.byContradiction fun hn => h (Nat.eq_of_testBit_eq fun p => ?_)
  rw [Nat.testBit_and, Nat.zero_testBit]
  cases h1 : a.testBit p with
  | false => rfl
  | true =>
   cases h2 : b.testBit p with
   | false => rfl
   | true => exact absurd ⟨p, h1, h2⟩ hn
 ·rintro ⟨p, h1, h2⟩ h
  have := congrArg (fun x => x.testBit p) h
  simp [Nat.testBit_and, h1, h2] at this
theorem runF_cons (t : Tr) (st : Nat × Nat) (s : ByteArray) (l : List ByteArray) : runF t st (s :: l) = runF t (stepK t s st.2 256) l := by unfold runF; rw [List.foldl_cons]
theorem run_rw {t : Tr} (ht : TrOk t) (hw : Low t) {La : Nat} : ∀ (w : List ByteArray) (s : ByteArray) (x C : Nat), C < 2 ^ t.names.length → ((¬ (runF t (x, C) (s :: w)).1 &&& La = 0) ↔ ∃ p, C.testBit p = true ∧ mtch t s p = true ∧ Rw (fun p q => p < t.names.length ∧ (gd t.fol p).testBit q = true) (fun p => p < t.names.length ∧ La.testBit p = true) (fun p s => mtch t s p = true) p w)
 | [], s, x, C, hC => by
  rw [runF_cons, show runF t (stepK t s (x, C).2 256) [] = stepK t s C 256 from rfl, and_bit]
  constructor
  ·rintro ⟨p, h1, h2⟩
   rw [stepK_fst] at h1
   simp only [Bool.and_eq_true, decide_eq_true_eq] at h1
   exact ⟨p, h1.2.1, h1.2.2, .nil ⟨bit_lt hC h1.2.1, h2⟩⟩
  ·rintro ⟨p, h1, h2, h3⟩
   cases h3 with
   | nil h3 =>
    refine ⟨p, ?_, h3.2⟩
    rw [stepK_fst]
    have := ht.few
    simp [h1, h2]; omega
 | y :: w, s, x, C, hC => by
  have hlt := stepK_lt ht hw (s := s) hC 256
  rw [runF_cons]
  simp only []
  generalize hq : stepK t s C 256 = q at *
  obtain ⟨q1, q2⟩ := q
  rw [run_rw ht hw w y _ _ hlt.2]
  have hq2 : q2 = (stepK t s C 256).2 := by rw [hq]
  have hf := ht.few
  constructor
  ·rintro ⟨q, h1, h2, h3⟩
   rw [hq2, stepK_snd', orK_bit] at h1
   obtain ⟨p, hp, h4, h5⟩ := h1
   rw [stepK_fst] at h4
   simp only [Bool.and_eq_true, decide_eq_true_eq] at h4
   exact ⟨p, h4.2.1, h4.2.2, .cons ⟨bit_lt hC h4.2.1, h5⟩ h2 h3⟩
  ·rintro ⟨p, h1, h2, h3⟩
   cases h3 with
   | @cons _ q _ _ h4 h5 h6 =>
    refine ⟨q, ?_, h5, h6⟩
    rw [hq2, stepK_snd', orK_bit]
    refine ⟨p, by omega, ?_, h4.2⟩
    rw [stepK_fst]
    simp [h1, h2]; omega
theorem match_lang {e : Re} (hl : e.lv ≤ 64) (hg : e.good) (w : List ByteArray) : matchF e w = true ↔ Lang e w := by
 have h64 : t00.names.length + e.lv ≤ 64 := by simpa [t00] using hl
 obtain ⟨hok, hlen, hf1, hf2⟩ := C5 e t00_ok h64
 have hlow := add_low e t00_ok h64 t00_low
 have ha := adds e t00_ok h64
 have hm : Mts (fun p s => mtch (addF e t00).1 s p = true) e 0 := mts_of (u := []) (v := []) hg (by rw [add_names]; simp [t00]) rfl
 have hthr : matchF e w = true ↔ Thr (fun p s => mtch (addF e t00).1 s p = true) e 0 w := by
  unfold matchF Thr
  cases w with
  | nil => simp [ha.emp]
  | cons s w =>
   rw [if_neg (by simp), decide_eq_true_iff, run_rw hok hlow w s 0 _ (by rw [hlen]; exact hf1)]
   have hF : ∀ p q, (p < (addF e t00).1.names.length ∧ (gd (addF e t00).1.fol p).testBit q = true) ↔ foE e 0 p q := fun p q => by
    constructor
    ·rintro ⟨h1, h2⟩
     rcases (ha.fol p h1 q).1 h2 with h | h
     ·exact absurd h.1 (Nat.not_lt_zero _)
     ·exact h
    ·intro h
     have h1 : p < (addF e t00).1.names.length := by rw [hlen]; exact (Dv h).1.2
     exact ⟨h1, (ha.fol p h1 q).2 (.inr h)⟩
   have hL : ∀ p, (p < (addF e t00).1.names.length ∧ (addF e t00).2.last.testBit p = true) ↔ laE e 0 p := fun p => by
    rw [ha.lst]
    exact ⟨fun h => h.2, fun h => ⟨by rw [hlen]; exact (D3 h).2, h⟩⟩
   constructor
   ·rintro ⟨p, h1, h2, h3⟩
    exact .inr ⟨p, s, w, rfl, (ha.fst p).1 h1, h2, h3.mono (fun p q h => (hF p q).1 h) fun p h => (hL p).1 h⟩
   ·rintro (⟨h, _⟩ | ⟨p, s', w', h0, h1, h2, h3⟩)
    ·cases h
    ·cases h0
     exact ⟨p, (ha.fst p).2 h1, h2, h3.mono (fun p q h => (hF p q).2 h) fun p h => (hL p).2 h⟩
 rw [hthr]
 exact ⟨lang_of hm, fun h => thr_of h hm⟩
end Go.Proofs.YtkdolgnpkjihpaaGreatDoor
namespace Go.Proofs.YtkdolgnpkjihpaaGreatDoor
open _root_.Go.Proofs.Tryz
open Go.RowKit
set_option linter.unusedVariables false
set_option linter.unusedSimpArgs false
structure Inc (lo hi : Nat) (l : List Nat) : Prop where
 pw : l.Pairwise (· < ·)
 rg : ∀ x ∈ l, lo ≤ x ∧ x ≤ hi
theorem Inc.nd {lo hi : Nat} {l : List Nat} (h : Inc lo hi l) : l.Nodup := h.pw.imp fun {a b} hab e => by omega
theorem Inc.len {lo hi : Nat} {l : List Nat} (h : Inc lo hi l) : l.length ≤ hi + 1 := by
 have := nodup_le h.nd (l' := List.range (hi + 1)) fun x hx => List.mem_range.2 (by have := (h.rg x hx).2; omega)
 simpa using this
theorem Inc.mono {lo lo' hi : Nat} {l : List Nat} (h : Inc lo hi l) (hl : lo' ≤ lo) : Inc lo' hi l := ⟨h.pw, fun x hx => by have := h.rg x hx; omega⟩
theorem inc_nil (lo hi : Nat) : Inc lo hi [] := ⟨.nil, fun x hx => by cases hx⟩
theorem inc_one {lo hi x : Nat} (h : lo ≤ x ∧ x ≤ hi) : Inc lo hi [x] := ⟨List.pairwise_singleton .., fun y hy => by simp at hy; subst hy; exact h⟩
theorem putF_mem {n y : Nat} : ∀ {l : List Nat}, y ∈ putF n l ↔ y = n ∨ y ∈ l
 | [] => by simp [putF]
 | x :: l => by
  unfold putF
  split
  ·simp only [List.mem_cons, putF_mem (l := l)]
   constructor
   ·rintro (h | h | h) <;> simp [h]
   ·rintro (h | h | h) <;> simp [h]
  ·split
   ·rename_i h; subst h; simp
   ·simp
theorem putF_pw {n : Nat} : ∀ {l : List Nat}, l.Pairwise (· < ·) → (putF n l).Pairwise (· < ·)
 | [], _ => List.pairwise_singleton ..
 | x :: l, h => by
  have h' := List.pairwise_cons.1 h
  unfold putF
  split
  ·rename_i hlt
   refine List.pairwise_cons.2 ⟨fun y hy => ?_, putF_pw h'.2⟩
   rcases putF_mem.1 hy with rfl | hy
   ·exact hlt
   ·exact h'.1 y hy
  ·split
   ·exact h
   ·refine List.pairwise_cons.2 ⟨fun y hy => ?_, h⟩
    rcases List.mem_cons.1 hy with rfl | hy
    ·omega
    ·have := h'.1 y hy; omega
theorem mergeF_mem {y : Nat} : ∀ {b a : List Nat}, y ∈ mergeF a b ↔ y ∈ a ∨ y ∈ b
 | [], a => by simp [mergeF]
 | x :: b, a => by
  rw [show mergeF a (x :: b) = mergeF (putF x a) b from rfl, mergeF_mem (b := b), putF_mem, List.mem_cons]
  constructor
  ·rintro ((h | h) | h) <;> simp [h]
  ·rintro (h | h | h) <;> simp [h]
theorem mergeF_inc {lo hi : Nat} {a b : List Nat} (ha : Inc lo hi a) (hb : ∀ x ∈ b, lo ≤ x ∧ x ≤ hi) : Inc lo hi (mergeF a b) := by
 refine ⟨?_, fun x hx => ?_⟩
 ·unfold mergeF
  induction b generalizing a with
  | nil => exact ha.pw
  | cons x b ih =>
   refine ih (a := putF x a) ⟨putF_pw ha.pw, fun y hy => ?_⟩ fun y hy => hb y (by simp [hy])
   rcases putF_mem.1 hy with rfl | hy
   ·exact hb _ (by simp)
   ·exact ha.rg y hy
 ·rcases mergeF_mem.1 hx with h | h
  ·exact ha.rg x h
  ·exact hb x h
def starK (f : Nat → List Nat) (at' : Nat) : Nat → List Nat
 | 0 => [at']
 | k + 1 => if k < (starK f at' k).length then mergeF (starK f at' k) (f (gd (starK f at' k) k)) else starK f at' k
theorem starK_succ (f : Nat → List Nat) (at' k : Nat) : starK f at' (k + 1) = if k < (starK f at' k).length then mergeF (starK f at' k) (f (gd (starK f at' k) k)) else starK f at' k := rfl
def seqK (f : Nat → List Nat) (l : List Nat) : Nat → List Nat
 | 0 => []
 | k + 1 => mergeF (seqK f l k) (f (gd l k))
def endsF : Re → List ByteArray → Nat → List Nat
 | .emp, _, p => [p]
 | .nod s, l, p => if p < l.length ∧ gd l p = s then [p + 1] else []
 | .any, l, p => if p < l.length then [p + 1] else []
 | .alt a b, l, p => mergeF (endsF a l p) (endsF b l p)
 | .seq a b, l, p => seqK (endsF b l) (endsF a l p) (endsF a l p).length
 | .star a, l, p => starK (endsF a l) p (l.length + 1)
theorem seqK_inc {lo hi : Nat} {f : Nat → List Nat} {l : List Nat} (hf : ∀ p, lo ≤ p → p ≤ hi → Inc p hi (f p)) (hl : Inc lo hi l) : ∀ k, k ≤ l.length → Inc lo hi (seqK f l k)
 | 0, _ => inc_nil _ _
 | k + 1, hk => by
  have h1 := hl.rg _ (Bg (show k < l.length by omega))
  exact mergeF_inc (seqK_inc hf hl k (by omega)) ((hf _ h1.1 h1.2).mono h1.1).rg
theorem seqK_mem {f : Nat → List Nat} {l : List Nat} {y : Nat} : ∀ k, k ≤ l.length → (y ∈ seqK f l k ↔ ∃ j, j < k ∧ y ∈ f (gd l j))
 | 0, _ => by simp [seqK]
 | k + 1, hk => by
  rw [show seqK f l (k + 1) = mergeF (seqK f l k) (f (gd l k)) from rfl, mergeF_mem, seqK_mem k (by omega)]
  constructor
  ·rintro (⟨j, h1, h2⟩ | h)
   ·exact ⟨j, by omega, h2⟩
   ·exact ⟨k, by omega, h⟩
  ·rintro ⟨j, h1, h2⟩
   by_cases e : j = k
   ·subst e; exact .inr h2
   ·exact .inl ⟨j, by omega, h2⟩
theorem starK_inc {lo hi : Nat} {f : Nat → List Nat} (hf : ∀ p, lo ≤ p → p ≤ hi → Inc p hi (f p)) (h0 : lo ≤ hi) : ∀ k, Inc lo hi (starK f lo k)
 | 0 => inc_one ⟨Nat.le_refl _, h0⟩
 | k + 1 => by
  have ih := starK_inc hf h0 k
  rw [starK_succ]; split
  ·rename_i hk
   have h1 := ih.rg _ (Bg hk)
   exact mergeF_inc ih ((hf _ h1.1 h1.2).mono h1.1).rg
  ·exact ih
theorem putF_pre {n : Nat} : ∀ {l : List Nat} {k : Nat}, l.Pairwise (· < ·) → k < l.length → gd l k ≤ n → ∀ j, j ≤ k → gd (putF n l) j = gd l j ∧ l.length ≤ (putF n l).length
  | [], k, _, h, _, _, _ => by simp at h
  | x :: l, k, hp, hk, hn, j, hj => by
    have p1 := List.pairwise_cons.1 hp
    unfold putF
    split
    · rename_i hlt
      cases k with
      | zero =>
        have : j = 0 := by omega
        subst this
        refine ⟨rfl, ?_⟩
        simp only [List.length_cons]
        have : l.length ≤ (putF n l).length := by
          cases l with
          | nil => exact Nat.zero_le _
          | cons y l => unfold putF; split
                        · simp only [List.length_cons]; exact Nat.succ_le_succ (by clear hp p1 hk hn hj; induction l with | nil => exact Nat.zero_le _ | cons z l ih => unfold putF; split; (· simp only [List.length_cons]; omega); (· split <;> simp))
                        · split <;> simp
        omega
      | succ k =>
        have hk' : k < l.length := by simpa using hk
        have ih := fun j hj => putF_pre (n := n) p1.2 hk' hn j hj
        cases j with
        | zero => exact ⟨rfl, by simpa using (ih 0 (by omega)).2⟩
        | succ j =>
          have := ih j (by omega)
          exact ⟨this.1, by simpa using this.2⟩
    · split
      · exact ⟨rfl, Nat.le_refl _⟩
      · rename_i h1 h2
        exfalso
        have h3 : x ≤ gd (x :: l) k := by
          cases k with
          | zero => exact Nat.le_refl _
          | succ k =>
            have := p1.1 (gd l k) (Bg (by simpa using hk))
            show x ≤ gd l k
            omega
        omega
theorem mergeF_pre : ∀ {b l : List Nat} {k : Nat}, l.Pairwise (· < ·) → k < l.length → (∀ y ∈ b, gd l k ≤ y) → ∀ j, j ≤ k → gd (mergeF l b) j = gd l j ∧ l.length ≤ (mergeF l b).length
 | [], l, k, _, _, _, j, _ => ⟨rfl, Nat.le_refl _⟩
 | y :: b, l, k, hp, hk, hb, j, hj => by
  have h1 := fun j hj => putF_pre hp hk (hb y (by simp)) j hj
  have h2 := (h1 k (Nat.le_refl _))
  have h3 := mergeF_pre (b := b) (l := putF y l) (k := k) (putF_pw hp) (by omega) (fun z hz => by rw [h2.1]; exact hb z (by simp [hz])) j hj
  rw [show mergeF l (y :: b) = mergeF (putF y l) b from rfl]
  exact ⟨h3.1.trans (h1 j hj).1, by omega⟩
structure StarOk (f : Nat → List Nat) (lo hi k : Nat) (l : List Nat) : Prop where
 inc : Inc lo hi l
 fst : lo ∈ l
 done : ∀ j, j < k → j < l.length → ∀ y ∈ f (gd l j), y ∈ l
 from' : ∀ y ∈ l, y = lo ∨ ∃ x ∈ l, x < y ∧ y ∈ f x
theorem starK_ok {lo hi : Nat} {f : Nat → List Nat} (hf : ∀ p, lo ≤ p → p ≤ hi → Inc p hi (f p)) (h0 : lo ≤ hi) : ∀ k, StarOk f lo hi k (starK f lo k)
 | 0 => ⟨starK_inc hf h0 0, by simp [starK], fun j hj => by omega, fun y hy => by simp [starK] at hy; exact .inl hy⟩
 | k + 1 => by
  have ih := starK_ok hf h0 k
  have hi := starK_inc hf h0 (k + 1)
  rw [starK_succ] at hi ⊢
  split at hi
  ·rename_i hk
   rw [if_pos hk]
   have h1 := ih.inc.rg _ (Bg hk)
   have hff := hf _ h1.1 h1.2
   have hpre := mergeF_pre (b := f (gd (starK f lo k) k)) ih.inc.pw hk fun y hy => (hff.rg y hy).1
   refine ⟨hi, mergeF_mem.2 (.inl ih.fst), fun j hj hj2 y hy => ?_, fun y hy => ?_⟩
   ·rw [(hpre j (by omega)).1] at hy
    by_cases e : j = k
    ·subst e; exact mergeF_mem.2 (.inr hy)
    ·exact mergeF_mem.2 (.inl (ih.done j (by omega) (by omega) y hy))
   ·rcases mergeF_mem.1 hy with h | h
    ·rcases ih.from' y h with h | ⟨x, h2, h3⟩
     ·exact .inl h
     ·exact .inr ⟨x, mergeF_mem.2 (.inl h2), h3⟩
    ·rcases Nat.lt_or_ge (gd (starK f lo k) k) y with h5 | h5
     ·exact .inr ⟨_, mergeF_mem.2 (.inl (Bg hk)), h5, h⟩
     ·have h6 := (hff.rg y h).1
      have h7 : y = gd (starK f lo k) k := by omega
      rw [h7]
      rcases ih.from' _ (Bg hk) with h | ⟨x, h2, h3⟩
      ·exact .inl h
      ·exact .inr ⟨x, mergeF_mem.2 (.inl h2), h3⟩
  ·rename_i hk
   rw [if_neg hk]
   exact ⟨ih.inc, ih.fst, fun j hj hj2 => ih.done j (by omega) hj2, ih.from'⟩
theorem Dc : ∀ (e : Re) (l : List ByteArray) (p : Nat), p ≤ l.length → Inc p l.length (endsF e l p)
 | .emp, l, p, h => inc_one ⟨Nat.le_refl _, h⟩
 | .nod s, l, p, h => by
  unfold endsF; split
  ·exact inc_one (by omega)
  ·exact inc_nil _ _
 | .any, l, p, h => by
  unfold endsF; split
  ·exact inc_one (by omega)
  ·exact inc_nil _ _
 | .alt a b, l, p, h => mergeF_inc (Dc a l p h) (Dc b l p h).rg
 | .seq a b, l, p, h => seqK_inc (fun q _ h2 => Dc b l q h2) (Dc a l p h) _ (Nat.le_refl _)
 | .star a, l, p, h => starK_inc (fun q _ h2 => Dc a l q h2) h _
def sub (l : List ByteArray) (p q : Nat) : List ByteArray := (l.drop p).take (q - p)
theorem sub_self (l : List ByteArray) (p : Nat) : sub l p p = [] := by simp [sub]
theorem sub_cat {l : List ByteArray} {p q r : Nat} (h1 : p ≤ q) (h2 : q ≤ r) : sub l p q ++ sub l q r = sub l p r := by
 unfold sub
 rw [show r - p = (q - p) + (r - q) by omega, List.take_add, List.drop_drop, show p + (q - p) = q by omega]
theorem sub_one {l : List ByteArray} {p : Nat} (h : p < l.length) : sub l p (p + 1) = [gd l p] := by
 unfold sub
 rw [show p + 1 - p = 1 by omega, drop_gd h]; rfl
theorem sub_len {l : List ByteArray} {p q : Nat} (h1 : p ≤ q) (h2 : q ≤ l.length) : (sub l p q).length = q - p := by
 unfold sub; rw [List.length_take, List.length_drop]; omega
theorem sub_split {l : List ByteArray} {p r : Nat} (h1 : p ≤ r) (h2 : r ≤ l.length) {u v : List ByteArray} (h : sub l p r = u ++ v) : sub l p (p + u.length) = u ∧ sub l (p + u.length) r = v ∧ p + u.length ≤ r := by
 have hl := congrArg List.length h
 rw [sub_len h1 h2, List.length_append] at hl
 have hc := sub_cat (l := l) (p := p) (q := p + u.length) (r := r) (by omega) (by omega)
 rw [h] at hc
 have h3 := List.append_inj hc (by rw [sub_len (by omega) (by omega)]; omega)
 exact ⟨h3.1, h3.2, by omega⟩
theorem ends_lang : ∀ (e : Re) (l : List ByteArray) (p : Nat), p ≤ l.length → ∀ q, q ∈ endsF e l p ↔ (p ≤ q ∧ q ≤ l.length) ∧ Lang e (sub l p q)
 | .emp, l, p, h, q => by
  simp only [endsF, List.mem_cons, List.not_mem_nil, or_false]
  constructor
  ·rintro rfl; exact ⟨⟨Nat.le_refl _, h⟩, by rw [sub_self]; exact .emp⟩
  ·rintro ⟨h1, h2⟩
   generalize hs : sub l p q = u at h2
   cases h2
   have := sub_len h1.1 h1.2
   rw [hs] at this; simp at this; omega
 | .nod s, l, p, h, q => by
  unfold endsF
  constructor
  ·intro hq
   split at hq
   ·rename_i hc
    simp at hq; subst hq
    exact ⟨by omega, by rw [sub_one hc.1, hc.2]; exact .nod s⟩
   ·cases hq
  ·rintro ⟨h1, h2⟩
   generalize hs : sub l p q = u at h2
   cases h2
   have hl := sub_len h1.1 h1.2
   rw [hs] at hl; simp at hl
   have hq : q = p + 1 := by omega
   subst hq
   rw [sub_one (by omega)] at hs
   rw [if_pos ⟨by omega, by simpa using hs⟩]; simp
 | .any, l, p, h, q => by
  unfold endsF
  constructor
  ·intro hq
   split at hq
   ·rename_i hc
    simp at hq; subst hq
    exact ⟨by omega, by rw [sub_one hc]; exact .any _⟩
   ·cases hq
  ·rintro ⟨h1, h2⟩
   generalize hs : sub l p q = u at h2
   cases h2
   have hl := sub_len h1.1 h1.2
   rw [hs] at hl; simp at hl
   rw [if_pos (by omega)]; simp; omega
 | .alt a b, l, p, h, q => by
  rw [show endsF (.alt a b) l p = mergeF (endsF a l p) (endsF b l p) from rfl, mergeF_mem, ends_lang a l p h, ends_lang b l p h]
  constructor
  ·rintro (⟨h1, h2⟩ | ⟨h1, h2⟩)
   ·exact ⟨h1, .altl h2⟩
   ·exact ⟨h1, .altr h2⟩
  ·rintro ⟨h1, h2⟩
   generalize hs : sub l p q = u at h2 ⊢
   cases h2 with
   | altl h2 => exact .inl ⟨h1, h2⟩
   | altr h2 => exact .inr ⟨h1, h2⟩
 | .seq a b, l, p, h, q => by
  rw [show endsF (.seq a b) l p = seqK (endsF b l) (endsF a l p) (endsF a l p).length from rfl, seqK_mem _ (Nat.le_refl _)]
  constructor
  ·rintro ⟨j, hj, hq⟩
   obtain ⟨h1, h2⟩ := (ends_lang a l p h _).1 (Bg hj)
   obtain ⟨h3, h4⟩ := (ends_lang b l _ h1.2 q).1 hq
   exact ⟨by omega, by rw [← sub_cat h1.1 h3.1]; exact .seq h2 h4⟩
  ·rintro ⟨h1, h2⟩
   generalize hs : sub l p q = u at h2
   cases h2 with
   | @seq _ _ u v h2 h3 =>
    obtain ⟨h4, h5, h6⟩ := sub_split h1.1 h1.2 hs
    obtain ⟨j, hj, hg⟩ := mem_gd.1 ((ends_lang a l p h (p + u.length)).2 ⟨by omega, by rw [h4]; exact h2⟩)
    refine ⟨j, hj, ?_⟩
    rw [hg]
    exact (ends_lang b l _ (by omega) q).2 ⟨by omega, by rw [h5]; exact h3⟩
 | .star a, l, p, h, q => by
  have hf : ∀ r, p ≤ r → r ≤ l.length → Inc r l.length (endsF a l r) := fun r _ h2 => Dc a l r h2
  have hok := starK_ok hf h (l.length + 1)
  rw [show endsF (.star a) l p = starK (endsF a l) p (l.length + 1) from rfl]
  generalize starK (endsF a l) p (l.length + 1) = out at hok
  have hlen := hok.inc.len
  have hcl : ∀ x ∈ out, ∀ y ∈ endsF a l x, y ∈ out := fun x hx y hy => by
   obtain ⟨j, hj, rfl⟩ := mem_gd.1 hx
   exact hok.done j (by omega) hj y hy
  have hsnoc : ∀ {u v}, Lang (.star a) u → Lang a v → Lang (.star a) (u ++ v) := fun {u v} hu hv => by
   generalize he : Re.star a = e at hu
   induction hu with
   | emp => cases he
   | nod _ => cases he
   | any _ => cases he
   | seq _ _ _ _ => cases he
   | altl _ _ => cases he
   | altr _ _ => cases he
   | stn => cases he; have := Lang.stc hv .stn; simpa using this
   | stc h1 _ _ ih => cases he; rw [List.append_assoc]; exact .stc h1 (ih rfl)
  constructor
  ·intro hq
   have hr := hok.inc.rg q hq
   refine ⟨hr, ?_⟩
   have key : ∀ n q, q ≤ n → q ∈ out → Lang (.star a) (sub l p q) := fun n => by
    induction n with
    | zero =>
     intro q hn hq
     have hr := hok.inc.rg q hq
     rw [show q = p by omega, sub_self]; exact .stn
    | succ n ih =>
     intro q hn hq
     have hr := hok.inc.rg q hq
     rcases hok.from' q hq with rfl | ⟨x, hx, hlt, hy⟩
     ·rw [sub_self]; exact .stn
     ·have hrx := hok.inc.rg x hx
      obtain ⟨h1, h2⟩ := (ends_lang a l x hrx.2 q).1 hy
      rw [← sub_cat hrx.1 h1.1]
      exact hsnoc (ih x (by omega) hx) h2
   exact key q q (Nat.le_refl _) hq
  ·rintro ⟨h1, h2⟩
   have key : ∀ {e u}, Lang e u → e = .star a → ∀ x, x ∈ out → x ≤ q → sub l x q = u → q ∈ out := by
    intro e u hu
    induction hu with
    | emp => intro he; cases he
    | nod _ => intro he; cases he
    | any _ => intro he; cases he
    | seq _ _ _ _ => intro he; cases he
    | altl _ _ => intro he; cases he
    | altr _ _ => intro he; cases he
    | stn =>
     intro he x hx hxq hs
     have := sub_len hxq h1.2
     rw [hs] at this; simp at this
     rw [show q = x by omega]; exact hx
    | @stc a' u v hu hv _ ih =>
     intro he x hx hxq hs
     cases he
     obtain ⟨h4, h5, h6⟩ := sub_split hxq h1.2 hs
     have hrx := hok.inc.rg x hx
     exact ih E _ (hcl x hx _ ((ends_lang a l x hrx.2 _).2 ⟨by omega, by rw [h4]; exact hu⟩)) h6 h5
   exact key h2 E p hok.fst h1.1 E
theorem ends_match {e : Re} (hl : e.lv ≤ 64) (hg : e.good) (l : List ByteArray) : decide (l.length ∈ endsF e l 0) = matchF e l := by
 refine Bool.eq_iff_iff.2 ?_
 rw [decide_eq_true_iff, ends_lang e l 0 (Nat.zero_le _), match_lang hl hg]
 have : sub l 0 l.length = l := by simp [sub]
 rw [this]
 exact ⟨fun h => h.2, fun h => ⟨by omega, h⟩⟩
end Go.Proofs.YtkdolgnpkjihpaaGreatDoor
namespace Go.Proofs.YtkdolgnpkjihpaaGreatDoor
open _root_.Go.Proofs.Tryz
open Go.RowKit
set_option linter.unusedVariables false
set_option linter.unusedSimpArgs false
theorem starK_grow {lo hi : Nat} {f : Nat → List Nat} (hf : ∀ p, lo ≤ p → p ≤ hi → Inc p hi (f p)) (h0 : lo ≤ hi) {k : Nat} (hk : k < (starK f lo k).length) : (starK f lo k).length ≤ (starK f lo (k + 1)).length ∧ starK f lo (k + 1) = mergeF (starK f lo k) (f (gd (starK f lo k) k)) := by
 have ih := starK_inc hf h0 k
 have h1 := ih.rg _ (Bg hk)
 have e : starK f lo (k + 1) = mergeF (starK f lo k) (f (gd (starK f lo k) k)) := by rw [starK_succ, if_pos hk]
 rw [e]
 exact ⟨(mergeF_pre ih.pw hk (fun y hy => ((hf _ h1.1 h1.2).rg y hy).1) 0 (Nat.zero_le _)).2, rfl⟩
theorem starK_end {f : Nat → List Nat} {lo k : Nat} (hk : ¬ k < (starK f lo k).length) : ∀ j, starK f lo (k + j) = starK f lo k
 | 0 => rfl
 | j + 1 => by
  have ih := starK_end hk j
  rw [show k + (j + 1) = (k + j) + 1 by omega, starK_succ, ih, if_neg (by omega)]
def GL (w0 : World) (H : List (Nat × Obj)) (l : List Nat) (v : Value) (H' : List (Nat × Obj)) : Prop := ∃ (q' : Option Addr) (c' : Nat) (M : List (Nat × Obj)), (v = .slice q' l.length c' ∧ l.length ≤ c' ∧ Arr w0 (M ++ H) q' 1 encU l) ∧ H' = M ++ H
def EndS (w0 : World) (m : Rxm) (e : Re) : Prop := ∀ (H : List (Nat × Obj)) (l : List ByteArray) (q : Option Addr) (c p : Nat), RxM w0 H m → Arr w0 H q 1 encS l → l.length ≤ 60 → p ≤ l.length → FSpec Tryz.prog w0 58 #[.agg (encRx m).toArray, .slice q l.length c, .int .i64 (p : Int)] H (GL w0 H (endsF e l p))
theorem gl_one {w0 : World} {H Hc : List (Nat × Obj)} {l : List Nat} {n x : Nat} (hl : l = [x]) (hs : ((n, Cl (encU x) 3) :: H).Sublist Hc) : ∃ H', GL w0 H l (resOf [.slice (some ⟨n, 0, none⟩) 1 1]) H' ∧ H'.Sublist Hc := by
 subst hl
 exact ⟨_, ⟨some ⟨n, 0, none⟩, 1, [(n, Cl (encU x) 3)], ⟨rfl, Nat.le_refl _, Dp (fun _ => rfl) E By⟩, rfl⟩, hs⟩
theorem gl_nil {w0 : World} {H Hc : List (Nat × Obj)} {l : List Nat} (hl : l = []) (hs : H.Sublist Hc) : ∃ H', GL w0 H l (resOf [.slice none 0 0]) H' ∧ H'.Sublist Hc := by
 subst hl
 exact ⟨_, ⟨none, 0, [], ⟨rfl, Nat.le_refl _, fun i x hi => by cases hi⟩, rfl⟩, hs⟩
theorem gl_of {w0 : World} {H Hc : List (Nat × Obj)} {l : List Nat} {q : Option Addr} {c : Nat} (M : List (Nat × Obj)) (hc : l.length ≤ c) (hA : Arr w0 Hc q 1 encU l) (hs : Hc = M ++ H) : ∃ H', GL w0 H l (resOf [.slice q l.length c]) H' ∧ H'.Sublist Hc := by
 subst hs
 exact ⟨_, ⟨q, c, M, ⟨rfl, hc, hA⟩, rfl⟩, List.Sublist.refl _⟩
theorem end_emp {w0 : World} {q : Option Addr} {c : Nat} : EndS w0 (.mk 1 ⟨#[]⟩ q c []) (.emp) := by
 intro H l q2 c2 p hM hN hl hp
 show FSpec Tryz.prog w0 58 #[.agg #[.int .i64 1, .string ⟨#[]⟩, .slice q 0 c], .slice q2 l.length c2, .int .i64 (p : Int)] H _
 refine A9 Tryz.func58 E ntmps58 E (Ag (Ab (e_ (Ba (T E) cs_) ?_ E)))
 rintro _ _ ⟨n3, rfl, rfl⟩
 refine y_ (Ad Aj) (Af (Ae (Ag (Ag (Ab (y_ (Bc (T E) Dk) (y_ (Ai (T E) isAgg3 (by first | exact c_o)) ?_ E) E)))))) E
 refine Af (Ae (Aw (Ag (Ab (y_ (B2 (T E) Aj) (y_ (Ad (T E)) (Af (Ae ?_)) E) E)))))
 first | refine A8 (Aa E) ?_ | refine A8 (Ak (Aa E) (vbool (decide_eq_true c14))) ?_
 refine Ag (Ab (y_ (Ac (T E)) (e_ (Ap (.cons (T E) .nil) (Cw _)) ?_ E) E))
 rintro _ _ ⟨n17, rfl, rfl⟩
 refine y_ (Ad (T E)) (Af (Ae (Ay (An (Al (Az E (.tmp (Aa E) .nil) ?_)))))) E
 exact gl_one E sbt
theorem end_any {w0 : World} {q : Option Addr} {c : Nat} : EndS w0 (.mk 3 ⟨#[]⟩ q c []) (.any) := by
 intro H l q2 c2 p hM hN hl hp
 show FSpec Tryz.prog w0 58 #[.agg #[.int .i64 3, .string ⟨#[]⟩, .slice q 0 c], .slice q2 l.length c2, .int .i64 (p : Int)] H _
 refine A9 Tryz.func58 E ntmps58 E (Ag (Ab (e_ (Ba (T E) cs_) ?_ E)))
 rintro _ _ ⟨n3, rfl, rfl⟩
 refine y_ (Ad Aj) (Af (Ae (Ag (Ag (Ab (y_ (Bc (T E) Dk) (y_ (Ai (T E) isAgg3 (by first | exact c_o)) ?_ E) E)))))) E
 refine Af (Ae (Aw (Ag (Ab (y_ (B2 (T E) Aj) (y_ (Ad (T E)) (Af (Ae ?_)) E) E)))))
 first | refine Br (Aa E) ?_ | refine Br (Ak (Aa E) (vbool (decide_eq_false c14))) ?_
 refine Ag (Ab (y_ (B2 (T E) Aj) (y_ (Ad (T E)) (Af (Ae ?_)) E) E))
 first | refine Br (Aa E) ?_ | refine Br (Ak (Aa E) (vbool (decide_eq_false c18))) ?_
 refine Ag (Ab (y_ (B2 (T E) Aj) (y_ (Ad (T E)) (Af (Ae ?_)) E) E))
 first | refine A8 (Aa E) ?_ | refine A8 (Ak (Aa E) (vbool (decide_eq_true c36))) ?_
 refine Ag (Ag (Ab (y_ (Ac (T E)) (y_ (Ac (T E)) (y_ (Bp (T E) runUnderlying25) (y_ (Bu (T E) (T E)) (Af (Ae ?_)) E) E) E) E)))
 first | refine Ar (Aa E) (fun c41 => ?_) (fun c41 => ?_) | refine A6 (Aa E) (fun c41 => ?_) (fun c41 => ?_)
 ·refine Ag (Ab (y_ (Ac (T E)) (y_ (Bt (T E) Aj (by omega)) ?_ E) E))
  refine e_ (Ap (.cons (T E) .nil) (Cw _)) ?_ E
  rintro _ _ ⟨n44, rfl, rfl⟩
  refine y_ (Ad (T E)) (Af (Ae (Ay (Al (An (Al (Az E (.tmp (Aa E) .nil) ?_))))))) E
  first | exact gl_one (x := p + 1) (if_pos (by omega)) sbt | exact gl_nil (if_neg (by omega)) sbt
 ·refine A2 (Ae (Ag (Ab (y_ (Ad Aj) (Af (Ae (Ay (An (Al (Az E (.tmp (Aa E) .nil) ?_)))))) E))))
  first | exact gl_one (x := p + 1) (if_pos (by omega)) sbt | exact gl_nil (if_neg (by omega)) sbt
theorem end_nod {w0 : World} {q : Option Addr} {c : Nat} {s : ByteArray} : EndS w0 (.mk 2 s q c []) (.nod s) := by
 intro H l q2 c2 p hM hN hl hp
 show FSpec Tryz.prog w0 58 #[.agg #[.int .i64 2, .string s, .slice q 0 c], .slice q2 l.length c2, .int .i64 (p : Int)] H _
 refine A9 Tryz.func58 E ntmps58 E (Ag (Ab (e_ (Ba (T E) cs_) ?_ E)))
 rintro _ _ ⟨n3, rfl, rfl⟩
 refine y_ (Ad Aj) (Af (Ae (Ag (Ag (Ab (y_ (Bc (T E) Dk) (y_ (Ai (T E) isAgg3 (by first | exact c_o)) ?_ E) E)))))) E
 refine Af (Ae (Aw (Ag (Ab (y_ (B2 (T E) Aj) (y_ (Ad (T E)) (Af (Ae ?_)) E) E)))))
 first | refine Br (Aa E) ?_ | refine Br (Ak (Aa E) (vbool (decide_eq_false c14))) ?_
 refine Ag (Ab (y_ (B2 (T E) Aj) (y_ (Ad (T E)) (Af (Ae ?_)) E) E))
 first | refine A8 (Aa E) ?_ | refine A8 (Ak (Aa E) (vbool (decide_eq_true c18))) ?_
 refine Ag (Ag (Ch 13 [(0, true), (1, true), (2, true), (3, true), (4, true), (5, true), (6, true), (7, true), (8, true), (9, true), (10, true), (11, true), (12, true)] _ mixd (by kernel_rfl) sb0 ?_))
 refine o_y E (Ac (T E)) (o_y E (Ac (T E)) (o_y E (Bp (T E) runUnderlying25) (o_y E (Bu (T E) (T E)) (o_y E (Ac (T E)) ?_ E Ah) E Ah) E Ah) E Ah) E Ah
 first | refine Cy (s := 24) (Aa E) (fun c24 => ?_) (fun c24 => ?_) | refine Dx (s := 24) (Aa E) (fun c24 => ?_) (fun c24 => ?_)
 ·refine o_y E (Ac (T E)) (o_y E (Ac (T E)) (o_y E (Be (T E) (T E) runUnderlying25 sizeOf9 (by omega) (by first | exact rfl | exact hN.b (i := p) (by omega))) ?_ E (Ao E E (Aa E))) E (Ao E E (Aa E))) E (Ao E E (Aa E))
  refine o_y E (Ai (T E) isAgg9 (by first | exact c_o | exact cell1 ((hN.mono sbt).cs (i := p) (by omega)))) ?_ E (Ao E E (Aa E))
  refine o_y E (Bi (T E) fa24_1) (o_y E (Ai (T E) isAgg9 (by first | exact c_o)) ?_ E (Ao E E (Aa E))) E (Ao E E (Aa E))
  refine o_y E (yl_eqSD (T E) (T E)) (o_y E (Aq (T E) (T E)) (Bx E (Af (Ae ?_))) E Ah) E (Ao E E (Aa E))
  first | refine Ar (Aa E) (fun c32 => ?_) (fun c32 => ?_) | refine A6 (Aa E) (fun c32 => ?_) (fun c32 => ?_)
  ·refine Ag (Ab (y_ (Ac (T E)) (y_ (Bt (T E) Aj (by omega)) ?_ E) E))
   refine e_ (Ap (.cons (T E) .nil) (Cw _)) ?_ E
   rintro _ _ ⟨n35, rfl, rfl⟩
   refine y_ (Ad (T E)) (Af (Ae (Bh [(6, _)] ⟨Aa E, trivial⟩ (Ay (Al (An (Al (Az E (.tmp (Aa E) .nil) ?_)))))))) E
   first | exact gl_one (x := p + 1) (if_pos ⟨by omega, bytes_ext (fun h => h c32)⟩) sbt | exact gl_nil (if_neg fun h => by first | omega | exact c32 (by rw [h.2])) sbt
  ·refine A2 (Ae (Ag (Ab (y_ (Ad Aj) (Af (Ae (Ay (An (Al (Az E (.tmp (Aa E) .nil) ?_)))))) E))))
   first | exact gl_one (x := p + 1) (if_pos ⟨by omega, bytes_ext (fun h => h c32)⟩) sbt | exact gl_nil (if_neg fun h => by first | omega | exact c32 (by rw [h.2])) sbt
 ·refine o_n E (o_n E (o_n E (o_n E (o_n E (o_n E (o_n E (o_y E (Au (T E) Aj) (Bx E (Af (Ae ?_))) E Ah) E (B8 E E (Aa E))) E (B8 E E (Aa E))) E (B8 E E (Aa E))) E (B8 E E (Aa E))) E (B8 E E (Aa E))) E (B8 E E (Aa E))) E (B8 E E (Aa E))
  first | refine Br (Aa E) ?_ | refine Br (Ak (Aa E) (vbool (decide_eq_false c32))) ?_
  refine A2 (Ae (Ag (Ab (y_ (Ad Aj) (Af (Ae (Ay (An (Al (Az E (.tmp (Aa E) .nil) ?_)))))) E))))
  first | exact gl_one (x := p + 1) (if_pos ⟨by omega, bytes_ext (fun h => h c32)⟩) sbt | exact gl_nil (if_neg fun h => by first | omega | exact c32 (by rw [h.2])) sbt
theorem end_alt {w0 : World} {q : Option Addr} {c : Nat} {ma mb : Rxm} {a b : Re} (iha : EndS w0 ma a) (ihb : EndS w0 mb b) : EndS w0 (.mk 5 ⟨#[]⟩ q c [ma, mb]) (.alt a b) := by
 intro H l q2 c2 p hM hN hl hp
 show FSpec Tryz.prog w0 58 #[.agg #[.int .i64 5, .string ⟨#[]⟩, .slice q 2 c], .slice q2 l.length c2, .int .i64 (p : Int)] H _
 obtain ⟨hA, hMM, _, _⟩ := hM
 have hMa := hMM ma (by simp)
 have hMb := hMM mb (by simp)
 have hia := Dc a l p hp
 have hla := hia.len
 have hlb := (Dc b l p hp).len
 refine A9 Tryz.func58 E ntmps58 E (Ag (Ab (e_ (Ba (T E) cs_) ?_ E)))
 rintro _ _ ⟨n3, rfl, rfl⟩
 refine y_ (Ad Aj) (Af (Ae (Ag (Ag (Ab (y_ (Bc (T E) Dk) (y_ (Ai (T E) isAgg3 (by first | exact c_o)) ?_ E) E)))))) E
 refine Af (Ae (Aw (Ag (Ab (y_ (B2 (T E) Aj) (y_ (Ad (T E)) (Af (Ae ?_)) E) E)))))
 first | refine Br (Aa E) ?_ | refine Br (Ak (Aa E) (vbool (decide_eq_false c14))) ?_
 refine Ag (Ab (y_ (B2 (T E) Aj) (y_ (Ad (T E)) (Af (Ae ?_)) E) E))
 first | refine Br (Aa E) ?_ | refine Br (Ak (Aa E) (vbool (decide_eq_false c18))) ?_
 refine Ag (Ab (y_ (B2 (T E) Aj) (y_ (Ad (T E)) (Af (Ae ?_)) E) E))
 first | refine Br (Aa E) ?_ | refine Br (Ak (Aa E) (vbool (decide_eq_false c36))) ?_
 refine Ag (Ab (y_ (B2 (T E) Aj) (y_ (Ad (T E)) (Af (Ae ?_)) E) E))
 first | refine A8 (Aa E) ?_ | refine A8 (Ak (Aa E) (vbool (decide_eq_true c45))) ?_
 refine Ag (Ch 13 [(0, true), (1, true), (2, true), (3, true), (4, true), (5, true), (7, true), (8, true), (9, true), (10, true), (11, true), (12, true), (6, false)] _ mixd (by kernel_rfl) sb0 ?_)
 refine o_y E (Bi (T E) Df) (o_y E (Ai (T E) isAgg22 (by first | exact c_o)) ?_ E Ah) E Ah
 refine o_y E (Ck (T E) Aj runUnderlying22 sizeOf24 (by omega) (by first | exact rfl | exact hA.b0)) ?_ E Ah
 refine o_y E (Am (T E) isAgg24 sizeOf24 E (by first | exact hA.cs0 | exact Bb)) ?_ E Ah
 refine o_y E (Ac (T E)) (o_y E (Ac (T E)) (o_y E (Bi (T E) Df) (o_y E (Ai (T E) isAgg22 (by first | exact c_o)) ?_ E Ah) E Ah) E Ah) E Ah
 refine o_y E (Ck (T E) Aj runUnderlying22 sizeOf24 (by omega) (by first | exact rfl | exact hA.b0)) ?_ E Ah
 refine o_y E (Am (T E) isAgg24 sizeOf24 E (by first | exact hA.cs1 | exact Bb)) ?_ E Ah
 refine o_y E (Ac (T E)) (o_y E (Ac (T E)) (o_e E (A1 (.cons (T E) (.cons (T E) (.cons (T E) .nil))) call58 (iha _ l q2 c2 p (hMa.mono sbt) (hN.mono sbt) hl hp)) ?_ E Ah) E Ah) E Ah
 rintro _ _ ⟨q3, c3, M3, ⟨rfl, hc3, hA3⟩, rfl⟩
 refine ⟨sbt, (Bx E (e_ (A1 (.cons (T E) (.cons (T E) (.cons (T E) .nil))) call58 (ihb _ l q2 c2 p (hMb.mono sbt) (hN.mono sbt) hl hp)) ?_ E))⟩
 rintro _ _ ⟨q4, c4, M4, ⟨rfl, hc4, hA4⟩, rfl⟩
 refine e_ (A1 (.cons (T E) (.cons (T E) .nil)) call111 (merge_r _ q3 c3 (hA3.mono sbt) hc3 _ q4 c4 hA4 (by omega))) ?_ E
 rintro _ _ ⟨q5, c5, M5, ⟨rfl, hc5, hA5⟩, rfl⟩
 refine y_ (Ad (T E)) (Af (Ae (Bh [(6, _)] ⟨Aa E, trivial⟩ (Ay (An (Al (Az E (.tmp (Aa E) .nil) ?_))))))) E
 exact gl_of (M5 ++ (M4 ++ (M3 ++ [(n3, Cl [.int .i64 5, .string ⟨#[]⟩, .slice q 2 c] 24)]))) hc5 hA5 (by simp only [List.append_assoc, List.cons_append, List.nil_append, List.singleton_append])
theorem end_seq {w0 : World} {q : Option Addr} {c : Nat} {ma mb : Rxm} {a b : Re} (iha : EndS w0 ma a) (ihb : EndS w0 mb b) : EndS w0 (.mk 4 ⟨#[]⟩ q c [ma, mb]) (.seq a b) := by
 intro H l q2 c2 p hM hN hl hp
 show FSpec Tryz.prog w0 58 #[.agg #[.int .i64 4, .string ⟨#[]⟩, .slice q 2 c], .slice q2 l.length c2, .int .i64 (p : Int)] H _
 obtain ⟨hA, hMM, _, _⟩ := hM
 have hMa := hMM ma (by simp)
 have hMb := hMM mb (by simp)
 have hia := Dc a l p hp
 have hla := hia.len
 refine A9 Tryz.func58 E ntmps58 E (Ag (Ab (e_ (Ba (T E) cs_) ?_ E)))
 rintro _ _ ⟨n3, rfl, rfl⟩
 refine y_ (Ad Aj) (Af (Ae (Ag (Ag (Ab (y_ (Bc (T E) Dk) (y_ (Ai (T E) isAgg3 (by first | exact c_o)) ?_ E) E)))))) E
 refine Af (Ae (Aw (Ag (Ab (y_ (B2 (T E) Aj) (y_ (Ad (T E)) (Af (Ae ?_)) E) E)))))
 first | refine Br (Aa E) ?_ | refine Br (Ak (Aa E) (vbool (decide_eq_false c14))) ?_
 refine Ag (Ab (y_ (B2 (T E) Aj) (y_ (Ad (T E)) (Af (Ae ?_)) E) E))
 first | refine Br (Aa E) ?_ | refine Br (Ak (Aa E) (vbool (decide_eq_false c18))) ?_
 refine Ag (Ab (y_ (B2 (T E) Aj) (y_ (Ad (T E)) (Af (Ae ?_)) E) E))
 first | refine Br (Aa E) ?_ | refine Br (Ak (Aa E) (vbool (decide_eq_false c36))) ?_
 refine Ag (Ab (y_ (B2 (T E) Aj) (y_ (Ad (T E)) (Af (Ae ?_)) E) E))
 first | refine Br (Aa E) ?_ | refine Br (Ak (Aa E) (vbool (decide_eq_false c45))) ?_
 refine Ag (Ab (y_ (B2 (T E) Aj) (y_ (Ad (T E)) (Af (Ae ?_)) E) E))
 first | refine A8 (Aa E) ?_ | refine A8 (Ak (Aa E) (vbool (decide_eq_true c62))) ?_
 refine Ag (Ab (y_ (Ad Aj) (Af (Ae (Ag (Ab (y_ (Bi (T E) Df) (y_ (Ai (T E) isAgg22 (by first | exact c_o)) ?_ E) E))))) E))
 refine y_ (Ck (T E) Aj runUnderlying22 sizeOf24 (by omega) (by first | exact rfl | exact hA.b0 | exact hA3.b (i := k) (by omega))) ?_ E
 refine y_ (Am (T E) isAgg24 sizeOf24 E (by first | exact hA.cs0 | exact Bb)) ?_ E
 refine y_ (Ac (T E)) (y_ (Ac (T E)) (e_ (A1 (.cons (T E) (.cons (T E) (.cons (T E) .nil))) call58 (iha _ l q2 c2 p (hMa.mono sbt) (hN.mono sbt) hl hp)) ?_ E) E) E
 rintro _ _ ⟨q3, c3, M3, ⟨rfl, hc3, hA3⟩, rfl⟩
 refine y_ (Ad (T E)) (Af (Ae (Ag (Ag (Ab (y_ (Ad Aj) (Af (Ae (Bh [(1, _), (3, _), (7, _), (8, _), (9, _)] ⟨Aa E, Aa E, Aa E, Aa E, Aa E, trivial⟩ (Aw ?_)))) E)))))) E
 refine Cm (X := Nat × Option Addr × Nat × List (Nat × Obj)) (V := fun ⟨k, q1, c1, M⟩ => [(9, .int .i64 (k : Nat)), (7, .slice q1 (seqK (endsF b l) (endsF a l p) k).length c1)]) (C := [(1, _), (3, _), (8, _)]) (G := fun ⟨k, q1, c1, M⟩ => M ++ (M3 ++ ((n3, Cl [.int .i64 4, .string ⟨#[]⟩, .slice q 2 c] 24) :: H))) (φ := fun ⟨k, q1, c1, M⟩ => k ≤ (endsF a l p).length ∧ (seqK (endsF b l) (endsF a l p) k).length ≤ c1 ∧ Arr w0 (M ++ (M3 ++ ((n3, Cl [.int .i64 4, .string ⟨#[]⟩, .slice q 2 c] 24) :: H))) q1 1 encU (seqK (endsF b l) (endsF a l p) k)) (μ := fun ⟨k, q1, c1, M⟩ => (endsF a l p).length - k) (x0 := (0, none, 0, [])) ?_ ⟨Aa rfl, Aa rfl, Aa rfl, trivial⟩ ⟨(by first | exact Aa rfl | (refine Ak (Aa rfl) (vint ?_); omega) | (refine Ak (Aa rfl) ?_; simp; done)), (by first | exact Aa rfl | (refine Ak (Aa rfl) (vint ?_); omega) | (refine Ak (Aa rfl) ?_; simp; done)), trivial⟩ sb0 ?_
 ·exact ⟨Nat.zero_le _, Nat.le_refl _, fun i x hi => by cases hi⟩
 rintro ⟨k, q1, c1, M⟩ ⟨hk, hc1, hA1⟩
 have hsl := (seqK_inc (fun r _ h2 => Dc b l r h2) hia k hk).len
 refine Ag (Ag (Ab (y_ (Ac (T E)) (y_ (Ac (T E)) (y_ (Bp (T E) runUnderlying42) (y_ (Bu (T E) (T E)) (Af (Ae ?_)) E) E) E) E)))
 first | refine Ar (Aa E) (fun c74 => ?_) (fun c74 => ?_) | refine A6 (Aa E) (fun c74 => ?_) (fun c74 => ?_)
 ·have hgk := hia.rg _ (Bg (i := k) (by omega))
  have hlb := (Dc b l _ hgk.2).len
  refine A2 (Ae (Ag (Aw (Ch 11 [(0, true), (1, true), (2, true), (3, true), (4, true), (5, true), (6, true), (7, true), (8, true), (9, true), (10, false)] _ mixd (by kernel_rfl) sb0 ?_))))
  refine o_y E (Ac (T E)) (o_y E (Bi (T E) Df) (o_y E (Ai (T E) isAgg22 (by first | exact c_o)) ?_ E Ah) E Ah) E Ah
  refine o_y E (Ck (T E) Aj runUnderlying22 sizeOf24 (by omega) (by first | exact rfl | exact hA.b0 | exact hA3.b (i := k) (by omega))) ?_ E Ah
  refine o_y E (Am (T E) isAgg24 sizeOf24 E (by first | exact hA.cs1 | exact Bb)) ?_ E Ah
  refine o_y E (Ac (T E)) (o_y E (Ac (T E)) (o_y E (Ac (T E)) (o_y E (Be (T E) (T E) runUnderlying42 sizeOf3 (by omega) (by first | exact rfl | exact hA.b0 | exact hA3.b (i := k) (by omega))) ?_ E Ah) E Ah) E Ah) E Ah
  refine o_y E (Ai (T E) isAgg3 (by first | exact c_o | exact cell1 ((hA3.mono sbt).cs (i := k) (by omega)))) ?_ E Ah
  refine o_e E (A1 (.cons (T E) (.cons (T E) (.cons (T E) .nil))) call58 (ihb _ l q2 c2 (gd (endsF a l p) k) (hMb.mono sbt) (hN.mono sbt) hl hgk.2)) ?_ E Ah
  rintro _ _ ⟨q4, c4, M4, ⟨rfl, hc4, hA4⟩, rfl⟩
  refine ⟨sbt, (Bx E (e_ (A1 (.cons (T E) (.cons (T E) .nil)) call111 (merge_r _ q1 c1 (hA1.mono sbt) hc1 _ q4 c4 hA4 (by omega))) ?_ E))⟩
  rintro _ _ ⟨q5, c5, M5, ⟨rfl, hc5, hA5⟩, rfl⟩
  refine y_ (Ad (T E)) (Af (Bl (Ae (Ab (y_ (Ac (T E)) (y_ (Bt (T E) Aj (by omega)) ?_ E) E))))) E
  refine y_ (Ad (T E)) (Af ?_) E
  refine Bn ((k + 1, q5, c5, M5 ++ (M4 ++ M))) ?_ ?_ ⟨(by first | exact Aa E | (refine Ak (Aa E) (vint ?_); omega) | (refine Ak (Aa E) ?_; simp; done)), (by first | exact Aa E | (refine Ak (Aa E) (vint ?_); omega) | (refine Ak (Aa E) ?_; simp; done)), trivial⟩ ⟨Aa E, Aa E, Aa E, trivial⟩ ?_
  ·exact ⟨by omega, hc5, by simpa only [List.append_assoc, seqK] using hA5⟩
  ·first | omega | (simp only []; omega)
  ·show (M5 ++ (M4 ++ M) ++ _).Sublist _
   simp only [List.append_assoc]
   exact sbt
 ·refine B4 (A0 (A4 (A3 (Ae (Ag (Ab (y_ (Ac (T E)) (y_ (Ad (T E)) (Af (Ae (Ay (An (Al (Az E (.tmp (Aa E) .nil) ?_)))))) E) E)))))))
  have hk2 : k = (endsF a l p).length := by omega
  subst hk2
  exact gl_of (M ++ (M3 ++ [(n3, Cl [.int .i64 4, .string ⟨#[]⟩, .slice q 2 c] 24)])) hc1 hA1 (by simp only [List.append_assoc, List.cons_append, List.nil_append, List.singleton_append])
theorem end_star {w0 : World} {q : Option Addr} {c : Nat} {ma : Rxm} {a : Re} (iha : EndS w0 ma a) : EndS w0 (.mk 6 ⟨#[]⟩ q c [ma]) (.star a) := by
 intro H l q2 c2 p hM hN hl hp
 show FSpec Tryz.prog w0 58 #[.agg #[.int .i64 6, .string ⟨#[]⟩, .slice q 1 c], .slice q2 l.length c2, .int .i64 (p : Int)] H _
 obtain ⟨hA, hMM, _, _⟩ := hM
 have hMa := hMM ma (by simp)
 have hf : ∀ r, p ≤ r → r ≤ l.length → Inc r l.length (endsF a l r) := fun r _ h2 => Dc a l r h2
 refine A9 Tryz.func58 E ntmps58 E (Ag (Ab (e_ (Ba (T E) cs_) ?_ E)))
 rintro _ _ ⟨n3, rfl, rfl⟩
 refine y_ (Ad Aj) (Af (Ae (Ag (Ag (Ab (y_ (Bc (T E) Dk) (y_ (Ai (T E) isAgg3 (by first | exact c_o)) ?_ E) E)))))) E
 refine Af (Ae (Aw (Ag (Ab (y_ (B2 (T E) Aj) (y_ (Ad (T E)) (Af (Ae ?_)) E) E)))))
 first | refine Br (Aa E) ?_ | refine Br (Ak (Aa E) (vbool (decide_eq_false c14))) ?_
 refine Ag (Ab (y_ (B2 (T E) Aj) (y_ (Ad (T E)) (Af (Ae ?_)) E) E))
 first | refine Br (Aa E) ?_ | refine Br (Ak (Aa E) (vbool (decide_eq_false c18))) ?_
 refine Ag (Ab (y_ (B2 (T E) Aj) (y_ (Ad (T E)) (Af (Ae ?_)) E) E))
 first | refine Br (Aa E) ?_ | refine Br (Ak (Aa E) (vbool (decide_eq_false c36))) ?_
 refine Ag (Ab (y_ (B2 (T E) Aj) (y_ (Ad (T E)) (Af (Ae ?_)) E) E))
 first | refine Br (Aa E) ?_ | refine Br (Ak (Aa E) (vbool (decide_eq_false c45))) ?_
 refine Ag (Ab (y_ (B2 (T E) Aj) (y_ (Ad (T E)) (Af (Ae ?_)) E) E))
 first | refine Br (Aa E) ?_ | refine Br (Ak (Aa E) (vbool (decide_eq_false c62))) ?_
 refine A2 (Bl (Ae (Ag (Ab (y_ (Ac (T E)) (e_ (Ap (.cons (T E) .nil) (Cw _)) ?_ E) E)))))
 rintro _ _ ⟨n91, rfl, rfl⟩
 refine y_ (Ad (T E)) (Af (Ae (Ag (Ag (Ab (y_ (Ad Aj) (Af (Ae (Aw ?_))) E)))))) E
 refine Cm (X := Nat × Option Addr × Nat × List (Nat × Obj)) (V := fun ⟨k, q1, c1, M⟩ => [(11, .int .i64 (k : Nat)), (10, .slice q1 (starK (endsF a l) p k).length c1)]) (C := [(1, _), (3, _)]) (G := fun ⟨k, q1, c1, M⟩ => M ++ ((n3, Cl [.int .i64 6, .string ⟨#[]⟩, .slice q 1 c] 24) :: H)) (φ := fun ⟨k, q1, c1, M⟩ => k ≤ (starK (endsF a l) p k).length ∧ (starK (endsF a l) p k).length ≤ c1 ∧ Arr w0 (M ++ ((n3, Cl [.int .i64 6, .string ⟨#[]⟩, .slice q 1 c] 24) :: H)) q1 1 encU (starK (endsF a l) p k)) (μ := fun ⟨k, q1, c1, M⟩ => l.length + 1 - k) (x0 := (0, some ⟨n91, 0, none⟩, 1, [(n91, Cl (encU p) 3)])) ?_ ⟨Aa rfl, Aa rfl, trivial⟩ ⟨(by first | exact Aa rfl | (refine Ak (Aa rfl) (vint ?_); omega) | (refine Ak (Aa rfl) ?_; simp; done) | (refine Ak (Aa rfl) ?_; exact by rw [heq])), (by first | exact Aa rfl | (refine Ak (Aa rfl) (vint ?_); omega) | (refine Ak (Aa rfl) ?_; simp; done) | (refine Ak (Aa rfl) ?_; exact by rw [heq])), trivial⟩ sb0 ?_
 ·exact ⟨Nat.zero_le _, Nat.le_refl _, Dp (fun _ => rfl) E By⟩
 rintro ⟨k, q1, c1, M⟩ ⟨hk, hc1, hA1⟩
 have hinc := starK_inc hf hp k
 have hsl := hinc.len
 refine Ag (Ag (Ab (y_ (Ac (T E)) (y_ (Ac (T E)) (y_ (Bp (T E) runUnderlying42) (y_ (Bu (T E) (T E)) (Af (Ae ?_)) E) E) E) E)))
 first | refine Ar (Aa E) (fun c95 => ?_) (fun c95 => ?_) | refine A6 (Aa E) (fun c95 => ?_) (fun c95 => ?_)
 ·have hgk := hinc.rg _ (Bg (i := k) (by omega))
  have hlb := (Dc a l _ hgk.2).len
  obtain ⟨hgr, heq⟩ := starK_grow hf hp (k := k) (by omega)
  refine A2 (Ae (Ag (Aw (Ag (Ag (Ab (y_ (Ac (T E)) (y_ (Ac (T E)) (y_ (Bp (T E) runUnderlying25) (y_ (C7 (T E) (T E)) (Af (Ae ?_)) E) E) E) E)))))))
  first | refine Ar (Aa E) (fun c101 => ?_) (fun c101 => ?_) | refine A6 (Aa E) (fun c101 => ?_) (fun c101 => ?_)
  ·exfalso; omega
  ·refine A2 (Ae (Ch 11 [(0, true), (1, true), (2, true), (3, true), (4, true), (5, true), (6, true), (7, true), (8, true), (9, true), (10, false)] _ mixd (by kernel_rfl) sb0 ?_))
   refine o_y E (Ac (T E)) (o_y E (Bi (T E) Df) (o_y E (Ai (T E) isAgg22 (by first | exact c_o)) ?_ E Ah) E Ah) E Ah
   refine o_y E (Ck (T E) Aj runUnderlying22 sizeOf24 (by omega) (by first | exact rfl | exact hA.b0 | exact hA1.b (i := k) (by omega))) ?_ E Ah
   refine o_y E (Am (T E) isAgg24 sizeOf24 E (by first | exact hA.cs0 | exact Bb)) ?_ E Ah
   refine o_y E (Ac (T E)) (o_y E (Ac (T E)) (o_y E (Ac (T E)) (o_y E (Be (T E) (T E) runUnderlying42 sizeOf3 (by omega) (by first | exact rfl | exact hA.b0 | exact hA1.b (i := k) (by omega))) ?_ E Ah) E Ah) E Ah) E Ah
   refine o_y E (Ai (T E) isAgg3 (by first | exact c_o | exact cell1 ((hA1.mono sbt).cs (i := k) (by omega)))) ?_ E Ah
   refine o_e E (A1 (.cons (T E) (.cons (T E) (.cons (T E) .nil))) call58 (iha _ l q2 c2 (gd (starK (endsF a l) p k) k) (hMa.mono sbt) (hN.mono sbt) hl hgk.2)) ?_ E Ah
   rintro _ _ ⟨q4, c4, M4, ⟨rfl, hc4, hA4⟩, rfl⟩
   refine ⟨sbt, (Bx E (e_ (A1 (.cons (T E) (.cons (T E) .nil)) call111 (merge_r _ q1 c1 (hA1.mono sbt) hc1 _ q4 c4 hA4 (by omega))) ?_ E))⟩
   rintro _ _ ⟨q5, c5, M5, ⟨rfl, hc5, hA5⟩, rfl⟩
   refine y_ (Ad (T E)) (Af (Bl (Ae (Bh [(1, _), (3, _), (10, _), (11, _)] ⟨Aa E, Aa E, Aa E, Aa E, trivial⟩ (Ab (y_ (Ac (T E)) (y_ (Bt (T E) Aj (by omega)) ?_ E) E)))))) E
   refine y_ (Ad (T E)) (Af ?_) E
   rw [← heq] at hc5 hA5
   refine Bn ((k + 1, q5, c5, M5 ++ (M4 ++ M))) ?_ ?_ ⟨(by first | exact Aa E | (refine Ak (Aa E) (vint ?_); omega) | (refine Ak (Aa E) ?_; simp; done) | (refine Ak (Aa E) ?_; exact by rw [heq])), (by first | exact Aa E | (refine Ak (Aa E) (vint ?_); omega) | (refine Ak (Aa E) ?_; simp; done) | (refine Ak (Aa E) ?_; exact by rw [heq])), trivial⟩ ⟨Aa E, Aa E, trivial⟩ ?_
   ·exact ⟨by omega, hc5, by simpa only [List.append_assoc] using hA5⟩
   ·first | omega | (simp only []; omega)
   ·show (M5 ++ (M4 ++ M) ++ _).Sublist _
    simp only [List.append_assoc]
    exact sbt
 ·refine B4 (A0 (A4 (A3 (Ae (Ag (Ab (y_ (Ac (T E)) (y_ (Ad (T E)) (Af (Ae (Ay (Az E (.tmp (Aa E) .nil) ?_)))) E) E)))))))
  have he : starK (endsF a l) p (l.length + 1) = starK (endsF a l) p k := by
   have := starK_end (f := endsF a l) (lo := p) (k := k) (by omega) (l.length + 1 - k)
   rwa [show k + (l.length + 1 - k) = l.length + 1 by omega] at this
  rw [show endsF (.star a) l p = starK (endsF a l) p (l.length + 1) from rfl, he]
  exact gl_of (M ++ [(n3, Cl [.int .i64 6, .string ⟨#[]⟩, .slice q 1 c] 24)]) hc1 hA1 (by simp only [List.append_assoc, List.cons_append, List.nil_append, List.singleton_append])
theorem ends_s {w0 : World} {m : Rxm} {e : Re} (h : Is m e) : EndS w0 m e := by
 induction h with
 | emp => exact end_emp
 | nod _ => exact end_nod
 | any => exact end_any
 | seq _ _ ih1 ih2 => exact end_seq ih1 ih2
 | alt _ _ ih1 ih2 => exact end_alt ih1 ih2
 | star _ ih => exact end_star ih
theorem rMatch_s {w0 : World} {H : List (Nat × Obj)} (m : Rxm) (e : Re) (hI : Is m e) (hM : RxM w0 H m) (hlv : e.lv ≤ 64) (l : List ByteArray) (q : Option Addr) (c : Nat) (hN : Arr w0 H q 1 encS l) (hl : l.length ≤ 60) :
  FSpec Tryz.prog w0 17 #[.agg (encRx m).toArray, .slice q l.length c] H (fun v H' => (v = .bool (matchF e l)) ∧ ∃ M, H' = M ++ H) := by
 refine A9 Tryz.func17 E ntmps17 E (Ag (Ab (e_ (Ba (T E) cs_) ?_ E)))
 rintro _ _ ⟨n2, rfl, rfl⟩
 refine y_ (Ad Aj) (Af (Ae (Ag (Ab (y_ (Am (T E) isAgg24 sizeOf24 E (by first | exact Bb)) ?_ E))))) E
 refine y_ (Ac (T E)) (e_ (A1 (.cons (T E) (.cons (T E) (.cons Aj .nil))) call58 (ends_s hI _ l q c 0 (hM.mono sbt) (hN.mono sbt) hl (Nat.zero_le _))) ?_ E) E
 rintro _ _ ⟨q1, c1, M1, ⟨rfl, hc1, hA1⟩, rfl⟩
 refine y_ (Ad (T E)) (Af (Ae (Ag (Ab (y_ (Ac (T E)) (y_ (Ac (T E)) (y_ (Bp (T E) runUnderlying25) (y_ (Av (.cons (T E) (.cons (T E) .nil)) call59 (fun H' hs => has_r _ q1 c1 (hA1.mono hs) (by have := (Dc e l 0 (Nat.zero_le _)).len; omega) l.length)) ?_ E) E) E) E))))) E
 refine y_ (Ad (T E)) (Af (Ae (Ay (Az E (.tmp (Aa E) .nil) ?_)))) E
 exact ⟨H, ⟨vbool (ends_match hlv hI.good l), [], rfl⟩, sbt⟩
end Go.Proofs.YtkdolgnpkjihpaaGreatDoor
namespace Go.Proofs.YtkdolgnpkjihpaaGreatDoor
open _root_.Go.Proofs.Tryz
open Go.RowKit
set_option linter.unusedVariables false
set_option linter.unusedSimpArgs false
theorem lett_at {names : List ByteArray} (h : Srt names) {k : Nat} (hk : k < names.length) : lett names (gd names k) = k := by
 have hl : lbF names (gd names k) = k := lbF_eq (by omega) (fun j hj => h.lt hj hk) fun j hj hj2 => by
  rcases Nat.lt_or_ge k j with h1 | h1
  ·exact ltU_ne (h.lt h1 hj2)
  ·rw [show j = k by omega]; exact List.lt_irrefl _
 unfold lett
 rw [hl, if_pos ⟨hk, rfl⟩]
theorem lett_none {names : List ByteArray} {s : ByteArray} (h : ∀ j, j < names.length → ¬ gd names j = s) : lett names s = names.length :=
 lett_no fun hm => by
  obtain ⟨j, hj, e⟩ := mem_gdS.1 hm
  exact h j hj e
theorem letter_s {w0 : World} {H : List (Nat × Obj)} (m : Mc) (hm : McOk w0 H m) (hsr : Srt m.names) (hl : m.names.length ≤ 4611686018427387903) (s : ByteArray) :
  FSpec Tryz.prog w0 118 #[.agg (encMc m).toArray, .string s] H (Still (.int .i64 (lett m.names s : Nat)) H) := by
 refine A9 Tryz.func118 E ntmps118 E (Ag (Ab (e_ (Ba (T E) cs_) ?_ E)))
 rintro _ _ ⟨n2, rfl, rfl⟩
 refine y_ (Ad Aj) (Af (Ae (Ag (Ag (Ab (y_ (Ad Aj) (Af (Ae (Aw ?_))) E)))))) E
 refine Cc (X := Nat) (V := fun k => [(5, .int .i64 (k : Nat))]) (C := [(1, _), (2, _)]) (φ := fun k => k ≤ m.names.length ∧ ∀ j, j < k → ¬ gd m.names j = s) (μ := fun k => m.names.length - k) (x0 := 0) ?_ ⟨Aa E, Aa E, trivial⟩ ⟨(by first | exact Aa E | (refine Ak (Aa E) (vint ?_); omega) | (refine Ak (Aa E) ?_; simp; done)), trivial⟩ ?_
 ·exact ⟨Nat.zero_le _, fun j hj => by omega⟩
 rintro k ⟨hk, hno⟩
 refine Ag (Ag (Ab (y_ (Ac (T E)) (y_ (Bc (T E) Dl) (y_ (Ai (T E) isAgg25 (by first | exact c_o)) ?_ E) E) E)))
 refine y_ (Bp (T E) runUnderlying25) (y_ (Bu (T E) (T E)) (Af (Ae ?_)) E) E
 first | refine Ar (Aa E) (fun c10 => ?_) (fun c10 => ?_) | refine A6 (Aa E) (fun c10 => ?_) (fun c10 => ?_)
 ·refine A2 (Ae (Ag (Aw (Ag (Ab (y_ (Bc (T E) Dl) (y_ (Ai (T E) isAgg25 (by first | exact c_o)) ?_ E) E))))))
  refine y_ (Ac (T E)) (y_ (Be (T E) (T E) runUnderlying25 sizeOf9 (by omega) (by first | exact rfl | exact hm.a1.b (i := k) (by omega))) ?_ E) E
  refine y_ (Ai (T E) isAgg9 (by first | exact c_o | exact cell1 ((hm.a1.mono sbt).cs (i := k) (by omega)))) ?_ E
  refine y_ (Ac (T E)) (y_ (yl_eqSD (T E) (T E)) (Af (Ae ?_)) E) E
  first | refine Ar (Aa E) (fun c19 => ?_) (fun c19 => ?_) | refine A6 (Aa E) (fun c19 => ?_) (fun c19 => ?_)
  ·refine Ag (Ab (y_ (Ac (T E)) (y_ (Ad (T E)) (Af (Ae (Ay (An (Al (Bo (An (Al (Az E (.tmp (Aa E) .nil) ?_))))))))) E) E))
   have e := bytes_ext (fun h => h c19)
   have e2 := lett_at hsr (k := k) (by omega)
   rw [e] at e2
   exact ⟨_, ⟨by rw [e2]; rfl, rfl⟩, sbt⟩
  ·refine A2 (Bl (Ae (Ab (y_ (Ac (T E)) (y_ (Bt (T E) Aj (by omega)) ?_ E) E))))
   refine y_ (Ad (T E)) (Af ?_) E
   refine Bn (k + 1) ?_ ?_ ⟨(by first | exact Aa E | (refine Ak (Aa E) (vint ?_); omega) | (refine Ak (Aa E) ?_; simp; done)), trivial⟩ ⟨Aa E, Aa E, trivial⟩ ?_
   ·refine ⟨by omega, fun j hj => ?_⟩
    by_cases e : j = k
    ·subst e; exact fun h => c19 (by rw [h])
    ·exact hno j (by omega)
   ·first | omega | (simp only []; omega)
   ·exact sbt
 ·refine B4 (A0 (A4 (A3 (Ae (Ag (Ab (y_ (Bc (T E) Dl) (y_ (Ai (T E) isAgg25 (by first | exact c_o)) ?_ E) E)))))))
  refine y_ (Bp (T E) runUnderlying25) (y_ (Ad (T E)) (Af (Ae (Ay (Az E (.tmp (Aa E) .nil) ?_)))) E) E
  have e2 := lett_none (fun j hj => hno j (by omega))
  exact ⟨_, ⟨by rw [e2]; rfl, rfl⟩, sbt⟩
theorem rstep_s {w0 : World} {H : List (Nat × Obj)} (m : Mc) (hm : McOk w0 H m) (hsr : Srt m.names) (hl : m.names.length ≤ 4611686018427387903) (hp : PMok m.pl) (st : Nat) (hst : st < m.rows.length) (s : ByteArray) :
  FSpec Tryz.prog w0 70 #[.agg (encMc m).toArray, .int .i64 (st : Int), .string s] H (Still (.int .i64 (afterF m.pl st s : Nat)) H) := by
 refine A9 Tryz.func70 E ntmps70 E ?_
 have hrow := (pm_row hp hst).1
 have hlt := (pm_row hp hst).2 _ (Nat.lt_succ_of_le (lett_le m.names s))
 have hle := lett_le m.names s
 refine Ag (Ab (e_ (Ba (T E) cs_) ?_ E))
 rintro _ _ ⟨n3, rfl, rfl⟩
 refine y_ (Ad Aj) (Af (Ae (Ag (Ch 11 [(0, true), (1, true), (2, true), (3, true), (4, true), (5, true), (6, true), (7, true), (8, true), (9, true), (10, true)] _ mixd (by kernel_rfl) sb0 ?_)))) E
 refine o_y E (Bi (T E) Cv) (o_y E (Ai (T E) isAgg26 (by first | exact c_o)) ?_ E Ah) E Ah
 refine o_y E (Ac (T E)) (o_y E (Be (T E) (T E) runUnderlying26 sizeOf42 (by omega) (by first | exact rfl | exact hm.a2.b (i := st) hst | exact (hm.r _ (Bg hst)).b (i := lett m.names s) (by omega))) ?_ E Ah) E Ah
 refine o_y E (Ai (T E) isAgg42 (by first | exact c_o | exact cell1 ((hm.a2.mono sbt).cs (i := st) hst))) ?_ E Ah
 refine o_y E (Am (T E) isAgg29 sizeOf29 E (by first | exact Bb)) ?_ E Ah
 refine o_y E (Ac (T E)) (o_y E (Av (.cons (T E) (.cons (T E) .nil)) call118 (fun H' hs => letter_s m (hm.mono (List.Sublist.trans sbt hs)) hsr hl s)) (o_y E (Be (T E) (T E) runUnderlying42 sizeOf3 (by omega) (by first | exact rfl | exact hm.a2.b (i := st) hst | exact (hm.r _ (Bg hst)).b (i := lett m.names s) (by omega))) ?_ E Ah) E Ah) E Ah
 refine o_y E (Ai (T E) isAgg3 (by first | exact c_o | exact cell1 (((hm.r _ (Bg hst)).mono sbt).cs (i := lett m.names s) (by omega)))) ?_ E Ah
 refine o_y E (Ad (T E)) (Bx E (Af (Ae (Ay (Az E (.tmp (Aa E) .nil) ?_))))) E Ah
 exact ⟨_, ⟨by unfold afterF; rw [nx_pl]; rfl, rfl⟩, sbt⟩
theorem down_s {w0 : World} {H : List (Nat × Obj)} (f : Flr) (x : Int) :
  FSpec Tryz.prog w0 85 #[.agg (encFl f).toArray, .int .i64 x] H (Still (.bool (decide (f.node = x))) H) := by
 refine A9 Tryz.func85 E ntmps85 E (Ag (Ab (e_ (Ba (T E) cs_) ?_ E)))
 rintro _ _ ⟨n2, rfl, rfl⟩
 refine y_ (Ad Aj) (Af (Ae (Ag (Ab (y_ (Bi (T E) fa58_1) (y_ (Ai (T E) isAgg3 (by first | exact c_o)) ?_ E) E))))) E
 refine y_ (Ac (T E)) (y_ (B2 (T E) (T E)) (y_ (Ad (T E)) (Af (Ae (Ay (Az E (.tmp (Aa E) .nil) ?_)))) E) E) E
 exact ⟨_, ⟨rfl, rfl⟩, sbt⟩
theorem rup_s {w0 : World} {H : List (Nat × Obj)} (n : Nn) (hn : NetR w0 H n) (f : Flr) (hf : Arr w0 H f.q 1 encI f.links) (hfl : f.links.length ≤ 4611686018427387903) (l : Nat) (hl : l < n.links.length) :
  FSpec Tryz.prog w0 86 #[.agg (encNn n).toArray, .agg (encFl f).toArray, .int .i64 (l : Int)] H (Still (.bool (upF n f l)) H) := by
 refine A9 Tryz.func86 E ntmps86 E (Ag (Ab (e_ (Ba (T E) cs_) ?_ E)))
 rintro _ _ ⟨n3, rfl, rfl⟩
 refine e_ (Ba (T E) cs_) ?_ E
 rintro _ _ ⟨n4, rfl, rfl⟩
 refine y_ (Ad Aj) (Af (Ae (Ag (Ag (Ab (y_ (Ad Aj) (Af (Ae (Aw ?_))) E)))))) E
 refine Cc (X := Nat) (V := fun k => [(7, .int .i64 (k : Nat))]) (C := [(2, _), (3, _), (4, _)]) (φ := fun k => k ≤ f.links.length ∧ ∀ j, j < k → ¬ gd f.links j = (l : Int)) (μ := fun k => f.links.length - k) (x0 := 0) ?_ ⟨Aa E, Aa E, Aa E, trivial⟩ ⟨(by first | exact Aa E | (refine Ak (Aa E) (vint ?_); omega) | (refine Ak (Aa E) ?_; simp; done)), trivial⟩ ?_
 ·exact ⟨Nat.zero_le _, fun j hj => by omega⟩
 rintro k ⟨hk, hno⟩
 refine Ag (Ag (Ab (y_ (Ac (T E)) (y_ (Bc (T E) fa58_0) (y_ (Ai (T E) isAgg42 (by first | exact c_o | exact c_m (hn.links.f0 (i := l) hl E) | exact c_m (hn.links.f (i := l) hl E))) ?_ E) E) E)))
 refine y_ (Bp (T E) runUnderlying42) (y_ (Bu (T E) (T E)) (Af (Ae ?_)) E) E
 first | refine Ar (Aa E) (fun c12 => ?_) (fun c12 => ?_) | refine A6 (Aa E) (fun c12 => ?_) (fun c12 => ?_)
 ·refine A2 (Ae (Ag (Aw (Ag (Ab (y_ (Bc (T E) fa58_0) (y_ (Ai (T E) isAgg42 (by first | exact c_o | exact c_m (hn.links.f0 (i := l) hl E) | exact c_m (hn.links.f (i := l) hl E))) ?_ E) E))))))
  refine y_ (Ac (T E)) (y_ (Be (T E) (T E) runUnderlying42 sizeOf3 (by omega) (by first | exact rfl | exact hf.b (i := k) (by omega) | exact hn.links.b (i := l) hl)) ?_ E) E
  refine y_ (Ai (T E) isAgg3 (by first | exact c_o | exact cell1 ((hf.mono sbt).cs (i := k) (by omega)) | exact c_m (hn.links.f0 (i := l) hl E) | exact c_m (hn.links.f (i := l) hl E))) ?_ E
  refine y_ (Ac (T E)) (y_ (B2 (T E) (T E)) (Af (Ae ?_)) E) E
  first | refine Ar (Aa E) (fun c21 => ?_) (fun c21 => ?_) | refine A6 (Aa E) (fun c21 => ?_) (fun c21 => ?_)
  ·refine Ag (Ab (y_ (Ad Aj) (Af (Ae (Ay (An (Al (Bo (An (Al (Az E (.tmp (Aa E) .nil) ?_))))))))) E))
   have hm : (l : Int) ∈ f.links := by rw [← c21]; exact Bg (by omega)
   exact ⟨_, ⟨vbool (by unfold upF; simp [hm]), rfl⟩, sbt⟩
  ·refine A2 (Bl (Ae (Ab (y_ (Ac (T E)) (y_ (Bt (T E) Aj (by omega)) ?_ E) E))))
   refine y_ (Ad (T E)) (Af ?_) E
   refine Bn (k + 1) ?_ ?_ ⟨(by first | exact Aa E | (refine Ak (Aa E) (vint ?_); omega) | (refine Ak (Aa E) ?_; simp; done)), trivial⟩ ⟨Aa E, Aa E, Aa E, trivial⟩ ?_
   ·refine ⟨by omega, fun j hj => ?_⟩
    by_cases e : j = k
    ·subst e; exact c21
    ·exact hno j (by omega)
   ·first | omega | (simp only []; omega)
   ·exact sbt
 ·refine B4 (A0 (A4 (A3 (Ae (Ag (Ch 21 [(0, true), (1, true), (2, true), (3, true), (4, true), (5, true), (6, true), (7, true), (8, true), (9, true), (10, true), (11, true), (12, true), (13, true), (14, true), (15, true), (16, true), (17, true), (18, true), (19, true), (20, true)] _ mixd (by kernel_rfl) sb0 ?_))))))
  refine o_y E (Bi (T E) C6) (o_y E (Ai (T E) isAgg53 (by first | exact c_o | exact c_m (hn.links.f0 (i := l) hl E) | exact c_m (hn.links.f (i := l) hl E))) ?_ E Ah) E Ah
  refine o_y E (Ac (T E)) (o_y E (Be (T E) (T E) runUnderlying53 sizeOf71 (by omega) (by first | exact rfl | exact hf.b (i := k) (by omega) | exact hn.links.b (i := l) hl)) ?_ E Ah) E Ah
  refine o_y E (Bc (T E) fa71_0) (o_y E (Ai (T E) isAgg3 (by first | exact c_o | exact c_m (hn.links.f0 (i := l) hl E) | exact c_m (hn.links.f (i := l) hl E))) ?_ E Ah) E Ah
  refine o_y E (Bi (T E) fa58_1) (o_y E (Ai (T E) isAgg3 (by first | exact c_o | exact c_m (hn.links.f0 (i := l) hl E) | exact c_m (hn.links.f (i := l) hl E))) ?_ E Ah) E Ah
  refine o_y E (Cu (T E) (T E)) (o_y E (Ac (T E)) ?_ E Ah) E Ah
  first | refine Cy (s := 31) (Aa E) (fun c31 => ?_) (fun c31 => ?_) | refine Dx (s := 31) (Aa E) (fun c31 => ?_) (fun c31 => ?_)
  ·refine o_y E (Bi (T E) C6) (o_y E (Ai (T E) isAgg53 (by first | exact c_o | exact c_m (hn.links.f0 (i := l) hl E) | exact c_m (hn.links.f (i := l) hl E))) ?_ E (Ao E E (Aa E))) E (Ao E E (Aa E))
   refine o_y E (Ac (T E)) (o_y E (Be (T E) (T E) runUnderlying53 sizeOf71 (by omega) (by first | exact rfl | exact hf.b (i := k) (by omega) | exact hn.links.b (i := l) hl)) ?_ E (Ao E E (Aa E))) E (Ao E E (Aa E))
   refine o_y E (Bi (T E) fa71_1) (o_y E (Ai (T E) isAgg3 (by first | exact c_o | exact c_m (hn.links.f0 (i := l) hl E) | exact c_m (hn.links.f (i := l) hl E))) ?_ E (Ao E E (Aa E))) E (Ao E E (Aa E))
   refine o_y E (Bi (T E) fa58_1) (o_y E (Ai (T E) isAgg3 (by first | exact c_o | exact c_m (hn.links.f0 (i := l) hl E) | exact c_m (hn.links.f (i := l) hl E))) ?_ E (Ao E E (Aa E))) E (Ao E E (Aa E))
   refine o_y E (Cu (T E) (T E)) (o_y E (Aq (T E) (T E)) (o_y E (Ad (T E)) (Bx E (Af (Ae (Bh [(6, _)] ⟨Aa E, trivial⟩ (Ay (Az E (.tmp (Aa E) .nil) ?_)))))) E Ah) E Ah) E (Ao E E (Aa E))
   have hm : ¬ (l : Int) ∈ f.links := fun h => by
    obtain ⟨j, hj, e⟩ := List.getElem_of_mem h
    exact hno j (by omega) (by rw [Bv hj]; exact e)
   exact ⟨_, ⟨vbool (by unfold upF; simp [hm, c31]), rfl⟩, sbt⟩
  ·refine o_n E (o_n E (o_n E (o_n E (o_n E (o_n E (o_n E (o_n E (o_n E (o_y E (Au (T E) Aj) (o_y E (Ad (T E)) (Bx E (Af (Ae (Bh [(6, _)] ⟨Aa E, trivial⟩ (Ay (Az E (.tmp (Aa E) .nil) ?_)))))) E Ah) E Ah) E (B8 E E (Aa E))) E (B8 E E (Aa E))) E (B8 E E (Aa E))) E (B8 E E (Aa E))) E (B8 E E (Aa E))) E (B8 E E (Aa E))) E (B8 E E (Aa E))) E (B8 E E (Aa E))) E (B8 E E (Aa E))
   exact ⟨_, ⟨vbool (by unfold upF; simp [c31]), rfl⟩, sbt⟩
end Go.Proofs.YtkdolgnpkjihpaaGreatDoor
namespace Go.Proofs.YtkdolgnpkjihpaaGreatDoor
open _root_.Go.Proofs.Tryz
open Go.RowKit
set_option linter.unusedVariables false
set_option linter.unusedSimpArgs false
theorem rout_s {w0 : World} {H : List (Nat × Obj)} (n : Nn) (hn : NetR w0 H n) (hok : NnOk n) (node : Nat) :
  FSpec Tryz.prog w0 95 #[.agg (encNn n).toArray, .int .i64 (node : Int)] H (fun v H' => ∃ d, (v = slV d (outF n node).length ∧ SlOk d (outF n node).length 1) ∧ H' = slH d ((outF n node).flatMap encU) 3 ++ H) := by
 refine A9 Tryz.func95 E ntmps95 E ?_
 have hfl := hok.fewL
 refine Ag (Ab (e_ (Ba (T E) cs_) ?_ E))
 rintro _ _ ⟨n2, rfl, rfl⟩
 refine y_ (Ad Aj) (Af (Ae (Ag (Ab (y_ (Ad Aj) (Af (Ae (Ag (Ag (Ab (y_ (Ad Aj) (Af (Ae (Aw ?_))) E)))))) E))))) E
 refine Cm (X := Nat × Sl) (V := fun ⟨k, d⟩ => [(6, .int .i64 (k : Nat)), (5, slV d (outK n node k).length)]) (C := [(1, _), (2, _)]) (G := fun ⟨k, d⟩ => slH d ((outK n node k).flatMap encU) 3 ++ ((n2, Cl (encNn n) 56) :: H)) (φ := fun ⟨k, d⟩ => k ≤ n.links.length ∧ SlOk d (outK n node k).length 1) (μ := fun ⟨k, d⟩ => n.links.length - k) (x0 := (0, .nil)) ?_ ⟨Aa rfl, Aa rfl, trivial⟩ ⟨(by first | exact Aa rfl | (refine Ak (Aa rfl) (vint ?_); omega) | (refine Ak (Aa rfl) ?_; simp; done) | (refine Ak (Aa rfl) ?_; exact by rw [he])), (by first | exact Aa rfl | (refine Ak (Aa rfl) (vint ?_); omega) | (refine Ak (Aa rfl) ?_; simp; done) | (refine Ak (Aa rfl) ?_; exact by rw [he])), trivial⟩ sb0 ?_
 ·exact ⟨Nat.zero_le _, rfl⟩
 rintro ⟨k, d⟩ ⟨hk, hd⟩
 refine Ag (Ag (Ab (y_ (Ac (T E)) (y_ (Bi (T E) C6) (y_ (Ai (T E) isAgg53 (by first | exact c_o | exact c_m (hn.links.f0 (i := k) (by omega) E))) ?_ E) E) E)))
 refine y_ (Bp (T E) runUnderlying53) (y_ (Bu (T E) (T E)) (Af (Ae ?_)) E) E
 first | refine Ar (Aa E) (fun c11 => ?_) (fun c11 => ?_) | refine A6 (Aa E) (fun c11 => ?_) (fun c11 => ?_)
 ·refine A2 (Ae (Ag (Aw (Ag (Ab (y_ (Bi (T E) C6) (y_ (Ai (T E) isAgg53 (by first | exact c_o | exact c_m (hn.links.f0 (i := k) (by omega) E))) ?_ E) E))))))
  refine y_ (Ac (T E)) (y_ (Be (T E) (T E) runUnderlying53 sizeOf71 (by omega) (by first | exact rfl | exact hn.links.b (i := k) (by omega))) ?_ E) E
  refine y_ (Bc (T E) fa71_0) (y_ (Ai (T E) isAgg3 (by first | exact c_o | exact c_m (hn.links.f0 (i := k) (by omega) E))) ?_ E) E
  refine y_ (Ac (T E)) (y_ (B2 (T E) (T E)) (Af (Ae ?_)) E) E
  first | refine Ar (Aa E) (fun c21 => ?_) (fun c21 => ?_) | refine A6 (Aa E) (fun c21 => ?_) (fun c21 => ?_)
  ·refine Ab (y_ (Ac (T E)) (y_ (Ac (T E)) (e_ (Ap (.cons (T E) .nil) (Cw _)) ?_ E) E) E)
   rintro _ _ ⟨n24, rfl, rfl⟩
   refine e_ (Cz (k) (by' := 8) (by repeat (first | exact LocL.h | apply LocL.t | apply LocL.a)) (T E) (T E) runUnderlying42 runUnderlying42 sizeOf3 typeInfo3 E zeroValue3 E (fun _ => rfl) E hd (by decide) (by have := outK_len n node k; omega)) ?_ E
   rintro _ _ ⟨d', rfl, hd', rfl⟩
   refine y_ (Ad (T E)) (Af (Bl (Ae (Ab (y_ (Ac (T E)) (y_ (Bt (T E) Aj (by omega)) ?_ E) E))))) E
   refine y_ (Ad (T E)) (Af ?_) E
   have he : outK n node (k + 1) = outK n node k ++ [k] := by rw [outK_succ, if_pos (by omega)]
   refine Bn ((k + 1, d')) ?_ ?_ ⟨(by first | exact Aa E | (refine Ak (Aa E) (vint ?_); omega) | (refine Ak (Aa E) ?_; simp; done) | (refine Ak (Aa E) ?_; exact by rw [he])), (by first | exact Aa E | (refine Ak (Aa E) (vint ?_); omega) | (refine Ak (Aa E) ?_; simp; done) | (refine Ak (Aa E) ?_; exact by rw [he])), trivial⟩ ⟨Aa E, Aa E, trivial⟩ ?_
   ·exact ⟨by omega, by rw [he]; exact hd'⟩
   ·first | omega | (simp only []; omega)
   ·simp only [he]; exact sbt
  ·refine A2 (Bl (Ae (Ab (y_ (Ac (T E)) (y_ (Bt (T E) Aj (by omega)) ?_ E) E))))
   refine y_ (Ad (T E)) (Af ?_) E
   have he : outK n node (k + 1) = outK n node k := by rw [outK_succ, if_neg (by omega)]
   refine Bn ((k + 1, d)) ?_ ?_ ⟨(by first | exact Aa E | (refine Ak (Aa E) (vint ?_); omega) | (refine Ak (Aa E) ?_; simp; done) | (refine Ak (Aa E) ?_; exact by rw [he])), (by first | exact Aa E | (refine Ak (Aa E) (vint ?_); omega) | (refine Ak (Aa E) ?_; simp; done) | (refine Ak (Aa E) ?_; exact by rw [he])), trivial⟩ ⟨Aa E, Aa E, trivial⟩ ?_
   ·exact ⟨by omega, by rw [he]; exact hd⟩
   ·first | omega | (simp only []; omega)
   ·simp only [he]; exact sbt
 ·refine B4 (A0 (A4 (A3 (Ae (Ag (Ab (y_ (Ac (T E)) (y_ (Ad (T E)) (Af (Ae (Ay (Az E (.tmp (Aa E) .nil) ?_)))) E) E)))))))
  have hk2 : k = n.links.length := by omega
  subst hk2
  exact ⟨_, ⟨d, ⟨rfl, hd⟩, rfl⟩, sbt⟩
theorem wkF_skip {n : Nn} {x y : Int} {ls : List Int} {i : Nat} (hi : i < ls.length) (h : wkF n x (ls.take i) = some y) (hn : ¬ (0 ≤ gd ls i ∧ gd ls i < n.links.length ∧ ((gd n.links (gd ls i).toNat).src : Int) = y)) : wkF n x ls = none := by
 refine wkF_none (i := i + 1) n x ?_
 rw [wkF_take n x hi, h, Option.bind_some, if_neg hn]
theorem rwalk_s {w0 : World} {H : List (Nat × Obj)} (n : Nn) (hn : NetR w0 H n) (hok : NnOk n) (x : Int) (ls : List Int) (q : Option Addr) (c : Nat) (hA : Arr w0 H q 1 encI ls) (hlen : ls.length ≤ 9223372036854775807) :
  FSpec Tryz.prog w0 84 #[.agg (encNn n).toArray, .int .i64 x, .slice q ls.length c] H (Still (.tuple #[.int .i64 ((wkF n x ls).getD (-1)), .bool (wkF n x ls).isSome]) H) := by
 refine A9 Tryz.func84 E ntmps84 E ?_
 have hfl := hok.fewL
 refine Ag (Ab (e_ (Ba (T E) cs_) ?_ E))
 rintro _ _ ⟨n3, rfl, rfl⟩
 refine y_ (Ad Aj) (y_ (Ad Aj) (Af (Ae (Ag (Ag (Ab (y_ (Ad Aj) (Af (Ae (Aw ?_))) E)))))) E) E
 refine Cc (X := Nat × Int) (V := fun ⟨i, y⟩ => [(8, .int .i64 (i : Nat)), (1, .int .i64 y)]) (C := [(2, _), (3, _)]) (φ := fun ⟨i, y⟩ => i ≤ ls.length ∧ wkF n x (ls.take i) = some y) (μ := fun ⟨i, y⟩ => ls.length - i) (x0 := (0, x)) ?_ ⟨Aa rfl, Aa rfl, trivial⟩ ⟨(by first | exact Aa rfl | (refine Ak (Aa rfl) (vint ?_); omega) | (refine Ak (Aa rfl) ?_; simp; done)), (by first | exact Aa rfl | (refine Ak (Aa rfl) (vint ?_); omega) | (refine Ak (Aa rfl) ?_; simp; done)), trivial⟩ ?_
 ·exact ⟨Nat.zero_le _, rfl⟩
 rintro ⟨i, y⟩ ⟨hi, hw⟩
 refine Ag (Ag (Ab (y_ (Ac (T E)) (y_ (Ac (T E)) (y_ (Bp (T E) runUnderlying42) (y_ (Bu (T E) (T E)) (Af (Ae ?_)) E) E) E) E)))
 first | refine Ar (Aa E) (fun c13 => ?_) (fun c13 => ?_) | refine A6 (Aa E) (fun c13 => ?_) (fun c13 => ?_)
 ·refine A2 (Ae (Ag (Aw (Ag (Ab (y_ (Ac (T E)) (y_ (Ac (T E)) (y_ (Be (T E) (T E) runUnderlying42 sizeOf3 (by omega) (by first | exact rfl | exact hA.b (i := i) (by omega) | exact hn.links.b (i := (gd ls i).toNat) (by omega))) ?_ E) E) E))))))
  refine y_ (Ai (T E) isAgg3 (by first | exact c_o | exact cell1 ((hA.mono sbt).cs (i := i) (by omega)) | exact c_m (hn.links.f0 (i := (gd ls i).toNat) (by omega) E) | exact c_m (hn.links.f (i := (gd ls i).toNat) (by omega) E))) ?_ E
  refine y_ (Ad (T E)) (Af (Ae (Ag (Ag (Ab (y_ (Ac (T E)) (y_ (Bu (T E) Aj) (y_ (Ac (T E)) ?_ E) E) E)))))) E
  first | refine Bz (s := 22) (Aa E) (fun c22 => ?_) (fun c22 => ?_) | refine Cf (s := 22) (Aa E) (fun c22 => ?_) (fun c22 => ?_)
  ·refine Bm (Bm (Bm (Bm (Bm (y_ (Aq (T E) Aj) (y_ (Ac (T E)) (Bm (Bm (Bm (Bm (Bm (Bm (Bm (Bm (y_ (Aq (T E) Aj) (Af (Ae (Bh [(2, _), (3, _), (8, _), (9, _), (38, _)] ⟨Aa E, Aa E, Aa E, Aa E, Aa E, trivial⟩ ?_))) E) E E E E) E E E E) E E E E) E E E E) E E E E) E E E E) E E E E) E E E E) E) E) E E E E) E E E E) E E E E) E E E E) E E E E
   first | refine A8 (Aa E) ?_ | refine A8 (Ak (Aa E) (vbool (decide_eq_true c38))) ?_
   refine Ag (Ab (y_ (Ad Aj) (y_ (Ad Aj) (Af (Ae (Ay (Al (An (Al (Bo (An (Al (Az E (.tmp (Aa E) (.tmp (Aa E) .nil)) ?_)))))))))) E) E))
   have hz : wkF n x ls = none := wkF_skip (i := i) (by omega) hw (by omega)
   rw [hz]
   exact ⟨_, ⟨rfl, rfl⟩, sbt⟩
  ·refine Ax (Ac (T E)) E (Ao E E (Aa E)) (Ax (Bi (T E) C6) E (Ao E E (Aa E)) (Ax (Ai (T E) isAgg53 (by first | exact c_o | exact c_m (hn.links.f0 (i := (gd ls i).toNat) (by omega) E) | exact c_m (hn.links.f (i := (gd ls i).toNat) (by omega) E))) E (Ao E E (Aa E)) ?_))
   refine Ax (Bp (T E) runUnderlying53) E (Ao E E (Aa E)) (Ax (C2 (T E) (T E)) E (Ao E E (Aa E)) (y_ (Au (T E) (T E)) (y_ (Ac (T E)) ?_ E) E))
   first | refine Bz (s := 29) (Aa E) (fun c29 => ?_) (fun c29 => ?_) | refine Cf (s := 29) (Aa E) (fun c29 => ?_) (fun c29 => ?_)
   ·refine Bm (Bm (Bm (Bm (Bm (Bm (Bm (Bm (y_ (Aq (T E) Aj) (Af (Ae (Bh [(2, _), (3, _), (8, _), (9, _), (38, _)] ⟨Aa E, Aa E, Aa E, Aa E, Aa E, trivial⟩ ?_))) E) E E E E) E E E E) E E E E) E E E E) E E E E) E E E E) E E E E) E E E E
    first | refine A8 (Aa E) ?_ | refine A8 (Ak (Aa E) (vbool (decide_eq_true c38))) ?_
    refine Ag (Ab (y_ (Ad Aj) (y_ (Ad Aj) (Af (Ae (Ay (Al (An (Al (Bo (An (Al (Az E (.tmp (Aa E) (.tmp (Aa E) .nil)) ?_)))))))))) E) E))
    have hz : wkF n x ls = none := wkF_skip (i := i) (by omega) hw (by omega)
    rw [hz]
    exact ⟨_, ⟨rfl, rfl⟩, sbt⟩
   ·refine Ax (Bi (T E) C6) E (Ao E E (Aa E)) (Ax (Ai (T E) isAgg53 (by first | exact c_o | exact c_m (hn.links.f0 (i := (gd ls i).toNat) (by omega) E) | exact c_m (hn.links.f (i := (gd ls i).toNat) (by omega) E))) E (Ao E E (Aa E)) ?_)
    refine Ax (Ac (T E)) E (Ao E E (Aa E)) (Ax (Ck (T E) (T E) runUnderlying53 sizeOf71 (by omega) (by first | exact rfl | exact hA.b (i := i) (by omega) | exact hn.links.b (i := (gd ls i).toNat) (by omega))) E (Ao E E (Aa E)) ?_)
    refine Ax (Bc (T E) fa71_0) E (Ao E E (Aa E)) (Ax (Ai (T E) isAgg3 (by first | exact c_o | exact c_m (hn.links.f0 (i := (gd ls i).toNat) (by omega) E) | exact c_m (hn.links.f (i := (gd ls i).toNat) (by omega) E))) E (Ao E E (Aa E)) ?_)
    refine Ax (Ac (T E)) E (Ao E E (Aa E)) (Ax (Cu (T E) (T E)) E (Ao E E (Aa E)) (y_ (Au (T E) (T E)) (Af (Ae (Bh [(2, _), (3, _), (8, _), (9, _), (38, _)] ⟨Aa E, Aa E, Aa E, Aa E, Aa E, trivial⟩ ?_))) E))
    first | refine Ar (Aa E) (fun c38 => ?_) (fun c38 => ?_) | refine A6 (Aa E) (fun c38 => ?_) (fun c38 => ?_)
    ·refine Ag (Ab (y_ (Ad Aj) (y_ (Ad Aj) (Af (Ae (Ay (Al (An (Al (Bo (An (Al (Az E (.tmp (Aa E) (.tmp (Aa E) .nil)) ?_)))))))))) E) E))
     have hz : wkF n x ls = none := wkF_skip (i := i) (by omega) hw (by omega)
     rw [hz]
     exact ⟨_, ⟨rfl, rfl⟩, sbt⟩
    ·refine A2 (Ae (Ab (y_ (Bi (T E) C6) (y_ (Ai (T E) isAgg53 (by first | exact c_o | exact c_m (hn.links.f0 (i := (gd ls i).toNat) (by omega) E) | exact c_m (hn.links.f (i := (gd ls i).toNat) (by omega) E))) ?_ E) E)))
     refine y_ (Ac (T E)) (y_ (Ck (T E) (T E) runUnderlying53 sizeOf71 (by omega) (by first | exact rfl | exact hA.b (i := i) (by omega) | exact hn.links.b (i := (gd ls i).toNat) (by omega))) ?_ E) E
     refine y_ (Bi (T E) fa71_1) (y_ (Ai (T E) isAgg3 (by first | exact c_o | exact c_m (hn.links.f0 (i := (gd ls i).toNat) (by omega) E) | exact c_m (hn.links.f (i := (gd ls i).toNat) (by omega) E))) ?_ E) E
     refine y_ (Ad (T E)) (Af (Bl (Ae (Ab (y_ (Ac (T E)) (y_ (Bt (T E) Aj (by omega)) ?_ E) E))))) E
     refine y_ (Ad (T E)) (Af ?_) E
     refine Bn ((i + 1, ((gd n.links (gd ls i).toNat).dst : Int))) ?_ ?_ ⟨(by first | exact Aa E | (refine Ak (Aa E) (vint ?_); omega) | (refine Ak (Aa E) ?_; simp; done)), (by first | exact Aa E | (refine Ak (Aa E) (vint ?_); omega) | (refine Ak (Aa E) ?_; simp; done)), trivial⟩ ⟨Aa E, Aa E, trivial⟩ ?_
     ·exact ⟨by omega, by rw [wkF_take n x (by omega), hw, Option.bind_some, if_pos ⟨by omega, by omega, by omega⟩]⟩
     ·first | omega | (simp only []; omega)
     ·exact sbt
 ·refine B4 (A0 (A4 (A3 (Ae (Ag (Ab (y_ (Ac (T E)) (y_ (Ad (T E)) (y_ (Ad Aj) (Af (Ae (Ay (Az E (.tmp (Aa E) (.tmp (Aa E) .nil)) ?_)))) E) E) E)))))))
  have hz : wkF n x ls = some y := by rw [← hw, List.take_of_length_le (by omega)]
  rw [hz]
  exact ⟨_, ⟨rfl, rfl⟩, sbt⟩
theorem rnames_s {w0 : World} {H : List (Nat × Obj)} (n : Nn) (hn : NetR w0 H n) (hok : NnOk n) (x : Nat) (hx : x < n.nodes.length) (ls : List Int) (q : Option Addr) (c : Nat) (hA : Arr w0 H q 1 encI ls) (hlen : ls.length ≤ 1000) (hv : ∀ i, i < ls.length → 0 ≤ gd ls i ∧ gd ls i < n.links.length) :
  FSpec Tryz.prog w0 87 #[.agg (encNn n).toArray, .int .i64 (x : Int), .slice q ls.length c] H (fun v H' => ∃ d, (v = slV d (namesF n x ls).length ∧ SlOk d (namesF n x ls).length 1) ∧ H' = slH d ((namesF n x ls).flatMap encS) 9 ++ H) := by
 refine A9 Tryz.func87 E ntmps87 E (Ag (Ab (e_ (Ba (T E) cs_) ?_ E)))
 rintro _ _ ⟨n3, rfl, rfl⟩
 refine y_ (Ad Aj) (Af (Ae (Ag (Ab (y_ (Bc (T E) C8) (y_ (Ai (T E) isAgg52 (by first | exact c_o | exact c_m (hn.nodes.f0 (i := x) hx E) | exact c_m (hn.links.f (i := (gd ls i).toNat) (by omega) E) | exact c_m (hn.nodes.f0 (i := (gd n.links (gd ls i).toNat).dst) hvd E))) ?_ E) E))))) E
 refine y_ (Ac (T E)) (y_ (Be (T E) (T E) runUnderlying52 sizeOf138 (by omega) (by first | exact rfl | exact hn.nodes.b (i := x) hx | exact hA.b (i := i) (by omega) | exact hn.links.b (i := (gd ls i).toNat) (by omega) | exact hn.nodes.b (i := (gd n.links (gd ls i).toNat).dst) hvd)) ?_ E) E
 refine y_ (Bc (T E) Dw) (y_ (Ai (T E) isAgg9 (by first | exact c_o | exact c_m (hn.nodes.f0 (i := x) hx E) | exact c_m (hn.links.f (i := (gd ls i).toNat) (by omega) E) | exact c_m (hn.nodes.f0 (i := (gd n.links (gd ls i).toNat).dst) hvd E))) ?_ E) E
 refine e_ (Ap (.cons (T E) .nil) (De _)) ?_ E
 rintro _ _ ⟨n15, rfl, rfl⟩
 refine y_ (Ad (T E)) (Af (Ae (Ag (Ag (Ab (y_ (Ad Aj) (Af (Ae (Aw ?_))) E)))))) E
 refine Cm (X := Nat × Sl) (V := fun ⟨i, d⟩ => [(8, .int .i64 (i : Nat)), (7, slV d (namesF n x (ls.take i)).length)]) (C := [(2, _), (3, _)]) (G := fun ⟨i, d⟩ => slH d ((namesF n x (ls.take i)).flatMap encS) 9 ++ ((n3, Cl (encNn n) 56) :: H)) (φ := fun ⟨i, d⟩ => i ≤ ls.length ∧ SlOk d (namesF n x (ls.take i)).length 1) (μ := fun ⟨i, d⟩ => ls.length - i) (x0 := (0, .blk n15 1 [])) ?_ ⟨Aa rfl, Aa rfl, trivial⟩ ⟨(by first | exact Aa rfl | (refine Ak (Aa rfl) (vint ?_); omega) | (refine Ak (Aa rfl) ?_; simp; done) | (refine Ak (Aa rfl) ?_; exact by rw [hnt])), (by first | exact Aa rfl | (refine Ak (Aa rfl) (vint ?_); omega) | (refine Ak (Aa rfl) ?_; simp; done) | (refine Ak (Aa rfl) ?_; exact by rw [hnt])), trivial⟩ sb0 ?_
 ·exact ⟨Nat.zero_le _, ⟨Nat.le_refl _, rfl⟩⟩
 rintro ⟨i, d⟩ ⟨hi, hd⟩
 refine Ag (Ag (Ab (y_ (Ac (T E)) (y_ (Ac (T E)) (y_ (Bp (T E) runUnderlying42) (y_ (Bu (T E) (T E)) (Af (Ae ?_)) E) E) E) E)))
 first | refine Ar (Aa E) (fun c19 => ?_) (fun c19 => ?_) | refine A6 (Aa E) (fun c19 => ?_) (fun c19 => ?_)
 ·have hvi := hv i (by omega)
  have hvd := (hok.ends _ (Bg (l := n.links) (i := (gd ls i).toNat) (by omega))).2
  refine A2 (Ae (Ag (Aw (Ch 16 [(0, true), (1, true), (2, true), (3, true), (4, true), (5, true), (6, true), (7, true), (8, true), (9, true), (10, true), (11, true), (12, true), (13, true), (14, true), (15, false)] _ mixd (by kernel_rfl) sb0 ?_))))
  refine o_y E (Ac (T E)) (o_y E (Bc (T E) C8) (o_y E (Ai (T E) isAgg52 (by first | exact c_o | exact c_m (hn.nodes.f0 (i := x) hx E) | exact c_m (hn.links.f (i := (gd ls i).toNat) (by omega) E) | exact c_m (hn.nodes.f0 (i := (gd n.links (gd ls i).toNat).dst) hvd E))) ?_ E Ah) E Ah) E Ah
  refine o_y E (Bi (T E) C6) (o_y E (Ai (T E) isAgg53 (by first | exact c_o | exact c_m (hn.nodes.f0 (i := x) hx E) | exact c_m (hn.links.f (i := (gd ls i).toNat) (by omega) E) | exact c_m (hn.nodes.f0 (i := (gd n.links (gd ls i).toNat).dst) hvd E))) ?_ E Ah) E Ah
  refine o_y E (Ac (T E)) (o_y E (Ac (T E)) (o_y E (Be (T E) (T E) runUnderlying42 sizeOf3 (by omega) (by first | exact rfl | exact hn.nodes.b (i := x) hx | exact hA.b (i := i) (by omega) | exact hn.links.b (i := (gd ls i).toNat) (by omega) | exact hn.nodes.b (i := (gd n.links (gd ls i).toNat).dst) hvd)) ?_ E Ah) E Ah) E Ah
  refine o_y E (Ai (T E) isAgg3 (by first | exact c_o | exact cell1 ((hA.mono sbt).cs (i := i) (by omega)) | exact c_m (hn.nodes.f0 (i := x) hx E) | exact c_m (hn.links.f (i := (gd ls i).toNat) (by omega) E) | exact c_m (hn.nodes.f0 (i := (gd n.links (gd ls i).toNat).dst) hvd E))) ?_ E Ah
  refine o_y E (Ck (T E) (T E) runUnderlying53 sizeOf71 (by omega) (by first | exact rfl | exact hn.nodes.b (i := x) hx | exact hA.b (i := i) (by omega) | exact hn.links.b (i := (gd ls i).toNat) (by omega) | exact hn.nodes.b (i := (gd n.links (gd ls i).toNat).dst) hvd)) ?_ E Ah
  refine o_y E (Bi (T E) fa71_1) (o_y E (Ai (T E) isAgg3 (by first | exact c_o | exact c_m (hn.nodes.f0 (i := x) hx E) | exact c_m (hn.links.f (i := (gd ls i).toNat) (by omega) E) | exact c_m (hn.nodes.f0 (i := (gd n.links (gd ls i).toNat).dst) hvd E))) ?_ E Ah) E Ah
  refine o_y E (Ck (T E) (T E) runUnderlying52 sizeOf138 (by omega) (by first | exact rfl | exact hn.nodes.b (i := x) hx | exact hA.b (i := i) (by omega) | exact hn.links.b (i := (gd ls i).toNat) (by omega) | exact hn.nodes.b (i := (gd n.links (gd ls i).toNat).dst) hvd)) ?_ E Ah
  refine o_y E (Bc (T E) Dw) (o_y E (Ai (T E) isAgg9 (by first | exact c_o | exact c_m (hn.nodes.f0 (i := x) hx E) | exact c_m (hn.links.f (i := (gd ls i).toNat) (by omega) E) | exact c_m (hn.nodes.f0 (i := (gd n.links (gd ls i).toNat).dst) hvd E))) ?_ E Ah) E Ah
  refine o_e E (Ap (.cons (T E) .nil) (De _)) ?_ E Ah
  rintro _ _ ⟨n37, rfl, rfl⟩
  refine ⟨sbt, (Bx E (e_ (Cz (nmF n (gd n.links (gd ls i).toNat).dst) (by' := 16) (l := namesF n x (ls.take i)) (by repeat (first | exact LocL.h | apply LocL.t | apply LocL.a)) (T E) (T E) runUnderlying25 runUnderlying25 sizeOf9 typeInfo9 E zeroValue9 E (fun _ => rfl) E hd (by decide) (by have := namesF_len n x (ls.take i); rw [List.length_take] at this; omega)) ?_ E))⟩
  rintro _ _ ⟨d', rfl, hd', rfl⟩
  refine y_ (Ad (T E)) (Af (Bl (Ae (Bh [(2, _), (3, _), (7, _), (8, _)] ⟨Aa E, Aa E, Aa E, Aa E, trivial⟩ (Ab (y_ (Ac (T E)) (y_ (Bt (T E) Aj (by omega)) ?_ E) E)))))) E
  refine y_ (Ad (T E)) (Af ?_) E
  have hnt := namesF_take (n := n) (x := x) (ls := ls) (i := i) (by omega)
  refine Bn ((i + 1, d')) ?_ ?_ ⟨(by first | exact Aa E | (refine Ak (Aa E) (vint ?_); omega) | (refine Ak (Aa E) ?_; simp; done) | (refine Ak (Aa E) ?_; exact by rw [hnt])), (by first | exact Aa E | (refine Ak (Aa E) (vint ?_); omega) | (refine Ak (Aa E) ?_; simp; done) | (refine Ak (Aa E) ?_; exact by rw [hnt])), trivial⟩ ⟨Aa E, Aa E, trivial⟩ ?_
  ·exact ⟨by omega, by rw [hnt]; exact hd'⟩
  ·first | omega | (simp only []; omega)
  ·simp only [hnt]; exact sbt
 ·refine B4 (A0 (A4 (A3 (Ae (Ag (Ab (y_ (Ac (T E)) (y_ (Ad (T E)) (Af (Ae (Ay (Az E (.tmp (Aa E) .nil) ?_)))) E) E)))))))
  have he : ls.take i = ls := List.take_of_length_le (by omega)
  refine ⟨slH d ((namesF n x (ls.take i)).flatMap encS) 9 ++ H, ?_, sbt⟩
  rw [he] at hd ⊢
  exact ⟨d, ⟨rfl, hd⟩, rfl⟩
def befF (a b : Int × Int) : Bool := decide (a.1 < b.1 ∨ (a.1 = b.1 ∧ a.2 < b.2))
theorem before_s {w0 : World} {H : List (Nat × Obj)} (a b : Int × Int) :
  FSpec Tryz.prog w0 91 #[.agg (encPI a).toArray, .agg (encPI b).toArray] H (Still (.bool (befF a b)) H) := by
 refine A9 Tryz.func91 E ntmps91 E (Ag (Ab (e_ (Ba (T E) cs_) ?_ E)))
 rintro _ _ ⟨n2, rfl, rfl⟩
 refine e_ (Ba (T E) cs_) ?_ E
 rintro _ _ ⟨n3, rfl, rfl⟩
 refine y_ (Ad Aj) (Af (Ae (Ag (Ab (y_ (Bc (T E) Dm) (y_ (Ai (T E) isAgg3 (by first | exact c_o)) ?_ E) E))))) E
 refine y_ (Bc (T E) Dm) (y_ (Ai (T E) isAgg3 (by first | exact c_o)) ?_ E) E
 refine y_ (Bu (T E) (T E)) (y_ (Ac (T E)) ?_ E) E
 first | refine Bz (s := 10) (Aa E) (fun c10 => ?_) (fun c10 => ?_) | refine Cf (s := 10) (Aa E) (fun c10 => ?_) (fun c10 => ?_)
 ·refine Bm (Bm (Bm (Bm (Bm (Bm (n_u (n_u (n_u (n_u (n_u (Bm (y_ (Aq (T E) Aj) (y_ (Ad (T E)) (Af (Ae (Ay (Az E (.tmp (Aa E) .nil) ?_)))) E) E) E E E E) E E E E) E E E E) E E E E) E E E E) E E E E) E E E E) E E E E) E E E E) E E E E) E E E E) E E E E
  first | exact ⟨_, ⟨vbool (by unfold befF; symm; exact decide_eq_true (by omega)), rfl⟩, sbt⟩ | exact ⟨_, ⟨vbool (by unfold befF; symm; exact decide_eq_false (by omega)), rfl⟩, sbt⟩ | exact ⟨_, ⟨vbool (by unfold befF; exact decide_eq_decide.2 (by omega)), rfl⟩, sbt⟩
 ·refine Ax (Bc (T E) Dm) E (Ao E E (Aa E)) (Ax (Ai (T E) isAgg3 (by first | exact c_o)) E (Ao E E (Aa E)) ?_)
  refine Ax (Bc (T E) Dm) E (Ao E E (Aa E)) (Ax (Ai (T E) isAgg3 (by first | exact c_o)) E (Ao E E (Aa E)) ?_)
  refine Ax (B2 (T E) (T E)) E (Ao E E (Aa E)) (Ax (Ac (T E)) E (Ao E E (Aa E)) ?_)
  first | refine Bz (s := 16) (Aa E) (fun c16 => ?_) (fun c16 => ?_) | refine Cf (s := 16) (Aa E) (fun c16 => ?_) (fun c16 => ?_)
  ·refine Ax (Bi (T E) Du) E (Ao E E (Aa E)) (Ax (Ai (T E) isAgg3 (by first | exact c_o)) E (Ao E E (Aa E)) ?_)
   refine Ax (Bi (T E) Du) E (Ao E E (Aa E)) (Ax (Ai (T E) isAgg3 (by first | exact c_o)) E (Ao E E (Aa E)) ?_)
   refine Ax (Bu (T E) (T E)) E (Ao E E (Aa E)) (Ax (Aq (T E) (T E)) E (Ao E E (Aa E)) (y_ (Au (T E) (T E)) (y_ (Ad (T E)) (Af (Ae (Ay (Az E (.tmp (Aa E) .nil) ?_)))) E) E))
   first | exact ⟨_, ⟨vbool (by unfold befF; symm; exact decide_eq_true (by omega)), rfl⟩, sbt⟩ | exact ⟨_, ⟨vbool (by unfold befF; symm; exact decide_eq_false (by omega)), rfl⟩, sbt⟩ | exact ⟨_, ⟨vbool (by unfold befF; exact decide_eq_decide.2 (by omega)), rfl⟩, sbt⟩
  ·refine Bs (Bs (Bs (Bs (Bs (Ax (Au (T E) Aj) E (Ao E E (Aa E)) (y_ (Au (T E) (T E)) (y_ (Ad (T E)) (Af (Ae (Ay (Az E (.tmp (Aa E) .nil) ?_)))) E) E)) E E E E) E E E E) E E E E) E E E E) E E E E
   first | exact ⟨_, ⟨vbool (by unfold befF; symm; exact decide_eq_true (by omega)), rfl⟩, sbt⟩ | exact ⟨_, ⟨vbool (by unfold befF; symm; exact decide_eq_false (by omega)), rfl⟩, sbt⟩ | exact ⟨_, ⟨vbool (by unfold befF; exact decide_eq_decide.2 (by omega)), rfl⟩, sbt⟩
theorem in_s {w0 : World} {H : List (Nat × Obj)} (l : List (Int × Int)) (q : Option Addr) (c : Nat) (hA : Arr w0 H q 2 encPI l) (hlen : l.length ≤ 1000000) (p : Int × Int) :
  FSpec Tryz.prog w0 94 #[.slice q l.length c, .agg (encPI p).toArray] H (Still (.bool (decide (p ∈ l))) H) := by
 refine A9 Tryz.func94 E ntmps94 E (Ag (Ab (e_ (Ba (T E) cs_) ?_ E)))
 rintro _ _ ⟨n3, rfl, rfl⟩
 refine y_ (Ad Aj) (Af (Ae (Ag (Ag (Ab (y_ (Ad Aj) (Af (Ae (Aw ?_))) E)))))) E
 refine Cc (X := Nat) (V := fun k => [(5, .int .i64 (k : Nat))]) (C := [(0, _), (3, _)]) (φ := fun k => k ≤ l.length ∧ ∀ j, j < k → ¬ gd l j = p) (μ := fun k => l.length - k) (x0 := 0) ?_ ⟨Aa E, Aa E, trivial⟩ ⟨(by first | exact Aa E | (refine Ak (Aa E) (vint ?_); omega) | (refine Ak (Aa E) ?_; simp; done)), trivial⟩ ?_
 ·exact ⟨Nat.zero_le _, fun j hj => by omega⟩
 rintro k ⟨hk, hno⟩
 refine Ag (Ag (Ab (y_ (Ac (T E)) (y_ (Ac (T E)) (y_ (Bp (T E) runUnderlying59) (y_ (Bu (T E) (T E)) (Af (Ae ?_)) E) E) E) E)))
 first | refine Ar (Aa E) (fun c9 => ?_) (fun c9 => ?_) | refine A6 (Aa E) (fun c9 => ?_) (fun c9 => ?_)
 ·refine A2 (Ae (Ag (Aw (Ag (Ch 6 [(0, true), (1, true), (2, true), (3, true), (4, true), (5, true)] _ mixd (by kernel_rfl) sb0 ?_)))))
  refine o_y E (Ac (T E)) (o_y E (Ac (T E)) (o_y E (Be (T E) (T E) runUnderlying59 sizeOf74 (by omega) (by first | exact rfl | exact hA.b (i := k) (by omega))) ?_ E Ah) E Ah) E Ah
  refine o_y E (Am (T E) isAgg74 sizeOf74 E (by first | exact (hA.mono sbt).cs (i := k) (by omega) | exact Bb)) ?_ E Ah
  refine o_y E (Am (T E) isAgg74 sizeOf74 E (by first | exact Bb)) ?_ E Ah
  refine o_y E (yl_eqA (T E) (T E) eqGuardType74 (eqPl _ _)) (Bx E (Af (Ae ?_))) E Ah
  first | refine Ar (Aa E) (fun c17 => ?_) (fun c17 => ?_) | refine A6 (Aa E) (fun c17 => ?_) (fun c17 => ?_)
  ·refine Ag (Ab (y_ (Ad Aj) (Af (Ae (Ay (An (Al (Bo (An (Al (Az E (.tmp (Aa E) .nil) ?_))))))))) E))
   exact ⟨_, ⟨vbool (by symm; exact decide_eq_true (mem_gdP.2 ⟨k, by omega, c17.symm⟩)), rfl⟩, sbt⟩
  ·refine A2 (Bl (Ae (Ab (y_ (Ac (T E)) (y_ (Bt (T E) Aj (by omega)) ?_ E) E))))
   refine y_ (Ad (T E)) (Af ?_) E
   refine Bn (k + 1) ?_ ?_ ⟨(by first | exact Aa E | (refine Ak (Aa E) (vint ?_); omega) | (refine Ak (Aa E) ?_; simp; done)), trivial⟩ ⟨Aa E, Aa E, trivial⟩ ?_
   ·refine ⟨by omega, fun j hj => ?_⟩
    by_cases e : j = k
    ·subst e; exact fun h => c17 h.symm
    ·exact hno j (by omega)
   ·first | omega | (simp only []; omega)
   ·exact sbt
 ·refine B4 (A0 (A4 (A3 (Ae (Ag (Ab (y_ (Ad Aj) (Af (Ae (Ay (Az E (.tmp (Aa E) .nil) ?_)))) E)))))))
  exact ⟨_, ⟨vbool (by symm; exact decide_eq_false fun h => by obtain ⟨j, h1, h2⟩ := mem_gdP.1 h; exact hno j (by omega) h2), rfl⟩, sbt⟩
theorem list_eq {α : Type} [Inhabited α] {a b : List α} (hl : a.length = b.length) (h : ∀ j, j < a.length → gd a j = gd b j) : a = b :=
 List.ext_getElem hl fun j h1 h2 => by rw [← Bv h1, ← Bv h2]; exact h j h1
theorem samePl_s {w0 : World} {H : List (Nat × Obj)} (l : List (Int × Int)) (q : Option Addr) (c : Nat) (hA : Arr w0 H q 2 encPI l) (hlen : l.length ≤ 1000000) (l2 : List (Int × Int)) (q2 : Option Addr) (c2 : Nat) (hB : Arr w0 H q2 2 encPI l2) :
  FSpec Tryz.prog w0 34 #[.slice q l.length c, .slice q2 l2.length c2] H (Still (.bool (decide (l = l2))) H) := by
 refine A9 Tryz.func34 E ntmps34 E (Ag (Ab (y_ (Ad Aj) (Af (Ae (Ag (Ag (Ab (y_ (Ac (T E)) (y_ (Bp (T E) runUnderlying59) (y_ (Ac (T E)) (y_ (Bp (T E) runUnderlying59) (y_ (Cu (T E) (T E)) (Af (Ae ?_)) E) E) E) E) E)))))) E)))
 first | refine Ar (Aa E) (fun c10 => ?_) (fun c10 => ?_) | refine A6 (Aa E) (fun c10 => ?_) (fun c10 => ?_)
 ·refine Ag (Ab (y_ (Ad Aj) (Af (Ae (Ay (Al (Az E (.tmp (Aa E) .nil) ?_))))) E))
  exact ⟨_, ⟨vbool (by symm; exact decide_eq_false fun h => by subst h; omega), rfl⟩, sbt⟩
 ·refine A2 (Ae (Ag (Ag (Ab (y_ (Ad Aj) (Af (Ae (Aw ?_))) E)))))
  refine Cc (X := Nat) (V := fun k => [(5, .int .i64 (k : Nat))]) (C := [(0, _), (1, _)]) (φ := fun k => k ≤ l.length ∧ ∀ j, j < k → gd l j = gd l2 j) (μ := fun k => l.length - k) (x0 := 0) ?_ ⟨Aa E, Aa E, trivial⟩ ⟨(by first | exact Aa E | (refine Ak (Aa E) (vint ?_); omega) | (refine Ak (Aa E) ?_; simp; done)), trivial⟩ ?_
  ·exact ⟨Nat.zero_le _, fun j hj => by omega⟩
  rintro k ⟨hk, hag⟩
  refine Ag (Ag (Ab (y_ (Ac (T E)) (y_ (Ac (T E)) (y_ (Bp (T E) runUnderlying59) (y_ (Bu (T E) (T E)) (Af (Ae ?_)) E) E) E) E)))
  first | refine Ar (Aa E) (fun c14 => ?_) (fun c14 => ?_) | refine A6 (Aa E) (fun c14 => ?_) (fun c14 => ?_)
  ·refine A2 (Ae (Ag (Aw (Ag (Ch 9 [(0, true), (1, true), (2, true), (3, true), (4, true), (5, true), (6, true), (7, true), (8, true)] _ mixd (by kernel_rfl) sb0 ?_)))))
   refine o_y E (Ac (T E)) (o_y E (Ac (T E)) (o_y E (Be (T E) (T E) runUnderlying59 sizeOf74 (by omega) (by first | exact rfl | exact hA.b (i := k) (by omega) | exact hB.b (i := k) (by omega))) ?_ E Ah) E Ah) E Ah
   refine o_y E (Am (T E) isAgg74 sizeOf74 E (by first | exact (hA.mono sbt).cs (i := k) (by omega) | exact Bb)) ?_ E Ah
   refine o_y E (Ac (T E)) (o_y E (Ac (T E)) (o_y E (Be (T E) (T E) runUnderlying59 sizeOf74 (by omega) (by first | exact rfl | exact hA.b (i := k) (by omega) | exact hB.b (i := k) (by omega))) ?_ E Ah) E Ah) E Ah
   refine o_y E (Am (T E) isAgg74 sizeOf74 E (by first | exact (hB.mono sbt).cs (i := k) (by omega) | exact Bb)) ?_ E Ah
   refine o_y E (yl_neqA (T E) (T E) eqGuardType74 (eqPl _ _)) (Bx E (Af (Ae ?_))) E Ah
   first | refine Ar (Aa E) (fun c25 => ?_) (fun c25 => ?_) | refine A6 (Aa E) (fun c25 => ?_) (fun c25 => ?_)
   ·refine Ag (Ab (y_ (Ad Aj) (Af (Ae (Ay (An (Al (Bo (An (Al (Az E (.tmp (Aa E) .nil) ?_))))))))) E))
    exact ⟨_, ⟨vbool (by symm; exact decide_eq_false fun h => by subst h; exact c25 rfl), rfl⟩, sbt⟩
   ·refine A2 (Bl (Ae (Ab (y_ (Ac (T E)) (y_ (Bt (T E) Aj (by omega)) ?_ E) E))))
    refine y_ (Ad (T E)) (Af ?_) E
    refine Bn (k + 1) ?_ ?_ ⟨(by first | exact Aa E | (refine Ak (Aa E) (vint ?_); omega) | (refine Ak (Aa E) ?_; simp; done)), trivial⟩ ⟨Aa E, Aa E, trivial⟩ ?_
    ·refine ⟨by omega, fun j hj => ?_⟩
     by_cases e : j = k
     ·subst e; exact (Decidable.not_not.1 c25).symm
     ·exact hag j (by omega)
    ·first | omega | (simp only []; omega)
    ·exact sbt
  ·refine B4 (A0 (A4 (A3 (Ae (Ag (Ab (y_ (Ad Aj) (Af (Ae (Ay (Az E (.tmp (Aa E) .nil) ?_)))) E)))))))
   exact ⟨_, ⟨vbool (by symm; exact decide_eq_true (list_eq (by omega) fun j hj => hag j (by omega))), rfl⟩, sbt⟩
theorem rholds_s {w0 : World} {H : List (Nat × Obj)} (n : Nn) (hn : NetR w0 H n) (hok : NnOk n) (f : Flr) (hf : Arr w0 H f.q 1 encI f.links) (hfl : f.links.length ≤ 4611686018427387903) (m : Rxm) (e : Re) (hI : Is m e) (hM : RxM w0 H m) (hlv : e.lv ≤ 64) (x to : Nat) (hx : x < n.nodes.length) (ls : List Int) (q : Option Addr) (c : Nat) (hA : Arr w0 H q 1 encI ls) (hlen : ls.length ≤ 50) :
  FSpec Tryz.prog w0 33 #[.agg (encNn n).toArray, .agg (encFl f).toArray, .agg (encRx m).toArray, .int .i64 (x : Int), .int .i64 (to : Int), .slice q ls.length c] H (fun v H' => v = .bool (holdsF n f e x to ls) ∧ H' = H) := by
 refine A9 Tryz.func33 E ntmps33 E (Ag (Ab (e_ (Ba (T E) cs_) ?_ E)))
 rintro _ _ ⟨n6, rfl, rfl⟩
 refine e_ (Ba (T E) cs_) ?_ E
 rintro _ _ ⟨n7, rfl, rfl⟩
 refine e_ (Ba (T E) cs_) ?_ E
 rintro _ _ ⟨n8, rfl, rfl⟩
 refine y_ (Ad Aj) (Af (Ae (Ag (Ab (y_ (Am (T E) isAgg56 sizeOf56 E (by first | exact Bb)) ?_ E))))) E
 refine y_ (Ac (T E)) (y_ (Ac (T E)) (y_ (Av (.cons (T E) (.cons (T E) (.cons (T E) .nil))) call84 (fun H' hs => rwalk_s n (hn.mono (List.Sublist.trans sbt hs)) hok x ls q c (hA.mono (List.Sublist.trans sbt hs)) (by omega))) ?_ E) E) E
 refine y_ (Ac (T E)) (y_ (Bf (T E) E) (y_ (Bf (T E) E) (y_ (Ad (T E)) (y_ (Ad (T E)) (Af (Ae (Ag (Ab (y_ (Am (T E) isAgg58 sizeOf58 E (by first | exact Bb)) ?_ E))))) E) E) E) E) E
 refine y_ (Ac (T E)) (y_ (Av (.cons (T E) (.cons (T E) .nil)) call85 (fun H' hs => down_s f x)) (y_ (Ad (T E)) (Af (Ae (Ag (Ag (Ab (y_ (Ac (T E)) ?_ E)))))) E) E) E
 first | refine Ax (Ca (T E)) E Ah ?_ | refine Ax (Co (T E)) E Ah ?_
 refine y_ (Ac (T E)) ?_ E
 first | refine Bz (s := 30) (Aa E) (fun c30 => ?_) (fun c30 => ?_) | refine Cf (s := 30) (Aa E) (fun c30 => ?_) (fun c30 => ?_)
 ·refine Bm (Bm (Bm (y_ (Aq (T E) Aj) (y_ (Ac (T E)) (Bm (y_ (Aq (T E) Aj) (Af (Ae (Bh [(3, _), (5, _), (6, _), (7, _), (8, _), (37, _)] ⟨Aa E, Aa E, Aa E, Aa E, Aa E, Aa E, trivial⟩ ?_))) E) E E E E) E) E) E E E E) E E E E) E E E E
  first | refine A8 (Aa E) ?_ | refine A8 (Ak (Aa E) (vbool (decide_eq_true c37))) ?_
  refine Ag (Ab (y_ (Ad Aj) (Af (Ae (Ay (Al (Az E (.tmp (Aa E) .nil) ?_))))) E))
  have h0 : wkF n (x : Int) ls = none := by simpa using c30
  exact ⟨_, ⟨vbool (by unfold holdsF; rw [h0]; simp), rfl⟩, sbt⟩
 ·refine Ax (Ac (T E)) E (Ao E E (Aa E)) (Ax (Ac (T E)) E (Ao E E (Aa E)) (Ax (Cu (T E) (T E)) E (Ao E E (Aa E)) (y_ (Au (T E) (T E)) (y_ (Ac (T E)) ?_ E) E)))
  first | refine Bz (s := 35) (Aa E) (fun c35 => ?_) (fun c35 => ?_) | refine Cf (s := 35) (Aa E) (fun c35 => ?_) (fun c35 => ?_)
  ·refine Bm (y_ (Aq (T E) Aj) (Af (Ae (Bh [(3, _), (5, _), (6, _), (7, _), (8, _), (37, _)] ⟨Aa E, Aa E, Aa E, Aa E, Aa E, Aa E, trivial⟩ ?_))) E) E E E E
   first | refine A8 (Aa E) ?_ | refine A8 (Ak (Aa E) (vbool (decide_eq_true c37))) ?_
   refine Ag (Ab (y_ (Ad Aj) (Af (Ae (Ay (Al (Az E (.tmp (Aa E) .nil) ?_))))) E))
   exact ⟨_, ⟨vbool (by unfold holdsF; rw [decide_eq_false (fun h => c35 (by rw [h]; rfl))]; rfl), rfl⟩, sbt⟩
  ·refine Ax (Ac (T E)) E (Ao E E (Aa E)) (y_ (Au (T E) (T E)) (Af (Ae (Bh [(3, _), (5, _), (6, _), (7, _), (8, _), (37, _)] ⟨Aa E, Aa E, Aa E, Aa E, Aa E, Aa E, trivial⟩ ?_))) E)
   first | refine Ar (Aa E) (fun c37 => ?_) (fun c37 => ?_) | refine A6 (Aa E) (fun c37 => ?_) (fun c37 => ?_)
   ·refine Ag (Ab (y_ (Ad Aj) (Af (Ae (Ay (Al (Az E (.tmp (Aa E) .nil) ?_))))) E))
    exact ⟨_, ⟨vbool (by unfold holdsF; rw [decide_eq_false (p := ¬ f.node = (x : Int)) (fun h => h c37)]; simp), rfl⟩, sbt⟩
   ·have hw : wkF n (x : Int) ls = some (to : Int) := by
     cases hz : wkF n (x : Int) ls with
     | none => rw [hz] at c30; simp at c30
     | some z =>
      rw [hz] at c35
      have : z = (to : Int) := by simpa using c35
      rw [this]
    have hnd : ¬ f.node = x := c37
    refine A2 (Ae (Ag (Ag (Ab (y_ (Ad Aj) (Af (Ae (Aw ?_))) E)))))
    refine Cc (X := Nat) (V := fun i => [(16, .int .i64 (i : Nat))]) (C := [(3, _), (5, _), (6, _), (7, _), (8, _)]) (φ := fun i => i ≤ ls.length ∧ upAll n f (ls.take i) = true) (μ := fun i => ls.length - i) (x0 := 0) ?_ ⟨Aa E, Aa E, Aa E, Aa E, Aa E, trivial⟩ ⟨(by first | exact Aa E | (refine Ak (Aa E) (vint ?_); omega) | (refine Ak (Aa E) ?_; simp; done)), trivial⟩ ?_
    ·exact ⟨Nat.zero_le _, rfl⟩
    rintro i ⟨hi, hup⟩
    refine Ag (Ag (Ab (y_ (Ac (T E)) (y_ (Ac (T E)) (y_ (Bp (T E) runUnderlying42) (y_ (Bu (T E) (T E)) (Af (Ae ?_)) E) E) E) E)))
    first | refine Ar (Aa E) (fun c41 => ?_) (fun c41 => ?_) | refine A6 (Aa E) (fun c41 => ?_) (fun c41 => ?_)
    ·have hvi := wkF_valid hw i (by omega)
     refine A2 (Ae (Ag (Aw (Ag (Ch 8 [(0, true), (1, true), (2, true), (3, true), (4, true), (5, true), (6, true), (7, true)] _ mixd (by kernel_rfl) sb0 ?_)))))
     refine o_y E (Am (T E) isAgg56 sizeOf56 E (by first | exact Bb)) ?_ E Ah
     refine o_y E (Am (T E) isAgg58 sizeOf58 E (by first | exact Bb)) ?_ E Ah
     refine o_y E (Ac (T E)) (o_y E (Ac (T E)) (o_y E (Be (T E) (T E) runUnderlying42 sizeOf3 (by omega) (by first | exact rfl | exact hA.b (i := i) (by omega))) ?_ E Ah) E Ah) E Ah
     refine o_y E (Ai (T E) isAgg3 (by first | exact c_o | exact cell1 ((hA.mono sbt).cs (i := i) (by omega)))) ?_ E Ah
     refine o_y E (Av (.cons (T E) (.cons (T E) (.cons (T E) .nil))) call86 (fun H' hs => by have hk := rup_s n (hn.mono (List.Sublist.trans sbt hs)) f (hf.mono (List.Sublist.trans sbt hs)) hfl (gd ls i).toNat (by omega); rw [show (((gd ls i).toNat : Nat) : Int) = gd ls i by omega] at hk; exact hk)) ?_ E Ah
     refine o_y E (Ad (T E)) (Bx E (Af (Ae (Ag (Ab (y_ (Ac (T E)) ?_ E)))))) E Ah
     first | refine Ax (Ca (T E)) E Ah ?_ | refine Ax (Co (T E)) E Ah ?_
     refine Af (Ae ?_)
     first | refine Ar (Aa E) (fun c52 => ?_) (fun c52 => ?_) | refine A6 (Aa E) (fun c52 => ?_) (fun c52 => ?_)
     ·refine Ag (Ab (y_ (Ad Aj) (Af (Ae (Ay (An (Al (Bo (An (Al (Az E (.tmp (Aa E) .nil) ?_))))))))) E))
      exact ⟨_, ⟨vbool (by unfold holdsF; rw [upAll_no (i := i) (by omega) (by simpa using c52)]; simp), rfl⟩, sbt⟩
     ·refine A2 (Bl (Ae (Ab (y_ (Ac (T E)) (y_ (Bt (T E) Aj (by omega)) ?_ E) E))))
      refine y_ (Ad (T E)) (Af ?_) E
      refine Bn (i + 1) ?_ ?_ ⟨(by first | exact Aa E | (refine Ak (Aa E) (vint ?_); omega) | (refine Ak (Aa E) ?_; simp; done)), trivial⟩ ⟨Aa E, Aa E, Aa E, Aa E, Aa E, trivial⟩ ?_
      ·exact ⟨by omega, by rw [upAll_take (by omega), hup]; simpa using c52⟩
      ·first | omega | (simp only []; omega)
      ·exact sbt
    ·refine B4 (A0 (A4 (A3 (Ae (Ag (Ch 5 [(0, true), (1, true), (2, true), (3, true), (4, false)] _ mixd (by kernel_rfl) sb0 ?_))))))
     refine o_y E (Am (T E) isAgg24 sizeOf24 E (by first | exact Bb)) ?_ E Ah
     refine o_y E (Am (T E) isAgg56 sizeOf56 E (by first | exact Bb)) ?_ E Ah
     refine o_y E (Ac (T E)) (o_y E (Ac (T E)) (o_e E (A1 (.cons (T E) (.cons (T E) (.cons (T E) .nil))) call87 (rnames_s n (hn.mono sbt) hok x hx ls q c (hA.mono sbt) (by omega) (wkF_valid hw))) ?_ E Ah) E Ah) E Ah
     rintro _ _ ⟨d, ⟨rfl, hd⟩, rfl⟩
     refine ⟨sbt, (Bx E (e_ (A1 (.cons (T E) (.cons (T E) .nil)) call17 (rMatch_s m e hI (hM.mono sbt) hlv (namesF n x ls) (slQ d) (slC d) (Bq (fun _ => rfl) hd) (by rw [namesF_len]; omega))) ?_ E))⟩
     rintro _ _ ⟨rfl, M, rfl⟩
     refine y_ (Ad (T E)) (Af (Ae (Ay (Az E (.tmp (Aa E) .nil) ?_)))) E
     have hua : upAll n f ls = true := by rw [← hup, List.take_of_length_le (by omega)]
     exact ⟨_, ⟨vbool (by unfold holdsF; rw [hw, hua]; simp [hnd]), rfl⟩, sbt⟩
end Go.Proofs.YtkdolgnpkjihpaaGreatDoor
namespace Go.Proofs.YtkdolgnpkjihpaaGreatDoor
open _root_.Go.Proofs.Tryz
open Go.RowKit
set_option linter.unusedVariables false
set_option linter.unusedSimpArgs false
def lx : List Nat → List Nat → Prop
 | x :: a, y :: b => x < y ∨ (x = y ∧ lx a b)
 | _, _ => False
theorem lx_trans : ∀ {a b c : List Nat}, lx a b → lx b c → lx a c
 | [], _, _, h, _ => by cases h
 | _ :: _, [], _, h, _ => by cases h
 | _ :: _, _ :: _, [], _, h => by cases h
 | x :: a, y :: b, z :: c, h1, h2 => by
  simp only [lx] at h1 h2 ⊢
  rcases h1 with h1 | ⟨h1, h3⟩ <;> rcases h2 with h2 | ⟨h2, h4⟩
  ·left; omega
  ·left; omega
  ·left; omega
  ·right; exact ⟨by omega, lx_trans h3 h4⟩
theorem lx_app : ∀ {a b : List Nat} (c d : List Nat), lx a b → lx (a ++ c) (b ++ d)
 | [], _, _, _, h => by cases h
 | _ :: _, [], _, _, h => by cases h
 | x :: a, y :: b, c, d, h => by
  simp only [lx, List.cons_append] at h ⊢
  exact h.imp id fun h => ⟨h.1, lx_app c d h.2⟩
theorem lx_last : ∀ (a : List Nat) {x y : Nat}, x < y → lx (a ++ [x]) (a ++ [y])
 | [], x, y, h => .inl h
 | z :: a, x, y, h => .inr ⟨rfl, lx_last a h⟩
def ltL (a b : List Nat) : Prop := a.length < b.length ∨ (a.length = b.length ∧ lx a b)
def leL (a b : List Nat) : Prop := ltL a b ∨ a = b
theorem ltL_trans {a b c : List Nat} (h1 : ltL a b) (h2 : ltL b c) : ltL a c := by
 unfold ltL at *
 rcases h1 with h1 | ⟨h1, h3⟩ <;> rcases h2 with h2 | ⟨h2, h4⟩
 ·left; omega
 ·left; omega
 ·left; omega
 ·right; exact ⟨by omega, lx_trans h3 h4⟩
theorem ltL_snoc {a b : List Nat} (x y : Nat) (h : ltL a b) : ltL (a ++ [x]) (b ++ [y]) := by
 unfold ltL at *
 simp only [List.length_append, List.length_cons, List.length_nil]
 rcases h with h | ⟨h, h2⟩
 ·left; omega
 ·right; exact ⟨by omega, lx_app _ _ h2⟩
theorem leL_snoc {a b : List Nat} {x y : Nat} (h : leL a b) (hx : x ≤ y) : leL (a ++ [x]) (b ++ [y]) := by
 rcases h with h | rfl
 ·exact .inl (ltL_snoc x y h)
 ·rcases Nat.lt_or_ge x y with h1 | h1
  ·exact .inl (.inr ⟨by simp, lx_last a h1⟩)
  ·rw [show x = y by omega]; exact .inr E
section
variable {σ : Type} [Inhabited σ]
def pth (w : List (Int × σ)) (i : Nat) : List σ := (backF w (i + 1) i).reverse
theorem pth_zero {w : List (Int × σ)} (h : (gd w 0).1 = -1) : pth w 0 = [] := by
 unfold pth; rw [backF_succ, if_neg (by omega)]; rfl
theorem pth_snoc {w : List (Int × σ)} (hw : ∀ i, i < w.length → -1 ≤ (gd w i).1 ∧ (gd w i).1 < i) {i : Nat} (hi : i < w.length) (h0 : 0 ≤ (gd w i).1) : pth w i = pth w (gd w i).1.toNat ++ [(gd w i).2] := by
 have h1 := (hw i hi).2
 unfold pth
 rw [backF_succ, if_pos h0, List.reverse_cons]
 rw [backF_fuel hw i (gd w i).1.toNat (by omega) (by omega)]
theorem backF_app {w : List (Int × σ)} (hw : ∀ i, i < w.length → -1 ≤ (gd w i).1 ∧ (gd w i).1 < i) (x : List (Int × σ)) : ∀ (f i : Nat), i < w.length → backF (w ++ x) f i = backF w f i
 | 0, _, _ => rfl
 | f + 1, i, hi => by
  rw [backF_succ, backF_succ, Cp hi]
  split
  ·rename_i h0
   have h1 := (hw i hi).2
   rw [backF_app hw x f _ (by omega)]
  ·rfl
theorem pth_app {w : List (Int × σ)} (hw : ∀ i, i < w.length → -1 ≤ (gd w i).1 ∧ (gd w i).1 < i) (x : List (Int × σ)) {i : Nat} (hi : i < w.length) : pth (w ++ x) i = pth w i := by
 unfold pth; rw [backF_app hw x _ _ hi]
inductive Chn (ts : Pl → List (Pl × σ)) (p : Pl) : List σ → Pl → Prop
 | nil : Chn ts p [] p
 | snoc {ls : List σ} {q r : Pl} {s : σ} : Chn ts p ls q → (r, s) ∈ ts q → Chn ts p (ls ++ [s]) r
structure BI (ts : Pl → List (Pl × σ)) (rk : σ → Nat) (p0 : Pl) (k : Nat) (d : List (Pl × σ)) (st : BS σ) : Prop where
 nd : st.l.Nodup
 len : st.w.length = st.l.length
 fst : gd st.l 0 = p0 ∧ (gd st.w 0).1 = -1 ∧ 0 < st.l.length
 kl : k ≤ st.l.length
 edge : ∀ i, 0 < i → i < st.l.length → 0 ≤ (gd st.w i).1 ∧ (gd st.w i).1 < i ∧ (gd st.l i, (gd st.w i).2) ∈ ts (gd st.l (gd st.w i).1.toNat) ∧ ((gd st.w i).1 < k ∨ ((gd st.w i).1 = k ∧ (gd st.l i, (gd st.w i).2) ∈ d))
 mono : ∀ i j, 0 < i → i < j → j < st.l.length → (gd st.w i).1 < (gd st.w j).1 ∨ ((gd st.w i).1 = (gd st.w j).1 ∧ rk (gd st.w i).2 < rk (gd st.w j).2)
 done : ∀ j, j < k → ∀ x ∈ ts (gd st.l j), ∃ i, i < st.l.length ∧ gd st.l i = x.1 ∧ (i = 0 ∨ (gd st.w i).1 < j ∨ ((gd st.w i).1 = j ∧ rk (gd st.w i).2 ≤ rk x.2))
 part : ∀ x ∈ d, ∃ i, i < st.l.length ∧ gd st.l i = x.1 ∧ (i = 0 ∨ (gd st.w i).1 < k ∨ ((gd st.w i).1 = k ∧ rk (gd st.w i).2 ≤ rk x.2))
variable {ts : Pl → List (Pl × σ)} {rk : σ → Nat} {p0 : Pl}
theorem BI.start : BI ts rk p0 0 [] ⟨[p0], [(-1, default)]⟩ where
 nd := by simp
 len := rfl
 fst := ⟨rfl, rfl, by simp⟩
 kl := Nat.zero_le _
 edge i h1 h2 := by simp at h2; omega
 mono i j h1 h2 h3 := by simp at h3; omega
 done j hj := by omega
 part x hx := by cases hx
theorem BI.back {k : Nat} {d : List (Pl × σ)} {st : BS σ} (h : BI ts rk p0 k d st) : ∀ i, i < st.w.length → -1 ≤ (gd st.w i).1 ∧ (gd st.w i).1 < i := fun i hi => by
 rw [h.len] at hi
 rcases Nat.eq_zero_or_pos i with rfl | h0
 ·rw [h.fst.2.1]; omega
 ·have := h.edge i h0 hi; omega
theorem memPl {l : List Pl} {p : Pl} (h : p ∈ l) : ∃ i, i < l.length ∧ gd l i = p := by
 obtain ⟨i, hi, e⟩ := List.getElem_of_mem h
 exact ⟨i, hi, by rw [Bv hi]; exact e⟩
theorem BI.vis {k : Nat} {d rest : List (Pl × σ)} {x : Pl × σ} {st : BS σ} (h : BI ts rk p0 k d st) (hk : k < st.l.length) (ht : ts (gd st.l k) = d ++ x :: rest) (hr : (ts (gd st.l k)).Pairwise fun a b => rk a.2 < rk b.2) : BI ts rk p0 k (d ++ [x]) (visF k st x) := by
 have hlt : ∀ y ∈ d, rk y.2 < rk x.2 := fun y hy => by
  rw [ht] at hr
  exact (List.pairwise_append.1 hr).2.2 y hy x (by simp)
 have hxm : x ∈ ts (gd st.l k) := by rw [ht]; simp
 unfold visF
 by_cases hx : x.1 ∈ st.l
 ·rw [if_pos hx]
  refine ⟨h.nd, h.len, h.fst, h.kl, fun i h1 h2 => ?_, h.mono, h.done, fun y hy => ?_⟩
  ·obtain ⟨a, b, c, e⟩ := h.edge i h1 h2
   exact ⟨a, b, c, e.imp id fun e => ⟨e.1, List.mem_append_left _ e.2⟩⟩
  ·rcases List.mem_append.1 hy with hy | hy
   ·exact h.part y hy
   ·simp only [List.mem_cons, List.not_mem_nil, or_false] at hy
    subst hy
    obtain ⟨i, hi, e⟩ := memPl hx
    refine ⟨i, hi, e, ?_⟩
    rcases Nat.eq_zero_or_pos i with h0 | h0
    ·exact .inl h0
    ·obtain ⟨_, _, _, e2⟩ := h.edge i h0 hi
     rcases e2 with e2 | e2
     ·exact .inr (.inl e2)
     ·exact .inr (.inr ⟨e2.1, Nat.le_of_lt (hlt _ e2.2)⟩)
 ·rw [if_neg hx]
  have hln := h.len
  have g1 : ∀ i, i < st.l.length → gd (st.l ++ [x.1]) i = gd st.l i := fun i hi => Cp hi
  have g2 : ∀ i, i < st.l.length → gd (st.w ++ [((k : Int), x.2)]) i = gd st.w i := fun i hi => Cp (by omega)
  have g3 : gd (st.l ++ [x.1]) st.l.length = x.1 := C0
  have g4 : gd (st.w ++ [((k : Int), x.2)]) st.l.length = ((k : Int), x.2) := by rw [← hln]; exact C0
  have hp0 := h.fst.2.2
  refine ⟨?_, by simp [hln], ⟨by simp only []; rw [g1 0 hp0]; exact h.fst.1, by simp only []; rw [g2 0 hp0]; exact h.fst.2.1, by simp⟩, by simp; have := h.kl; omega, fun i h1 h2 => ?_, fun i j h1 h2 h3 => ?_, fun j hj y hy => ?_, fun y hy => ?_⟩
  ·exact List.nodup_append.2 ⟨h.nd, by simp, fun a ha b hb => by simp at hb; subst hb; rintro rfl; exact hx ha⟩
  ·simp only [] at h2 ⊢
   simp only [List.length_append, List.length_cons, List.length_nil] at h2
   by_cases e : i = st.l.length
   ·subst e
    rw [g3, g4]
    simp only [Int.toNat_natCast]
    rw [g1 k hk]
    exact ⟨by omega, by omega, hxm, .inr ⟨by simp, by simp⟩⟩
   ·have hi : i < st.l.length := by omega
    obtain ⟨a, b, c, e⟩ := h.edge i h1 hi
    rw [g1 i hi, g2 i hi, g1 _ (by omega)]
    exact ⟨a, b, c, e.imp id fun e => ⟨e.1, List.mem_append_left _ e.2⟩⟩
  ·simp only [] at h3 ⊢
   simp only [List.length_append, List.length_cons, List.length_nil] at h3
   have hi : i < st.l.length := by omega
   rw [g2 i hi]
   by_cases e : j = st.l.length
   ·subst e
    rw [g4]
    obtain ⟨a, b, c, e⟩ := h.edge i h1 hi
    exact e.imp id fun e => ⟨e.1, hlt _ e.2⟩
   ·rw [g2 j (by omega)]
    exact h.mono i j h1 h2 (by omega)
  ·simp only [] at hy ⊢
   rw [g1 j (by omega)] at hy
   obtain ⟨i, hi, e1, e2⟩ := h.done j hj y hy
   exact ⟨i, by simp; omega, by rw [g1 i hi]; exact e1, by rw [g2 i hi]; exact e2⟩
  ·simp only []
   rcases List.mem_append.1 hy with hy | hy
   ·obtain ⟨i, hi, e1, e2⟩ := h.part y hy
    exact ⟨i, by simp; omega, by rw [g1 i hi]; exact e1, by rw [g2 i hi]; exact e2⟩
   ·simp only [List.mem_cons, List.not_mem_nil, or_false] at hy
    subst hy
    exact ⟨st.l.length, by simp, g3, by rw [g4]; exact .inr (.inr ⟨rfl, Nat.le_refl _⟩)⟩
theorem BI.all' {k : Nat} : ∀ (rest d : List (Pl × σ)) {st : BS σ}, BI ts rk p0 k d st → k < st.l.length → ts (gd st.l k) = d ++ rest → ((ts (gd st.l k)).Pairwise fun a b => rk a.2 < rk b.2) → BI ts rk p0 k (d ++ rest) (visAll k st rest)
 | [], d, st, h, _, _, _ => by rw [List.append_nil]; exact h
 | x :: rest, d, st, h, hk, ht, hr => by
  have h1 := h.vis hk ht hr
  have hg : gd (visF k st x).l k = gd st.l k := visF_get hk
  have h2 := BI.all' rest (d ++ [x]) h1 (by
   unfold visF; split
   ·exact hk
   ·simp; omega) (by rw [hg, ht]; simp) (by rw [hg]; exact hr)
  rw [List.append_assoc] at h2
  exact h2
theorem BI.next {k : Nat} {st : BS σ} (h : BI ts rk p0 k [] st) (hk : k < st.l.length) (hr : (ts (gd st.l k)).Pairwise fun a b => rk a.2 < rk b.2) : BI ts rk p0 (k + 1) [] (visAll k st (ts (gd st.l k))) := by
 have h1 := h.all' (ts (gd st.l k)) [] hk E hr
 obtain ⟨hg, hl⟩ := visAll_get (k := k) (ts (gd st.l k)) (st := st) hk
 rw [List.nil_append] at h1
 refine ⟨h1.nd, h1.len, h1.fst, by omega, fun i a b => ?_, h1.mono, fun j hj x hx => ?_, fun x hx => by cases hx⟩
 ·obtain ⟨e1, e2, e3, e4⟩ := h1.edge i a b
  exact ⟨e1, e2, e3, .inl (by omega)⟩
 ·by_cases e : j = k
  ·subst e
   rw [hg] at hx
   exact h1.part x hx
  ·exact h1.done j (by omega) x hx
theorem BI.chain {k : Nat} {d : List (Pl × σ)} {st : BS σ} (h : BI ts rk p0 k d st) : ∀ (n i : Nat), i ≤ n → i < st.l.length → Chn ts p0 (pth st.w i) (gd st.l i)
 | 0, i, hn, hi => by
  rw [show i = 0 by omega, pth_zero h.fst.2.1, h.fst.1]; exact .nil
 | n + 1, i, hn, hi => by
  rcases Nat.eq_zero_or_pos i with rfl | h0
  ·rw [pth_zero h.fst.2.1, h.fst.1]; exact .nil
  ·obtain ⟨a, b, c, e⟩ := h.edge i h0 hi
   rw [pth_snoc h.back (by rw [h.len]; exact hi) a]
   exact .snoc (h.chain n (gd st.w i).1.toNat (by omega) (by omega)) c
theorem BI.lt {k : Nat} {d : List (Pl × σ)} {st : BS σ} (h : BI ts rk p0 k d st) : ∀ (n i j : Nat), j ≤ n → i < j → j < st.l.length → ltL ((pth st.w i).map rk) ((pth st.w j).map rk)
 | 0, i, j, hn, hij, _ => by omega
 | n + 1, i, j, hn, hij, hj => by
  obtain ⟨a, b, c, e⟩ := h.edge j (by omega) hj
  rw [pth_snoc h.back (by rw [h.len]; exact hj) a]
  rcases Nat.eq_zero_or_pos i with rfl | h0
  ·rw [pth_zero h.fst.2.1]; left; simp
  ·obtain ⟨a2, b2, c2, e2⟩ := h.edge i h0 (by omega)
   rw [pth_snoc h.back (by rw [h.len]; omega) a2]
   simp only [List.map_append, List.map_cons, List.map_nil]
   rcases h.mono i j h0 hij hj with hm | ⟨hm, hm2⟩
   ·exact ltL_snoc _ _ (h.lt n (gd st.w i).1.toNat (gd st.w j).1.toNat (by omega) (by omega) (by omega))
   ·rw [hm]; exact .inr ⟨by simp, lx_last _ hm2⟩
theorem BI.le {k : Nat} {d : List (Pl × σ)} {st : BS σ} (h : BI ts rk p0 k d st) {i j : Nat} (hij : i ≤ j) (hj : j < st.l.length) : leL ((pth st.w i).map rk) ((pth st.w j).map rk) := by
 rcases Nat.lt_or_ge i j with h1 | h1
 ·exact .inl (h.lt j i j (Nat.le_refl _) h1 hj)
 ·rw [show i = j by omega]; exact .inr E
theorem BI.ways {k : Nat} {st : BS σ} (h : BI ts rk p0 k [] st) {ls : List σ} {q : Pl} (hc : Chn ts p0 ls q) : (∃ i, i < st.l.length ∧ gd st.l i = q ∧ leL ((pth st.w i).map rk) (ls.map rk)) ∨ (∃ i, k ≤ i ∧ i < st.l.length ∧ ∃ p : List Nat, p.length < ls.length ∧ leL ((pth st.w i).map rk) p) := by
 induction hc with
 | nil => exact .inl ⟨0, h.fst.2.2, h.fst.1, by rw [pth_zero h.fst.2.1]; exact .inr rfl⟩
 | @snoc ls q r s hc hs ih =>
  rcases ih with ⟨j, hj, e, hle⟩ | ⟨i, h1, h2, p, h3, h4⟩
  ·rcases Nat.lt_or_ge j k with hk | hk
   ·obtain ⟨i, hi, e1, e2⟩ := h.done j hk (r, s) (by rw [e]; exact hs)
    refine .inl ⟨i, hi, e1, ?_⟩
    rcases Nat.eq_zero_or_pos i with rfl | h0
    ·rw [pth_zero h.fst.2.1]; exact .inl (.inl (by simp))
    ·obtain ⟨a, b, c, _⟩ := h.edge i h0 hi
     rw [pth_snoc h.back (by rw [h.len]; exact hi) a]
     simp only [List.map_append, List.map_cons, List.map_nil]
     rcases e2 with e2 | e2 | ⟨e2, e3⟩
     ·omega
     ·have h5 := h.lt j (gd st.w i).1.toNat j (Nat.le_refl _) (by omega) hj
      rcases hle with hle | hle
      ·exact .inl (ltL_snoc _ _ (ltL_trans h5 hle))
      ·rw [← hle]; exact .inl (ltL_snoc _ _ h5)
     ·rw [e2]; exact leL_snoc hle e3
   ·exact .inr ⟨j, hk, hj, ls.map rk, by simp, hle⟩
  ·exact .inr ⟨i, h1, h2, p, by simp; omega, h4⟩
structure GoOk (ts : Pl → List (Pl × σ)) (rk : σ → Nat) (fnd : Pl → Bool) (p0 : Pl) (r : Option Nat × BS σ) : Prop where
 some' : ∀ k, r.1 = some k → BI ts rk p0 k [] r.2 ∧ k < r.2.l.length ∧ fnd (gd r.2.l k) = true ∧ ∀ j, j < k → fnd (gd r.2.l j) = false
 none' : r.1 = none → BI ts rk p0 r.2.l.length [] r.2 ∧ ∀ j, j < r.2.l.length → fnd (gd r.2.l j) = false
theorem goF_sem {Pd : Pl → Prop} (hts : ∀ p, Pd p → ∀ x ∈ ts p, Pd x.1) (hr : ∀ p, Pd p → (ts p).Pairwise fun a b => rk a.2 < rk b.2) {N : Nat} (hN : ∀ l : List Pl, l.Nodup → (∀ p ∈ l, Pd p) → l.length ≤ N) {fnd : Pl → Bool} : ∀ (f k : Nat) (st : BS σ), BI ts rk p0 k [] st → BSok Pd k st → (∀ j, j < k → fnd (gd st.l j) = false) → N < f + k → GoOk ts rk fnd p0 (goF ts fnd f k st)
 | 0, k, st, h, hb, _, hf => by
  have := hN st.l h.nd hb.ok
  have := h.kl; omega
 | f + 1, k, st, h, hb, hn, hf => by
  rw [Da]
  split
  ·rename_i hk
   have hpd := hb.ok _ (Bg hk)
   split
   ·rename_i hfn
    exact ⟨(fun k' e => by cases e; exact ⟨h, hk, hfn, hn⟩), (fun e => by cases e)⟩
   ·rename_i hfn
    obtain ⟨hb1, hb2⟩ := hb.visAll (k' := k) (ts (gd st.l k)) hk (hts _ hpd)
    obtain ⟨hg, hl⟩ := visAll_get (k := k) (ts (gd st.l k)) (st := st) hk
    refine goF_sem hts hr hN f (k + 1) _ (h.next hk (hr _ hpd)) ⟨hb1.nd, hb1.ok, hb1.len, hb1.back, by omega⟩ (fun j hj => ?_) (by omega)
    by_cases e : j = k
    ·subst e; rw [hg]; simpa using hfn
    ·rw [(visAll_get (k := k) (ts (gd st.l k)) (st := st) (show j < st.l.length by omega)).1]
     exact hn j (by omega)
  ·rename_i hk
   have : k = st.l.length := by have := h.kl; omega
   subst this
   exact ⟨(fun k' e => by cases e), fun _ => ⟨h, hn⟩⟩
theorem goF_sem0 {Pd : Pl → Prop} (hts : ∀ p, Pd p → ∀ x ∈ ts p, Pd x.1) (hr : ∀ p, Pd p → (ts p).Pairwise fun a b => rk a.2 < rk b.2) {N : Nat} (hN : ∀ l : List Pl, l.Nodup → (∀ p ∈ l, Pd p) → l.length ≤ N) (fnd : Pl → Bool) (hp : Pd p0) : GoOk ts rk fnd p0 (goF ts fnd (N + 1) 0 ⟨[p0], [(-1, default)]⟩) :=
 goF_sem hts hr hN (N + 1) 0 _ .start ⟨by simp, by simpa using hp, rfl, (fun i hi => by
  simp at hi; subst hi; show -1 ≤ (-1 : Int) ∧ (-1 : Int) < ((0 : Nat) : Int); omega), Nat.zero_le _⟩ (fun j hj => by omega) (by omega)
theorem srF_no {Pd : Pl → Prop} (hts : ∀ p, Pd p → ∀ x ∈ ts p, Pd x.1) (hr : ∀ p, Pd p → (ts p).Pairwise fun a b => rk a.2 < rk b.2) {N : Nat} (hN : ∀ l : List Pl, l.Nodup → (∀ p ∈ l, Pd p) → l.length ≤ N) (fnd : Pl → Bool) (hp : Pd p0) (h : (srF ts fnd N p0).2.1 = false) :
  (srF ts fnd N p0).1 = [] ∧ (∀ q, q ∈ (srF ts fnd N p0).2.2 ↔ ∃ ls, Chn ts p0 ls q) ∧ ∀ ls q, Chn ts p0 ls q → fnd q = false := by
 have hg := goF_sem0 (rk := rk) hts hr hN fnd hp
 unfold srF at *
 generalize goF ts fnd (N + 1) 0 ⟨[p0], [(-1, default)]⟩ = r at *
 obtain ⟨k, st⟩ := r
 cases k with
 | some k => cases h
 | none =>
  obtain ⟨h1, h2⟩ := hg.none' rfl
  simp only [] at *
  have hall : ∀ ls q, Chn ts p0 ls q → ∃ i, i < st.l.length ∧ gd st.l i = q := fun ls q hc => by
   rcases h1.ways hc with ⟨i, hi, e, _⟩ | ⟨i, hi1, hi2, _⟩
   ·exact ⟨i, hi, e⟩
   ·omega
  refine ⟨trivial, fun q => ⟨fun hq => ?_, fun ⟨ls, hc⟩ => ?_⟩, fun ls q hc => ?_⟩
  ·obtain ⟨i, hi, e⟩ := memPl hq
   exact ⟨_, e ▸ h1.chain i i (Nat.le_refl _) hi⟩
  ·obtain ⟨i, hi, e⟩ := hall ls q hc
   rw [← e]; exact Bg hi
  ·obtain ⟨i, hi, e⟩ := hall ls q hc
   rw [← e]; exact h2 i hi
end
end Go.Proofs.YtkdolgnpkjihpaaGreatDoor
namespace Go.Proofs.YtkdolgnpkjihpaaGreatDoor
open _root_.Go.Proofs.Tryz
open Go.RowKit
set_option linter.unusedVariables false
set_option linter.unusedSimpArgs false
theorem snoc_ind {α : Type} {Q : List α → Prop} (h0 : Q []) (h1 : ∀ l a, Q l → Q (l ++ [a])) (l : List α) : Q l := by
 have h : ∀ r : List α, Q r.reverse := fun r => by
  induction r with
  | nil => exact h0
  | cons a r ih => rw [List.reverse_cons]; exact h1 _ a ih
 have := h l.reverse
 rwa [List.reverse_reverse] at this
def lnOf (l : Lnk) : Ln := ⟨l.src.toNat, l.dst.toNat, l.cap⟩
def nnOf (n : Nm) : Nn := ⟨n.nodes, n.links.map lnOf, n.edges, n.qn, n.cn, n.ql, n.cl, n.qe, n.ce⟩
theorem nn_enc (n : Nm) : encNn (nnOf n) = encNm n := by simp [nnOf]
theorem nn_net {w0 : World} {H : List (Nat × Obj)} {n : Nm} (h : NetM w0 H n) (hok : NetOk n) : NetR w0 H (nnOf n) := by
 refine ⟨h.nodes, fun i x hi => ?_⟩
 have hi' : (n.links.map lnOf)[i]? = some x := hi
 rw [List.getElem?_map] at hi'
 obtain ⟨l, h1, rfl⟩ := Option.map_eq_some_iff.1 hi'
 have hlt := (List.getElem?_eq_some_iff.1 h1).1
 have hg : gd n.links i = l := by rw [Bv hlt]; exact (List.getElem?_eq_some_iff.1 h1).2
 have h2 := hok.links i hlt
 rw [hg] at h2
 have h3 := h2.s0
 have h4 := h2.d0
 have e : encLn (lnOf l) = encL l := by
  simp only [encLn, encL, lnOf]
  rw [show ((l.src.toNat : Nat) : Int) = l.src by omega, show ((l.dst.toNat : Nat) : Int) = l.dst by omega]
 have h5 := h.links i l h1
 rw [← e] at h5
 exact h5
theorem nn_ok {n : Nm} {f : Flr} {x y : Int} (h : RgtOk n f x y) : NnOk (nnOf n) := by
 refine ⟨h.nn, by simpa [nnOf] using h.nl, fun l hl => ?_⟩
 obtain ⟨a, ha, rfl⟩ := List.mem_map.1 hl
 obtain ⟨i, hi, rfl⟩ := List.getElem_of_mem ha
 have h1 := h.net.links i hi
 rw [Bv hi] at h1
 have h2 := h1.s0; have h3 := h1.s1; have h4 := h1.d0; have h5 := h1.d1
 show (n.links[i]).src.toNat < n.nodes.length ∧ (n.links[i]).dst.toNat < n.nodes.length
 omega
theorem outK_pw (n : Nn) (node : Nat) : ∀ i, (outK n node i).Pairwise (· < ·)
 | 0 => .nil
 | i + 1 => by
  rw [outK_succ]; split
  ·exact List.pairwise_append.2 ⟨outK_pw n node i, List.pairwise_singleton .., fun a ha b hb => by
    simp at hb; subst hb; exact ((mem_outK n node a b).1 ha).1⟩
  ·exact outK_pw n node i
theorem moves_pw (n : Nn) (f : Flr) (m : PM) (p : Pl) : (movesF n f m p).Pairwise fun a b => id a.2 < id b.2 := by
 unfold movesF mvF
 rw [List.pairwise_map]
 exact ((outK_pw n p.1 n.links.length).filter _)
theorem moves_okE {n : Nn} (hok : NnOk n) {f : Flr} {m : PM} (hp : PMok m) : ∀ p, PlOk n m p → ∀ x ∈ movesF n f m p, PlOk n m x.1 := fun p h => moves_ok hok hp p h
theorem srF_all {σ : Type} [Inhabited σ] (ts : Pl → List (Pl × σ)) (N : Nat) (p0 : Pl) : (srF ts (fun _ => false) N p0).2.1 = false := by
 have key : ∀ (f k : Nat) (st : BS σ), (goF ts (fun _ => false) f k st).1 = none := fun f => by
  induction f with
  | zero => intro k st; rfl
  | succ f ih =>
   intro k st
   rw [Da]
   split
   ·simp only [Bool.false_eq_true, if_false]; exact ih _ _
   ·rfl
 have h := key (N + 1) 0 ⟨[p0], [(-1, default)]⟩
 unfold srF
 generalize goF ts (fun _ => false) (N + 1) 0 ⟨[p0], [(-1, default)]⟩ = r at *
 obtain ⟨k, st⟩ := r
 simp only [] at h
 subst h
 rfl
theorem met_iff {n : Nn} (hok : NnOk n) {f : Flr} {m : PM} (hp : PMok m) {x : Nat} (hx : x < n.nodes.length) (q : Pl) : q ∈ metF n f m x ↔ ∃ ls, Chn (movesF n f m) (p0F n m x) ls q :=
 (srF_no (rk := id) (moves_okE hok hp) (fun p _ => moves_pw n f m p) (pl_few n m) (fun _ => false) (p0_ok hp hx) (srF_all _ _ _)).2.1 q
theorem met_nd {n : Nn} (hok : NnOk n) {f : Flr} {m : PM} (hp : PMok m) {x : Nat} (hx : x < n.nodes.length) : (metF n f m x).Nodup ∧ ∀ p ∈ metF n f m x, PlOk n m p :=
 srF_met (moves_okE hok hp) (p0_ok hp hx) _
structure Rch (n : Nn) (f : Flr) (m : PM) (x : Nat) (ks : List Pl) : Prop where
 mem : ∀ q, q ∈ ks ↔ ¬ f.node = x ∧ ∃ ls, Chn (movesF n f m) (p0F n m x) ls q
 srt : ks.Pairwise plLt
 ok : ∀ q ∈ ks, PlOk n m q
theorem rch_of {n : Nn} (hok : NnOk n) {f : Flr} {m : PM} (hp : PMok m) {x : Nat} (hx : x < n.nodes.length) {ks : List Pl} (h : Reach n f m x ks) : Rch n f m x ks := by
 obtain ⟨hperm, hs⟩ := h
 have hnd : ks.Nodup := by
  refine hperm.nodup_iff.2 ?_
  split
  ·exact List.nodup_nil
  ·exact (met_nd hok hp hx).1
 have hm : ∀ q, q ∈ ks ↔ ¬ f.node = x ∧ ∃ ls, Chn (movesF n f m) (p0F n m x) ls q := fun q => by
  rw [hperm.mem_iff]
  split
  ·rename_i hf; simp [hf]
  ·rename_i hf; rw [met_iff hok hp hx]; simp [hf]
 refine ⟨hm, (hnd.and hs).imp fun {a b} hab => ?_, fun q hq => ?_⟩
 ·obtain ⟨h1, h2⟩ := hab
  unfold plLt at *
  have h3 : ¬ (a.1 = b.1 ∧ a.2 = b.2) := fun e => h1 (Prod.ext e.1 e.2)
  omega
 ·rw [hperm.mem_iff] at hq
  split at hq
  ·cases hq
  ·exact (met_nd hok hp hx).2 q hq
theorem toI_inj {a b : Pl} : toI a = toI b ↔ a = b := by
 constructor
 ·intro h; simp only [toI, Prod.mk.injEq] at h; exact Prod.ext (by omega) (by omega)
 ·rintro rfl; rfl
end Go.Proofs.YtkdolgnpkjihpaaGreatDoor
namespace Go.Proofs.YtkdolgnpkjihpaaGreatDoor
open _root_.Go.Proofs.Tryz
open Go.RowKit
set_option linter.unusedVariables false
set_option linter.unusedSimpArgs false
section
variable {w0 : World} {H : List (Nat × Obj)} {n : Nm} {f : Flr} {m : Mc} {x to : Nat}
structure NF (w0 : World) (H : List (Nat × Obj)) (n : Nm) (f : Flr) (x to : Nat) : Prop where
 nm : NetM w0 H n
 fl : Arr w0 H f.q 1 encI f.links
 rg : RgtOk n f x to
theorem NF.mono {H' : List (Nat × Obj)} (h : NF w0 H n f x to) (hs : H.Sublist H' := by exact sbt) : NF w0 H' n f x to := ⟨h.nm.mono hs, h.fl.mono hs, h.rg⟩
theorem NF.env (h : NF w0 H n f x to) (hm : McOk w0 H m) : Env w0 H (nnOf n) f m := ⟨nn_net h.nm h.rg.net, h.fl, hm⟩
theorem NF.hx (h : NF w0 H n f x to) : x < (nnOf n).nodes.length := by have := h.rg.x; show x < n.nodes.length; omega
theorem holdN_s (h : NF w0 H n f x to) (r : Rxm) (e : Re) (hI : Is r e) (hM : RxM w0 H r) (hl : e.lv ≤ 64) (ls : List Int) (q : Option Addr) (c : Nat) (hA : Arr w0 H q 1 encI ls) (hlen : ls.length ≤ 1000000) :
  FSpec Tryz.prog w0 32 #[.agg (encNm n).toArray, .agg (encFl f).toArray, .agg (encRx r).toArray, .int .i64 (x : Int), .int .i64 (to : Int), .slice q ls.length c] H (Still (.bool (holdsF (nnOf n) f e x to ls)) H) := by
 rw [← nn_enc n]; exact holds_s (nnOf n) (nn_net h.nm h.rg.net) (nn_ok h.rg) f h.fl (by have := h.rg.fl; omega) r e hI hM hl x to h.hx ls q c hA hlen
end
theorem Rch.nd {n : Nn} {f : Flr} {m : PM} {x : Nat} {ks : List Pl} (h : Rch n f m x ks) : ks.Nodup := h.srt.imp fun {a b} hab e => by
 subst e; unfold plLt at hab; omega
theorem backF_len {σ : Type} [Inhabited σ] (w : List (Int × σ)) : ∀ (f i : Nat), (backF w f i).length ≤ f
 | 0, _ => Nat.le_refl _
 | f + 1, i => by
  rw [backF_succ]; split
  ·simp only [List.length_cons]; have := backF_len w f (gd w i).1.toNat; omega
  ·exact Nat.zero_le _
theorem srF_len {σ : Type} [Inhabited σ] {Pd : Pl → Prop} {ts : Pl → List (Pl × σ)} (hts : ∀ p, Pd p → ∀ x ∈ ts p, Pd x.1) {fnd : Pl → Bool} {p0 : Pl} (hp0 : Pd p0) {N : Nat} (hN : ∀ l : List Pl, l.Nodup → (∀ p ∈ l, Pd p) → l.length ≤ N) {rk : σ → Nat} (hr : ∀ p, Pd p → (ts p).Pairwise fun a b => rk a.2 < rk b.2) : (srF ts fnd N p0).1.length ≤ N := by
 obtain ⟨h1, h2⟩ := srF_met hts hp0 N (fnd := fnd)
 have h3 := hN _ h1 h2
 have hg := goF_sem0 (rk := rk) hts hr hN fnd hp0
 unfold srF at *
 generalize goF ts fnd (N + 1) 0 ⟨[p0], [(-1, default)]⟩ = r at *
 obtain ⟨k, st⟩ := r
 cases k with
 | none => exact Nat.zero_le _
 | some k =>
  have h4 := (hg.some' k E).2.1
  simp only [List.length_take, List.length_reverse] at h3 h4 ⊢
  have := backF_len st.w (k + 1) k
  omega
theorem find_few {n : Nn} (hok : NnOk n) {f : Flr} {m : PM} (hp : PMok m) {x to : Nat} (hx : x < n.nodes.length) : (findF n f m x to).1.length ≤ 2400 := by
 unfold findF
 split
 ·exact Nat.zero_le _
 ·split
  ·exact Nat.le_trans (srF_len (moves_okE hok hp) (p0_ok hp hx) (pl_few n m) (rk := id) (fun p _ => moves_pw n f m p)) (NPl_le hok hp)
  ·exact Nat.zero_le _
end Go.Proofs.YtkdolgnpkjihpaaGreatDoor
