/-
  Walk of Rules.
-/
import Derived.Test.YtdbffighngmibaaVg
namespace Go.Proofs.Ytdbffighngmibaa
open Go.RowKit
set_option linter.unusedVariables false
set_option linter.unusedSimpArgs false
theorem bd56_0_1_2 (a0 : Int) (a1 : Int) (a2 : Int) (a3 : Int) (a4 : Int) (a5 : Int) (a6 : Int) (a7 : Int) (a8 : Int) (a9 : Int) (a10 : Int) (a11 : Int) (a12 : Int) (a13 : Int) (a14 : Int) (a15 : Int) (a16 : Int) (a17 : Int) (a18 : Int) (a19 : Int) (a20 : Int) (a21 : Int) (w : World) : (Instr.build 56 #[(0, .int .i64 a0), (1, .agg #[.int .i64 a1, .int .i64 a2, .int .i64 a3, .int .i64 a4, .int .i64 a5, .int .i64 a6, .int .i64 a7, .int .i64 a8, .int .i64 a9, .int .i64 a10, .int .i64 a11, .int .i64 a12, .int .i64 a13, .int .i64 a14, .int .i64 a15, .int .i64 a16, .int .i64 a17, .int .i64 a18, .int .i64 a19, .int .i64 a20]), (2, .int .i64 a21)]).run Try.prog w = .ok (.agg #[.int .i64 a0, .int .i64 a1, .int .i64 a2, .int .i64 a3, .int .i64 a4, .int .i64 a5, .int .i64 a6, .int .i64 a7, .int .i64 a8, .int .i64 a9, .int .i64 a10, .int .i64 a11, .int .i64 a12, .int .i64 a13, .int .i64 a14, .int .i64 a15, .int .i64 a16, .int .i64 a17, .int .i64 a18, .int .i64 a19, .int .i64 a20, .int .i64 a21, .slice none 0 0]) w := by kernel_rfl
theorem bd65_z  (w : World) : (Instr.build 65 #[]).run Try.prog w = .ok (.agg #[.int .i64 0, .int .i64 0, .int .i64 0, .int .i64 0, .int .i64 0, .int .i64 0, .int .i64 0, .int .i64 0, .int .i64 0, .int .i64 0, .int .i64 0, .int .i64 0, .int .i64 0, .int .i64 0, .int .i64 0, .int .i64 0, .int .i64 0, .int .i64 0, .int .i64 0, .int .i64 0]) w := by kernel_rfl
theorem bd67_0_1 (a0 : Int) (a1 : Int) (a2 : Int) (a3 : Int) (a4 : Int) (a5 : Int) (a6 : Int) (a7 : Int) (a8 : Int) (a9 : Int) (a10 : Int) (a11 : Int) (a12 : Int) (a13 : Int) (a14 : Int) (a15 : Int) (a16 : Int) (a17 : Int) (a18 : Int) (a19 : Int) (a20 : Int) (w : World) : (Instr.build 67 #[(0, .int .i64 a0), (1, .agg #[.int .i64 a1, .int .i64 a2, .int .i64 a3, .int .i64 a4, .int .i64 a5, .int .i64 a6, .int .i64 a7, .int .i64 a8, .int .i64 a9, .int .i64 a10, .int .i64 a11, .int .i64 a12, .int .i64 a13, .int .i64 a14, .int .i64 a15, .int .i64 a16, .int .i64 a17, .int .i64 a18, .int .i64 a19, .int .i64 a20])]).run Try.prog w = .ok (.agg #[.int .i64 a0, .int .i64 a1, .int .i64 a2, .int .i64 a3, .int .i64 a4, .int .i64 a5, .int .i64 a6, .int .i64 a7, .int .i64 a8, .int .i64 a9, .int .i64 a10, .int .i64 a11, .int .i64 a12, .int .i64 a13, .int .i64 a14, .int .i64 a15, .int .i64 a16, .int .i64 a17, .int .i64 a18, .int .i64 a19, .int .i64 a20]) w := by kernel_rfl
theorem fa100_0 (b o : Nat) (w : World) : (Instr.fieldAt 100 (.pointer (some ⟨b, o, none⟩)) 0).run Try.prog w = .ok (.pointer (some ⟨b, o, none⟩)) w := by kernel_rfl
theorem fa100_1 (b o : Nat) (w : World) : (Instr.fieldAt 100 (.pointer (some ⟨b, o, none⟩)) 1).run Try.prog w = .ok (.pointer (some ⟨b, o + 1, none⟩)) w := by kernel_rfl
theorem rules_s {w0 : World} {H : List (Nat × Obj)} (n : Nm) (hn : NetM w0 H n) (q : Option Addr) (cap : Nat) (l : List Wm) (hw : WaysM w0 H q l) (hg : Gw n l) (hl5 : l.length ≤ 100000) (q2 : Option Addr) (cap2 : Nat) (tg : List Int) (ht : IntArr w0 H q2 tg) (htl : tg.length ≤ 100000) (hel : tg.length = l.length) (hrt : rgtF n.links [] (l.map (·.way)) tg = true) (hN : n.nodes.length ≤ 1000000) (hl3 : l.length ≤ 1000) (hsm : ∀ m ∈ l, m.way.links.length + 1 ≤ 100) (top : Int) :
    FSpec Try.prog w0 18 #[.agg (encNm n).toArray, .slice q l.length cap, .slice q2 tg.length cap2, .int .i64 top] H (fun v H' => ∃ (d : Sl) (ts : List Tb) (e : Int), v = .tuple #[slV d ts.length, .int .i64 e] ∧ SlOk d ts.length 1 ∧ (∀ t ∈ ts, SlOk t.d t.rs.length 23) ∧ H' = tsH ts ++ (slH d (ts.flatMap encTb) 51 ++ H) ∧ rulesRes n.nodes.length top (usedF tg) (planR n.links (pairs l tg)) = (ts.map (fun t => t.rs.map (·.r)), e)) := by
  refine fn_spec Try.func18 rfl Try.ntmps18 rfl ?_
  have hln := hn.ln
  have hrc := rgt_cons hg hel hrt
  have hmd : madF n.links [] (l.map (·.way)) tg = true := by rw [rgtF_eq] at hrt; simp at hrt; exact hrt.2
  refine j_seq (j_region (e_ (eff_box (T rfl) cs_) ?_ rfl))
  rintro _ _ ⟨n4, rfl, rfl⟩
  refine y_ (yl_assign ev_c) (y_ (yl_assign ev_c) (jl_nil (q_then (j_seq (j_seq (j_region (y_ (yl_move (T rfl)) (y_ (yl_call (.cons (T rfl) (.cons ev_c (.cons ev_c .nil))) Try.call38 (fun H' hs => within_s _ _ _)) ?_ rfl) rfl)))))) rfl) rfl
  first | refine jl_y (yl_not_d (T rfl)) rfl gd_n ?_ | refine jl_y (yl_not (T rfl)) rfl gd_n ?_
  refine jl_nil (q_then ?_)
  first | refine j_cond_d (at_f rfl) (fun c22 => ?_) (fun c22 => ?_) | refine j_cond (at_f rfl) (fun c22 => ?_) (fun c22 => ?_)
  · refine j_seq (j_region (y_ (yl_assign ev_c) (y_ (yl_assign ev_c) (jl_nil (q_then (j_ret (q_then_ret (q_ret rfl (.tmp (at_f rfl) (.tmp (at_f rfl) .nil)) ?_))))) rfl) rfl))
    exact ⟨H, ⟨.nil, [], 1, rfl, rfl, by simp, rfl, by rw [rules_arg (by omega)]; rfl⟩, sbt⟩
  · refine j_skip (q_then (j_seq (j_region (y_ (yl_loadA (T rfl) Try.isAgg26 Try.sizeOf26 rfl (by first | exact cs_o)) ?_ rfl))))
    refine y_ (yl_move (T rfl)) (y_ (yl_move (T rfl)) (e_ (eff_call (.cons (T rfl) (.cons (T rfl) (.cons (T rfl) .nil))) Try.call45 (made_ok n hn.mono _ _ l hw.mono hg.good hl5 _ _ tg ht.m htl hel hmd)) ?_ rfl) rfl) rfl
    rintro _ _ ⟨r, pl, rfl, rfl, hrep, hplk⟩
    refine y_ (yl_move (T rfl)) (y_ (yl_extract (T rfl) rfl) (y_ (yl_extract (T rfl) rfl) (y_ (yl_assign (T rfl)) (y_ (yl_assign (T rfl)) (jl_nil (q_then (j_seq (j_region (y_ (yl_assign ev_f) (jl_nil (q_then (j_seq (j_region (y_ (yl_fa0 (T rfl) fa26_0) (y_ (yl_load (T rfl) Try.isAgg22 (by first | exact c_o)) ?_ rfl) rfl))))) rfl))))) rfl) rfl) rfl) rfl) rfl
    refine y_ (yl_len (T rfl) Try.runUnderlying22) (e_ (eff_makeSlice (by' := 24) (T rfl) Try.runUnderlying39 Try.sizeOf51 Try.typeInfo51 rfl Try.zeroValue51 rfl (by omega) (by omega)) ?_ rfl) rfl
    rintro _ _ ⟨n33, rfl, rfl⟩
    refine y_ (yl_assign (T rfl)) (jl_nil (q_then (j_seq (j_seq (j_region (y_ (yl_move (T rfl)) (e_ (eff_call (.cons (T rfl) .nil) Try.call52 (keys_s _)) ?_ rfl) rfl)))))) rfl
    rintro _ _ ⟨n35, rfl, rfl⟩
    have hpll : pl.length ≤ 100000 := by
      have := hplk.len 100 hsm
      omega
    have hkb : ∀ e ∈ pl, 1 ≤ e.1.1 ∧ e.1.1 ≤ 65535 := fun e he => by
      obtain ⟨h, hh⟩ := Option.isSome_iff_exists.1 ((look_mem pl e.1).2 (List.mem_map.2 ⟨e, he, rfl⟩))
      have h2 : look pl e.1 = planR n.links (pairs l tg) e.1.1 e.1.2 := hrep e.1.1 e.1.2
      rw [hh] at h2
      exact (plan_dom hg hel hrc.2 h2.symm).1
    refine y_ (yl_move (T rfl)) ?_ rfl
    refine e_ (eff_call (.cons (T rfl) (.cons (T rfl) .nil)) Try.call51 (sortedF_s _ r pl (by repeat (first | exact fnd_h | refine fnd_t ?_ | refine fnd_a ?_)) (by repeat (first | exact fnd_h | refine fnd_t ?_ | refine fnd_a ?_)) (by omega) hkb)) ?_ rfl
    rintro _ _ ⟨dk, ks, rfl, hokk, ⟨k0, hen, hpm⟩, hpw, rfl⟩
    have hall := tblP_all hg hel hrc.2 hrep hplk hen hpm hpw
    have hkl : ks.length ≤ 100000 := by have h1 := hpm.length_eq; have h2 := keysEn_len hen; omega
    have hks : ∀ k, k < ks.length → ∃ h, look pl (gd ks k) = some h ∧ planR n.links (pairs l tg) (gd ks k).1 (gd ks k).2 = some h ∧ (1 ≤ (gd ks k).1 ∧ (gd ks k).1 ≤ 65535) ∧ (0 ≤ (gd ks k).2 ∧ (gd ks k).2 < n.nodes.length) ∧ (h.link = -1 ∨ 0 ≤ h.link) := fun k hk => by
      have h1 : gd ks k ∈ pl.map (·.1) := (hpm.trans (keysEn_perm hen)).mem_iff.1 (gd_mem hk)
      obtain ⟨h, hh⟩ := Option.isSome_iff_exists.1 ((look_mem _ _).2 h1)
      have h2 : look pl (gd ks k) = planR n.links (pairs l tg) (gd ks k).1 (gd ks k).2 := hrep _ _
      rw [hh] at h2
      have h3 := plan_dom hg hel hrc.2 h2.symm
      exact ⟨h, hh, h2.symm, h3.1, h3.2.1, h3.2.2.1⟩
    refine y_ (yl_len (T rfl) Try.runUnderlying102) (y_ (yl_move ev_c) (jl_nil (q_then (j_keep [(3, _), (10, _), (13, _), (37, _), (38, _), (39, _)] ⟨at_f rfl, at_f rfl, at_f rfl, at_f rfl, at_f rfl, at_f rfl, trivial⟩ (j_block ?_)))) rfl) rfl
    refine j_loopC (X := Nat × List Tb) (V := fun ⟨k, ts⟩ => [(39, .int .i64 (k : Nat))]) (C := [(3, _), (10, _), (13, _), (37, _), (38, _)]) (G := fun ⟨k, ts⟩ => tsH ts ++ (slH dk (ks.flatMap encPl) 100 ++ ((n35, Cl [.map (some r)] 87) :: (n33, Cl (ts.flatMap encTb) 51) :: (r, mapO encK2 encHv pl) :: (n4, Cl (encNm n) 26) :: H))) (φ := fun ⟨k, ts⟩ => k ≤ ks.length ∧ ts.length = n.nodes.length ∧ (∀ t ∈ ts, SlOk t.d t.rs.length 23) ∧ ∀ j : Nat, j < n.nodes.length → (gd ts j).rs.map (·.r) = tblP top (planR n.links (pairs l tg)) (ks.take k) j ∧ ((gd ts j).rs.length : Int) ≤ top ∧ (gd ts j).rs.length ≤ 4000) (μ := fun ⟨k, ts⟩ => ks.length - k) (x0 := (0, List.replicate n.nodes.length ⟨.nil, []⟩)) ?_ ⟨at_f rfl, at_f rfl, at_f rfl, at_f rfl, at_f rfl, trivial⟩ ⟨(by first | exact at_f rfl | (refine at_e (at_f rfl) (vint ?_); omega) | (refine at_e (at_f rfl) ?_; simp; done)), trivial⟩ (by simp only []; rw [ts_nil, ts_zero]; exact sb0) ?_
    · refine ⟨Nat.zero_le _, by simp, fun t ht2 => ?_, fun j hj => ?_⟩
      · rw [List.eq_of_mem_replicate ht2]; rfl
      · rw [gd_getElem (by simpa using hj)]; simp [tblP, tblK]; omega
    rintro ⟨k, ts⟩ ⟨hk, htl3, htok, htab⟩
    refine j_seq (j_region (y_ (yl_lss (T rfl) (T rfl)) (jl_nil (q_then (j_seq ?_))) rfl))
    first | refine j_cond_d (at_f rfl) (fun c40 => ?_) (fun c40 => ?_) | refine j_cond (at_f rfl) (fun c40 => ?_) (fun c40 => ?_)
    · obtain ⟨h, hlk, hpf, hpt, hpn, hlnk⟩ := hks k (by omega)
      obtain ⟨hjt, hjl1, hjl2⟩ := htab (gd ks k).2.toNat (by omega)
      have hjc : (((gd ks k).2.toNat : Nat) : Int) = (gd ks k).2 := by omega
      have hokj := htok (gd ts (gd ks k).2.toNat) (gd_mem (by omega))
      refine j_perm (ts_expose (ts := ts) (j := (gd ks k).2.toNat) (by omega) _) ?_
      refine j_skip (q_then (j_seq (j_block (j_seq (j_region (y_ (yl_ixQ (T rfl) (T rfl) Try.runUnderlying102 Try.sizeOf100 (by omega) (by first | exact rfl | exact hokk.bas (by omega))) ?_ rfl))))))
      refine y_ (yl_loadA (T rfl) Try.isAgg100 Try.sizeOf100 rfl (by first | exact cs_m (Arr.cs (sl_arr (w0 := w0) (enc := encPl) (sz := 2) (e := 100) (X := H) (fun _ => rfl) hokk) (i := k) (by omega)) | exact cs_o)) ?_ rfl
      refine e_ (eff_alloc Try.zeroValue100 cs_) ?_ rfl
      rintro _ _ ⟨n15, rfl, rfl⟩
      first | refine jl_e (eff_sW (T rfl) (T rfl) Try.sizeOf100) rfl gd_n ?_
      rintro _ _ ⟨rfl, rfl⟩
      refine jl_nil (q_then (j_seq (j_any 11 [(0, true), (1, true), (2, true), (3, true), (4, true), (5, true), (6, true), (7, true), (8, false), (9, false), (10, true)] _ mixd (by kernel_rfl) sb0 ?_)))
      refine o_y rfl (yl_move (T rfl)) (o_y rfl (yl_loadA (T rfl) Try.isAgg100 Try.sizeOf100 rfl (by first | exact cs_o)) ?_ rfl gd_n) rfl gd_n
      refine o_y rfl (yl_lookH1 hlk (T rfl) (T rfl) rfl (by repeat (first | exact fnd_h | refine fnd_t ?_ | refine fnd_a ?_))) ?_ rfl gd_n
      refine o_y rfl (yl_move (T rfl)) (o_y rfl (yl_fa (T rfl) fa100_1) (o_y rfl (yl_load (T rfl) Try.isAgg3 (by first | exact c_o)) ?_ rfl gd_n) rfl gd_n) rfl gd_n
      refine o_y rfl (yl_ixR (T rfl) (T rfl) Try.runUnderlying39 Try.sizeOf51 (by omega) (by first | exact rfl | exact hokk.bas (by omega))) ?_ rfl gd_n
      refine o_y rfl (yl_load (T rfl) Try.isAgg51 (by first | exact c_o | exact c_tb (j := (gd ks k).2.toNat) (by repeat (first | exact fnd_h | refine fnd_t ?_ | refine fnd_a ?_)) (by omega))) ?_ rfl gd_n
      refine o_e rfl (eff_alloc Try.zeroValue72 cs_) ?_ rfl gd_n
      rintro _ _ ⟨n16, rfl, rfl⟩
      refine ⟨sbt, ?_⟩
      first | refine o_e rfl (eff_sW (T rfl) (T rfl) Try.sizeOf72) ?_ rfl gd_n
      rintro _ _ ⟨rfl, rfl⟩
      refine ⟨sbt, (o_y rfl (yl_assign (T rfl)) (jo_nil rfl (jl_nil (q_then (j_seq (j_any 12 [(0, true), (1, true), (2, true), (3, true), (4, true), (5, true), (6, true), (7, true), (8, true), (9, true), (10, true), (11, false)] _ mixd (by kernel_rfl) sb0 ?_))))) rfl gd_n)⟩
      refine o_y rfl (yl_move (T rfl)) (o_y rfl (yl_move (T rfl)) (o_y rfl (yl_len (T rfl) Try.runUnderlying51) (o_y rfl (yl_sub (T rfl) (T rfl) (by omega)) ?_ rfl gd_n) rfl gd_n) rfl gd_n) rfl gd_n
      refine o_y rfl (yl_build .nil (bd65_z)) (o_y rfl (yl_fa0 (T rfl) fa100_0) (o_y rfl (yl_load (T rfl) Try.isAgg3 (by first | exact c_o)) ?_ rfl gd_n) rfl gd_n) rfl gd_n
      refine o_y rfl (yl_call (.cons (T rfl) (.cons ev_c (.cons (T rfl) .nil))) Try.call53 (fun H' hs => set9_s _ _ _ _ _ _ _ _ _ _ _ _ _ _ _ _ _ _ _ _ _ )) (o_y rfl (yl_fa (T rfl) fa72_3) (o_y rfl (yl_load (T rfl) Try.isAgg3 (by first | exact c_o)) ?_ rfl gd_n) rfl gd_n) rfl gd_n
      refine o_y rfl (yl_build (.cons (T rfl) (.cons (T rfl) (.cons (T rfl) .nil))) (bd56_0_1_2 _ _ _ _ _ _ _ _ _ _ _ _ _ _ _ _ _ _ _ _ _ _)) (o_e rfl (eff_alloc Try.zeroValue56 cs_) ?_ rfl gd_n) rfl gd_n
      rintro _ _ ⟨n18, rfl, rfl⟩
      refine ⟨sbt, (jo_nil rfl ?_)⟩
      first | refine jl_e (eff_sW (T rfl) (T rfl) Try.sizeOf56) rfl gd_n ?_
      rintro _ _ ⟨rfl, rfl⟩
      refine jl_nil (q_then (j_keep [(3, _), (10, _), (13, _), (15, _), (16, _), (17, _), (18, _), (37, _), (38, _), (39, _)] ⟨at_f rfl, at_f rfl, at_f rfl, at_f rfl, at_f rfl, at_f rfl, at_f rfl, at_f rfl, at_f rfl, at_f rfl, trivial⟩ (j_seq (j_region (y_ (yl_build .nil (bd65_z)) (y_ (yl_fa (T rfl) fa72_1) (y_ (yl_load (T rfl) Try.isAgg3 (by first | exact c_o)) ?_ rfl) rfl) rfl)))))
      refine y_ (yl_call (.cons (T rfl) (.cons ev_c (.cons (T rfl) .nil))) Try.call53 (fun H' hs => set0_s _ _ _ _ _ _ _ _ _ _ _ _ _ _ _ _ _ _ _ _ _ )) (e_ (eff_alloc Try.zeroValue65 cs_) ?_ rfl) rfl
      rintro _ _ ⟨n19, rfl, rfl⟩
      first | refine jl_e (eff_sW (T rfl) (T rfl) Try.sizeOf65) rfl gd_n ?_
      rintro _ _ ⟨rfl, rfl⟩
      refine jl_nil (q_then (j_seq (j_seq (j_region (y_ (yl_fa0 (T rfl) fa72_0) (y_ (yl_load (T rfl) Try.isAgg3 (by first | exact c_o)) ?_ rfl) rfl)))))
      refine y_ (yl_lss (T rfl) ev_c) (jl_nil (q_then ?_)) rfl
      first | refine j_cond_d (at_f rfl) (fun c68 => ?_) (fun c68 => ?_) | refine j_cond (at_f rfl) (fun c68 => ?_) (fun c68 => ?_)
      · refine j_region (y_ (yl_loadA (T rfl) Try.isAgg65 Try.sizeOf65 rfl (by first | exact cs_o)) ?_ rfl)
        refine y_ (yl_fa (T rfl) fa72_2) (y_ (yl_load (T rfl) Try.isAgg3 (by first | exact c_o)) ?_ rfl) rfl
        refine y_ (yl_call (.cons (T rfl) (.cons ev_c (.cons (T rfl) .nil))) Try.call53 (fun H' hs => set9_s _ _ _ _ _ _ _ _ _ _ _ _ _ _ _ _ _ _ _ _ _ )) ?_ rfl
        first | refine jl_e (eff_sW (T rfl) (T rfl) Try.sizeOf65) rfl gd_n ?_
        rintro _ _ ⟨rfl, rfl⟩
        refine jl_nil (q_then (j_keep [(3, _), (10, _), (13, _), (15, _), (16, _), (17, _), (18, _), (19, _), (37, _), (38, _), (39, _)] ⟨at_f rfl, at_f rfl, at_f rfl, at_f rfl, at_f rfl, at_f rfl, at_f rfl, at_f rfl, at_f rfl, at_f rfl, at_f rfl, trivial⟩ (j_seq (j_region (y_ (yl_fa0 (T rfl) fa72_0) (y_ (yl_load (T rfl) Try.isAgg3 (by first | exact c_o)) ?_ rfl) rfl)))))
        refine y_ (yl_loadA (T rfl) Try.isAgg65 Try.sizeOf65 rfl (by first | exact cs_o)) ?_ rfl
        refine y_ (yl_build (.cons (T rfl) (.cons (T rfl) .nil)) (bd67_0_1 _ _ _ _ _ _ _ _ _ _ _ _ _ _ _ _ _ _ _ _ _)) (e_ (eff_bslice (.cons (T rfl) .nil) (bs64_1_0 _ _ _ _ _ _ _ _ _ _ _ _ _ _ _ _ _ _ _ _ _)) ?_ rfl) rfl
        rintro _ _ ⟨n77, rfl, rfl⟩
        refine e_ (eff_bslice (.cons (T rfl) .nil) (bs54_1_0 _ _ _)) ?_ rfl
        rintro _ _ ⟨n78, rfl, rfl⟩
        refine y_ (yl_fa (T rfl) fa56_3) ?_ rfl
        first | refine jl_e (eff_sW (T rfl) (T rfl) Try.sizeOf54) rfl gd_n ?_ | refine jl_e (eff_s1 (T rfl) (T rfl) rfl Try.sizeOf54) rfl gd_n ?_ | refine jl_e (eff_s1r (T rfl) (T rfl) rfl Try.sizeOf54) rfl gd_n ?_
        rintro _ _ ⟨rfl, rfl⟩
        refine jl_nil (q_then (j_seq (j_any 8 [(0, true), (1, true), (2, true), (3, true), (4, true), (5, false), (6, false), (7, true)] _ mixd (by kernel_rfl) (List.Sublist.cons_cons _ (List.Sublist.cons_cons _ (List.Sublist.cons_cons _ (List.Sublist.cons_cons _ (List.Sublist.cons_cons _ (List.Sublist.cons_cons _ (List.sublist_append_right _ _))))))) ?_)))
        refine o_y rfl (yl_move (T rfl)) (o_y rfl (yl_fa (T rfl) fa100_1) (o_y rfl (yl_load (T rfl) Try.isAgg3 (by first | exact c_o)) ?_ rfl gd_n) rfl gd_n) rfl gd_n
        refine o_y rfl (yl_move (T rfl)) (o_y rfl (yl_loadA (T rfl) Try.isAgg56 Try.sizeOf56 rfl (by first | exact cs_o)) ?_ rfl gd_n) rfl gd_n
        refine o_e rfl (eff_bslice (.cons (T rfl) .nil) (bs51_1_0 _ _ _ _ _ _ _ _ _ _ _ _ _ _ _ _ _ _ _ _ _ _ _ _ _)) ?_ rfl gd_n
        rintro _ _ ⟨n85, rfl, rfl⟩
        refine ⟨sbt, (o_e rfl (eff_app1_at ((⟨⟨top - (gd ts (gd ks k).2.toNat).rs.length, (gd ks k).1, h⟩, n78, n77⟩ : Rm)) (by' := 200) (by repeat (first | exact LocL.h | apply LocL.t | apply LocL.a)) (T rfl) (T rfl) Try.runUnderlying51 Try.runUnderlying51 Try.sizeOf56 Try.typeInfo56 rfl Try.zeroValue56 rfl (fun _ => rfl) rfl hokj (by decide) (by omega)) ?_ rfl gd_n)⟩
        rintro _ _ ⟨d', rfl, hok', rfl⟩
        refine ⟨sbt, (o_y rfl (yl_ixR (T rfl) (T rfl) Try.runUnderlying39 Try.sizeOf51 (by omega) (by first | exact rfl | exact hokk.bas (by omega))) ?_ rfl gd_n)⟩
        refine jo_nil rfl (e_ (eff_sT (ts := ts) (j := (gd ks k).2.toNat) (⟨d', (gd ts (gd ks k).2.toNat).rs ++ [(⟨⟨top - (gd ts (gd ks k).2.toNat).rs.length, (gd ks k).1, h⟩, n78, n77⟩ : Rm)]⟩ : Tb) (T rfl) (T rfl) (by simp) Try.sizeOf51 (by omega) (by repeat (first | exact Upd.h | apply Upd.t | apply upd_a))) ?_ rfl)
        rintro _ _ ⟨rfl, rfl⟩
        refine jl_nil (q_then (j_keep [(3, _), (10, _), (13, _), (17, _), (37, _), (38, _), (39, _)] ⟨at_f rfl, at_f rfl, at_f rfl, at_f rfl, at_f rfl, at_f rfl, at_f rfl, trivial⟩ (j_seq (j_region (y_ (yl_move (T rfl)) (y_ (yl_len (T rfl) Try.runUnderlying51) (y_ (yl_move (T rfl)) (y_ (yl_min (T rfl) ev_c) (y_ (yl_geq (T rfl) (T rfl)) (jl_nil (q_then ?_)) rfl) rfl) rfl) rfl) rfl)))))
        first | refine j_cond_d (at_f rfl) (fun c92 => ?_) (fun c92 => ?_) | refine j_cond (at_f rfl) (fun c92 => ?_) (fun c92 => ?_)
        · refine j_seq (j_region (y_ (yl_assign ev_c) (y_ (yl_assign ev_c) (jl_nil (q_then (j_ret (q_block_ret (q_then_ret (q_loop_ret (q_block_ret (q_then_ret (q_ret rfl (.tmp (at_f rfl) (.tmp (at_f rfl) .nil)) ?_))))))))) rfl) rfl))
          have hlt : (gd ts (gd ks k).2.toNat).rs.length + 1 ≤ (tblP top (planR n.links (pairs l tg)) ks (gd ks k).2).length := by
            have h1 := tblP_le top (planR n.links (pairs l tg)) ks (k + 1) (gd ks k).2
            rw [tblP_step (by omega), if_pos rfl, tblS_some (f := fun t => planR n.links (pairs l tg) t (gd ks k).2) hpf] at h1
            rw [hjc] at hjt
            rw [← hjt] at h1
            simpa using h1
          rw [hall] at hlt
          have hlt2 : (gd ts (gd ks k).2.toNat).rs.length + 1 ≤ (tblK top (fun t => planR n.links (pairs l tg) t (((gd ks k).2.toNat : Nat) : Int)) (usedF tg)).length := by rw [hjc]; exact hlt
          clear hlt
          exact ⟨H, ⟨.nil, [], 2, rfl, rfl, by simp, rfl, by rw [rules_full (k := (gd ks k).2.toNat) (by omega) (by omega) (by omega)]; rfl⟩, sbt⟩
        · refine j_skip (q_block (q_then (j_region (y_ (yl_add (T rfl) ev_c (by omega)) ?_ rfl))))
          refine y_ (yl_move (T rfl)) (jl_nil ?_) rfl
          have ea : encAlt h = encAltE h.link h.port h.tag := by unfold encAlt; rw [if_pos (by omega)]
          have hrm : ([(n78, Cl [outV n77] 64), (n77, Cl (encAltE h.link h.port h.tag) 67)] : List (Nat × Obj)) = rmH (⟨⟨top - (gd ts (gd ks k).2.toNat).rs.length, (gd ks k).1, h⟩, n78, n77⟩ : Rm) := by simp only [rmH, ea]
          refine jq_less (H' := [(n78, Cl [outV n77] 64), (n77, Cl (encAltE h.link h.port h.tag) 67)] ++ (slH d' (((gd ts (gd ks k).2.toNat).rs ++ [(⟨⟨top - (gd ts (gd ks k).2.toNat).rs.length, (gd ks k).1, h⟩, n78, n77⟩ : Rm)]).flatMap encRm) 56 ++ ((gd ts (gd ks k).2.toNat).rs.flatMap rmH ++ (tsH (restT ts (gd ks k).2.toNat) ++ (slH dk (ks.flatMap encPl) 100 ++ ((n35, Cl [.map (some r)] 87) :: (n33, Cl ((ts.set (gd ks k).2.toNat ⟨d', (gd ts (gd ks k).2.toNat).rs ++ [(⟨⟨top - (gd ts (gd ks k).2.toNat).rs.length, (gd ks k).1, h⟩, n78, n77⟩ : Rm)]⟩).flatMap encTb) 51) :: (r, mapO encK2 encHv pl) :: (n4, Cl (encNm n) 26) :: H)))))) sbt ?_
          rw [hrm]
          refine jq_perm (ts_close (by omega) _ _ _ _) ?_
          refine q_loopC ((k + 1, (ts.set (gd ks k).2.toNat ⟨d', (gd ts (gd ks k).2.toNat).rs ++ [(⟨⟨top - (gd ts (gd ks k).2.toNat).rs.length, (gd ks k).1, h⟩, n78, n77⟩ : Rm)]⟩))) ?_ ?_ ⟨(by first | exact at_f rfl | (refine at_e (at_f rfl) (vint ?_); omega) | (refine at_e (at_f rfl) ?_; simp; done)), trivial⟩ ⟨at_f rfl, at_f rfl, at_f rfl, at_f rfl, at_f rfl, trivial⟩ ?_
          · have hmn : ¬ min top 4000 ≤ ((gd ts (gd ks k).2.toNat).rs.length : Int) := by omega
            refine ⟨by omega, by simp [htl3], ?_, fun i hi' => ?_⟩
            · intro t ht2
              rcases List.mem_or_eq_of_mem_set ht2 with h1 | h1
              · exact htok t h1
              · rw [h1]; simpa using hok'
            · rw [tblP_step (by omega)]
              by_cases e : i = (gd ks k).2.toNat
              · rw [e, gd_set _ (by omega), if_pos (by omega), hjc, tblS_some (f := fun t => planR n.links (pairs l tg) t (gd ks k).2) hpf]
                rw [hjc] at hjt
                rw [← hjt]
                refine ⟨by simp, ?_, ?_⟩ <;> simp <;> omega
              · rw [gd_set_ne _ e, if_neg (by omega)]
                exact htab i hi'
          · first | omega | (simp only []; omega)
          · exact sbt
      · refine j_skip (q_then (j_seq (j_region (y_ (yl_fa0 (T rfl) fa72_0) (y_ (yl_load (T rfl) Try.isAgg3 (by first | exact c_o)) ?_ rfl) rfl))))
        refine y_ (yl_loadA (T rfl) Try.isAgg65 Try.sizeOf65 rfl (by first | exact cs_o)) ?_ rfl
        refine y_ (yl_build (.cons (T rfl) (.cons (T rfl) .nil)) (bd67_0_1 _ _ _ _ _ _ _ _ _ _ _ _ _ _ _ _ _ _ _ _ _)) (e_ (eff_bslice (.cons (T rfl) .nil) (bs64_1_0 _ _ _ _ _ _ _ _ _ _ _ _ _ _ _ _ _ _ _ _ _)) ?_ rfl) rfl
        rintro _ _ ⟨n77, rfl, rfl⟩
        refine e_ (eff_bslice (.cons (T rfl) .nil) (bs54_1_0 _ _ _)) ?_ rfl
        rintro _ _ ⟨n78, rfl, rfl⟩
        refine y_ (yl_fa (T rfl) fa56_3) ?_ rfl
        first | refine jl_e (eff_sW (T rfl) (T rfl) Try.sizeOf54) rfl gd_n ?_ | refine jl_e (eff_s1 (T rfl) (T rfl) rfl Try.sizeOf54) rfl gd_n ?_ | refine jl_e (eff_s1r (T rfl) (T rfl) rfl Try.sizeOf54) rfl gd_n ?_
        rintro _ _ ⟨rfl, rfl⟩
        refine jl_nil (q_then (j_keep [(3, _), (10, _), (13, _), (15, _), (17, _), (18, _), (37, _), (38, _), (39, _)] ⟨at_f rfl, at_f rfl, at_f rfl, at_f rfl, at_f rfl, at_f rfl, at_f rfl, at_f rfl, at_f rfl, trivial⟩ (j_seq (j_any 8 [(0, true), (1, true), (2, true), (3, true), (4, true), (5, false), (6, false), (7, true)] _ mixd (by kernel_rfl) (List.Sublist.cons_cons _ (List.Sublist.cons_cons _ (List.Sublist.cons_cons _ (List.Sublist.cons_cons _ (List.Sublist.cons_cons _ (List.Sublist.cons_cons _ (List.sublist_append_right _ _))))))) ?_))))
        refine o_y rfl (yl_move (T rfl)) (o_y rfl (yl_fa (T rfl) fa100_1) (o_y rfl (yl_load (T rfl) Try.isAgg3 (by first | exact c_o)) ?_ rfl gd_n) rfl gd_n) rfl gd_n
        refine o_y rfl (yl_move (T rfl)) (o_y rfl (yl_loadA (T rfl) Try.isAgg56 Try.sizeOf56 rfl (by first | exact cs_o)) ?_ rfl gd_n) rfl gd_n
        refine o_e rfl (eff_bslice (.cons (T rfl) .nil) (bs51_1_0 _ _ _ _ _ _ _ _ _ _ _ _ _ _ _ _ _ _ _ _ _ _ _ _ _)) ?_ rfl gd_n
        rintro _ _ ⟨n85, rfl, rfl⟩
        refine ⟨sbt, (o_e rfl (eff_app1_at ((⟨⟨top - (gd ts (gd ks k).2.toNat).rs.length, (gd ks k).1, h⟩, n78, n77⟩ : Rm)) (by' := 200) (by repeat (first | exact LocL.h | apply LocL.t | apply LocL.a)) (T rfl) (T rfl) Try.runUnderlying51 Try.runUnderlying51 Try.sizeOf56 Try.typeInfo56 rfl Try.zeroValue56 rfl (fun _ => rfl) rfl hokj (by decide) (by omega)) ?_ rfl gd_n)⟩
        rintro _ _ ⟨d', rfl, hok', rfl⟩
        refine ⟨sbt, (o_y rfl (yl_ixR (T rfl) (T rfl) Try.runUnderlying39 Try.sizeOf51 (by omega) (by first | exact rfl | exact hokk.bas (by omega))) ?_ rfl gd_n)⟩
        refine jo_nil rfl (e_ (eff_sT (ts := ts) (j := (gd ks k).2.toNat) (⟨d', (gd ts (gd ks k).2.toNat).rs ++ [(⟨⟨top - (gd ts (gd ks k).2.toNat).rs.length, (gd ks k).1, h⟩, n78, n77⟩ : Rm)]⟩ : Tb) (T rfl) (T rfl) (by simp) Try.sizeOf51 (by omega) (by repeat (first | exact Upd.h | apply Upd.t | apply upd_a))) ?_ rfl)
        rintro _ _ ⟨rfl, rfl⟩
        refine jl_nil (q_then (j_seq (j_region (y_ (yl_move (T rfl)) (y_ (yl_len (T rfl) Try.runUnderlying51) (y_ (yl_move (T rfl)) (y_ (yl_min (T rfl) ev_c) (y_ (yl_geq (T rfl) (T rfl)) (jl_nil (q_then ?_)) rfl) rfl) rfl) rfl) rfl))))
        first | refine j_cond_d (at_f rfl) (fun c92 => ?_) (fun c92 => ?_) | refine j_cond (at_f rfl) (fun c92 => ?_) (fun c92 => ?_)
        · refine j_seq (j_region (y_ (yl_assign ev_c) (y_ (yl_assign ev_c) (jl_nil (q_then (j_keep [(8, _), (9, _)] ⟨at_f rfl, at_f rfl, trivial⟩ (j_ret (q_block_ret (q_then_ret (q_loop_ret (q_block_ret (q_then_ret (q_ret rfl (.tmp (at_f rfl) (.tmp (at_f rfl) .nil)) ?_)))))))))) rfl) rfl))
          have hlt : (gd ts (gd ks k).2.toNat).rs.length + 1 ≤ (tblP top (planR n.links (pairs l tg)) ks (gd ks k).2).length := by
            have h1 := tblP_le top (planR n.links (pairs l tg)) ks (k + 1) (gd ks k).2
            rw [tblP_step (by omega), if_pos rfl, tblS_some (f := fun t => planR n.links (pairs l tg) t (gd ks k).2) hpf] at h1
            rw [hjc] at hjt
            rw [← hjt] at h1
            simpa using h1
          rw [hall] at hlt
          have hlt2 : (gd ts (gd ks k).2.toNat).rs.length + 1 ≤ (tblK top (fun t => planR n.links (pairs l tg) t (((gd ks k).2.toNat : Nat) : Int)) (usedF tg)).length := by rw [hjc]; exact hlt
          clear hlt
          exact ⟨H, ⟨.nil, [], 2, rfl, rfl, by simp, rfl, by rw [rules_full (k := (gd ks k).2.toNat) (by omega) (by omega) (by omega)]; rfl⟩, sbt⟩
        · refine j_skip (q_block (q_then (j_region (y_ (yl_add (T rfl) ev_c (by omega)) ?_ rfl))))
          refine y_ (yl_move (T rfl)) (jl_nil ?_) rfl
          have ea : encAlt h = encAltN h.link h.port := by unfold encAlt; rw [if_neg (by omega)]
          have hrm : ([(n78, Cl [outV n77] 64), (n77, Cl (encAltN h.link h.port) 67)] : List (Nat × Obj)) = rmH (⟨⟨top - (gd ts (gd ks k).2.toNat).rs.length, (gd ks k).1, h⟩, n78, n77⟩ : Rm) := by simp only [rmH, ea]
          refine jq_less (H' := [(n78, Cl [outV n77] 64), (n77, Cl (encAltN h.link h.port) 67)] ++ (slH d' (((gd ts (gd ks k).2.toNat).rs ++ [(⟨⟨top - (gd ts (gd ks k).2.toNat).rs.length, (gd ks k).1, h⟩, n78, n77⟩ : Rm)]).flatMap encRm) 56 ++ ((gd ts (gd ks k).2.toNat).rs.flatMap rmH ++ (tsH (restT ts (gd ks k).2.toNat) ++ (slH dk (ks.flatMap encPl) 100 ++ ((n35, Cl [.map (some r)] 87) :: (n33, Cl ((ts.set (gd ks k).2.toNat ⟨d', (gd ts (gd ks k).2.toNat).rs ++ [(⟨⟨top - (gd ts (gd ks k).2.toNat).rs.length, (gd ks k).1, h⟩, n78, n77⟩ : Rm)]⟩).flatMap encTb) 51) :: (r, mapO encK2 encHv pl) :: (n4, Cl (encNm n) 26) :: H)))))) sbt ?_
          rw [hrm]
          refine jq_perm (ts_close (by omega) _ _ _ _) ?_
          refine q_loopC ((k + 1, (ts.set (gd ks k).2.toNat ⟨d', (gd ts (gd ks k).2.toNat).rs ++ [(⟨⟨top - (gd ts (gd ks k).2.toNat).rs.length, (gd ks k).1, h⟩, n78, n77⟩ : Rm)]⟩))) ?_ ?_ ⟨(by first | exact at_f rfl | (refine at_e (at_f rfl) (vint ?_); omega) | (refine at_e (at_f rfl) ?_; simp; done)), trivial⟩ ⟨at_f rfl, at_f rfl, at_f rfl, at_f rfl, at_f rfl, trivial⟩ ?_
          · have hmn : ¬ min top 4000 ≤ ((gd ts (gd ks k).2.toNat).rs.length : Int) := by omega
            refine ⟨by omega, by simp [htl3], ?_, fun i hi' => ?_⟩
            · intro t ht2
              rcases List.mem_or_eq_of_mem_set ht2 with h1 | h1
              · exact htok t h1
              · rw [h1]; simpa using hok'
            · rw [tblP_step (by omega)]
              by_cases e : i = (gd ks k).2.toNat
              · rw [e, gd_set _ (by omega), if_pos (by omega), hjc, tblS_some (f := fun t => planR n.links (pairs l tg) t (gd ks k).2) hpf]
                rw [hjc] at hjt
                rw [← hjt]
                refine ⟨by simp, ?_, ?_⟩ <;> simp <;> omega
              · rw [gd_set_ne _ e, if_neg (by omega)]
                exact htab i hi'
          · first | omega | (simp only []; omega)
          · exact sbt
    · refine j_exit (q_then_exit (q_loop_exit (q_block_hit (q_then (j_seq (j_region (y_ (yl_move (T rfl)) (y_ (yl_assign (T rfl)) (y_ (yl_assign ev_c) (jl_nil (q_then (j_ret (q_ret rfl (.tmp (at_f rfl) (.tmp (at_f rfl) .nil)) (⟨tsH ts ++ ((n33, Cl (ts.flatMap encTb) 51) :: H), ⟨.blk n33 n.nodes.length [], ts, 0, by rw [htl3]; rfl, ⟨by omega, by simp [htl3]⟩, htok, by simp [slH], ?_⟩, sbt⟩))))) rfl) rfl) rfl)))))))
      have hfull : ∀ j : Nat, j < n.nodes.length → (gd ts j).rs.map (·.r) = tblK top (fun t => planR n.links (pairs l tg) t j) (usedF tg) := fun j hj => by
        rw [← hall, (htab j hj).1, take_end (by omega)]
      refine rules_ok (by omega) (fun j hj => ?_) (by simp [htl3]) (fun j hj => by rw [gd_map (by omega)]; exact hfull j hj)
      have h1 := congrArg List.length (hfull j hj)
      have h2 := htab j hj
      rw [List.length_map] at h1
      omega
end Go.Proofs.Ytdbffighngmibaa
