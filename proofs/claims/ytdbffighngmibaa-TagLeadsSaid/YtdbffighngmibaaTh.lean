/-
  Walks of the checks of ways.
-/
import Derived.Test.YtdbffighngmibaaTg
namespace Go.Proofs.Ytdbffighngmibaa
open Go.RowKit
set_option linter.unusedVariables false
set_option linter.unusedSimpArgs false
theorem where_s {w0 : World} {H : List (Nat × Obj)} (n : Nm) (hn : NetM w0 H n) (hsm : n.nodes.length ≤ 1000000) (hse : n.edges.length ≤ 10000) (port : Int) (hp : -9223372036854775808 ≤ port ∧ port ≤ 9223372036854775807) :
    FSpec Try.prog w0 80 #[.agg (encNm n).toArray, .int .i64 port] H (Still (.int .i64 (whereF n port)) H) := by
  refine fn_spec Try.func80 rfl Try.ntmps80 rfl ?_
  have hll := hn.ll
  have hle := hn.le
  refine j_seq (j_region (e_ (eff_box (T rfl) cs_) ?_ rfl))
  rintro _ _ ⟨n2, rfl, rfl⟩
  refine y_ (yl_assign ev_c) (jl_nil (q_then (j_seq (j_block (j_seq (j_region (y_ (yl_move (T rfl)) (y_ (yl_fa (T rfl) fa26_1) (y_ (yl_load (T rfl) Try.isAgg23 (by first | exact c_o | exact c_m (hn.links.f (i := port.toNat) (by omega) rfl) | exact c_m (hn.edges.f (i := (port - 10000).toNat) (by omega) rfl))) ?_ rfl) rfl) rfl))))))) rfl
  refine y_ (yl_len (T rfl) Try.runUnderlying23) (y_ (yl_sub (T rfl) ev_c (by omega)) ?_ rfl) rfl
  refine y_ (yl_call (.cons (T rfl) (.cons ev_c (.cons (T rfl) .nil))) Try.call91 (fun H' hs => gwithin_s _ _ _)) (y_ (yl_assign (T rfl)) (jl_nil (q_then ?_)) rfl) rfl
  first | refine j_cond_d (at_f rfl) (fun c5 => ?_) (fun c5 => ?_) | refine j_cond (at_f rfl) (fun c5 => ?_) (fun c5 => ?_)
  · refine j_seq (j_region (y_ (yl_fa (T rfl) fa26_1) (y_ (yl_load (T rfl) Try.isAgg23 (by first | exact c_o | exact c_m (hn.links.f (i := port.toNat) (by omega) rfl) | exact c_m (hn.edges.f (i := (port - 10000).toNat) (by omega) rfl))) ?_ rfl) rfl))
    refine y_ (yl_move (T rfl)) (y_ (yl_ixR (T rfl) (T rfl) Try.runUnderlying23 Try.sizeOf63 (by omega) (by first | exact rfl | exact hn.links.b (i := port.toNat) (by omega) | exact hn.edges.b (i := (port - 10000).toNat) (by omega))) ?_ rfl) rfl
    refine y_ (yl_fa (T rfl) fa63_1) (y_ (yl_load (T rfl) Try.isAgg3 (by first | exact c_o | exact c_m (hn.links.f (i := port.toNat) (by omega) rfl) | exact c_m (hn.edges.f (i := (port - 10000).toNat) (by omega) rfl))) ?_ rfl) rfl
    refine y_ (yl_assign (T rfl)) (jl_nil (q_then (j_ret (q_block_ret (q_then_ret (q_ret rfl (.tmp (at_f rfl) .nil) ?_)))))) rfl
    exact ⟨_, ⟨by unfold whereF; first | (rw [if_pos (by omega)]; rfl) | (rw [if_neg (by omega), if_pos (by omega)]; rfl) | (rw [if_neg (by omega), if_neg (by omega), if_pos (by omega)]; rfl) | (rw [if_neg (by omega), if_neg (by omega), if_neg (by omega)]; rfl), rfl⟩, sbt⟩
  · refine j_seq (j_region (y_ (yl_move (T rfl)) (y_ (yl_fa (T rfl) fa26_2) (y_ (yl_load (T rfl) Try.isAgg24 (by first | exact c_o | exact c_m (hn.links.f (i := port.toNat) (by omega) rfl) | exact c_m (hn.edges.f (i := (port - 10000).toNat) (by omega) rfl))) ?_ rfl) rfl) rfl))
    refine y_ (yl_len (T rfl) Try.runUnderlying24) (y_ (yl_add ev_c (T rfl) (by omega)) ?_ rfl) rfl
    refine y_ (yl_sub (T rfl) ev_c (by omega)) ?_ rfl
    refine y_ (yl_call (.cons (T rfl) (.cons ev_c (.cons (T rfl) .nil))) Try.call91 (fun H' hs => gwithin_s _ _ _)) (y_ (yl_assign (T rfl)) (jl_nil (q_then ?_)) rfl) rfl
    first | refine j_cond_d (at_f rfl) (fun c18 => ?_) (fun c18 => ?_) | refine j_cond (at_f rfl) (fun c18 => ?_) (fun c18 => ?_)
    · refine j_seq (j_region (y_ (yl_fa (T rfl) fa26_2) (y_ (yl_load (T rfl) Try.isAgg24 (by first | exact c_o | exact c_m (hn.links.f (i := port.toNat) (by omega) rfl) | exact c_m (hn.edges.f (i := (port - 10000).toNat) (by omega) rfl))) ?_ rfl) rfl))
      refine y_ (yl_move (T rfl)) (y_ (yl_sub (T rfl) ev_c (by omega)) ?_ rfl) rfl
      refine y_ (yl_ixR (T rfl) (T rfl) Try.runUnderlying24 Try.sizeOf124 (by omega) (by first | exact rfl | exact hn.links.b (i := port.toNat) (by omega) | exact hn.edges.b (i := (port - 10000).toNat) (by omega))) ?_ rfl
      refine y_ (yl_fa (T rfl) fa124_1) (y_ (yl_load (T rfl) Try.isAgg3 (by first | exact c_o | exact c_m (hn.links.f (i := port.toNat) (by omega) rfl) | exact c_m (hn.edges.f (i := (port - 10000).toNat) (by omega) rfl))) ?_ rfl) rfl
      refine y_ (yl_assign (T rfl)) (jl_nil (q_then (j_keep [(4, _)] ⟨at_f rfl, trivial⟩ (j_ret (q_block_ret (q_then_ret (q_ret rfl (.tmp (at_f rfl) .nil) ?_))))))) rfl
      exact ⟨_, ⟨by unfold whereF; first | (rw [if_pos (by omega)]; rfl) | (rw [if_neg (by omega), if_pos (by omega)]; rfl) | (rw [if_neg (by omega), if_neg (by omega), if_pos (by omega)]; rfl) | (rw [if_neg (by omega), if_neg (by omega), if_neg (by omega)]; rfl), rfl⟩, sbt⟩
    · refine j_seq (j_region (y_ (yl_move (T rfl)) (y_ (yl_fa0 (T rfl) fa26_0) (y_ (yl_load (T rfl) Try.isAgg22 (by first | exact c_o | exact c_m (hn.links.f (i := port.toNat) (by omega) rfl) | exact c_m (hn.edges.f (i := (port - 10000).toNat) (by omega) rfl))) ?_ rfl) rfl) rfl))
      refine y_ (yl_len (T rfl) Try.runUnderlying22) (y_ (yl_add ev_c (T rfl) (by omega)) ?_ rfl) rfl
      refine y_ (yl_sub (T rfl) ev_c (by omega)) ?_ rfl
      refine y_ (yl_call (.cons (T rfl) (.cons ev_c (.cons (T rfl) .nil))) Try.call91 (fun H' hs => gwithin_s _ _ _)) (y_ (yl_assign (T rfl)) (jl_nil (q_then (j_keep [(1, _), (33, _)] ⟨at_f rfl, at_f rfl, trivial⟩ ?_))) rfl) rfl
      first | refine j_cond_d (at_f rfl) (fun c33 => ?_) (fun c33 => ?_) | refine j_cond (at_f rfl) (fun c33 => ?_) (fun c33 => ?_)
      · refine j_seq (j_region (y_ (yl_move (T rfl)) (y_ (yl_sub (T rfl) ev_c (by omega)) ?_ rfl) rfl))
        refine y_ (yl_assign (T rfl)) (jl_nil (q_then (j_ret (q_block_ret (q_then_ret (q_ret rfl (.tmp (at_f rfl) .nil) ?_)))))) rfl
        exact ⟨_, ⟨by unfold whereF; first | (rw [if_pos (by omega)]; rfl) | (rw [if_neg (by omega), if_pos (by omega)]; rfl) | (rw [if_neg (by omega), if_neg (by omega), if_pos (by omega)]; rfl) | (rw [if_neg (by omega), if_neg (by omega), if_neg (by omega)]; rfl), rfl⟩, sbt⟩
      · refine j_skip (q_block (q_then (j_seq (j_region (y_ (yl_assign ev_c) (jl_nil (q_then (j_ret (q_ret rfl (.tmp (at_f rfl) .nil) ?_)))) rfl)))))
        exact ⟨_, ⟨by unfold whereF; first | (rw [if_pos (by omega)]; rfl) | (rw [if_neg (by omega), if_pos (by omega)]; rfl) | (rw [if_neg (by omega), if_neg (by omega), if_pos (by omega)]; rfl) | (rw [if_neg (by omega), if_neg (by omega), if_neg (by omega)]; rfl), rfl⟩, sbt⟩
theorem check_s {w0 : World} {H : List (Nat × Obj)} (n : Nm) (hn : NetM w0 H n) (hok : NetOk n) (h1 : n.links.length ≤ 10000) (h2 : n.edges.length ≤ 10000) (h3 : n.nodes.length ≤ 1000000) (steps : Int) (hst : 0 ≤ steps ∧ steps ≤ 9223372036854775807) (m : Wm) (hm : WayM w0 H m) :
    FSpec Try.prog w0 63 #[.agg (encNm n).toArray, .int .i64 steps, .agg (encW m).toArray] H (Still (.int .i64 (oneF n steps m.way)) H) := by
  refine fn_spec Try.func63 rfl Try.ntmps63 rfl ?_
  have hpb := hm.pb
  refine j_seq (j_region (e_ (eff_box (T rfl) cs_) ?_ rfl))
  rintro _ _ ⟨n3, rfl, rfl⟩
  refine e_ (eff_box (T rfl) cs_) ?_ rfl
  rintro _ _ ⟨n5, rfl, rfl⟩
  refine e_ (eff_alloc Try.zeroValue31 cs_) ?_ rfl
  rintro _ _ ⟨n6, rfl, rfl⟩
  refine jl_nil (q_then (j_seq (j_seq (j_region (y_ (yl_fa0 (T rfl) fa48_0) (y_ (yl_load (T rfl) Try.isAgg3 (by first | exact c_o)) ?_ rfl) rfl)))))
  refine y_ (yl_fa0 (T rfl) fa26_0) (y_ (yl_load (T rfl) Try.isAgg22 (by first | exact c_o)) ?_ rfl) rfl
  refine y_ (yl_len (T rfl) Try.runUnderlying22) (y_ (yl_sub (T rfl) ev_c (by omega)) ?_ rfl) rfl
  refine y_ (yl_call (.cons (T rfl) (.cons ev_c (.cons (T rfl) .nil))) Try.call38 (fun H' hs => within_s _ _ _)) ?_ rfl
  first | refine jl_y (yl_not_d (T rfl)) rfl gd_n ?_ | refine jl_y (yl_not (T rfl)) rfl gd_n ?_
  refine y_ (yl_move (T rfl)) ?_ rfl
  first | refine jl_if_d (s := 19) (at_f rfl) (fun c19 => ?_) (fun c19 => ?_) | refine jl_if (s := 19) (at_f rfl) (fun c19 => ?_) (fun c19 => ?_)
  · refine n_tf (n_tf (n_tf (n_tf (y_ (yl_pick_t (T rfl) ev_c) (y_ (yl_move (T rfl)) (n_tf (n_tf (n_tf (n_tf (n_tf (n_tf (y_ (yl_pick_t (T rfl) ev_c) (jl_nil (q_then (j_keep [(3, _), (5, _), (6, _), (32, _)] ⟨at_f rfl, at_f rfl, at_f rfl, at_f rfl, trivial⟩ (j_cond_t (at_f rfl) (j_seq (j_region ?_)))))) rfl) rfl rfl rfl rfl) rfl rfl rfl rfl) rfl rfl rfl rfl) rfl rfl rfl rfl) rfl rfl rfl rfl) rfl rfl rfl rfl) rfl) rfl) rfl rfl rfl rfl) rfl rfl rfl rfl) rfl rfl rfl rfl) rfl rfl rfl rfl
    first | refine jl_e (eff_sW (T rfl) ev_c Try.sizeOf31) rfl gd_n ?_ | refine jl_e (eff_s1 (T rfl) ev_c rfl Try.sizeOf31) rfl gd_n ?_
    rintro _ _ ⟨rfl, rfl⟩
    refine jl_nil (q_then (j_ret (q_then_ret (q_ret rfl (.cell (at_f rfl) Try.isAgg31 (by first | exact c_o) .nil) ?_))))
    exact ⟨_, ⟨by unfold oneF; (try unfold whereF at *); (repeat' split) <;> first | rfl | (exfalso; first | omega | simp_all | (simp_all; omega)), rfl⟩, sbt⟩
  · refine jl_y (yl_fa (T rfl) fa48_3) rfl (gd_y rfl rfl (at_f rfl)) (jl_y (yl_load (T rfl) Try.isAgg3 (by first | exact c_o)) rfl (gd_y rfl rfl (at_f rfl)) ?_)
    refine jl_y (yl_call (.cons (T rfl) (.cons ev_c (.cons ev_c .nil))) Try.call38 (fun H' hs => within_s _ _ _)) rfl (gd_y rfl rfl (at_f rfl)) ?_
    first | refine jl_y (yl_not_d (T rfl)) rfl (gd_y rfl rfl (at_f rfl)) ?_ | refine jl_y (yl_not (T rfl)) rfl (gd_y rfl rfl (at_f rfl)) ?_
    refine y_ (yl_pick_f (T rfl) (T rfl)) (y_ (yl_move (T rfl)) ?_ rfl) rfl
    first | refine jl_if_d (s := 25) (at_f rfl) (fun c25 => ?_) (fun c25 => ?_) | refine jl_if (s := 25) (at_f rfl) (fun c25 => ?_) (fun c25 => ?_)
    · refine n_tf (n_tf (n_tf (n_tf (n_tf (n_tf (y_ (yl_pick_t (T rfl) ev_c) (jl_nil (q_then (j_keep [(3, _), (5, _), (6, _), (32, _)] ⟨at_f rfl, at_f rfl, at_f rfl, at_f rfl, trivial⟩ (j_cond_t (at_f rfl) (j_seq (j_region ?_)))))) rfl) rfl rfl rfl rfl) rfl rfl rfl rfl) rfl rfl rfl rfl) rfl rfl rfl rfl) rfl rfl rfl rfl) rfl rfl rfl rfl
      first | refine jl_e (eff_sW (T rfl) ev_c Try.sizeOf31) rfl gd_n ?_ | refine jl_e (eff_s1 (T rfl) ev_c rfl Try.sizeOf31) rfl gd_n ?_
      rintro _ _ ⟨rfl, rfl⟩
      refine jl_nil (q_then (j_ret (q_then_ret (q_ret rfl (.cell (at_f rfl) Try.isAgg31 (by first | exact c_o) .nil) ?_))))
      exact ⟨_, ⟨by unfold oneF; (try unfold whereF at *); (repeat' split) <;> first | rfl | (exfalso; first | omega | simp_all | (simp_all; omega)), rfl⟩, sbt⟩
    · refine jl_y (yl_fa (T rfl) fa48_4) rfl (gd_y rfl rfl (at_f rfl)) (jl_y (yl_load (T rfl) Try.isAgg3 (by first | exact c_o)) rfl (gd_y rfl rfl (at_f rfl)) ?_)
      refine jl_y (yl_move (T rfl)) rfl (gd_y rfl rfl (at_f rfl)) (jl_y (yl_sub (T rfl) ev_c (by omega)) rfl (gd_y rfl rfl (at_f rfl)) ?_)
      refine jl_y (yl_call (.cons (T rfl) (.cons ev_c (.cons (T rfl) .nil))) Try.call38 (fun H' hs => within_s _ _ _)) rfl (gd_y rfl rfl (at_f rfl)) ?_
      first | refine jl_y (yl_not_d (T rfl)) rfl (gd_y rfl rfl (at_f rfl)) ?_ | refine jl_y (yl_not (T rfl)) rfl (gd_y rfl rfl (at_f rfl)) ?_
      refine y_ (yl_pick_f (T rfl) (T rfl)) (jl_nil (q_then (j_keep [(3, _), (5, _), (6, _), (32, _)] ⟨at_f rfl, at_f rfl, at_f rfl, at_f rfl, trivial⟩ ?_))) rfl
      first | refine j_cond_d (at_f rfl) (fun c32 => ?_) (fun c32 => ?_) | refine j_cond (at_f rfl) (fun c32 => ?_) (fun c32 => ?_)
      · refine j_seq (j_region ?_)
        first | refine jl_e (eff_sW (T rfl) ev_c Try.sizeOf31) rfl gd_n ?_ | refine jl_e (eff_s1 (T rfl) ev_c rfl Try.sizeOf31) rfl gd_n ?_
        rintro _ _ ⟨rfl, rfl⟩
        refine jl_nil (q_then (j_ret (q_then_ret (q_ret rfl (.cell (at_f rfl) Try.isAgg31 (by first | exact c_o) .nil) ?_))))
        exact ⟨_, ⟨by unfold oneF; (try unfold whereF at *); (repeat' split) <;> first | rfl | (exfalso; first | omega | simp_all | (simp_all; omega)), rfl⟩, sbt⟩
      · refine j_skip (q_then (j_seq (j_region (y_ (yl_loadA (T rfl) Try.isAgg26 Try.sizeOf26 rfl (by first | exact cs_o)) ?_ rfl))))
        refine y_ (yl_fa0 (T rfl) fa48_0) (y_ (yl_load (T rfl) Try.isAgg3 (by first | exact c_o)) ?_ rfl) rfl
        refine y_ (yl_fa (T rfl) fa48_1) (y_ (yl_load (T rfl) Try.isAgg28 (by first | exact c_o)) ?_ rfl) rfl
        refine y_ (yl_call (.cons (T rfl) (.cons (T rfl) (.cons (T rfl) .nil))) Try.call79 (fun H' hs => gwalk_s n (hn.mono (List.Sublist.trans sbt hs)) _ _ _ _ (hm.links.m (List.Sublist.trans sbt hs)) hm.len)) (y_ (yl_move (T rfl)) (y_ (yl_extract (T rfl) rfl) (y_ (yl_extract (T rfl) rfl) (y_ (yl_assign (T rfl)) (y_ (yl_assign (T rfl)) (jl_nil (q_then (j_seq (j_seq (j_region (y_ (yl_move (T rfl)) ?_ rfl)))))) rfl) rfl) rfl) rfl) rfl) rfl
        first | refine jl_y (yl_not_d (T rfl)) rfl gd_n ?_ | refine jl_y (yl_not (T rfl)) rfl gd_n ?_
        refine jl_nil (q_then ?_)
        first | refine j_cond_d (at_f rfl) (fun c43 => ?_) (fun c43 => ?_) | refine j_cond (at_f rfl) (fun c43 => ?_) (fun c43 => ?_)
        · refine j_seq (j_region ?_)
          first | refine jl_e (eff_sW (T rfl) ev_c Try.sizeOf31) rfl gd_n ?_ | refine jl_e (eff_s1 (T rfl) ev_c rfl Try.sizeOf31) rfl gd_n ?_
          rintro _ _ ⟨rfl, rfl⟩
          refine jl_nil (q_then (j_ret (q_then_ret (q_ret rfl (.cell (at_f rfl) Try.isAgg31 (by first | exact c_o) .nil) ?_))))
          exact ⟨_, ⟨by unfold oneF; (try unfold whereF at *); (repeat' split) <;> first | rfl | (exfalso; first | omega | simp_all | (simp_all; omega)), rfl⟩, sbt⟩
        · refine j_skip (q_then (j_seq (j_region (e_ eff_makeMap ?_ rfl))))
          rintro _ _ ⟨n44, rfl, rfl⟩
          refine e_ (eff_alloc Try.zeroValue142 cs_) ?_ rfl
          rintro _ _ ⟨n9, rfl, rfl⟩
          first | refine jl_e (eff_sW (T rfl) (T rfl) Try.sizeOf142) rfl gd_n ?_ | refine jl_e (eff_s1 (T rfl) (T rfl) rfl Try.sizeOf142) rfl gd_n ?_
          rintro _ _ ⟨rfl, rfl⟩
          refine jl_nil (q_then (j_seq (j_seq (j_region (y_ (yl_loadA (T rfl) Try.isAgg26 Try.sizeOf26 rfl (by first | exact cs_o)) ?_ rfl)))))
          refine y_ (yl_loadA (T rfl) Try.isAgg48 Try.sizeOf48 rfl (by first | exact cs_o)) ?_ rfl
          refine e_ (eff_call (.cons (T rfl) (.cons (T rfl) .nil)) Try.call59 (hops_s _ _)) ?_ rfl
          rintro _ _ ⟨m2, m3, rfl, rfl⟩
          refine jl_nil (q_then (j_block ?_))
          refine j_range (Z := List (Int × Bool) × Int) (T rfl) Try.call77 (hops_it n hn m hm (walk_inr (by simpa using c43)) _ _) (fun _ => rfl) rfl (fun ⟨z, e⟩ => (m3, Cl (encW m) 48) :: (m2, Cl (encNm n) 26) :: (n9, Cl [.map (some n44)] 142) :: (n44, mapO encK1 encB z) :: (n6, Cl [.int .i64 e] 31) :: (n5, Cl (encW m) 48) :: (n3, Cl (encNm n) 26) :: H) (fun k ⟨z, e⟩ => e = 0 ∧ (∀ x, (look z x).getD false = decide (x ∈ (nodesF n.links m.way).take k)) ∧ ((nodesF n.links m.way).take k).Nodup) (fun ⟨z, e⟩ => e = 18 ∧ ¬ (nodesF n.links m.way).Nodup) (fun _ ⟨z, e⟩ => False) (([], 0)) ?_ sbt ?_ ?_ ?_ ?_ ?_
          · exact ⟨rfl, fun x => by simp [look, findI], by simp⟩
          · rintro ⟨z, e⟩; exact sbt
          · rintro l lr Y X k ⟨nd, hp⟩ ⟨z, e⟩ hl hx ⟨rfl, hlook, hnd⟩
            have hkl : k < (hops n.links m.way).length := (List.getElem?_eq_some_iff.1 hx).1
            have hkm : k ≤ m.way.links.length := by rw [hops_len] at hkl; omega
            obtain ⟨e1, e2⟩ : gd (nodesF n.links m.way) k = nd ∧ hopN m.way k = hp := by rw [hops_at hkm] at hx; simpa using hx
            have htk : (nodesF n.links m.way).take (k + 1) = (nodesF n.links m.way).take k ++ [nd] := by rw [take_gd (by rw [nodesF_len]; omega), e1]
            have hk2 := hlook nd
            refine j_keep [(6, _), (9, _), (48, _)] ⟨at_f rfl, at_f rfl, at_f rfl, trivial⟩ (j_region (y_ (yl_assign (T rfl)) (jl_nil (q_begin hl ?_)) rfl))
            refine j_block (j_seq (j_seq (j_region (y_ (yl_load (T rfl) Try.isAgg142 (by first | exact c_o)) ?_ rfl))))
            refine y_ (yl_move (T rfl)) (y_ (yl_lookupB rfl keyI (T rfl) (T rfl) rfl Try.runUnderlying142 Try.zeroValue4) (jl_nil (q_then ?_)) rfl) rfl
            first | refine j_cond_d (at_f rfl) (fun c52 => ?_) (fun c52 => ?_) | refine j_cond (at_f rfl) (fun c52 => ?_) (fun c52 => ?_)
            · refine j_seq (j_region ?_)
              first | refine jl_e (eff_sW (T rfl) ev_c Try.sizeOf31) rfl gd_n ?_ | refine jl_e (eff_s1 (T rfl) ev_c rfl Try.sizeOf31) rfl gd_n ?_
              rintro _ _ ⟨rfl, rfl⟩
              refine jl_nil (q_then (j_ret (q_then_ret (q_block_ret (q_round_ret ((z, 18)) ?_ sbt)))))
              rw [hk2] at c52
              refine ⟨rfl, fun hn2 => ?_⟩
              have h6 := (hn2.sublist (List.take_sublist (k + 1) _))
              rw [htk, List.nodup_append] at h6
              exact h6.2.2 nd (of_decide_eq_true c52) nd (by simp) rfl
            · refine j_skip (q_then (j_region (y_ (yl_load (T rfl) Try.isAgg142 (by first | exact c_o)) ?_ rfl)))
              refine y_ (yl_move (T rfl)) (e_ (eff_mapUpdate (V := Bool) (encV := encB) nd true keyI (T rfl) (T rfl) rfl ev_c rfl Try.runUnderlying142) ?_ rfl) rfl
              rintro _ _ ⟨rfl, rfl⟩
              refine jl_nil (q_block (q_round ((upsert z nd true, 0)) ?_ sbt))
              rw [hk2] at c52
              have hni := of_decide_eq_false c52
              refine ⟨rfl, fun x => ?_, ?_⟩
              · rw [look_upsert, htk]
                by_cases hxx : nd = x
                · subst hxx; simp
                · rw [if_neg hxx, hlook x]; simp; intro h; exact absurd h.symm hxx
              · rw [htk, List.nodup_append]
                exact ⟨hnd, by simp, by intro u hu v hv; simp at hv; subst hv; rintro rfl; exact hni hu⟩
          · rintro D0 ⟨z, e⟩ ⟨rfl, _, hnd⟩
            rw [List.take_of_length_le (by rw [hops_len, nodesF_len]; omega)] at hnd
            have hwe := walk_end hok (w := m.way) (by omega) (by omega) (by simpa using c43)
            refine q_block (q_then (j_seq (j_seq (j_region (y_ (yl_fa (T rfl) fa48_2) (y_ (yl_load (T rfl) Try.isAgg3 (by first | exact c_o)) ?_ rfl) rfl)))))
            refine y_ (yl_lss (T rfl) ev_c) (y_ (yl_move (T rfl)) ?_ rfl) rfl
            first | refine jl_if_d (s := 58) (at_f rfl) (fun c58 => ?_) (fun c58 => ?_) | refine jl_if (s := 58) (at_f rfl) (fun c58 => ?_) (fun c58 => ?_)
            · refine n_tf (n_tf (n_tf (n_tf (n_tf (n_tf (y_ (yl_pick_t (T rfl) ev_c) (jl_nil (q_then (j_keep [(6, _), (65, _)] ⟨at_f rfl, at_f rfl, trivial⟩ (j_cond_t (at_f rfl) (j_seq (j_region ?_)))))) rfl) rfl rfl rfl rfl) rfl rfl rfl rfl) rfl rfl rfl rfl) rfl rfl rfl rfl) rfl rfl rfl rfl) rfl rfl rfl rfl
              first | refine jl_e (eff_sW (T rfl) ev_c Try.sizeOf31) rfl gd_n ?_ | refine jl_e (eff_s1 (T rfl) ev_c rfl Try.sizeOf31) rfl gd_n ?_
              rintro _ _ ⟨rfl, rfl⟩
              refine jl_nil (q_then (j_ret (q_then_ret (q_mark_ret ?_))))
              refine q_ret rfl (.cell (at_f rfl) Try.isAgg31 (by first | exact c_o) .nil) ?_
              exact ⟨_, ⟨by unfold oneF; (try unfold whereF at *); (repeat' split) <;> first | rfl | (exfalso; first | omega | simp_all | (simp_all; omega)), rfl⟩, sbt⟩
            · refine jl_y (yl_loadA (T rfl) Try.isAgg26 Try.sizeOf26 rfl (by first | exact cs_o)) rfl (gd_y rfl rfl (at_f rfl)) ?_
              refine jl_y (yl_fa (T rfl) fa48_2) rfl (gd_y rfl rfl (at_f rfl)) (jl_y (yl_load (T rfl) Try.isAgg3 (by first | exact c_o)) rfl (gd_y rfl rfl (at_f rfl)) ?_)
              refine jl_y (yl_call (.cons (T rfl) (.cons (T rfl) .nil)) Try.call80 (fun H' hs => where_s n (hn.mono (List.Sublist.trans sbt hs)) h3 h2 _ hpb)) rfl (gd_y rfl rfl (at_f rfl)) (jl_y (yl_move (T rfl)) rfl (gd_y rfl rfl (at_f rfl)) (jl_y (yl_neq (T rfl) (T rfl)) rfl (gd_y rfl rfl (at_f rfl)) (y_ (yl_pick_f (T rfl) (T rfl)) (jl_nil (q_then (j_keep [(6, _), (65, _)] ⟨at_f rfl, at_f rfl, trivial⟩ ?_))) rfl)))
              first | refine j_cond_d (at_f rfl) (fun c65 => ?_) (fun c65 => ?_) | refine j_cond (at_f rfl) (fun c65 => ?_) (fun c65 => ?_)
              · refine j_seq (j_region ?_)
                first | refine jl_e (eff_sW (T rfl) ev_c Try.sizeOf31) rfl gd_n ?_ | refine jl_e (eff_s1 (T rfl) ev_c rfl Try.sizeOf31) rfl gd_n ?_
                rintro _ _ ⟨rfl, rfl⟩
                refine jl_nil (q_then (j_ret (q_then_ret (q_mark_ret ?_))))
                refine q_ret rfl (.cell (at_f rfl) Try.isAgg31 (by first | exact c_o) .nil) ?_
                exact ⟨_, ⟨by unfold oneF; (try unfold whereF at *); (repeat' split) <;> first | rfl | (exfalso; first | omega | simp_all | (simp_all; omega)), rfl⟩, sbt⟩
              · refine j_skip (q_then (j_seq (j_region ?_)))
                first | refine jl_e (eff_sW (T rfl) ev_c Try.sizeOf31) rfl gd_n ?_ | refine jl_e (eff_s1 (T rfl) ev_c rfl Try.sizeOf31) rfl gd_n ?_
                rintro _ _ ⟨rfl, rfl⟩
                refine jl_nil (q_then (j_ret (q_mark_ret ?_)))
                refine q_ret rfl (.cell (at_f rfl) Try.isAgg31 (by first | exact c_o) .nil) ?_
                exact ⟨_, ⟨by unfold oneF; (try unfold whereF at *); (repeat' split) <;> first | rfl | (exfalso; first | omega | simp_all | (simp_all; omega)), rfl⟩, sbt⟩
          · rintro D0 ⟨z, e⟩ ⟨rfl, hnd⟩
            refine q_block_ret (q_then_ret (q_mark_ret ?_))
            refine q_ret rfl (.cell (at_f rfl) Try.isAgg31 (by first | exact c_o) .nil) ?_
            exact ⟨_, ⟨by unfold oneF; (try unfold whereF at *); (repeat' split) <;> first | rfl | (exfalso; first | omega | simp_all | (simp_all; omega)), rfl⟩, sbt⟩
          · exact fun _ _ _ h => h.elim
theorem tCheck_s {w0 : World} {H : List (Nat × Obj)} (n : Nm) (hn : NetM w0 H n) (hok : NetOk n) (h1 : n.links.length ≤ 10000) (h2 : n.edges.length ≤ 10000) (h3 : n.nodes.length ≤ 1000000) (steps : Int) (hst : -9223372036854775808 ≤ steps ∧ steps ≤ 9223372036854775807) (q : Option Addr) (cap : Nat) (l : List Wm) (hw : WaysM w0 H q l) :
    FSpec Try.prog w0 30 #[.agg (encNm n).toArray, .int .i64 steps, .slice q l.length cap] H (Still (.tuple #[.int .i64 (chkF n steps l).1, .int .i64 (chkF n steps l).2]) H) := by
  refine fn_spec Try.func30 rfl Try.ntmps30 rfl ?_
  have hlen := hw.len
  refine j_seq (j_region (e_ (eff_box (T rfl) cs_) ?_ rfl))
  rintro _ _ ⟨n3, rfl, rfl⟩
  refine y_ (yl_assign ev_c) (y_ (yl_assign ev_c) (jl_nil (q_then (j_seq (j_block (j_seq (j_region (y_ (yl_move (T rfl)) (y_ (yl_lss (T rfl) ev_c) (y_ (yl_assign (T rfl)) (jl_nil (q_then ?_)) rfl) rfl) rfl))))))) rfl) rfl
  first | refine j_cond_d (at_f rfl) (fun c11 => ?_) (fun c11 => ?_) | refine j_cond (at_f rfl) (fun c11 => ?_) (fun c11 => ?_)
  · refine j_seq (j_region (y_ (yl_assign ev_c) (y_ (yl_assign ev_c) (jl_nil (q_then (j_ret (q_block_ret (q_then_ret (q_ret rfl (.tmp (at_f rfl) (.tmp (at_f rfl) .nil)) ?_)))))) rfl) rfl))
    exact ⟨_, ⟨by unfold chkF; rw [if_pos (by omega)]; rfl, rfl⟩, sbt⟩
  · refine j_seq (j_region (y_ (yl_move (T rfl)) (y_ (yl_len (T rfl) Try.runUnderlying27) (y_ (yl_gtr (T rfl) ev_c) (y_ (yl_assign (T rfl)) (jl_nil (q_then ?_)) rfl) rfl) rfl) rfl))
    first | refine j_cond_d (at_f rfl) (fun c14 => ?_) (fun c14 => ?_) | refine j_cond (at_f rfl) (fun c14 => ?_) (fun c14 => ?_)
    · refine j_seq (j_region (y_ (yl_assign ev_c) (y_ (yl_assign ev_c) (jl_nil (q_then (j_ret (q_block_ret (q_then_ret (q_ret rfl (.tmp (at_f rfl) (.tmp (at_f rfl) .nil)) ?_)))))) rfl) rfl))
      exact ⟨_, ⟨by unfold chkF; rw [if_neg (by omega), if_pos (by omega)]; rfl, rfl⟩, sbt⟩
    · refine j_skip (q_block (q_then (j_seq (j_seq (j_region (y_ (yl_move (T rfl)) (y_ (yl_len (T rfl) Try.runUnderlying27) (y_ (yl_move ev_c) (jl_nil (q_then (j_block ?_))) rfl) rfl) rfl))))))
      refine j_loopH (X := Nat) (V := fun k => [(20, .int .i64 (k : Nat))]) (C := [(1, _), (3, _), (18, _), (19, _)]) (φ := fun k => k ≤ l.length ∧ chkG n steps k (l.drop k) = chkF n steps l) (μ := fun k => l.length - k) (x0 := 0) ?_ ⟨at_f rfl, at_f rfl, at_f rfl, at_f rfl, trivial⟩ ⟨(by first | exact at_f rfl | (refine at_e (at_f rfl) (vint ?_); omega) | (refine at_e (at_f rfl) ?_; simp; done)), trivial⟩ ?_
      · exact ⟨Nat.zero_le _, by unfold chkF; rw [if_neg (by omega), if_neg (by omega)]; rfl⟩
      rintro k ⟨hk, hc⟩
      refine j_seq (j_region (y_ (yl_lss (T rfl) (T rfl)) (jl_nil (q_then (j_seq ?_))) rfl))
      first | refine j_cond_d (at_f rfl) (fun c21 => ?_) (fun c21 => ?_) | refine j_cond (at_f rfl) (fun c21 => ?_) (fun c21 => ?_)
      · refine j_skip (q_then (j_seq (j_block (j_seq (j_region (y_ (yl_move (T rfl)) (y_ (yl_ixQ (T rfl) (T rfl) Try.runUnderlying27 Try.sizeOf48 (by omega) (by first | exact rfl | exact hw.arr.b (i := k) (by omega))) ?_ rfl) rfl))))))
        refine y_ (yl_loadA (T rfl) Try.isAgg48 Try.sizeOf48 rfl (by first | exact cs_o | exact cs_m (hw.arr.cs (i := k) (by omega)))) ?_ rfl
        refine e_ (eff_alloc Try.zeroValue48 cs_) ?_ rfl
        rintro _ _ ⟨n9, rfl, rfl⟩
        refine y_ (yl_assign (T rfl)) ?_ rfl
        first | refine jl_e (eff_sW (T rfl) (T rfl) Try.sizeOf48) rfl gd_n ?_
        rintro _ _ ⟨rfl, rfl⟩
        refine jl_nil (q_then (j_seq (j_region (y_ (yl_loadA (T rfl) Try.isAgg26 Try.sizeOf26 rfl (by first | exact cs_o)) ?_ rfl))))
        refine y_ (yl_move (T rfl)) (y_ (yl_loadA (T rfl) Try.isAgg48 Try.sizeOf48 rfl (by first | exact cs_o)) ?_ rfl) rfl
        refine y_ (yl_call (.cons (T rfl) (.cons (T rfl) (.cons (T rfl) .nil))) Try.call63 (fun H' hs => check_s n (hn.mono (List.Sublist.trans sbt hs)) hok h1 h2 h3 _ (by omega) _ ((hw.at (i := k) (by omega)).mono (List.Sublist.trans sbt hs)))) ?_ rfl
        refine y_ (yl_assign (T rfl)) (jl_nil (q_then (j_seq (j_region (y_ (yl_move (T rfl)) (y_ (yl_neq (T rfl) ev_c) (jl_nil (q_then ?_)) rfl) rfl))))) rfl
        first | refine j_cond_d (at_f rfl) (fun c30 => ?_) (fun c30 => ?_) | refine j_cond (at_f rfl) (fun c30 => ?_) (fun c30 => ?_)
        · refine j_seq (j_region (y_ (yl_move (T rfl)) (y_ (yl_move (T rfl)) (y_ (yl_assign (T rfl)) (y_ (yl_assign (T rfl)) (jl_nil (q_then (j_ret (q_block_ret (q_then_ret (q_loop_ret (q_block_ret (q_then_ret (q_ret rfl (.tmp (at_f rfl) (.tmp (at_f rfl) .nil)) ?_))))))))) rfl) rfl) rfl) rfl))
          rw [drop_gd (by omega), chkG, if_neg c30] at hc
          exact ⟨_, ⟨by rw [← hc]; rfl, rfl⟩, sbt⟩
        · refine j_skip (q_block (q_then (j_region (y_ (yl_add (T rfl) ev_c (by omega)) ?_ rfl))))
          refine y_ (yl_move (T rfl)) (jl_nil ?_) rfl
          refine q_loopC (k + 1) ?_ ?_ ⟨(by first | exact at_f rfl | (refine at_e (at_f rfl) (vint ?_); omega) | (refine at_e (at_f rfl) ?_; simp; done)), trivial⟩ ⟨at_f rfl, at_f rfl, at_f rfl, at_f rfl, trivial⟩ ?_
          · refine ⟨by omega, ?_⟩
            rw [drop_gd (by omega), chkG, if_pos (Classical.not_not.1 c30)] at hc
            exact hc
          · first | omega | (simp only []; omega)
          · exact sbt
      · refine j_exit (q_then_exit (q_loop_exit (q_block_hit (q_then (j_seq (j_region (y_ (yl_assign ev_c) (y_ (yl_assign ev_c) (jl_nil (q_then (j_ret (q_ret rfl (.tmp (at_f rfl) (.tmp (at_f rfl) .nil)) ?_)))) rfl) rfl)))))))
        rw [drop_end (by omega)] at hc
        exact ⟨_, ⟨by rw [← hc]; rfl, rfl⟩, sbt⟩
abbrev PlanL := List ((Int × Int) × Hop)
def fitsL (ls : List Lnk) (l : PlanL) (w : Way) (t : Int) : Bool := (hops ls w).all fun e => (look l (t, e.1)).isNone || decide (hopOr (look l (t, e.1)) = e.2)
def addK (ls : List Lnk) (l : PlanL) (w : Way) (t : Int) (k : Nat) : PlanL := ((hops ls w).take k).foldl (fun l e => upsert l (t, e.1) e.2) l
def addL (ls : List Lnk) (l : PlanL) (w : Way) (t : Int) : PlanL := (hops ls w).foldl (fun l e => upsert l (t, e.1) e.2) l
theorem addK_succ {ls : List Lnk} {l : PlanL} {w : Way} {t : Int} {k : Nat} {p : Int × Hop} (h : (hops ls w)[k]? = some p) : addK ls l w t (k + 1) = upsert (addK ls l w t k) (t, p.1) p.2 := by
  unfold addK
  rw [List.take_add_one, h]; simp [List.foldl_append]
theorem addK_end (ls : List Lnk) (l : PlanL) (w : Way) (t : Int) : addK ls l w t (hops ls w).length = addL ls l w t := by unfold addK addL; rw [List.take_length]
theorem hopOr_map {α : Type} {f : Hop → α} {o : Option Hop} {z : α} (hz : f ⟨0, 0, 0, 0⟩ = z) : (o.map f).getD z = f (hopOr o) := by cases o <;> simp [hopOr, hz]
theorem yl_lookH {w0 : World} {L : Fm} {H : List (Nat × Obj)} {ty : TypeId} {x y : Operand} {r : Nat} {l : PlanL} {k : Int × Int} {v : Value} (hx : Ev L x (.map (some r))) (hy : Ev L y v) (hv : v = encK2 k) (hf : Fnd H r (mapO encK2 encHv l)) :
    Yl Try.prog w0 (.lookup 87 x y true) ty L H (.tuple #[encHv (hopOr (look l k)), .bool (look l k).isSome]) := by
  have h := yl_lookup2 (P := Try.prog) (w0 := w0) (ty := ty) (keyP (V := Hop)) hx hy hv Try.runUnderlying87 Try.zeroValue72 hf
  rwa [hopOr_map (f := encHv) rfl] at h
theorem fits_s {w0 : World} {H : List (Nat × Obj)} (n : Nm) (hn : NetM w0 H n) (m : Wm) (hm : WayM w0 H m) (hr : InR n.links m.way.links) (r : Nat) (pl : PlanL) (hf : Fnd H r (mapO encK2 encHv pl)) (t : Int) :
    FSpec Try.prog w0 40 #[.map (some r), .agg (encNm n).toArray, .agg (encW m).toArray, .int .i64 t] H (Still (.bool (fitsL n.links pl m.way t)) H) := by
  refine fn_spec Try.func40 rfl Try.ntmps40 rfl (j_seq (j_region (e_ (eff_box (T rfl) cs_) ?_ rfl)))
  rintro _ _ ⟨n4, rfl, rfl⟩
  refine e_ (eff_box (T rfl) cs_) ?_ rfl
  rintro _ _ ⟨n5, rfl, rfl⟩
  refine e_ (eff_box (T rfl) cs_) ?_ rfl
  rintro _ _ ⟨n6, rfl, rfl⟩
  refine e_ (eff_box (T rfl) cs_) ?_ rfl
  rintro _ _ ⟨n7, rfl, rfl⟩
  refine e_ (eff_alloc Try.zeroValue4 cs_) ?_ rfl
  rintro _ _ ⟨n8, rfl, rfl⟩
  refine jl_nil (q_then (j_seq (j_seq (j_region (y_ (yl_loadA (T rfl) Try.isAgg26 Try.sizeOf26 rfl (by first | exact cs_o)) ?_ rfl)))))
  refine y_ (yl_loadA (T rfl) Try.isAgg48 Try.sizeOf48 rfl (by first | exact cs_o)) ?_ rfl
  refine e_ (eff_call (.cons (T rfl) (.cons (T rfl) .nil)) Try.call59 (hops_s _ _)) ?_ rfl
  rintro _ _ ⟨m2, m3, rfl, rfl⟩
  refine jl_nil (q_then (j_block ?_))
  refine j_range (Z := Bool) (T rfl) Try.call77 (hops_it n hn m hm hr _ _) (fun _ => rfl) rfl (fun b => (m3, Cl (encW m) 48) :: (m2, Cl (encNm n) 26) :: (n8, Cl [.bool b] 4) :: (n7, Cl [.int .i64 t] 3) :: (n6, Cl (encW m) 48) :: (n5, Cl (encNm n) 26) :: (n4, Cl [.map (some r)] 87) :: H) (fun k b => b = false ∧ ∀ i, i < k → ((look pl (t, (gd (hops n.links m.way) i).1)).isNone || decide (hopOr (look pl (t, (gd (hops n.links m.way) i).1)) = (gd (hops n.links m.way) i).2)) = true) (fun b => b = false ∧ fitsL n.links pl m.way t = false) (fun _ b => False) (false) ?_ sbt ?_ ?_ ?_ ?_ ?_
  · exact ⟨rfl, fun i hi => by omega⟩
  · intro b; exact sbt
  · rintro l lr Y X k ⟨nd, hp⟩ b hl hx ⟨rfl, hall⟩
    have hkl : k < (hops n.links m.way).length := (List.getElem?_eq_some_iff.1 hx).1
    have egd : gd (hops n.links m.way) k = (nd, hp) := by rw [gd_get hkl] at hx; simpa using hx
    have hmem : (nd, hp) ∈ hops n.links m.way := List.mem_of_getElem? hx
    refine j_keep [(4, _), (7, _), (8, _), (16, _), (17, _)] ⟨at_f rfl, at_f rfl, at_f rfl, at_f rfl, at_f rfl, trivial⟩ (j_seq (j_region (y_ (yl_assign (T rfl)) (jl_nil (q_then (j_region (e_ (eff_alloc Try.zeroValue72 cs_) ?_ rfl)))) rfl)))
    rintro _ _ ⟨n10, rfl, rfl⟩
    first | refine jl_e (eff_sW (T rfl) (T rfl) Try.sizeOf72) rfl gd_n ?_
    rintro _ _ ⟨rfl, rfl⟩
    refine jl_nil (q_begin hl ?_)
    refine j_block (j_seq (j_region (y_ (yl_load (T rfl) Try.isAgg87 (by first | exact c_o)) ?_ rfl)))
    refine y_ (yl_load (T rfl) Try.isAgg3 (by first | exact c_o)) ?_ rfl
    refine y_ (yl_move (T rfl)) (y_ (yl_build (.cons (T rfl) (.cons (T rfl) .nil)) (bd100_0_1 _ _)) (y_ (yl_lookH (k := (t, nd)) (T rfl) (T rfl) rfl (hf.mono)) (y_ (yl_move (T rfl)) (y_ (yl_extract (T rfl) rfl) (y_ (yl_extract (T rfl) rfl) (e_ (eff_alloc Try.zeroValue72 cs_) ?_ rfl) rfl) rfl) rfl) rfl) rfl) rfl
    rintro _ _ ⟨n11, rfl, rfl⟩
    first | refine jl_e (eff_sW (T rfl) (T rfl) Try.sizeOf72) rfl gd_n ?_
    rintro _ _ ⟨rfl, rfl⟩
    refine y_ (yl_assign (T rfl)) (jl_nil (q_then (j_seq (j_region (y_ (yl_move (T rfl)) (y_ (yl_move (T rfl)) ?_ rfl) rfl))))) rfl
    first | refine jl_if_d (s := 27) (at_f rfl) (fun c27 => ?_) (fun c27 => ?_) | refine jl_if (s := 27) (at_f rfl) (fun c27 => ?_) (fun c27 => ?_)
    · refine jl_y (yl_loadA (T rfl) Try.isAgg72 Try.sizeOf72 rfl (by first | exact cs_o)) rfl (gd_y rfl rfl (at_f rfl)) ?_
      refine jl_y (yl_loadA (T rfl) Try.isAgg72 Try.sizeOf72 rfl (by first | exact cs_o)) rfl (gd_y rfl rfl (at_f rfl)) ?_
      refine jl_y (yl_neqA (T rfl) (T rfl) Try.eqGuardType72 (eqHop _ _)) rfl (gd_y rfl rfl (at_f rfl)) (y_ (yl_pick_t (T rfl) (T rfl)) (jl_nil (q_then (j_keep [(8, _), (31, _)] ⟨at_f rfl, at_f rfl, trivial⟩ ?_))) rfl)
      first | refine j_cond_d (at_f rfl) (fun c31 => ?_) (fun c31 => ?_) | refine j_cond (at_f rfl) (fun c31 => ?_) (fun c31 => ?_)
      · refine j_seq (j_region ?_)
        first | refine jl_e (eff_sW (T rfl) ev_c Try.sizeOf4) rfl gd_n ?_ | refine jl_e (eff_s1 (T rfl) ev_c rfl Try.sizeOf4) rfl gd_n ?_
        rintro _ _ ⟨rfl, rfl⟩
        refine jl_nil (q_then (j_ret (q_block_ret (q_round_ret (false) ?_ sbt))))
        exact ⟨rfl, by unfold fitsL; rw [List.all_eq_false]; exact ⟨_, hmem, by simp only []; rw [decide_eq_false c31]; simpa [Option.isSome_iff_ne_none] using c27⟩⟩
      · refine j_skip (q_block (q_round (false) (⟨rfl, fun i hi => ?_⟩) sbt))
        by_cases e : i = k
        · subst e; rw [egd]; simp only []; rw [decide_eq_true (Classical.not_not.1 c31)]; simp
        · exact hall i (by omega)
    · refine n_ft (n_ft (n_ft (y_ (yl_pick_f (T rfl) ev_c) (jl_nil (q_then (j_keep [(8, _), (31, _)] ⟨at_f rfl, at_f rfl, trivial⟩ (j_cond_f (at_f rfl) (j_skip (q_block (q_round (false) (⟨rfl, fun i hi => ?_⟩) sbt))))))) rfl) rfl rfl rfl rfl) rfl rfl rfl rfl) rfl rfl rfl rfl
      by_cases e : i = k
      · subst e; rw [egd]; simp only []; simp at c27; simp [c27]
      · exact hall i (by omega)
  · rintro D0 b ⟨rfl, hall⟩
    refine q_block (q_then (j_seq (j_region ?_)))
    first | refine jl_e (eff_sW (T rfl) ev_c Try.sizeOf4) rfl gd_n ?_ | refine jl_e (eff_s1 (T rfl) ev_c rfl Try.sizeOf4) rfl gd_n ?_
    rintro _ _ ⟨rfl, rfl⟩
    refine jl_nil (q_then (j_ret (q_mark_ret ?_)))
    refine q_ret rfl (.cell (at_f rfl) Try.isAgg4 (by first | exact c_o) .nil) ?_
    exact ⟨_, ⟨vbool (by symm; unfold fitsL; rw [List.all_eq_true]; intro e he; obtain ⟨i, hi, rfl⟩ := List.getElem_of_mem he; rw [← gd_getElem hi]; exact hall i hi), rfl⟩, sbt⟩
  · rintro D0 b ⟨rfl, hno⟩
    refine q_block_ret (q_then_ret (q_mark_ret ?_))
    refine q_ret rfl (.cell (at_f rfl) Try.isAgg4 (by first | exact c_o) .nil) ?_
    exact ⟨_, ⟨vbool hno.symm, rfl⟩, sbt⟩
  · exact fun _ _ _ h => h.elim
theorem add_s {w0 : World} {R : List (Nat × Obj)} (n : Nm) (hn : NetM w0 R n) (m : Wm) (hm : WayM w0 R m) (hr : InR n.links m.way.links) (r : Nat) (pl : PlanL) (t : Int) :
    FSpec Try.prog w0 41 #[.map (some r), .agg (encNm n).toArray, .agg (encW m).toArray, .int .i64 t] ((r, mapO encK2 encHv pl) :: R) (fun v H' => ∃ _ : Unit, v = .tuple #[] ∧ H' = (r, mapO encK2 encHv (addL n.links pl m.way t)) :: R) := by
  refine fn_spec Try.func41 rfl Try.ntmps41 rfl (j_seq (j_region (e_ (eff_box (T rfl) cs_) ?_ rfl)))
  rintro _ _ ⟨n4, rfl, rfl⟩
  refine e_ (eff_box (T rfl) cs_) ?_ rfl
  rintro _ _ ⟨n5, rfl, rfl⟩
  refine e_ (eff_box (T rfl) cs_) ?_ rfl
  rintro _ _ ⟨n6, rfl, rfl⟩
  refine e_ (eff_box (T rfl) cs_) ?_ rfl
  rintro _ _ ⟨n7, rfl, rfl⟩
  refine jl_nil (q_then (j_seq (j_region (y_ (yl_loadA (T rfl) Try.isAgg26 Try.sizeOf26 rfl (by first | exact cs_o)) ?_ rfl))))
  refine y_ (yl_loadA (T rfl) Try.isAgg48 Try.sizeOf48 rfl (by first | exact cs_o)) ?_ rfl
  refine e_ (eff_call (.cons (T rfl) (.cons (T rfl) .nil)) Try.call59 (hops_s _ _)) ?_ rfl
  rintro _ _ ⟨m2, m3, rfl, rfl⟩
  refine jl_nil (q_then (j_block ?_))
  refine j_range (Z := PlanL) (T rfl) Try.call77 (hops_it (H := R) n hn m hm hr _ _) (fun _ => rfl) rfl (fun z => (m3, Cl (encW m) 48) :: (m2, Cl (encNm n) 26) :: (n7, Cl [.int .i64 t] 3) :: (n6, Cl (encW m) 48) :: (n5, Cl (encNm n) 26) :: (n4, Cl [.map (some r)] 87) :: (r, mapO encK2 encHv z) :: R) (fun k z => z = addK n.links pl m.way t k) (fun z => False) (fun _ z => False) (pl) ?_ sbt ?_ ?_ ?_ ?_ ?_
  · rfl
  · intro z; exact sbt
  · rintro l lr Y X k ⟨nd, hp⟩ z hl hx rfl
    refine j_keep [(4, _), (7, _), (13, _), (14, _)] ⟨at_f rfl, at_f rfl, at_f rfl, at_f rfl, trivial⟩ (j_seq (j_region (y_ (yl_assign (T rfl)) (jl_nil (q_then (j_region (e_ (eff_alloc Try.zeroValue72 cs_) ?_ rfl)))) rfl)))
    rintro _ _ ⟨n9, rfl, rfl⟩
    first | refine jl_e (eff_sW (T rfl) (T rfl) Try.sizeOf72) rfl gd_n ?_
    rintro _ _ ⟨rfl, rfl⟩
    refine jl_nil (q_begin hl ?_)
    refine j_block (j_region (y_ (yl_load (T rfl) Try.isAgg87 (by first | exact c_o)) ?_ rfl))
    refine y_ (yl_load (T rfl) Try.isAgg3 (by first | exact c_o)) ?_ rfl
    refine y_ (yl_move (T rfl)) (y_ (yl_build (.cons (T rfl) (.cons (T rfl) .nil)) (bd100_0_1 _ _)) (y_ (yl_loadA (T rfl) Try.isAgg72 Try.sizeOf72 rfl (by first | exact cs_o)) ?_ rfl) rfl) rfl
    refine e_ (eff_mapUpdate (V := Hop) (encV := encHv) (t, nd) hp keyP (T rfl) (T rfl) rfl (T rfl) rfl Try.runUnderlying87) ?_ rfl
    rintro _ _ ⟨rfl, rfl⟩
    refine jl_nil (q_block (q_round (_) ?_ sbt))
    rw [addK_succ hx]
  · rintro D0 z rfl
    refine q_block (q_mark_end ?_)
    refine q_end rfl .nil ?_
    exact ⟨_, ⟨(), rfl, by rw [← addK_end]⟩, sbt⟩
  · exact fun _ _ h => h.elim
  · exact fun _ _ _ h => h.elim
end Go.Proofs.Ytdbffighngmibaa
