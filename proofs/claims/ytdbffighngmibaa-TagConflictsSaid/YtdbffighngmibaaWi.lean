/-
  Walk of the law on conflicts.
-/
import Derived.Test.YtdbffighngmibaaWa
namespace Go.Proofs.Ytdbffighngmibaa
open Go.RowKit
set_option linter.unusedVariables false
set_option linter.unusedSimpArgs false
/-- where two ways conflict -/
theorem conf_fact {ls : List Lnk} {a b : Way} {N : Nat} (hnd : (nodesF ls a).Nodup) (hn : ∀ p ∈ hops ls a, 0 ≤ p.1 ∧ p.1 < N) :
    (confI ls a b = -1 ∧ ∀ j : Nat, j < N → differ ls a b j = false) ∨ ∃ k : Nat, confI ls a b = k ∧ k < N ∧ differ ls a b k = true ∧ ∀ j : Nat, j < k → differ ls a b j = false := by
  rcases conf_same (b := b) hnd hn with ⟨h1, h2⟩ | ⟨k, h1, h2⟩
  · exact .inl ⟨h1, confR_spec.2 h2⟩
  · exact .inr ⟨k, h1, confR_spec.1 k h2⟩
theorem conf_swapI {ls : List Lnk} {a b : Way} {N : Nat} (ha : (nodesF ls a).Nodup) (hna : ∀ p ∈ hops ls a, 0 ≤ p.1 ∧ p.1 < N) (hb : (nodesF ls b).Nodup) (hnb : ∀ p ∈ hops ls b, 0 ≤ p.1 ∧ p.1 < N) : confI ls b a = confI ls a b := by
  rcases conf_same (b := b) ha hna with ⟨h1, h2⟩ | ⟨k, h1, h2⟩ <;> rcases conf_same (b := a) hb hnb with ⟨h3, h4⟩ | ⟨j, h3, h4⟩
  · rw [h1, h3]
  · rw [confR_swap, h2] at h4; cases h4
  · rw [confR_swap, h4] at h2; cases h2
  · rw [confR_swap, h4] at h2; cases h2; rw [h1, h3]
theorem conf_selfI {ls : List Lnk} {a : Way} {N : Nat} (ha : (nodesF ls a).Nodup) (hna : ∀ p ∈ hops ls a, 0 ≤ p.1 ∧ p.1 < N) : confI ls a a = -1 := by
  rcases conf_same (b := a) ha hna with ⟨h1, h2⟩ | ⟨k, h1, h2⟩
  · exact h1
  · rw [confR_self] at h2; cases h2
theorem conf_part {ls : List Lnk} {a : Way} {N : Nat} (ha : (nodesF ls a).Nodup) (hna : ∀ p ∈ hops ls a, 0 ≤ p.1 ∧ p.1 < N) {c : Nat} (hc : c ≤ a.links.length) : confI ls a { a with src := nodeAt ls a.src a.links c, links := a.links.drop c } = -1 := by
  rcases conf_fact (b := { a with src := nodeAt ls a.src a.links c, links := a.links.drop c }) ha hna with ⟨h1, h2⟩ | ⟨k, h1, _, h2, _⟩
  · exact h1
  · rw [part_calm ha c hc] at h2; cases h2
theorem conf_no1 {ls : List Lnk} {a b : Way} {N i : Nat} (h : (confI ls a b = -1 ∧ ∀ j : Nat, j < N → differ ls a b j = false) ∨ ∃ k : Nat, confI ls a b = k ∧ k < N ∧ differ ls a b k = true ∧ ∀ j : Nat, j < k → differ ls a b j = false) (h0 : 0 ≤ confI ls a b)
    (h1 : ¬ decide ((i : Int) = max (confI ls a b) 0) = differ ls a b i) (h2 : (i : Int) ≤ max (confI ls a b) 0) : False := by
  rcases h with ⟨h3, _⟩ | ⟨k, h3, _, h4, h5⟩
  · omega
  · rw [h3] at h1 h2
    by_cases e : i = k
    · subst e; apply h1; rw [h4]; exact decide_eq_true (by omega)
    · apply h1; rw [h5 i (by omega)]; exact decide_eq_false (by omega)
theorem conf_no2 {ls : List Lnk} {a b : Way} {N i : Nat} (h : (confI ls a b = -1 ∧ ∀ j : Nat, j < N → differ ls a b j = false) ∨ ∃ k : Nat, confI ls a b = k ∧ k < N ∧ differ ls a b k = true ∧ ∀ j : Nat, j < k → differ ls a b j = false) (h0 : ¬ 0 ≤ confI ls a b)
    (h1 : differ ls a b i = true) (hi : (i : Int) < N) : False := by
  rcases h with ⟨_, h3⟩ | ⟨k, h3, _⟩
  · rw [h3 i (by omega)] at h1; cases h1
  · omega
theorem dif_no1 {ls : List Lnk} {a b : Way} {k : Int} (h : (atF ls a k).isSome = false) : false = differ ls a b k := by rw [differ_eq, h]; rfl
theorem dif_no2 {ls : List Lnk} {a b : Way} {k : Int} (h : (atF ls b k).isSome = false) : false = differ ls a b k := by rw [differ_eq, h]; cases (atF ls a k).isSome <;> rfl
theorem dif_yes {ls : List Lnk} {a b : Way} {k : Int} (h : (atF ls a k).isSome = true) (h2 : (atF ls b k).isSome = true) : (decide ¬ hopOr (atF ls a k) = hopOr (atF ls b k)) = differ ls a b k := by rw [differ_eq, h, h2]; rfl
theorem node_zero {ls : List Lnk} {a : Int} {path : List Int} : nodeAt ls a path 0 = a := by cases path <;> rfl
theorem node_step {ls : List Lnk} {a : Int} {path : List Int} {c : Nat} (h : c < path.length) : nodeAt ls a path (c + 1) = (gd ls (gd path c).toNat).dst := by
  rw [nodeAt_succ ls path a c h, gd_getElem h]; rfl
theorem two_ways {w0 : World} {H : List (Nat × Obj)} {b : Nat} {x y : Wm} (hx : WayM w0 H x) (hy : WayM w0 H y) : WaysM w0 ((b, Cl (encW x ++ encW y) 48) :: H) (some ⟨b, 0, none⟩) [x, y] := by
  have h := sl_arr (w0 := w0) (d := .blk b 2 []) (sz := 5) (enc := encW) (l := [x, y]) (e := 48) (X := H) (fun _ => rfl) ⟨by simp, rfl⟩
  refine ⟨h, fun m hm => ?_, by simp⟩
  simp only [List.mem_cons, List.not_mem_nil, or_false] at hm
  rcases hm with rfl | rfl
  · exact hx.mono (List.sublist_cons_self _ _)
  · exact hy.mono (List.sublist_cons_self _ _)
theorem tConf_k {w0 : World} {H : List (Nat × Obj)} {k : Nat} (b : Wm) (hk : b.way.links.length = k) (n : Nm) (hn : NetM w0 H n) (a : Wm) (ha : WayM w0 H a) (hb : WayM w0 H b) (hra : InR n.links a.way.links) (hrb : InR n.links b.way.links) (hla : a.way.links.length ≤ 1000000) (hlb : b.way.links.length ≤ 1000000) :
    FSpec Try.prog w0 25 #[.agg (encNm n).toArray, .agg (encW a).toArray, .agg #[.int .i64 b.way.src, .slice b.q k b.cap, .int .i64 b.way.port, .int .i64 b.way.tag, .int .i64 b.way.step]] H (Still (.tuple #[.int .i64 (max (confI n.links a.way b.way) 0), .bool (decide (0 ≤ confI n.links a.way b.way))]) H) := hk ▸ tConf_s n hn a b ha hb hra hrb hla hlb
theorem inr_drop {ls : List Lnk} {path : List Int} (h : InR ls path) (c : Nat) : InR ls (path.drop c) := fun i hi => by
  rw [List.length_drop] at hi
  have := h (c + i) (by omega)
  rwa [show gd (path.drop c) i = gd path (c + i) from by rw [gd_getElem (by simp; omega), gd_getElem (by omega)]; simp]

theorem confl_s {w0 : World} {H : List (Nat × Obj)} (n : Nm) (hn : NetM w0 H n) (steps : Int) (hst : -9223372036854775808 ≤ steps ∧ steps ≤ 9223372036854775807) (a b : Wm) (ha : WayM w0 H a) (hac : a.way.links.length ≤ a.cap) (hb : WayM w0 H b) (cut : Int) (hcut : 0 ≤ cut ∧ cut ≤ 255) :
    FSpec Try.prog w0 6 #[.agg (encNm n).toArray, .int .i64 steps, .agg (encW a).toArray, .agg (encW b).toArray, .int .u8 cut] H (Still (.bool true) H) := by
  refine fn_spec Try.func6 rfl Try.ntmps6 rfl ?_
  have hal := ha.len
  have hbl := hb.len
  obtain ⟨c, hc, hce⟩ : ∃ c : Nat, c ≤ a.way.links.length ∧ IntKind.i64.wrap cut % ((a.way.links.length : Int) + 1) = c := by
    rw [IntWalk.i64_in _ (by omega)]
    have h1 := Int.emod_nonneg cut (show ((a.way.links.length : Int) + 1) ≠ 0 by omega)
    have h2 := Int.emod_lt_of_pos cut (show 0 < ((a.way.links.length : Int) + 1) by omega)
    exact ⟨(cut % ((a.way.links.length : Int) + 1)).toNat, by omega, by omega⟩
  refine j_seq (j_region (e_ (eff_box (T rfl) cs_) ?_ rfl))
  rintro _ _ ⟨n5, rfl, rfl⟩
  refine e_ (eff_box (T rfl) cs_) ?_ rfl
  rintro _ _ ⟨n7, rfl, rfl⟩
  refine e_ (eff_box (T rfl) cs_) ?_ rfl
  rintro _ _ ⟨n8, rfl, rfl⟩
  refine y_ (yl_assign ev_c) (jl_nil (q_then (j_seq (j_region (y_ (yl_call .nil Try.call9 (fun H' hs => sanity_s)) (y_ (yl_assign (T rfl)) (jl_nil (q_then (j_seq (j_seq (j_region (y_ (yl_loadA (T rfl) Try.isAgg26 Try.sizeOf26 rfl (by first | exact cs_o | exact cs_m (ha.links.f0 (by omega) rfl) | exact cs_m (hn.links.f (by omega) rfl))) ?_ rfl)))))) rfl) rfl))))) rfl
  refine y_ (yl_move (T rfl)) (y_ (yl_loadA (T rfl) Try.isAgg48 Try.sizeOf48 rfl (by first | exact cs_o | exact cs_m (ha.links.f0 (by omega) rfl) | exact cs_m (hn.links.f (by omega) rfl))) ?_ rfl) rfl
  refine y_ (yl_loadA (T rfl) Try.isAgg48 Try.sizeOf48 rfl (by first | exact cs_o | exact cs_m (ha.links.f0 (by omega) rfl) | exact cs_m (hn.links.f (by omega) rfl))) ?_ rfl
  refine e_ (eff_bslice (.cons (T rfl) (.cons (T rfl) .nil)) (bs27_2_0_1 _ _ _ _ _ _ _ _ _ _ _ _ _ _)) ?_ rfl
  rintro _ _ ⟨n34, rfl, rfl⟩
  refine e_ (eff_call (.cons (T rfl) (.cons (T rfl) (.cons (T rfl) (.cons ev_c .nil)))) Try.call10 (right_s n hn.mono _ _ _ [a, b] (two_ways ha.mono hb.mono) _)) ?_ rfl
  rintro _ _ ⟨⟨tw, rfl, hrt⟩, rfl⟩
  first | refine jl_y (yl_not_d (T rfl)) rfl gd_n ?_ | refine jl_y (yl_not (T rfl)) rfl gd_n ?_
  refine jl_nil (q_then ?_)
  first | refine j_cond_d (at_f rfl) (fun c36 => ?_) (fun c36 => ?_) | refine j_cond (at_f rfl) (fun c36 => ?_) (fun c36 => ?_)
  · refine j_seq (j_region (y_ (yl_move (T rfl)) (y_ (yl_assign (T rfl)) (jl_nil (q_then (j_ret (q_then_ret (q_ret rfl (.tmp (at_f rfl) .nil) ?_))))) rfl) rfl))
    first | exact ⟨_, ⟨rfl, rfl⟩, sbt⟩ | (exfalso; first | exact conf_no1 hcf c101 c108 c113 | exact conf_no2 hcf c101 c119 (by omega) | exact c62 rfl | exact c67 rfl | exact absurd c157 (by decide) | omega)
  · obtain ⟨hnn, hnl, hne, hfew, hmost, hnet, hways⟩ := hrt (by simpa using c36)
    have hgw := net_gw hnet hways hfew
    have hda := hgw.nd a (by simp)
    have hdb := hgw.nd b (by simp)
    have hia := hgw.inr a (by simp)
    have hib := hgw.inr b (by simp)
    have haa := hgw.at' a (by simp)
    have hab := hgw.at' b (by simp)
    have hla : a.way.links.length ≤ 20 := hfew 0 (by simp)
    have hlb : b.way.links.length ≤ 20 := hfew 1 (by simp)
    have hcf := conf_fact (b := b.way) hda haa
    refine j_skip (q_then (j_seq (j_region (y_ (yl_loadA (T rfl) Try.isAgg26 Try.sizeOf26 rfl (by first | exact cs_o | exact cs_m (ha.links.f0 (by omega) rfl) | exact cs_m (hn.links.f (by omega) rfl))) ?_ rfl))))
    refine y_ (yl_loadA (T rfl) Try.isAgg48 Try.sizeOf48 rfl (by first | exact cs_o | exact cs_m (ha.links.f0 (by omega) rfl) | exact cs_m (hn.links.f (by omega) rfl))) ?_ rfl
    refine y_ (yl_loadA (T rfl) Try.isAgg48 Try.sizeOf48 rfl (by first | exact cs_o | exact cs_m (ha.links.f0 (by omega) rfl) | exact cs_m (hn.links.f (by omega) rfl))) ?_ rfl
    refine e_ (eff_call (.cons (T rfl) (.cons (T rfl) (.cons (T rfl) .nil))) Try.call25 (tConf_s n hn.mono a b ha.mono hb.mono hia hib (by omega) (by omega))) ?_ rfl
    rintro _ _ ⟨rfl, rfl⟩
    refine y_ (yl_move (T rfl)) (y_ (yl_extract (T rfl) rfl) (y_ (yl_extract (T rfl) rfl) (y_ (yl_assign (T rfl)) (y_ (yl_assign (T rfl)) (jl_nil (q_then (j_seq (j_region (y_ (yl_loadA (T rfl) Try.isAgg26 Try.sizeOf26 rfl (by first | exact cs_o | exact cs_m (ha.links.f0 (by omega) rfl) | exact cs_m (hn.links.f (by omega) rfl))) ?_ rfl))))) rfl) rfl) rfl) rfl) rfl
    refine y_ (yl_loadA (T rfl) Try.isAgg48 Try.sizeOf48 rfl (by first | exact cs_o | exact cs_m (ha.links.f0 (by omega) rfl) | exact cs_m (hn.links.f (by omega) rfl))) ?_ rfl
    refine y_ (yl_loadA (T rfl) Try.isAgg48 Try.sizeOf48 rfl (by first | exact cs_o | exact cs_m (ha.links.f0 (by omega) rfl) | exact cs_m (hn.links.f (by omega) rfl))) ?_ rfl
    refine e_ (eff_call (.cons (T rfl) (.cons (T rfl) (.cons (T rfl) .nil))) Try.call25 (tConf_s n hn.mono b a hb.mono ha.mono hib hia (by omega) (by omega))) ?_ rfl
    rintro _ _ ⟨rfl, rfl⟩
    rw [conf_swapI hda haa hdb hab]
    refine y_ (yl_move (T rfl)) (y_ (yl_extract (T rfl) rfl) (y_ (yl_extract (T rfl) rfl) (y_ (yl_assign (T rfl)) (y_ (yl_assign (T rfl)) (jl_nil (q_then (j_keep [(4, _), (5, _), (7, _), (8, _), (11, _), (12, _), (13, _), (14, _), (15, _)] ⟨at_f rfl, at_f rfl, at_f rfl, at_f rfl, at_f rfl, at_f rfl, at_f rfl, at_f rfl, at_f rfl, trivial⟩ (j_seq (j_region (y_ (yl_loadA (T rfl) Try.isAgg26 Try.sizeOf26 rfl (by first | exact cs_o | exact cs_m (ha.links.f0 (by omega) rfl) | exact cs_m (hn.links.f (by omega) rfl))) ?_ rfl)))))) rfl) rfl) rfl) rfl) rfl
    refine y_ (yl_loadA (T rfl) Try.isAgg48 Try.sizeOf48 rfl (by first | exact cs_o | exact cs_m (ha.links.f0 (by omega) rfl) | exact cs_m (hn.links.f (by omega) rfl))) ?_ rfl
    refine y_ (yl_loadA (T rfl) Try.isAgg48 Try.sizeOf48 rfl (by first | exact cs_o | exact cs_m (ha.links.f0 (by omega) rfl) | exact cs_m (hn.links.f (by omega) rfl))) ?_ rfl
    refine e_ (eff_call (.cons (T rfl) (.cons (T rfl) (.cons (T rfl) .nil))) Try.call25 (tConf_s n hn.mono a a ha.mono ha.mono hia hia (by omega) (by omega))) ?_ rfl
    rintro _ _ ⟨rfl, rfl⟩
    rw [conf_selfI hda haa]
    refine y_ (yl_move (T rfl)) (y_ (yl_extract (T rfl) rfl) (y_ (yl_extract (T rfl) rfl) (y_ (yl_assign (T rfl)) (y_ (yl_assign (T rfl)) (jl_nil (q_then (j_seq (j_seq (j_region (y_ (yl_move (T rfl)) (y_ (yl_move (T rfl)) (y_ (yl_neq (T rfl) (T rfl)) (y_ (yl_move (T rfl)) ?_ rfl) rfl) rfl) rfl)))))) rfl) rfl) rfl) rfl) rfl
    first | refine jl_if_d (s := 62) (at_f rfl) (fun c62 => ?_) (fun c62 => ?_) | refine jl_if (s := 62) (at_f rfl) (fun c62 => ?_) (fun c62 => ?_)
    · refine n_tf (n_tf (n_tf (y_ (yl_pick_t (T rfl) ev_c) (y_ (yl_move (T rfl)) (n_tf (y_ (yl_pick_t (T rfl) ev_c) (jl_nil (q_then (j_keep [(4, _), (5, _), (7, _), (8, _), (11, _), (12, _), (13, _), (69, _)] ⟨at_f rfl, at_f rfl, at_f rfl, at_f rfl, at_f rfl, at_f rfl, at_f rfl, at_f rfl, trivial⟩ (j_cond_t (at_f rfl) (j_seq (j_region (y_ (yl_assign ev_c) (jl_nil (q_then (j_ret (q_then_ret (q_ret rfl (.tmp (at_f rfl) .nil) ?_))))) rfl))))))) rfl) rfl rfl rfl rfl) rfl) rfl) rfl rfl rfl rfl) rfl rfl rfl rfl) rfl rfl rfl rfl
      first | exact ⟨_, ⟨rfl, rfl⟩, sbt⟩ | (exfalso; first | exact conf_no1 hcf c101 c108 c113 | exact conf_no2 hcf c101 c119 (by omega) | exact c62 rfl | exact c67 rfl | exact absurd c157 (by decide) | omega)
    · refine jl_y (yl_move (T rfl)) rfl (gd_y rfl rfl (at_f rfl)) (jl_y (yl_move (T rfl)) rfl (gd_y rfl rfl (at_f rfl)) (jl_y (yl_neB (T rfl) (T rfl) Try.runUnderlying4) rfl (gd_y rfl rfl (at_f rfl)) (y_ (yl_pick_f (T rfl) (T rfl)) (y_ (yl_move (T rfl)) ?_ rfl) rfl)))
      first | refine jl_if_d (s := 67) (at_f rfl) (fun c67 => ?_) (fun c67 => ?_) | refine jl_if (s := 67) (at_f rfl) (fun c67 => ?_) (fun c67 => ?_)
      · refine n_tf (y_ (yl_pick_t (T rfl) ev_c) (jl_nil (q_then (j_keep [(4, _), (5, _), (7, _), (8, _), (11, _), (12, _), (13, _), (69, _)] ⟨at_f rfl, at_f rfl, at_f rfl, at_f rfl, at_f rfl, at_f rfl, at_f rfl, at_f rfl, trivial⟩ (j_cond_t (at_f rfl) (j_seq (j_region (y_ (yl_assign ev_c) (jl_nil (q_then (j_ret (q_then_ret (q_ret rfl (.tmp (at_f rfl) .nil) ?_))))) rfl))))))) rfl) rfl rfl rfl rfl
        first | exact ⟨_, ⟨rfl, rfl⟩, sbt⟩ | (exfalso; first | exact conf_no1 hcf c101 c108 c113 | exact conf_no2 hcf c101 c119 (by omega) | exact c62 rfl | exact c67 rfl | exact absurd c157 (by decide) | omega)
      · refine jl_y (yl_move (T rfl)) rfl (gd_y rfl rfl (at_f rfl)) (y_ (yl_pick_f (T rfl) (T rfl)) (jl_nil (q_then (j_keep [(4, _), (5, _), (7, _), (8, _), (11, _), (12, _), (13, _), (69, _)] ⟨at_f rfl, at_f rfl, at_f rfl, at_f rfl, at_f rfl, at_f rfl, at_f rfl, at_f rfl, trivial⟩ (j_cond_f (at_f rfl) (j_skip (q_then (j_seq (j_seq (j_region (y_ (yl_assign ev_c) (jl_nil (q_then (j_block ?_))) rfl)))))))))) rfl)
        refine j_loopH (X := Nat) (V := fun i => [(18, .int .i64 (i : Nat))]) (C := [(4, _), (5, _), (7, _), (8, _), (11, _), (12, _), (13, _)]) (φ := fun i => i ≤ n.nodes.length) (μ := fun i => n.nodes.length - i) (x0 := 0) ?_ ⟨at_f rfl, at_f rfl, at_f rfl, at_f rfl, at_f rfl, at_f rfl, at_f rfl, trivial⟩ ⟨(by first | exact at_f rfl | (refine at_e (at_f rfl) (vint ?_); omega) | (refine at_e (at_f rfl) ?_; simp; done) | (refine at_e (at_f rfl) ?_; exact vbool (dif_no1 c92)) | (refine at_e (at_f rfl) ?_; exact vbool (dif_no2 c95)) | (refine at_e (at_f rfl) ?_; exact vbool (dif_yes c92 c95))), trivial⟩ ?_
        · exact Nat.zero_le _
        rintro i hi
        refine j_seq (j_seq (j_region (y_ (yl_move (T rfl)) (y_ (yl_fa0 (T rfl) fa26_0) (y_ (yl_load (T rfl) Try.isAgg22 (by first | exact c_o | exact c_m (ha.links.f0 (by omega) rfl) | exact c_m (hn.links.f (by omega) rfl))) ?_ rfl) rfl) rfl)))
        refine y_ (yl_len (T rfl) Try.runUnderlying22) (y_ (yl_lss (T rfl) (T rfl)) (jl_nil (q_then ?_)) rfl) rfl
        first | refine j_cond_d (at_f rfl) (fun c74 => ?_) (fun c74 => ?_) | refine j_cond (at_f rfl) (fun c74 => ?_) (fun c74 => ?_)
        · refine j_skip (q_then (j_seq (j_block (j_seq (j_region (y_ (yl_loadA (T rfl) Try.isAgg26 Try.sizeOf26 rfl (by first | exact cs_o | exact cs_m (ha.links.f0 (by omega) rfl) | exact cs_m (hn.links.f (by omega) rfl))) ?_ rfl))))))
          refine y_ (yl_loadA (T rfl) Try.isAgg48 Try.sizeOf48 rfl (by first | exact cs_o | exact cs_m (ha.links.f0 (by omega) rfl) | exact cs_m (hn.links.f (by omega) rfl))) ?_ rfl
          refine y_ (yl_move (T rfl)) (y_ (yl_call (.cons (T rfl) (.cons (T rfl) (.cons (T rfl) .nil))) Try.call26 (fun H' hs => tAt_s n (hn.mono (List.Sublist.trans sbt hs)) a (ha.mono (List.Sublist.trans sbt hs)) hia i)) (y_ (yl_move (T rfl)) (y_ (yl_extract (T rfl) rfl) (y_ (yl_extract (T rfl) rfl) (e_ (eff_alloc Try.zeroValue72 cs_) ?_ rfl) rfl) rfl) rfl) rfl) rfl
          rintro _ _ ⟨n19, rfl, rfl⟩
          first | refine jl_e (eff_sW (T rfl) (T rfl) Try.sizeOf72) rfl gd_n ?_
          rintro _ _ ⟨rfl, rfl⟩
          refine y_ (yl_assign (T rfl)) (jl_nil (q_then (j_seq (j_region (y_ (yl_loadA (T rfl) Try.isAgg26 Try.sizeOf26 rfl (by first | exact cs_o | exact cs_m (ha.links.f0 (by omega) rfl) | exact cs_m (hn.links.f (by omega) rfl))) ?_ rfl))))) rfl
          refine y_ (yl_loadA (T rfl) Try.isAgg48 Try.sizeOf48 rfl (by first | exact cs_o | exact cs_m (ha.links.f0 (by omega) rfl) | exact cs_m (hn.links.f (by omega) rfl))) ?_ rfl
          refine y_ (yl_move (T rfl)) (y_ (yl_call (.cons (T rfl) (.cons (T rfl) (.cons (T rfl) .nil))) Try.call26 (fun H' hs => tAt_s n (hn.mono (List.Sublist.trans sbt hs)) b (hb.mono (List.Sublist.trans sbt hs)) hib i)) (y_ (yl_move (T rfl)) (y_ (yl_extract (T rfl) rfl) (y_ (yl_extract (T rfl) rfl) (e_ (eff_alloc Try.zeroValue72 cs_) ?_ rfl) rfl) rfl) rfl) rfl) rfl
          rintro _ _ ⟨n21, rfl, rfl⟩
          first | refine jl_e (eff_sW (T rfl) (T rfl) Try.sizeOf72) rfl gd_n ?_
          rintro _ _ ⟨rfl, rfl⟩
          refine y_ (yl_assign (T rfl)) (jl_nil (q_then (j_keep [(4, _), (5, _), (7, _), (8, _), (11, _), (12, _), (13, _), (18, _), (19, _), (20, _), (21, _), (22, _)] ⟨at_f rfl, at_f rfl, at_f rfl, at_f rfl, at_f rfl, at_f rfl, at_f rfl, at_f rfl, at_f rfl, at_f rfl, at_f rfl, at_f rfl, trivial⟩ ?_))) rfl
          refine j_cutH (X := Unit) (V := fun u => [(23, .bool (differ n.links a.way b.way (i : Nat)))]) (C := [(4, _), (5, _), (7, _), (8, _), (11, _), (12, _), (13, _), (18, _)]) (φ := fun u => True) ⟨at_f rfl, at_f rfl, at_f rfl, at_f rfl, at_f rfl, at_f rfl, at_f rfl, at_f rfl, trivial⟩ ?_ ?_
          · refine j_region (y_ (yl_move (T rfl)) (y_ (yl_move (T rfl)) ?_ rfl) rfl)
            first | refine jl_if_d (s := 92) (at_f rfl) (fun c92 => ?_) (fun c92 => ?_) | refine jl_if (s := 92) (at_f rfl) (fun c92 => ?_) (fun c92 => ?_)
            · refine jl_y (yl_move (T rfl)) rfl (gd_y rfl rfl (at_f rfl)) (y_ (yl_pick_t (T rfl) (T rfl)) (y_ (yl_move (T rfl)) ?_ rfl) rfl)
              first | refine jl_if_d (s := 95) (at_f rfl) (fun c95 => ?_) (fun c95 => ?_) | refine jl_if (s := 95) (at_f rfl) (fun c95 => ?_) (fun c95 => ?_)
              · refine jl_y (yl_loadA (T rfl) Try.isAgg72 Try.sizeOf72 rfl (by first | exact cs_o | exact cs_m (ha.links.f0 (by omega) rfl) | exact cs_m (hn.links.f (by omega) rfl))) rfl (gd_y rfl rfl (at_f rfl)) ?_
                refine jl_y (yl_loadA (T rfl) Try.isAgg72 Try.sizeOf72 rfl (by first | exact cs_o | exact cs_m (ha.links.f0 (by omega) rfl) | exact cs_m (hn.links.f (by omega) rfl))) rfl (gd_y rfl rfl (at_f rfl)) ?_
                refine jl_y (yl_neqA (T rfl) (T rfl) Try.eqGuardType72 (eqHop _ _)) rfl (gd_y rfl rfl (at_f rfl)) (y_ (yl_pick_t (T rfl) (T rfl)) (y_ (yl_assign (T rfl)) (jl_nil ?_) rfl) rfl)
                refine q_cutC (()) ?_ ⟨(by first | exact at_f rfl | (refine at_e (at_f rfl) (vint ?_); omega) | (refine at_e (at_f rfl) ?_; simp; done) | (refine at_e (at_f rfl) ?_; exact vbool (dif_no1 c92)) | (refine at_e (at_f rfl) ?_; exact vbool (dif_no2 c95)) | (refine at_e (at_f rfl) ?_; exact vbool (dif_yes c92 c95))), trivial⟩ ⟨at_f rfl, at_f rfl, at_f rfl, at_f rfl, at_f rfl, at_f rfl, at_f rfl, at_f rfl, trivial⟩ sbt
                trivial
              · refine n_ft (n_ft (n_ft (y_ (yl_pick_f (T rfl) ev_c) (y_ (yl_assign (T rfl)) (jl_nil ?_) rfl) rfl) rfl rfl rfl rfl) rfl rfl rfl rfl) rfl rfl rfl rfl
                refine q_cutC (()) ?_ ⟨(by first | exact at_f rfl | (refine at_e (at_f rfl) (vint ?_); omega) | (refine at_e (at_f rfl) ?_; simp; done) | (refine at_e (at_f rfl) ?_; exact vbool (dif_no1 c92)) | (refine at_e (at_f rfl) ?_; exact vbool (dif_no2 c95)) | (refine at_e (at_f rfl) ?_; exact vbool (dif_yes c92 c95))), trivial⟩ ⟨at_f rfl, at_f rfl, at_f rfl, at_f rfl, at_f rfl, at_f rfl, at_f rfl, at_f rfl, trivial⟩ sbt
                trivial
            · refine n_ft (y_ (yl_pick_f (T rfl) ev_c) (y_ (yl_move (T rfl)) (n_ft (n_ft (n_ft (y_ (yl_pick_f (T rfl) ev_c) (y_ (yl_assign (T rfl)) (jl_nil ?_) rfl) rfl) rfl rfl rfl rfl) rfl rfl rfl rfl) rfl rfl rfl rfl) rfl) rfl) rfl rfl rfl rfl
              refine q_cutC (()) ?_ ⟨(by first | exact at_f rfl | (refine at_e (at_f rfl) (vint ?_); omega) | (refine at_e (at_f rfl) ?_; simp; done) | (refine at_e (at_f rfl) ?_; exact vbool (dif_no1 c92)) | (refine at_e (at_f rfl) ?_; exact vbool (dif_no2 c95)) | (refine at_e (at_f rfl) ?_; exact vbool (dif_yes c92 c95))), trivial⟩ ⟨at_f rfl, at_f rfl, at_f rfl, at_f rfl, at_f rfl, at_f rfl, at_f rfl, at_f rfl, trivial⟩ sbt
              trivial
          rintro u hx
          refine j_seq (j_region (y_ (yl_move (T rfl)) (y_ (yl_move (T rfl)) ?_ rfl) rfl))
          first | refine jl_if_d (s := 101) (at_f rfl) (fun c101 => ?_) (fun c101 => ?_) | refine jl_if (s := 101) (at_f rfl) (fun c101 => ?_) (fun c101 => ?_)
          · refine jl_y (yl_move (T rfl)) rfl (gd_y rfl rfl (at_f rfl)) (jl_y (yl_move (T rfl)) rfl (gd_y rfl rfl (at_f rfl)) (jl_y (yl_eql (T rfl) (T rfl)) rfl (gd_y rfl rfl (at_f rfl)) (jl_y (yl_move (T rfl)) rfl (gd_y rfl rfl (at_f rfl)) (jl_y (yl_neB (T rfl) (T rfl) Try.runUnderlying4) rfl (gd_y rfl rfl (at_f rfl)) (y_ (yl_pick_t (T rfl) (T rfl)) (y_ (yl_move (T rfl)) ?_ rfl) rfl)))))
            first | refine jl_if_d (s := 108) (at_f rfl) (fun c108 => ?_) (fun c108 => ?_) | refine jl_if (s := 108) (at_f rfl) (fun c108 => ?_) (fun c108 => ?_)
            · refine jl_y (yl_move (T rfl)) rfl (gd_y rfl rfl (at_f rfl)) (jl_y (yl_move (T rfl)) rfl (gd_y rfl rfl (at_f rfl)) (jl_y (yl_leq (T rfl) (T rfl)) rfl (gd_y rfl rfl (at_f rfl)) (y_ (yl_pick_t (T rfl) (T rfl)) (y_ (yl_move (T rfl)) ?_ rfl) rfl)))
              first | refine jl_if_d (s := 113) (at_f rfl) (fun c113 => ?_) (fun c113 => ?_) | refine jl_if (s := 113) (at_f rfl) (fun c113 => ?_) (fun c113 => ?_)
              · refine n_tf (n_tf (n_tf (n_u (n_tf (y_ (yl_pick_t (T rfl) ev_c) (jl_nil (q_then (j_keep [(4, _), (5, _), (7, _), (8, _), (11, _), (12, _), (13, _), (18, _), (119, _)] ⟨at_f rfl, at_f rfl, at_f rfl, at_f rfl, at_f rfl, at_f rfl, at_f rfl, at_f rfl, at_f rfl, trivial⟩ (j_cond_t (at_f rfl) (j_seq (j_region (y_ (yl_assign ev_c) (jl_nil (q_then (j_ret (q_block_ret (q_then_ret (q_loop_ret (q_block_ret (q_then_ret (q_ret rfl (.tmp (at_f rfl) .nil) ?_))))))))) rfl))))))) rfl) rfl rfl rfl rfl) rfl rfl rfl rfl) rfl rfl rfl rfl) rfl rfl rfl rfl) rfl rfl rfl rfl
                first | exact ⟨_, ⟨rfl, rfl⟩, sbt⟩ | (exfalso; first | exact conf_no1 hcf c101 c108 c113 | exact conf_no2 hcf c101 c119 (by omega) | exact c62 rfl | exact c67 rfl | exact absurd c157 (by decide) | omega)
              · refine jl_y (yl_move (T rfl)) rfl (gd_y rfl rfl (at_f rfl)) ?_
                first | refine jl_y (yl_not_d (T rfl)) rfl (gd_y rfl rfl (at_f rfl)) ?_ | refine jl_y (yl_not (T rfl)) rfl (gd_y rfl rfl (at_f rfl)) ?_
                refine jl_y (yl_move (T rfl)) rfl (gd_y rfl rfl (at_f rfl)) ?_
                first | refine jl_if_d (s := 116) (at_f rfl) (fun c116 => ?_) (fun c116 => ?_) | refine jl_if (s := 116) (at_f rfl) (fun c116 => ?_) (fun c116 => ?_)
                · refine jl_y (yl_move (T rfl)) rfl (gd_y rfl rfl (at_f rfl)) (jl_y (yl_pick_t (T rfl) (T rfl)) rfl (gd_y rfl rfl (at_f rfl)) (y_ (yl_pick_f (T rfl) (T rfl)) (jl_nil (q_then (j_keep [(4, _), (5, _), (7, _), (8, _), (11, _), (12, _), (13, _), (18, _), (119, _)] ⟨at_f rfl, at_f rfl, at_f rfl, at_f rfl, at_f rfl, at_f rfl, at_f rfl, at_f rfl, at_f rfl, trivial⟩ ?_))) rfl))
                  first | refine j_cond_d (at_f rfl) (fun c119 => ?_) (fun c119 => ?_) | refine j_cond (at_f rfl) (fun c119 => ?_) (fun c119 => ?_)
                  · refine j_seq (j_region (y_ (yl_assign ev_c) (jl_nil (q_then (j_ret (q_block_ret (q_then_ret (q_loop_ret (q_block_ret (q_then_ret (q_ret rfl (.tmp (at_f rfl) .nil) ?_))))))))) rfl))
                    first | exact ⟨_, ⟨rfl, rfl⟩, sbt⟩ | (exfalso; first | exact conf_no1 hcf c101 c108 c113 | exact conf_no2 hcf c101 c119 (by omega) | exact c62 rfl | exact c67 rfl | exact absurd c157 (by decide) | omega)
                  · refine j_skip (q_block (q_then (j_region (y_ (yl_move (T rfl)) (y_ (yl_add (T rfl) ev_c (by omega)) ?_ rfl) rfl))))
                    refine y_ (yl_assign (T rfl)) (jl_nil ?_) rfl
                    refine q_loopC (i + 1) ?_ ?_ ⟨(by first | exact at_f rfl | (refine at_e (at_f rfl) (vint ?_); omega) | (refine at_e (at_f rfl) ?_; simp; done) | (refine at_e (at_f rfl) ?_; exact vbool (dif_no1 c92)) | (refine at_e (at_f rfl) ?_; exact vbool (dif_no2 c95)) | (refine at_e (at_f rfl) ?_; exact vbool (dif_yes c92 c95))), trivial⟩ ⟨at_f rfl, at_f rfl, at_f rfl, at_f rfl, at_f rfl, at_f rfl, at_f rfl, trivial⟩ ?_
                    · show i + 1 ≤ _; omega
                    · first | omega | (simp only []; omega)
                    · exact sbt
                · refine n_ft (jl_y (yl_pick_f (T rfl) ev_c) rfl (gd_y rfl rfl (at_f rfl)) (y_ (yl_pick_f (T rfl) (T rfl)) (jl_nil (q_then (j_keep [(4, _), (5, _), (7, _), (8, _), (11, _), (12, _), (13, _), (18, _), (119, _)] ⟨at_f rfl, at_f rfl, at_f rfl, at_f rfl, at_f rfl, at_f rfl, at_f rfl, at_f rfl, at_f rfl, trivial⟩ (j_cond_f (at_f rfl) (j_skip (q_block (q_then (j_region (y_ (yl_move (T rfl)) (y_ (yl_add (T rfl) ev_c (by omega)) ?_ rfl) rfl))))))))) rfl)) rfl rfl rfl rfl
                  refine y_ (yl_assign (T rfl)) (jl_nil ?_) rfl
                  refine q_loopC (i + 1) ?_ ?_ ⟨(by first | exact at_f rfl | (refine at_e (at_f rfl) (vint ?_); omega) | (refine at_e (at_f rfl) ?_; simp; done) | (refine at_e (at_f rfl) ?_; exact vbool (dif_no1 c92)) | (refine at_e (at_f rfl) ?_; exact vbool (dif_no2 c95)) | (refine at_e (at_f rfl) ?_; exact vbool (dif_yes c92 c95))), trivial⟩ ⟨at_f rfl, at_f rfl, at_f rfl, at_f rfl, at_f rfl, at_f rfl, at_f rfl, trivial⟩ ?_
                  · show i + 1 ≤ _; omega
                  · first | omega | (simp only []; omega)
                  · exact sbt
            · refine n_ft (n_ft (n_ft (y_ (yl_pick_f (T rfl) ev_c) (y_ (yl_move (T rfl)) (jl_y (yl_move (T rfl)) rfl (gd_y rfl rfl (at_f rfl)) ?_) rfl) rfl) rfl rfl rfl rfl) rfl rfl rfl rfl) rfl rfl rfl rfl
              first | refine jl_y (yl_not_d (T rfl)) rfl (gd_y rfl rfl (at_f rfl)) ?_ | refine jl_y (yl_not (T rfl)) rfl (gd_y rfl rfl (at_f rfl)) ?_
              refine jl_y (yl_move (T rfl)) rfl (gd_y rfl rfl (at_f rfl)) ?_
              first | refine jl_if_d (s := 116) (at_f rfl) (fun c116 => ?_) (fun c116 => ?_) | refine jl_if (s := 116) (at_f rfl) (fun c116 => ?_) (fun c116 => ?_)
              · refine jl_y (yl_move (T rfl)) rfl (gd_y rfl rfl (at_f rfl)) (jl_y (yl_pick_t (T rfl) (T rfl)) rfl (gd_y rfl rfl (at_f rfl)) (y_ (yl_pick_f (T rfl) (T rfl)) (jl_nil (q_then (j_keep [(4, _), (5, _), (7, _), (8, _), (11, _), (12, _), (13, _), (18, _), (119, _)] ⟨at_f rfl, at_f rfl, at_f rfl, at_f rfl, at_f rfl, at_f rfl, at_f rfl, at_f rfl, at_f rfl, trivial⟩ ?_))) rfl))
                first | refine j_cond_d (at_f rfl) (fun c119 => ?_) (fun c119 => ?_) | refine j_cond (at_f rfl) (fun c119 => ?_) (fun c119 => ?_)
                · refine j_seq (j_region (y_ (yl_assign ev_c) (jl_nil (q_then (j_ret (q_block_ret (q_then_ret (q_loop_ret (q_block_ret (q_then_ret (q_ret rfl (.tmp (at_f rfl) .nil) ?_))))))))) rfl))
                  first | exact ⟨_, ⟨rfl, rfl⟩, sbt⟩ | (exfalso; first | exact conf_no1 hcf c101 c108 c113 | exact conf_no2 hcf c101 c119 (by omega) | exact c62 rfl | exact c67 rfl | exact absurd c157 (by decide) | omega)
                · refine j_skip (q_block (q_then (j_region (y_ (yl_move (T rfl)) (y_ (yl_add (T rfl) ev_c (by omega)) ?_ rfl) rfl))))
                  refine y_ (yl_assign (T rfl)) (jl_nil ?_) rfl
                  refine q_loopC (i + 1) ?_ ?_ ⟨(by first | exact at_f rfl | (refine at_e (at_f rfl) (vint ?_); omega) | (refine at_e (at_f rfl) ?_; simp; done) | (refine at_e (at_f rfl) ?_; exact vbool (dif_no1 c92)) | (refine at_e (at_f rfl) ?_; exact vbool (dif_no2 c95)) | (refine at_e (at_f rfl) ?_; exact vbool (dif_yes c92 c95))), trivial⟩ ⟨at_f rfl, at_f rfl, at_f rfl, at_f rfl, at_f rfl, at_f rfl, at_f rfl, trivial⟩ ?_
                  · show i + 1 ≤ _; omega
                  · first | omega | (simp only []; omega)
                  · exact sbt
              · refine n_ft (jl_y (yl_pick_f (T rfl) ev_c) rfl (gd_y rfl rfl (at_f rfl)) (y_ (yl_pick_f (T rfl) (T rfl)) (jl_nil (q_then (j_keep [(4, _), (5, _), (7, _), (8, _), (11, _), (12, _), (13, _), (18, _), (119, _)] ⟨at_f rfl, at_f rfl, at_f rfl, at_f rfl, at_f rfl, at_f rfl, at_f rfl, at_f rfl, at_f rfl, trivial⟩ (j_cond_f (at_f rfl) (j_skip (q_block (q_then (j_region (y_ (yl_move (T rfl)) (y_ (yl_add (T rfl) ev_c (by omega)) ?_ rfl) rfl))))))))) rfl)) rfl rfl rfl rfl
                refine y_ (yl_assign (T rfl)) (jl_nil ?_) rfl
                refine q_loopC (i + 1) ?_ ?_ ⟨(by first | exact at_f rfl | (refine at_e (at_f rfl) (vint ?_); omega) | (refine at_e (at_f rfl) ?_; simp; done) | (refine at_e (at_f rfl) ?_; exact vbool (dif_no1 c92)) | (refine at_e (at_f rfl) ?_; exact vbool (dif_no2 c95)) | (refine at_e (at_f rfl) ?_; exact vbool (dif_yes c92 c95))), trivial⟩ ⟨at_f rfl, at_f rfl, at_f rfl, at_f rfl, at_f rfl, at_f rfl, at_f rfl, trivial⟩ ?_
                · show i + 1 ≤ _; omega
                · first | omega | (simp only []; omega)
                · exact sbt
          · refine n_ft (n_ft (n_ft (n_ft (n_ft (y_ (yl_pick_f (T rfl) ev_c) (y_ (yl_move (T rfl)) (n_ft (n_ft (n_ft (y_ (yl_pick_f (T rfl) ev_c) (y_ (yl_move (T rfl)) (jl_y (yl_move (T rfl)) rfl (gd_y rfl rfl (at_f rfl)) ?_) rfl) rfl) rfl rfl rfl rfl) rfl rfl rfl rfl) rfl rfl rfl rfl) rfl) rfl) rfl rfl rfl rfl) rfl rfl rfl rfl) rfl rfl rfl rfl) rfl rfl rfl rfl) rfl rfl rfl rfl
            first | refine jl_y (yl_not_d (T rfl)) rfl (gd_y rfl rfl (at_f rfl)) ?_ | refine jl_y (yl_not (T rfl)) rfl (gd_y rfl rfl (at_f rfl)) ?_
            refine jl_y (yl_move (T rfl)) rfl (gd_y rfl rfl (at_f rfl)) ?_
            first | refine jl_if_d (s := 116) (at_f rfl) (fun c116 => ?_) (fun c116 => ?_) | refine jl_if (s := 116) (at_f rfl) (fun c116 => ?_) (fun c116 => ?_)
            · refine jl_y (yl_move (T rfl)) rfl (gd_y rfl rfl (at_f rfl)) (jl_y (yl_pick_t (T rfl) (T rfl)) rfl (gd_y rfl rfl (at_f rfl)) (y_ (yl_pick_f (T rfl) (T rfl)) (jl_nil (q_then (j_keep [(4, _), (5, _), (7, _), (8, _), (11, _), (12, _), (13, _), (18, _), (119, _)] ⟨at_f rfl, at_f rfl, at_f rfl, at_f rfl, at_f rfl, at_f rfl, at_f rfl, at_f rfl, at_f rfl, trivial⟩ ?_))) rfl))
              first | refine j_cond_d (at_f rfl) (fun c119 => ?_) (fun c119 => ?_) | refine j_cond (at_f rfl) (fun c119 => ?_) (fun c119 => ?_)
              · refine j_seq (j_region (y_ (yl_assign ev_c) (jl_nil (q_then (j_ret (q_block_ret (q_then_ret (q_loop_ret (q_block_ret (q_then_ret (q_ret rfl (.tmp (at_f rfl) .nil) ?_))))))))) rfl))
                first | exact ⟨_, ⟨rfl, rfl⟩, sbt⟩ | (exfalso; first | exact conf_no1 hcf c101 c108 c113 | exact conf_no2 hcf c101 c119 (by omega) | exact c62 rfl | exact c67 rfl | exact absurd c157 (by decide) | omega)
              · refine j_skip (q_block (q_then (j_region (y_ (yl_move (T rfl)) (y_ (yl_add (T rfl) ev_c (by omega)) ?_ rfl) rfl))))
                refine y_ (yl_assign (T rfl)) (jl_nil ?_) rfl
                refine q_loopC (i + 1) ?_ ?_ ⟨(by first | exact at_f rfl | (refine at_e (at_f rfl) (vint ?_); omega) | (refine at_e (at_f rfl) ?_; simp; done) | (refine at_e (at_f rfl) ?_; exact vbool (dif_no1 c92)) | (refine at_e (at_f rfl) ?_; exact vbool (dif_no2 c95)) | (refine at_e (at_f rfl) ?_; exact vbool (dif_yes c92 c95))), trivial⟩ ⟨at_f rfl, at_f rfl, at_f rfl, at_f rfl, at_f rfl, at_f rfl, at_f rfl, trivial⟩ ?_
                · show i + 1 ≤ _; omega
                · first | omega | (simp only []; omega)
                · exact sbt
            · refine n_ft (jl_y (yl_pick_f (T rfl) ev_c) rfl (gd_y rfl rfl (at_f rfl)) (y_ (yl_pick_f (T rfl) (T rfl)) (jl_nil (q_then (j_keep [(4, _), (5, _), (7, _), (8, _), (11, _), (12, _), (13, _), (18, _), (119, _)] ⟨at_f rfl, at_f rfl, at_f rfl, at_f rfl, at_f rfl, at_f rfl, at_f rfl, at_f rfl, at_f rfl, trivial⟩ (j_cond_f (at_f rfl) (j_skip (q_block (q_then (j_region (y_ (yl_move (T rfl)) (y_ (yl_add (T rfl) ev_c (by omega)) ?_ rfl) rfl))))))))) rfl)) rfl rfl rfl rfl
              refine y_ (yl_assign (T rfl)) (jl_nil ?_) rfl
              refine q_loopC (i + 1) ?_ ?_ ⟨(by first | exact at_f rfl | (refine at_e (at_f rfl) (vint ?_); omega) | (refine at_e (at_f rfl) ?_; simp; done) | (refine at_e (at_f rfl) ?_; exact vbool (dif_no1 c92)) | (refine at_e (at_f rfl) ?_; exact vbool (dif_no2 c95)) | (refine at_e (at_f rfl) ?_; exact vbool (dif_yes c92 c95))), trivial⟩ ⟨at_f rfl, at_f rfl, at_f rfl, at_f rfl, at_f rfl, at_f rfl, at_f rfl, trivial⟩ ?_
              · show i + 1 ≤ _; omega
              · first | omega | (simp only []; omega)
              · exact sbt
        · refine j_exit (q_then_exit (q_loop_exit (q_block_hit (q_then ?_))))
          refine j_cutH (X := Unit) (V := fun u => [(24, .int .i64 ((c : Nat) : Int))]) (C := [(5, _), (7, _), (11, _)]) (φ := fun u => True) ⟨at_f rfl, at_f rfl, at_f rfl, trivial⟩ ?_ ?_
          · refine j_region (y_ (yl_move (T rfl)) (y_ (yl_convI (T rfl) Try.runUnderlying5 Try.runUnderlying3) (y_ (yl_fa (T rfl) fa48_1) (y_ (yl_load (T rfl) Try.isAgg28 (by first | exact c_o | exact c_m (ha.links.f0 (by omega) rfl) | exact c_m (hn.links.f (by omega) rfl))) ?_ rfl) rfl) rfl) rfl)
            refine y_ (yl_len (T rfl) Try.runUnderlying28) (y_ (yl_add (T rfl) ev_c (by omega)) ?_ rfl) rfl
            refine y_ (yl_rem (T rfl) (T rfl) ⟨by rw [IntWalk.i64_in _ (by omega)]; omega, by omega⟩) ?_ rfl
            refine y_ (yl_assign (T rfl)) (jl_nil ?_) rfl
            refine q_cutC (()) ?_ ⟨(by first | exact at_f rfl | (refine at_e (at_f rfl) (vint ?_); omega) | (refine at_e (at_f rfl) ?_; simp; done) | (refine at_e (at_f rfl) ?_; exact vbool (dif_no1 c92)) | (refine at_e (at_f rfl) ?_; exact vbool (dif_no2 c95)) | (refine at_e (at_f rfl) ?_; exact vbool (dif_yes c92 c95))), trivial⟩ ⟨at_f rfl, at_f rfl, at_f rfl, trivial⟩ sbt
            trivial
          rintro u hx
          refine j_seq (j_region (y_ (yl_loadA (T rfl) Try.isAgg48 Try.sizeOf48 rfl (by first | exact cs_o | exact cs_m (ha.links.f0 (by omega) rfl) | exact cs_m (hn.links.f (by omega) rfl))) ?_ rfl))
          refine e_ (eff_alloc Try.zeroValue48 cs_) ?_ rfl
          rintro _ _ ⟨n25, rfl, rfl⟩
          first | refine jl_e (eff_sW (T rfl) (T rfl) Try.sizeOf48) rfl gd_n ?_
          rintro _ _ ⟨rfl, rfl⟩
          refine jl_nil (q_then (j_seq (j_region (y_ (yl_fa (T rfl) fa48_1) (y_ (yl_load (T rfl) Try.isAgg28 (by first | exact c_o | exact c_m (ha.links.f0 (by omega) rfl) | exact c_m (hn.links.f (by omega) rfl))) ?_ rfl) rfl))))
          refine y_ (yl_move (T rfl)) (y_ (yl_sliceL  (T rfl) (T rfl) Try.runUnderlying28 Try.sizeOf3 (by omega)) ?_ rfl) rfl
          refine y_ (yl_fa (T rfl) fa48_1) ?_ rfl
          first | refine jl_e (eff_sW (T rfl) (T rfl) Try.sizeOf28) rfl gd_n ?_ | refine jl_e (eff_s1 (T rfl) (T rfl) rfl Try.sizeOf28) rfl gd_n ?_ | refine jl_e (eff_s1r (T rfl) (T rfl) rfl Try.sizeOf28) rfl gd_n ?_
          rintro _ _ ⟨rfl, rfl⟩
          refine jl_nil (q_then (j_seq (j_seq (j_region (y_ (yl_assign ev_c) (jl_nil (q_then (j_block ?_))) rfl)))))
          refine j_loopG (X := Nat) (V := fun i => [(26, .int .i64 (i : Nat))]) (C := [(5, _), (7, _), (11, _), (24, _), (25, _)]) (G := fun i => [(n25, Cl [.int .i64 (nodeAt n.links a.way.src a.way.links i), .slice (slD a.q a.cap c 1) (a.way.links.length - c) (a.cap - c), .int .i64 a.way.port, .int .i64 a.way.tag, .int .i64 a.way.step] 48)]) (Hc := _) (φ := fun i => i ≤ c) (μ := fun i => c - i) (x0 := 0) ?_ ⟨at_f rfl, at_f rfl, at_f rfl, at_f rfl, at_f rfl, trivial⟩ ⟨(by first | exact at_f rfl | (refine at_e (at_f rfl) (vint ?_); omega) | (refine at_e (at_f rfl) ?_; simp; done) | (refine at_e (at_f rfl) ?_; exact vbool (dif_no1 c92)) | (refine at_e (at_f rfl) ?_; exact vbool (dif_no2 c95)) | (refine at_e (at_f rfl) ?_; exact vbool (dif_yes c92 c95))), trivial⟩ (by simp only [node_zero]; exact sb0) ?_
          · exact Nat.zero_le _
          rintro i hi
          refine j_seq (j_seq (j_region (y_ (yl_move (T rfl)) (y_ (yl_move (T rfl)) (y_ (yl_lss (T rfl) (T rfl)) (jl_nil (q_then ?_)) rfl) rfl) rfl)))
          first | refine j_cond_d (at_f rfl) (fun c135 => ?_) (fun c135 => ?_) | refine j_cond (at_f rfl) (fun c135 => ?_) (fun c135 => ?_)
          · have hir := hia i (by omega)
            refine j_skip (q_then (j_seq (j_block (j_any 11 [(0, true), (1, true), (2, true), (3, true), (4, true), (5, true), (6, true), (7, true), (8, true), (9, true), (10, true)] _ mixd (by kernel_rfl) sb0 ?_))))
            refine o_y rfl (yl_fa (T rfl) fa26_1) (o_y rfl (yl_load (T rfl) Try.isAgg23 (by first | exact c_o | exact c_m (ha.links.f0 (by omega) rfl) | exact c_m (hn.links.f (by omega) rfl))) ?_ rfl gd_n) rfl gd_n
            refine o_y rfl (yl_fa (T rfl) fa48_1) (o_y rfl (yl_load (T rfl) Try.isAgg28 (by first | exact c_o | exact c_m (ha.links.f0 (by omega) rfl) | exact c_m (hn.links.f (by omega) rfl))) ?_ rfl gd_n) rfl gd_n
            refine o_y rfl (yl_move (T rfl)) (o_y rfl (yl_ixQ (T rfl) (T rfl) Try.runUnderlying28 Try.sizeOf3 (by omega) (by first | exact rfl | exact ha.links.b (i := i) (by omega) | exact hn.links.b (i := (gd a.way.links i).toNat) (by omega))) ?_ rfl gd_n) rfl gd_n
            refine o_y rfl (yl_load (T rfl) Try.isAgg3 (by first | exact c_o | exact c_m (ha.links.f0 (by omega) rfl) | exact c_m (hn.links.f (by omega) rfl))) ?_ rfl gd_n
            refine o_y rfl (yl_ixR (T rfl) (T rfl) Try.runUnderlying23 Try.sizeOf63 (by omega) (by first | exact rfl | exact ha.links.b (i := i) (by omega) | exact hn.links.b (i := (gd a.way.links i).toNat) (by omega))) ?_ rfl gd_n
            refine o_y rfl (yl_fa (T rfl) fa63_1) (o_y rfl (yl_load (T rfl) Try.isAgg3 (by first | exact c_o | exact c_m (ha.links.f0 (by omega) rfl) | exact c_m (hn.links.f (by omega) rfl))) ?_ rfl gd_n) rfl gd_n
            refine o_y rfl (yl_fa0 (T rfl) fa48_0) (jo_nil rfl ?_) rfl gd_n
            first | refine jl_e (eff_sW (T rfl) (T rfl) Try.sizeOf3) rfl gd_n ?_ | refine jl_e (eff_s1 (T rfl) (T rfl) rfl Try.sizeOf3) rfl gd_n ?_ | refine jl_e (eff_s1r (T rfl) (T rfl) rfl Try.sizeOf3) rfl gd_n ?_
            rintro _ _ ⟨rfl, rfl⟩
            refine jl_nil (q_block (q_then (j_region (y_ (yl_move (T rfl)) (y_ (yl_add (T rfl) ev_c (by omega)) ?_ rfl) rfl))))
            refine y_ (yl_assign (T rfl)) (jl_nil ?_) rfl
            refine q_loopC (i + 1) ?_ ?_ ⟨(by first | exact at_f rfl | (refine at_e (at_f rfl) (vint ?_); omega) | (refine at_e (at_f rfl) ?_; simp; done) | (refine at_e (at_f rfl) ?_; exact vbool (dif_no1 c92)) | (refine at_e (at_f rfl) ?_; exact vbool (dif_no2 c95)) | (refine at_e (at_f rfl) ?_; exact vbool (dif_yes c92 c95))), trivial⟩ ⟨at_f rfl, at_f rfl, at_f rfl, at_f rfl, at_f rfl, trivial⟩ ?_
            · show i + 1 ≤ _; omega
            · first | omega | (simp only []; omega)
            · simp only [node_step (show i < a.way.links.length by omega)]; exact sbt
          · have hic : i = c := by omega
            subst hic
            refine j_exit (q_then_exit (q_loop_exit (q_block_hit (q_then (j_seq (j_region (y_ (yl_loadA (T rfl) Try.isAgg26 Try.sizeOf26 rfl (by first | exact cs_o | exact cs_m (ha.links.f0 (by omega) rfl) | exact cs_m (hn.links.f (by omega) rfl))) ?_ rfl)))))))
            refine y_ (yl_loadA (T rfl) Try.isAgg48 Try.sizeOf48 rfl (by first | exact cs_o | exact cs_m (ha.links.f0 (by omega) rfl) | exact cs_m (hn.links.f (by omega) rfl))) ?_ rfl
            refine y_ (yl_loadA (T rfl) Try.isAgg48 Try.sizeOf48 rfl (by first | exact cs_o | exact cs_m (ha.links.f0 (by omega) rfl) | exact cs_m (hn.links.f (by omega) rfl))) ?_ rfl
            refine e_ (eff_call (.cons (T rfl) (.cons (T rfl) (.cons (T rfl) .nil))) Try.call25 (tConf_k ⟨{ a.way with src := nodeAt n.links a.way.src a.way.links i, links := a.way.links.drop i }, slD a.q a.cap i 1, a.cap - i⟩ (by simp) n hn.mono a ha.mono ⟨(ha.links.drop hac i).mono sbt, by simp; omega, ha.pb⟩ hia (inr_drop hia i) (by omega) (by simp; omega))) ?_ rfl
            rintro _ _ ⟨rfl, rfl⟩
            rw [conf_part hda haa hc]
            refine y_ (yl_move (T rfl)) (y_ (yl_extract (T rfl) rfl) (y_ (yl_extract (T rfl) rfl) (y_ (yl_assign (T rfl)) (y_ (yl_assign (T rfl)) (jl_nil (q_then (j_seq (j_region (y_ (yl_move (T rfl)) (y_ (yl_move (T rfl)) ?_ rfl) rfl))))) rfl) rfl) rfl) rfl) rfl
            first | refine jl_if_d (s := 157) (at_f rfl) (fun c157 => ?_) (fun c157 => ?_) | refine jl_if (s := 157) (at_f rfl) (fun c157 => ?_) (fun c157 => ?_)
            · refine jl_y (yl_move (T rfl)) rfl (gd_y rfl rfl (at_f rfl)) (jl_y (yl_not (T rfl)) rfl (gd_y rfl rfl (at_f rfl)) (y_ (yl_pick_t (T rfl) (T rfl)) (y_ (yl_assign (T rfl)) (jl_nil (q_then (j_keep [(10, _)] ⟨at_f rfl, trivial⟩ (j_ret (q_ret rfl (.tmp (at_f rfl) .nil) ?_))))) rfl) rfl))
              first | exact ⟨_, ⟨rfl, rfl⟩, sbt⟩ | (exfalso; first | exact conf_no1 hcf c101 c108 c113 | exact conf_no2 hcf c101 c119 (by omega) | exact c62 rfl | exact c67 rfl | exact absurd c157 (by decide) | omega)
            · refine n_ft (n_ft (y_ (yl_pick_f (T rfl) ev_c) (y_ (yl_assign (T rfl)) (jl_nil (q_then (j_keep [(10, _)] ⟨at_f rfl, trivial⟩ (j_ret (q_ret rfl (.tmp (at_f rfl) .nil) ?_))))) rfl) rfl) rfl rfl rfl rfl) rfl rfl rfl rfl
              first | exact ⟨_, ⟨rfl, rfl⟩, sbt⟩ | (exfalso; first | exact conf_no1 hcf c101 c108 c113 | exact conf_no2 hcf c101 c119 (by omega) | exact c62 rfl | exact c67 rfl | exact absurd c157 (by decide) | omega)
end Go.Proofs.Ytdbffighngmibaa
