/-
  Walks of what a way does.
-/
import Derived.Test.YtdbffighngmibaaTf
import Derived.Test.YtdbffighngmibaaLi
namespace Go.Proofs.Ytdbffighngmibaa
open Go.RowKit
set_option linter.unusedVariables false
set_option linter.unusedSimpArgs false
abbrev encK1 (k : Int) : Value := .int .i64 k
abbrev encB (b : Bool) : Value := .bool b
abbrev encK2 (p : Int × Int) : Value := .agg #[.int .i64 p.1, .int .i64 p.2]
abbrev encHv (h : Hop) : Value := .agg (encH h).toArray
theorem keyI {V : Type} : KeyOk (V := V) Try.prog 3 encK1 := keyOk_now Try.runUnderlying3 (fun b k w => by cases b <;> kernel_rfl) (fun k k' => by
  by_cases h : k = k'
  · subst h; simp [Instr.sameNow]
  · have h2 : ¬ k' = k := fun e => h e.symm
    simp [Instr.sameNow, h, h2]) (fun k => by simp [Instr.sameBits])
theorem eqPlace (a b : Int × Int) (w : World) : (Op.equal 100 (encK2 a) (encK2 b)).run Try.prog w = .ok (decide (b = a)) w := by
  unfold Op.equal Op.maxDepth
  rw [run_equalIn_struct w 9999 100 _ _ (by kernel_rfl) (by kernel_rfl)]
  simp [go_sem, Program.fieldsOf, Try.underlying100, Op.eqFields]
  obtain ⟨a1, a2⟩ := a
  obtain ⟨b1, b2⟩ := b
  by_cases h : b1 = a1 <;> by_cases h2 : b2 = a2 <;> simp [h, h2] <;> (intros; omega)
theorem keyP {V : Type} : KeyOk (V := V) Try.prog 100 encK2 := keyOk_ask Try.runUnderlying100 (fun b k w => by cases b <;> kernel_rfl) (fun k k' => by simp [Instr.sameNow]) eqPlace (fun k => by simp [Instr.sameBits])
theorem tAt_s {w0 : World} {H : List (Nat × Obj)} (n : Nm) (hn : NetM w0 H n) (m : Wm) (hm : WayM w0 H m) (hr : InR n.links m.way.links) (node : Int) :
    FSpec Try.prog w0 26 #[.agg (encNm n).toArray, .agg (encW m).toArray, .int .i64 node] H (Still (.tuple #[.agg (encH (hopOr (atF n.links m.way node))).toArray, .bool (atF n.links m.way node).isSome]) H) := by
  refine fn_spec Try.func26 rfl Try.ntmps26 rfl (j_seq (j_region (e_ (eff_box (T rfl) cs_) ?_ rfl)))
  rintro _ _ ⟨n3, rfl, rfl⟩
  refine e_ (eff_box (T rfl) cs_) ?_ rfl
  rintro _ _ ⟨n4, rfl, rfl⟩
  refine e_ (eff_box (T rfl) cs_) ?_ rfl
  rintro _ _ ⟨n5, rfl, rfl⟩
  refine e_ (eff_alloc Try.zeroValue72 cs_) ?_ rfl
  rintro _ _ ⟨n6, rfl, rfl⟩
  refine e_ (eff_alloc Try.zeroValue4 cs_) ?_ rfl
  rintro _ _ ⟨n7, rfl, rfl⟩
  refine jl_nil (q_then (j_seq (j_seq (j_region (y_ (yl_loadA (T rfl) Try.isAgg26 Try.sizeOf26 rfl (by first | exact cs_o)) ?_ rfl)))))
  refine y_ (yl_loadA (T rfl) Try.isAgg48 Try.sizeOf48 rfl (by first | exact cs_o)) ?_ rfl
  refine e_ (eff_call (.cons (T rfl) (.cons (T rfl) .nil)) Try.call59 (hops_s _ _)) ?_ rfl
  rintro _ _ ⟨m2, m3, rfl, rfl⟩
  refine jl_nil (q_then (j_block ?_))
  refine j_range (Z := Bool × Hop) (T rfl) Try.call77 (hops_it n hn m hm hr _ _) (fun _ => rfl) rfl (fun ⟨b, h⟩ => (m3, Cl (encW m) 48) :: (m2, Cl (encNm n) 26) :: (n7, Cl [.bool b] 4) :: (n6, Cl (encH h) 72) :: (n5, Cl [.int .i64 node] 3) :: (n4, Cl (encW m) 48) :: (n3, Cl (encNm n) 26) :: H) (fun k ⟨b, h⟩ => b = false ∧ h = ⟨0, 0, 0, 0⟩ ∧ atD n.links m.way node k = atF n.links m.way node) (fun ⟨b, h⟩ => b = true ∧ atF n.links m.way node = some h) (fun _ ⟨b, h⟩ => False) ((false, ⟨0, 0, 0, 0⟩)) ?_ sbt ?_ ?_ ?_ ?_ ?_
  · exact ⟨rfl, rfl, rfl⟩
  · rintro ⟨b, h⟩; exact sbt
  · rintro l lr Y X k ⟨nd, hp⟩ ⟨b, h⟩ hl hx ⟨rfl, rfl, hat⟩
    have hkl : k < (hops n.links m.way).length := (List.getElem?_eq_some_iff.1 hx).1
    have hkm : k ≤ m.way.links.length := by rw [hops_len] at hkl; omega
    obtain ⟨e1, e2⟩ : gd (nodesF n.links m.way) k = nd ∧ hopN m.way k = hp := by rw [hops_at hkm] at hx; simpa using hx
    refine j_keep [(5, _), (6, _), (7, _), (13, _), (14, _)] ⟨at_f rfl, at_f rfl, at_f rfl, at_f rfl, at_f rfl, trivial⟩ (j_seq (j_region (y_ (yl_assign (T rfl)) (jl_nil (q_then (j_region (e_ (eff_alloc Try.zeroValue72 cs_) ?_ rfl)))) rfl)))
    rintro _ _ ⟨n9, rfl, rfl⟩
    first | refine jl_e (eff_sW (T rfl) (T rfl) Try.sizeOf72) rfl gd_n ?_
    rintro _ _ ⟨rfl, rfl⟩
    refine jl_nil (q_begin hl ?_)
    refine j_block (j_seq (j_region (y_ (yl_move (T rfl)) (y_ (yl_load (T rfl) Try.isAgg3 (by first | exact c_o)) ?_ rfl) rfl)))
    refine y_ (yl_eql (T rfl) (T rfl)) (jl_nil (q_then ?_)) rfl
    first | refine j_cond_d (at_f rfl) (fun c17 => ?_) (fun c17 => ?_) | refine j_cond (at_f rfl) (fun c17 => ?_) (fun c17 => ?_)
    · refine j_seq (j_region (y_ (yl_loadA (T rfl) Try.isAgg72 Try.sizeOf72 rfl (by first | exact cs_o)) ?_ rfl))
      first | refine jl_e (eff_sW (T rfl) (T rfl) Try.sizeOf72) rfl gd_n ?_
      rintro _ _ ⟨rfl, rfl⟩
      first | refine jl_e (eff_sW (T rfl) ev_c Try.sizeOf4) rfl gd_n ?_ | refine jl_e (eff_s1 (T rfl) ev_c rfl Try.sizeOf4) rfl gd_n ?_
      rintro _ _ ⟨rfl, rfl⟩
      refine jl_nil (q_then (j_ret (q_block_ret (q_round_ret ((true, hp)) ?_ sbt))))
      exact ⟨rfl, by rw [← hat, atD_yes hkm (by rw [e1]; exact c17), e2]⟩
    · refine j_skip (q_block (q_round ((false, ⟨0, 0, 0, 0⟩)) ?_ sbt))
      exact ⟨rfl, rfl, by rw [← atD_no hkm (by rw [e1]; exact c17)]; exact hat⟩
  · rintro D0 ⟨b, h⟩ ⟨rfl, rfl, hat⟩
    refine q_block (q_then (j_seq (j_region (y_ (yl_build .nil (bd72_z)) ?_ rfl))))
    first | refine jl_e (eff_sW (T rfl) (T rfl) Try.sizeOf72) rfl gd_n ?_
    rintro _ _ ⟨rfl, rfl⟩
    first | refine jl_e (eff_sW (T rfl) ev_c Try.sizeOf4) rfl gd_n ?_ | refine jl_e (eff_s1 (T rfl) ev_c rfl Try.sizeOf4) rfl gd_n ?_
    rintro _ _ ⟨rfl, rfl⟩
    refine jl_nil (q_then (j_ret (q_mark_ret ?_)))
    refine q_ret rfl (.cellA (at_f rfl) Try.isAgg72 Try.sizeOf72 rfl (by first | exact cs_o) (.cell (at_f rfl) Try.isAgg4 (by first | exact c_o) .nil)) ?_
    rw [hops_len, atD_end (by omega)] at hat
    exact ⟨_, ⟨by rw [← hat]; rfl, rfl⟩, sbt⟩
  · rintro D0 ⟨b, h⟩ ⟨rfl, hat⟩
    refine q_block_ret (q_then_ret (q_mark_ret ?_))
    refine q_ret rfl (.cellA (at_f rfl) Try.isAgg72 Try.sizeOf72 rfl (by first | exact cs_o) (.cell (at_f rfl) Try.isAgg4 (by first | exact c_o) .nil)) ?_
    exact ⟨_, ⟨by rw [hat]; rfl, rfl⟩, sbt⟩
  · exact fun _ _ _ h => h.elim
theorem tConf_s {w0 : World} {H : List (Nat × Obj)} (n : Nm) (hn : NetM w0 H n) (a b : Wm) (ha : WayM w0 H a) (hb : WayM w0 H b) (hra : InR n.links a.way.links) (hrb : InR n.links b.way.links) (hla : a.way.links.length ≤ 1000000) (hlb : b.way.links.length ≤ 1000000) :
    FSpec Try.prog w0 25 #[.agg (encNm n).toArray, .agg (encW a).toArray, .agg (encW b).toArray] H (Still (.tuple #[.int .i64 (max (confI n.links a.way b.way) 0), .bool (decide (0 ≤ confI n.links a.way b.way))]) H) := by
  refine fn_spec Try.func25 rfl Try.ntmps25 rfl (j_seq (j_region (e_ (eff_box (T rfl) cs_) ?_ rfl)))
  rintro _ _ ⟨n3, rfl, rfl⟩
  refine e_ (eff_box (T rfl) cs_) ?_ rfl
  rintro _ _ ⟨n4, rfl, rfl⟩
  refine e_ (eff_box (T rfl) cs_) ?_ rfl
  rintro _ _ ⟨n5, rfl, rfl⟩
  refine y_ (yl_assign ev_c) (y_ (yl_assign ev_c) (jl_nil (q_then (j_seq (j_region (e_ (eff_alloc Try.zeroValue3 cs_) ?_ rfl))))) rfl) rfl
  rintro _ _ ⟨n8, rfl, rfl⟩
  first | refine jl_e (eff_sW (T rfl) ev_c Try.sizeOf3) rfl gd_n ?_ | refine jl_e (eff_s1 (T rfl) ev_c rfl Try.sizeOf3) rfl gd_n ?_
  rintro _ _ ⟨rfl, rfl⟩
  refine jl_nil (q_then (j_seq (j_seq (j_region (y_ (yl_loadA (T rfl) Try.isAgg26 Try.sizeOf26 rfl (by first | exact cs_o)) ?_ rfl)))))
  refine y_ (yl_loadA (T rfl) Try.isAgg48 Try.sizeOf48 rfl (by first | exact cs_o)) ?_ rfl
  refine e_ (eff_call (.cons (T rfl) (.cons (T rfl) .nil)) Try.call59 (hops_s _ _)) ?_ rfl
  rintro _ _ ⟨m2, m3, rfl, rfl⟩
  refine jl_nil (q_then (j_block ?_))
  refine j_range (Z := Int) (T rfl) Try.call77 (hops_it n hn a ha hra _ _) (fun _ => rfl) rfl (fun z => (m3, Cl (encW a) 48) :: (m2, Cl (encNm n) 26) :: (n8, Cl [.int .i64 z] 3) :: (n5, Cl (encW b) 48) :: (n4, Cl (encW a) 48) :: (n3, Cl (encNm n) 26) :: H) (fun k z => z = confK n.links a.way b.way k) (fun z => False) (fun _ z => False) ((-1)) ?_ sbt ?_ ?_ ?_ ?_ ?_
  · rfl
  · intro z; exact sbt
  · rintro l lr Y X k ⟨nd, hp⟩ z hl hx rfl
    have hcs := confK_succ (b := b.way) hx
    refine j_keep [(3, _), (5, _), (8, _), (16, _), (17, _)] ⟨at_f rfl, at_f rfl, at_f rfl, at_f rfl, at_f rfl, trivial⟩ (j_seq (j_region (y_ (yl_assign (T rfl)) (jl_nil (q_then (j_region (e_ (eff_alloc Try.zeroValue72 cs_) ?_ rfl)))) rfl)))
    rintro _ _ ⟨n10, rfl, rfl⟩
    first | refine jl_e (eff_sW (T rfl) (T rfl) Try.sizeOf72) rfl gd_n ?_
    rintro _ _ ⟨rfl, rfl⟩
    refine jl_nil (q_begin hl ?_)
    refine j_block (j_seq (j_region (y_ (yl_loadA (T rfl) Try.isAgg26 Try.sizeOf26 rfl (by first | exact cs_o)) ?_ rfl)))
    refine y_ (yl_loadA (T rfl) Try.isAgg48 Try.sizeOf48 rfl (by first | exact cs_o)) ?_ rfl
    refine y_ (yl_move (T rfl)) (y_ (yl_call (.cons (T rfl) (.cons (T rfl) (.cons (T rfl) .nil))) Try.call26 (fun H' hs => tAt_s n (hn.mono (List.Sublist.trans sbt hs)) b (hb.mono (List.Sublist.trans sbt hs)) hrb _)) (y_ (yl_move (T rfl)) (y_ (yl_extract (T rfl) rfl) (y_ (yl_extract (T rfl) rfl) (e_ (eff_alloc Try.zeroValue72 cs_) ?_ rfl) rfl) rfl) rfl) rfl) rfl
    rintro _ _ ⟨n11, rfl, rfl⟩
    first | refine jl_e (eff_sW (T rfl) (T rfl) Try.sizeOf72) rfl gd_n ?_
    rintro _ _ ⟨rfl, rfl⟩
    refine y_ (yl_assign (T rfl)) (jl_nil (q_then (j_seq (j_region (y_ (yl_move (T rfl)) (y_ (yl_move (T rfl)) ?_ rfl) rfl))))) rfl
    first | refine jl_if_d (s := 26) (at_f rfl) (fun c26 => ?_) (fun c26 => ?_) | refine jl_if (s := 26) (at_f rfl) (fun c26 => ?_) (fun c26 => ?_)
    · refine jl_y (yl_loadA (T rfl) Try.isAgg72 Try.sizeOf72 rfl (by first | exact cs_o)) rfl (gd_y rfl rfl (at_f rfl)) ?_
      refine jl_y (yl_loadA (T rfl) Try.isAgg72 Try.sizeOf72 rfl (by first | exact cs_o)) rfl (gd_y rfl rfl (at_f rfl)) ?_
      refine jl_y (yl_neqA (T rfl) (T rfl) Try.eqGuardType72 (eqHop _ _)) rfl (gd_y rfl rfl (at_f rfl)) (y_ (yl_pick_t (T rfl) (T rfl)) (y_ (yl_move (T rfl)) ?_ rfl) rfl)
      first | refine jl_if_d (s := 31) (at_f rfl) (fun c31 => ?_) (fun c31 => ?_) | refine jl_if (s := 31) (at_f rfl) (fun c31 => ?_) (fun c31 => ?_)
      · refine jl_y (yl_load (T rfl) Try.isAgg3 (by first | exact c_o)) rfl (gd_y rfl rfl (at_f rfl)) ?_
        refine jl_y (yl_lss (T rfl) ev_c) rfl (gd_y rfl rfl (at_f rfl)) (jl_y (yl_move (T rfl)) rfl (gd_y rfl rfl (at_f rfl)) ?_)
        first | refine jl_if_d (s := 34) (at_f rfl) (fun c34 => ?_) (fun c34 => ?_) | refine jl_if (s := 34) (at_f rfl) (fun c34 => ?_) (fun c34 => ?_)
        · refine n_tf (n_tf (n_tf (jl_y (yl_pick_t (T rfl) ev_c) rfl (gd_y rfl rfl (at_f rfl)) (y_ (yl_pick_t (T rfl) (T rfl)) (jl_nil (q_then (j_keep [(8, _), (9, _), (39, _)] ⟨at_f rfl, at_f rfl, at_f rfl, trivial⟩ (j_cond_t (at_f rfl) (j_region (y_ (yl_move (T rfl)) ?_ rfl)))))) rfl)) rfl rfl rfl rfl) rfl rfl rfl rfl) rfl rfl rfl rfl
          first | refine jl_e (eff_sW (T rfl) (T rfl) Try.sizeOf3) rfl gd_n ?_ | refine jl_e (eff_s1 (T rfl) (T rfl) rfl Try.sizeOf3) rfl gd_n ?_
          rintro _ _ ⟨rfl, rfl⟩
          refine jl_nil (q_block (q_round (nd) ?_ sbt))
          rw [hcs, leastI_yes c26 c31 (.inl c34)]
        · refine jl_y (yl_move (T rfl)) rfl (gd_y rfl rfl (at_f rfl)) (jl_y (yl_load (T rfl) Try.isAgg3 (by first | exact c_o)) rfl (gd_y rfl rfl (at_f rfl)) ?_)
          refine jl_y (yl_lss (T rfl) (T rfl)) rfl (gd_y rfl rfl (at_f rfl)) (jl_y (yl_pick_f (T rfl) (T rfl)) rfl (gd_y rfl rfl (at_f rfl)) (y_ (yl_pick_t (T rfl) (T rfl)) (jl_nil (q_then (j_keep [(8, _), (9, _), (39, _)] ⟨at_f rfl, at_f rfl, at_f rfl, trivial⟩ ?_))) rfl))
          first | refine j_cond_d (at_f rfl) (fun c39 => ?_) (fun c39 => ?_) | refine j_cond (at_f rfl) (fun c39 => ?_) (fun c39 => ?_)
          · refine j_region (y_ (yl_move (T rfl)) ?_ rfl)
            first | refine jl_e (eff_sW (T rfl) (T rfl) Try.sizeOf3) rfl gd_n ?_ | refine jl_e (eff_s1 (T rfl) (T rfl) rfl Try.sizeOf3) rfl gd_n ?_
            rintro _ _ ⟨rfl, rfl⟩
            refine jl_nil (q_block (q_round (nd) ?_ sbt))
            rw [hcs, leastI_yes c26 c31 (.inr c39)]
          · refine j_skip (q_block (q_round (_) ?_ sbt))
            rw [hcs, leastI_no (.inr (.inr ⟨c34, c39⟩))]
      · refine n_ft (n_ft (n_ft (n_u (n_u (n_u (n_ft (y_ (yl_pick_f (T rfl) ev_c) (jl_nil (q_then (j_keep [(8, _), (9, _), (39, _)] ⟨at_f rfl, at_f rfl, at_f rfl, trivial⟩ (j_cond_f (at_f rfl) (j_skip (q_block (q_round (_) ?_ sbt))))))) rfl) rfl rfl rfl rfl) rfl rfl rfl rfl) rfl rfl rfl rfl) rfl rfl rfl rfl) rfl rfl rfl rfl) rfl rfl rfl rfl) rfl rfl rfl rfl
        rw [hcs, leastI_no (.inr (.inl (Classical.not_not.1 c31)))]
    · refine n_ft (n_ft (n_ft (y_ (yl_pick_f (T rfl) ev_c) (y_ (yl_move (T rfl)) (n_ft (n_ft (n_ft (n_u (n_u (n_u (n_ft (y_ (yl_pick_f (T rfl) ev_c) (jl_nil (q_then (j_keep [(8, _), (9, _), (39, _)] ⟨at_f rfl, at_f rfl, at_f rfl, trivial⟩ (j_cond_f (at_f rfl) (j_skip (q_block (q_round (_) ?_ sbt))))))) rfl) rfl rfl rfl rfl) rfl rfl rfl rfl) rfl rfl rfl rfl) rfl rfl rfl rfl) rfl rfl rfl rfl) rfl rfl rfl rfl) rfl rfl rfl rfl) rfl) rfl) rfl rfl rfl rfl) rfl rfl rfl rfl) rfl rfl rfl rfl
      rw [hcs, leastI_no (.inl c26)]
  · rintro D0 z rfl
    refine q_block (q_then (j_seq (j_any 6 [(0, true), (1, true), (2, true), (3, true), (4, true), (5, true)] _ mixd (by kernel_rfl) sb0 ?_)))
    refine o_y rfl (yl_load (T rfl) Try.isAgg3 (by first | exact c_o)) ?_ rfl gd_n
    refine o_y rfl (yl_max (T rfl) ev_c) (o_y rfl (yl_load (T rfl) Try.isAgg3 (by first | exact c_o)) ?_ rfl gd_n) rfl gd_n
    refine o_y rfl (yl_geq (T rfl) ev_c) (o_y rfl (yl_assign (T rfl)) (o_y rfl (yl_assign (T rfl)) (jo_nil rfl (jl_nil (q_then (j_ret (q_mark_ret ?_))))) rfl gd_n) rfl gd_n) rfl gd_n
    refine q_ret rfl (.tmp (at_f rfl) (.tmp (at_f rfl) .nil)) ?_
    exact ⟨_, ⟨by rw [confK_end]; rfl, rfl⟩, sbt⟩
  · exact fun _ _ h => h.elim
  · exact fun _ _ _ h => h.elim
end Go.Proofs.Ytdbffighngmibaa
