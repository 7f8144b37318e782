/-
  Walks of the comparison of tables.
-/
import Derived.Test.YtdbffighngmibaaWa
import Derived.ChangeKeysEq
namespace Go.Proofs.Ytdbffighngmibaa
open Go.RowKit
set_option linter.unusedVariables false
set_option linter.unusedSimpArgs false
theorem fa56_0 (b o : Nat) (w : World) : (Instr.fieldAt 56 (.pointer (some ⟨b, o, none⟩)) 0).run Try.prog w = .ok (.pointer (some ⟨b, o, none⟩)) w := by kernel_rfl
theorem fa56_2 (b o : Nat) (w : World) : (Instr.fieldAt 56 (.pointer (some ⟨b, o, none⟩)) 2).run Try.prog w = .ok (.pointer (some ⟨b, o + 21, none⟩)) w := by kernel_rfl
theorem cs_part {w0 : World} {H : List (Nat × Obj)} {n o k : Nat} {l : List Value} {t : TypeId} (hf : Fnd H n (Cl l t)) : Cells w0 H n o ((l.drop o).take k) := fun i v hi => by
  rw [List.getElem?_take] at hi
  split at hi
  · rw [List.getElem?_drop] at hi; exact cell_get hf hi
  · cases hi
abbrev patL (t : Int) : List Value := [z0, z0, z0, z0, z0, z0, z0, z0, z0, mx, z0, z0, z0, z0, z0, z0, z0, z0, z0, .int .i64 t]
abbrev altL (l k p t : Int) : List Value := [.int .i64 l, mx, z0, z0, z0, z0, z0, z0, z0, z0, .int .i64 k, .int .i64 p, z0, z0, z0, z0, z0, z0, z0, z0, .int .i64 t]
theorem encAlt_eq (h : Hop) : encAlt h = altL h.link (if h.link < 0 then 65535 else 0) h.port (if h.link < 0 then h.tag else 0) := by
  unfold encAlt
  split
  · rename_i hl; simp [hl]
  · rename_i hl; simp [hl]
theorem eqHead (d : Nat) (a0 a1 a2 a3 a4 a5 a6 a7 a8 a9 : Int) (w : World) : (Op.equalIn (d + 2) 45 (.agg #[.int .i64 a0, .int .i64 a1, .int .i64 a2, .int .i64 a3, .int .i64 a4, .int .i64 a5, .int .i64 a6, .int .i64 a7, .int .i64 a8, .int .i64 a9]) (.agg #[.int .i64 a0, .int .i64 a1, .int .i64 a2, .int .i64 a3, .int .i64 a4, .int .i64 a5, .int .i64 a6, .int .i64 a7, .int .i64 a8, .int .i64 a9])).run Try.prog w = .ok true w := by
  have hc : Try.prog.cellsOf 3 = 1 := by kernel_rfl
  rw [run_equalIn_array (i := Try.t3) w (d + 1) (t := 45) (e := 3) (n := 10) _ _ (by kernel_rfl) (by kernel_rfl), hc, show List.range 10 = [0, 1, 2, 3, 4, 5, 6, 7, 8, 9] from rfl]
  simp [go_sem, Op.eqItems]
theorem eqPat (t : Int) (w : World) : (Op.equal 53 (.agg (patL t).toArray) (.agg (patL t).toArray)).run Try.prog w = .ok (decide True) w := by
  unfold Op.equal Op.maxDepth
  rw [run_equalIn_struct w 9999 53 _ _ (by kernel_rfl) (by kernel_rfl)]
  simp [go_sem, Program.fieldsOf, Try.underlying53, Op.eqFields, eqHead 9997]
theorem eqAlt (l k p t : Int) (w : World) : (Op.equal 67 (.agg (altL l k p t).toArray) (.agg (altL l k p t).toArray)).run Try.prog w = .ok (decide True) w := by
  unfold Op.equal Op.maxDepth
  rw [run_equalIn_struct w 9999 67 _ _ (by kernel_rfl) (by kernel_rfl)]
  simp [go_sem, Program.fieldsOf, Try.underlying67, Try.underlying65, Op.eqFields, eqHead 9996]
/-- a rule's choices, where they lie -/
structure RmM (w0 : World) (H : List (Nat × Obj)) (m : Rm) : Prop where
  o : Cell w0 H ⟨m.o, 0, none⟩ (outV m.a)
  a : Cells w0 H m.a 0 (altL m.r.hop.link (if m.r.hop.link < 0 then 65535 else 0) m.r.hop.port (if m.r.hop.link < 0 then m.r.hop.tag else 0))
theorem RmM.mono {w0 : World} {H H' : List (Nat × Obj)} {m : Rm} (h : RmM w0 H m) (hs : H.Sublist H' := by exact sbt) : RmM w0 H' m := ⟨h.o.mono hs, h.a.mono hs⟩
/-- a table, where it lies -/
structure TbM (w0 : World) (H : List (Nat × Obj)) (t : Tb) : Prop where
  arr : Arr w0 H (slQ t.d) 23 encRm t.rs
  each : ∀ m ∈ t.rs, RmM w0 H m
theorem TbM.mono {w0 : World} {H H' : List (Nat × Obj)} {t : Tb} (h : TbM w0 H t) (hs : H.Sublist H' := by exact sbt) : TbM w0 H' t := ⟨h.arr.mono hs, fun m hm => (h.each m hm).mono hs⟩
theorem flat_sub {α β : Type} {f : α → List β} {l : List α} {x : α} (h : x ∈ l) : (f x).Sublist (l.flatMap f) := by
  induction l with
  | nil => cases h
  | cons y l ih =>
    rw [List.flatMap_cons]
    rcases List.mem_cons.1 h with rfl | h
    · exact List.sublist_append_left _ _
    · exact (ih h).trans (List.sublist_append_right _ _)
theorem tb_mem {w0 : World} {X : List (Nat × Obj)} {ts : List Tb} (hok : ∀ t ∈ ts, SlOk t.d t.rs.length 23) : ∀ t ∈ ts, TbM w0 (tsH ts ++ X) t := fun t ht => by
  have h0 : (tbH t).Sublist (tsH ts) := flat_sub ht
  have h1 : (tbH t).Sublist (tsH ts ++ X) := h0.trans (List.sublist_append_left _ _)
  refine ⟨(sl_arr (w0 := w0) (enc := encRm) (sz := 23) (e := 56) (X := t.rs.flatMap rmH) (fun _ => rfl) (hok t ht)).mono h1, fun m hm => ?_⟩
  have h2 : (rmH m).Sublist (tsH ts ++ X) := ((flat_sub hm).trans (List.sublist_append_right _ _)).trans h1
  refine RmM.mono (H := rmH m) ⟨c_o, ?_⟩ h2
  rw [← encAlt_eq]
  exact cs_o
theorem sameOuts_s {w0 : World} {H : List (Nat × Obj)} (r : Rul) (o1 a1 o2 a2 : Nat) (h1 : RmM w0 H ⟨r, o1, a1⟩) (h2 : RmM w0 H ⟨r, o2, a2⟩) :
    FSpec Try.prog w0 104 #[.agg (encRm ⟨r, o1, a1⟩).toArray, .agg (encRm ⟨r, o2, a2⟩).toArray] H (Still (.bool true) H) := by
  refine fn_spec Try.func104 rfl Try.ntmps104 rfl (j_seq (j_region (e_ (eff_box (T rfl) cs_) ?_ rfl)))
  rintro _ _ ⟨n2, rfl, rfl⟩
  refine e_ (eff_box (T rfl) cs_) ?_ rfl
  rintro _ _ ⟨n3, rfl, rfl⟩
  refine y_ (yl_assign ev_c) (jl_nil (q_then (j_seq (j_seq (j_region (y_ (yl_fa (T rfl) fa56_3) (y_ (yl_load (T rfl) Try.isAgg54 (by first | exact c_o | exact c_m (h1.o) | exact c_m (h2.o) | exact c_m (h1.a) | exact c_m (h2.a))) ?_ rfl) rfl)))))) rfl
  refine y_ (yl_len (T rfl) Try.runUnderlying54) (y_ (yl_fa (T rfl) fa56_3) (y_ (yl_load (T rfl) Try.isAgg54 (by first | exact c_o | exact c_m (h1.o) | exact c_m (h2.o) | exact c_m (h1.a) | exact c_m (h2.a))) ?_ rfl) rfl) rfl
  refine y_ (yl_len (T rfl) Try.runUnderlying54) (y_ (yl_neq (T rfl) (T rfl)) (jl_nil (q_then ?_)) rfl) rfl
  first | refine j_cond_d (at_f rfl) (fun c13 => ?_) (fun c13 => ?_) | refine j_cond (at_f rfl) (fun c13 => ?_) (fun c13 => ?_)
  · refine j_seq (j_region (y_ (yl_assign ev_c) (jl_nil (q_then (j_ret (q_then_ret (q_ret rfl (.tmp (at_f rfl) .nil) ?_))))) rfl))
    first | exact ⟨_, ⟨rfl, rfl⟩, sbt⟩ | (exfalso; first | exact c60 trivial | omega)
  · refine j_skip (q_then (j_seq (j_seq (j_region (y_ (yl_assign ev_c) (jl_nil (q_then (j_block ?_))) rfl)))))
    refine j_loopH (X := Nat) (V := fun i => [(5, .int .i64 (i : Nat))]) (C := [(2, _), (3, _)]) (φ := fun i => i ≤ 1) (μ := fun i => 1 - i) (x0 := 0) ?_ ⟨at_f rfl, at_f rfl, trivial⟩ ⟨(by first | exact at_f rfl | (refine at_e (at_f rfl) (vint ?_); omega) | (refine at_e (at_f rfl) ?_; simp; done)), trivial⟩ ?_
    · exact Nat.zero_le _
    rintro i hi
    refine j_seq (j_seq (j_region (y_ (yl_move (T rfl)) (y_ (yl_fa (T rfl) fa56_3) (y_ (yl_load (T rfl) Try.isAgg54 (by first | exact c_o | exact c_m (h1.o) | exact c_m (h2.o) | exact c_m (h1.a) | exact c_m (h2.a))) ?_ rfl) rfl) rfl)))
    refine y_ (yl_len (T rfl) Try.runUnderlying54) (y_ (yl_lss (T rfl) (T rfl)) (jl_nil (q_then ?_)) rfl) rfl
    first | refine j_cond_d (at_f rfl) (fun c18 => ?_) (fun c18 => ?_) | refine j_cond (at_f rfl) (fun c18 => ?_) (fun c18 => ?_)
    · have hi0 : i = 0 := by omega
      subst hi0
      refine j_skip (q_then (j_seq (j_block (j_seq (j_seq (j_any 13 [(0, true), (1, true), (2, true), (3, true), (4, true), (5, true), (6, true), (7, true), (8, true), (9, true), (10, true), (11, true), (12, true)] _ mixd (by kernel_rfl) sb0 ?_))))))
      refine o_y rfl (yl_fa (T rfl) fa56_3) (o_y rfl (yl_load (T rfl) Try.isAgg54 (by first | exact c_o | exact c_m (h1.o) | exact c_m (h2.o) | exact c_m (h1.a) | exact c_m (h2.a))) ?_ rfl gd_n) rfl gd_n
      refine o_y rfl (yl_move (T rfl)) (o_y rfl (yl_ixQ (T rfl) (T rfl) Try.runUnderlying54 Try.sizeOf64 (by first | omega | exact ⟨by decide, by decide⟩) (by first | exact rfl)) ?_ rfl gd_n) rfl gd_n
      refine o_y rfl (yl_load (T rfl) Try.isAgg64 (by first | exact c_o | exact c_m (h1.o) | exact c_m (h2.o) | exact c_m (h1.a) | exact c_m (h2.a))) ?_ rfl gd_n
      refine o_y rfl (yl_len (T rfl) Try.runUnderlying64) (o_y rfl (yl_fa (T rfl) fa56_3) (o_y rfl (yl_load (T rfl) Try.isAgg54 (by first | exact c_o | exact c_m (h1.o) | exact c_m (h2.o) | exact c_m (h1.a) | exact c_m (h2.a))) ?_ rfl gd_n) rfl gd_n) rfl gd_n
      refine o_y rfl (yl_move (T rfl)) (o_y rfl (yl_ixQ (T rfl) (T rfl) Try.runUnderlying54 Try.sizeOf64 (by first | omega | exact ⟨by decide, by decide⟩) (by first | exact rfl)) ?_ rfl gd_n) rfl gd_n
      refine o_y rfl (yl_load (T rfl) Try.isAgg64 (by first | exact c_o | exact c_m (h1.o) | exact c_m (h2.o) | exact c_m (h1.a) | exact c_m (h2.a))) ?_ rfl gd_n
      refine o_y rfl (yl_len (T rfl) Try.runUnderlying64) (o_y rfl (yl_neq (T rfl) (T rfl)) (jo_nil rfl (jl_nil (q_then ?_))) rfl gd_n) rfl gd_n
      first | refine j_cond_d (at_f rfl) (fun c33 => ?_) (fun c33 => ?_) | refine j_cond (at_f rfl) (fun c33 => ?_) (fun c33 => ?_)
      · refine j_seq (j_region (y_ (yl_assign ev_c) (jl_nil (q_then (j_ret (q_then_ret (q_block_ret (q_then_ret (q_loop_ret (q_block_ret (q_then_ret (q_ret rfl (.tmp (at_f rfl) .nil) ?_)))))))))) rfl))
        first | exact ⟨_, ⟨rfl, rfl⟩, sbt⟩ | (exfalso; first | exact c60 trivial | omega)
      · refine j_skip (q_then (j_seq (j_region (y_ (yl_assign ev_c) (jl_nil (q_then (j_block ?_))) rfl))))
        refine j_loopH (X := Nat) (V := fun j => [(6, .int .i64 (j : Nat))]) (C := [(2, _), (3, _), (5, _)]) (φ := fun j => j ≤ 1) (μ := fun j => 1 - j) (x0 := 0) ?_ ⟨at_f rfl, at_f rfl, at_f rfl, trivial⟩ ⟨(by first | exact at_f rfl | (refine at_e (at_f rfl) (vint ?_); omega) | (refine at_e (at_f rfl) ?_; simp; done)), trivial⟩ ?_
        · exact Nat.zero_le _
        rintro j hj
        refine j_seq (j_seq (j_region (y_ (yl_move (T rfl)) (y_ (yl_fa (T rfl) fa56_3) (y_ (yl_load (T rfl) Try.isAgg54 (by first | exact c_o | exact c_m (h1.o) | exact c_m (h2.o) | exact c_m (h1.a) | exact c_m (h2.a))) ?_ rfl) rfl) rfl)))
        refine y_ (yl_move (T rfl)) (y_ (yl_ixR (T rfl) (T rfl) Try.runUnderlying54 Try.sizeOf64 (by first | omega | exact ⟨by decide, by decide⟩) (by first | exact rfl)) ?_ rfl) rfl
        refine y_ (yl_load (T rfl) Try.isAgg64 (by first | exact c_o | exact c_m (h1.o) | exact c_m (h2.o) | exact c_m (h1.a) | exact c_m (h2.a))) ?_ rfl
        refine y_ (yl_len (T rfl) Try.runUnderlying64) (y_ (yl_lss (T rfl) (T rfl)) (jl_nil (q_then ?_)) rfl) rfl
        first | refine j_cond_d (at_f rfl) (fun c41 => ?_) (fun c41 => ?_) | refine j_cond (at_f rfl) (fun c41 => ?_) (fun c41 => ?_)
        · have hj0 : j = 0 := by omega
          subst hj0
          refine j_skip (q_then (j_seq (j_block (j_seq (j_any 17 [(0, true), (1, true), (2, true), (3, true), (4, true), (5, true), (6, true), (7, true), (8, true), (9, true), (10, true), (11, true), (12, true), (13, true), (14, true), (15, true), (16, true)] _ mixd (by kernel_rfl) sb0 ?_)))))
          refine o_y rfl (yl_fa (T rfl) fa56_3) (o_y rfl (yl_load (T rfl) Try.isAgg54 (by first | exact c_o | exact c_m (h1.o) | exact c_m (h2.o) | exact c_m (h1.a) | exact c_m (h2.a))) ?_ rfl gd_n) rfl gd_n
          refine o_y rfl (yl_move (T rfl)) (o_y rfl (yl_ixR (T rfl) (T rfl) Try.runUnderlying54 Try.sizeOf64 (by first | omega | exact ⟨by decide, by decide⟩) (by first | exact rfl)) ?_ rfl gd_n) rfl gd_n
          refine o_y rfl (yl_load (T rfl) Try.isAgg64 (by first | exact c_o | exact c_m (h1.o) | exact c_m (h2.o) | exact c_m (h1.a) | exact c_m (h2.a))) ?_ rfl gd_n
          refine o_y rfl (yl_move (T rfl)) (o_y rfl (yl_ixQ (T rfl) (T rfl) Try.runUnderlying64 Try.sizeOf67 (by first | omega | exact ⟨by decide, by decide⟩) (by first | exact rfl)) ?_ rfl gd_n) rfl gd_n
          refine o_y rfl (yl_loadA (T rfl) Try.isAgg67 Try.sizeOf67 rfl (by first | exact cs_o | exact cs_m (h1.o) | exact cs_m (h2.o) | exact cs_m (h1.a) | exact cs_m (h2.a))) ?_ rfl gd_n
          refine o_y rfl (yl_fa (T rfl) fa56_3) (o_y rfl (yl_load (T rfl) Try.isAgg54 (by first | exact c_o | exact c_m (h1.o) | exact c_m (h2.o) | exact c_m (h1.a) | exact c_m (h2.a))) ?_ rfl gd_n) rfl gd_n
          refine o_y rfl (yl_move (T rfl)) (o_y rfl (yl_ixR (T rfl) (T rfl) Try.runUnderlying54 Try.sizeOf64 (by first | omega | exact ⟨by decide, by decide⟩) (by first | exact rfl)) ?_ rfl gd_n) rfl gd_n
          refine o_y rfl (yl_load (T rfl) Try.isAgg64 (by first | exact c_o | exact c_m (h1.o) | exact c_m (h2.o) | exact c_m (h1.a) | exact c_m (h2.a))) ?_ rfl gd_n
          refine o_y rfl (yl_move (T rfl)) (o_y rfl (yl_ixQ (T rfl) (T rfl) Try.runUnderlying64 Try.sizeOf67 (by first | omega | exact ⟨by decide, by decide⟩) (by first | exact rfl)) ?_ rfl gd_n) rfl gd_n
          refine o_y rfl (yl_loadA (T rfl) Try.isAgg67 Try.sizeOf67 rfl (by first | exact cs_o | exact cs_m (h1.o) | exact cs_m (h2.o) | exact cs_m (h1.a) | exact cs_m (h2.a))) ?_ rfl gd_n
          refine o_y rfl (yl_neqA (T rfl) (T rfl) Try.eqGuardType67 (q := True) (eqAlt _ _ _ _)) (jo_nil rfl (jl_nil (q_then (j_keep [(2, _), (3, _), (5, _), (6, _), (60, _)] ⟨at_f rfl, at_f rfl, at_f rfl, at_f rfl, at_f rfl, trivial⟩ ?_)))) rfl gd_n
          first | refine j_cond_d (at_f rfl) (fun c60 => ?_) (fun c60 => ?_) | refine j_cond (at_f rfl) (fun c60 => ?_) (fun c60 => ?_)
          · refine j_seq (j_region (y_ (yl_assign ev_c) (jl_nil (q_then (j_ret (q_block_ret (q_then_ret (q_loop_ret (q_block_ret (q_block_ret (q_then_ret (q_loop_ret (q_block_ret (q_then_ret (q_ret rfl (.tmp (at_f rfl) .nil) ?_))))))))))))) rfl))
            first | exact ⟨_, ⟨rfl, rfl⟩, sbt⟩ | (exfalso; first | exact c60 trivial | omega)
          · refine j_skip (q_block (q_then (j_region (y_ (yl_move (T rfl)) (y_ (yl_add (T rfl) ev_c (by omega)) ?_ rfl) rfl))))
            refine y_ (yl_assign (T rfl)) (jl_nil ?_) rfl
            refine q_loopC (1) ?_ ?_ ⟨(by first | exact at_f rfl | (refine at_e (at_f rfl) (vint ?_); omega) | (refine at_e (at_f rfl) ?_; simp; done)), trivial⟩ ⟨at_f rfl, at_f rfl, at_f rfl, trivial⟩ ?_
            · exact Nat.le_refl _
            · simp
            · exact sbt
        · refine j_exit (q_then_exit (q_loop_exit (q_block_hit (q_block (q_then (j_region (y_ (yl_move (T rfl)) (y_ (yl_add (T rfl) ev_c (by omega)) ?_ rfl) rfl)))))))
          refine y_ (yl_assign (T rfl)) (jl_nil ?_) rfl
          refine q_loopC (1) ?_ ?_ ⟨(by first | exact at_f rfl | (refine at_e (at_f rfl) (vint ?_); omega) | (refine at_e (at_f rfl) ?_; simp; done)), trivial⟩ ⟨at_f rfl, at_f rfl, trivial⟩ ?_
          · exact Nat.le_refl _
          · simp
          · exact sbt
    · refine j_exit (q_then_exit (q_loop_exit (q_block_hit (q_then (j_seq (j_region (y_ (yl_assign ev_c) (jl_nil (q_then (j_ret (q_ret rfl (.tmp (at_f rfl) .nil) ?_)))) rfl)))))))
      first | exact ⟨_, ⟨rfl, rfl⟩, sbt⟩ | (exfalso; first | exact c60 trivial | omega)
theorem alike_s {w0 : World} {H : List (Nat × Obj)} (r : Rul) (o1 a1 o2 a2 : Nat) (h1 : RmM w0 H ⟨r, o1, a1⟩) (h2 : RmM w0 H ⟨r, o2, a2⟩) :
    FSpec Try.prog w0 89 #[.agg (encRm ⟨r, o1, a1⟩).toArray, .agg (encRm ⟨r, o2, a2⟩).toArray] H (Still (.bool true) H) := by
  refine fn_spec Try.func89 rfl Try.ntmps89 rfl (j_seq (j_region (e_ (eff_box (T rfl) cs_) ?_ rfl)))
  rintro _ _ ⟨n2, rfl, rfl⟩
  refine e_ (eff_box (T rfl) cs_) ?_ rfl
  rintro _ _ ⟨n3, rfl, rfl⟩
  refine y_ (yl_assign ev_c) (jl_nil (q_then (j_seq (j_region (y_ (yl_fa (T rfl) fa56_2) (y_ (yl_load (T rfl) Try.isAgg3 (by first | exact c_o)) ?_ rfl) rfl))))) rfl
  refine y_ (yl_fa (T rfl) fa56_2) (y_ (yl_load (T rfl) Try.isAgg3 (by first | exact c_o)) ?_ rfl) rfl
  refine y_ (yl_eql (T rfl) (T rfl)) (y_ (yl_move (T rfl)) ?_ rfl) rfl
  first | refine jl_if_d (s := 10) (at_f rfl) (fun c10 => ?_) (fun c10 => ?_) | refine jl_if (s := 10) (at_f rfl) (fun c10 => ?_) (fun c10 => ?_)
  · refine jl_y (yl_loadA (T rfl) Try.isAgg56 Try.sizeOf56 rfl (by first | exact cs_o)) rfl (gd_y rfl rfl (at_f rfl)) ?_
    refine jl_y (yl_loadA (T rfl) Try.isAgg56 Try.sizeOf56 rfl (by first | exact cs_o)) rfl (gd_y rfl rfl (at_f rfl)) ?_
    refine jl_y (yl_call (.cons (T rfl) (.cons (T rfl) .nil)) Try.call104 (fun H' hs => sameOuts_s r _ _ _ _ (h1.mono (List.Sublist.trans sbt hs)) (h2.mono (List.Sublist.trans sbt hs)))) rfl (gd_y rfl rfl (at_f rfl)) (y_ (yl_pick_t (T rfl) (T rfl)) (y_ (yl_assign (T rfl)) (jl_nil (q_then (j_ret (q_ret rfl (.tmp (at_f rfl) .nil) ?_)))) rfl) rfl)
    first | exact ⟨_, ⟨rfl, rfl⟩, sbt⟩ | (exfalso; first | exact c10 rfl | omega)
  · refine n_ft (n_ft (n_ft (y_ (yl_pick_f (T rfl) ev_c) (y_ (yl_assign (T rfl)) (jl_nil (q_then (j_ret (q_ret rfl (.tmp (at_f rfl) .nil) ?_)))) rfl) rfl) rfl rfl rfl rfl) rfl rfl rfl rfl) rfl rfl rfl rfl
    first | exact ⟨_, ⟨rfl, rfl⟩, sbt⟩ | (exfalso; first | exact c10 rfl | omega)
theorem sameRule_s {w0 : World} {H : List (Nat × Obj)} (r : Rul) (o1 a1 o2 a2 : Nat) (h1 : RmM w0 H ⟨r, o1, a1⟩) (h2 : RmM w0 H ⟨r, o2, a2⟩) :
    FSpec Try.prog w0 74 #[.agg (encRm ⟨r, o1, a1⟩).toArray, .agg (encRm ⟨r, o2, a2⟩).toArray] H (Still (.bool true) H) := by
  refine fn_spec Try.func74 rfl Try.ntmps74 rfl (j_seq (j_region (e_ (eff_box (T rfl) cs_) ?_ rfl)))
  rintro _ _ ⟨n2, rfl, rfl⟩
  refine e_ (eff_box (T rfl) cs_) ?_ rfl
  rintro _ _ ⟨n3, rfl, rfl⟩
  refine y_ (yl_assign ev_c) (jl_nil (q_then (j_seq (j_region (y_ (yl_fa0 (T rfl) fa56_0) (y_ (yl_load (T rfl) Try.isAgg3 (by first | exact c_o)) ?_ rfl) rfl))))) rfl
  refine y_ (yl_fa0 (T rfl) fa56_0) (y_ (yl_load (T rfl) Try.isAgg3 (by first | exact c_o)) ?_ rfl) rfl
  refine y_ (yl_eql (T rfl) (T rfl)) (y_ (yl_move (T rfl)) ?_ rfl) rfl
  first | refine jl_if_d (s := 10) (at_f rfl) (fun c10 => ?_) (fun c10 => ?_) | refine jl_if (s := 10) (at_f rfl) (fun c10 => ?_) (fun c10 => ?_)
  · refine jl_y (yl_fa (T rfl) fa56_1) rfl (gd_y rfl rfl (at_f rfl)) ?_
    refine jl_y (yl_loadA (T rfl) Try.isAgg53 Try.sizeOf53 rfl (by first | exact cs_part (k := 20) (by repeat (first | exact fnd_h | refine fnd_t ?_ | refine fnd_a ?_)) | exact cs_o)) rfl (gd_y rfl rfl (at_f rfl)) ?_
    refine jl_y (yl_fa (T rfl) fa56_1) rfl (gd_y rfl rfl (at_f rfl)) ?_
    refine jl_y (yl_loadA (T rfl) Try.isAgg53 Try.sizeOf53 rfl (by first | exact cs_part (k := 20) (by repeat (first | exact fnd_h | refine fnd_t ?_ | refine fnd_a ?_)) | exact cs_o)) rfl (gd_y rfl rfl (at_f rfl)) ?_
    refine jl_y (yl_eqA (T rfl) (T rfl) Try.eqGuardType53 (q := True) (eqPat _)) rfl (gd_y rfl rfl (at_f rfl)) (y_ (yl_pick_t (T rfl) (T rfl)) (y_ (yl_move (T rfl)) ?_ rfl) rfl)
    first | refine jl_if_d (s := 17) (at_f rfl) (fun c17 => ?_) (fun c17 => ?_) | refine jl_if (s := 17) (at_f rfl) (fun c17 => ?_) (fun c17 => ?_)
    · refine jl_y (yl_loadA (T rfl) Try.isAgg56 Try.sizeOf56 rfl (by first | exact cs_o)) rfl (gd_y rfl rfl (at_f rfl)) ?_
      refine jl_y (yl_loadA (T rfl) Try.isAgg56 Try.sizeOf56 rfl (by first | exact cs_o)) rfl (gd_y rfl rfl (at_f rfl)) ?_
      refine jl_y (yl_call (.cons (T rfl) (.cons (T rfl) .nil)) Try.call89 (fun H' hs => alike_s r _ _ _ _ (h1.mono (List.Sublist.trans sbt hs)) (h2.mono (List.Sublist.trans sbt hs)))) rfl (gd_y rfl rfl (at_f rfl)) (y_ (yl_pick_t (T rfl) (T rfl)) (y_ (yl_assign (T rfl)) (jl_nil (q_then (j_ret (q_ret rfl (.tmp (at_f rfl) .nil) ?_)))) rfl) rfl)
      first | exact ⟨_, ⟨rfl, rfl⟩, sbt⟩ | (exfalso; first | exact c10 rfl | exact c17 trivial | omega)
    · refine n_ft (n_ft (n_ft (y_ (yl_pick_f (T rfl) ev_c) (y_ (yl_assign (T rfl)) (jl_nil (q_then (j_ret (q_ret rfl (.tmp (at_f rfl) .nil) ?_)))) rfl) rfl) rfl rfl rfl rfl) rfl rfl rfl rfl) rfl rfl rfl rfl
      first | exact ⟨_, ⟨rfl, rfl⟩, sbt⟩ | (exfalso; first | exact c10 rfl | exact c17 trivial | omega)
  · refine n_ft (n_ft (n_ft (n_ft (n_ft (y_ (yl_pick_f (T rfl) ev_c) (y_ (yl_move (T rfl)) (n_ft (n_ft (n_ft (y_ (yl_pick_f (T rfl) ev_c) (y_ (yl_assign (T rfl)) (jl_nil (q_then (j_ret (q_ret rfl (.tmp (at_f rfl) .nil) ?_)))) rfl) rfl) rfl rfl rfl rfl) rfl rfl rfl rfl) rfl rfl rfl rfl) rfl) rfl) rfl rfl rfl rfl) rfl rfl rfl rfl) rfl rfl rfl rfl) rfl rfl rfl rfl) rfl rfl rfl rfl
    first | exact ⟨_, ⟨rfl, rfl⟩, sbt⟩ | (exfalso; first | exact c10 rfl | exact c17 trivial | omega)
theorem sameRule_k {w0 : World} {H : List (Nat × Obj)} (x y : Rm) (he : x.r = y.r) (h1 : RmM w0 H x) (h2 : RmM w0 H y) : FSpec Try.prog w0 74 #[.agg (encRm x).toArray, .agg (encRm y).toArray] H (Still (.bool true) H) := by
  obtain ⟨r, o1, a1⟩ := x
  obtain ⟨r2, o2, a2⟩ := y
  obtain rfl : r = r2 := he
  exact sameRule_s r o1 a1 o2 a2 h1 h2
theorem gd_rul {x y : List Rm} (he : x.map (·.r) = y.map (·.r)) {k : Nat} (hk : k < x.length) (hk2 : k < y.length) : (gd x k).r = (gd y k).r := by
  have := congrArg (fun l => gd l k) he
  simpa [gd_map hk, gd_map hk2] using this
theorem tabSame_s {w0 : World} {H : List (Nat × Obj)} (x y : Tb) (h1 : TbM w0 H x) (h2 : TbM w0 H y) (he : x.rs.map (·.r) = y.rs.map (·.r)) (hl : x.rs.length ≤ 9223372036854775807) :
    FSpec Try.prog w0 55 #[tbV x, tbV y] H (Still (.bool true) H) := by
  refine fn_spec Try.func55 rfl Try.ntmps55 rfl ?_
  have hel : x.rs.length = y.rs.length := by simpa using congrArg List.length he
  refine j_seq (j_region (y_ (yl_assign ev_c) (jl_nil (q_then (j_seq (j_seq (j_region (y_ (yl_move (T rfl)) (y_ (yl_len (T rfl) Try.runUnderlying51) (y_ (yl_move (T rfl)) (y_ (yl_len (T rfl) Try.runUnderlying51) (y_ (yl_neq (T rfl) (T rfl)) (jl_nil (q_then ?_)) rfl) rfl) rfl) rfl) rfl)))))) rfl))
  first | refine j_cond_d (at_f rfl) (fun c11 => ?_) (fun c11 => ?_) | refine j_cond (at_f rfl) (fun c11 => ?_) (fun c11 => ?_)
  · refine j_seq (j_region (y_ (yl_assign ev_c) (jl_nil (q_then (j_ret (q_then_ret (q_ret rfl (.tmp (at_f rfl) .nil) ?_))))) rfl))
    first | exact ⟨_, ⟨rfl, rfl⟩, sbt⟩ | (exfalso; omega)
  · refine j_skip (q_then (j_seq (j_seq (j_region (y_ (yl_assign ev_c) (jl_nil (q_then (j_block ?_))) rfl)))))
    refine j_loopH (X := Nat) (V := fun i => [(5, .int .i64 (i : Nat))]) (C := [(0, _), (1, _)]) (φ := fun i => i ≤ x.rs.length) (μ := fun i => x.rs.length - i) (x0 := 0) ?_ ⟨at_f rfl, at_f rfl, trivial⟩ ⟨(by first | exact at_f rfl | (refine at_e (at_f rfl) (vint ?_); omega) | (refine at_e (at_f rfl) ?_; simp; done)), trivial⟩ ?_
    · exact Nat.zero_le _
    rintro i hi
    refine j_seq (j_seq (j_region (y_ (yl_move (T rfl)) (y_ (yl_move (T rfl)) (y_ (yl_len (T rfl) Try.runUnderlying51) (y_ (yl_lss (T rfl) (T rfl)) (jl_nil (q_then ?_)) rfl) rfl) rfl) rfl)))
    first | refine j_cond_d (at_f rfl) (fun c15 => ?_) (fun c15 => ?_) | refine j_cond (at_f rfl) (fun c15 => ?_) (fun c15 => ?_)
    · have hi2 : i < y.rs.length := by omega
      refine j_skip (q_then (j_seq (j_block (j_seq (j_any 10 [(0, true), (1, true), (2, true), (3, true), (4, true), (5, true), (6, true), (7, true), (8, true), (9, true)] _ mixd (by kernel_rfl) sb0 ?_)))))
      refine o_y rfl (yl_move (T rfl)) (o_y rfl (yl_move (T rfl)) (o_y rfl (yl_ixQ (T rfl) (T rfl) Try.runUnderlying51 Try.sizeOf56 (by omega) (by first | exact rfl | exact h1.arr.b (i := i) (by omega) | exact h2.arr.b (i := i) (by omega))) ?_ rfl gd_n) rfl gd_n) rfl gd_n
      refine o_y rfl (yl_loadA (T rfl) Try.isAgg56 Try.sizeOf56 rfl (by first | exact cs_m (h1.arr.cs (i := i) (by omega)) | exact cs_o)) ?_ rfl gd_n
      refine o_y rfl (yl_move (T rfl)) (o_y rfl (yl_move (T rfl)) (o_y rfl (yl_ixQ (T rfl) (T rfl) Try.runUnderlying51 Try.sizeOf56 (by omega) (by first | exact rfl | exact h1.arr.b (i := i) (by omega) | exact h2.arr.b (i := i) (by omega))) ?_ rfl gd_n) rfl gd_n) rfl gd_n
      refine o_y rfl (yl_loadA (T rfl) Try.isAgg56 Try.sizeOf56 rfl (by first | exact cs_m (h2.arr.cs (i := i) (by omega)) | exact cs_o)) ?_ rfl gd_n
      refine o_y rfl (yl_call (.cons (T rfl) (.cons (T rfl) .nil)) Try.call74 (fun H' hs => sameRule_k _ _ (gd_rul he (by omega) (by omega)) ((h1.each _ (gd_mem (by omega))).mono (List.Sublist.trans sbt hs)) ((h2.each _ (gd_mem (by omega))).mono (List.Sublist.trans sbt hs)))) ?_ rfl gd_n
      refine o_y rfl (yl_assign (T rfl)) (jo_nil rfl (jl_nil (q_then (j_seq (j_region (y_ (yl_move (T rfl)) (y_ (yl_not (T rfl)) (jl_nil (q_then (j_cond_f (at_f rfl) (j_skip (q_block (q_then (j_region (y_ (yl_move (T rfl)) (y_ (yl_add (T rfl) ev_c (by omega)) ?_ rfl) rfl)))))))) rfl) rfl)))))) rfl gd_n
      refine y_ (yl_assign (T rfl)) (jl_nil ?_) rfl
      refine q_loopC (i + 1) ?_ ?_ ⟨(by first | exact at_f rfl | (refine at_e (at_f rfl) (vint ?_); omega) | (refine at_e (at_f rfl) ?_; simp; done)), trivial⟩ ⟨at_f rfl, at_f rfl, trivial⟩ ?_
      · show i + 1 ≤ _; omega
      · first | omega | (simp only []; omega)
      · exact sbt
    · refine j_exit (q_then_exit (q_loop_exit (q_block_hit (q_then (j_seq (j_region (y_ (yl_assign ev_c) (jl_nil (q_then (j_ret (q_ret rfl (.tmp (at_f rfl) .nil) ?_)))) rfl)))))))
      first | exact ⟨_, ⟨rfl, rfl⟩, sbt⟩ | (exfalso; omega)
theorem gd_tab {x y : List Tb} (he : x.map (fun t => t.rs.map (·.r)) = y.map (fun t => t.rs.map (·.r))) {k : Nat} (hk : k < x.length) (hk2 : k < y.length) : (gd x k).rs.map (·.r) = (gd y k).rs.map (·.r) := by
  have := congrArg (fun l => gd l k) he
  simpa [gd_map hk, gd_map hk2] using this
theorem tabsSame_s {w0 : World} {H : List (Nat × Obj)} (d1 d2 : Sl) (x y : List Tb) (a1 : Arr w0 H (slQ d1) 1 encTb x) (a2 : Arr w0 H (slQ d2) 1 encTb y) (h1 : ∀ t ∈ x, TbM w0 H t) (h2 : ∀ t ∈ y, TbM w0 H t) (he : x.map (fun t => t.rs.map (·.r)) = y.map (fun t => t.rs.map (·.r))) (hl : x.length ≤ 9223372036854775807) (hl2 : ∀ t ∈ x, t.rs.length ≤ 9223372036854775807) :
    FSpec Try.prog w0 20 #[slV d1 x.length, slV d2 y.length] H (Still (.bool true) H) := by
  refine fn_spec Try.func20 rfl Try.ntmps20 rfl ?_
  have hel : x.length = y.length := by simpa using congrArg List.length he
  refine j_seq (j_region (y_ (yl_assign ev_c) (jl_nil (q_then (j_seq (j_seq (j_region (y_ (yl_move (T rfl)) (y_ (yl_len (T rfl) Try.runUnderlying39) (y_ (yl_move (T rfl)) (y_ (yl_len (T rfl) Try.runUnderlying39) (y_ (yl_neq (T rfl) (T rfl)) (jl_nil (q_then ?_)) rfl) rfl) rfl) rfl) rfl)))))) rfl))
  first | refine j_cond_d (at_f rfl) (fun c10 => ?_) (fun c10 => ?_) | refine j_cond (at_f rfl) (fun c10 => ?_) (fun c10 => ?_)
  · refine j_seq (j_region (y_ (yl_assign ev_c) (jl_nil (q_then (j_ret (q_then_ret (q_ret rfl (.tmp (at_f rfl) .nil) ?_))))) rfl))
    first | exact ⟨_, ⟨rfl, rfl⟩, sbt⟩ | (exfalso; omega)
  · refine j_skip (q_then (j_seq (j_seq (j_region (y_ (yl_assign ev_c) (jl_nil (q_then (j_block ?_))) rfl)))))
    refine j_loopH (X := Nat) (V := fun i => [(5, .int .i64 (i : Nat))]) (C := [(0, _), (1, _)]) (φ := fun i => i ≤ x.length) (μ := fun i => x.length - i) (x0 := 0) ?_ ⟨at_f rfl, at_f rfl, trivial⟩ ⟨(by first | exact at_f rfl | (refine at_e (at_f rfl) (vint ?_); omega) | (refine at_e (at_f rfl) ?_; simp; done)), trivial⟩ ?_
    · exact Nat.zero_le _
    rintro i hi
    refine j_seq (j_seq (j_region (y_ (yl_move (T rfl)) (y_ (yl_move (T rfl)) (y_ (yl_len (T rfl) Try.runUnderlying39) (y_ (yl_lss (T rfl) (T rfl)) (jl_nil (q_then ?_)) rfl) rfl) rfl) rfl)))
    first | refine j_cond_d (at_f rfl) (fun c14 => ?_) (fun c14 => ?_) | refine j_cond (at_f rfl) (fun c14 => ?_) (fun c14 => ?_)
    · refine j_skip (q_then (j_seq (j_block (j_seq (j_any 10 [(0, true), (1, true), (2, true), (3, true), (4, true), (5, true), (6, true), (7, true), (8, true), (9, true)] _ mixd (by kernel_rfl) sb0 ?_)))))
      refine o_y rfl (yl_move (T rfl)) (o_y rfl (yl_move (T rfl)) (o_y rfl (yl_ixQ (T rfl) (T rfl) Try.runUnderlying39 Try.sizeOf51 (by omega) (by first | exact rfl | exact a1.b (i := i) (by omega) | exact a2.b (i := i) (by omega))) ?_ rfl gd_n) rfl gd_n) rfl gd_n
      refine o_y rfl (yl_load (T rfl) Try.isAgg51 (by first | exact c_o | exact c_m (a1.f0 (i := i) (by omega) rfl))) ?_ rfl gd_n
      refine o_y rfl (yl_move (T rfl)) (o_y rfl (yl_move (T rfl)) (o_y rfl (yl_ixQ (T rfl) (T rfl) Try.runUnderlying39 Try.sizeOf51 (by omega) (by first | exact rfl | exact a1.b (i := i) (by omega) | exact a2.b (i := i) (by omega))) ?_ rfl gd_n) rfl gd_n) rfl gd_n
      refine o_y rfl (yl_load (T rfl) Try.isAgg51 (by first | exact c_o | exact c_m (a2.f0 (i := i) (by omega) rfl))) ?_ rfl gd_n
      refine o_y rfl (yl_call (.cons (T rfl) (.cons (T rfl) .nil)) Try.call55 (fun H' hs => tabSame_s _ _ ((h1 _ (gd_mem (by omega))).mono (List.Sublist.trans sbt hs)) ((h2 _ (gd_mem (by omega))).mono (List.Sublist.trans sbt hs)) (gd_tab he (by omega) (by omega)) (hl2 _ (gd_mem (by omega))))) ?_ rfl gd_n
      refine o_y rfl (yl_not (T rfl)) (jo_nil rfl (jl_nil (q_then (j_cond_f (at_f rfl) (j_skip (q_block (q_then (j_region (y_ (yl_move (T rfl)) (y_ (yl_add (T rfl) ev_c (by omega)) ?_ rfl) rfl))))))))) rfl gd_n
      refine y_ (yl_assign (T rfl)) (jl_nil ?_) rfl
      refine q_loopC (i + 1) ?_ ?_ ⟨(by first | exact at_f rfl | (refine at_e (at_f rfl) (vint ?_); omega) | (refine at_e (at_f rfl) ?_; simp; done)), trivial⟩ ⟨at_f rfl, at_f rfl, trivial⟩ ?_
      · show i + 1 ≤ _; omega
      · first | omega | (simp only []; omega)
      · exact sbt
    · refine j_exit (q_then_exit (q_loop_exit (q_block_hit (q_then (j_seq (j_region (y_ (yl_assign ev_c) (jl_nil (q_then (j_ret (q_ret rfl (.tmp (at_f rfl) .nil) ?_)))) rfl)))))))
      first | exact ⟨_, ⟨rfl, rfl⟩, sbt⟩ | (exfalso; omega)
end Go.Proofs.Ytdbffighngmibaa
