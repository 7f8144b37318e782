/-
  Walks of the comparison of tables, of headers and their bits, of Lookup and Send, and of the law on leading.
-/
import Derived.Test.YtdbffighngmibaaWa
import Derived.Test.YtdbffighngmibaaWh
import Derived.ChangeKeysEq
namespace Go.Proofs.Ytdbffighngmibaa
open Go.RowKit
set_option linter.unusedVariables false
set_option linter.unusedSimpArgs false
theorem fa56_0 (b o : Nat) (w : World) : (Instr.fieldAt 56 (.pointer (some ⟨b, o, none⟩)) 0).run Try.prog w = .ok (.pointer (some ⟨b, o, none⟩)) w := by kernel_rfl
theorem fa56_2 (b o : Nat) (w : World) : (Instr.fieldAt 56 (.pointer (some ⟨b, o, none⟩)) 2).run Try.prog w = .ok (.pointer (some ⟨b, o + 21, none⟩)) w := by kernel_rfl
theorem cs_part {w0 : World} {H : List (Nat × Obj)} {n o k : Nat} {l : List Value} {t : TypeId} (hf : Fnd H n (Cl l t)) : Cells w0 H n o ((l.drop o).take k) := fun i v hi => by
  rw [List.getElem?_take] at hi
  split at hi
  · rw [List.getElem?_drop] at hi; exact cell_get hf hi
  · cases hi
abbrev patL (t : Int) : List Value := [z0, z0, z0, z0, z0, z0, z0, z0, z0, mx, z0, z0, z0, z0, z0, z0, z0, z0, z0, .int .i64 t]
abbrev altL (l k p t : Int) : List Value := [.int .i64 l, mx, z0, z0, z0, z0, z0, z0, z0, z0, .int .i64 k, .int .i64 p, z0, z0, z0, z0, z0, z0, z0, z0, .int .i64 t]
theorem encAlt_eq (h : Hop) : encAlt h = altL h.link (if h.link < 0 then 65535 else 0) h.port (if h.link < 0 then h.tag else 0) := by
  unfold encAlt
  split
  · rename_i hl; simp [hl]
  · rename_i hl; simp [hl]
theorem eqHead (d : Nat) (a0 a1 a2 a3 a4 a5 a6 a7 a8 a9 : Int) (w : World) : (Op.equalIn (d + 2) 45 (.agg #[.int .i64 a0, .int .i64 a1, .int .i64 a2, .int .i64 a3, .int .i64 a4, .int .i64 a5, .int .i64 a6, .int .i64 a7, .int .i64 a8, .int .i64 a9]) (.agg #[.int .i64 a0, .int .i64 a1, .int .i64 a2, .int .i64 a3, .int .i64 a4, .int .i64 a5, .int .i64 a6, .int .i64 a7, .int .i64 a8, .int .i64 a9])).run Try.prog w = .ok true w := by
  have hc : Try.prog.cellsOf 3 = 1 := by kernel_rfl
  rw [run_equalIn_array (i := Try.t3) w (d + 1) (t := 45) (e := 3) (n := 10) _ _ (by kernel_rfl) (by kernel_rfl), hc, show List.range 10 = [0, 1, 2, 3, 4, 5, 6, 7, 8, 9] from rfl]
  simp [go_sem, Op.eqItems]
theorem eqPat (t : Int) (w : World) : (Op.equal 53 (.agg (patL t).toArray) (.agg (patL t).toArray)).run Try.prog w = .ok (decide True) w := by
  unfold Op.equal Op.maxDepth
  rw [run_equalIn_struct w 9999 53 _ _ (by kernel_rfl) (by kernel_rfl)]
  simp [go_sem, Program.fieldsOf, Try.underlying53, Op.eqFields, eqHead 9997]
theorem eqAlt (l k p t : Int) (w : World) : (Op.equal 67 (.agg (altL l k p t).toArray) (.agg (altL l k p t).toArray)).run Try.prog w = .ok (decide True) w := by
  unfold Op.equal Op.maxDepth
  rw [run_equalIn_struct w 9999 67 _ _ (by kernel_rfl) (by kernel_rfl)]
  simp [go_sem, Program.fieldsOf, Try.underlying67, Try.underlying65, Op.eqFields, eqHead 9996]
/-- a rule's choices, where they lie -/
structure RmM (w0 : World) (H : List (Nat × Obj)) (m : Rm) : Prop where
  o : Cell w0 H ⟨m.o, 0, none⟩ (outV m.a)
  a : Cells w0 H m.a 0 (altL m.r.hop.link (if m.r.hop.link < 0 then 65535 else 0) m.r.hop.port (if m.r.hop.link < 0 then m.r.hop.tag else 0))
theorem RmM.mono {w0 : World} {H H' : List (Nat × Obj)} {m : Rm} (h : RmM w0 H m) (hs : H.Sublist H' := by exact sbt) : RmM w0 H' m := ⟨h.o.mono hs, h.a.mono hs⟩
/-- a table, where it lies -/
structure TbM (w0 : World) (H : List (Nat × Obj)) (t : Tb) : Prop where
  arr : Arr w0 H (slQ t.d) 23 encRm t.rs
  each : ∀ m ∈ t.rs, RmM w0 H m
theorem TbM.mono {w0 : World} {H H' : List (Nat × Obj)} {t : Tb} (h : TbM w0 H t) (hs : H.Sublist H' := by exact sbt) : TbM w0 H' t := ⟨h.arr.mono hs, fun m hm => (h.each m hm).mono hs⟩
theorem flat_sub {α β : Type} {f : α → List β} {l : List α} {x : α} (h : x ∈ l) : (f x).Sublist (l.flatMap f) := by
  induction l with
  | nil => cases h
  | cons y l ih =>
    rw [List.flatMap_cons]
    rcases List.mem_cons.1 h with rfl | h
    · exact List.sublist_append_left _ _
    · exact (ih h).trans (List.sublist_append_right _ _)
theorem tb_mem {w0 : World} {X : List (Nat × Obj)} {ts : List Tb} (hok : ∀ t ∈ ts, SlOk t.d t.rs.length 23) : ∀ t ∈ ts, TbM w0 (tsH ts ++ X) t := fun t ht => by
  have h0 : (tbH t).Sublist (tsH ts) := flat_sub ht
  have h1 : (tbH t).Sublist (tsH ts ++ X) := h0.trans (List.sublist_append_left _ _)
  refine ⟨(sl_arr (w0 := w0) (enc := encRm) (sz := 23) (e := 56) (X := t.rs.flatMap rmH) (fun _ => rfl) (hok t ht)).mono h1, fun m hm => ?_⟩
  have h2 : (rmH m).Sublist (tsH ts ++ X) := ((flat_sub hm).trans (List.sublist_append_right _ _)).trans h1
  refine RmM.mono (H := rmH m) ⟨c_o, ?_⟩ h2
  rw [← encAlt_eq]
  exact cs_o
theorem sameOuts_s {w0 : World} {H : List (Nat × Obj)} (r : Rul) (o1 a1 o2 a2 : Nat) (h1 : RmM w0 H ⟨r, o1, a1⟩) (h2 : RmM w0 H ⟨r, o2, a2⟩) :
    FSpec Try.prog w0 104 #[.agg (encRm ⟨r, o1, a1⟩).toArray, .agg (encRm ⟨r, o2, a2⟩).toArray] H (Still (.bool true) H) := by
  refine fn_spec Try.func104 rfl Try.ntmps104 rfl (j_seq (j_region (e_ (eff_box (T rfl) cs_) ?_ rfl)))
  rintro _ _ ⟨n2, rfl, rfl⟩
  refine e_ (eff_box (T rfl) cs_) ?_ rfl
  rintro _ _ ⟨n3, rfl, rfl⟩
  refine y_ (yl_assign ev_c) (jl_nil (q_then (j_seq (j_seq (j_region (y_ (yl_fa (T rfl) fa56_3) (y_ (yl_load (T rfl) Try.isAgg54 (by first | exact c_o | exact c_m (h1.o) | exact c_m (h2.o) | exact c_m (h1.a) | exact c_m (h2.a))) ?_ rfl) rfl)))))) rfl
  refine y_ (yl_len (T rfl) Try.runUnderlying54) (y_ (yl_fa (T rfl) fa56_3) (y_ (yl_load (T rfl) Try.isAgg54 (by first | exact c_o | exact c_m (h1.o) | exact c_m (h2.o) | exact c_m (h1.a) | exact c_m (h2.a))) ?_ rfl) rfl) rfl
  refine y_ (yl_len (T rfl) Try.runUnderlying54) (y_ (yl_neq (T rfl) (T rfl)) (jl_nil (q_then ?_)) rfl) rfl
  first | refine j_cond_d (at_f rfl) (fun c13 => ?_) (fun c13 => ?_) | refine j_cond (at_f rfl) (fun c13 => ?_) (fun c13 => ?_)
  · refine j_seq (j_region (y_ (yl_assign ev_c) (jl_nil (q_then (j_ret (q_then_ret (q_ret rfl (.tmp (at_f rfl) .nil) ?_))))) rfl))
    first | exact ⟨_, ⟨rfl, rfl⟩, sbt⟩ | (exfalso; first | exact c60 trivial | omega)
  · refine j_skip (q_then (j_seq (j_seq (j_region (y_ (yl_assign ev_c) (jl_nil (q_then (j_block ?_))) rfl)))))
    refine j_loopH (X := Nat) (V := fun i => [(5, .int .i64 (i : Nat))]) (C := [(2, _), (3, _)]) (φ := fun i => i ≤ 1) (μ := fun i => 1 - i) (x0 := 0) ?_ ⟨at_f rfl, at_f rfl, trivial⟩ ⟨(by first | exact at_f rfl | (refine at_e (at_f rfl) (vint ?_); omega) | (refine at_e (at_f rfl) ?_; simp; done)), trivial⟩ ?_
    · exact Nat.zero_le _
    rintro i hi
    refine j_seq (j_seq (j_region (y_ (yl_move (T rfl)) (y_ (yl_fa (T rfl) fa56_3) (y_ (yl_load (T rfl) Try.isAgg54 (by first | exact c_o | exact c_m (h1.o) | exact c_m (h2.o) | exact c_m (h1.a) | exact c_m (h2.a))) ?_ rfl) rfl) rfl)))
    refine y_ (yl_len (T rfl) Try.runUnderlying54) (y_ (yl_lss (T rfl) (T rfl)) (jl_nil (q_then ?_)) rfl) rfl
    first | refine j_cond_d (at_f rfl) (fun c18 => ?_) (fun c18 => ?_) | refine j_cond (at_f rfl) (fun c18 => ?_) (fun c18 => ?_)
    · have hi0 : i = 0 := by omega
      subst hi0
      refine j_skip (q_then (j_seq (j_block (j_seq (j_seq (j_any 13 [(0, true), (1, true), (2, true), (3, true), (4, true), (5, true), (6, true), (7, true), (8, true), (9, true), (10, true), (11, true), (12, true)] _ mixd (by kernel_rfl) sb0 ?_))))))
      refine o_y rfl (yl_fa (T rfl) fa56_3) (o_y rfl (yl_load (T rfl) Try.isAgg54 (by first | exact c_o | exact c_m (h1.o) | exact c_m (h2.o) | exact c_m (h1.a) | exact c_m (h2.a))) ?_ rfl gd_n) rfl gd_n
      refine o_y rfl (yl_move (T rfl)) (o_y rfl (yl_ixQ (T rfl) (T rfl) Try.runUnderlying54 Try.sizeOf64 (by first | omega | exact ⟨by decide, by decide⟩) (by first | exact rfl)) ?_ rfl gd_n) rfl gd_n
      refine o_y rfl (yl_load (T rfl) Try.isAgg64 (by first | exact c_o | exact c_m (h1.o) | exact c_m (h2.o) | exact c_m (h1.a) | exact c_m (h2.a))) ?_ rfl gd_n
      refine o_y rfl (yl_len (T rfl) Try.runUnderlying64) (o_y rfl (yl_fa (T rfl) fa56_3) (o_y rfl (yl_load (T rfl) Try.isAgg54 (by first | exact c_o | exact c_m (h1.o) | exact c_m (h2.o) | exact c_m (h1.a) | exact c_m (h2.a))) ?_ rfl gd_n) rfl gd_n) rfl gd_n
      refine o_y rfl (yl_move (T rfl)) (o_y rfl (yl_ixQ (T rfl) (T rfl) Try.runUnderlying54 Try.sizeOf64 (by first | omega | exact ⟨by decide, by decide⟩) (by first | exact rfl)) ?_ rfl gd_n) rfl gd_n
      refine o_y rfl (yl_load (T rfl) Try.isAgg64 (by first | exact c_o | exact c_m (h1.o) | exact c_m (h2.o) | exact c_m (h1.a) | exact c_m (h2.a))) ?_ rfl gd_n
      refine o_y rfl (yl_len (T rfl) Try.runUnderlying64) (o_y rfl (yl_neq (T rfl) (T rfl)) (jo_nil rfl (jl_nil (q_then ?_))) rfl gd_n) rfl gd_n
      first | refine j_cond_d (at_f rfl) (fun c33 => ?_) (fun c33 => ?_) | refine j_cond (at_f rfl) (fun c33 => ?_) (fun c33 => ?_)
      · refine j_seq (j_region (y_ (yl_assign ev_c) (jl_nil (q_then (j_ret (q_then_ret (q_block_ret (q_then_ret (q_loop_ret (q_block_ret (q_then_ret (q_ret rfl (.tmp (at_f rfl) .nil) ?_)))))))))) rfl))
        first | exact ⟨_, ⟨rfl, rfl⟩, sbt⟩ | (exfalso; first | exact c60 trivial | omega)
      · refine j_skip (q_then (j_seq (j_region (y_ (yl_assign ev_c) (jl_nil (q_then (j_block ?_))) rfl))))
        refine j_loopH (X := Nat) (V := fun j => [(6, .int .i64 (j : Nat))]) (C := [(2, _), (3, _), (5, _)]) (φ := fun j => j ≤ 1) (μ := fun j => 1 - j) (x0 := 0) ?_ ⟨at_f rfl, at_f rfl, at_f rfl, trivial⟩ ⟨(by first | exact at_f rfl | (refine at_e (at_f rfl) (vint ?_); omega) | (refine at_e (at_f rfl) ?_; simp; done)), trivial⟩ ?_
        · exact Nat.zero_le _
        rintro j hj
        refine j_seq (j_seq (j_region (y_ (yl_move (T rfl)) (y_ (yl_fa (T rfl) fa56_3) (y_ (yl_load (T rfl) Try.isAgg54 (by first | exact c_o | exact c_m (h1.o) | exact c_m (h2.o) | exact c_m (h1.a) | exact c_m (h2.a))) ?_ rfl) rfl) rfl)))
        refine y_ (yl_move (T rfl)) (y_ (yl_ixR (T rfl) (T rfl) Try.runUnderlying54 Try.sizeOf64 (by first | omega | exact ⟨by decide, by decide⟩) (by first | exact rfl)) ?_ rfl) rfl
        refine y_ (yl_load (T rfl) Try.isAgg64 (by first | exact c_o | exact c_m (h1.o) | exact c_m (h2.o) | exact c_m (h1.a) | exact c_m (h2.a))) ?_ rfl
        refine y_ (yl_len (T rfl) Try.runUnderlying64) (y_ (yl_lss (T rfl) (T rfl)) (jl_nil (q_then ?_)) rfl) rfl
        first | refine j_cond_d (at_f rfl) (fun c41 => ?_) (fun c41 => ?_) | refine j_cond (at_f rfl) (fun c41 => ?_) (fun c41 => ?_)
        · have hj0 : j = 0 := by omega
          subst hj0
          refine j_skip (q_then (j_seq (j_block (j_seq (j_any 17 [(0, true), (1, true), (2, true), (3, true), (4, true), (5, true), (6, true), (7, true), (8, true), (9, true), (10, true), (11, true), (12, true), (13, true), (14, true), (15, true), (16, true)] _ mixd (by kernel_rfl) sb0 ?_)))))
          refine o_y rfl (yl_fa (T rfl) fa56_3) (o_y rfl (yl_load (T rfl) Try.isAgg54 (by first | exact c_o | exact c_m (h1.o) | exact c_m (h2.o) | exact c_m (h1.a) | exact c_m (h2.a))) ?_ rfl gd_n) rfl gd_n
          refine o_y rfl (yl_move (T rfl)) (o_y rfl (yl_ixR (T rfl) (T rfl) Try.runUnderlying54 Try.sizeOf64 (by first | omega | exact ⟨by decide, by decide⟩) (by first | exact rfl)) ?_ rfl gd_n) rfl gd_n
          refine o_y rfl (yl_load (T rfl) Try.isAgg64 (by first | exact c_o | exact c_m (h1.o) | exact c_m (h2.o) | exact c_m (h1.a) | exact c_m (h2.a))) ?_ rfl gd_n
          refine o_y rfl (yl_move (T rfl)) (o_y rfl (yl_ixQ (T rfl) (T rfl) Try.runUnderlying64 Try.sizeOf67 (by first | omega | exact ⟨by decide, by decide⟩) (by first | exact rfl)) ?_ rfl gd_n) rfl gd_n
          refine o_y rfl (yl_loadA (T rfl) Try.isAgg67 Try.sizeOf67 rfl (by first | exact cs_o | exact cs_m (h1.o) | exact cs_m (h2.o) | exact cs_m (h1.a) | exact cs_m (h2.a))) ?_ rfl gd_n
          refine o_y rfl (yl_fa (T rfl) fa56_3) (o_y rfl (yl_load (T rfl) Try.isAgg54 (by first | exact c_o | exact c_m (h1.o) | exact c_m (h2.o) | exact c_m (h1.a) | exact c_m (h2.a))) ?_ rfl gd_n) rfl gd_n
          refine o_y rfl (yl_move (T rfl)) (o_y rfl (yl_ixR (T rfl) (T rfl) Try.runUnderlying54 Try.sizeOf64 (by first | omega | exact ⟨by decide, by decide⟩) (by first | exact rfl)) ?_ rfl gd_n) rfl gd_n
          refine o_y rfl (yl_load (T rfl) Try.isAgg64 (by first | exact c_o | exact c_m (h1.o) | exact c_m (h2.o) | exact c_m (h1.a) | exact c_m (h2.a))) ?_ rfl gd_n
          refine o_y rfl (yl_move (T rfl)) (o_y rfl (yl_ixQ (T rfl) (T rfl) Try.runUnderlying64 Try.sizeOf67 (by first | omega | exact ⟨by decide, by decide⟩) (by first | exact rfl)) ?_ rfl gd_n) rfl gd_n
          refine o_y rfl (yl_loadA (T rfl) Try.isAgg67 Try.sizeOf67 rfl (by first | exact cs_o | exact cs_m (h1.o) | exact cs_m (h2.o) | exact cs_m (h1.a) | exact cs_m (h2.a))) ?_ rfl gd_n
          refine o_y rfl (yl_neqA (T rfl) (T rfl) Try.eqGuardType67 (q := True) (eqAlt _ _ _ _)) (jo_nil rfl (jl_nil (q_then (j_keep [(2, _), (3, _), (5, _), (6, _), (60, _)] ⟨at_f rfl, at_f rfl, at_f rfl, at_f rfl, at_f rfl, trivial⟩ ?_)))) rfl gd_n
          first | refine j_cond_d (at_f rfl) (fun c60 => ?_) (fun c60 => ?_) | refine j_cond (at_f rfl) (fun c60 => ?_) (fun c60 => ?_)
          · refine j_seq (j_region (y_ (yl_assign ev_c) (jl_nil (q_then (j_ret (q_block_ret (q_then_ret (q_loop_ret (q_block_ret (q_block_ret (q_then_ret (q_loop_ret (q_block_ret (q_then_ret (q_ret rfl (.tmp (at_f rfl) .nil) ?_))))))))))))) rfl))
            first | exact ⟨_, ⟨rfl, rfl⟩, sbt⟩ | (exfalso; first | exact c60 trivial | omega)
          · refine j_skip (q_block (q_then (j_region (y_ (yl_move (T rfl)) (y_ (yl_add (T rfl) ev_c (by omega)) ?_ rfl) rfl))))
            refine y_ (yl_assign (T rfl)) (jl_nil ?_) rfl
            refine q_loopC (1) ?_ ?_ ⟨(by first | exact at_f rfl | (refine at_e (at_f rfl) (vint ?_); omega) | (refine at_e (at_f rfl) ?_; simp; done)), trivial⟩ ⟨at_f rfl, at_f rfl, at_f rfl, trivial⟩ ?_
            · exact Nat.le_refl _
            · simp
            · exact sbt
        · refine j_exit (q_then_exit (q_loop_exit (q_block_hit (q_block (q_then (j_region (y_ (yl_move (T rfl)) (y_ (yl_add (T rfl) ev_c (by omega)) ?_ rfl) rfl)))))))
          refine y_ (yl_assign (T rfl)) (jl_nil ?_) rfl
          refine q_loopC (1) ?_ ?_ ⟨(by first | exact at_f rfl | (refine at_e (at_f rfl) (vint ?_); omega) | (refine at_e (at_f rfl) ?_; simp; done)), trivial⟩ ⟨at_f rfl, at_f rfl, trivial⟩ ?_
          · exact Nat.le_refl _
          · simp
          · exact sbt
    · refine j_exit (q_then_exit (q_loop_exit (q_block_hit (q_then (j_seq (j_region (y_ (yl_assign ev_c) (jl_nil (q_then (j_ret (q_ret rfl (.tmp (at_f rfl) .nil) ?_)))) rfl)))))))
      first | exact ⟨_, ⟨rfl, rfl⟩, sbt⟩ | (exfalso; first | exact c60 trivial | omega)
theorem alike_s {w0 : World} {H : List (Nat × Obj)} (r : Rul) (o1 a1 o2 a2 : Nat) (h1 : RmM w0 H ⟨r, o1, a1⟩) (h2 : RmM w0 H ⟨r, o2, a2⟩) :
    FSpec Try.prog w0 89 #[.agg (encRm ⟨r, o1, a1⟩).toArray, .agg (encRm ⟨r, o2, a2⟩).toArray] H (Still (.bool true) H) := by
  refine fn_spec Try.func89 rfl Try.ntmps89 rfl (j_seq (j_region (e_ (eff_box (T rfl) cs_) ?_ rfl)))
  rintro _ _ ⟨n2, rfl, rfl⟩
  refine e_ (eff_box (T rfl) cs_) ?_ rfl
  rintro _ _ ⟨n3, rfl, rfl⟩
  refine y_ (yl_assign ev_c) (jl_nil (q_then (j_seq (j_region (y_ (yl_fa (T rfl) fa56_2) (y_ (yl_load (T rfl) Try.isAgg3 (by first | exact c_o)) ?_ rfl) rfl))))) rfl
  refine y_ (yl_fa (T rfl) fa56_2) (y_ (yl_load (T rfl) Try.isAgg3 (by first | exact c_o)) ?_ rfl) rfl
  refine y_ (yl_eql (T rfl) (T rfl)) (y_ (yl_move (T rfl)) ?_ rfl) rfl
  first | refine jl_if_d (s := 10) (at_f rfl) (fun c10 => ?_) (fun c10 => ?_) | refine jl_if (s := 10) (at_f rfl) (fun c10 => ?_) (fun c10 => ?_)
  · refine jl_y (yl_loadA (T rfl) Try.isAgg56 Try.sizeOf56 rfl (by first | exact cs_o)) rfl (gd_y rfl rfl (at_f rfl)) ?_
    refine jl_y (yl_loadA (T rfl) Try.isAgg56 Try.sizeOf56 rfl (by first | exact cs_o)) rfl (gd_y rfl rfl (at_f rfl)) ?_
    refine jl_y (yl_call (.cons (T rfl) (.cons (T rfl) .nil)) Try.call104 (fun H' hs => sameOuts_s r _ _ _ _ (h1.mono (List.Sublist.trans sbt hs)) (h2.mono (List.Sublist.trans sbt hs)))) rfl (gd_y rfl rfl (at_f rfl)) (y_ (yl_pick_t (T rfl) (T rfl)) (y_ (yl_assign (T rfl)) (jl_nil (q_then (j_ret (q_ret rfl (.tmp (at_f rfl) .nil) ?_)))) rfl) rfl)
    first | exact ⟨_, ⟨rfl, rfl⟩, sbt⟩ | (exfalso; first | exact c10 rfl | omega)
  · refine n_ft (n_ft (n_ft (y_ (yl_pick_f (T rfl) ev_c) (y_ (yl_assign (T rfl)) (jl_nil (q_then (j_ret (q_ret rfl (.tmp (at_f rfl) .nil) ?_)))) rfl) rfl) rfl rfl rfl rfl) rfl rfl rfl rfl) rfl rfl rfl rfl
    first | exact ⟨_, ⟨rfl, rfl⟩, sbt⟩ | (exfalso; first | exact c10 rfl | omega)
theorem sameRule_s {w0 : World} {H : List (Nat × Obj)} (r : Rul) (o1 a1 o2 a2 : Nat) (h1 : RmM w0 H ⟨r, o1, a1⟩) (h2 : RmM w0 H ⟨r, o2, a2⟩) :
    FSpec Try.prog w0 74 #[.agg (encRm ⟨r, o1, a1⟩).toArray, .agg (encRm ⟨r, o2, a2⟩).toArray] H (Still (.bool true) H) := by
  refine fn_spec Try.func74 rfl Try.ntmps74 rfl (j_seq (j_region (e_ (eff_box (T rfl) cs_) ?_ rfl)))
  rintro _ _ ⟨n2, rfl, rfl⟩
  refine e_ (eff_box (T rfl) cs_) ?_ rfl
  rintro _ _ ⟨n3, rfl, rfl⟩
  refine y_ (yl_assign ev_c) (jl_nil (q_then (j_seq (j_region (y_ (yl_fa0 (T rfl) fa56_0) (y_ (yl_load (T rfl) Try.isAgg3 (by first | exact c_o)) ?_ rfl) rfl))))) rfl
  refine y_ (yl_fa0 (T rfl) fa56_0) (y_ (yl_load (T rfl) Try.isAgg3 (by first | exact c_o)) ?_ rfl) rfl
  refine y_ (yl_eql (T rfl) (T rfl)) (y_ (yl_move (T rfl)) ?_ rfl) rfl
  first | refine jl_if_d (s := 10) (at_f rfl) (fun c10 => ?_) (fun c10 => ?_) | refine jl_if (s := 10) (at_f rfl) (fun c10 => ?_) (fun c10 => ?_)
  · refine jl_y (yl_fa (T rfl) fa56_1) rfl (gd_y rfl rfl (at_f rfl)) ?_
    refine jl_y (yl_loadA (T rfl) Try.isAgg53 Try.sizeOf53 rfl (by first | exact cs_part (k := 20) (by repeat (first | exact fnd_h | refine fnd_t ?_ | refine fnd_a ?_)) | exact cs_o)) rfl (gd_y rfl rfl (at_f rfl)) ?_
    refine jl_y (yl_fa (T rfl) fa56_1) rfl (gd_y rfl rfl (at_f rfl)) ?_
    refine jl_y (yl_loadA (T rfl) Try.isAgg53 Try.sizeOf53 rfl (by first | exact cs_part (k := 20) (by repeat (first | exact fnd_h | refine fnd_t ?_ | refine fnd_a ?_)) | exact cs_o)) rfl (gd_y rfl rfl (at_f rfl)) ?_
    refine jl_y (yl_eqA (T rfl) (T rfl) Try.eqGuardType53 (q := True) (eqPat _)) rfl (gd_y rfl rfl (at_f rfl)) (y_ (yl_pick_t (T rfl) (T rfl)) (y_ (yl_move (T rfl)) ?_ rfl) rfl)
    first | refine jl_if_d (s := 17) (at_f rfl) (fun c17 => ?_) (fun c17 => ?_) | refine jl_if (s := 17) (at_f rfl) (fun c17 => ?_) (fun c17 => ?_)
    · refine jl_y (yl_loadA (T rfl) Try.isAgg56 Try.sizeOf56 rfl (by first | exact cs_o)) rfl (gd_y rfl rfl (at_f rfl)) ?_
      refine jl_y (yl_loadA (T rfl) Try.isAgg56 Try.sizeOf56 rfl (by first | exact cs_o)) rfl (gd_y rfl rfl (at_f rfl)) ?_
      refine jl_y (yl_call (.cons (T rfl) (.cons (T rfl) .nil)) Try.call89 (fun H' hs => alike_s r _ _ _ _ (h1.mono (List.Sublist.trans sbt hs)) (h2.mono (List.Sublist.trans sbt hs)))) rfl (gd_y rfl rfl (at_f rfl)) (y_ (yl_pick_t (T rfl) (T rfl)) (y_ (yl_assign (T rfl)) (jl_nil (q_then (j_ret (q_ret rfl (.tmp (at_f rfl) .nil) ?_)))) rfl) rfl)
      first | exact ⟨_, ⟨rfl, rfl⟩, sbt⟩ | (exfalso; first | exact c10 rfl | exact c17 trivial | omega)
    · refine n_ft (n_ft (n_ft (y_ (yl_pick_f (T rfl) ev_c) (y_ (yl_assign (T rfl)) (jl_nil (q_then (j_ret (q_ret rfl (.tmp (at_f rfl) .nil) ?_)))) rfl) rfl) rfl rfl rfl rfl) rfl rfl rfl rfl) rfl rfl rfl rfl
      first | exact ⟨_, ⟨rfl, rfl⟩, sbt⟩ | (exfalso; first | exact c10 rfl | exact c17 trivial | omega)
  · refine n_ft (n_ft (n_ft (n_ft (n_ft (y_ (yl_pick_f (T rfl) ev_c) (y_ (yl_move (T rfl)) (n_ft (n_ft (n_ft (y_ (yl_pick_f (T rfl) ev_c) (y_ (yl_assign (T rfl)) (jl_nil (q_then (j_ret (q_ret rfl (.tmp (at_f rfl) .nil) ?_)))) rfl) rfl) rfl rfl rfl rfl) rfl rfl rfl rfl) rfl rfl rfl rfl) rfl) rfl) rfl rfl rfl rfl) rfl rfl rfl rfl) rfl rfl rfl rfl) rfl rfl rfl rfl) rfl rfl rfl rfl
    first | exact ⟨_, ⟨rfl, rfl⟩, sbt⟩ | (exfalso; first | exact c10 rfl | exact c17 trivial | omega)
theorem sameRule_k {w0 : World} {H : List (Nat × Obj)} (x y : Rm) (he : x.r = y.r) (h1 : RmM w0 H x) (h2 : RmM w0 H y) : FSpec Try.prog w0 74 #[.agg (encRm x).toArray, .agg (encRm y).toArray] H (Still (.bool true) H) := by
  obtain ⟨r, o1, a1⟩ := x
  obtain ⟨r2, o2, a2⟩ := y
  obtain rfl : r = r2 := he
  exact sameRule_s r o1 a1 o2 a2 h1 h2
theorem gd_rul {x y : List Rm} (he : x.map (·.r) = y.map (·.r)) {k : Nat} (hk : k < x.length) (hk2 : k < y.length) : (gd x k).r = (gd y k).r := by
  have := congrArg (fun l => gd l k) he
  simpa [gd_map hk, gd_map hk2] using this
theorem tabSame_s {w0 : World} {H : List (Nat × Obj)} (x y : Tb) (h1 : TbM w0 H x) (h2 : TbM w0 H y) (he : x.rs.map (·.r) = y.rs.map (·.r)) (hl : x.rs.length ≤ 9223372036854775807) :
    FSpec Try.prog w0 55 #[tbV x, tbV y] H (Still (.bool true) H) := by
  refine fn_spec Try.func55 rfl Try.ntmps55 rfl ?_
  have hel : x.rs.length = y.rs.length := by simpa using congrArg List.length he
  refine j_seq (j_region (y_ (yl_assign ev_c) (jl_nil (q_then (j_seq (j_seq (j_region (y_ (yl_move (T rfl)) (y_ (yl_len (T rfl) Try.runUnderlying51) (y_ (yl_move (T rfl)) (y_ (yl_len (T rfl) Try.runUnderlying51) (y_ (yl_neq (T rfl) (T rfl)) (jl_nil (q_then ?_)) rfl) rfl) rfl) rfl) rfl)))))) rfl))
  first | refine j_cond_d (at_f rfl) (fun c11 => ?_) (fun c11 => ?_) | refine j_cond (at_f rfl) (fun c11 => ?_) (fun c11 => ?_)
  · refine j_seq (j_region (y_ (yl_assign ev_c) (jl_nil (q_then (j_ret (q_then_ret (q_ret rfl (.tmp (at_f rfl) .nil) ?_))))) rfl))
    first | exact ⟨_, ⟨rfl, rfl⟩, sbt⟩ | (exfalso; omega)
  · refine j_skip (q_then (j_seq (j_seq (j_region (y_ (yl_assign ev_c) (jl_nil (q_then (j_block ?_))) rfl)))))
    refine j_loopH (X := Nat) (V := fun i => [(5, .int .i64 (i : Nat))]) (C := [(0, _), (1, _)]) (φ := fun i => i ≤ x.rs.length) (μ := fun i => x.rs.length - i) (x0 := 0) ?_ ⟨at_f rfl, at_f rfl, trivial⟩ ⟨(by first | exact at_f rfl | (refine at_e (at_f rfl) (vint ?_); omega) | (refine at_e (at_f rfl) ?_; simp; done)), trivial⟩ ?_
    · exact Nat.zero_le _
    rintro i hi
    refine j_seq (j_seq (j_region (y_ (yl_move (T rfl)) (y_ (yl_move (T rfl)) (y_ (yl_len (T rfl) Try.runUnderlying51) (y_ (yl_lss (T rfl) (T rfl)) (jl_nil (q_then ?_)) rfl) rfl) rfl) rfl)))
    first | refine j_cond_d (at_f rfl) (fun c15 => ?_) (fun c15 => ?_) | refine j_cond (at_f rfl) (fun c15 => ?_) (fun c15 => ?_)
    · have hi2 : i < y.rs.length := by omega
      refine j_skip (q_then (j_seq (j_block (j_seq (j_any 10 [(0, true), (1, true), (2, true), (3, true), (4, true), (5, true), (6, true), (7, true), (8, true), (9, true)] _ mixd (by kernel_rfl) sb0 ?_)))))
      refine o_y rfl (yl_move (T rfl)) (o_y rfl (yl_move (T rfl)) (o_y rfl (yl_ixQ (T rfl) (T rfl) Try.runUnderlying51 Try.sizeOf56 (by omega) (by first | exact rfl | exact h1.arr.b (i := i) (by omega) | exact h2.arr.b (i := i) (by omega))) ?_ rfl gd_n) rfl gd_n) rfl gd_n
      refine o_y rfl (yl_loadA (T rfl) Try.isAgg56 Try.sizeOf56 rfl (by first | exact cs_m (h1.arr.cs (i := i) (by omega)) | exact cs_o)) ?_ rfl gd_n
      refine o_y rfl (yl_move (T rfl)) (o_y rfl (yl_move (T rfl)) (o_y rfl (yl_ixQ (T rfl) (T rfl) Try.runUnderlying51 Try.sizeOf56 (by omega) (by first | exact rfl | exact h1.arr.b (i := i) (by omega) | exact h2.arr.b (i := i) (by omega))) ?_ rfl gd_n) rfl gd_n) rfl gd_n
      refine o_y rfl (yl_loadA (T rfl) Try.isAgg56 Try.sizeOf56 rfl (by first | exact cs_m (h2.arr.cs (i := i) (by omega)) | exact cs_o)) ?_ rfl gd_n
      refine o_y rfl (yl_call (.cons (T rfl) (.cons (T rfl) .nil)) Try.call74 (fun H' hs => sameRule_k _ _ (gd_rul he (by omega) (by omega)) ((h1.each _ (gd_mem (by omega))).mono (List.Sublist.trans sbt hs)) ((h2.each _ (gd_mem (by omega))).mono (List.Sublist.trans sbt hs)))) ?_ rfl gd_n
      refine o_y rfl (yl_assign (T rfl)) (jo_nil rfl (jl_nil (q_then (j_seq (j_region (y_ (yl_move (T rfl)) (y_ (yl_not (T rfl)) (jl_nil (q_then (j_cond_f (at_f rfl) (j_skip (q_block (q_then (j_region (y_ (yl_move (T rfl)) (y_ (yl_add (T rfl) ev_c (by omega)) ?_ rfl) rfl)))))))) rfl) rfl)))))) rfl gd_n
      refine y_ (yl_assign (T rfl)) (jl_nil ?_) rfl
      refine q_loopC (i + 1) ?_ ?_ ⟨(by first | exact at_f rfl | (refine at_e (at_f rfl) (vint ?_); omega) | (refine at_e (at_f rfl) ?_; simp; done)), trivial⟩ ⟨at_f rfl, at_f rfl, trivial⟩ ?_
      · show i + 1 ≤ _; omega
      · first | omega | (simp only []; omega)
      · exact sbt
    · refine j_exit (q_then_exit (q_loop_exit (q_block_hit (q_then (j_seq (j_region (y_ (yl_assign ev_c) (jl_nil (q_then (j_ret (q_ret rfl (.tmp (at_f rfl) .nil) ?_)))) rfl)))))))
      first | exact ⟨_, ⟨rfl, rfl⟩, sbt⟩ | (exfalso; omega)
theorem gd_tab {x y : List Tb} (he : x.map (fun t => t.rs.map (·.r)) = y.map (fun t => t.rs.map (·.r))) {k : Nat} (hk : k < x.length) (hk2 : k < y.length) : (gd x k).rs.map (·.r) = (gd y k).rs.map (·.r) := by
  have := congrArg (fun l => gd l k) he
  simpa [gd_map hk, gd_map hk2] using this
theorem tabsSame_s {w0 : World} {H : List (Nat × Obj)} (d1 d2 : Sl) (x y : List Tb) (a1 : Arr w0 H (slQ d1) 1 encTb x) (a2 : Arr w0 H (slQ d2) 1 encTb y) (h1 : ∀ t ∈ x, TbM w0 H t) (h2 : ∀ t ∈ y, TbM w0 H t) (he : x.map (fun t => t.rs.map (·.r)) = y.map (fun t => t.rs.map (·.r))) (hl : x.length ≤ 9223372036854775807) (hl2 : ∀ t ∈ x, t.rs.length ≤ 9223372036854775807) :
    FSpec Try.prog w0 20 #[slV d1 x.length, slV d2 y.length] H (Still (.bool true) H) := by
  refine fn_spec Try.func20 rfl Try.ntmps20 rfl ?_
  have hel : x.length = y.length := by simpa using congrArg List.length he
  refine j_seq (j_region (y_ (yl_assign ev_c) (jl_nil (q_then (j_seq (j_seq (j_region (y_ (yl_move (T rfl)) (y_ (yl_len (T rfl) Try.runUnderlying39) (y_ (yl_move (T rfl)) (y_ (yl_len (T rfl) Try.runUnderlying39) (y_ (yl_neq (T rfl) (T rfl)) (jl_nil (q_then ?_)) rfl) rfl) rfl) rfl) rfl)))))) rfl))
  first | refine j_cond_d (at_f rfl) (fun c10 => ?_) (fun c10 => ?_) | refine j_cond (at_f rfl) (fun c10 => ?_) (fun c10 => ?_)
  · refine j_seq (j_region (y_ (yl_assign ev_c) (jl_nil (q_then (j_ret (q_then_ret (q_ret rfl (.tmp (at_f rfl) .nil) ?_))))) rfl))
    first | exact ⟨_, ⟨rfl, rfl⟩, sbt⟩ | (exfalso; omega)
  · refine j_skip (q_then (j_seq (j_seq (j_region (y_ (yl_assign ev_c) (jl_nil (q_then (j_block ?_))) rfl)))))
    refine j_loopH (X := Nat) (V := fun i => [(5, .int .i64 (i : Nat))]) (C := [(0, _), (1, _)]) (φ := fun i => i ≤ x.length) (μ := fun i => x.length - i) (x0 := 0) ?_ ⟨at_f rfl, at_f rfl, trivial⟩ ⟨(by first | exact at_f rfl | (refine at_e (at_f rfl) (vint ?_); omega) | (refine at_e (at_f rfl) ?_; simp; done)), trivial⟩ ?_
    · exact Nat.zero_le _
    rintro i hi
    refine j_seq (j_seq (j_region (y_ (yl_move (T rfl)) (y_ (yl_move (T rfl)) (y_ (yl_len (T rfl) Try.runUnderlying39) (y_ (yl_lss (T rfl) (T rfl)) (jl_nil (q_then ?_)) rfl) rfl) rfl) rfl)))
    first | refine j_cond_d (at_f rfl) (fun c14 => ?_) (fun c14 => ?_) | refine j_cond (at_f rfl) (fun c14 => ?_) (fun c14 => ?_)
    · refine j_skip (q_then (j_seq (j_block (j_seq (j_any 10 [(0, true), (1, true), (2, true), (3, true), (4, true), (5, true), (6, true), (7, true), (8, true), (9, true)] _ mixd (by kernel_rfl) sb0 ?_)))))
      refine o_y rfl (yl_move (T rfl)) (o_y rfl (yl_move (T rfl)) (o_y rfl (yl_ixQ (T rfl) (T rfl) Try.runUnderlying39 Try.sizeOf51 (by omega) (by first | exact rfl | exact a1.b (i := i) (by omega) | exact a2.b (i := i) (by omega))) ?_ rfl gd_n) rfl gd_n) rfl gd_n
      refine o_y rfl (yl_load (T rfl) Try.isAgg51 (by first | exact c_o | exact c_m (a1.f0 (i := i) (by omega) rfl))) ?_ rfl gd_n
      refine o_y rfl (yl_move (T rfl)) (o_y rfl (yl_move (T rfl)) (o_y rfl (yl_ixQ (T rfl) (T rfl) Try.runUnderlying39 Try.sizeOf51 (by omega) (by first | exact rfl | exact a1.b (i := i) (by omega) | exact a2.b (i := i) (by omega))) ?_ rfl gd_n) rfl gd_n) rfl gd_n
      refine o_y rfl (yl_load (T rfl) Try.isAgg51 (by first | exact c_o | exact c_m (a2.f0 (i := i) (by omega) rfl))) ?_ rfl gd_n
      refine o_y rfl (yl_call (.cons (T rfl) (.cons (T rfl) .nil)) Try.call55 (fun H' hs => tabSame_s _ _ ((h1 _ (gd_mem (by omega))).mono (List.Sublist.trans sbt hs)) ((h2 _ (gd_mem (by omega))).mono (List.Sublist.trans sbt hs)) (gd_tab he (by omega) (by omega)) (hl2 _ (gd_mem (by omega))))) ?_ rfl gd_n
      refine o_y rfl (yl_not (T rfl)) (jo_nil rfl (jl_nil (q_then (j_cond_f (at_f rfl) (j_skip (q_block (q_then (j_region (y_ (yl_move (T rfl)) (y_ (yl_add (T rfl) ev_c (by omega)) ?_ rfl) rfl))))))))) rfl gd_n
      refine y_ (yl_assign (T rfl)) (jl_nil ?_) rfl
      refine q_loopC (i + 1) ?_ ?_ ⟨(by first | exact at_f rfl | (refine at_e (at_f rfl) (vint ?_); omega) | (refine at_e (at_f rfl) ?_; simp; done)), trivial⟩ ⟨at_f rfl, at_f rfl, trivial⟩ ?_
      · show i + 1 ≤ _; omega
      · first | omega | (simp only []; omega)
      · exact sbt
    · refine j_exit (q_then_exit (q_loop_exit (q_block_hit (q_then (j_seq (j_region (y_ (yl_assign ev_c) (jl_nil (q_then (j_ret (q_ret rfl (.tmp (at_f rfl) .nil) ?_)))) rfl)))))))
      first | exact ⟨_, ⟨rfl, rfl⟩, sbt⟩ | (exfalso; omega)
abbrev encHd (h : Nat → Int) : List Value := [.int .i64 (h 0), .int .i64 (h 1), .int .i64 (h 2), .int .i64 (h 3), .int .i64 (h 4), .int .i64 (h 5), .int .i64 (h 6), .int .i64 (h 7), .int .i64 (h 8), .int .i64 (h 9)]
/-- a header with other words at 0 and 9 -/
def hdT (h : Nat → Int) (p t : Int) : Nat → Int
  | 0 => p
  | 9 => t
  | j => h j
def hdM (a z : Int) : Nat → Int
  | 0 => a
  | 9 => z
  | _ => 0
def RgH (h : Nat → Int) : Prop := ∀ i, i < 10 → 0 ≤ h i ∧ h i ≤ 65535
def bitI (x : Int) (c : Nat) : Int := x / ((2 ^ (15 - c) : Nat) : Int) % 2
def bitF (h : Nat → Int) (i : Nat) : Int := bitI (h (i / 16)) (i % 16)
theorem pw_pos (c : Nat) : (1 : Int) ≤ ((2 ^ (15 - c) : Nat) : Int) := by have := Nat.two_pow_pos (15 - c); omega
theorem pw_le (c : Nat) : ((2 ^ (15 - c) : Nat) : Int) ≤ 32768 := by
  have : 2 ^ (15 - c) ≤ 2 ^ 15 := Nat.pow_le_pow_right (by omega) (by omega)
  have e : (2 : Nat) ^ 15 = 32768 := by decide
  omega
theorem pw_half {k : Nat} (h : k < 15) : ((2 ^ (15 - k) : Nat) : Int) / 2 = ((2 ^ (15 - (k + 1)) : Nat) : Int) := by
  have e : 15 - k = 15 - (k + 1) + 1 := by omega
  rw [e, Nat.pow_succ]
  omega
theorem bit_two (x : Int) (c : Nat) : bitI x c = 0 ∨ bitI x c = 1 := by unfold bitI; omega
theorem rg_T {h : Nat → Int} {p t : Int} (hr : RgH h) (hp : 0 ≤ p ∧ p ≤ 65535) (ht : 0 ≤ t ∧ t ≤ 65535) : RgH (hdT h p t) := fun i hi => by
  unfold hdT; split
  · exact hp
  · exact ht
  · exact hr _ hi
theorem rg_M {a z : Int} (ha : 0 ≤ a ∧ a ≤ 65535) (hz : 0 ≤ z ∧ z ≤ 65535) : RgH (hdM a z) := fun i _ => by
  unfold hdM; split
  · exact ha
  · exact hz
  · exact ⟨by decide, by decide⟩
theorem hd_get {h : Nat → Int} {i : Nat} (hi : i < 10) : (encHd h)[i]? = some (.int .i64 (h i)) := by
  match i, hi with
  | 0, _ => rfl
  | 1, _ => rfl
  | 2, _ => rfl
  | 3, _ => rfl
  | 4, _ => rfl
  | 5, _ => rfl
  | 6, _ => rfl
  | 7, _ => rfl
  | 8, _ => rfl
  | 9, _ => rfl
def updH (h : Nat → Int) (w : Nat) (x : Int) : Nat → Int := fun j => if j = w then x else h j
theorem hd_set {h : Nat → Int} {i : Nat} (x : Int) (hi : i < 10) : SetN (encHd h) i (.int .i64 x) (encHd (updH h i x)) := by
  have : (encHd h).set i (.int .i64 x) = encHd (updH h i x) := by
    match i, hi with
    | 0, _ => rfl
    | 1, _ => rfl
    | 2, _ => rfl
    | 3, _ => rfl
    | 4, _ => rfl
    | 5, _ => rfl
    | 6, _ => rfl
    | 7, _ => rfl
    | 8, _ => rfl
    | 9, _ => rfl
  rw [← this]
  exact setN_set (by simpa using hi)
def setF (h : Nat → Int) (i : Nat) (v : Int) : Nat → Int := updH h (i / 16) (h (i / 16) + (v - bitF h i) * ((2 ^ (15 - i % 16) : Nat) : Int))
theorem mul_bd {v b q : Int} (hv : v = 0 ∨ v = 1) (hb : b = 0 ∨ b = 1) (hq : 1 ≤ q ∧ q ≤ 32768) : -32768 ≤ (v - b) * q ∧ (v - b) * q ≤ 32768 := by
  rcases hv with rfl | rfl <;> rcases hb with rfl | rfl <;> simp <;> omega
/-- the first c bits of b, the others of a -/
def mixI (a b : Int) (c : Nat) : Int := b / ((2 ^ (16 - c) : Nat) : Int) * ((2 ^ (16 - c) : Nat) : Int) + a % ((2 ^ (16 - c) : Nat) : Int)
theorem low16 {c : Nat} (h : c < 16) : c = 0 ∨ c = 1 ∨ c = 2 ∨ c = 3 ∨ c = 4 ∨ c = 5 ∨ c = 6 ∨ c = 7 ∨ c = 8 ∨ c = 9 ∨ c = 10 ∨ c = 11 ∨ c = 12 ∨ c = 13 ∨ c = 14 ∨ c = 15 := by omega
theorem mix_zero {a b : Int} (ha : 0 ≤ a ∧ a ≤ 65535) (hb : 0 ≤ b ∧ b ≤ 65535) : mixI a b 0 = a := by
  unfold mixI; simp; omega
theorem mix_end (a b : Int) : mixI a b 16 = b := by unfold mixI; simp
theorem mix_step {a b : Int} (ha : 0 ≤ a ∧ a ≤ 65535) (hb : 0 ≤ b ∧ b ≤ 65535) {c : Nat} (hc : c < 16) : mixI a b (c + 1) = mixI a b c + (bitI b c - bitI (mixI a b c) c) * ((2 ^ (15 - c) : Nat) : Int) := by
  unfold mixI bitI
  rcases low16 hc with rfl | rfl | rfl | rfl | rfl | rfl | rfl | rfl | rfl | rfl | rfl | rfl | rfl | rfl | rfl | rfl <;> simp <;> omega
theorem mix_bd {a b : Int} (ha : 0 ≤ a ∧ a ≤ 65535) (hb : 0 ≤ b ∧ b ≤ 65535) {c : Nat} (hc : c ≤ 16) : 0 ≤ mixI a b c ∧ mixI a b c ≤ 65535 := by
  by_cases e : c = 16
  · subst e; rw [mix_end]; exact hb
  unfold mixI
  rcases low16 (show c < 16 by omega) with rfl | rfl | rfl | rfl | rfl | rfl | rfl | rfl | rfl | rfl | rfl | rfl | rfl | rfl | rfl | rfl <;> simp <;> omega
theorem bit_full {c : Nat} (hc : c < 16) : bitI 65535 c = 1 := by
  rcases low16 hc with rfl | rfl | rfl | rfl | rfl | rfl | rfl | rfl | rfl | rfl | rfl | rfl | rfl | rfl | rfl | rfl <;> rfl
theorem bit_none (c : Nat) : bitI 0 c = 0 := by unfold bitI; simp
theorem bits_eq {x y : Int} (hx : 0 ≤ x ∧ x ≤ 65535) (hy : 0 ≤ y ∧ y ≤ 65535) (h : ∀ c, c < 16 → bitI x c = bitI y c) : x = y := by
  obtain ⟨m, rfl⟩ := Int.eq_ofNat_of_zero_le hx.1
  obtain ⟨n, rfl⟩ := Int.eq_ofNat_of_zero_le hy.1
  have e : m = n := by
    apply Nat.eq_of_testBit_eq
    intro i
    by_cases hi : i < 16
    · have := h (15 - i) (by omega)
      unfold bitI at this
      rw [show 15 - (15 - i) = i by omega] at this
      rw [Nat.testBit_eq_decide_div_mod_eq, Nat.testBit_eq_decide_div_mod_eq]
      have h2 : m / 2 ^ i % 2 = n / 2 ^ i % 2 := by exact_mod_cast this
      rw [h2]
    · have h16 : (2 : Nat) ^ 16 ≤ 2 ^ i := Nat.pow_le_pow_right (by omega) (by omega)
      have e16 : (2 : Nat) ^ 16 = 65536 := by decide
      rw [Nat.testBit_lt_two_pow (show m < 2 ^ i by omega), Nat.testBit_lt_two_pow (show n < 2 ^ i by omega)]
  rw [e]
theorem mask_at {a z : Int} {i : Nat} (hi : i < 160) : bitF (hdM a z) i = if i / 16 = 0 then bitI a (i % 16) else if i / 16 = 9 then bitI z (i % 16) else 0 := by
  unfold bitF
  by_cases h0 : i / 16 = 0
  · rw [if_pos h0, h0]; rfl
  · rw [if_neg h0]
    by_cases h9 : i / 16 = 9
    · rw [if_pos h9, h9]; rfl
    · rw [if_neg h9]
      have : hdM a z (i / 16) = 0 := by
        unfold hdM; split
        · omega
        · omega
        · rfl
      rw [this, bit_none]
theorem match_no {h : Nat → Int} {t : Int} (e : h 9 = t) {i : Nat} (hi : i < 160) (hm : bitF (hdM 0 65535) i = 1) : bitF (hdM 0 t) i = bitF h i := by
  rw [mask_at hi] at hm
  split at hm
  · rw [bit_none] at hm; cases hm
  · split at hm
    · rename_i h0 h9
      rw [mask_at hi, if_neg h0, if_pos h9]
      unfold bitF; rw [h9, e]
    · cases hm
theorem match_yes {h : Nat → Int} {t : Int} (hr : RgH h) (ht : 0 ≤ t ∧ t ≤ 65535) (hall : ∀ i, i < 160 → bitF (hdM 0 65535) i = 1 → bitF (hdM 0 t) i = bitF h i) : h 9 = t := by
  refine bits_eq (hr 9 (by omega)) ht fun c hc => ?_
  have e1 : (144 + c) / 16 = 9 := by omega
  have e2 : (144 + c) % 16 = c := by omega
  have := hall (144 + c) (by omega) (by rw [mask_at (by omega), if_neg (by omega), if_pos e1, e2, bit_full hc])
  rw [mask_at (by omega), if_neg (by omega), if_pos e1, e2] at this
  unfold bitF at this
  rw [e1, e2] at this
  exact this.symm
/-- what Apply has made of a header after i bits -/
def appF (h : Nat → Int) (k p t : Int) (i : Nat) : Nat → Int
  | 0 => mixI (h 0) p (min i 16)
  | 9 => if k = 0 then h 9 else mixI (h 9) t (i - 144)
  | j => h j
theorem app_zero {h : Nat → Int} {k p t : Int} (hr : RgH h) (hp : 0 ≤ p ∧ p ≤ 65535) (ht : 0 ≤ t ∧ t ≤ 65535) : appF h k p t 0 = h := by
  funext j
  unfold appF; split
  · exact mix_zero (hr 0 (by omega)) hp
  · split
    · rfl
    · exact mix_zero (hr 9 (by omega)) ht
  · rfl
theorem app_end (h : Nat → Int) (k p t : Int) : appF h k p t 160 = hdT h p (if k = 0 then h 9 else t) := by
  funext j
  unfold appF hdT; split
  · exact mix_end _ _
  · split
    · rfl
    · exact mix_end _ _
  · rfl
theorem app_rg {h : Nat → Int} {k p t : Int} (hr : RgH h) (hp : 0 ≤ p ∧ p ≤ 65535) (ht : 0 ≤ t ∧ t ≤ 65535) {i : Nat} (hi : i ≤ 160) : RgH (appF h k p t i) := fun j hj => by
  unfold appF; split
  · exact mix_bd (hr 0 (by omega)) hp (by omega)
  · split
    · exact hr 9 (by omega)
    · exact mix_bd (hr 9 (by omega)) ht (by omega)
  · exact hr _ hj
theorem app_yes {h : Nat → Int} {k p t : Int} (hk : k = 0 ∨ k = 65535) (hr : RgH h) (hp : 0 ≤ p ∧ p ≤ 65535) (ht : 0 ≤ t ∧ t ≤ 65535) {i : Nat} (hi : i < 160) (hm : bitF (hdM 65535 k) i = 1) :
    appF h k p t (i + 1) = setF (appF h k p t i) i (bitF (hdM p t) i) := by
  rw [mask_at hi] at hm
  unfold setF
  funext j
  by_cases h0 : i / 16 = 0
  · have e1 : min i 16 = i := by omega
    have e2 : min (i + 1) 16 = i + 1 := by omega
    have e3 : i % 16 = i := by omega
    have e4 : i - 144 = 0 := by omega
    have e5 : i + 1 - 144 = 0 := by omega
    unfold updH
    rw [h0, mask_at hi, if_pos h0, e3]
    have e6 : bitF (appF h k p t i) i = bitI (appF h k p t i 0) i := by unfold bitF; rw [h0, e3]
    rw [e6]
    split
    · rename_i hj; subst hj
      show mixI (h 0) p (min (i + 1) 16) = mixI (h 0) p (min i 16) + _ * _
      rw [e2, mix_step (hr 0 (by omega)) hp (by omega)]
      show _ = mixI (h 0) p (min i 16) + (_ - bitI (mixI (h 0) p (min i 16)) i) * _
      rw [e1]
    · rename_i hj
      unfold appF
      split
      · exact absurd rfl hj
      · rw [e4, e5]
      · rfl
  · rw [if_neg h0] at hm
    by_cases h9 : i / 16 = 9
    · rw [if_pos h9] at hm
      rcases hk with rfl | rfl
      · rw [bit_none] at hm; cases hm
      have e1 : min i 16 = 16 := by omega
      have e2 : min (i + 1) 16 = 16 := by omega
      have e3 : i + 1 - 144 = i - 144 + 1 := by omega
      have e4 : i % 16 = i - 144 := by omega
      unfold updH
      rw [h9, mask_at hi, if_neg h0, if_pos h9, e4]
      have e6 : bitF (appF h 65535 p t i) i = bitI (appF h 65535 p t i 9) (i - 144) := by unfold bitF; rw [h9, e4]
      rw [e6]
      split
      · rename_i hj; subst hj
        show (if (65535 : Int) = 0 then h 9 else mixI (h 9) t (i + 1 - 144)) = (if (65535 : Int) = 0 then h 9 else mixI (h 9) t (i - 144)) + (_ - bitI (if (65535 : Int) = 0 then h 9 else mixI (h 9) t (i - 144)) _) * _
        simp only [if_neg (show ¬ (65535 : Int) = 0 by decide)]
        rw [e3, mix_step (hr 9 (by omega)) ht (by omega)]
      · rename_i hj
        unfold appF
        split
        · rw [e1, e2]
        · exact absurd rfl hj
        · rfl
    · rw [if_neg h9] at hm; cases hm
theorem app_no {h : Nat → Int} {k p t : Int} (hk : k = 0 ∨ k = 65535) {i : Nat} (hi : i < 160) (hm : ¬ bitF (hdM 65535 k) i = 1) : appF h k p t (i + 1) = appF h k p t i := by
  rw [mask_at hi] at hm
  by_cases h0 : i / 16 = 0
  · rw [if_pos h0, bit_full (by omega)] at hm; exact absurd rfl hm
  · have e1 : min i 16 = 16 := by omega
    have e2 : min (i + 1) 16 = 16 := by omega
    rw [if_neg h0] at hm
    funext j
    unfold appF
    split
    · rw [e1, e2]
    · rcases hk with rfl | rfl
      · rw [if_pos rfl, if_pos rfl]
      · by_cases h9 : i / 16 = 9
        · rw [if_pos h9, bit_full (by omega)] at hm; exact absurd rfl hm
        · rw [show i + 1 - 144 = 0 by omega, show i - 144 = 0 by omega]
    · rfl
theorem hd_cellQ {w0 : World} {H : List (Nat × Obj)} {n : Nat} {h : Nat → Int} {t : TypeId} {i : Nat} (hi : i < 160) (hf : Fnd H n (Cl (encHd h) t)) : Cell w0 H ⟨n, 0 + ((i : Int) / 16).toNat * 1, none⟩ (.int .i64 (h (i / 16))) := by
  rw [show 0 + ((i : Int) / 16).toNat * 1 = i / 16 by omega]
  exact cell_get hf (hd_get (by omega))
theorem hd_cellI {w0 : World} {H : List (Nat × Obj)} {n : Nat} {h : Nat → Int} {t : TypeId} {i : Nat} (hi : i < 10) (hf : Fnd H n (Cl (encHd h) t)) : Cell w0 H ⟨n, 0 + (i : Int).toNat * 1, none⟩ (.int .i64 (h i)) := by
  rw [show 0 + (i : Int).toNat * 1 = i by omega]
  exact cell_get hf (hd_get (by omega))
theorem eff_sH {P : Program} {w0 : World} {L : Fm} {ty t T : TypeId} {x y : Operand} {H H' : List (Nat × Obj)} {b i : Nat} {h : Nat → Int} {v : Int} (hx : Ev L x (.pointer (some ⟨b, 0 + ((i : Int) / 16).toNat * 1, none⟩))) (hy : Ev L y (.int .i64 v)) (hz : ∀ w, (sizeOf t).run P w = .ok 1 w) (hi : i < 160)
    (hu : Upd H b (Cl (encHd h) T) (Cl (encHd (updH h (i / 16) v)) T) H') : Eff P w0 (.store t x y) ty L H (Still undef H') := by
  rw [show 0 + ((i : Int) / 16).toNat * 1 = i / 16 by omega] at hx
  exact eff_store1 hx hy rfl hz (hd_set v (by omega)) hu
abbrev modL (k p t : Int) : List Value := [mx, z0, z0, z0, z0, z0, z0, z0, z0, .int .i64 k, .int .i64 p, z0, z0, z0, z0, z0, z0, z0, z0, .int .i64 t]
theorem value_s {w0 : World} {H : List (Nat × Obj)} (i : Nat) (hi : i < 160) :
    FSpec Try.prog w0 90 #[.int .i64 (i : Int)] H (Still (.int .i64 ((2 ^ (15 - i % 16) : Nat) : Int)) H) := by
  refine fn_spec Try.func90 rfl Try.ntmps90 rfl (j_seq (j_region (y_ (yl_assign ev_c) (jl_nil (q_then (j_seq (j_region (y_ (yl_assign ev_c) (jl_nil (q_then (j_seq (j_seq (j_region (y_ (yl_assign ev_c) (jl_nil (q_then (j_block ?_))) rfl)))))) rfl))))) rfl)))
  refine j_loopH (X := Nat) (V := fun k => [(3, .int .i64 ((2 ^ (15 - k) : Nat) : Int)), (4, .int .i64 (k : Nat))]) (C := [(0, _)]) (φ := fun k => k ≤ i % 16) (μ := fun k => i % 16 - k) (x0 := 0) ?_ ⟨at_f rfl, trivial⟩ ⟨(by first | exact at_f rfl | (refine at_e (at_f rfl) (vint ?_); omega) | (refine at_e (at_f rfl) ?_; simp; done) | (refine at_e (at_f rfl) ?_; exact vint (pw_half (by omega)))), (by first | exact at_f rfl | (refine at_e (at_f rfl) (vint ?_); omega) | (refine at_e (at_f rfl) ?_; simp; done) | (refine at_e (at_f rfl) ?_; exact vint (pw_half (by omega)))), trivial⟩ ?_
  · exact Nat.zero_le _
  rintro k hk
  refine j_seq (j_seq (j_region (y_ (yl_move (T rfl)) (y_ (yl_move (T rfl)) (y_ (yl_rem (T rfl) ev_c (by omega)) ?_ rfl) rfl) rfl)))
  refine y_ (yl_lss (T rfl) (T rfl)) (jl_nil (q_then ?_)) rfl
  first | refine j_cond_d (at_f rfl) (fun c8 => ?_) (fun c8 => ?_) | refine j_cond (at_f rfl) (fun c8 => ?_) (fun c8 => ?_)
  · refine j_skip (q_then (j_seq (j_block (j_region (y_ (yl_move (T rfl)) (y_ (yl_quo (T rfl) ev_c (by have := pw_pos k; have := pw_le k; omega)) ?_ rfl) rfl)))))
    refine y_ (yl_assign (T rfl)) (jl_nil (q_block (q_then (j_region (y_ (yl_move (T rfl)) (y_ (yl_add (T rfl) ev_c (by omega)) ?_ rfl) rfl))))) rfl
    refine y_ (yl_assign (T rfl)) (jl_nil ?_) rfl
    refine q_loopC (k + 1) ?_ ?_ ⟨(by first | exact at_f rfl | (refine at_e (at_f rfl) (vint ?_); omega) | (refine at_e (at_f rfl) ?_; simp; done) | (refine at_e (at_f rfl) ?_; exact vint (pw_half (by omega)))), (by first | exact at_f rfl | (refine at_e (at_f rfl) (vint ?_); omega) | (refine at_e (at_f rfl) ?_; simp; done) | (refine at_e (at_f rfl) ?_; exact vint (pw_half (by omega)))), trivial⟩ ⟨at_f rfl, trivial⟩ ?_
    · show k + 1 ≤ _; omega
    · first | omega | (simp only []; omega)
    · exact sbt
  · refine j_exit (q_then_exit (q_loop_exit (q_block_hit (q_then (j_seq (j_region (y_ (yl_move (T rfl)) (y_ (yl_assign (T rfl)) (jl_nil (q_then (j_ret (q_ret rfl (.tmp (at_f rfl) .nil) ?_)))) rfl) rfl)))))))
    exact ⟨_, ⟨by rw [show i % 16 = k by omega]; rfl, rfl⟩, sbt⟩
theorem bit_s {w0 : World} {H : List (Nat × Obj)} (h : Nat → Int) (hr : RgH h) (i : Nat) (hi : i < 160) :
    FSpec Try.prog w0 75 #[.agg (encHd h).toArray, .int .i64 (i : Int)] H (Still (.int .i64 (bitF h i)) H) := by
  refine fn_spec Try.func75 rfl Try.ntmps75 rfl ?_
  have hri := hr (i / 16) (by omega)
  have hp := pw_pos (i % 16)
  refine j_seq (j_region (e_ (eff_box (T rfl) cs_) ?_ rfl))
  rintro _ _ ⟨n2, rfl, rfl⟩
  refine y_ (yl_assign ev_c) (jl_nil (q_then (j_seq (j_any 9 [(0, true), (1, true), (2, true), (3, true), (4, true), (5, true), (6, true), (7, true), (8, true)] _ mixd (by kernel_rfl) sb0 ?_)))) rfl
  refine o_y rfl (yl_move (T rfl)) (o_y rfl (yl_quo (T rfl) ev_c (by omega)) ?_ rfl gd_n) rfl gd_n
  refine o_y rfl (yl_ixA (T rfl) (T rfl) Try.runUnderlying45 Try.sizeOf3 (by omega)) ?_ rfl gd_n
  refine o_y rfl (yl_load (T rfl) Try.isAgg3 (by first | exact c_o | exact hd_cellQ (by omega) (by repeat (first | exact fnd_h | refine fnd_t ?_ | refine fnd_a ?_)))) ?_ rfl gd_n
  refine o_y rfl (yl_move (T rfl)) (o_y rfl (yl_call (.cons (T rfl) .nil) Try.call90 (fun H' hs => value_s i (by omega))) ?_ rfl gd_n) rfl gd_n
  refine o_y rfl (yl_quo (T rfl) (T rfl) ⟨hri.1, by omega, hp⟩) (o_y rfl (yl_rem (T rfl) ev_c ⟨Int.ediv_nonneg hri.1 (by omega), by decide⟩) ?_ rfl gd_n) rfl gd_n
  refine o_y rfl (yl_assign (T rfl)) (jo_nil rfl (jl_nil (q_then (j_ret (q_ret rfl (.tmp (at_f rfl) .nil) ?_))))) rfl gd_n
  exact ⟨_, ⟨rfl, rfl⟩, sbt⟩
theorem match_s {w0 : World} {H : List (Nat × Obj)} (t : Int) (ht : 0 ≤ t ∧ t ≤ 65535) (h : Nat → Int) (hr : RgH h) :
    FSpec Try.prog w0 56 #[.agg (patL t).toArray, .agg (encHd h).toArray] H (Still (.bool (decide (h 9 = t))) H) := by
  refine fn_spec Try.func56 rfl Try.ntmps56 rfl (j_seq (j_region (e_ (eff_box (T rfl) cs_) ?_ rfl)))
  rintro _ _ ⟨n2, rfl, rfl⟩
  refine e_ (eff_box (T rfl) cs_) ?_ rfl
  rintro _ _ ⟨n3, rfl, rfl⟩
  refine y_ (yl_assign ev_c) (jl_nil (q_then (j_seq (j_seq (j_region (y_ (yl_assign ev_c) (jl_nil (q_then (j_block ?_))) rfl)))))) rfl
  refine j_loopH (X := Nat) (V := fun i => [(5, .int .i64 (i : Nat))]) (C := [(2, _), (3, _)]) (φ := fun i => i ≤ 160 ∧ ∀ j, j < i → bitF (hdM 0 65535) j = 1 → bitF (hdM 0 t) j = bitF h j) (μ := fun i => 160 - i) (x0 := 0) ?_ ⟨at_f rfl, at_f rfl, trivial⟩ ⟨(by first | exact at_f rfl | (refine at_e (at_f rfl) (vint ?_); omega) | (refine at_e (at_f rfl) ?_; simp; done)), trivial⟩ ?_
  · exact ⟨Nat.zero_le _, fun j hj => by omega⟩
  rintro i ⟨hi, hall⟩
  refine j_seq (j_seq (j_region (y_ (yl_move (T rfl)) (y_ (yl_lss (T rfl) ev_c) (jl_nil (q_then ?_)) rfl) rfl)))
  first | refine j_cond_d (at_f rfl) (fun c7 => ?_) (fun c7 => ?_) | refine j_cond (at_f rfl) (fun c7 => ?_) (fun c7 => ?_)
  · refine j_skip (q_then (j_seq (j_block (j_seq (j_any 15 [(0, true), (1, true), (2, true), (3, true), (4, true), (5, true), (6, true), (7, true), (8, true), (9, true), (10, true), (11, true), (12, true), (13, true), (14, true)] _ mixd (by kernel_rfl) sb0 ?_)))))
    refine o_y rfl (yl_fa0 (T rfl) fa53_0) ?_ rfl gd_n
    refine o_y rfl (yl_loadA (T rfl) Try.isAgg45 Try.sizeOf45 rfl (by first | exact cs_part (k := 10) (by repeat (first | exact fnd_h | refine fnd_t ?_ | refine fnd_a ?_)) | exact cs_o)) ?_ rfl gd_n
    refine o_y rfl (yl_move (T rfl)) (o_y rfl (yl_call (.cons (T rfl) (.cons (T rfl) .nil)) Try.call75 (fun H' hs => bit_s (hdM 0 65535) (rg_M (by decide) (by decide)) i (by omega))) ?_ rfl gd_n) rfl gd_n
    refine o_y rfl (yl_eql (T rfl) ev_c) (o_y rfl (yl_move (T rfl)) ?_ rfl gd_n) rfl gd_n
    first | refine o_if_d (s := 15) (at_f rfl) (fun c15 => ?_) (fun c15 => ?_) | refine o_if (s := 15) (at_f rfl) (fun c15 => ?_) (fun c15 => ?_)
    · refine o_y rfl (yl_fa (T rfl) fa53_1) ?_ rfl (gd_y rfl rfl (at_f rfl))
      refine o_y rfl (yl_loadA (T rfl) Try.isAgg45 Try.sizeOf45 rfl (by first | exact cs_part (k := 10) (by repeat (first | exact fnd_h | refine fnd_t ?_ | refine fnd_a ?_)) | exact cs_o)) ?_ rfl (gd_y rfl rfl (at_f rfl))
      refine o_y rfl (yl_move (T rfl)) (o_y rfl (yl_call (.cons (T rfl) (.cons (T rfl) .nil)) Try.call75 (fun H' hs => bit_s (hdM 0 t) (rg_M (by decide) ht) i (by omega))) ?_ rfl (gd_y rfl rfl (at_f rfl))) rfl (gd_y rfl rfl (at_f rfl))
      refine o_y rfl (yl_loadA (T rfl) Try.isAgg45 Try.sizeOf45 rfl (by first | exact cs_o)) ?_ rfl (gd_y rfl rfl (at_f rfl))
      refine o_y rfl (yl_move (T rfl)) (o_y rfl (yl_call (.cons (T rfl) (.cons (T rfl) .nil)) Try.call75 (fun H' hs => bit_s h hr i (by omega))) ?_ rfl (gd_y rfl rfl (at_f rfl))) rfl (gd_y rfl rfl (at_f rfl))
      refine o_y rfl (yl_neq (T rfl) (T rfl)) (o_y rfl (yl_pick_t (T rfl) (T rfl)) (jo_nil rfl (jl_nil (q_then ?_))) rfl gd_n) rfl (gd_y rfl rfl (at_f rfl))
      first | refine j_cond_d (at_f rfl) (fun c24 => ?_) (fun c24 => ?_) | refine j_cond (at_f rfl) (fun c24 => ?_) (fun c24 => ?_)
      · refine j_seq (j_region (y_ (yl_assign ev_c) (jl_nil (q_then (j_ret (q_block_ret (q_then_ret (q_loop_ret (q_block_ret (q_then_ret (q_ret rfl (.tmp (at_f rfl) .nil) ?_))))))))) rfl))
        first | exact ⟨_, ⟨vbool (by symm; exact decide_eq_false fun e => c24 (match_no e (by omega) c15)), rfl⟩, sbt⟩ | exact ⟨_, ⟨vbool (by symm; exact decide_eq_true (match_yes hr ht fun j hj hm => hall j (by omega) hm)), rfl⟩, sbt⟩
      · refine j_skip (q_block (q_then (j_region (y_ (yl_move (T rfl)) (y_ (yl_add (T rfl) ev_c (by omega)) ?_ rfl) rfl))))
        refine y_ (yl_assign (T rfl)) (jl_nil ?_) rfl
        refine q_loopC (i + 1) ?_ ?_ ⟨(by first | exact at_f rfl | (refine at_e (at_f rfl) (vint ?_); omega) | (refine at_e (at_f rfl) ?_; simp; done)), trivial⟩ ⟨at_f rfl, at_f rfl, trivial⟩ ?_
        · refine ⟨by omega, fun j hj hm => ?_⟩
          by_cases e : j = i
          · subst e; first | exact Classical.not_not.1 c24 | exact absurd hm c15
          · exact hall j (by omega) hm
        · first | omega | (simp only []; omega)
        · exact sbt
    · refine o_n rfl (o_n rfl (o_n rfl (o_n rfl (o_n rfl (o_n rfl (o_n rfl (o_n rfl (o_y rfl (yl_pick_f (T rfl) ev_c) (jo_nil rfl (jl_nil (q_then (j_cond_f (at_f rfl) (j_skip (q_block (q_then (j_region (y_ (yl_move (T rfl)) (y_ (yl_add (T rfl) ev_c (by omega)) ?_ rfl) rfl))))))))) rfl gd_n) rfl (nw_ft rfl rfl (at_f rfl))) rfl (nw_ft rfl rfl (at_f rfl))) rfl (nw_ft rfl rfl (at_f rfl))) rfl (nw_ft rfl rfl (at_f rfl))) rfl (nw_ft rfl rfl (at_f rfl))) rfl (nw_ft rfl rfl (at_f rfl))) rfl (nw_ft rfl rfl (at_f rfl))) rfl (nw_ft rfl rfl (at_f rfl))
      refine y_ (yl_assign (T rfl)) (jl_nil ?_) rfl
      refine q_loopC (i + 1) ?_ ?_ ⟨(by first | exact at_f rfl | (refine at_e (at_f rfl) (vint ?_); omega) | (refine at_e (at_f rfl) ?_; simp; done)), trivial⟩ ⟨at_f rfl, at_f rfl, trivial⟩ ?_
      · refine ⟨by omega, fun j hj hm => ?_⟩
        by_cases e : j = i
        · subst e; first | exact Classical.not_not.1 c24 | exact absurd hm c15
        · exact hall j (by omega) hm
      · first | omega | (simp only []; omega)
      · exact sbt
  · refine j_exit (q_then_exit (q_loop_exit (q_block_hit (q_then (j_seq (j_region (y_ (yl_assign ev_c) (jl_nil (q_then (j_ret (q_ret rfl (.tmp (at_f rfl) .nil) ?_)))) rfl)))))))
    first | exact ⟨_, ⟨vbool (by symm; exact decide_eq_false fun e => c24 (match_no e (by omega) c15)), rfl⟩, sbt⟩ | exact ⟨_, ⟨vbool (by symm; exact decide_eq_true (match_yes hr ht fun j hj hm => hall j (by omega) hm)), rfl⟩, sbt⟩
theorem set_s {w0 : World} {H : List (Nat × Obj)} (h : Nat → Int) (hr : RgH h) (i : Nat) (hi : i < 160) (v : Int) (hv : v = 0 ∨ v = 1) :
    FSpec Try.prog w0 76 #[.agg (encHd h).toArray, .int .i64 (i : Int), .int .i64 v] H (Still (.agg (encHd (setF h i v)).toArray) H) := by
  refine fn_spec Try.func76 rfl Try.ntmps76 rfl ?_
  have hri := hr (i / 16) (by omega)
  have hb : bitF h i = 0 ∨ bitF h i = 1 := bit_two _ _
  have hmb := mul_bd hv hb ⟨pw_pos (i % 16), pw_le (i % 16)⟩
  refine j_seq (j_region (e_ (eff_box (T rfl) cs_) ?_ rfl))
  rintro _ _ ⟨n3, rfl, rfl⟩
  refine e_ (eff_alloc Try.zeroValue45 cs_) ?_ rfl
  rintro _ _ ⟨n6, rfl, rfl⟩
  refine jl_nil (q_then (j_seq (j_any 16 [(0, true), (1, true), (2, true), (3, true), (4, true), (5, true), (6, true), (7, true), (8, true), (9, true), (10, true), (11, true), (12, true), (13, true), (14, true), (15, true)] _ mixd (by kernel_rfl) sb0 ?_)))
  refine o_y rfl (yl_move (T rfl)) (o_y rfl (yl_quo (T rfl) ev_c (by omega)) ?_ rfl gd_n) rfl gd_n
  refine o_y rfl (yl_move (T rfl)) (o_y rfl (yl_quo (T rfl) ev_c (by omega)) ?_ rfl gd_n) rfl gd_n
  refine o_y rfl (yl_ixA (T rfl) (T rfl) Try.runUnderlying45 Try.sizeOf3 (by omega)) ?_ rfl gd_n
  refine o_y rfl (yl_load (T rfl) Try.isAgg3 (by first | exact c_o | exact hd_cellQ (by omega) (by repeat (first | exact fnd_h | refine fnd_t ?_ | refine fnd_a ?_)))) ?_ rfl gd_n
  refine o_y rfl (yl_move (T rfl)) ?_ rfl gd_n
  refine o_y rfl (yl_loadA (T rfl) Try.isAgg45 Try.sizeOf45 rfl (by first | exact cs_o | exact hd_cellQ (by omega) (by repeat (first | exact fnd_h | refine fnd_t ?_ | refine fnd_a ?_)))) ?_ rfl gd_n
  refine o_y rfl (yl_move (T rfl)) (o_y rfl (yl_call (.cons (T rfl) (.cons (T rfl) .nil)) Try.call75 (fun H' hs => bit_s h hr i (by omega))) ?_ rfl gd_n) rfl gd_n
  refine o_y rfl (yl_sub (T rfl) (T rfl) (by omega)) ?_ rfl gd_n
  refine o_y rfl (yl_move (T rfl)) (o_y rfl (yl_call (.cons (T rfl) .nil) Try.call90 (fun H' hs => value_s i (by omega))) ?_ rfl gd_n) rfl gd_n
  refine o_y rfl (yl_mul (T rfl) (T rfl) (by omega)) ?_ rfl gd_n
  refine o_y rfl (yl_add (T rfl) (T rfl) (by omega)) ?_ rfl gd_n
  refine o_y rfl (yl_ixA (T rfl) (T rfl) Try.runUnderlying45 Try.sizeOf3 (by omega)) ?_ rfl gd_n
  refine jo_nil rfl (e_ (eff_sH (h := h) (T rfl) (T rfl) Try.sizeOf3 (by omega) (by (repeat (first | exact Upd.h | apply Upd.t | apply upd_a)); done)) ?_ rfl)
  rintro _ _ ⟨rfl, rfl⟩
  refine jl_nil (q_then (j_seq (j_region ?_)))
  refine y_ (yl_loadA (T rfl) Try.isAgg45 Try.sizeOf45 rfl (by first | exact cs_o | exact hd_cellQ (by omega) (by repeat (first | exact fnd_h | refine fnd_t ?_ | refine fnd_a ?_)))) ?_ rfl
  first | refine jl_e (eff_sW (T rfl) (T rfl) Try.sizeOf45) rfl gd_n ?_
  rintro _ _ ⟨rfl, rfl⟩
  refine jl_nil (q_then (j_ret ?_))
  refine q_ret rfl (.cellA (at_f rfl) Try.isAgg45 Try.sizeOf45 rfl (by first | exact cs_o | exact hd_cellQ (by omega) (by repeat (first | exact fnd_h | refine fnd_t ?_ | refine fnd_a ?_))) .nil) ?_
  exact ⟨_, ⟨rfl, rfl⟩, sbt⟩
theorem apply_s {w0 : World} {H : List (Nat × Obj)} (k p t : Int) (hk : k = 0 ∨ k = 65535) (hp : 0 ≤ p ∧ p ≤ 65535) (ht : 0 ≤ t ∧ t ≤ 65535) (h : Nat → Int) (hr : RgH h) :
    FSpec Try.prog w0 58 #[.agg (modL k p t).toArray, .agg (encHd h).toArray] H (Still (.agg (encHd (hdT h p (if k = 0 then h 9 else t))).toArray) H) := by
  refine fn_spec Try.func58 rfl Try.ntmps58 rfl ?_
  have hk2 : 0 ≤ k ∧ k ≤ 65535 := by omega
  refine j_seq (j_region (e_ (eff_box (T rfl) cs_) ?_ rfl))
  rintro _ _ ⟨n2, rfl, rfl⟩
  refine e_ (eff_box (T rfl) cs_) ?_ rfl
  rintro _ _ ⟨n3, rfl, rfl⟩
  refine e_ (eff_alloc Try.zeroValue45 cs_) ?_ rfl
  rintro _ _ ⟨n4, rfl, rfl⟩
  refine jl_nil (q_then (j_seq (j_seq (j_region (y_ (yl_assign ev_c) (jl_nil (q_then (j_block ?_))) rfl)))))
  refine j_loopC (X := Nat) (V := fun i => [(5, .int .i64 (i : Nat))]) (C := [(2, _), (3, _), (4, _)]) (G := fun i => (n4, Cl [z0, z0, z0, z0, z0, z0, z0, z0, z0, z0] 45) :: (n3, Cl (encHd (appF h k p t i)) 45) :: (n2, Cl (modL k p t) 65) :: H) (φ := fun i => i ≤ 160) (μ := fun i => 160 - i) (x0 := 0) ?_ ⟨at_f rfl, at_f rfl, at_f rfl, trivial⟩ ⟨(by first | exact at_f rfl | (refine at_e (at_f rfl) (vint ?_); omega) | (refine at_e (at_f rfl) ?_; simp; done)), trivial⟩ (by simp only [app_zero hr hp ht]; exact sb0) ?_
  · exact Nat.zero_le _
  rintro i hi
  refine j_seq (j_seq (j_region (y_ (yl_move (T rfl)) (y_ (yl_lss (T rfl) ev_c) (jl_nil (q_then ?_)) rfl) rfl)))
  first | refine j_cond_d (at_f rfl) (fun c7 => ?_) (fun c7 => ?_) | refine j_cond (at_f rfl) (fun c7 => ?_) (fun c7 => ?_)
  · refine j_skip (q_then (j_seq (j_block (j_seq (j_region (y_ (yl_fa0 (T rfl) fa65_0) ?_ rfl))))))
    refine y_ (yl_loadA (T rfl) Try.isAgg45 Try.sizeOf45 rfl (by first | exact cs_part (k := 10) (by repeat (first | exact fnd_h | refine fnd_t ?_ | refine fnd_a ?_)) | exact cs_o)) ?_ rfl
    refine y_ (yl_move (T rfl)) (y_ (yl_call (.cons (T rfl) (.cons (T rfl) .nil)) Try.call75 (fun H' hs => bit_s (hdM 65535 k) (rg_M (by decide) hk2) i (by omega))) ?_ rfl) rfl
    refine y_ (yl_eql (T rfl) ev_c) (jl_nil (q_then ?_)) rfl
    first | refine j_cond_d (at_f rfl) (fun c14 => ?_) (fun c14 => ?_) | refine j_cond (at_f rfl) (fun c14 => ?_) (fun c14 => ?_)
    · refine j_any 7 [(0, true), (1, true), (2, true), (3, true), (4, true), (5, true), (6, true)] _ mixd (by kernel_rfl) sb0 ?_
      refine o_y rfl (yl_loadA (T rfl) Try.isAgg45 Try.sizeOf45 rfl (by first | exact cs_o)) ?_ rfl gd_n
      refine o_y rfl (yl_move (T rfl)) (o_y rfl (yl_fa (T rfl) fa65_1) ?_ rfl gd_n) rfl gd_n
      refine o_y rfl (yl_loadA (T rfl) Try.isAgg45 Try.sizeOf45 rfl (by first | exact cs_part (k := 10) (by repeat (first | exact fnd_h | refine fnd_t ?_ | refine fnd_a ?_)) | exact cs_o)) ?_ rfl gd_n
      refine o_y rfl (yl_move (T rfl)) (o_y rfl (yl_call (.cons (T rfl) (.cons (T rfl) .nil)) Try.call75 (fun H' hs => bit_s (hdM p t) (rg_M hp ht) i (by omega))) ?_ rfl gd_n) rfl gd_n
      refine o_y rfl (yl_call (.cons (T rfl) (.cons (T rfl) (.cons (T rfl) .nil))) Try.call76 (fun H' hs => set_s (appF h k p t i) (app_rg hr hp ht (by omega)) i (by omega) _ (bit_two _ _))) ?_ rfl gd_n
      refine jo_nil rfl ?_
      first | refine jl_e (eff_sW (T rfl) (T rfl) Try.sizeOf45) rfl gd_n ?_
      rintro _ _ ⟨rfl, rfl⟩
      refine jl_nil (q_block (q_then (j_region (y_ (yl_move (T rfl)) (y_ (yl_add (T rfl) ev_c (by omega)) ?_ rfl) rfl))))
      refine y_ (yl_assign (T rfl)) (jl_nil ?_) rfl
      refine q_loopC (i + 1) ?_ ?_ ⟨(by first | exact at_f rfl | (refine at_e (at_f rfl) (vint ?_); omega) | (refine at_e (at_f rfl) ?_; simp; done)), trivial⟩ ⟨at_f rfl, at_f rfl, at_f rfl, trivial⟩ ?_
      · show i + 1 ≤ _; omega
      · first | omega | (simp only []; omega)
      · first | (simp only [app_yes hk hr hp ht (show i < 160 by omega) c14]; exact sbt) | (simp only [app_no hk (show i < 160 by omega) c14]; exact sbt)
    · refine j_skip (q_block (q_then (j_region (y_ (yl_move (T rfl)) (y_ (yl_add (T rfl) ev_c (by omega)) ?_ rfl) rfl))))
      refine y_ (yl_assign (T rfl)) (jl_nil ?_) rfl
      refine q_loopC (i + 1) ?_ ?_ ⟨(by first | exact at_f rfl | (refine at_e (at_f rfl) (vint ?_); omega) | (refine at_e (at_f rfl) ?_; simp; done)), trivial⟩ ⟨at_f rfl, at_f rfl, at_f rfl, trivial⟩ ?_
      · show i + 1 ≤ _; omega
      · first | omega | (simp only []; omega)
      · first | (simp only [app_yes hk hr hp ht (show i < 160 by omega) c14]; exact sbt) | (simp only [app_no hk (show i < 160 by omega) c14]; exact sbt)
  · refine j_exit (q_then_exit (q_loop_exit (q_block_hit (q_then (j_seq (j_region (y_ (yl_loadA (T rfl) Try.isAgg45 Try.sizeOf45 rfl (by first | exact cs_o)) ?_ rfl)))))))
    first | refine jl_e (eff_sW (T rfl) (T rfl) Try.sizeOf45) rfl gd_n ?_
    rintro _ _ ⟨rfl, rfl⟩
    refine jl_nil (q_then (j_ret (q_ret rfl (.cellA (at_f rfl) Try.isAgg45 Try.sizeOf45 rfl (by first | exact cs_o) .nil) ?_)))
    exact ⟨_, ⟨by rw [show i = 160 by omega, app_end]; rfl, rfl⟩, sbt⟩
theorem bd60_1 (a0 : Int) (w : World) : (Instr.build 60 #[(1, .int .i64 a0)]).run Try.prog w = .ok (.agg #[.slice none 0 0, .int .i64 a0]) w := by kernel_rfl
theorem bs57_1_0 (a0 : Int) (a1 : Int) (a2 : Int) (a3 : Int) (a4 : Int) (a5 : Int) (a6 : Int) (a7 : Int) (a8 : Int) (a9 : Int) (w : World) : (Instr.buildSlice 57 1 #[(0, .agg #[.int .i64 a0, .int .i64 a1, .int .i64 a2, .int .i64 a3, .int .i64 a4, .int .i64 a5, .int .i64 a6, .int .i64 a7, .int .i64 a8, .int .i64 a9])]).run Try.prog w = .ok (.slice (some ⟨w.heap.size, 0, none⟩) 1 1) (w.alloc (Cl [.int .i64 a0, .int .i64 a1, .int .i64 a2, .int .i64 a3, .int .i64 a4, .int .i64 a5, .int .i64 a6, .int .i64 a7, .int .i64 a8, .int .i64 a9] 45)) := by kernel_rfl
theorem fa60_0 (b o : Nat) (w : World) : (Instr.fieldAt 60 (.pointer (some ⟨b, o, none⟩)) 0).run Try.prog w = .ok (.pointer (some ⟨b, o, none⟩)) w := by kernel_rfl
theorem fa60_1 (b o : Nat) (w : World) : (Instr.fieldAt 60 (.pointer (some ⟨b, o, none⟩)) 1).run Try.prog w = .ok (.pointer (some ⟨b, o + 1, none⟩)) w := by kernel_rfl
theorem fa67_0 (b o : Nat) (w : World) : (Instr.fieldAt 67 (.pointer (some ⟨b, o, none⟩)) 0).run Try.prog w = .ok (.pointer (some ⟨b, o, none⟩)) w := by kernel_rfl
theorem Cells.part {w0 : World} {H : List (Nat × Obj)} {b o k m : Nat} {vs : List Value} (h : Cells w0 H b o vs) : Cells w0 H b (o + k) ((vs.drop k).take m) := fun i v hi => by
  rw [List.getElem?_take] at hi
  split at hi
  · rw [List.getElem?_drop] at hi; rw [Nat.add_assoc]; exact h _ v hi
  · cases hi
abbrev noneL : List Value := [.slice none 0 0, .int .i64 (-1)]
theorem rightHead_s {w0 : World} {H : List (Nat × Obj)} (h : Nat → Int) :
    FSpec Try.prog w0 21 #[.agg (encHd h).toArray] H (fun v H' => (∃ t : Bool, v = .bool t ∧ (t = true → RgH h)) ∧ H' = H) := by
  refine fn_spec Try.func21 rfl Try.ntmps21 rfl (j_seq (j_region (e_ (eff_box (T rfl) cs_) ?_ rfl)))
  rintro _ _ ⟨n1, rfl, rfl⟩
  refine y_ (yl_assign ev_c) (jl_nil (q_then (j_seq (j_seq (j_region (y_ (yl_assign ev_c) (jl_nil (q_then (j_block ?_))) rfl)))))) rfl
  refine j_loopH (X := Nat) (V := fun i => [(3, .int .i64 (i : Nat))]) (C := [(1, _)]) (φ := fun i => i ≤ 10 ∧ ∀ j, j < i → 0 ≤ h j ∧ h j ≤ 65535) (μ := fun i => 10 - i) (x0 := 0) ?_ ⟨at_f rfl, trivial⟩ ⟨(by first | exact at_f rfl | (refine at_e (at_f rfl) (vint ?_); omega) | (refine at_e (at_f rfl) ?_; simp; done)), trivial⟩ ?_
  · exact ⟨Nat.zero_le _, fun j hj => by omega⟩
  rintro i ⟨hi, hall⟩
  refine j_seq (j_seq (j_region (y_ (yl_move (T rfl)) (y_ (yl_lss (T rfl) ev_c) (jl_nil (q_then ?_)) rfl) rfl)))
  first | refine j_cond_d (at_f rfl) (fun c5 => ?_) (fun c5 => ?_) | refine j_cond (at_f rfl) (fun c5 => ?_) (fun c5 => ?_)
  · refine j_skip (q_then (j_seq (j_block (j_seq (j_region (y_ (yl_move (T rfl)) (y_ (yl_ixA (T rfl) (T rfl) Try.runUnderlying45 Try.sizeOf3 (by omega)) ?_ rfl) rfl))))))
    refine y_ (yl_load (T rfl) Try.isAgg3 (by first | exact c_o | exact hd_cellI (by omega) (by repeat (first | exact fnd_h | refine fnd_t ?_ | refine fnd_a ?_)))) ?_ rfl
    refine y_ (yl_lss (T rfl) ev_c) (y_ (yl_move (T rfl)) ?_ rfl) rfl
    first | refine jl_if_d (s := 12) (at_f rfl) (fun c12 => ?_) (fun c12 => ?_) | refine jl_if (s := 12) (at_f rfl) (fun c12 => ?_) (fun c12 => ?_)
    · refine n_tf (n_tf (n_tf (n_tf (y_ (yl_pick_t (T rfl) ev_c) (jl_nil (q_then (j_cond_t (at_f rfl) (j_seq (j_region (y_ (yl_assign ev_c) (jl_nil (q_then (j_ret (q_block_ret (q_then_ret (q_loop_ret (q_block_ret (q_then_ret (q_ret rfl (.tmp (at_f rfl) .nil) ?_))))))))) rfl)))))) rfl) rfl rfl rfl rfl) rfl rfl rfl rfl) rfl rfl rfl rfl) rfl rfl rfl rfl
      exact ⟨_, ⟨⟨_, rfl, fun hb => absurd hb (by decide)⟩, rfl⟩, sbt⟩
    · refine jl_y (yl_move (T rfl)) rfl (gd_y rfl rfl (at_f rfl)) (jl_y (yl_ixA (T rfl) (T rfl) Try.runUnderlying45 Try.sizeOf3 (by omega)) rfl (gd_y rfl rfl (at_f rfl)) ?_)
      refine jl_y (yl_load (T rfl) Try.isAgg3 (by first | exact c_o | exact hd_cellI (by omega) (by repeat (first | exact fnd_h | refine fnd_t ?_ | refine fnd_a ?_)))) rfl (gd_y rfl rfl (at_f rfl)) ?_
      refine jl_y (yl_gtr (T rfl) ev_c) rfl (gd_y rfl rfl (at_f rfl)) (y_ (yl_pick_f (T rfl) (T rfl)) (jl_nil (q_then ?_)) rfl)
      first | refine j_cond_d (at_f rfl) (fun c17 => ?_) (fun c17 => ?_) | refine j_cond (at_f rfl) (fun c17 => ?_) (fun c17 => ?_)
      · refine j_seq (j_region (y_ (yl_assign ev_c) (jl_nil (q_then (j_ret (q_block_ret (q_then_ret (q_loop_ret (q_block_ret (q_then_ret (q_ret rfl (.tmp (at_f rfl) .nil) ?_))))))))) rfl))
        exact ⟨_, ⟨⟨_, rfl, fun hb => absurd hb (by decide)⟩, rfl⟩, sbt⟩
      · refine j_skip (q_block (q_then (j_region (y_ (yl_move (T rfl)) (y_ (yl_add (T rfl) ev_c (by omega)) ?_ rfl) rfl))))
        refine y_ (yl_assign (T rfl)) (jl_nil ?_) rfl
        refine q_loopC (i + 1) ?_ ?_ ⟨(by first | exact at_f rfl | (refine at_e (at_f rfl) (vint ?_); omega) | (refine at_e (at_f rfl) ?_; simp; done)), trivial⟩ ⟨at_f rfl, trivial⟩ ?_
        · refine ⟨by omega, fun j hj => ?_⟩
          by_cases e : j = i
          · subst e; omega
          · exact hall j (by omega)
        · first | omega | (simp only []; omega)
        · exact sbt
  · refine j_exit (q_then_exit (q_loop_exit (q_block_hit (q_then (j_seq (j_region (y_ (yl_assign ev_c) (jl_nil (q_then (j_ret (q_ret rfl (.tmp (at_f rfl) .nil) ?_)))) rfl)))))))
    exact ⟨_, ⟨⟨_, rfl, fun _ j hj => hall j (by omega)⟩, rfl⟩, sbt⟩
theorem lookup_s {w0 : World} {H : List (Nat × Obj)} (t : Tb) (hm : TbM w0 H t) (htl : t.rs.length ≤ 100000) (htg : ∀ m ∈ t.rs, 0 ≤ m.r.tag ∧ m.r.tag ≤ 65535) (h : Nat → Int) (hr : RgH h) (hex : ∃ m ∈ t.rs, h 9 = m.r.tag) :
    FSpec Try.prog w0 22 #[tbV t, .agg (encHd h).toArray] H (fun v H' => (∃ k : Nat, v = .int .i64 (k : Int) ∧ k < t.rs.length ∧ h 9 = (gd t.rs k).r.tag) ∧ H' = H) := by
  refine fn_spec Try.func22 rfl Try.ntmps22 rfl (j_seq (j_region (e_ (eff_box (T rfl) cs_) ?_ rfl)))
  rintro _ _ ⟨n3, rfl, rfl⟩
  refine y_ (yl_assign ev_c) (jl_nil (q_then (j_seq (j_seq (j_region (y_ (yl_assign ev_c) (jl_nil (q_then (j_block ?_))) rfl)))))) rfl
  refine j_loopH (X := Nat) (V := fun i => [(5, .int .i64 (i : Nat))]) (C := [(0, _), (3, _)]) (φ := fun i => i ≤ t.rs.length ∧ ∀ j, j < i → ¬ h 9 = (gd t.rs j).r.tag) (μ := fun i => t.rs.length - i) (x0 := 0) ?_ ⟨at_f rfl, at_f rfl, trivial⟩ ⟨(by first | exact at_f rfl | (refine at_e (at_f rfl) (vint ?_); omega) | (refine at_e (at_f rfl) ?_; simp; done)), trivial⟩ ?_
  · exact ⟨Nat.zero_le _, fun j hj => by omega⟩
  rintro i ⟨hi, hall⟩
  refine j_seq (j_seq (j_region (y_ (yl_move (T rfl)) (y_ (yl_move (T rfl)) (y_ (yl_len (T rfl) Try.runUnderlying51) (y_ (yl_lss (T rfl) (T rfl)) (jl_nil (q_then ?_)) rfl) rfl) rfl) rfl)))
  first | refine j_cond_d (at_f rfl) (fun c10 => ?_) (fun c10 => ?_) | refine j_cond (at_f rfl) (fun c10 => ?_) (fun c10 => ?_)
  · refine j_skip (q_then (j_seq (j_block (j_seq (j_any 8 [(0, true), (1, true), (2, true), (3, true), (4, true), (5, true), (6, true), (7, true)] _ mixd (by kernel_rfl) sb0 ?_)))))
    refine o_y rfl (yl_move (T rfl)) (o_y rfl (yl_move (T rfl)) (o_y rfl (yl_ixQ (T rfl) (T rfl) Try.runUnderlying51 Try.sizeOf56 (by omega) (by first | exact rfl | exact hm.arr.b (i := i) (by omega))) ?_ rfl gd_n) rfl gd_n) rfl gd_n
    refine o_y rfl (yl_fa (T rfl) fa56_1) (o_y rfl (yl_loadA (T rfl) Try.isAgg53 Try.sizeOf53 rfl (by first | exact cs_m ((hm.arr.cs (i := i) (by omega)).part (k := 1) (m := 20)) | exact cs_o)) ?_ rfl gd_n) rfl gd_n
    refine o_y rfl (yl_loadA (T rfl) Try.isAgg45 Try.sizeOf45 rfl (by first | exact cs_o)) ?_ rfl gd_n
    refine o_y rfl (yl_call (.cons (T rfl) (.cons (T rfl) .nil)) Try.call56 (fun H' hs => match_s (gd t.rs i).r.tag (htg _ (gd_mem (by omega))) h hr)) ?_ rfl gd_n
    refine o_y rfl (yl_assign (T rfl)) (jo_nil rfl (jl_nil (q_then (j_seq (j_region (y_ (yl_move (T rfl)) (jl_nil (q_then ?_)) rfl)))))) rfl gd_n
    first | refine j_cond_d (at_f rfl) (fun c20 => ?_) (fun c20 => ?_) | refine j_cond (at_f rfl) (fun c20 => ?_) (fun c20 => ?_)
    · refine j_seq (j_region (y_ (yl_move (T rfl)) (y_ (yl_assign (T rfl)) (jl_nil (q_then (j_ret (q_block_ret (q_then_ret (q_loop_ret (q_block_ret (q_then_ret (q_ret rfl (.tmp (at_f rfl) .nil) ?_))))))))) rfl) rfl))
      exact ⟨_, ⟨⟨i, rfl, by omega, c20⟩, rfl⟩, sbt⟩
    · refine j_skip (q_block (q_then (j_region (y_ (yl_move (T rfl)) (y_ (yl_add (T rfl) ev_c (by omega)) ?_ rfl) rfl))))
      refine y_ (yl_assign (T rfl)) (jl_nil ?_) rfl
      refine q_loopC (i + 1) ?_ ?_ ⟨(by first | exact at_f rfl | (refine at_e (at_f rfl) (vint ?_); omega) | (refine at_e (at_f rfl) ?_; simp; done)), trivial⟩ ⟨at_f rfl, at_f rfl, trivial⟩ ?_
      · refine ⟨by omega, fun j hj => ?_⟩
        by_cases e : j = i
        · subst e; exact c20
        · exact hall j (by omega)
      · first | omega | (simp only []; omega)
      · exact sbt
  · refine j_exit (q_then_exit (q_loop_exit (q_block_hit (q_then (j_seq (j_region (y_ (yl_assign ev_c) (jl_nil (q_then (j_ret (q_ret rfl (.tmp (at_f rfl) .nil) ?_)))) rfl)))))))
    exfalso
    obtain ⟨m, hmm, he⟩ := hex
    obtain ⟨j, hj, rfl⟩ := List.getElem_of_mem hmm
    rw [← gd_getElem hj] at he
    exact hall j (by omega) he
theorem none_s {w0 : World} {H : List (Nat × Obj)}  :
    FSpec Try.prog w0 24 #[] H (Still (.agg noneL.toArray) H) := by
  refine fn_spec Try.func24 rfl Try.ntmps24 rfl (j_seq (j_region (e_ (eff_alloc Try.zeroValue60 cs_) ?_ rfl)))
  rintro _ _ ⟨n0, rfl, rfl⟩
  refine jl_nil (q_then (j_seq (j_region (y_ (yl_build (.cons ev_c .nil) (bd60_1 _)) ?_ rfl))))
  first | refine jl_e (eff_sW (T rfl) (T rfl) Try.sizeOf60) rfl gd_n ?_
  rintro _ _ ⟨rfl, rfl⟩
  refine jl_nil (q_then (j_ret (q_ret rfl (.cellA (at_f rfl) Try.isAgg60 Try.sizeOf60 rfl (by first | exact cs_o) .nil) ?_)))
  exact ⟨_, ⟨rfl, rfl⟩, sbt⟩
theorem up_s {w0 : World} {H : List (Nat × Obj)} (n : Nm) (hn : NetM w0 H n) (hok : NetOk n) (l : Int) (h0 : 0 ≤ l) (h1 : l < n.links.length) :
    FSpec Try.prog w0 57 #[.agg (encNm n).toArray, .agg noneL.toArray, .int .i64 l] H (Still (.bool true) H) := by
  refine fn_spec Try.func57 rfl Try.ntmps57 rfl ?_
  have hli := hok.links l.toNat (by omega)
  have hl0 := hli.s0
  have hl1 := hli.d0
  have hll := hn.ll
  refine j_seq (j_region (e_ (eff_box (T rfl) cs_) ?_ rfl))
  rintro _ _ ⟨n3, rfl, rfl⟩
  refine e_ (eff_box (T rfl) cs_) ?_ rfl
  rintro _ _ ⟨n4, rfl, rfl⟩
  refine y_ (yl_assign ev_c) (jl_nil (q_then (j_seq (j_seq (j_region (y_ (yl_assign ev_c) (jl_nil (q_then (j_block ?_))) rfl)))))) rfl
  refine j_loopH (X := Nat) (V := fun k => [(7, .int .i64 (k : Nat))]) (C := [(2, _), (3, _), (4, _)]) (φ := fun k => k = 0) (μ := fun k => 0) (x0 := 0) ?_ ⟨at_f rfl, at_f rfl, at_f rfl, trivial⟩ ⟨(by first | exact at_f rfl | (refine at_e (at_f rfl) (vint ?_); omega) | (refine at_e (at_f rfl) ?_; simp; done)), trivial⟩ ?_
  · exact rfl
  rintro k hk
  refine j_seq (j_seq (j_region (y_ (yl_move (T rfl)) (y_ (yl_fa0 (T rfl) fa60_0) (y_ (yl_load (T rfl) Try.isAgg28 (by first | exact c_o | exact c_m (hn.links.f0 (i := l.toNat) (by omega) rfl) | exact c_m (hn.links.f (i := l.toNat) (by omega) rfl))) ?_ rfl) rfl) rfl)))
  refine y_ (yl_len (T rfl) Try.runUnderlying28) (y_ (yl_lss (T rfl) (T rfl)) (jl_nil (q_then ?_)) rfl) rfl
  first | refine j_cond_d (at_f rfl) (fun c12 => ?_) (fun c12 => ?_) | refine j_cond (at_f rfl) (fun c12 => ?_) (fun c12 => ?_)
  · exfalso; omega
  · refine j_exit (q_then_exit (q_loop_exit (q_block_hit (q_then (j_seq (j_any 21 [(0, true), (1, true), (2, true), (3, true), (4, true), (5, true), (6, true), (7, true), (8, true), (9, true), (10, true), (11, true), (12, true), (13, true), (14, true), (15, true), (16, true), (17, true), (18, true), (19, true), (20, true)] _ mixd (by kernel_rfl) sb0 ?_))))))
    refine o_y rfl (yl_fa (T rfl) fa26_1) (o_y rfl (yl_load (T rfl) Try.isAgg23 (by first | exact c_o | exact c_m (hn.links.f0 (i := l.toNat) (by omega) rfl) | exact c_m (hn.links.f (i := l.toNat) (by omega) rfl))) ?_ rfl gd_n) rfl gd_n
    refine o_y rfl (yl_move (T rfl)) (o_y rfl (yl_ixR (T rfl) (T rfl) Try.runUnderlying23 Try.sizeOf63 (by omega) (by first | exact rfl | exact hn.links.b (i := l.toNat) (by omega))) ?_ rfl gd_n) rfl gd_n
    refine o_y rfl (yl_fa0 (T rfl) fa63_0) (o_y rfl (yl_load (T rfl) Try.isAgg3 (by first | exact c_o | exact c_m (hn.links.f0 (i := l.toNat) (by omega) rfl) | exact c_m (hn.links.f (i := l.toNat) (by omega) rfl))) ?_ rfl gd_n) rfl gd_n
    refine o_y rfl (yl_fa (T rfl) fa60_1) (o_y rfl (yl_load (T rfl) Try.isAgg3 (by first | exact c_o | exact c_m (hn.links.f0 (i := l.toNat) (by omega) rfl) | exact c_m (hn.links.f (i := l.toNat) (by omega) rfl))) ?_ rfl gd_n) rfl gd_n
    refine o_y rfl (yl_neq (T rfl) (T rfl)) (o_y rfl (yl_move (T rfl)) ?_ rfl gd_n) rfl gd_n
    first | refine o_if_d (s := 31) (at_f rfl) (fun c31 => ?_) (fun c31 => ?_) | refine o_if (s := 31) (at_f rfl) (fun c31 => ?_) (fun c31 => ?_)
    · refine o_y rfl (yl_fa (T rfl) fa26_1) (o_y rfl (yl_load (T rfl) Try.isAgg23 (by first | exact c_o | exact c_m (hn.links.f0 (i := l.toNat) (by omega) rfl) | exact c_m (hn.links.f (i := l.toNat) (by omega) rfl))) ?_ rfl (gd_y rfl rfl (at_f rfl))) rfl (gd_y rfl rfl (at_f rfl))
      refine o_y rfl (yl_move (T rfl)) (o_y rfl (yl_ixR (T rfl) (T rfl) Try.runUnderlying23 Try.sizeOf63 (by omega) (by first | exact rfl | exact hn.links.b (i := l.toNat) (by omega))) ?_ rfl (gd_y rfl rfl (at_f rfl))) rfl (gd_y rfl rfl (at_f rfl))
      refine o_y rfl (yl_fa (T rfl) fa63_1) (o_y rfl (yl_load (T rfl) Try.isAgg3 (by first | exact c_o | exact c_m (hn.links.f0 (i := l.toNat) (by omega) rfl) | exact c_m (hn.links.f (i := l.toNat) (by omega) rfl))) ?_ rfl (gd_y rfl rfl (at_f rfl))) rfl (gd_y rfl rfl (at_f rfl))
      refine o_y rfl (yl_fa (T rfl) fa60_1) (o_y rfl (yl_load (T rfl) Try.isAgg3 (by first | exact c_o | exact c_m (hn.links.f0 (i := l.toNat) (by omega) rfl) | exact c_m (hn.links.f (i := l.toNat) (by omega) rfl))) ?_ rfl (gd_y rfl rfl (at_f rfl))) rfl (gd_y rfl rfl (at_f rfl))
      refine o_y rfl (yl_neq (T rfl) (T rfl)) (o_y rfl (yl_pick_t (T rfl) (T rfl)) (o_y rfl (yl_assign (T rfl)) (jo_nil rfl (jl_nil (q_then (j_keep [(6, _)] ⟨at_f rfl, trivial⟩ (j_ret (q_ret rfl (.tmp (at_f rfl) .nil) ?_)))))) rfl gd_n) rfl gd_n) rfl (gd_y rfl rfl (at_f rfl))
      first | exact ⟨_, ⟨vbool (decide_eq_true (by omega)), rfl⟩, sbt⟩ | exact ⟨_, ⟨rfl, rfl⟩, sbt⟩ | (exfalso; omega)
    · refine o_n rfl (o_n rfl (o_n rfl (o_n rfl (o_n rfl (o_n rfl (o_n rfl (o_n rfl (o_n rfl (o_y rfl (yl_pick_f (T rfl) ev_c) (o_y rfl (yl_assign (T rfl)) (jo_nil rfl (jl_nil (q_then (j_keep [(6, _)] ⟨at_f rfl, trivial⟩ (j_ret (q_ret rfl (.tmp (at_f rfl) .nil) ?_)))))) rfl gd_n) rfl gd_n) rfl (nw_ft rfl rfl (at_f rfl))) rfl (nw_ft rfl rfl (at_f rfl))) rfl (nw_ft rfl rfl (at_f rfl))) rfl (nw_ft rfl rfl (at_f rfl))) rfl (nw_ft rfl rfl (at_f rfl))) rfl (nw_ft rfl rfl (at_f rfl))) rfl (nw_ft rfl rfl (at_f rfl))) rfl (nw_ft rfl rfl (at_f rfl))) rfl (nw_ft rfl rfl (at_f rfl))
      first | exact ⟨_, ⟨vbool (decide_eq_true (by omega)), rfl⟩, sbt⟩ | exact ⟨_, ⟨rfl, rfl⟩, sbt⟩ | (exfalso; omega)
theorem send_s {w0 : World} {H : List (Nat × Obj)} (n : Nm) (hn : NetM w0 H n) (hok : NetOk n) (m : Rm) (hm : RmM w0 H m) (h : Nat → Int) (hr : RgH h) (hlk : m.r.hop.link < 0 ∨ 0 ≤ m.r.hop.link ∧ m.r.hop.link < n.links.length) (hpt : 0 ≤ m.r.hop.port ∧ m.r.hop.port ≤ 65535) (htg : 0 ≤ (if m.r.hop.link < 0 then m.r.hop.tag else 0) ∧ (if m.r.hop.link < 0 then m.r.hop.tag else 0) ≤ 65535) :
    FSpec Try.prog w0 23 #[.agg (encNm n).toArray, .agg noneL.toArray, .agg (encRm m).toArray, .agg (encHd h).toArray] H (fun v H' => ∃ d : Sl, v = slV d 1 ∧ SlOk d 1 10 ∧ H' = slH d ([(hdT h m.r.hop.port (if (if m.r.hop.link < 0 then (65535 : Int) else 0) = 0 then h 9 else (if m.r.hop.link < 0 then m.r.hop.tag else 0)))].flatMap encHd) 45 ++ H) := by
  refine fn_spec Try.func23 rfl Try.ntmps23 rfl ?_
  generalize hg : (hdT h m.r.hop.port (if (if m.r.hop.link < 0 then (65535 : Int) else 0) = 0 then h 9 else (if m.r.hop.link < 0 then m.r.hop.tag else 0))) = g
  refine j_seq (j_region (e_ (eff_box (T rfl) cs_) ?_ rfl))
  rintro _ _ ⟨n4, rfl, rfl⟩
  refine e_ (eff_box (T rfl) cs_) ?_ rfl
  rintro _ _ ⟨n5, rfl, rfl⟩
  refine e_ (eff_box (T rfl) cs_) ?_ rfl
  rintro _ _ ⟨n6, rfl, rfl⟩
  refine e_ (eff_box (T rfl) cs_) ?_ rfl
  rintro _ _ ⟨n7, rfl, rfl⟩
  refine y_ (yl_assign ev_c) (jl_nil (q_then (j_seq (j_region (y_ (yl_assign ev_c) (jl_nil (q_then (j_seq (j_seq (j_region (y_ (yl_assign ev_c) (jl_nil (q_then (j_block ?_))) rfl)))))) rfl))))) rfl
  refine j_loopG (X := Nat × Sl × List (Nat → Int)) (V := fun ⟨k, d, l⟩ => [(10, .int .i64 (k : Nat)), (9, slV d l.length)]) (C := [(4, _), (5, _), (6, _), (7, _)]) (G := fun ⟨k, d, l⟩ => slH d (l.flatMap encHd) 45) (Hc := _) (φ := fun ⟨k, d, l⟩ => k ≤ 1 ∧ l = List.replicate k g ∧ SlOk d l.length 10) (μ := fun ⟨k, d, l⟩ => 1 - k) (x0 := (0, .nil, [])) ?_ ⟨at_f rfl, at_f rfl, at_f rfl, at_f rfl, trivial⟩ ⟨(by first | exact at_f rfl | (refine at_e (at_f rfl) (vint ?_); omega) | (refine at_e (at_f rfl) ?_; simp; done)), (by first | exact at_f rfl | (refine at_e (at_f rfl) (vint ?_); omega) | (refine at_e (at_f rfl) ?_; simp; done)), trivial⟩ sb0 ?_
  · exact ⟨Nat.zero_le _, rfl, rfl⟩
  rintro ⟨k, d, l⟩ ⟨hk, rfl, hok1⟩
  refine j_seq (j_seq (j_region (y_ (yl_move (T rfl)) (y_ (yl_fa (T rfl) fa56_3) ?_ rfl) rfl)))
  refine y_ (yl_load (T rfl) Try.isAgg54 (by first | exact c_o | exact c_m (hm.o) | exact c_m (hm.a) | exact cs_part (k := 20) (by repeat (first | exact fnd_h | refine fnd_t ?_ | refine fnd_a ?_)))) ?_ rfl
  refine y_ (yl_len (T rfl) Try.runUnderlying54) (y_ (yl_lss (T rfl) (T rfl)) (jl_nil (q_then ?_)) rfl) rfl
  first | refine j_cond_d (at_f rfl) (fun c19 => ?_) (fun c19 => ?_) | refine j_cond (at_f rfl) (fun c19 => ?_) (fun c19 => ?_)
  · have hk0 : k = 0 := by omega
    subst hk0
    refine j_skip (q_then (j_seq (j_block (j_seq (j_region (y_ (yl_assign ev_c) (jl_nil (q_then (j_seq (j_region (y_ (yl_assign ev_c) (jl_nil (q_then (j_block ?_))) rfl))))) rfl))))))
    refine j_loopG (X := Nat × Sl × List (Nat → Int)) (V := fun ⟨i, d2, l2⟩ => [(12, .int .i64 (i : Nat)), (11, .bool (decide (i = 1))), (9, slV d2 l2.length)]) (C := [(4, _), (5, _), (6, _), (7, _), (10, _)]) (G := fun ⟨i, d2, l2⟩ => slH d2 (l2.flatMap encHd) 45) (Hc := _) (φ := fun ⟨i, d2, l2⟩ => i ≤ 1 ∧ l2 = List.replicate i g ∧ SlOk d2 l2.length 10) (μ := fun ⟨i, d2, l2⟩ => 1 - i) (x0 := (0, d, [])) ?_ ⟨at_f rfl, at_f rfl, at_f rfl, at_f rfl, at_f rfl, trivial⟩ ⟨(by first | exact at_f rfl | (refine at_e (at_f rfl) (vint ?_); omega) | (refine at_e (at_f rfl) ?_; simp; done)), (by first | exact at_f rfl | (refine at_e (at_f rfl) (vint ?_); omega) | (refine at_e (at_f rfl) ?_; simp; done)), (by first | exact at_f rfl | (refine at_e (at_f rfl) (vint ?_); omega) | (refine at_e (at_f rfl) ?_; simp; done)), trivial⟩ sb0 ?_
    · exact ⟨Nat.zero_le _, rfl, hok1⟩
    rintro ⟨i, d2, l2⟩ ⟨hi, rfl, hok2⟩
    refine j_seq (j_seq (j_region (y_ (yl_move (T rfl)) (y_ (yl_fa (T rfl) fa56_3) ?_ rfl) rfl)))
    refine y_ (yl_load (T rfl) Try.isAgg54 (by first | exact c_o | exact c_m (hm.o) | exact c_m (hm.a) | exact cs_part (k := 20) (by repeat (first | exact fnd_h | refine fnd_t ?_ | refine fnd_a ?_)))) ?_ rfl
    refine y_ (yl_move (T rfl)) (y_ (yl_ixR (T rfl) (T rfl) Try.runUnderlying54 Try.sizeOf64 (by first | omega | exact ⟨by decide, by decide⟩) (by first | exact rfl)) ?_ rfl) rfl
    refine y_ (yl_load (T rfl) Try.isAgg64 (by first | exact c_o | exact c_m (hm.o) | exact c_m (hm.a) | exact cs_part (k := 20) (by repeat (first | exact fnd_h | refine fnd_t ?_ | refine fnd_a ?_)))) ?_ rfl
    refine y_ (yl_len (T rfl) Try.runUnderlying64) (y_ (yl_lss (T rfl) (T rfl)) (jl_nil (q_then ?_)) rfl) rfl
    first | refine j_cond_d (at_f rfl) (fun c29 => ?_) (fun c29 => ?_) | refine j_cond (at_f rfl) (fun c29 => ?_) (fun c29 => ?_)
    · have hi0 : i = 0 := by omega
      subst hi0
      refine j_skip (q_then (j_seq (j_block (j_seq (j_region (y_ (yl_fa (T rfl) fa56_3) ?_ rfl))))))
      refine y_ (yl_load (T rfl) Try.isAgg54 (by first | exact c_o | exact c_m (hm.o) | exact c_m (hm.a) | exact cs_part (k := 20) (by repeat (first | exact fnd_h | refine fnd_t ?_ | refine fnd_a ?_)))) ?_ rfl
      refine y_ (yl_move (T rfl)) (y_ (yl_ixR (T rfl) (T rfl) Try.runUnderlying54 Try.sizeOf64 (by first | omega | exact ⟨by decide, by decide⟩) (by first | exact rfl)) ?_ rfl) rfl
      refine y_ (yl_load (T rfl) Try.isAgg64 (by first | exact c_o | exact c_m (hm.o) | exact c_m (hm.a) | exact cs_part (k := 20) (by repeat (first | exact fnd_h | refine fnd_t ?_ | refine fnd_a ?_)))) ?_ rfl
      refine y_ (yl_move (T rfl)) (y_ (yl_ixQ (T rfl) (T rfl) Try.runUnderlying64 Try.sizeOf67 (by first | omega | exact ⟨by decide, by decide⟩) (by first | exact rfl)) ?_ rfl) rfl
      refine y_ (yl_loadA (T rfl) Try.isAgg67 Try.sizeOf67 rfl (by first | exact cs_o | exact cs_m (hm.o) | exact cs_m (hm.a) | exact cs_part (k := 20) (by repeat (first | exact fnd_h | refine fnd_t ?_ | refine fnd_a ?_)))) ?_ rfl
      refine e_ (eff_alloc Try.zeroValue67 cs_) ?_ rfl
      rintro _ _ ⟨n13, rfl, rfl⟩
      first | refine jl_e (eff_sW (T rfl) (T rfl) Try.sizeOf67) rfl gd_n ?_
      rintro _ _ ⟨rfl, rfl⟩
      refine jl_nil (q_then (j_keep [(4, _), (5, _), (6, _), (7, _), (9, _), (10, _), (11, _), (12, _), (13, _)] ⟨at_f rfl, at_f rfl, at_f rfl, at_f rfl, at_f rfl, at_f rfl, at_f rfl, at_f rfl, at_f rfl, trivial⟩ (j_seq (j_region (y_ (yl_fa0 (T rfl) fa67_0) ?_ rfl)))))
      refine y_ (yl_load (T rfl) Try.isAgg3 (by first | exact c_o | exact c_m (hm.o) | exact c_m (hm.a) | exact cs_part (k := 20) (by repeat (first | exact fnd_h | refine fnd_t ?_ | refine fnd_a ?_)))) ?_ rfl
      refine y_ (yl_lss (T rfl) ev_c) (y_ (yl_move (T rfl)) ?_ rfl) rfl
      first | refine jl_if_d (s := 43) (at_f rfl) (fun c43 => ?_) (fun c43 => ?_) | refine jl_if (s := 43) (at_f rfl) (fun c43 => ?_) (fun c43 => ?_)
      · refine n_tf (n_tf (n_tf (n_tf (n_tf (y_ (yl_pick_t (T rfl) ev_c) (y_ (yl_assign (T rfl)) (jl_nil (q_then (j_seq (j_region (y_ (yl_move (T rfl)) (y_ (yl_move (T rfl)) (jl_y (yl_move (T rfl)) rfl (gd_y rfl rfl (at_f rfl)) ?_) rfl) rfl))))) rfl) rfl) rfl rfl rfl rfl) rfl rfl rfl rfl) rfl rfl rfl rfl) rfl rfl rfl rfl) rfl rfl rfl rfl
        first | refine jl_y (yl_not_d (T rfl)) rfl (gd_y rfl rfl (at_f rfl)) ?_ | refine jl_y (yl_not (T rfl)) rfl (gd_y rfl rfl (at_f rfl)) ?_
        refine y_ (yl_pick_t (T rfl) (T rfl)) (jl_nil (q_then (j_keep [(4, _), (5, _), (6, _), (7, _), (9, _), (10, _), (11, _), (12, _), (13, _), (54, _)] ⟨at_f rfl, at_f rfl, at_f rfl, at_f rfl, at_f rfl, at_f rfl, at_f rfl, at_f rfl, at_f rfl, at_f rfl, trivial⟩ ?_))) rfl
        first | refine j_cond_d (at_f rfl) (fun c54 => ?_) (fun c54 => ?_) | refine j_cond (at_f rfl) (fun c54 => ?_) (fun c54 => ?_)
        · refine j_seq (j_region (y_ (yl_assign ev_c) (jl_nil (q_then (j_region (y_ (yl_move (T rfl)) (y_ (yl_fa (T rfl) fa67_1) ?_ rfl) rfl)))) rfl))
          refine y_ (yl_loadA (T rfl) Try.isAgg65 Try.sizeOf65 rfl (by first | exact cs_o | exact cs_m (hm.o) | exact cs_m (hm.a) | exact cs_part (k := 20) (by repeat (first | exact fnd_h | refine fnd_t ?_ | refine fnd_a ?_)))) ?_ rfl
          refine y_ (yl_loadA (T rfl) Try.isAgg45 Try.sizeOf45 rfl (by first | exact cs_o | exact cs_m (hm.o) | exact cs_m (hm.a) | exact cs_part (k := 20) (by repeat (first | exact fnd_h | refine fnd_t ?_ | refine fnd_a ?_)))) ?_ rfl
          refine e_ (eff_call (.cons (T rfl) (.cons (T rfl) .nil)) Try.call58 (apply_s _ _ _ (by split <;> simp) hpt htg h hr)) ?_ rfl
          rintro _ _ ⟨rfl, rfl⟩
          rw [hg]
          refine e_ (eff_bslice (.cons (T rfl) .nil) (bs57_1_0 _ _ _ _ _ _ _ _ _ _)) ?_ rfl
          rintro _ _ ⟨n60, rfl, rfl⟩
          refine e_ (eff_app1_at (g) (by' := 80) (by repeat (first | exact LocL.h | apply LocL.t | apply LocL.a)) (T rfl) (T rfl) Try.runUnderlying57 Try.runUnderlying57 Try.sizeOf45 Try.typeInfo45 rfl Try.zeroValue45 rfl (fun _ => rfl) rfl hok2 (by decide) (by simp)) ?_ rfl
          rintro _ _ ⟨d', rfl, hok', rfl⟩
          refine y_ (yl_assign (T rfl)) (jl_nil (q_block (q_then (j_region (y_ (yl_move (T rfl)) (y_ (yl_add (T rfl) ev_c (by omega)) ?_ rfl) rfl))))) rfl
          refine y_ (yl_assign (T rfl)) (jl_nil ?_) rfl
          refine q_loopC ((1, d', List.replicate 1 g)) ?_ ?_ ⟨(by first | exact at_f rfl | (refine at_e (at_f rfl) (vint ?_); omega) | (refine at_e (at_f rfl) ?_; simp; done)), (by first | exact at_f rfl | (refine at_e (at_f rfl) (vint ?_); omega) | (refine at_e (at_f rfl) ?_; simp; done)), (by first | exact at_f rfl | (refine at_e (at_f rfl) (vint ?_); omega) | (refine at_e (at_f rfl) ?_; simp; done)), trivial⟩ ⟨at_f rfl, at_f rfl, at_f rfl, at_f rfl, at_f rfl, trivial⟩ ?_
          · exact ⟨Nat.le_refl _, rfl, hok'⟩
          · simp
          · exact sbt
        · exfalso; omega
      · refine jl_y (yl_loadA (T rfl) Try.isAgg26 Try.sizeOf26 rfl (by first | exact cs_o | exact cs_m (hm.o) | exact cs_m (hm.a) | exact cs_part (k := 20) (by repeat (first | exact fnd_h | refine fnd_t ?_ | refine fnd_a ?_)))) rfl (gd_y rfl rfl (at_f rfl)) ?_
        refine jl_y (yl_loadA (T rfl) Try.isAgg60 Try.sizeOf60 rfl (by first | exact cs_o | exact cs_m (hm.o) | exact cs_m (hm.a) | exact cs_part (k := 20) (by repeat (first | exact fnd_h | refine fnd_t ?_ | refine fnd_a ?_)))) rfl (gd_y rfl rfl (at_f rfl)) ?_
        refine jl_y (yl_fa0 (T rfl) fa67_0) rfl (gd_y rfl rfl (at_f rfl)) ?_
        refine jl_y (yl_load (T rfl) Try.isAgg3 (by first | exact c_o | exact c_m (hm.o) | exact c_m (hm.a) | exact cs_part (k := 20) (by repeat (first | exact fnd_h | refine fnd_t ?_ | refine fnd_a ?_)))) rfl (gd_y rfl rfl (at_f rfl)) ?_
        refine jl_y (yl_call (.cons (T rfl) (.cons (T rfl) (.cons (T rfl) .nil))) Try.call57 (fun H' hs => up_s n (hn.mono (List.Sublist.trans sbt hs)) hok _ (by omega) (by omega))) rfl (gd_y rfl rfl (at_f rfl)) ?_
        refine y_ (yl_pick_f (T rfl) (T rfl)) (y_ (yl_assign (T rfl)) (jl_nil (q_then (j_seq (j_region (y_ (yl_move (T rfl)) (y_ (yl_move (T rfl)) (jl_y (yl_move (T rfl)) rfl (gd_y rfl rfl (at_f rfl)) ?_) rfl) rfl))))) rfl) rfl
        first | refine jl_y (yl_not_d (T rfl)) rfl (gd_y rfl rfl (at_f rfl)) ?_ | refine jl_y (yl_not (T rfl)) rfl (gd_y rfl rfl (at_f rfl)) ?_
        refine y_ (yl_pick_t (T rfl) (T rfl)) (jl_nil (q_then (j_keep [(4, _), (5, _), (6, _), (7, _), (9, _), (10, _), (11, _), (12, _), (13, _), (54, _)] ⟨at_f rfl, at_f rfl, at_f rfl, at_f rfl, at_f rfl, at_f rfl, at_f rfl, at_f rfl, at_f rfl, at_f rfl, trivial⟩ ?_))) rfl
        first | refine j_cond_d (at_f rfl) (fun c54 => ?_) (fun c54 => ?_) | refine j_cond (at_f rfl) (fun c54 => ?_) (fun c54 => ?_)
        · refine j_seq (j_region (y_ (yl_assign ev_c) (jl_nil (q_then (j_region (y_ (yl_move (T rfl)) (y_ (yl_fa (T rfl) fa67_1) ?_ rfl) rfl)))) rfl))
          refine y_ (yl_loadA (T rfl) Try.isAgg65 Try.sizeOf65 rfl (by first | exact cs_o | exact cs_m (hm.o) | exact cs_m (hm.a) | exact cs_part (k := 20) (by repeat (first | exact fnd_h | refine fnd_t ?_ | refine fnd_a ?_)))) ?_ rfl
          refine y_ (yl_loadA (T rfl) Try.isAgg45 Try.sizeOf45 rfl (by first | exact cs_o | exact cs_m (hm.o) | exact cs_m (hm.a) | exact cs_part (k := 20) (by repeat (first | exact fnd_h | refine fnd_t ?_ | refine fnd_a ?_)))) ?_ rfl
          refine e_ (eff_call (.cons (T rfl) (.cons (T rfl) .nil)) Try.call58 (apply_s _ _ _ (by split <;> simp) hpt htg h hr)) ?_ rfl
          rintro _ _ ⟨rfl, rfl⟩
          rw [hg]
          refine e_ (eff_bslice (.cons (T rfl) .nil) (bs57_1_0 _ _ _ _ _ _ _ _ _ _)) ?_ rfl
          rintro _ _ ⟨n60, rfl, rfl⟩
          refine e_ (eff_app1_at (g) (by' := 80) (by repeat (first | exact LocL.h | apply LocL.t | apply LocL.a)) (T rfl) (T rfl) Try.runUnderlying57 Try.runUnderlying57 Try.sizeOf45 Try.typeInfo45 rfl Try.zeroValue45 rfl (fun _ => rfl) rfl hok2 (by decide) (by simp)) ?_ rfl
          rintro _ _ ⟨d', rfl, hok', rfl⟩
          refine y_ (yl_assign (T rfl)) (jl_nil (q_block (q_then (j_region (y_ (yl_move (T rfl)) (y_ (yl_add (T rfl) ev_c (by omega)) ?_ rfl) rfl))))) rfl
          refine y_ (yl_assign (T rfl)) (jl_nil ?_) rfl
          refine q_loopC ((1, d', List.replicate 1 g)) ?_ ?_ ⟨(by first | exact at_f rfl | (refine at_e (at_f rfl) (vint ?_); omega) | (refine at_e (at_f rfl) ?_; simp; done)), (by first | exact at_f rfl | (refine at_e (at_f rfl) (vint ?_); omega) | (refine at_e (at_f rfl) ?_; simp; done)), (by first | exact at_f rfl | (refine at_e (at_f rfl) (vint ?_); omega) | (refine at_e (at_f rfl) ?_; simp; done)), trivial⟩ ⟨at_f rfl, at_f rfl, at_f rfl, at_f rfl, at_f rfl, trivial⟩ ?_
          · exact ⟨Nat.le_refl _, rfl, hok'⟩
          · simp
          · exact sbt
        · exfalso; omega
    · refine j_exit (q_then_exit (q_loop_exit (q_block_hit (q_block (q_then (j_region (y_ (yl_move (T rfl)) (y_ (yl_add (T rfl) ev_c (by omega)) ?_ rfl) rfl)))))))
      refine y_ (yl_assign (T rfl)) (jl_nil ?_) rfl
      have hi1 : i = 1 := by omega
      subst hi1
      refine q_loopC ((1, d2, List.replicate 1 g)) ?_ ?_ ⟨(by first | exact at_f rfl | (refine at_e (at_f rfl) (vint ?_); omega) | (refine at_e (at_f rfl) ?_; simp; done)), (by first | exact at_f rfl | (refine at_e (at_f rfl) (vint ?_); omega) | (refine at_e (at_f rfl) ?_; simp; done)), trivial⟩ ⟨at_f rfl, at_f rfl, at_f rfl, at_f rfl, trivial⟩ ?_
      · exact ⟨Nat.le_refl _, rfl, hok2⟩
      · simp
      · exact sbt
  · refine j_exit (q_then_exit (q_loop_exit (q_block_hit (q_then (j_seq (j_region (y_ (yl_move (T rfl)) (y_ (yl_assign (T rfl)) (jl_nil (q_then (j_ret (q_ret rfl (.tmp (at_f rfl) .nil) ?_)))) rfl) rfl)))))))
    have hk1 : k = 1 := by omega
    subst hk1
    exact ⟨_, ⟨d, rfl, hok1, rfl⟩, sbt⟩
theorem eqHd (h : Nat → Int) (w : World) : (Op.equal 45 (.agg (encHd h).toArray) (.agg (encHd h).toArray)).run Try.prog w = .ok (decide True) w := by
  unfold Op.equal Op.maxDepth
  exact eqHead 9998 _ _ _ _ _ _ _ _ _ _ w
theorem incr_len : ∀ {l tg : List Int}, l.Pairwise (· < ·) → (∀ x ∈ l, x ∈ tg) → l.length ≤ tg.length
  | [], _, _, _ => Nat.zero_le _
  | a :: r, tg, hp, h => by
    rw [List.pairwise_cons] at hp
    have ha := h a (by simp)
    have := incr_len (l := r) (tg := tg.erase a) hp.2 fun x hx => (List.mem_erase_of_ne (by have := hp.1 x hx; omega)).2 (h x (by simp [hx]))
    rw [List.length_erase_of_mem ha] at this
    have := List.length_pos_of_mem ha
    simp only [List.length_cons]; omega
theorem used_len (tg : List Int) : (usedF tg).length ≤ tg.length := incr_len (usedTo_incr _ _) fun x hx => (usedTo_mem.1 hx).2
theorem tbl_mem {top : Int} {f : Int → Option Hop} : ∀ {us : List Int} {rs : List Rul} {r : Rul}, r ∈ us.foldl (tblS top f) rs → r ∈ rs ∨ (r.tag ∈ us ∧ f r.tag = some r.hop)
  | [], rs, r, h => .inl h
  | t :: us, rs, r, h => by
    rw [List.foldl_cons] at h
    rcases tbl_mem h with h | ⟨h1, h2⟩
    · unfold tblS at h
      split at h
      · rename_i x hx
        rcases List.mem_append.1 h with h | h
        · exact .inl h
        · simp only [List.mem_cons, List.not_mem_nil, or_false] at h
          subst h; exact .inr ⟨by simp, hx⟩
      · exact .inl h
    · exact .inr ⟨by simp [h1], h2⟩
theorem tbl_keep {top : Int} {f : Int → Option Hop} : ∀ {us : List Int} {rs : List Rul} {r : Rul}, r ∈ rs → r ∈ us.foldl (tblS top f) rs
  | [], rs, r, h => h
  | t :: us, rs, r, h => by
    rw [List.foldl_cons]
    refine tbl_keep ?_
    unfold tblS; split
    · exact List.mem_append_left _ h
    · exact h
theorem tbl_has {top : Int} {f : Int → Option Hop} {t : Int} {x : Hop} (hx : f t = some x) : ∀ {us : List Int} {rs : List Rul}, t ∈ us → ∃ r ∈ us.foldl (tblS top f) rs, r.tag = t
  | [], rs, h => by cases h
  | u :: us, rs, h => by
    rw [List.foldl_cons]
    rcases List.mem_cons.1 h with rfl | h
    · exact ⟨⟨top - rs.length, t, x⟩, tbl_keep (by unfold tblS; rw [hx]; simp), rfl⟩
    · exact tbl_has hx h
theorem tbl_len {top : Int} {f : Int → Option Hop} : ∀ {us : List Int} {rs : List Rul}, (us.foldl (tblS top f) rs).length ≤ rs.length + us.length
  | [], rs => by simp
  | t :: us, rs => by
    rw [List.foldl_cons]
    have := tbl_len (top := top) (f := f) (us := us) (rs := tblS top f rs t)
    have h2 : (tblS top f rs t).length ≤ rs.length + 1 := by unfold tblS; split <;> simp
    simp only [List.length_cons]; omega
theorem rules_lead {N : Nat} {us : List Int} {f : Int → Int → Option Hop} (hl : us.length ≤ 4000) {r : List (List Rul)} {e : Int} (h : rulesRes N 4000 us f = (r, e)) : e = 0 ∧ r = (List.range N).map (fun (k : Nat) => tblK 4000 (fun t => f t k) us) := by
  unfold rulesRes at h
  rw [if_pos (by decide), if_pos] at h
  · simp only [Prod.mk.injEq] at h; exact ⟨h.2.symm, h.1.symm⟩
  · rw [List.all_eq_true]
    intro k _
    have := tbl_len (top := 4000) (f := fun t => f t k) (us := us) (rs := [])
    simp only [List.length_nil] at this
    exact decide_eq_true (by unfold tblK; omega)
/-- what the way does at its i-th node is in the plan -/
theorem lead_at {n : Nm} {l : List Wm} {tg : List Int} (hg : Gw n l) (hel : tg.length = l.length) (hc : Cons n.links (pairs l tg)) {k i : Nat} (hk : k < l.length) (hi : i ≤ (gd l k).way.links.length) :
    planR n.links (pairs l tg) (gd tg k) (gd (nodesF n.links (gd l k).way) i) = some (hopN (gd l k).way i) ∧ 0 ≤ gd (nodesF n.links (gd l k).way) i ∧ gd (nodesF n.links (gd l k).way) i < n.nodes.length := by
  have hm : (gd (nodesF n.links (gd l k).way) i, hopN (gd l k).way i) ∈ hops n.links (gd l k).way := List.mem_of_getElem? (hops_at hi)
  refine ⟨plan_mem hc (e := ((gd l k).way, gd tg k)) ?_ (atF_of_mem (hg.nd _ (gd_mem hk)) hm), hg.at' _ (gd_mem hk) _ hm⟩
  unfold pairs
  rw [List.mem_reverse, show ((gd l k).way, gd tg k) = gd ((l.map (·.way)).zip tg) k from by rw [gd_zip (by simpa using hk) (by omega), gd_map hk]]
  exact gd_mem (by simp; omega)
/-- what the table of a node holds -/
theorem lead_tab {n : Nm} {l : List Wm} {tg : List Int} (hb : ∀ i, i < tg.length → 1 ≤ gd tg i ∧ gd tg i ≤ 65535) {tb : List Tb} {a : Nat} (ha : a < n.nodes.length) (hlt : tb.length = n.nodes.length)
    (h : tb.map (fun t => t.rs.map (·.r)) = (List.range n.nodes.length).map (fun (k : Nat) => tblK 4000 (fun t => planR n.links (pairs l tg) t k) (usedF tg))) :
    (∀ m ∈ (gd tb a).rs, (1 ≤ m.r.tag ∧ m.r.tag ≤ 65535) ∧ planR n.links (pairs l tg) m.r.tag a = some m.r.hop) ∧ (gd tb a).rs.length ≤ tg.length ∧ ∀ k x, k < tg.length → planR n.links (pairs l tg) (gd tg k) a = some x → ∃ m ∈ (gd tb a).rs, gd tg k = m.r.tag := by
  have h1 : (gd tb a).rs.map (·.r) = tblK 4000 (fun t => planR n.links (pairs l tg) t a) (usedF tg) := by
    have := congrArg (fun l => gd l a) h
    simp only [gd_map (f := fun (t : Tb) => t.rs.map (·.r)) (l := tb) (k := a) (by omega), gd_map (f := fun (k : Nat) => tblK 4000 (fun t => planR n.links (pairs l tg) t k) (usedF tg)) (l := List.range n.nodes.length) (k := a) (by simpa using ha)] at this
    rw [this, gd_getElem (by simpa using ha), List.getElem_range]
  refine ⟨fun m hm => ?_, ?_, fun k x hk hx => ?_⟩
  · have h2 : m.r ∈ tblK 4000 (fun t => planR n.links (pairs l tg) t a) (usedF tg) := h1 ▸ List.mem_map.2 ⟨m, hm, rfl⟩
    rcases tbl_mem h2 with h3 | ⟨h3, h4⟩
    · cases h3
    · exact ⟨by have := (usedTo_mem.1 h3).1; omega, h4⟩
  · have h2 := congrArg List.length h1
    have h3 := tbl_len (top := 4000) (f := fun t => planR n.links (pairs l tg) t a) (us := usedF tg) (rs := [])
    have h4 := used_len tg
    simp only [List.length_map] at h2
    unfold tblK at h2
    simp only [List.length_nil] at h3
    omega
  · have hu : gd tg k ∈ usedF tg := usedTo_mem.2 ⟨by have := hb k hk; omega, gd_mem hk⟩
    obtain ⟨r, hr, he⟩ := tbl_has (top := 4000) (f := fun t => planR n.links (pairs l tg) t a) (rs := []) hx hu
    have hr2 : r ∈ (gd tb a).rs.map (·.r) := by rw [h1]; exact hr
    obtain ⟨m, hm, rfl⟩ := List.mem_map.1 hr2
    exact ⟨m, hm, he.symm⟩
/-- what is sent -/
theorem hop_head (h : Nat → Int) (p t : Int) (x : Hop) : hdT (hdT h p t) x.port (if (if x.link < 0 then (65535 : Int) else 0) = 0 then hdT h p t 9 else (if x.link < 0 then x.tag else 0)) = hdT h x.port (if x.link < 0 then x.tag else t) := by
  by_cases hl : x.link < 0
  · simp only [if_pos hl, if_neg (show ¬ (65535 : Int) = 0 by decide)]
    funext j; unfold hdT; split <;> simp_all
  · simp only [if_neg hl, if_true]
    funext j; unfold hdT; split <;> simp_all
theorem hop_go {w : Way} {i : Nat} (h : i < w.links.length) : hopN w i = ⟨gd w.links i, gd w.links i, -1, -1⟩ := by unfold hopN; rw [if_pos h]
theorem hop_end {w : Way} {i : Nat} (h : ¬ i < w.links.length) : hopN w i = ⟨-1, w.port, w.tag, w.step⟩ := by unfold hopN; rw [if_neg h]
theorem way_port {n : Nm} {steps : Int} {w : Way} (h : oneF n steps w = 0) (hN : n.nodes.length ≤ 8) (hE : n.edges.length ≤ 20) (hok : NetOk n) : 0 ≤ w.port ∧ w.port ≤ 65535 := by
  have ho := oneF_ok h
  have he := walk_end hok ho.s0 ho.s1 ho.walk
  unfold oneF at h
  split at h
  · cases h
  · split at h
    · cases h
    · split at h
      · cases h
      · split at h
        · omega
        · split at h
          · omega
          · cases h
/-- what Send asks of a hop -/
theorem hop_ok {n : Nm} {w : Way} {i : Nat} (hr : InR n.links w.links) (hL : n.links.length ≤ 16) (hp : 0 ≤ w.port ∧ w.port ≤ 65535) (ht : 0 ≤ w.tag ∧ w.tag ≤ 65535) :
    ((hopN w i).link < 0 ∨ 0 ≤ (hopN w i).link ∧ (hopN w i).link < n.links.length) ∧ (0 ≤ (hopN w i).port ∧ (hopN w i).port ≤ 65535) ∧ (0 ≤ (if (hopN w i).link < 0 then (hopN w i).tag else 0) ∧ (if (hopN w i).link < 0 then (hopN w i).tag else 0) ≤ 65535) := by
  by_cases h : i < w.links.length
  · have := hr i h
    rw [hop_go h]
    refine ⟨.inr this, ?_, ?_⟩
    · show 0 ≤ gd w.links i ∧ gd w.links i ≤ 65535
      omega
    · rw [if_neg (show ¬ gd w.links i < 0 by omega)]; decide
  · rw [hop_end h]
    exact ⟨.inl (show (-1 : Int) < 0 by decide), hp, by rw [if_pos (show (-1 : Int) < 0 by decide)]; exact ht⟩
theorem eqZ {Z Z2 : Nat → Int} (hz : Z = Z2) (w : World) : (Op.equal 45 (.agg (encHd Z).toArray) (.agg (encHd Z2).toArray)).run Try.prog w = .ok (decide True) w := hz ▸ eqHd Z w
set_option maxHeartbeats 2000000 in
theorem leads_s {w0 : World} {H : List (Nat × Obj)} (n : Nm) (hn : NetM w0 H n) (steps : Int) (hst : -9223372036854775808 ≤ steps ∧ steps ≤ 9223372036854775807) (q : Option Addr) (cap : Nat) (l : List Wm) (hw : WaysM w0 H q l) (pick : Int) (hpick : 0 ≤ pick ∧ pick ≤ 255) (h : Nat → Int) :
    FSpec Try.prog w0 5 #[.agg (encNm n).toArray, .int .i64 steps, .slice q l.length cap, .int .u8 pick, .agg (encHd h).toArray] H (Still (.bool true) H) := by
  refine fn_spec Try.func5 rfl Try.ntmps5 rfl (j_seq (j_region (e_ (eff_box (T rfl) cs_) ?_ rfl)))
  rintro _ _ ⟨n5, rfl, rfl⟩
  refine e_ (eff_box (T rfl) cs_) ?_ rfl
  rintro _ _ ⟨n9, rfl, rfl⟩
  refine y_ (yl_assign ev_c) (jl_nil (q_then (j_seq (j_region (y_ (yl_call .nil Try.call9 (fun H' hs => sanity_s)) (y_ (yl_assign (T rfl)) (jl_nil (q_then (j_seq (j_seq (j_region (y_ (yl_loadA (T rfl) Try.isAgg26 Try.sizeOf26 rfl (by first | exact cs_o)) ?_ rfl)))))) rfl) rfl))))) rfl
  refine y_ (yl_move (T rfl)) (y_ (yl_move (T rfl)) (e_ (eff_call (.cons (T rfl) (.cons (T rfl) (.cons (T rfl) (.cons ev_c .nil)))) Try.call10 (right_s n hn.mono _ _ _ _ hw.mono _)) ?_ rfl) rfl) rfl
  rintro _ _ ⟨⟨tw, rfl, hrt⟩, rfl⟩
  first | refine jl_y (yl_not_d (T rfl)) rfl gd_n ?_ | refine jl_y (yl_not (T rfl)) rfl gd_n ?_
  refine y_ (yl_move (T rfl)) ?_ rfl
  first | refine jl_if_d (s := 31) (at_f rfl) (fun c31 => ?_) (fun c31 => ?_) | refine jl_if (s := 31) (at_f rfl) (fun c31 => ?_) (fun c31 => ?_)
  · refine n_tf (n_tf (n_tf (y_ (yl_pick_t (T rfl) ev_c) (y_ (yl_move (T rfl)) (n_tf (n_tf (n_tf (y_ (yl_pick_t (T rfl) ev_c) (jl_nil (q_then (j_cond_t (at_f rfl) (j_seq (j_region (y_ (yl_move (T rfl)) (y_ (yl_assign (T rfl)) (jl_nil (q_then (j_ret (q_then_ret (q_ret rfl (.tmp (at_f rfl) .nil) ?_))))) rfl) rfl)))))) rfl) rfl rfl rfl rfl) rfl rfl rfl rfl) rfl rfl rfl rfl) rfl) rfl) rfl rfl rfl rfl) rfl rfl rfl rfl) rfl rfl rfl rfl
    first | exact ⟨_, ⟨rfl, rfl⟩, sbt⟩ | (exfalso; first | omega | exact c160 trivial | exact c170 hstep | exact c177 hstep | exact c201 hlink | exact c199 hlink)
  · refine jl_y (yl_move (T rfl)) rfl (gd_y rfl rfl (at_f rfl)) (jl_y (yl_len (T rfl) Try.runUnderlying27) rfl (gd_y rfl rfl (at_f rfl)) (jl_y (yl_eql (T rfl) ev_c) rfl (gd_y rfl rfl (at_f rfl)) (y_ (yl_pick_f (T rfl) (T rfl)) (y_ (yl_move (T rfl)) ?_ rfl) rfl)))
    first | refine jl_if_d (s := 36) (at_f rfl) (fun c36 => ?_) (fun c36 => ?_) | refine jl_if (s := 36) (at_f rfl) (fun c36 => ?_) (fun c36 => ?_)
    · refine n_tf (n_tf (n_tf (y_ (yl_pick_t (T rfl) ev_c) (jl_nil (q_then (j_cond_t (at_f rfl) (j_seq (j_region (y_ (yl_move (T rfl)) (y_ (yl_assign (T rfl)) (jl_nil (q_then (j_ret (q_then_ret (q_ret rfl (.tmp (at_f rfl) .nil) ?_))))) rfl) rfl)))))) rfl) rfl rfl rfl rfl) rfl rfl rfl rfl) rfl rfl rfl rfl
      first | exact ⟨_, ⟨rfl, rfl⟩, sbt⟩ | (exfalso; first | omega | exact c160 trivial | exact c170 hstep | exact c177 hstep | exact c201 hlink | exact c199 hlink)
    · refine jl_y (yl_loadA (T rfl) Try.isAgg45 Try.sizeOf45 rfl (by first | exact cs_o)) rfl (gd_y rfl rfl (at_f rfl)) ?_
      refine jl_e (eff_call (.cons (T rfl) .nil) Try.call21 (rightHead_s h)) rfl (gd_y rfl rfl (at_f rfl)) ?_
      rintro _ _ ⟨⟨th, rfl, hth⟩, rfl⟩
      first | refine jl_y (yl_not_d (T rfl)) rfl (gd_y rfl rfl (at_f rfl)) ?_ | refine jl_y (yl_not (T rfl)) rfl (gd_y rfl rfl (at_f rfl)) ?_
      refine y_ (yl_pick_f (T rfl) (T rfl)) (jl_nil (q_then ?_)) rfl
      first | refine j_cond_d (at_f rfl) (fun c40 => ?_) (fun c40 => ?_) | refine j_cond (at_f rfl) (fun c40 => ?_) (fun c40 => ?_)
      · refine j_seq (j_region (y_ (yl_move (T rfl)) (y_ (yl_assign (T rfl)) (jl_nil (q_then (j_ret (q_then_ret (q_ret rfl (.tmp (at_f rfl) .nil) ?_))))) rfl) rfl))
        first | exact ⟨_, ⟨rfl, rfl⟩, sbt⟩ | (exfalso; first | omega | exact c160 trivial | exact c170 hstep | exact c177 hstep | exact c201 hlink | exact c199 hlink)
      · obtain ⟨hnn, hnl, hne, hfew, hmost, hnet, hways⟩ := hrt (by simpa using c31)
        have hgw := net_gw hnet hways hfew
        have hr : RgH h := hth (by simpa using c40)
        obtain ⟨k, hk, hke⟩ : ∃ k : Nat, k < l.length ∧ IntKind.i64.wrap pick % (l.length : Int) = k := by
          rw [IntWalk.i64_in _ (by omega)]
          have h1 := Int.emod_nonneg pick (show (l.length : Int) ≠ 0 by omega)
          have h2 := Int.emod_lt_of_pos pick (show 0 < (l.length : Int) by omega)
          exact ⟨(pick % (l.length : Int)).toNat, by omega, by omega⟩
        have hwk := oneF_ok (hways _ (gd_mem hk))
        have hpt := way_port (hways _ (gd_mem hk)) hnn hne hnet
        have htg : 0 ≤ (gd l k).way.tag ∧ (gd l k).way.tag ≤ 65535 := ⟨hwk.t0, hwk.t1⟩
        have hin := hgw.inr _ (gd_mem hk)
        have hlk : (gd l k).way.links.length ≤ 20 := hfew k hk
        have hwm := hw.at hk
        have hsm : ∀ m ∈ l, m.way.links.length + 1 ≤ 100 := fun m hm => by obtain ⟨i, hi, rfl⟩ := List.getElem_of_mem hm; rw [← gd_getElem hi]; have := hfew i hi; omega
        refine j_skip (q_then (j_seq (j_region (y_ (yl_loadA (T rfl) Try.isAgg26 Try.sizeOf26 rfl (by first | exact cs_o)) ?_ rfl))))
        refine y_ (yl_move (T rfl)) (e_ (eff_call (.cons (T rfl) (.cons (T rfl) (.cons ev_c .nil))) Try.call11 (assign_s n hn.mono _ _ l hw.mono hgw.good (by omega) 1)) ?_ rfl) rfl
        rintro _ _ ⟨da, ta, ea, rfl, hoka, rfl, hra⟩
        obtain ⟨rfl, hsk⟩ := stuck_of hgw (by omega) (by omega) (by omega) hra
        have hlt := hsk.len
        obtain ⟨hcons, hbd⟩ := rgt_cons hgw hsk.len hsk.rgt
        have htk := hbd k (by omega)
        refine y_ (yl_move (T rfl)) (y_ (yl_extract (T rfl) rfl) (y_ (yl_extract (T rfl) rfl) (y_ (yl_assign (T rfl)) (y_ (yl_assign (T rfl)) (jl_nil (q_then (j_keep [(2, _), (3, _), (5, _), (9, _), (11, _), (12, _), (13, _)] ⟨at_f rfl, at_f rfl, at_f rfl, at_f rfl, at_f rfl, at_f rfl, at_f rfl, trivial⟩ (j_seq (j_region (y_ (yl_loadA (T rfl) Try.isAgg26 Try.sizeOf26 rfl (by first | exact cs_o)) ?_ rfl)))))) rfl) rfl) rfl) rfl) rfl
        refine y_ (yl_move (T rfl)) (y_ (yl_move (T rfl)) (e_ (eff_call (.cons (T rfl) (.cons (T rfl) (.cons (T rfl) (.cons ev_c .nil)))) Try.call18 (rules_s n hn.mono _ _ l hw.mono hgw (by omega) _ _ ta ((sl_arr (w0 := w0) (enc := encI) (sz := 1) (e := 3) (X := H) (fun _ => rfl) hoka).mono sbt) (by omega) hsk.len hsk.rgt (by omega) (by omega) hsm 4000)) ?_ rfl) rfl) rfl
        rintro _ _ ⟨db, tb, eb, rfl, hokb, hekb, rfl, hrb⟩
        obtain ⟨rfl, htabs⟩ := rules_lead (by have := used_len ta; omega) hrb
        have hltb : tb.length = n.nodes.length := by simpa using congrArg List.length htabs
        refine y_ (yl_move (T rfl)) (y_ (yl_extract (T rfl) rfl) (y_ (yl_extract (T rfl) rfl) (y_ (yl_assign (T rfl)) (y_ (yl_assign (T rfl)) (jl_nil (q_then (j_seq (j_seq (j_region (y_ (yl_move (T rfl)) (y_ (yl_neq (T rfl) ev_c) (y_ (yl_move (T rfl)) ?_ rfl) rfl) rfl)))))) rfl) rfl) rfl) rfl) rfl
        first | refine jl_if_d (s := 57) (at_f rfl) (fun c57 => ?_) (fun c57 => ?_) | refine jl_if (s := 57) (at_f rfl) (fun c57 => ?_) (fun c57 => ?_)
        · refine n_tf (n_tf (y_ (yl_pick_t (T rfl) ev_c) (y_ (yl_move (T rfl)) (n_tf (n_tf (n_tf (n_tf (n_tf (y_ (yl_pick_t (T rfl) ev_c) (y_ (yl_move (T rfl)) (n_tf (n_tf (n_tf (n_tf (n_tf (n_tf (y_ (yl_pick_t (T rfl) ev_c) (jl_nil (q_then (j_keep [(2, _), (3, _), (5, _), (9, _), (11, _), (12, _), (14, _), (75, _)] ⟨at_f rfl, at_f rfl, at_f rfl, at_f rfl, at_f rfl, at_f rfl, at_f rfl, at_f rfl, trivial⟩ (j_cond_t (at_f rfl) (j_seq (j_region (y_ (yl_assign ev_c) (jl_nil (q_then (j_ret (q_then_ret (q_ret rfl (.tmp (at_f rfl) .nil) ?_))))) rfl))))))) rfl) rfl rfl rfl rfl) rfl rfl rfl rfl) rfl rfl rfl rfl) rfl rfl rfl rfl) rfl rfl rfl rfl) rfl rfl rfl rfl) rfl) rfl) rfl rfl rfl rfl) rfl rfl rfl rfl) rfl rfl rfl rfl) rfl rfl rfl rfl) rfl rfl rfl rfl) rfl) rfl) rfl rfl rfl rfl) rfl rfl rfl rfl
          first | exact ⟨_, ⟨rfl, rfl⟩, sbt⟩ | (exfalso; first | omega | exact c160 trivial | exact c170 hstep | exact c177 hstep | exact c201 hlink | exact c199 hlink)
        · refine jl_y (yl_move (T rfl)) rfl (gd_y rfl rfl (at_f rfl)) (jl_y (yl_neq (T rfl) ev_c) rfl (gd_y rfl rfl (at_f rfl)) (y_ (yl_pick_f (T rfl) (T rfl)) (y_ (yl_move (T rfl)) ?_ rfl) rfl))
          first | refine jl_if_d (s := 61) (at_f rfl) (fun c61 => ?_) (fun c61 => ?_) | refine jl_if (s := 61) (at_f rfl) (fun c61 => ?_) (fun c61 => ?_)
          · refine n_tf (n_tf (n_tf (n_tf (n_tf (y_ (yl_pick_t (T rfl) ev_c) (y_ (yl_move (T rfl)) (n_tf (n_tf (n_tf (n_tf (n_tf (n_tf (y_ (yl_pick_t (T rfl) ev_c) (jl_nil (q_then (j_keep [(2, _), (3, _), (5, _), (9, _), (11, _), (12, _), (14, _), (75, _)] ⟨at_f rfl, at_f rfl, at_f rfl, at_f rfl, at_f rfl, at_f rfl, at_f rfl, at_f rfl, trivial⟩ (j_cond_t (at_f rfl) (j_seq (j_region (y_ (yl_assign ev_c) (jl_nil (q_then (j_ret (q_then_ret (q_ret rfl (.tmp (at_f rfl) .nil) ?_))))) rfl))))))) rfl) rfl rfl rfl rfl) rfl rfl rfl rfl) rfl rfl rfl rfl) rfl rfl rfl rfl) rfl rfl rfl rfl) rfl rfl rfl rfl) rfl) rfl) rfl rfl rfl rfl) rfl rfl rfl rfl) rfl rfl rfl rfl) rfl rfl rfl rfl) rfl rfl rfl rfl
            first | exact ⟨_, ⟨rfl, rfl⟩, sbt⟩ | (exfalso; first | omega | exact c160 trivial | exact c170 hstep | exact c177 hstep | exact c201 hlink | exact c199 hlink)
          · refine jl_y (yl_move (T rfl)) rfl (gd_y rfl rfl (at_f rfl)) (jl_y (yl_len (T rfl) Try.runUnderlying28) rfl (gd_y rfl rfl (at_f rfl)) (jl_y (yl_move (T rfl)) rfl (gd_y rfl rfl (at_f rfl)) (jl_y (yl_len (T rfl) Try.runUnderlying27) rfl (gd_y rfl rfl (at_f rfl)) (jl_y (yl_neq (T rfl) (T rfl)) rfl (gd_y rfl rfl (at_f rfl)) (y_ (yl_pick_f (T rfl) (T rfl)) (y_ (yl_move (T rfl)) ?_ rfl) rfl)))))
            first | refine jl_if_d (s := 68) (at_f rfl) (fun c68 => ?_) (fun c68 => ?_) | refine jl_if (s := 68) (at_f rfl) (fun c68 => ?_) (fun c68 => ?_)
            · refine n_tf (n_tf (n_tf (n_tf (n_tf (n_tf (y_ (yl_pick_t (T rfl) ev_c) (jl_nil (q_then (j_keep [(2, _), (3, _), (5, _), (9, _), (11, _), (12, _), (14, _), (75, _)] ⟨at_f rfl, at_f rfl, at_f rfl, at_f rfl, at_f rfl, at_f rfl, at_f rfl, at_f rfl, trivial⟩ (j_cond_t (at_f rfl) (j_seq (j_region (y_ (yl_assign ev_c) (jl_nil (q_then (j_ret (q_then_ret (q_ret rfl (.tmp (at_f rfl) .nil) ?_))))) rfl))))))) rfl) rfl rfl rfl rfl) rfl rfl rfl rfl) rfl rfl rfl rfl) rfl rfl rfl rfl) rfl rfl rfl rfl) rfl rfl rfl rfl
              first | exact ⟨_, ⟨rfl, rfl⟩, sbt⟩ | (exfalso; first | omega | exact c160 trivial | exact c170 hstep | exact c177 hstep | exact c201 hlink | exact c199 hlink)
            · refine jl_y (yl_move (T rfl)) rfl (gd_y rfl rfl (at_f rfl)) (jl_y (yl_len (T rfl) Try.runUnderlying39) rfl (gd_y rfl rfl (at_f rfl)) (jl_y (yl_fa0 (T rfl) fa26_0) rfl (gd_y rfl rfl (at_f rfl)) (jl_y (yl_load (T rfl) Try.isAgg22 (by first | exact c_o)) rfl (gd_y rfl rfl (at_f rfl)) ?_)))
              refine jl_y (yl_len (T rfl) Try.runUnderlying22) rfl (gd_y rfl rfl (at_f rfl)) (jl_y (yl_neq (T rfl) (T rfl)) rfl (gd_y rfl rfl (at_f rfl)) (y_ (yl_pick_f (T rfl) (T rfl)) (jl_nil (q_then (j_keep [(2, _), (3, _), (5, _), (9, _), (11, _), (12, _), (14, _), (75, _)] ⟨at_f rfl, at_f rfl, at_f rfl, at_f rfl, at_f rfl, at_f rfl, at_f rfl, at_f rfl, trivial⟩ ?_))) rfl))
              first | refine j_cond_d (at_f rfl) (fun c75 => ?_) (fun c75 => ?_) | refine j_cond (at_f rfl) (fun c75 => ?_) (fun c75 => ?_)
              · refine j_seq (j_region (y_ (yl_assign ev_c) (jl_nil (q_then (j_ret (q_then_ret (q_ret rfl (.tmp (at_f rfl) .nil) ?_))))) rfl))
                first | exact ⟨_, ⟨rfl, rfl⟩, sbt⟩ | (exfalso; first | omega | exact c160 trivial | exact c170 hstep | exact c177 hstep | exact c201 hlink | exact c199 hlink)
              · refine j_skip (q_then ?_)
                refine j_cutH (X := Unit) (V := fun u => [(16, .int .i64 ((k : Nat) : Int))]) (C := [(2, _), (5, _), (9, _), (11, _), (12, _), (14, _)]) (φ := fun u => True) ⟨at_f rfl, at_f rfl, at_f rfl, at_f rfl, at_f rfl, at_f rfl, trivial⟩ ?_ ?_
                · refine j_region (y_ (yl_move (T rfl)) (y_ (yl_convI (T rfl) Try.runUnderlying5 Try.runUnderlying3) (y_ (yl_move (T rfl)) (y_ (yl_len (T rfl) Try.runUnderlying27) (y_ (yl_rem (T rfl) (T rfl) ⟨by rw [IntWalk.i64_in _ (by omega)]; omega, by omega⟩) ?_ rfl) rfl) rfl) rfl) rfl)
                  refine y_ (yl_assign (T rfl)) (jl_nil ?_) rfl
                  refine q_cutC (()) ?_ ⟨(by first | exact at_f rfl | (refine at_e (at_f rfl) (vint ?_); omega) | (refine at_e (at_f rfl) ?_; simp; done)), trivial⟩ ⟨at_f rfl, at_f rfl, at_f rfl, at_f rfl, at_f rfl, at_f rfl, trivial⟩ sbt
                  trivial
                rintro u hx
                refine j_seq (j_region (y_ (yl_move (T rfl)) (y_ (yl_move (T rfl)) (y_ (yl_ixQ (T rfl) (T rfl) Try.runUnderlying27 Try.sizeOf48 (by first | omega | exact ⟨by decide, by decide⟩) (by first | exact rfl | exact hw.arr.b (i := k) (by omega) | exact (sl_arr (w0 := w0) (enc := encI) (sz := 1) (e := 3) (X := H) (fun _ => rfl) hoka).b (i := k) (by omega) | exact (sl_arr (w0 := w0) (enc := encTb) (sz := 1) (e := 51) (X := H) (fun _ => rfl) hokb).b (i := a.toNat) (by omega) | exact htb.arr.b (i := m) (by omega) | exact hwm.links.b (i := i) (by omega) | exact hn.links.b (i := (gd (gd l k).way.links i).toNat) (by omega) | exact (sl_arr (w0 := w0) (enc := encHd) (l := [Z]) (sz := 10) (e := 45) (X := H) (fun _ => rfl) hokd).b (i := 0) (by simp))) ?_ rfl) rfl) rfl))
                refine y_ (yl_loadA (T rfl) Try.isAgg48 Try.sizeOf48 rfl (by first | exact cs_m (hw.arr.cs (i := k) (by omega)) | exact cs_o)) ?_ rfl
                refine e_ (eff_alloc Try.zeroValue48 cs_) ?_ rfl
                rintro _ _ ⟨n17, rfl, rfl⟩
                first | refine jl_e (eff_sW (T rfl) (T rfl) Try.sizeOf48) rfl gd_n ?_
                rintro _ _ ⟨rfl, rfl⟩
                refine jl_nil (q_then (j_seq (j_region (y_ (yl_move (T rfl)) (y_ (yl_move (T rfl)) (y_ (yl_ixQ (T rfl) (T rfl) Try.runUnderlying28 Try.sizeOf3 (by first | omega | exact ⟨by decide, by decide⟩) (by first | exact rfl | exact hw.arr.b (i := k) (by omega) | exact (sl_arr (w0 := w0) (enc := encI) (sz := 1) (e := 3) (X := H) (fun _ => rfl) hoka).b (i := k) (by omega) | exact (sl_arr (w0 := w0) (enc := encTb) (sz := 1) (e := 51) (X := H) (fun _ => rfl) hokb).b (i := a.toNat) (by omega) | exact htb.arr.b (i := m) (by omega) | exact hwm.links.b (i := i) (by omega) | exact hn.links.b (i := (gd (gd l k).way.links i).toNat) (by omega) | exact (sl_arr (w0 := w0) (enc := encHd) (l := [Z]) (sz := 10) (e := 45) (X := H) (fun _ => rfl) hokd).b (i := 0) (by simp))) ?_ rfl) rfl) rfl))))
                refine y_ (yl_load (T rfl) Try.isAgg3 (by first | exact c_o | exact c_m ((sl_arr (w0 := w0) (enc := encI) (sz := 1) (e := 3) (X := H) (fun _ => rfl) hoka).f0 (i := k) (by omega) rfl))) ?_ rfl
                refine y_ (yl_ixA (T rfl) ev_c Try.runUnderlying45 Try.sizeOf3 (by first | omega | exact ⟨by decide, by decide⟩)) ?_ rfl
                first | refine jl_e (eff_sW (T rfl) (T rfl) Try.sizeOf3) rfl gd_n ?_ | refine jl_e (eff_s1 (T rfl) (T rfl) rfl Try.sizeOf3) rfl gd_n ?_ | refine jl_e (eff_s1r (T rfl) (T rfl) rfl Try.sizeOf3) rfl gd_n ?_
                rintro _ _ ⟨rfl, rfl⟩
                refine jl_nil (q_then (j_seq (j_region (y_ (yl_fa0 (T rfl) fa48_0) (y_ (yl_load (T rfl) Try.isAgg3 (by first | exact c_o)) ?_ rfl) rfl))))
                refine y_ (yl_assign (T rfl)) (jl_nil (q_then (j_seq (j_seq (j_region (y_ (yl_assign ev_c) (jl_nil (q_then (j_block ?_))) rfl)))))) rfl
                refine j_loopC (X := Nat × Int × Int × Int) (V := fun ⟨i, a, p, t⟩ => [(19, .int .i64 (i : Nat)), (18, .int .i64 a)]) (C := [(5, _), (9, _), (11, _), (14, _), (17, _)]) (G := fun ⟨i, a, p, t⟩ => (n17, Cl (encW (gd l k)) 48) :: (tsH tb ++ (slH db (tb.flatMap encTb) 51 ++ (slH da (ta.flatMap encI) 3 ++ ((n9, Cl (encHd (hdT h p t)) 45) :: (n5, Cl (encNm n) 26) :: H))))) (φ := fun ⟨i, a, p, t⟩ => i ≤ (gd l k).way.links.length + 1 ∧ (i ≤ (gd l k).way.links.length → a = gd (nodesF n.links (gd l k).way) i ∧ t = gd ta k) ∧ (0 ≤ p ∧ p ≤ 65535) ∧ (0 ≤ t ∧ t ≤ 65535)) (μ := fun ⟨i, a, p, t⟩ => (gd l k).way.links.length + 1 - i) (x0 := (0, (gd l k).way.src, h 0, gd ta k)) ?_ ⟨at_f rfl, at_f rfl, at_f rfl, at_f rfl, at_f rfl, trivial⟩ ⟨(by first | exact at_f rfl | (refine at_e (at_f rfl) (vint ?_); omega) | (refine at_e (at_f rfl) ?_; simp; done)), (by first | exact at_f rfl | (refine at_e (at_f rfl) (vint ?_); omega) | (refine at_e (at_f rfl) ?_; simp; done)), trivial⟩ sb0 ?_
                · exact ⟨by omega, fun _ => ⟨(nodes_zero _ _).symm, rfl⟩, hr 0 (by omega), by omega⟩
                rintro ⟨i, a, p, t⟩ ⟨hi, hst, hp, htr⟩
                refine j_seq (j_seq (j_region (y_ (yl_move (T rfl)) (y_ (yl_fa (T rfl) fa48_1) (y_ (yl_load (T rfl) Try.isAgg28 (by first | exact c_o)) ?_ rfl) rfl) rfl)))
                refine y_ (yl_len (T rfl) Try.runUnderlying28) (y_ (yl_leq (T rfl) (T rfl)) (jl_nil (q_then ?_)) rfl) rfl
                first | refine j_cond_d (at_f rfl) (fun c96 => ?_) (fun c96 => ?_) | refine j_cond (at_f rfl) (fun c96 => ?_) (fun c96 => ?_)
                · obtain ⟨hnode, rfl⟩ := hst (by omega)
                  obtain ⟨hpl, hn0, hn1⟩ := lead_at hgw hsk.len hcons hk (i := i) (by omega)
                  rw [← hnode] at hpl hn0 hn1
                  have htab := lead_tab (a := a.toNat) (l := l) hbd (by omega) hltb htabs
                  rw [show ((a.toNat : Nat) : Int) = a by omega] at htab
                  obtain ⟨htag, htl, hhas⟩ := htab
                  have htb : TbM w0 (tsH tb ++ H) (gd tb a.toNat) := tb_mem hekb _ (gd_mem (by omega))
                  refine j_skip (q_then (j_seq (j_block (j_seq (j_any 5 [(0, true), (1, true), (2, true), (3, true), (4, true)] _ mixd (by kernel_rfl) sb0 ?_)))))
                  refine o_y rfl (yl_move (T rfl)) (o_y rfl (yl_move (T rfl)) (o_y rfl (yl_ixR (T rfl) (T rfl) Try.runUnderlying39 Try.sizeOf51 (by first | omega | exact ⟨by decide, by decide⟩) (by first | exact rfl | exact hw.arr.b (i := k) (by omega) | exact (sl_arr (w0 := w0) (enc := encI) (sz := 1) (e := 3) (X := H) (fun _ => rfl) hoka).b (i := k) (by omega) | exact (sl_arr (w0 := w0) (enc := encTb) (sz := 1) (e := 51) (X := H) (fun _ => rfl) hokb).b (i := a.toNat) (by omega) | exact htb.arr.b (i := m) (by omega) | exact hwm.links.b (i := i) (by omega) | exact hn.links.b (i := (gd (gd l k).way.links i).toNat) (by omega) | exact (sl_arr (w0 := w0) (enc := encHd) (l := [Z]) (sz := 10) (e := 45) (X := H) (fun _ => rfl) hokd).b (i := 0) (by simp))) ?_ rfl gd_n) rfl gd_n) rfl gd_n
                  refine o_y rfl (yl_load (T rfl) Try.isAgg51 (by first | exact c_o | exact c_m ((sl_arr (w0 := w0) (enc := encTb) (sz := 1) (e := 51) (X := H) (fun _ => rfl) hokb).f0 (i := a.toNat) (by omega) rfl))) ?_ rfl gd_n
                  refine o_y rfl (yl_loadA (T rfl) Try.isAgg45 Try.sizeOf45 rfl (by first | exact cs_o)) ?_ rfl gd_n
                  refine jo_nil rfl (e_ (eff_call (.cons (T rfl) (.cons (T rfl) .nil)) Try.call22 (lookup_s (gd tb a.toNat) htb.mono (by omega) (fun m hm => by have := (htag m hm).1; omega) (hdT h p (gd ta k)) (rg_T hr hp (by omega)) (hhas k _ (by omega) hpl))) ?_ rfl)
                  rintro _ _ ⟨⟨m, rfl, hml, hmt⟩, rfl⟩
                  have hhop : (gd (gd tb a.toNat).rs m).r.hop = hopN (gd l k).way i := by
                    have h2 := (htag _ (gd_mem hml)).2
                    rw [← hmt] at h2
                    exact Option.some.inj (h2.symm.trans hpl)
                  have hrm : RmM w0 (tsH tb ++ H) (gd (gd tb a.toNat).rs m) := htb.each _ (gd_mem hml)
                  have hho := hop_ok (i := i) hin hnl hpt htg
                  rw [← hhop] at hho
                  refine y_ (yl_assign (T rfl)) (jl_nil (q_then (j_seq (j_seq (j_region (y_ (yl_move (T rfl)) (y_ (yl_lss (T rfl) ev_c) (jl_nil (q_then ?_)) rfl) rfl)))))) rfl
                  first | refine j_cond_d (at_f rfl) (fun c106 => ?_) (fun c106 => ?_) | refine j_cond (at_f rfl) (fun c106 => ?_) (fun c106 => ?_)
                  · exfalso; omega
                  · refine j_skip (q_then (j_seq (j_region (y_ (yl_move (T rfl)) (y_ (yl_move (T rfl)) (y_ (yl_ixR (T rfl) (T rfl) Try.runUnderlying39 Try.sizeOf51 (by first | omega | exact ⟨by decide, by decide⟩) (by first | exact rfl | exact hw.arr.b (i := k) (by omega) | exact (sl_arr (w0 := w0) (enc := encI) (sz := 1) (e := 3) (X := H) (fun _ => rfl) hoka).b (i := k) (by omega) | exact (sl_arr (w0 := w0) (enc := encTb) (sz := 1) (e := 51) (X := H) (fun _ => rfl) hokb).b (i := a.toNat) (by omega) | exact htb.arr.b (i := m) (by omega) | exact hwm.links.b (i := i) (by omega) | exact hn.links.b (i := (gd (gd l k).way.links i).toNat) (by omega) | exact (sl_arr (w0 := w0) (enc := encHd) (l := [Z]) (sz := 10) (e := 45) (X := H) (fun _ => rfl) hokd).b (i := 0) (by simp))) ?_ rfl) rfl) rfl))))
                    refine y_ (yl_load (T rfl) Try.isAgg51 (by first | exact c_o | exact c_m ((sl_arr (w0 := w0) (enc := encTb) (sz := 1) (e := 51) (X := H) (fun _ => rfl) hokb).f0 (i := a.toNat) (by omega) rfl))) ?_ rfl
                    refine y_ (yl_move (T rfl)) (y_ (yl_ixQ (T rfl) (T rfl) Try.runUnderlying51 Try.sizeOf56 (by first | omega | exact ⟨by decide, by decide⟩) (by first | exact rfl | exact hw.arr.b (i := k) (by omega) | exact (sl_arr (w0 := w0) (enc := encI) (sz := 1) (e := 3) (X := H) (fun _ => rfl) hoka).b (i := k) (by omega) | exact (sl_arr (w0 := w0) (enc := encTb) (sz := 1) (e := 51) (X := H) (fun _ => rfl) hokb).b (i := a.toNat) (by omega) | exact htb.arr.b (i := m) (by omega) | exact hwm.links.b (i := i) (by omega) | exact hn.links.b (i := (gd (gd l k).way.links i).toNat) (by omega) | exact (sl_arr (w0 := w0) (enc := encHd) (l := [Z]) (sz := 10) (e := 45) (X := H) (fun _ => rfl) hokd).b (i := 0) (by simp))) ?_ rfl) rfl
                    refine y_ (yl_loadA (T rfl) Try.isAgg56 Try.sizeOf56 rfl (by first | exact cs_m (htb.arr.cs (i := m) (by omega)) | exact cs_o)) ?_ rfl
                    refine e_ (eff_alloc Try.zeroValue56 cs_) ?_ rfl
                    rintro _ _ ⟨n21, rfl, rfl⟩
                    first | refine jl_e (eff_sW (T rfl) (T rfl) Try.sizeOf56) rfl gd_n ?_
                    rintro _ _ ⟨rfl, rfl⟩
                    refine jl_nil (q_then (j_keep [(5, _), (9, _), (11, _), (14, _), (17, _), (18, _), (19, _), (21, _)] ⟨at_f rfl, at_f rfl, at_f rfl, at_f rfl, at_f rfl, at_f rfl, at_f rfl, at_f rfl, trivial⟩ (j_seq (j_any 4 [(0, true), (1, true), (2, true), (3, true)] _ mixd (by kernel_rfl) sb0 ?_))))
                    refine o_y rfl (yl_loadA (T rfl) Try.isAgg26 Try.sizeOf26 rfl (by first | exact cs_o)) ?_ rfl gd_n
                    refine o_y rfl (yl_call .nil Try.call24 (fun H' hs => none_s)) (o_y rfl (yl_loadA (T rfl) Try.isAgg56 Try.sizeOf56 rfl (by first | exact cs_o)) ?_ rfl gd_n) rfl gd_n
                    refine o_y rfl (yl_loadA (T rfl) Try.isAgg45 Try.sizeOf45 rfl (by first | exact cs_o)) ?_ rfl gd_n
                    refine jo_nil rfl (e_ (eff_call (.cons (T rfl) (.cons (T rfl) (.cons (T rfl) (.cons (T rfl) .nil)))) Try.call23 (send_s n hn.mono hnet (gd (gd tb a.toNat).rs m) hrm.mono (hdT h p (gd ta k)) (rg_T hr hp (by omega)) hho.1 hho.2.1 hho.2.2)) ?_ rfl)
                    rintro _ _ ⟨dd, rfl, hokd, rfl⟩
                    rw [hop_head, hhop]
                    generalize hZ : hdT h (hopN (gd l k).way i).port (if (hopN (gd l k).way i).link < 0 then (hopN (gd l k).way i).tag else gd ta k) = Z
                    refine y_ (yl_assign (T rfl)) (jl_nil (q_then (j_seq (j_seq (j_region (y_ (yl_move (T rfl)) (y_ (yl_len (T rfl) Try.runUnderlying57) (y_ (yl_neq (T rfl) ev_c) (jl_nil (q_then ?_)) rfl) rfl) rfl)))))) rfl
                    first | refine j_cond_d (at_f rfl) (fun c121 => ?_) (fun c121 => ?_) | refine j_cond (at_f rfl) (fun c121 => ?_) (fun c121 => ?_)
                    · exfalso; omega
                    · refine j_skip (q_then (j_seq (j_region (y_ (yl_loadA (T rfl) Try.isAgg45 Try.sizeOf45 rfl (by first | exact cs_o)) ?_ rfl))))
                      refine e_ (eff_alloc Try.zeroValue45 cs_) ?_ rfl
                      rintro _ _ ⟨n23, rfl, rfl⟩
                      first | refine jl_e (eff_sW (T rfl) (T rfl) Try.sizeOf45) rfl gd_n ?_
                      rintro _ _ ⟨rfl, rfl⟩
                      refine jl_nil (q_then (j_seq (j_seq (j_region (y_ (yl_move (T rfl)) (y_ (yl_fa (T rfl) fa48_1) (y_ (yl_load (T rfl) Try.isAgg28 (by first | exact c_o)) ?_ rfl) rfl) rfl)))))
                      refine y_ (yl_len (T rfl) Try.runUnderlying28) (y_ (yl_lss (T rfl) (T rfl)) (jl_nil (q_then (j_keep [(5, _), (9, _), (11, _), (14, _), (17, _), (18, _), (19, _), (21, _), (22, _), (23, _), (127, _)] ⟨at_f rfl, at_f rfl, at_f rfl, at_f rfl, at_f rfl, at_f rfl, at_f rfl, at_f rfl, at_f rfl, at_f rfl, at_f rfl, trivial⟩ ?_))) rfl) rfl
                      first | refine j_cond_d (at_f rfl) (fun c127 => ?_) (fun c127 => ?_) | refine j_cond (at_f rfl) (fun c127 => ?_) (fun c127 => ?_)
                      · have hlt2 : i < (gd l k).way.links.length := by omega
                        have hli := hin i hlt2
                        have hz : Z = hdT h (gd (gd l k).way.links i) (gd ta k) := by
                          rw [← hZ, hop_go hlt2]
                          show hdT h (gd (gd l k).way.links i) (if gd (gd l k).way.links i < 0 then _ else _) = _
                          rw [if_neg (by omega)]
                        have hstep : (gd (gd tb a.toNat).rs m).r.hop.step = -1 := by rw [hhop, hop_go hlt2]
                        have hlink : (gd (gd tb a.toNat).rs m).r.hop.link = gd (gd l k).way.links i := by rw [hhop, hop_go hlt2]
                        refine j_seq (j_region (y_ (yl_fa (T rfl) fa48_1) (y_ (yl_load (T rfl) Try.isAgg28 (by first | exact c_o)) ?_ rfl) rfl))
                        refine y_ (yl_move (T rfl)) (y_ (yl_ixQ (T rfl) (T rfl) Try.runUnderlying28 Try.sizeOf3 (by first | omega | exact ⟨by decide, by decide⟩) (by first | exact rfl | exact hw.arr.b (i := k) (by omega) | exact (sl_arr (w0 := w0) (enc := encI) (sz := 1) (e := 3) (X := H) (fun _ => rfl) hoka).b (i := k) (by omega) | exact (sl_arr (w0 := w0) (enc := encTb) (sz := 1) (e := 51) (X := H) (fun _ => rfl) hokb).b (i := a.toNat) (by omega) | exact htb.arr.b (i := m) (by omega) | exact hwm.links.b (i := i) (by omega) | exact hn.links.b (i := (gd (gd l k).way.links i).toNat) (by omega) | exact (sl_arr (w0 := w0) (enc := encHd) (l := [Z]) (sz := 10) (e := 45) (X := H) (fun _ => rfl) hokd).b (i := 0) (by simp))) ?_ rfl) rfl
                        refine y_ (yl_load (T rfl) Try.isAgg3 (by first | exact c_o | exact c_m (hwm.links.f0 (i := i) (by omega) rfl))) ?_ rfl
                        refine y_ (yl_ixA (T rfl) ev_c Try.runUnderlying45 Try.sizeOf3 (by first | omega | exact ⟨by decide, by decide⟩)) ?_ rfl
                        first | refine jl_e (eff_sW (T rfl) (T rfl) Try.sizeOf3) rfl gd_n ?_ | refine jl_e (eff_s1 (T rfl) (T rfl) rfl Try.sizeOf3) rfl gd_n ?_ | refine jl_e (eff_s1r (T rfl) (T rfl) rfl Try.sizeOf3) rfl gd_n ?_
                        rintro _ _ ⟨rfl, rfl⟩
                        refine jl_nil (q_then (j_any 11 [(0, true), (1, true), (2, true), (3, true), (4, true), (5, true), (6, true), (7, true), (8, true), (9, true), (10, true)] _ mixd (by kernel_rfl) sb0 ?_))
                        refine o_y rfl (yl_fa (T rfl) fa26_1) (o_y rfl (yl_load (T rfl) Try.isAgg23 (by first | exact c_o)) ?_ rfl gd_n) rfl gd_n
                        refine o_y rfl (yl_fa (T rfl) fa48_1) (o_y rfl (yl_load (T rfl) Try.isAgg28 (by first | exact c_o)) ?_ rfl gd_n) rfl gd_n
                        refine o_y rfl (yl_move (T rfl)) (o_y rfl (yl_ixQ (T rfl) (T rfl) Try.runUnderlying28 Try.sizeOf3 (by first | omega | exact ⟨by decide, by decide⟩) (by first | exact rfl | exact hw.arr.b (i := k) (by omega) | exact (sl_arr (w0 := w0) (enc := encI) (sz := 1) (e := 3) (X := H) (fun _ => rfl) hoka).b (i := k) (by omega) | exact (sl_arr (w0 := w0) (enc := encTb) (sz := 1) (e := 51) (X := H) (fun _ => rfl) hokb).b (i := a.toNat) (by omega) | exact htb.arr.b (i := m) (by omega) | exact hwm.links.b (i := i) (by omega) | exact hn.links.b (i := (gd (gd l k).way.links i).toNat) (by omega) | exact (sl_arr (w0 := w0) (enc := encHd) (l := [Z]) (sz := 10) (e := 45) (X := H) (fun _ => rfl) hokd).b (i := 0) (by simp))) ?_ rfl gd_n) rfl gd_n
                        refine o_y rfl (yl_load (T rfl) Try.isAgg3 (by first | exact c_o | exact c_m (hwm.links.f0 (i := i) (by omega) rfl))) ?_ rfl gd_n
                        refine o_y rfl (yl_ixR (T rfl) (T rfl) Try.runUnderlying23 Try.sizeOf63 (by first | omega | exact ⟨by decide, by decide⟩) (by first | exact rfl | exact hw.arr.b (i := k) (by omega) | exact (sl_arr (w0 := w0) (enc := encI) (sz := 1) (e := 3) (X := H) (fun _ => rfl) hoka).b (i := k) (by omega) | exact (sl_arr (w0 := w0) (enc := encTb) (sz := 1) (e := 51) (X := H) (fun _ => rfl) hokb).b (i := a.toNat) (by omega) | exact htb.arr.b (i := m) (by omega) | exact hwm.links.b (i := i) (by omega) | exact hn.links.b (i := (gd (gd l k).way.links i).toNat) (by omega) | exact (sl_arr (w0 := w0) (enc := encHd) (l := [Z]) (sz := 10) (e := 45) (X := H) (fun _ => rfl) hokd).b (i := 0) (by simp))) ?_ rfl gd_n
                        refine o_y rfl (yl_fa (T rfl) fa63_1) (o_y rfl (yl_load (T rfl) Try.isAgg3 (by first | exact c_o | exact c_m (hn.links.f (i := (gd (gd l k).way.links i).toNat) (by omega) rfl))) ?_ rfl gd_n) rfl gd_n
                        refine o_y rfl (yl_assign (T rfl)) (jo_nil rfl (jl_nil (q_then (j_keep [(5, _), (9, _), (11, _), (14, _), (17, _), (18, _), (19, _), (21, _), (22, _), (23, _)] ⟨at_f rfl, at_f rfl, at_f rfl, at_f rfl, at_f rfl, at_f rfl, at_f rfl, at_f rfl, at_f rfl, at_f rfl, trivial⟩ (j_seq (j_region (y_ (yl_move (T rfl)) (y_ (yl_fa (T rfl) fa48_1) (y_ (yl_load (T rfl) Try.isAgg28 (by first | exact c_o)) ?_ rfl) rfl) rfl))))))) rfl gd_n
                        refine y_ (yl_len (T rfl) Try.runUnderlying28) (y_ (yl_eql (T rfl) (T rfl)) (y_ (yl_assign (T rfl)) (jl_nil (q_then (j_seq (j_seq (j_any 47 [(0, true), (1, true), (2, true), (3, true), (4, true), (5, true), (6, true), (7, true), (8, true), (9, true), (10, true), (11, true), (12, true), (13, true), (14, true), (15, true), (16, true), (17, true), (18, true), (19, true), (20, true), (21, true), (22, true), (23, true), (24, true), (25, true), (26, true), (27, true), (28, true), (29, true), (30, true), (31, true), (32, true), (33, true), (34, true), (35, true), (36, true), (37, true), (38, true), (39, true), (40, true), (41, true), (42, true), (43, true), (44, true), (45, true), (46, true)] _ mixd (by kernel_rfl) sb0 ?_))))) rfl) rfl) rfl
                        refine o_y rfl (yl_move (T rfl)) (o_y rfl (yl_ixR (T rfl) ev_c Try.runUnderlying57 Try.sizeOf45 (by first | omega | exact ⟨by decide, by decide⟩) (by first | exact rfl | exact hw.arr.b (i := k) (by omega) | exact (sl_arr (w0 := w0) (enc := encI) (sz := 1) (e := 3) (X := H) (fun _ => rfl) hoka).b (i := k) (by omega) | exact (sl_arr (w0 := w0) (enc := encTb) (sz := 1) (e := 51) (X := H) (fun _ => rfl) hokb).b (i := a.toNat) (by omega) | exact htb.arr.b (i := m) (by omega) | exact hwm.links.b (i := i) (by omega) | exact hn.links.b (i := (gd (gd l k).way.links i).toNat) (by omega) | exact (sl_arr (w0 := w0) (enc := encHd) (l := [Z]) (sz := 10) (e := 45) (X := H) (fun _ => rfl) hokd).b (i := 0) (by simp))) ?_ rfl gd_n) rfl gd_n
                        refine o_y rfl (yl_loadA (T rfl) Try.isAgg45 Try.sizeOf45 rfl (by first | exact cs_m ((sl_arr (w0 := w0) (enc := encHd) (l := [Z]) (sz := 10) (e := 45) (X := H) (fun _ => rfl) hokd).cs (i := 0) (by simp)) | exact cs_o)) ?_ rfl gd_n
                        refine o_y rfl (yl_loadA (T rfl) Try.isAgg45 Try.sizeOf45 rfl (by first | exact cs_o)) ?_ rfl gd_n
                        refine o_y rfl (yl_neqA (T rfl) (T rfl) Try.eqGuardType45 (q := True) (eqZ hz)) (o_y rfl (yl_move (T rfl)) ?_ rfl gd_n) rfl gd_n
                        first | refine o_if_d (s := 160) (at_f rfl) (fun c160 => ?_) (fun c160 => ?_) | refine o_if (s := 160) (at_f rfl) (fun c160 => ?_) (fun c160 => ?_)
                        · refine o_n rfl (o_n rfl (o_n rfl (o_n rfl (o_n rfl (o_n rfl (o_n rfl (o_n rfl (o_y rfl (yl_pick_t (T rfl) ev_c) (o_y rfl (yl_move (T rfl)) (o_n rfl (o_n rfl (o_n rfl (o_n rfl (o_n rfl (o_n rfl (o_n rfl (o_n rfl (o_n rfl (o_n rfl (o_n rfl (o_n rfl (o_n rfl (o_n rfl (o_n rfl (o_n rfl (o_n rfl (o_n rfl (o_n rfl (o_n rfl (o_n rfl (o_n rfl (o_n rfl (o_n rfl (o_n rfl (o_n rfl (o_n rfl (o_n rfl (o_n rfl (o_n rfl (o_y rfl (yl_pick_t (T rfl) ev_c) (jo_nil rfl (jl_nil (q_then (j_keep [(5, _), (9, _), (11, _), (14, _), (17, _), (18, _), (19, _), (22, _), (201, _)] ⟨at_f rfl, at_f rfl, at_f rfl, at_f rfl, at_f rfl, at_f rfl, at_f rfl, at_f rfl, at_f rfl, trivial⟩ (j_cond_t (at_f rfl) (j_seq (j_region (y_ (yl_assign ev_c) (jl_nil (q_then (j_ret (q_then_ret (q_block_ret (q_then_ret (q_loop_ret (q_block_ret (q_then_ret (q_ret rfl (.tmp (at_f rfl) .nil) ?_)))))))))) rfl)))))))) rfl gd_n) rfl (nw_tf rfl rfl (at_f rfl))) rfl (nw_u rfl rfl (at_f rfl))) rfl (nw_u rfl rfl (at_f rfl))) rfl (nw_u rfl rfl (at_f rfl))) rfl (nw_u rfl rfl (at_f rfl))) rfl (nw_u rfl rfl (at_f rfl))) rfl (nw_u rfl rfl (at_f rfl))) rfl (nw_u rfl rfl (at_f rfl))) rfl (nw_u rfl rfl (at_f rfl))) rfl (nw_u rfl rfl (at_f rfl))) rfl (nw_u rfl rfl (at_f rfl))) rfl (nw_u rfl rfl (at_f rfl))) rfl (nw_u rfl rfl (at_f rfl))) rfl (nw_u rfl rfl (at_f rfl))) rfl (nw_u rfl rfl (at_f rfl))) rfl (nw_u rfl rfl (at_f rfl))) rfl (nw_u rfl rfl (at_f rfl))) rfl (nw_u rfl rfl (at_f rfl))) rfl (nw_u rfl rfl (at_f rfl))) rfl (nw_u rfl rfl (at_f rfl))) rfl (nw_u rfl rfl (at_f rfl))) rfl (nw_u rfl rfl (at_f rfl))) rfl (nw_u rfl rfl (at_f rfl))) rfl (nw_u rfl rfl (at_f rfl))) rfl (nw_u rfl rfl (at_f rfl))) rfl (nw_u rfl rfl (at_f rfl))) rfl (nw_u rfl rfl (at_f rfl))) rfl (nw_tf rfl rfl (at_f rfl))) rfl (nw_tf rfl rfl (at_f rfl))) rfl (nw_tf rfl rfl (at_f rfl))) rfl gd_n) rfl gd_n) rfl (nw_tf rfl rfl (at_f rfl))) rfl (nw_u rfl rfl (at_f rfl))) rfl (nw_u rfl rfl (at_f rfl))) rfl (nw_u rfl rfl (at_f rfl))) rfl (nw_u rfl rfl (at_f rfl))) rfl (nw_u rfl rfl (at_f rfl))) rfl (nw_tf rfl rfl (at_f rfl))) rfl (nw_tf rfl rfl (at_f rfl))
                          first | exact ⟨_, ⟨rfl, rfl⟩, sbt⟩ | (exfalso; first | omega | exact c160 trivial | exact c170 hstep | exact c177 hstep | exact c201 hlink | exact c199 hlink)
                        · refine o_y rfl (yl_move (T rfl)) (o_y rfl (yl_move (T rfl)) ?_ rfl (gd_y rfl rfl (at_f rfl))) rfl (gd_y rfl rfl (at_f rfl))
                          first | refine o_if_d (s := 162) (at_f rfl) (fun c162 => ?_) (fun c162 => ?_) | refine o_if (s := 162) (at_f rfl) (fun c162 => ?_) (fun c162 => ?_)
                          · refine o_y rfl (yl_fa (T rfl) fa56_2) (o_y rfl (yl_load (T rfl) Try.isAgg3 (by first | exact c_o)) ?_ rfl (gd_y rfl rfl (at_f rfl))) rfl (gd_y rfl rfl (at_f rfl))
                            refine o_y rfl (yl_fa (T rfl) fa48_4) (o_y rfl (yl_load (T rfl) Try.isAgg3 (by first | exact c_o)) ?_ rfl (gd_y rfl rfl (at_f rfl))) rfl (gd_y rfl rfl (at_f rfl))
                            refine o_y rfl (yl_neq (T rfl) (T rfl)) (o_y rfl (yl_pick_t (T rfl) (T rfl)) (o_y rfl (yl_pick_f (T rfl) (T rfl)) (o_y rfl (yl_move (T rfl)) ?_ rfl gd_n) rfl gd_n) rfl (gd_y rfl rfl (at_f rfl))) rfl (gd_y rfl rfl (at_f rfl))
                            first | refine o_if_d (s := 170) (at_f rfl) (fun c170 => ?_) (fun c170 => ?_) | refine o_if (s := 170) (at_f rfl) (fun c170 => ?_) (fun c170 => ?_)
                            · refine o_n rfl (o_n rfl (o_n rfl (o_n rfl (o_n rfl (o_n rfl (o_n rfl (o_n rfl (o_n rfl (o_n rfl (o_n rfl (o_n rfl (o_n rfl (o_n rfl (o_n rfl (o_n rfl (o_n rfl (o_n rfl (o_n rfl (o_n rfl (o_n rfl (o_n rfl (o_n rfl (o_n rfl (o_n rfl (o_n rfl (o_n rfl (o_n rfl (o_n rfl (o_n rfl (o_y rfl (yl_pick_t (T rfl) ev_c) (jo_nil rfl (jl_nil (q_then (j_keep [(5, _), (9, _), (11, _), (14, _), (17, _), (18, _), (19, _), (22, _), (201, _)] ⟨at_f rfl, at_f rfl, at_f rfl, at_f rfl, at_f rfl, at_f rfl, at_f rfl, at_f rfl, at_f rfl, trivial⟩ (j_cond_t (at_f rfl) (j_seq (j_region (y_ (yl_assign ev_c) (jl_nil (q_then (j_ret (q_then_ret (q_block_ret (q_then_ret (q_loop_ret (q_block_ret (q_then_ret (q_ret rfl (.tmp (at_f rfl) .nil) ?_)))))))))) rfl)))))))) rfl gd_n) rfl (nw_tf rfl rfl (at_f rfl))) rfl (nw_u rfl rfl (at_f rfl))) rfl (nw_u rfl rfl (at_f rfl))) rfl (nw_u rfl rfl (at_f rfl))) rfl (nw_u rfl rfl (at_f rfl))) rfl (nw_u rfl rfl (at_f rfl))) rfl (nw_u rfl rfl (at_f rfl))) rfl (nw_u rfl rfl (at_f rfl))) rfl (nw_u rfl rfl (at_f rfl))) rfl (nw_u rfl rfl (at_f rfl))) rfl (nw_u rfl rfl (at_f rfl))) rfl (nw_u rfl rfl (at_f rfl))) rfl (nw_u rfl rfl (at_f rfl))) rfl (nw_u rfl rfl (at_f rfl))) rfl (nw_u rfl rfl (at_f rfl))) rfl (nw_u rfl rfl (at_f rfl))) rfl (nw_u rfl rfl (at_f rfl))) rfl (nw_u rfl rfl (at_f rfl))) rfl (nw_u rfl rfl (at_f rfl))) rfl (nw_u rfl rfl (at_f rfl))) rfl (nw_u rfl rfl (at_f rfl))) rfl (nw_u rfl rfl (at_f rfl))) rfl (nw_u rfl rfl (at_f rfl))) rfl (nw_u rfl rfl (at_f rfl))) rfl (nw_u rfl rfl (at_f rfl))) rfl (nw_u rfl rfl (at_f rfl))) rfl (nw_u rfl rfl (at_f rfl))) rfl (nw_tf rfl rfl (at_f rfl))) rfl (nw_tf rfl rfl (at_f rfl))) rfl (nw_tf rfl rfl (at_f rfl))
                              first | exact ⟨_, ⟨rfl, rfl⟩, sbt⟩ | (exfalso; first | omega | exact c160 trivial | exact c170 hstep | exact c177 hstep | exact c201 hlink | exact c199 hlink)
                            · refine o_y rfl (yl_move (T rfl)) ?_ rfl (gd_y rfl rfl (at_f rfl))
                              first | refine o_y rfl (yl_not_d (T rfl)) ?_ rfl (gd_y rfl rfl (at_f rfl)) | refine o_y rfl (yl_not (T rfl)) ?_ rfl (gd_y rfl rfl (at_f rfl))
                              refine o_y rfl (yl_move (T rfl)) ?_ rfl (gd_y rfl rfl (at_f rfl))
                              first | refine o_if_d (s := 173) (at_f rfl) (fun c173 => ?_) (fun c173 => ?_) | refine o_if (s := 173) (at_f rfl) (fun c173 => ?_) (fun c173 => ?_)
                              · refine o_y rfl (yl_fa (T rfl) fa56_2) (o_y rfl (yl_load (T rfl) Try.isAgg3 (by first | exact c_o)) ?_ rfl (gd_y rfl rfl (at_f rfl))) rfl (gd_y rfl rfl (at_f rfl))
                                refine o_y rfl (yl_neq (T rfl) ev_c) (o_y rfl (yl_move (T rfl)) ?_ rfl (gd_y rfl rfl (at_f rfl))) rfl (gd_y rfl rfl (at_f rfl))
                                first | refine o_if_d (s := 177) (at_f rfl) (fun c177 => ?_) (fun c177 => ?_) | refine o_if (s := 177) (at_f rfl) (fun c177 => ?_) (fun c177 => ?_)
                                · refine o_n rfl (o_n rfl (o_n rfl (o_n rfl (o_n rfl (o_n rfl (o_y rfl (yl_pick_t (T rfl) ev_c) (o_y rfl (yl_move (T rfl)) (o_n rfl (o_n rfl (o_n rfl (o_n rfl (o_n rfl (o_n rfl (o_n rfl (o_n rfl (o_n rfl (o_n rfl (o_n rfl (o_n rfl (o_n rfl (o_y rfl (yl_pick_t (T rfl) ev_c) (o_y rfl (yl_pick_t (T rfl) (T rfl)) (o_y rfl (yl_pick_f (T rfl) (T rfl)) (jo_nil rfl (jl_nil (q_then (j_keep [(5, _), (9, _), (11, _), (14, _), (17, _), (18, _), (19, _), (22, _), (201, _)] ⟨at_f rfl, at_f rfl, at_f rfl, at_f rfl, at_f rfl, at_f rfl, at_f rfl, at_f rfl, at_f rfl, trivial⟩ (j_cond_t (at_f rfl) (j_seq (j_region (y_ (yl_assign ev_c) (jl_nil (q_then (j_ret (q_then_ret (q_block_ret (q_then_ret (q_loop_ret (q_block_ret (q_then_ret (q_ret rfl (.tmp (at_f rfl) .nil) ?_)))))))))) rfl)))))))) rfl gd_n) rfl (gd_y rfl rfl (at_f rfl))) rfl (gd_y rfl rfl (at_f rfl))) rfl (nw_tf rfl rfl (at_f rfl))) rfl (nw_tf rfl rfl (at_f rfl))) rfl (nw_tf rfl rfl (at_f rfl))) rfl (nw_tf rfl rfl (at_f rfl))) rfl (nw_tf rfl rfl (at_f rfl))) rfl (nw_tf rfl rfl (at_f rfl))) rfl (nw_tf rfl rfl (at_f rfl))) rfl (nw_tf rfl rfl (at_f rfl))) rfl (nw_tf rfl rfl (at_f rfl))) rfl (nw_tf rfl rfl (at_f rfl))) rfl (nw_tf rfl rfl (at_f rfl))) rfl (nw_tf rfl rfl (at_f rfl))) rfl (nw_tf rfl rfl (at_f rfl))) rfl (gd_y rfl rfl (at_f rfl))) rfl (gd_y rfl rfl (at_f rfl))) rfl (nw_tf rfl rfl (at_f rfl))) rfl (nw_tf rfl rfl (at_f rfl))) rfl (nw_tf rfl rfl (at_f rfl))) rfl (nw_tf rfl rfl (at_f rfl))) rfl (nw_tf rfl rfl (at_f rfl))) rfl (nw_tf rfl rfl (at_f rfl))
                                  first | exact ⟨_, ⟨rfl, rfl⟩, sbt⟩ | (exfalso; first | omega | exact c160 trivial | exact c170 hstep | exact c177 hstep | exact c201 hlink | exact c199 hlink)
                                · refine o_y rfl (yl_fa (T rfl) fa56_3) (o_y rfl (yl_load (T rfl) Try.isAgg54 (by first | exact c_o)) ?_ rfl (gd_y rfl rfl (at_f rfl))) rfl (gd_y rfl rfl (at_f rfl))
                                  refine o_y rfl (yl_ixR (T rfl) ev_c Try.runUnderlying54 Try.sizeOf64 (by first | omega | exact ⟨by decide, by decide⟩) (by first | exact rfl | exact hw.arr.b (i := k) (by omega) | exact (sl_arr (w0 := w0) (enc := encI) (sz := 1) (e := 3) (X := H) (fun _ => rfl) hoka).b (i := k) (by omega) | exact (sl_arr (w0 := w0) (enc := encTb) (sz := 1) (e := 51) (X := H) (fun _ => rfl) hokb).b (i := a.toNat) (by omega) | exact htb.arr.b (i := m) (by omega) | exact hwm.links.b (i := i) (by omega) | exact hn.links.b (i := (gd (gd l k).way.links i).toNat) (by omega) | exact (sl_arr (w0 := w0) (enc := encHd) (l := [Z]) (sz := 10) (e := 45) (X := H) (fun _ => rfl) hokd).b (i := 0) (by simp))) ?_ rfl (gd_y rfl rfl (at_f rfl))
                                  refine o_y rfl (yl_load (T rfl) Try.isAgg64 (by first | exact c_o | exact c_m (hrm.o))) ?_ rfl (gd_y rfl rfl (at_f rfl))
                                  refine o_y rfl (yl_len (T rfl) Try.runUnderlying64) (o_y rfl (yl_neq (T rfl) ev_c) (o_y rfl (yl_pick_f (T rfl) (T rfl)) (o_y rfl (yl_move (T rfl)) ?_ rfl (gd_y rfl rfl (at_f rfl))) rfl (gd_y rfl rfl (at_f rfl))) rfl (gd_y rfl rfl (at_f rfl))) rfl (gd_y rfl rfl (at_f rfl))
                                  first | refine o_if_d (s := 185) (at_f rfl) (fun c185 => ?_) (fun c185 => ?_) | refine o_if (s := 185) (at_f rfl) (fun c185 => ?_) (fun c185 => ?_)
                                  · refine o_n rfl (o_n rfl (o_n rfl (o_n rfl (o_n rfl (o_n rfl (o_n rfl (o_n rfl (o_n rfl (o_n rfl (o_n rfl (o_n rfl (o_n rfl (o_y rfl (yl_pick_t (T rfl) ev_c) (o_y rfl (yl_pick_t (T rfl) (T rfl)) (o_y rfl (yl_pick_f (T rfl) (T rfl)) (jo_nil rfl (jl_nil (q_then (j_keep [(5, _), (9, _), (11, _), (14, _), (17, _), (18, _), (19, _), (22, _), (201, _)] ⟨at_f rfl, at_f rfl, at_f rfl, at_f rfl, at_f rfl, at_f rfl, at_f rfl, at_f rfl, at_f rfl, trivial⟩ (j_cond_t (at_f rfl) (j_seq (j_region (y_ (yl_assign ev_c) (jl_nil (q_then (j_ret (q_then_ret (q_block_ret (q_then_ret (q_loop_ret (q_block_ret (q_then_ret (q_ret rfl (.tmp (at_f rfl) .nil) ?_)))))))))) rfl)))))))) rfl gd_n) rfl (gd_y rfl rfl (at_f rfl))) rfl (gd_y rfl rfl (at_f rfl))) rfl (nw_tf rfl rfl (at_f rfl))) rfl (nw_tf rfl rfl (at_f rfl))) rfl (nw_tf rfl rfl (at_f rfl))) rfl (nw_tf rfl rfl (at_f rfl))) rfl (nw_tf rfl rfl (at_f rfl))) rfl (nw_tf rfl rfl (at_f rfl))) rfl (nw_tf rfl rfl (at_f rfl))) rfl (nw_tf rfl rfl (at_f rfl))) rfl (nw_tf rfl rfl (at_f rfl))) rfl (nw_tf rfl rfl (at_f rfl))) rfl (nw_tf rfl rfl (at_f rfl))) rfl (nw_tf rfl rfl (at_f rfl))) rfl (nw_tf rfl rfl (at_f rfl))
                                    first | exact ⟨_, ⟨rfl, rfl⟩, sbt⟩ | (exfalso; first | omega | exact c160 trivial | exact c170 hstep | exact c177 hstep | exact c201 hlink | exact c199 hlink)
                                  · refine o_y rfl (yl_fa (T rfl) fa56_3) (o_y rfl (yl_load (T rfl) Try.isAgg54 (by first | exact c_o)) ?_ rfl (gd_y rfl rfl (at_f rfl))) rfl (gd_y rfl rfl (at_f rfl))
                                    refine o_y rfl (yl_ixR (T rfl) ev_c Try.runUnderlying54 Try.sizeOf64 (by first | omega | exact ⟨by decide, by decide⟩) (by first | exact rfl | exact hw.arr.b (i := k) (by omega) | exact (sl_arr (w0 := w0) (enc := encI) (sz := 1) (e := 3) (X := H) (fun _ => rfl) hoka).b (i := k) (by omega) | exact (sl_arr (w0 := w0) (enc := encTb) (sz := 1) (e := 51) (X := H) (fun _ => rfl) hokb).b (i := a.toNat) (by omega) | exact htb.arr.b (i := m) (by omega) | exact hwm.links.b (i := i) (by omega) | exact hn.links.b (i := (gd (gd l k).way.links i).toNat) (by omega) | exact (sl_arr (w0 := w0) (enc := encHd) (l := [Z]) (sz := 10) (e := 45) (X := H) (fun _ => rfl) hokd).b (i := 0) (by simp))) ?_ rfl (gd_y rfl rfl (at_f rfl))
                                    refine o_y rfl (yl_load (T rfl) Try.isAgg64 (by first | exact c_o | exact c_m (hrm.o))) ?_ rfl (gd_y rfl rfl (at_f rfl))
                                    refine o_y rfl (yl_ixR (T rfl) ev_c Try.runUnderlying64 Try.sizeOf67 (by first | omega | exact ⟨by decide, by decide⟩) (by first | exact rfl | exact hw.arr.b (i := k) (by omega) | exact (sl_arr (w0 := w0) (enc := encI) (sz := 1) (e := 3) (X := H) (fun _ => rfl) hoka).b (i := k) (by omega) | exact (sl_arr (w0 := w0) (enc := encTb) (sz := 1) (e := 51) (X := H) (fun _ => rfl) hokb).b (i := a.toNat) (by omega) | exact htb.arr.b (i := m) (by omega) | exact hwm.links.b (i := i) (by omega) | exact hn.links.b (i := (gd (gd l k).way.links i).toNat) (by omega) | exact (sl_arr (w0 := w0) (enc := encHd) (l := [Z]) (sz := 10) (e := 45) (X := H) (fun _ => rfl) hokd).b (i := 0) (by simp))) ?_ rfl (gd_y rfl rfl (at_f rfl))
                                    refine o_y rfl (yl_fa0 (T rfl) fa67_0) (o_y rfl (yl_load (T rfl) Try.isAgg3 (by first | exact c_o | exact c_m (hrm.a 0 _ rfl))) ?_ rfl (gd_y rfl rfl (at_f rfl))) rfl (gd_y rfl rfl (at_f rfl))
                                    refine o_y rfl (yl_fa (T rfl) fa48_1) (o_y rfl (yl_load (T rfl) Try.isAgg28 (by first | exact c_o)) ?_ rfl (gd_y rfl rfl (at_f rfl))) rfl (gd_y rfl rfl (at_f rfl))
                                    refine o_y rfl (yl_move (T rfl)) (o_y rfl (yl_ixQ (T rfl) (T rfl) Try.runUnderlying28 Try.sizeOf3 (by first | omega | exact ⟨by decide, by decide⟩) (by first | exact rfl | exact hw.arr.b (i := k) (by omega) | exact (sl_arr (w0 := w0) (enc := encI) (sz := 1) (e := 3) (X := H) (fun _ => rfl) hoka).b (i := k) (by omega) | exact (sl_arr (w0 := w0) (enc := encTb) (sz := 1) (e := 51) (X := H) (fun _ => rfl) hokb).b (i := a.toNat) (by omega) | exact htb.arr.b (i := m) (by omega) | exact hwm.links.b (i := i) (by omega) | exact hn.links.b (i := (gd (gd l k).way.links i).toNat) (by omega) | exact (sl_arr (w0 := w0) (enc := encHd) (l := [Z]) (sz := 10) (e := 45) (X := H) (fun _ => rfl) hokd).b (i := 0) (by simp))) ?_ rfl (gd_y rfl rfl (at_f rfl))) rfl (gd_y rfl rfl (at_f rfl))
                                    refine o_y rfl (yl_load (T rfl) Try.isAgg3 (by first | exact c_o | exact c_m (hwm.links.f0 (i := i) (by omega) rfl))) ?_ rfl (gd_y rfl rfl (at_f rfl))
                                    refine o_y rfl (yl_neq (T rfl) (T rfl)) (o_y rfl (yl_pick_f (T rfl) (T rfl)) (o_y rfl (yl_pick_t (T rfl) (T rfl)) (o_y rfl (yl_pick_f (T rfl) (T rfl)) (jo_nil rfl (jl_nil (q_then (j_keep [(5, _), (9, _), (11, _), (14, _), (17, _), (18, _), (19, _), (22, _), (201, _)] ⟨at_f rfl, at_f rfl, at_f rfl, at_f rfl, at_f rfl, at_f rfl, at_f rfl, at_f rfl, at_f rfl, trivial⟩ ?_)))) rfl gd_n) rfl (gd_y rfl rfl (at_f rfl))) rfl (gd_y rfl rfl (at_f rfl))) rfl (gd_y rfl rfl (at_f rfl))
                                    first | refine j_cond_d (at_f rfl) (fun c201 => ?_) (fun c201 => ?_) | refine j_cond (at_f rfl) (fun c201 => ?_) (fun c201 => ?_)
                                    · refine j_seq (j_region (y_ (yl_assign ev_c) (jl_nil (q_then (j_ret (q_then_ret (q_block_ret (q_then_ret (q_loop_ret (q_block_ret (q_then_ret (q_ret rfl (.tmp (at_f rfl) .nil) ?_)))))))))) rfl))
                                      first | exact ⟨_, ⟨rfl, rfl⟩, sbt⟩ | (exfalso; first | omega | exact c160 trivial | exact c170 hstep | exact c177 hstep | exact c201 hlink | exact c199 hlink)
                                    · refine j_skip (q_then (j_region (y_ (yl_move (T rfl)) (y_ (yl_ixR (T rfl) ev_c Try.runUnderlying57 Try.sizeOf45 (by first | omega | exact ⟨by decide, by decide⟩) (by first | exact rfl | exact hw.arr.b (i := k) (by omega) | exact (sl_arr (w0 := w0) (enc := encI) (sz := 1) (e := 3) (X := H) (fun _ => rfl) hoka).b (i := k) (by omega) | exact (sl_arr (w0 := w0) (enc := encTb) (sz := 1) (e := 51) (X := H) (fun _ => rfl) hokb).b (i := a.toNat) (by omega) | exact htb.arr.b (i := m) (by omega) | exact hwm.links.b (i := i) (by omega) | exact hn.links.b (i := (gd (gd l k).way.links i).toNat) (by omega) | exact (sl_arr (w0 := w0) (enc := encHd) (l := [Z]) (sz := 10) (e := 45) (X := H) (fun _ => rfl) hokd).b (i := 0) (by simp))) ?_ rfl) rfl)))
                                      refine y_ (yl_loadA (T rfl) Try.isAgg45 Try.sizeOf45 rfl (by first | exact cs_m ((sl_arr (w0 := w0) (enc := encHd) (l := [Z]) (sz := 10) (e := 45) (X := H) (fun _ => rfl) hokd).cs (i := 0) (by simp)) | exact cs_o)) ?_ rfl
                                      first | refine jl_e (eff_sW (T rfl) (T rfl) Try.sizeOf45) rfl gd_n ?_
                                      rintro _ _ ⟨rfl, rfl⟩
                                      refine jl_nil (q_block (q_then (j_region (y_ (yl_move (T rfl)) (y_ (yl_add (T rfl) ev_c (by omega)) ?_ rfl) rfl))))
                                      refine y_ (yl_assign (T rfl)) (jl_nil ?_) rfl
                                      first | (exfalso; omega) | (
                                        refine q_loopC ((i + 1, (gd n.links (gd (gd l k).way.links i).toNat).dst, gd (gd l k).way.links i, gd ta k)) ?_ ?_ ⟨at_f rfl, at_f rfl, trivial⟩ ⟨at_f rfl, at_f rfl, at_f rfl, at_f rfl, at_f rfl, trivial⟩ ?_
                                        · exact ⟨by omega, fun _ => ⟨(nodes_succ _ _ hlt2).symm, rfl⟩, by omega, by omega⟩
                                        · first | omega | (simp only []; omega)
                                        · simp only [hz]; exact sbt) | (
                                        refine q_loopC ((i + 1, a, (gd l k).way.port, (gd l k).way.tag)) ?_ ?_ ⟨at_f rfl, at_f rfl, trivial⟩ ⟨at_f rfl, at_f rfl, at_f rfl, at_f rfl, at_f rfl, trivial⟩ ?_
                                        · exact ⟨by omega, fun hle => by omega, hpt, htg⟩
                                        · first | omega | (simp only []; omega)
                                        · simp only [hz]; exact sbt)
                              · refine o_n rfl (o_n rfl (o_n rfl (o_n rfl (o_n rfl (o_n rfl (o_n rfl (o_n rfl (o_n rfl (o_n rfl (o_n rfl (o_n rfl (o_n rfl (o_n rfl (o_n rfl (o_n rfl (o_n rfl (o_n rfl (o_n rfl (o_n rfl (o_n rfl (o_n rfl (o_n rfl (o_n rfl (o_n rfl (o_n rfl (o_y rfl (yl_pick_f (T rfl) ev_c) (o_y rfl (yl_pick_f (T rfl) (T rfl)) (jo_nil rfl (jl_nil (q_then (j_keep [(5, _), (9, _), (11, _), (14, _), (17, _), (18, _), (19, _), (22, _), (201, _)] ⟨at_f rfl, at_f rfl, at_f rfl, at_f rfl, at_f rfl, at_f rfl, at_f rfl, at_f rfl, at_f rfl, trivial⟩ (j_cond_f (at_f rfl) (j_skip (q_then (j_region (y_ (yl_move (T rfl)) (y_ (yl_ixR (T rfl) ev_c Try.runUnderlying57 Try.sizeOf45 (by first | omega | exact ⟨by decide, by decide⟩) (by first | exact rfl | exact hw.arr.b (i := k) (by omega) | exact (sl_arr (w0 := w0) (enc := encI) (sz := 1) (e := 3) (X := H) (fun _ => rfl) hoka).b (i := k) (by omega) | exact (sl_arr (w0 := w0) (enc := encTb) (sz := 1) (e := 51) (X := H) (fun _ => rfl) hokb).b (i := a.toNat) (by omega) | exact htb.arr.b (i := m) (by omega) | exact hwm.links.b (i := i) (by omega) | exact hn.links.b (i := (gd (gd l k).way.links i).toNat) (by omega) | exact (sl_arr (w0 := w0) (enc := encHd) (l := [Z]) (sz := 10) (e := 45) (X := H) (fun _ => rfl) hokd).b (i := 0) (by simp))) ?_ rfl) rfl))))))))) rfl gd_n) rfl (gd_y rfl rfl (at_f rfl))) rfl (nw_ft rfl rfl (at_f rfl))) rfl (nw_u rfl rfl (at_f rfl))) rfl (nw_u rfl rfl (at_f rfl))) rfl (nw_u rfl rfl (at_f rfl))) rfl (nw_u rfl rfl (at_f rfl))) rfl (nw_u rfl rfl (at_f rfl))) rfl (nw_u rfl rfl (at_f rfl))) rfl (nw_u rfl rfl (at_f rfl))) rfl (nw_u rfl rfl (at_f rfl))) rfl (nw_u rfl rfl (at_f rfl))) rfl (nw_u rfl rfl (at_f rfl))) rfl (nw_u rfl rfl (at_f rfl))) rfl (nw_u rfl rfl (at_f rfl))) rfl (nw_u rfl rfl (at_f rfl))) rfl (nw_ft rfl rfl (at_f rfl))) rfl (nw_ft rfl rfl (at_f rfl))) rfl (nw_u rfl rfl (at_f rfl))) rfl (nw_u rfl rfl (at_f rfl))) rfl (nw_u rfl rfl (at_f rfl))) rfl (nw_u rfl rfl (at_f rfl))) rfl (nw_u rfl rfl (at_f rfl))) rfl (nw_u rfl rfl (at_f rfl))) rfl (nw_ft rfl rfl (at_f rfl))) rfl (nw_ft rfl rfl (at_f rfl))) rfl (nw_ft rfl rfl (at_f rfl))) rfl (nw_ft rfl rfl (at_f rfl))
                                refine y_ (yl_loadA (T rfl) Try.isAgg45 Try.sizeOf45 rfl (by first | exact cs_m ((sl_arr (w0 := w0) (enc := encHd) (l := [Z]) (sz := 10) (e := 45) (X := H) (fun _ => rfl) hokd).cs (i := 0) (by simp)) | exact cs_o)) ?_ rfl
                                first | refine jl_e (eff_sW (T rfl) (T rfl) Try.sizeOf45) rfl gd_n ?_
                                rintro _ _ ⟨rfl, rfl⟩
                                refine jl_nil (q_block (q_then (j_region (y_ (yl_move (T rfl)) (y_ (yl_add (T rfl) ev_c (by omega)) ?_ rfl) rfl))))
                                refine y_ (yl_assign (T rfl)) (jl_nil ?_) rfl
                                first | (exfalso; omega) | (
                                  refine q_loopC ((i + 1, (gd n.links (gd (gd l k).way.links i).toNat).dst, gd (gd l k).way.links i, gd ta k)) ?_ ?_ ⟨at_f rfl, at_f rfl, trivial⟩ ⟨at_f rfl, at_f rfl, at_f rfl, at_f rfl, at_f rfl, trivial⟩ ?_
                                  · exact ⟨by omega, fun _ => ⟨(nodes_succ _ _ hlt2).symm, rfl⟩, by omega, by omega⟩
                                  · first | omega | (simp only []; omega)
                                  · simp only [hz]; exact sbt) | (
                                  refine q_loopC ((i + 1, a, (gd l k).way.port, (gd l k).way.tag)) ?_ ?_ ⟨at_f rfl, at_f rfl, trivial⟩ ⟨at_f rfl, at_f rfl, at_f rfl, at_f rfl, at_f rfl, trivial⟩ ?_
                                  · exact ⟨by omega, fun hle => by omega, hpt, htg⟩
                                  · first | omega | (simp only []; omega)
                                  · simp only [hz]; exact sbt)
                          · refine o_n rfl (o_n rfl (o_n rfl (o_n rfl (o_n rfl (o_y rfl (yl_pick_f (T rfl) ev_c) (o_y rfl (yl_pick_f (T rfl) (T rfl)) (o_y rfl (yl_move (T rfl)) (o_y rfl (yl_move (T rfl)) ?_ rfl (gd_y rfl rfl (at_f rfl))) rfl gd_n) rfl gd_n) rfl (gd_y rfl rfl (at_f rfl))) rfl (nw_ft rfl rfl (at_f rfl))) rfl (nw_ft rfl rfl (at_f rfl))) rfl (nw_ft rfl rfl (at_f rfl))) rfl (nw_ft rfl rfl (at_f rfl))) rfl (nw_ft rfl rfl (at_f rfl))
                            first | refine o_y rfl (yl_not_d (T rfl)) ?_ rfl (gd_y rfl rfl (at_f rfl)) | refine o_y rfl (yl_not (T rfl)) ?_ rfl (gd_y rfl rfl (at_f rfl))
                            refine o_y rfl (yl_move (T rfl)) ?_ rfl (gd_y rfl rfl (at_f rfl))
                            first | refine o_if_d (s := 173) (at_f rfl) (fun c173 => ?_) (fun c173 => ?_) | refine o_if (s := 173) (at_f rfl) (fun c173 => ?_) (fun c173 => ?_)
                            · refine o_y rfl (yl_fa (T rfl) fa56_2) (o_y rfl (yl_load (T rfl) Try.isAgg3 (by first | exact c_o)) ?_ rfl (gd_y rfl rfl (at_f rfl))) rfl (gd_y rfl rfl (at_f rfl))
                              refine o_y rfl (yl_neq (T rfl) ev_c) (o_y rfl (yl_move (T rfl)) ?_ rfl (gd_y rfl rfl (at_f rfl))) rfl (gd_y rfl rfl (at_f rfl))
                              first | refine o_if_d (s := 177) (at_f rfl) (fun c177 => ?_) (fun c177 => ?_) | refine o_if (s := 177) (at_f rfl) (fun c177 => ?_) (fun c177 => ?_)
                              · refine o_n rfl (o_n rfl (o_n rfl (o_n rfl (o_n rfl (o_n rfl (o_y rfl (yl_pick_t (T rfl) ev_c) (o_y rfl (yl_move (T rfl)) (o_n rfl (o_n rfl (o_n rfl (o_n rfl (o_n rfl (o_n rfl (o_n rfl (o_n rfl (o_n rfl (o_n rfl (o_n rfl (o_n rfl (o_n rfl (o_y rfl (yl_pick_t (T rfl) ev_c) (o_y rfl (yl_pick_t (T rfl) (T rfl)) (o_y rfl (yl_pick_f (T rfl) (T rfl)) (jo_nil rfl (jl_nil (q_then (j_keep [(5, _), (9, _), (11, _), (14, _), (17, _), (18, _), (19, _), (22, _), (201, _)] ⟨at_f rfl, at_f rfl, at_f rfl, at_f rfl, at_f rfl, at_f rfl, at_f rfl, at_f rfl, at_f rfl, trivial⟩ (j_cond_t (at_f rfl) (j_seq (j_region (y_ (yl_assign ev_c) (jl_nil (q_then (j_ret (q_then_ret (q_block_ret (q_then_ret (q_loop_ret (q_block_ret (q_then_ret (q_ret rfl (.tmp (at_f rfl) .nil) ?_)))))))))) rfl)))))))) rfl gd_n) rfl (gd_y rfl rfl (at_f rfl))) rfl (gd_y rfl rfl (at_f rfl))) rfl (nw_tf rfl rfl (at_f rfl))) rfl (nw_tf rfl rfl (at_f rfl))) rfl (nw_tf rfl rfl (at_f rfl))) rfl (nw_tf rfl rfl (at_f rfl))) rfl (nw_tf rfl rfl (at_f rfl))) rfl (nw_tf rfl rfl (at_f rfl))) rfl (nw_tf rfl rfl (at_f rfl))) rfl (nw_tf rfl rfl (at_f rfl))) rfl (nw_tf rfl rfl (at_f rfl))) rfl (nw_tf rfl rfl (at_f rfl))) rfl (nw_tf rfl rfl (at_f rfl))) rfl (nw_tf rfl rfl (at_f rfl))) rfl (nw_tf rfl rfl (at_f rfl))) rfl (gd_y rfl rfl (at_f rfl))) rfl (gd_y rfl rfl (at_f rfl))) rfl (nw_tf rfl rfl (at_f rfl))) rfl (nw_tf rfl rfl (at_f rfl))) rfl (nw_tf rfl rfl (at_f rfl))) rfl (nw_tf rfl rfl (at_f rfl))) rfl (nw_tf rfl rfl (at_f rfl))) rfl (nw_tf rfl rfl (at_f rfl))
                                first | exact ⟨_, ⟨rfl, rfl⟩, sbt⟩ | (exfalso; first | omega | exact c160 trivial | exact c170 hstep | exact c177 hstep | exact c201 hlink | exact c199 hlink)
                              · refine o_y rfl (yl_fa (T rfl) fa56_3) (o_y rfl (yl_load (T rfl) Try.isAgg54 (by first | exact c_o)) ?_ rfl (gd_y rfl rfl (at_f rfl))) rfl (gd_y rfl rfl (at_f rfl))
                                refine o_y rfl (yl_ixR (T rfl) ev_c Try.runUnderlying54 Try.sizeOf64 (by first | omega | exact ⟨by decide, by decide⟩) (by first | exact rfl | exact hw.arr.b (i := k) (by omega) | exact (sl_arr (w0 := w0) (enc := encI) (sz := 1) (e := 3) (X := H) (fun _ => rfl) hoka).b (i := k) (by omega) | exact (sl_arr (w0 := w0) (enc := encTb) (sz := 1) (e := 51) (X := H) (fun _ => rfl) hokb).b (i := a.toNat) (by omega) | exact htb.arr.b (i := m) (by omega) | exact hwm.links.b (i := i) (by omega) | exact hn.links.b (i := (gd (gd l k).way.links i).toNat) (by omega) | exact (sl_arr (w0 := w0) (enc := encHd) (l := [Z]) (sz := 10) (e := 45) (X := H) (fun _ => rfl) hokd).b (i := 0) (by simp))) ?_ rfl (gd_y rfl rfl (at_f rfl))
                                refine o_y rfl (yl_load (T rfl) Try.isAgg64 (by first | exact c_o | exact c_m (hrm.o))) ?_ rfl (gd_y rfl rfl (at_f rfl))
                                refine o_y rfl (yl_len (T rfl) Try.runUnderlying64) (o_y rfl (yl_neq (T rfl) ev_c) (o_y rfl (yl_pick_f (T rfl) (T rfl)) (o_y rfl (yl_move (T rfl)) ?_ rfl (gd_y rfl rfl (at_f rfl))) rfl (gd_y rfl rfl (at_f rfl))) rfl (gd_y rfl rfl (at_f rfl))) rfl (gd_y rfl rfl (at_f rfl))
                                first | refine o_if_d (s := 185) (at_f rfl) (fun c185 => ?_) (fun c185 => ?_) | refine o_if (s := 185) (at_f rfl) (fun c185 => ?_) (fun c185 => ?_)
                                · refine o_n rfl (o_n rfl (o_n rfl (o_n rfl (o_n rfl (o_n rfl (o_n rfl (o_n rfl (o_n rfl (o_n rfl (o_n rfl (o_n rfl (o_n rfl (o_y rfl (yl_pick_t (T rfl) ev_c) (o_y rfl (yl_pick_t (T rfl) (T rfl)) (o_y rfl (yl_pick_f (T rfl) (T rfl)) (jo_nil rfl (jl_nil (q_then (j_keep [(5, _), (9, _), (11, _), (14, _), (17, _), (18, _), (19, _), (22, _), (201, _)] ⟨at_f rfl, at_f rfl, at_f rfl, at_f rfl, at_f rfl, at_f rfl, at_f rfl, at_f rfl, at_f rfl, trivial⟩ (j_cond_t (at_f rfl) (j_seq (j_region (y_ (yl_assign ev_c) (jl_nil (q_then (j_ret (q_then_ret (q_block_ret (q_then_ret (q_loop_ret (q_block_ret (q_then_ret (q_ret rfl (.tmp (at_f rfl) .nil) ?_)))))))))) rfl)))))))) rfl gd_n) rfl (gd_y rfl rfl (at_f rfl))) rfl (gd_y rfl rfl (at_f rfl))) rfl (nw_tf rfl rfl (at_f rfl))) rfl (nw_tf rfl rfl (at_f rfl))) rfl (nw_tf rfl rfl (at_f rfl))) rfl (nw_tf rfl rfl (at_f rfl))) rfl (nw_tf rfl rfl (at_f rfl))) rfl (nw_tf rfl rfl (at_f rfl))) rfl (nw_tf rfl rfl (at_f rfl))) rfl (nw_tf rfl rfl (at_f rfl))) rfl (nw_tf rfl rfl (at_f rfl))) rfl (nw_tf rfl rfl (at_f rfl))) rfl (nw_tf rfl rfl (at_f rfl))) rfl (nw_tf rfl rfl (at_f rfl))) rfl (nw_tf rfl rfl (at_f rfl))
                                  first | exact ⟨_, ⟨rfl, rfl⟩, sbt⟩ | (exfalso; first | omega | exact c160 trivial | exact c170 hstep | exact c177 hstep | exact c201 hlink | exact c199 hlink)
                                · refine o_y rfl (yl_fa (T rfl) fa56_3) (o_y rfl (yl_load (T rfl) Try.isAgg54 (by first | exact c_o)) ?_ rfl (gd_y rfl rfl (at_f rfl))) rfl (gd_y rfl rfl (at_f rfl))
                                  refine o_y rfl (yl_ixR (T rfl) ev_c Try.runUnderlying54 Try.sizeOf64 (by first | omega | exact ⟨by decide, by decide⟩) (by first | exact rfl | exact hw.arr.b (i := k) (by omega) | exact (sl_arr (w0 := w0) (enc := encI) (sz := 1) (e := 3) (X := H) (fun _ => rfl) hoka).b (i := k) (by omega) | exact (sl_arr (w0 := w0) (enc := encTb) (sz := 1) (e := 51) (X := H) (fun _ => rfl) hokb).b (i := a.toNat) (by omega) | exact htb.arr.b (i := m) (by omega) | exact hwm.links.b (i := i) (by omega) | exact hn.links.b (i := (gd (gd l k).way.links i).toNat) (by omega) | exact (sl_arr (w0 := w0) (enc := encHd) (l := [Z]) (sz := 10) (e := 45) (X := H) (fun _ => rfl) hokd).b (i := 0) (by simp))) ?_ rfl (gd_y rfl rfl (at_f rfl))
                                  refine o_y rfl (yl_load (T rfl) Try.isAgg64 (by first | exact c_o | exact c_m (hrm.o))) ?_ rfl (gd_y rfl rfl (at_f rfl))
                                  refine o_y rfl (yl_ixR (T rfl) ev_c Try.runUnderlying64 Try.sizeOf67 (by first | omega | exact ⟨by decide, by decide⟩) (by first | exact rfl | exact hw.arr.b (i := k) (by omega) | exact (sl_arr (w0 := w0) (enc := encI) (sz := 1) (e := 3) (X := H) (fun _ => rfl) hoka).b (i := k) (by omega) | exact (sl_arr (w0 := w0) (enc := encTb) (sz := 1) (e := 51) (X := H) (fun _ => rfl) hokb).b (i := a.toNat) (by omega) | exact htb.arr.b (i := m) (by omega) | exact hwm.links.b (i := i) (by omega) | exact hn.links.b (i := (gd (gd l k).way.links i).toNat) (by omega) | exact (sl_arr (w0 := w0) (enc := encHd) (l := [Z]) (sz := 10) (e := 45) (X := H) (fun _ => rfl) hokd).b (i := 0) (by simp))) ?_ rfl (gd_y rfl rfl (at_f rfl))
                                  refine o_y rfl (yl_fa0 (T rfl) fa67_0) (o_y rfl (yl_load (T rfl) Try.isAgg3 (by first | exact c_o | exact c_m (hrm.a 0 _ rfl))) ?_ rfl (gd_y rfl rfl (at_f rfl))) rfl (gd_y rfl rfl (at_f rfl))
                                  refine o_y rfl (yl_fa (T rfl) fa48_1) (o_y rfl (yl_load (T rfl) Try.isAgg28 (by first | exact c_o)) ?_ rfl (gd_y rfl rfl (at_f rfl))) rfl (gd_y rfl rfl (at_f rfl))
                                  refine o_y rfl (yl_move (T rfl)) (o_y rfl (yl_ixQ (T rfl) (T rfl) Try.runUnderlying28 Try.sizeOf3 (by first | omega | exact ⟨by decide, by decide⟩) (by first | exact rfl | exact hw.arr.b (i := k) (by omega) | exact (sl_arr (w0 := w0) (enc := encI) (sz := 1) (e := 3) (X := H) (fun _ => rfl) hoka).b (i := k) (by omega) | exact (sl_arr (w0 := w0) (enc := encTb) (sz := 1) (e := 51) (X := H) (fun _ => rfl) hokb).b (i := a.toNat) (by omega) | exact htb.arr.b (i := m) (by omega) | exact hwm.links.b (i := i) (by omega) | exact hn.links.b (i := (gd (gd l k).way.links i).toNat) (by omega) | exact (sl_arr (w0 := w0) (enc := encHd) (l := [Z]) (sz := 10) (e := 45) (X := H) (fun _ => rfl) hokd).b (i := 0) (by simp))) ?_ rfl (gd_y rfl rfl (at_f rfl))) rfl (gd_y rfl rfl (at_f rfl))
                                  refine o_y rfl (yl_load (T rfl) Try.isAgg3 (by first | exact c_o | exact c_m (hwm.links.f0 (i := i) (by omega) rfl))) ?_ rfl (gd_y rfl rfl (at_f rfl))
                                  refine o_y rfl (yl_neq (T rfl) (T rfl)) (o_y rfl (yl_pick_f (T rfl) (T rfl)) (o_y rfl (yl_pick_t (T rfl) (T rfl)) (o_y rfl (yl_pick_f (T rfl) (T rfl)) (jo_nil rfl (jl_nil (q_then (j_keep [(5, _), (9, _), (11, _), (14, _), (17, _), (18, _), (19, _), (22, _), (201, _)] ⟨at_f rfl, at_f rfl, at_f rfl, at_f rfl, at_f rfl, at_f rfl, at_f rfl, at_f rfl, at_f rfl, trivial⟩ ?_)))) rfl gd_n) rfl (gd_y rfl rfl (at_f rfl))) rfl (gd_y rfl rfl (at_f rfl))) rfl (gd_y rfl rfl (at_f rfl))
                                  first | refine j_cond_d (at_f rfl) (fun c201 => ?_) (fun c201 => ?_) | refine j_cond (at_f rfl) (fun c201 => ?_) (fun c201 => ?_)
                                  · refine j_seq (j_region (y_ (yl_assign ev_c) (jl_nil (q_then (j_ret (q_then_ret (q_block_ret (q_then_ret (q_loop_ret (q_block_ret (q_then_ret (q_ret rfl (.tmp (at_f rfl) .nil) ?_)))))))))) rfl))
                                    first | exact ⟨_, ⟨rfl, rfl⟩, sbt⟩ | (exfalso; first | omega | exact c160 trivial | exact c170 hstep | exact c177 hstep | exact c201 hlink | exact c199 hlink)
                                  · refine j_skip (q_then (j_region (y_ (yl_move (T rfl)) (y_ (yl_ixR (T rfl) ev_c Try.runUnderlying57 Try.sizeOf45 (by first | omega | exact ⟨by decide, by decide⟩) (by first | exact rfl | exact hw.arr.b (i := k) (by omega) | exact (sl_arr (w0 := w0) (enc := encI) (sz := 1) (e := 3) (X := H) (fun _ => rfl) hoka).b (i := k) (by omega) | exact (sl_arr (w0 := w0) (enc := encTb) (sz := 1) (e := 51) (X := H) (fun _ => rfl) hokb).b (i := a.toNat) (by omega) | exact htb.arr.b (i := m) (by omega) | exact hwm.links.b (i := i) (by omega) | exact hn.links.b (i := (gd (gd l k).way.links i).toNat) (by omega) | exact (sl_arr (w0 := w0) (enc := encHd) (l := [Z]) (sz := 10) (e := 45) (X := H) (fun _ => rfl) hokd).b (i := 0) (by simp))) ?_ rfl) rfl)))
                                    refine y_ (yl_loadA (T rfl) Try.isAgg45 Try.sizeOf45 rfl (by first | exact cs_m ((sl_arr (w0 := w0) (enc := encHd) (l := [Z]) (sz := 10) (e := 45) (X := H) (fun _ => rfl) hokd).cs (i := 0) (by simp)) | exact cs_o)) ?_ rfl
                                    first | refine jl_e (eff_sW (T rfl) (T rfl) Try.sizeOf45) rfl gd_n ?_
                                    rintro _ _ ⟨rfl, rfl⟩
                                    refine jl_nil (q_block (q_then (j_region (y_ (yl_move (T rfl)) (y_ (yl_add (T rfl) ev_c (by omega)) ?_ rfl) rfl))))
                                    refine y_ (yl_assign (T rfl)) (jl_nil ?_) rfl
                                    first | (exfalso; omega) | (
                                      refine q_loopC ((i + 1, (gd n.links (gd (gd l k).way.links i).toNat).dst, gd (gd l k).way.links i, gd ta k)) ?_ ?_ ⟨at_f rfl, at_f rfl, trivial⟩ ⟨at_f rfl, at_f rfl, at_f rfl, at_f rfl, at_f rfl, trivial⟩ ?_
                                      · exact ⟨by omega, fun _ => ⟨(nodes_succ _ _ hlt2).symm, rfl⟩, by omega, by omega⟩
                                      · first | omega | (simp only []; omega)
                                      · simp only [hz]; exact sbt) | (
                                      refine q_loopC ((i + 1, a, (gd l k).way.port, (gd l k).way.tag)) ?_ ?_ ⟨at_f rfl, at_f rfl, trivial⟩ ⟨at_f rfl, at_f rfl, at_f rfl, at_f rfl, at_f rfl, trivial⟩ ?_
                                      · exact ⟨by omega, fun hle => by omega, hpt, htg⟩
                                      · first | omega | (simp only []; omega)
                                      · simp only [hz]; exact sbt)
                            · refine o_n rfl (o_n rfl (o_n rfl (o_n rfl (o_n rfl (o_n rfl (o_n rfl (o_n rfl (o_n rfl (o_n rfl (o_n rfl (o_n rfl (o_n rfl (o_n rfl (o_n rfl (o_n rfl (o_n rfl (o_n rfl (o_n rfl (o_n rfl (o_n rfl (o_n rfl (o_n rfl (o_n rfl (o_n rfl (o_n rfl (o_y rfl (yl_pick_f (T rfl) ev_c) (o_y rfl (yl_pick_f (T rfl) (T rfl)) (jo_nil rfl (jl_nil (q_then (j_keep [(5, _), (9, _), (11, _), (14, _), (17, _), (18, _), (19, _), (22, _), (201, _)] ⟨at_f rfl, at_f rfl, at_f rfl, at_f rfl, at_f rfl, at_f rfl, at_f rfl, at_f rfl, at_f rfl, trivial⟩ (j_cond_f (at_f rfl) (j_skip (q_then (j_region (y_ (yl_move (T rfl)) (y_ (yl_ixR (T rfl) ev_c Try.runUnderlying57 Try.sizeOf45 (by first | omega | exact ⟨by decide, by decide⟩) (by first | exact rfl | exact hw.arr.b (i := k) (by omega) | exact (sl_arr (w0 := w0) (enc := encI) (sz := 1) (e := 3) (X := H) (fun _ => rfl) hoka).b (i := k) (by omega) | exact (sl_arr (w0 := w0) (enc := encTb) (sz := 1) (e := 51) (X := H) (fun _ => rfl) hokb).b (i := a.toNat) (by omega) | exact htb.arr.b (i := m) (by omega) | exact hwm.links.b (i := i) (by omega) | exact hn.links.b (i := (gd (gd l k).way.links i).toNat) (by omega) | exact (sl_arr (w0 := w0) (enc := encHd) (l := [Z]) (sz := 10) (e := 45) (X := H) (fun _ => rfl) hokd).b (i := 0) (by simp))) ?_ rfl) rfl))))))))) rfl gd_n) rfl (gd_y rfl rfl (at_f rfl))) rfl (nw_ft rfl rfl (at_f rfl))) rfl (nw_u rfl rfl (at_f rfl))) rfl (nw_u rfl rfl (at_f rfl))) rfl (nw_u rfl rfl (at_f rfl))) rfl (nw_u rfl rfl (at_f rfl))) rfl (nw_u rfl rfl (at_f rfl))) rfl (nw_u rfl rfl (at_f rfl))) rfl (nw_u rfl rfl (at_f rfl))) rfl (nw_u rfl rfl (at_f rfl))) rfl (nw_u rfl rfl (at_f rfl))) rfl (nw_u rfl rfl (at_f rfl))) rfl (nw_u rfl rfl (at_f rfl))) rfl (nw_u rfl rfl (at_f rfl))) rfl (nw_u rfl rfl (at_f rfl))) rfl (nw_ft rfl rfl (at_f rfl))) rfl (nw_ft rfl rfl (at_f rfl))) rfl (nw_u rfl rfl (at_f rfl))) rfl (nw_u rfl rfl (at_f rfl))) rfl (nw_u rfl rfl (at_f rfl))) rfl (nw_u rfl rfl (at_f rfl))) rfl (nw_u rfl rfl (at_f rfl))) rfl (nw_u rfl rfl (at_f rfl))) rfl (nw_ft rfl rfl (at_f rfl))) rfl (nw_ft rfl rfl (at_f rfl))) rfl (nw_ft rfl rfl (at_f rfl))) rfl (nw_ft rfl rfl (at_f rfl))
                              refine y_ (yl_loadA (T rfl) Try.isAgg45 Try.sizeOf45 rfl (by first | exact cs_m ((sl_arr (w0 := w0) (enc := encHd) (l := [Z]) (sz := 10) (e := 45) (X := H) (fun _ => rfl) hokd).cs (i := 0) (by simp)) | exact cs_o)) ?_ rfl
                              first | refine jl_e (eff_sW (T rfl) (T rfl) Try.sizeOf45) rfl gd_n ?_
                              rintro _ _ ⟨rfl, rfl⟩
                              refine jl_nil (q_block (q_then (j_region (y_ (yl_move (T rfl)) (y_ (yl_add (T rfl) ev_c (by omega)) ?_ rfl) rfl))))
                              refine y_ (yl_assign (T rfl)) (jl_nil ?_) rfl
                              first | (exfalso; omega) | (
                                refine q_loopC ((i + 1, (gd n.links (gd (gd l k).way.links i).toNat).dst, gd (gd l k).way.links i, gd ta k)) ?_ ?_ ⟨at_f rfl, at_f rfl, trivial⟩ ⟨at_f rfl, at_f rfl, at_f rfl, at_f rfl, at_f rfl, trivial⟩ ?_
                                · exact ⟨by omega, fun _ => ⟨(nodes_succ _ _ hlt2).symm, rfl⟩, by omega, by omega⟩
                                · first | omega | (simp only []; omega)
                                · simp only [hz]; exact sbt) | (
                                refine q_loopC ((i + 1, a, (gd l k).way.port, (gd l k).way.tag)) ?_ ?_ ⟨at_f rfl, at_f rfl, trivial⟩ ⟨at_f rfl, at_f rfl, at_f rfl, at_f rfl, at_f rfl, trivial⟩ ?_
                                · exact ⟨by omega, fun hle => by omega, hpt, htg⟩
                                · first | omega | (simp only []; omega)
                                · simp only [hz]; exact sbt)
                      · have hlt2 : ¬ i < (gd l k).way.links.length := by omega
                        have hz : Z = hdT h (gd l k).way.port (gd l k).way.tag := by
                          rw [← hZ, hop_end hlt2]
                          show hdT h (gd l k).way.port (if (-1 : Int) < 0 then _ else _) = _
                          rw [if_pos (by decide)]
                        have hstep : (gd (gd tb a.toNat).rs m).r.hop.step = (gd l k).way.step := by rw [hhop, hop_end hlt2]
                        refine j_seq (j_region (y_ (yl_fa (T rfl) fa48_2) (y_ (yl_load (T rfl) Try.isAgg3 (by first | exact c_o)) ?_ rfl) rfl))
                        refine y_ (yl_ixA (T rfl) ev_c Try.runUnderlying45 Try.sizeOf3 (by first | omega | exact ⟨by decide, by decide⟩)) ?_ rfl
                        first | refine jl_e (eff_sW (T rfl) (T rfl) Try.sizeOf3) rfl gd_n ?_ | refine jl_e (eff_s1 (T rfl) (T rfl) rfl Try.sizeOf3) rfl gd_n ?_ | refine jl_e (eff_s1r (T rfl) (T rfl) rfl Try.sizeOf3) rfl gd_n ?_
                        rintro _ _ ⟨rfl, rfl⟩
                        refine jl_nil (q_then (j_region (y_ (yl_fa (T rfl) fa48_3) (y_ (yl_load (T rfl) Try.isAgg3 (by first | exact c_o)) ?_ rfl) rfl)))
                        refine y_ (yl_ixA (T rfl) ev_c Try.runUnderlying45 Try.sizeOf3 (by first | omega | exact ⟨by decide, by decide⟩)) ?_ rfl
                        first | refine jl_e (eff_sW (T rfl) (T rfl) Try.sizeOf3) rfl gd_n ?_ | refine jl_e (eff_s1 (T rfl) (T rfl) rfl Try.sizeOf3) rfl gd_n ?_ | refine jl_e (eff_s1r (T rfl) (T rfl) rfl Try.sizeOf3) rfl gd_n ?_
                        rintro _ _ ⟨rfl, rfl⟩
                        refine jl_nil (q_then (j_seq (j_region (y_ (yl_move (T rfl)) (y_ (yl_fa (T rfl) fa48_1) (y_ (yl_load (T rfl) Try.isAgg28 (by first | exact c_o)) ?_ rfl) rfl) rfl))))
                        refine y_ (yl_len (T rfl) Try.runUnderlying28) (y_ (yl_eql (T rfl) (T rfl)) (y_ (yl_assign (T rfl)) (jl_nil (q_then (j_keep [(5, _), (9, _), (11, _), (14, _), (17, _), (18, _), (19, _), (21, _), (22, _), (23, _), (24, _)] ⟨at_f rfl, at_f rfl, at_f rfl, at_f rfl, at_f rfl, at_f rfl, at_f rfl, at_f rfl, at_f rfl, at_f rfl, at_f rfl, trivial⟩ (j_seq (j_seq (j_any 47 [(0, true), (1, true), (2, true), (3, true), (4, true), (5, true), (6, true), (7, true), (8, true), (9, true), (10, true), (11, true), (12, true), (13, true), (14, true), (15, true), (16, true), (17, true), (18, true), (19, true), (20, true), (21, true), (22, true), (23, true), (24, true), (25, true), (26, true), (27, true), (28, true), (29, true), (30, true), (31, true), (32, true), (33, true), (34, true), (35, true), (36, true), (37, true), (38, true), (39, true), (40, true), (41, true), (42, true), (43, true), (44, true), (45, true), (46, true)] _ mixd (by kernel_rfl) sb0 ?_)))))) rfl) rfl) rfl
                        refine o_y rfl (yl_move (T rfl)) (o_y rfl (yl_ixR (T rfl) ev_c Try.runUnderlying57 Try.sizeOf45 (by first | omega | exact ⟨by decide, by decide⟩) (by first | exact rfl | exact hw.arr.b (i := k) (by omega) | exact (sl_arr (w0 := w0) (enc := encI) (sz := 1) (e := 3) (X := H) (fun _ => rfl) hoka).b (i := k) (by omega) | exact (sl_arr (w0 := w0) (enc := encTb) (sz := 1) (e := 51) (X := H) (fun _ => rfl) hokb).b (i := a.toNat) (by omega) | exact htb.arr.b (i := m) (by omega) | exact hwm.links.b (i := i) (by omega) | exact hn.links.b (i := (gd (gd l k).way.links i).toNat) (by omega) | exact (sl_arr (w0 := w0) (enc := encHd) (l := [Z]) (sz := 10) (e := 45) (X := H) (fun _ => rfl) hokd).b (i := 0) (by simp))) ?_ rfl gd_n) rfl gd_n
                        refine o_y rfl (yl_loadA (T rfl) Try.isAgg45 Try.sizeOf45 rfl (by first | exact cs_m ((sl_arr (w0 := w0) (enc := encHd) (l := [Z]) (sz := 10) (e := 45) (X := H) (fun _ => rfl) hokd).cs (i := 0) (by simp)) | exact cs_o)) ?_ rfl gd_n
                        refine o_y rfl (yl_loadA (T rfl) Try.isAgg45 Try.sizeOf45 rfl (by first | exact cs_o)) ?_ rfl gd_n
                        refine o_y rfl (yl_neqA (T rfl) (T rfl) Try.eqGuardType45 (q := True) (eqZ hz)) (o_y rfl (yl_move (T rfl)) ?_ rfl gd_n) rfl gd_n
                        first | refine o_if_d (s := 160) (at_f rfl) (fun c160 => ?_) (fun c160 => ?_) | refine o_if (s := 160) (at_f rfl) (fun c160 => ?_) (fun c160 => ?_)
                        · refine o_n rfl (o_n rfl (o_n rfl (o_n rfl (o_n rfl (o_n rfl (o_n rfl (o_n rfl (o_y rfl (yl_pick_t (T rfl) ev_c) (o_y rfl (yl_move (T rfl)) (o_n rfl (o_n rfl (o_n rfl (o_n rfl (o_n rfl (o_n rfl (o_n rfl (o_n rfl (o_n rfl (o_n rfl (o_n rfl (o_n rfl (o_n rfl (o_n rfl (o_n rfl (o_n rfl (o_n rfl (o_n rfl (o_n rfl (o_n rfl (o_n rfl (o_n rfl (o_n rfl (o_n rfl (o_n rfl (o_n rfl (o_n rfl (o_n rfl (o_n rfl (o_n rfl (o_y rfl (yl_pick_t (T rfl) ev_c) (jo_nil rfl (jl_nil (q_then (j_keep [(5, _), (9, _), (11, _), (14, _), (17, _), (18, _), (19, _), (22, _), (201, _)] ⟨at_f rfl, at_f rfl, at_f rfl, at_f rfl, at_f rfl, at_f rfl, at_f rfl, at_f rfl, at_f rfl, trivial⟩ (j_cond_t (at_f rfl) (j_seq (j_region (y_ (yl_assign ev_c) (jl_nil (q_then (j_ret (q_then_ret (q_block_ret (q_then_ret (q_loop_ret (q_block_ret (q_then_ret (q_ret rfl (.tmp (at_f rfl) .nil) ?_)))))))))) rfl)))))))) rfl gd_n) rfl (nw_tf rfl rfl (at_f rfl))) rfl (nw_u rfl rfl (at_f rfl))) rfl (nw_u rfl rfl (at_f rfl))) rfl (nw_u rfl rfl (at_f rfl))) rfl (nw_u rfl rfl (at_f rfl))) rfl (nw_u rfl rfl (at_f rfl))) rfl (nw_u rfl rfl (at_f rfl))) rfl (nw_u rfl rfl (at_f rfl))) rfl (nw_u rfl rfl (at_f rfl))) rfl (nw_u rfl rfl (at_f rfl))) rfl (nw_u rfl rfl (at_f rfl))) rfl (nw_u rfl rfl (at_f rfl))) rfl (nw_u rfl rfl (at_f rfl))) rfl (nw_u rfl rfl (at_f rfl))) rfl (nw_u rfl rfl (at_f rfl))) rfl (nw_u rfl rfl (at_f rfl))) rfl (nw_u rfl rfl (at_f rfl))) rfl (nw_u rfl rfl (at_f rfl))) rfl (nw_u rfl rfl (at_f rfl))) rfl (nw_u rfl rfl (at_f rfl))) rfl (nw_u rfl rfl (at_f rfl))) rfl (nw_u rfl rfl (at_f rfl))) rfl (nw_u rfl rfl (at_f rfl))) rfl (nw_u rfl rfl (at_f rfl))) rfl (nw_u rfl rfl (at_f rfl))) rfl (nw_u rfl rfl (at_f rfl))) rfl (nw_u rfl rfl (at_f rfl))) rfl (nw_tf rfl rfl (at_f rfl))) rfl (nw_tf rfl rfl (at_f rfl))) rfl (nw_tf rfl rfl (at_f rfl))) rfl gd_n) rfl gd_n) rfl (nw_tf rfl rfl (at_f rfl))) rfl (nw_u rfl rfl (at_f rfl))) rfl (nw_u rfl rfl (at_f rfl))) rfl (nw_u rfl rfl (at_f rfl))) rfl (nw_u rfl rfl (at_f rfl))) rfl (nw_u rfl rfl (at_f rfl))) rfl (nw_tf rfl rfl (at_f rfl))) rfl (nw_tf rfl rfl (at_f rfl))
                          first | exact ⟨_, ⟨rfl, rfl⟩, sbt⟩ | (exfalso; first | omega | exact c160 trivial | exact c170 hstep | exact c177 hstep | exact c201 hlink | exact c199 hlink)
                        · refine o_y rfl (yl_move (T rfl)) (o_y rfl (yl_move (T rfl)) ?_ rfl (gd_y rfl rfl (at_f rfl))) rfl (gd_y rfl rfl (at_f rfl))
                          first | refine o_if_d (s := 162) (at_f rfl) (fun c162 => ?_) (fun c162 => ?_) | refine o_if (s := 162) (at_f rfl) (fun c162 => ?_) (fun c162 => ?_)
                          · refine o_y rfl (yl_fa (T rfl) fa56_2) (o_y rfl (yl_load (T rfl) Try.isAgg3 (by first | exact c_o)) ?_ rfl (gd_y rfl rfl (at_f rfl))) rfl (gd_y rfl rfl (at_f rfl))
                            refine o_y rfl (yl_fa (T rfl) fa48_4) (o_y rfl (yl_load (T rfl) Try.isAgg3 (by first | exact c_o)) ?_ rfl (gd_y rfl rfl (at_f rfl))) rfl (gd_y rfl rfl (at_f rfl))
                            refine o_y rfl (yl_neq (T rfl) (T rfl)) (o_y rfl (yl_pick_t (T rfl) (T rfl)) (o_y rfl (yl_pick_f (T rfl) (T rfl)) (o_y rfl (yl_move (T rfl)) ?_ rfl gd_n) rfl gd_n) rfl (gd_y rfl rfl (at_f rfl))) rfl (gd_y rfl rfl (at_f rfl))
                            first | refine o_if_d (s := 170) (at_f rfl) (fun c170 => ?_) (fun c170 => ?_) | refine o_if (s := 170) (at_f rfl) (fun c170 => ?_) (fun c170 => ?_)
                            · refine o_n rfl (o_n rfl (o_n rfl (o_n rfl (o_n rfl (o_n rfl (o_n rfl (o_n rfl (o_n rfl (o_n rfl (o_n rfl (o_n rfl (o_n rfl (o_n rfl (o_n rfl (o_n rfl (o_n rfl (o_n rfl (o_n rfl (o_n rfl (o_n rfl (o_n rfl (o_n rfl (o_n rfl (o_n rfl (o_n rfl (o_n rfl (o_n rfl (o_n rfl (o_n rfl (o_y rfl (yl_pick_t (T rfl) ev_c) (jo_nil rfl (jl_nil (q_then (j_keep [(5, _), (9, _), (11, _), (14, _), (17, _), (18, _), (19, _), (22, _), (201, _)] ⟨at_f rfl, at_f rfl, at_f rfl, at_f rfl, at_f rfl, at_f rfl, at_f rfl, at_f rfl, at_f rfl, trivial⟩ (j_cond_t (at_f rfl) (j_seq (j_region (y_ (yl_assign ev_c) (jl_nil (q_then (j_ret (q_then_ret (q_block_ret (q_then_ret (q_loop_ret (q_block_ret (q_then_ret (q_ret rfl (.tmp (at_f rfl) .nil) ?_)))))))))) rfl)))))))) rfl gd_n) rfl (nw_tf rfl rfl (at_f rfl))) rfl (nw_u rfl rfl (at_f rfl))) rfl (nw_u rfl rfl (at_f rfl))) rfl (nw_u rfl rfl (at_f rfl))) rfl (nw_u rfl rfl (at_f rfl))) rfl (nw_u rfl rfl (at_f rfl))) rfl (nw_u rfl rfl (at_f rfl))) rfl (nw_u rfl rfl (at_f rfl))) rfl (nw_u rfl rfl (at_f rfl))) rfl (nw_u rfl rfl (at_f rfl))) rfl (nw_u rfl rfl (at_f rfl))) rfl (nw_u rfl rfl (at_f rfl))) rfl (nw_u rfl rfl (at_f rfl))) rfl (nw_u rfl rfl (at_f rfl))) rfl (nw_u rfl rfl (at_f rfl))) rfl (nw_u rfl rfl (at_f rfl))) rfl (nw_u rfl rfl (at_f rfl))) rfl (nw_u rfl rfl (at_f rfl))) rfl (nw_u rfl rfl (at_f rfl))) rfl (nw_u rfl rfl (at_f rfl))) rfl (nw_u rfl rfl (at_f rfl))) rfl (nw_u rfl rfl (at_f rfl))) rfl (nw_u rfl rfl (at_f rfl))) rfl (nw_u rfl rfl (at_f rfl))) rfl (nw_u rfl rfl (at_f rfl))) rfl (nw_u rfl rfl (at_f rfl))) rfl (nw_u rfl rfl (at_f rfl))) rfl (nw_tf rfl rfl (at_f rfl))) rfl (nw_tf rfl rfl (at_f rfl))) rfl (nw_tf rfl rfl (at_f rfl))
                              first | exact ⟨_, ⟨rfl, rfl⟩, sbt⟩ | (exfalso; first | omega | exact c160 trivial | exact c170 hstep | exact c177 hstep | exact c201 hlink | exact c199 hlink)
                            · refine o_y rfl (yl_move (T rfl)) ?_ rfl (gd_y rfl rfl (at_f rfl))
                              first | refine o_y rfl (yl_not_d (T rfl)) ?_ rfl (gd_y rfl rfl (at_f rfl)) | refine o_y rfl (yl_not (T rfl)) ?_ rfl (gd_y rfl rfl (at_f rfl))
                              refine o_y rfl (yl_move (T rfl)) ?_ rfl (gd_y rfl rfl (at_f rfl))
                              first | refine o_if_d (s := 173) (at_f rfl) (fun c173 => ?_) (fun c173 => ?_) | refine o_if (s := 173) (at_f rfl) (fun c173 => ?_) (fun c173 => ?_)
                              · refine o_y rfl (yl_fa (T rfl) fa56_2) (o_y rfl (yl_load (T rfl) Try.isAgg3 (by first | exact c_o)) ?_ rfl (gd_y rfl rfl (at_f rfl))) rfl (gd_y rfl rfl (at_f rfl))
                                refine o_y rfl (yl_neq (T rfl) ev_c) (o_y rfl (yl_move (T rfl)) ?_ rfl (gd_y rfl rfl (at_f rfl))) rfl (gd_y rfl rfl (at_f rfl))
                                first | refine o_if_d (s := 177) (at_f rfl) (fun c177 => ?_) (fun c177 => ?_) | refine o_if (s := 177) (at_f rfl) (fun c177 => ?_) (fun c177 => ?_)
                                · refine o_n rfl (o_n rfl (o_n rfl (o_n rfl (o_n rfl (o_n rfl (o_y rfl (yl_pick_t (T rfl) ev_c) (o_y rfl (yl_move (T rfl)) (o_n rfl (o_n rfl (o_n rfl (o_n rfl (o_n rfl (o_n rfl (o_n rfl (o_n rfl (o_n rfl (o_n rfl (o_n rfl (o_n rfl (o_n rfl (o_y rfl (yl_pick_t (T rfl) ev_c) (o_y rfl (yl_pick_t (T rfl) (T rfl)) (o_y rfl (yl_pick_f (T rfl) (T rfl)) (jo_nil rfl (jl_nil (q_then (j_keep [(5, _), (9, _), (11, _), (14, _), (17, _), (18, _), (19, _), (22, _), (201, _)] ⟨at_f rfl, at_f rfl, at_f rfl, at_f rfl, at_f rfl, at_f rfl, at_f rfl, at_f rfl, at_f rfl, trivial⟩ (j_cond_t (at_f rfl) (j_seq (j_region (y_ (yl_assign ev_c) (jl_nil (q_then (j_ret (q_then_ret (q_block_ret (q_then_ret (q_loop_ret (q_block_ret (q_then_ret (q_ret rfl (.tmp (at_f rfl) .nil) ?_)))))))))) rfl)))))))) rfl gd_n) rfl (gd_y rfl rfl (at_f rfl))) rfl (gd_y rfl rfl (at_f rfl))) rfl (nw_tf rfl rfl (at_f rfl))) rfl (nw_tf rfl rfl (at_f rfl))) rfl (nw_tf rfl rfl (at_f rfl))) rfl (nw_tf rfl rfl (at_f rfl))) rfl (nw_tf rfl rfl (at_f rfl))) rfl (nw_tf rfl rfl (at_f rfl))) rfl (nw_tf rfl rfl (at_f rfl))) rfl (nw_tf rfl rfl (at_f rfl))) rfl (nw_tf rfl rfl (at_f rfl))) rfl (nw_tf rfl rfl (at_f rfl))) rfl (nw_tf rfl rfl (at_f rfl))) rfl (nw_tf rfl rfl (at_f rfl))) rfl (nw_tf rfl rfl (at_f rfl))) rfl (gd_y rfl rfl (at_f rfl))) rfl (gd_y rfl rfl (at_f rfl))) rfl (nw_tf rfl rfl (at_f rfl))) rfl (nw_tf rfl rfl (at_f rfl))) rfl (nw_tf rfl rfl (at_f rfl))) rfl (nw_tf rfl rfl (at_f rfl))) rfl (nw_tf rfl rfl (at_f rfl))) rfl (nw_tf rfl rfl (at_f rfl))
                                  first | exact ⟨_, ⟨rfl, rfl⟩, sbt⟩ | (exfalso; first | omega | exact c160 trivial | exact c170 hstep | exact c177 hstep | exact c201 hlink | exact c199 hlink)
                                · refine o_y rfl (yl_fa (T rfl) fa56_3) (o_y rfl (yl_load (T rfl) Try.isAgg54 (by first | exact c_o)) ?_ rfl (gd_y rfl rfl (at_f rfl))) rfl (gd_y rfl rfl (at_f rfl))
                                  refine o_y rfl (yl_ixR (T rfl) ev_c Try.runUnderlying54 Try.sizeOf64 (by first | omega | exact ⟨by decide, by decide⟩) (by first | exact rfl | exact hw.arr.b (i := k) (by omega) | exact (sl_arr (w0 := w0) (enc := encI) (sz := 1) (e := 3) (X := H) (fun _ => rfl) hoka).b (i := k) (by omega) | exact (sl_arr (w0 := w0) (enc := encTb) (sz := 1) (e := 51) (X := H) (fun _ => rfl) hokb).b (i := a.toNat) (by omega) | exact htb.arr.b (i := m) (by omega) | exact hwm.links.b (i := i) (by omega) | exact hn.links.b (i := (gd (gd l k).way.links i).toNat) (by omega) | exact (sl_arr (w0 := w0) (enc := encHd) (l := [Z]) (sz := 10) (e := 45) (X := H) (fun _ => rfl) hokd).b (i := 0) (by simp))) ?_ rfl (gd_y rfl rfl (at_f rfl))
                                  refine o_y rfl (yl_load (T rfl) Try.isAgg64 (by first | exact c_o | exact c_m (hrm.o))) ?_ rfl (gd_y rfl rfl (at_f rfl))
                                  refine o_y rfl (yl_len (T rfl) Try.runUnderlying64) (o_y rfl (yl_neq (T rfl) ev_c) (o_y rfl (yl_pick_f (T rfl) (T rfl)) (o_y rfl (yl_move (T rfl)) ?_ rfl (gd_y rfl rfl (at_f rfl))) rfl (gd_y rfl rfl (at_f rfl))) rfl (gd_y rfl rfl (at_f rfl))) rfl (gd_y rfl rfl (at_f rfl))
                                  first | refine o_if_d (s := 185) (at_f rfl) (fun c185 => ?_) (fun c185 => ?_) | refine o_if (s := 185) (at_f rfl) (fun c185 => ?_) (fun c185 => ?_)
                                  · refine o_n rfl (o_n rfl (o_n rfl (o_n rfl (o_n rfl (o_n rfl (o_n rfl (o_n rfl (o_n rfl (o_n rfl (o_n rfl (o_n rfl (o_n rfl (o_y rfl (yl_pick_t (T rfl) ev_c) (o_y rfl (yl_pick_t (T rfl) (T rfl)) (o_y rfl (yl_pick_f (T rfl) (T rfl)) (jo_nil rfl (jl_nil (q_then (j_keep [(5, _), (9, _), (11, _), (14, _), (17, _), (18, _), (19, _), (22, _), (201, _)] ⟨at_f rfl, at_f rfl, at_f rfl, at_f rfl, at_f rfl, at_f rfl, at_f rfl, at_f rfl, at_f rfl, trivial⟩ (j_cond_t (at_f rfl) (j_seq (j_region (y_ (yl_assign ev_c) (jl_nil (q_then (j_ret (q_then_ret (q_block_ret (q_then_ret (q_loop_ret (q_block_ret (q_then_ret (q_ret rfl (.tmp (at_f rfl) .nil) ?_)))))))))) rfl)))))))) rfl gd_n) rfl (gd_y rfl rfl (at_f rfl))) rfl (gd_y rfl rfl (at_f rfl))) rfl (nw_tf rfl rfl (at_f rfl))) rfl (nw_tf rfl rfl (at_f rfl))) rfl (nw_tf rfl rfl (at_f rfl))) rfl (nw_tf rfl rfl (at_f rfl))) rfl (nw_tf rfl rfl (at_f rfl))) rfl (nw_tf rfl rfl (at_f rfl))) rfl (nw_tf rfl rfl (at_f rfl))) rfl (nw_tf rfl rfl (at_f rfl))) rfl (nw_tf rfl rfl (at_f rfl))) rfl (nw_tf rfl rfl (at_f rfl))) rfl (nw_tf rfl rfl (at_f rfl))) rfl (nw_tf rfl rfl (at_f rfl))) rfl (nw_tf rfl rfl (at_f rfl))
                                    first | exact ⟨_, ⟨rfl, rfl⟩, sbt⟩ | (exfalso; first | omega | exact c160 trivial | exact c170 hstep | exact c177 hstep | exact c201 hlink | exact c199 hlink)
                                  · refine o_y rfl (yl_fa (T rfl) fa56_3) (o_y rfl (yl_load (T rfl) Try.isAgg54 (by first | exact c_o)) ?_ rfl (gd_y rfl rfl (at_f rfl))) rfl (gd_y rfl rfl (at_f rfl))
                                    refine o_y rfl (yl_ixR (T rfl) ev_c Try.runUnderlying54 Try.sizeOf64 (by first | omega | exact ⟨by decide, by decide⟩) (by first | exact rfl | exact hw.arr.b (i := k) (by omega) | exact (sl_arr (w0 := w0) (enc := encI) (sz := 1) (e := 3) (X := H) (fun _ => rfl) hoka).b (i := k) (by omega) | exact (sl_arr (w0 := w0) (enc := encTb) (sz := 1) (e := 51) (X := H) (fun _ => rfl) hokb).b (i := a.toNat) (by omega) | exact htb.arr.b (i := m) (by omega) | exact hwm.links.b (i := i) (by omega) | exact hn.links.b (i := (gd (gd l k).way.links i).toNat) (by omega) | exact (sl_arr (w0 := w0) (enc := encHd) (l := [Z]) (sz := 10) (e := 45) (X := H) (fun _ => rfl) hokd).b (i := 0) (by simp))) ?_ rfl (gd_y rfl rfl (at_f rfl))
                                    refine o_y rfl (yl_load (T rfl) Try.isAgg64 (by first | exact c_o | exact c_m (hrm.o))) ?_ rfl (gd_y rfl rfl (at_f rfl))
                                    refine o_y rfl (yl_ixR (T rfl) ev_c Try.runUnderlying64 Try.sizeOf67 (by first | omega | exact ⟨by decide, by decide⟩) (by first | exact rfl | exact hw.arr.b (i := k) (by omega) | exact (sl_arr (w0 := w0) (enc := encI) (sz := 1) (e := 3) (X := H) (fun _ => rfl) hoka).b (i := k) (by omega) | exact (sl_arr (w0 := w0) (enc := encTb) (sz := 1) (e := 51) (X := H) (fun _ => rfl) hokb).b (i := a.toNat) (by omega) | exact htb.arr.b (i := m) (by omega) | exact hwm.links.b (i := i) (by omega) | exact hn.links.b (i := (gd (gd l k).way.links i).toNat) (by omega) | exact (sl_arr (w0 := w0) (enc := encHd) (l := [Z]) (sz := 10) (e := 45) (X := H) (fun _ => rfl) hokd).b (i := 0) (by simp))) ?_ rfl (gd_y rfl rfl (at_f rfl))
                                    refine o_y rfl (yl_fa0 (T rfl) fa67_0) (o_y rfl (yl_load (T rfl) Try.isAgg3 (by first | exact c_o | exact c_m (hrm.a 0 _ rfl))) ?_ rfl (gd_y rfl rfl (at_f rfl))) rfl (gd_y rfl rfl (at_f rfl))
                                    refine o_y rfl (yl_fa (T rfl) fa48_1) (o_y rfl (yl_load (T rfl) Try.isAgg28 (by first | exact c_o)) ?_ rfl (gd_y rfl rfl (at_f rfl))) rfl (gd_y rfl rfl (at_f rfl))
                                    refine o_y rfl (yl_move (T rfl)) (o_y rfl (yl_ixQ (T rfl) (T rfl) Try.runUnderlying28 Try.sizeOf3 (by first | omega | exact ⟨by decide, by decide⟩) (by first | exact rfl | exact hw.arr.b (i := k) (by omega) | exact (sl_arr (w0 := w0) (enc := encI) (sz := 1) (e := 3) (X := H) (fun _ => rfl) hoka).b (i := k) (by omega) | exact (sl_arr (w0 := w0) (enc := encTb) (sz := 1) (e := 51) (X := H) (fun _ => rfl) hokb).b (i := a.toNat) (by omega) | exact htb.arr.b (i := m) (by omega) | exact hwm.links.b (i := i) (by omega) | exact hn.links.b (i := (gd (gd l k).way.links i).toNat) (by omega) | exact (sl_arr (w0 := w0) (enc := encHd) (l := [Z]) (sz := 10) (e := 45) (X := H) (fun _ => rfl) hokd).b (i := 0) (by simp))) ?_ rfl (gd_y rfl rfl (at_f rfl))) rfl (gd_y rfl rfl (at_f rfl))
                                    refine o_y rfl (yl_load (T rfl) Try.isAgg3 (by first | exact c_o | exact c_m (hwm.links.f0 (i := i) (by omega) rfl))) ?_ rfl (gd_y rfl rfl (at_f rfl))
                                    refine o_y rfl (yl_neq (T rfl) (T rfl)) (o_y rfl (yl_pick_f (T rfl) (T rfl)) (o_y rfl (yl_pick_t (T rfl) (T rfl)) (o_y rfl (yl_pick_f (T rfl) (T rfl)) (jo_nil rfl (jl_nil (q_then (j_keep [(5, _), (9, _), (11, _), (14, _), (17, _), (18, _), (19, _), (22, _), (201, _)] ⟨at_f rfl, at_f rfl, at_f rfl, at_f rfl, at_f rfl, at_f rfl, at_f rfl, at_f rfl, at_f rfl, trivial⟩ ?_)))) rfl gd_n) rfl (gd_y rfl rfl (at_f rfl))) rfl (gd_y rfl rfl (at_f rfl))) rfl (gd_y rfl rfl (at_f rfl))
                                    first | refine j_cond_d (at_f rfl) (fun c201 => ?_) (fun c201 => ?_) | refine j_cond (at_f rfl) (fun c201 => ?_) (fun c201 => ?_)
                                    · refine j_seq (j_region (y_ (yl_assign ev_c) (jl_nil (q_then (j_ret (q_then_ret (q_block_ret (q_then_ret (q_loop_ret (q_block_ret (q_then_ret (q_ret rfl (.tmp (at_f rfl) .nil) ?_)))))))))) rfl))
                                      first | exact ⟨_, ⟨rfl, rfl⟩, sbt⟩ | (exfalso; first | omega | exact c160 trivial | exact c170 hstep | exact c177 hstep | exact c201 hlink | exact c199 hlink)
                                    · refine j_skip (q_then (j_region (y_ (yl_move (T rfl)) (y_ (yl_ixR (T rfl) ev_c Try.runUnderlying57 Try.sizeOf45 (by first | omega | exact ⟨by decide, by decide⟩) (by first | exact rfl | exact hw.arr.b (i := k) (by omega) | exact (sl_arr (w0 := w0) (enc := encI) (sz := 1) (e := 3) (X := H) (fun _ => rfl) hoka).b (i := k) (by omega) | exact (sl_arr (w0 := w0) (enc := encTb) (sz := 1) (e := 51) (X := H) (fun _ => rfl) hokb).b (i := a.toNat) (by omega) | exact htb.arr.b (i := m) (by omega) | exact hwm.links.b (i := i) (by omega) | exact hn.links.b (i := (gd (gd l k).way.links i).toNat) (by omega) | exact (sl_arr (w0 := w0) (enc := encHd) (l := [Z]) (sz := 10) (e := 45) (X := H) (fun _ => rfl) hokd).b (i := 0) (by simp))) ?_ rfl) rfl)))
                                      refine y_ (yl_loadA (T rfl) Try.isAgg45 Try.sizeOf45 rfl (by first | exact cs_m ((sl_arr (w0 := w0) (enc := encHd) (l := [Z]) (sz := 10) (e := 45) (X := H) (fun _ => rfl) hokd).cs (i := 0) (by simp)) | exact cs_o)) ?_ rfl
                                      first | refine jl_e (eff_sW (T rfl) (T rfl) Try.sizeOf45) rfl gd_n ?_
                                      rintro _ _ ⟨rfl, rfl⟩
                                      refine jl_nil (q_block (q_then (j_region (y_ (yl_move (T rfl)) (y_ (yl_add (T rfl) ev_c (by omega)) ?_ rfl) rfl))))
                                      refine y_ (yl_assign (T rfl)) (jl_nil ?_) rfl
                                      first | (exfalso; omega) | (
                                        refine q_loopC ((i + 1, (gd n.links (gd (gd l k).way.links i).toNat).dst, gd (gd l k).way.links i, gd ta k)) ?_ ?_ ⟨at_f rfl, at_f rfl, trivial⟩ ⟨at_f rfl, at_f rfl, at_f rfl, at_f rfl, at_f rfl, trivial⟩ ?_
                                        · exact ⟨by omega, fun _ => ⟨(nodes_succ _ _ hlt2).symm, rfl⟩, by omega, by omega⟩
                                        · first | omega | (simp only []; omega)
                                        · simp only [hz]; exact sbt) | (
                                        refine q_loopC ((i + 1, a, (gd l k).way.port, (gd l k).way.tag)) ?_ ?_ ⟨at_f rfl, at_f rfl, trivial⟩ ⟨at_f rfl, at_f rfl, at_f rfl, at_f rfl, at_f rfl, trivial⟩ ?_
                                        · exact ⟨by omega, fun hle => by omega, hpt, htg⟩
                                        · first | omega | (simp only []; omega)
                                        · simp only [hz]; exact sbt)
                              · refine o_n rfl (o_n rfl (o_n rfl (o_n rfl (o_n rfl (o_n rfl (o_n rfl (o_n rfl (o_n rfl (o_n rfl (o_n rfl (o_n rfl (o_n rfl (o_n rfl (o_n rfl (o_n rfl (o_n rfl (o_n rfl (o_n rfl (o_n rfl (o_n rfl (o_n rfl (o_n rfl (o_n rfl (o_n rfl (o_n rfl (o_y rfl (yl_pick_f (T rfl) ev_c) (o_y rfl (yl_pick_f (T rfl) (T rfl)) (jo_nil rfl (jl_nil (q_then (j_keep [(5, _), (9, _), (11, _), (14, _), (17, _), (18, _), (19, _), (22, _), (201, _)] ⟨at_f rfl, at_f rfl, at_f rfl, at_f rfl, at_f rfl, at_f rfl, at_f rfl, at_f rfl, at_f rfl, trivial⟩ (j_cond_f (at_f rfl) (j_skip (q_then (j_region (y_ (yl_move (T rfl)) (y_ (yl_ixR (T rfl) ev_c Try.runUnderlying57 Try.sizeOf45 (by first | omega | exact ⟨by decide, by decide⟩) (by first | exact rfl | exact hw.arr.b (i := k) (by omega) | exact (sl_arr (w0 := w0) (enc := encI) (sz := 1) (e := 3) (X := H) (fun _ => rfl) hoka).b (i := k) (by omega) | exact (sl_arr (w0 := w0) (enc := encTb) (sz := 1) (e := 51) (X := H) (fun _ => rfl) hokb).b (i := a.toNat) (by omega) | exact htb.arr.b (i := m) (by omega) | exact hwm.links.b (i := i) (by omega) | exact hn.links.b (i := (gd (gd l k).way.links i).toNat) (by omega) | exact (sl_arr (w0 := w0) (enc := encHd) (l := [Z]) (sz := 10) (e := 45) (X := H) (fun _ => rfl) hokd).b (i := 0) (by simp))) ?_ rfl) rfl))))))))) rfl gd_n) rfl (gd_y rfl rfl (at_f rfl))) rfl (nw_ft rfl rfl (at_f rfl))) rfl (nw_u rfl rfl (at_f rfl))) rfl (nw_u rfl rfl (at_f rfl))) rfl (nw_u rfl rfl (at_f rfl))) rfl (nw_u rfl rfl (at_f rfl))) rfl (nw_u rfl rfl (at_f rfl))) rfl (nw_u rfl rfl (at_f rfl))) rfl (nw_u rfl rfl (at_f rfl))) rfl (nw_u rfl rfl (at_f rfl))) rfl (nw_u rfl rfl (at_f rfl))) rfl (nw_u rfl rfl (at_f rfl))) rfl (nw_u rfl rfl (at_f rfl))) rfl (nw_u rfl rfl (at_f rfl))) rfl (nw_u rfl rfl (at_f rfl))) rfl (nw_ft rfl rfl (at_f rfl))) rfl (nw_ft rfl rfl (at_f rfl))) rfl (nw_u rfl rfl (at_f rfl))) rfl (nw_u rfl rfl (at_f rfl))) rfl (nw_u rfl rfl (at_f rfl))) rfl (nw_u rfl rfl (at_f rfl))) rfl (nw_u rfl rfl (at_f rfl))) rfl (nw_u rfl rfl (at_f rfl))) rfl (nw_ft rfl rfl (at_f rfl))) rfl (nw_ft rfl rfl (at_f rfl))) rfl (nw_ft rfl rfl (at_f rfl))) rfl (nw_ft rfl rfl (at_f rfl))
                                refine y_ (yl_loadA (T rfl) Try.isAgg45 Try.sizeOf45 rfl (by first | exact cs_m ((sl_arr (w0 := w0) (enc := encHd) (l := [Z]) (sz := 10) (e := 45) (X := H) (fun _ => rfl) hokd).cs (i := 0) (by simp)) | exact cs_o)) ?_ rfl
                                first | refine jl_e (eff_sW (T rfl) (T rfl) Try.sizeOf45) rfl gd_n ?_
                                rintro _ _ ⟨rfl, rfl⟩
                                refine jl_nil (q_block (q_then (j_region (y_ (yl_move (T rfl)) (y_ (yl_add (T rfl) ev_c (by omega)) ?_ rfl) rfl))))
                                refine y_ (yl_assign (T rfl)) (jl_nil ?_) rfl
                                first | (exfalso; omega) | (
                                  refine q_loopC ((i + 1, (gd n.links (gd (gd l k).way.links i).toNat).dst, gd (gd l k).way.links i, gd ta k)) ?_ ?_ ⟨at_f rfl, at_f rfl, trivial⟩ ⟨at_f rfl, at_f rfl, at_f rfl, at_f rfl, at_f rfl, trivial⟩ ?_
                                  · exact ⟨by omega, fun _ => ⟨(nodes_succ _ _ hlt2).symm, rfl⟩, by omega, by omega⟩
                                  · first | omega | (simp only []; omega)
                                  · simp only [hz]; exact sbt) | (
                                  refine q_loopC ((i + 1, a, (gd l k).way.port, (gd l k).way.tag)) ?_ ?_ ⟨at_f rfl, at_f rfl, trivial⟩ ⟨at_f rfl, at_f rfl, at_f rfl, at_f rfl, at_f rfl, trivial⟩ ?_
                                  · exact ⟨by omega, fun hle => by omega, hpt, htg⟩
                                  · first | omega | (simp only []; omega)
                                  · simp only [hz]; exact sbt)
                          · refine o_n rfl (o_n rfl (o_n rfl (o_n rfl (o_n rfl (o_y rfl (yl_pick_f (T rfl) ev_c) (o_y rfl (yl_pick_f (T rfl) (T rfl)) (o_y rfl (yl_move (T rfl)) (o_y rfl (yl_move (T rfl)) ?_ rfl (gd_y rfl rfl (at_f rfl))) rfl gd_n) rfl gd_n) rfl (gd_y rfl rfl (at_f rfl))) rfl (nw_ft rfl rfl (at_f rfl))) rfl (nw_ft rfl rfl (at_f rfl))) rfl (nw_ft rfl rfl (at_f rfl))) rfl (nw_ft rfl rfl (at_f rfl))) rfl (nw_ft rfl rfl (at_f rfl))
                            first | refine o_y rfl (yl_not_d (T rfl)) ?_ rfl (gd_y rfl rfl (at_f rfl)) | refine o_y rfl (yl_not (T rfl)) ?_ rfl (gd_y rfl rfl (at_f rfl))
                            refine o_y rfl (yl_move (T rfl)) ?_ rfl (gd_y rfl rfl (at_f rfl))
                            first | refine o_if_d (s := 173) (at_f rfl) (fun c173 => ?_) (fun c173 => ?_) | refine o_if (s := 173) (at_f rfl) (fun c173 => ?_) (fun c173 => ?_)
                            · refine o_y rfl (yl_fa (T rfl) fa56_2) (o_y rfl (yl_load (T rfl) Try.isAgg3 (by first | exact c_o)) ?_ rfl (gd_y rfl rfl (at_f rfl))) rfl (gd_y rfl rfl (at_f rfl))
                              refine o_y rfl (yl_neq (T rfl) ev_c) (o_y rfl (yl_move (T rfl)) ?_ rfl (gd_y rfl rfl (at_f rfl))) rfl (gd_y rfl rfl (at_f rfl))
                              first | refine o_if_d (s := 177) (at_f rfl) (fun c177 => ?_) (fun c177 => ?_) | refine o_if (s := 177) (at_f rfl) (fun c177 => ?_) (fun c177 => ?_)
                              · refine o_n rfl (o_n rfl (o_n rfl (o_n rfl (o_n rfl (o_n rfl (o_y rfl (yl_pick_t (T rfl) ev_c) (o_y rfl (yl_move (T rfl)) (o_n rfl (o_n rfl (o_n rfl (o_n rfl (o_n rfl (o_n rfl (o_n rfl (o_n rfl (o_n rfl (o_n rfl (o_n rfl (o_n rfl (o_n rfl (o_y rfl (yl_pick_t (T rfl) ev_c) (o_y rfl (yl_pick_t (T rfl) (T rfl)) (o_y rfl (yl_pick_f (T rfl) (T rfl)) (jo_nil rfl (jl_nil (q_then (j_keep [(5, _), (9, _), (11, _), (14, _), (17, _), (18, _), (19, _), (22, _), (201, _)] ⟨at_f rfl, at_f rfl, at_f rfl, at_f rfl, at_f rfl, at_f rfl, at_f rfl, at_f rfl, at_f rfl, trivial⟩ (j_cond_t (at_f rfl) (j_seq (j_region (y_ (yl_assign ev_c) (jl_nil (q_then (j_ret (q_then_ret (q_block_ret (q_then_ret (q_loop_ret (q_block_ret (q_then_ret (q_ret rfl (.tmp (at_f rfl) .nil) ?_)))))))))) rfl)))))))) rfl gd_n) rfl (gd_y rfl rfl (at_f rfl))) rfl (gd_y rfl rfl (at_f rfl))) rfl (nw_tf rfl rfl (at_f rfl))) rfl (nw_tf rfl rfl (at_f rfl))) rfl (nw_tf rfl rfl (at_f rfl))) rfl (nw_tf rfl rfl (at_f rfl))) rfl (nw_tf rfl rfl (at_f rfl))) rfl (nw_tf rfl rfl (at_f rfl))) rfl (nw_tf rfl rfl (at_f rfl))) rfl (nw_tf rfl rfl (at_f rfl))) rfl (nw_tf rfl rfl (at_f rfl))) rfl (nw_tf rfl rfl (at_f rfl))) rfl (nw_tf rfl rfl (at_f rfl))) rfl (nw_tf rfl rfl (at_f rfl))) rfl (nw_tf rfl rfl (at_f rfl))) rfl (gd_y rfl rfl (at_f rfl))) rfl (gd_y rfl rfl (at_f rfl))) rfl (nw_tf rfl rfl (at_f rfl))) rfl (nw_tf rfl rfl (at_f rfl))) rfl (nw_tf rfl rfl (at_f rfl))) rfl (nw_tf rfl rfl (at_f rfl))) rfl (nw_tf rfl rfl (at_f rfl))) rfl (nw_tf rfl rfl (at_f rfl))
                                first | exact ⟨_, ⟨rfl, rfl⟩, sbt⟩ | (exfalso; first | omega | exact c160 trivial | exact c170 hstep | exact c177 hstep | exact c201 hlink | exact c199 hlink)
                              · refine o_y rfl (yl_fa (T rfl) fa56_3) (o_y rfl (yl_load (T rfl) Try.isAgg54 (by first | exact c_o)) ?_ rfl (gd_y rfl rfl (at_f rfl))) rfl (gd_y rfl rfl (at_f rfl))
                                refine o_y rfl (yl_ixR (T rfl) ev_c Try.runUnderlying54 Try.sizeOf64 (by first | omega | exact ⟨by decide, by decide⟩) (by first | exact rfl | exact hw.arr.b (i := k) (by omega) | exact (sl_arr (w0 := w0) (enc := encI) (sz := 1) (e := 3) (X := H) (fun _ => rfl) hoka).b (i := k) (by omega) | exact (sl_arr (w0 := w0) (enc := encTb) (sz := 1) (e := 51) (X := H) (fun _ => rfl) hokb).b (i := a.toNat) (by omega) | exact htb.arr.b (i := m) (by omega) | exact hwm.links.b (i := i) (by omega) | exact hn.links.b (i := (gd (gd l k).way.links i).toNat) (by omega) | exact (sl_arr (w0 := w0) (enc := encHd) (l := [Z]) (sz := 10) (e := 45) (X := H) (fun _ => rfl) hokd).b (i := 0) (by simp))) ?_ rfl (gd_y rfl rfl (at_f rfl))
                                refine o_y rfl (yl_load (T rfl) Try.isAgg64 (by first | exact c_o | exact c_m (hrm.o))) ?_ rfl (gd_y rfl rfl (at_f rfl))
                                refine o_y rfl (yl_len (T rfl) Try.runUnderlying64) (o_y rfl (yl_neq (T rfl) ev_c) (o_y rfl (yl_pick_f (T rfl) (T rfl)) (o_y rfl (yl_move (T rfl)) ?_ rfl (gd_y rfl rfl (at_f rfl))) rfl (gd_y rfl rfl (at_f rfl))) rfl (gd_y rfl rfl (at_f rfl))) rfl (gd_y rfl rfl (at_f rfl))
                                first | refine o_if_d (s := 185) (at_f rfl) (fun c185 => ?_) (fun c185 => ?_) | refine o_if (s := 185) (at_f rfl) (fun c185 => ?_) (fun c185 => ?_)
                                · refine o_n rfl (o_n rfl (o_n rfl (o_n rfl (o_n rfl (o_n rfl (o_n rfl (o_n rfl (o_n rfl (o_n rfl (o_n rfl (o_n rfl (o_n rfl (o_y rfl (yl_pick_t (T rfl) ev_c) (o_y rfl (yl_pick_t (T rfl) (T rfl)) (o_y rfl (yl_pick_f (T rfl) (T rfl)) (jo_nil rfl (jl_nil (q_then (j_keep [(5, _), (9, _), (11, _), (14, _), (17, _), (18, _), (19, _), (22, _), (201, _)] ⟨at_f rfl, at_f rfl, at_f rfl, at_f rfl, at_f rfl, at_f rfl, at_f rfl, at_f rfl, at_f rfl, trivial⟩ (j_cond_t (at_f rfl) (j_seq (j_region (y_ (yl_assign ev_c) (jl_nil (q_then (j_ret (q_then_ret (q_block_ret (q_then_ret (q_loop_ret (q_block_ret (q_then_ret (q_ret rfl (.tmp (at_f rfl) .nil) ?_)))))))))) rfl)))))))) rfl gd_n) rfl (gd_y rfl rfl (at_f rfl))) rfl (gd_y rfl rfl (at_f rfl))) rfl (nw_tf rfl rfl (at_f rfl))) rfl (nw_tf rfl rfl (at_f rfl))) rfl (nw_tf rfl rfl (at_f rfl))) rfl (nw_tf rfl rfl (at_f rfl))) rfl (nw_tf rfl rfl (at_f rfl))) rfl (nw_tf rfl rfl (at_f rfl))) rfl (nw_tf rfl rfl (at_f rfl))) rfl (nw_tf rfl rfl (at_f rfl))) rfl (nw_tf rfl rfl (at_f rfl))) rfl (nw_tf rfl rfl (at_f rfl))) rfl (nw_tf rfl rfl (at_f rfl))) rfl (nw_tf rfl rfl (at_f rfl))) rfl (nw_tf rfl rfl (at_f rfl))
                                  first | exact ⟨_, ⟨rfl, rfl⟩, sbt⟩ | (exfalso; first | omega | exact c160 trivial | exact c170 hstep | exact c177 hstep | exact c201 hlink | exact c199 hlink)
                                · refine o_y rfl (yl_fa (T rfl) fa56_3) (o_y rfl (yl_load (T rfl) Try.isAgg54 (by first | exact c_o)) ?_ rfl (gd_y rfl rfl (at_f rfl))) rfl (gd_y rfl rfl (at_f rfl))
                                  refine o_y rfl (yl_ixR (T rfl) ev_c Try.runUnderlying54 Try.sizeOf64 (by first | omega | exact ⟨by decide, by decide⟩) (by first | exact rfl | exact hw.arr.b (i := k) (by omega) | exact (sl_arr (w0 := w0) (enc := encI) (sz := 1) (e := 3) (X := H) (fun _ => rfl) hoka).b (i := k) (by omega) | exact (sl_arr (w0 := w0) (enc := encTb) (sz := 1) (e := 51) (X := H) (fun _ => rfl) hokb).b (i := a.toNat) (by omega) | exact htb.arr.b (i := m) (by omega) | exact hwm.links.b (i := i) (by omega) | exact hn.links.b (i := (gd (gd l k).way.links i).toNat) (by omega) | exact (sl_arr (w0 := w0) (enc := encHd) (l := [Z]) (sz := 10) (e := 45) (X := H) (fun _ => rfl) hokd).b (i := 0) (by simp))) ?_ rfl (gd_y rfl rfl (at_f rfl))
                                  refine o_y rfl (yl_load (T rfl) Try.isAgg64 (by first | exact c_o | exact c_m (hrm.o))) ?_ rfl (gd_y rfl rfl (at_f rfl))
                                  refine o_y rfl (yl_ixR (T rfl) ev_c Try.runUnderlying64 Try.sizeOf67 (by first | omega | exact ⟨by decide, by decide⟩) (by first | exact rfl | exact hw.arr.b (i := k) (by omega) | exact (sl_arr (w0 := w0) (enc := encI) (sz := 1) (e := 3) (X := H) (fun _ => rfl) hoka).b (i := k) (by omega) | exact (sl_arr (w0 := w0) (enc := encTb) (sz := 1) (e := 51) (X := H) (fun _ => rfl) hokb).b (i := a.toNat) (by omega) | exact htb.arr.b (i := m) (by omega) | exact hwm.links.b (i := i) (by omega) | exact hn.links.b (i := (gd (gd l k).way.links i).toNat) (by omega) | exact (sl_arr (w0 := w0) (enc := encHd) (l := [Z]) (sz := 10) (e := 45) (X := H) (fun _ => rfl) hokd).b (i := 0) (by simp))) ?_ rfl (gd_y rfl rfl (at_f rfl))
                                  refine o_y rfl (yl_fa0 (T rfl) fa67_0) (o_y rfl (yl_load (T rfl) Try.isAgg3 (by first | exact c_o | exact c_m (hrm.a 0 _ rfl))) ?_ rfl (gd_y rfl rfl (at_f rfl))) rfl (gd_y rfl rfl (at_f rfl))
                                  refine o_y rfl (yl_fa (T rfl) fa48_1) (o_y rfl (yl_load (T rfl) Try.isAgg28 (by first | exact c_o)) ?_ rfl (gd_y rfl rfl (at_f rfl))) rfl (gd_y rfl rfl (at_f rfl))
                                  refine o_y rfl (yl_move (T rfl)) (o_y rfl (yl_ixQ (T rfl) (T rfl) Try.runUnderlying28 Try.sizeOf3 (by first | omega | exact ⟨by decide, by decide⟩) (by first | exact rfl | exact hw.arr.b (i := k) (by omega) | exact (sl_arr (w0 := w0) (enc := encI) (sz := 1) (e := 3) (X := H) (fun _ => rfl) hoka).b (i := k) (by omega) | exact (sl_arr (w0 := w0) (enc := encTb) (sz := 1) (e := 51) (X := H) (fun _ => rfl) hokb).b (i := a.toNat) (by omega) | exact htb.arr.b (i := m) (by omega) | exact hwm.links.b (i := i) (by omega) | exact hn.links.b (i := (gd (gd l k).way.links i).toNat) (by omega) | exact (sl_arr (w0 := w0) (enc := encHd) (l := [Z]) (sz := 10) (e := 45) (X := H) (fun _ => rfl) hokd).b (i := 0) (by simp))) ?_ rfl (gd_y rfl rfl (at_f rfl))) rfl (gd_y rfl rfl (at_f rfl))
                                  refine o_y rfl (yl_load (T rfl) Try.isAgg3 (by first | exact c_o | exact c_m (hwm.links.f0 (i := i) (by omega) rfl))) ?_ rfl (gd_y rfl rfl (at_f rfl))
                                  refine o_y rfl (yl_neq (T rfl) (T rfl)) (o_y rfl (yl_pick_f (T rfl) (T rfl)) (o_y rfl (yl_pick_t (T rfl) (T rfl)) (o_y rfl (yl_pick_f (T rfl) (T rfl)) (jo_nil rfl (jl_nil (q_then (j_keep [(5, _), (9, _), (11, _), (14, _), (17, _), (18, _), (19, _), (22, _), (201, _)] ⟨at_f rfl, at_f rfl, at_f rfl, at_f rfl, at_f rfl, at_f rfl, at_f rfl, at_f rfl, at_f rfl, trivial⟩ ?_)))) rfl gd_n) rfl (gd_y rfl rfl (at_f rfl))) rfl (gd_y rfl rfl (at_f rfl))) rfl (gd_y rfl rfl (at_f rfl))
                                  first | refine j_cond_d (at_f rfl) (fun c201 => ?_) (fun c201 => ?_) | refine j_cond (at_f rfl) (fun c201 => ?_) (fun c201 => ?_)
                                  · refine j_seq (j_region (y_ (yl_assign ev_c) (jl_nil (q_then (j_ret (q_then_ret (q_block_ret (q_then_ret (q_loop_ret (q_block_ret (q_then_ret (q_ret rfl (.tmp (at_f rfl) .nil) ?_)))))))))) rfl))
                                    first | exact ⟨_, ⟨rfl, rfl⟩, sbt⟩ | (exfalso; first | omega | exact c160 trivial | exact c170 hstep | exact c177 hstep | exact c201 hlink | exact c199 hlink)
                                  · refine j_skip (q_then (j_region (y_ (yl_move (T rfl)) (y_ (yl_ixR (T rfl) ev_c Try.runUnderlying57 Try.sizeOf45 (by first | omega | exact ⟨by decide, by decide⟩) (by first | exact rfl | exact hw.arr.b (i := k) (by omega) | exact (sl_arr (w0 := w0) (enc := encI) (sz := 1) (e := 3) (X := H) (fun _ => rfl) hoka).b (i := k) (by omega) | exact (sl_arr (w0 := w0) (enc := encTb) (sz := 1) (e := 51) (X := H) (fun _ => rfl) hokb).b (i := a.toNat) (by omega) | exact htb.arr.b (i := m) (by omega) | exact hwm.links.b (i := i) (by omega) | exact hn.links.b (i := (gd (gd l k).way.links i).toNat) (by omega) | exact (sl_arr (w0 := w0) (enc := encHd) (l := [Z]) (sz := 10) (e := 45) (X := H) (fun _ => rfl) hokd).b (i := 0) (by simp))) ?_ rfl) rfl)))
                                    refine y_ (yl_loadA (T rfl) Try.isAgg45 Try.sizeOf45 rfl (by first | exact cs_m ((sl_arr (w0 := w0) (enc := encHd) (l := [Z]) (sz := 10) (e := 45) (X := H) (fun _ => rfl) hokd).cs (i := 0) (by simp)) | exact cs_o)) ?_ rfl
                                    first | refine jl_e (eff_sW (T rfl) (T rfl) Try.sizeOf45) rfl gd_n ?_
                                    rintro _ _ ⟨rfl, rfl⟩
                                    refine jl_nil (q_block (q_then (j_region (y_ (yl_move (T rfl)) (y_ (yl_add (T rfl) ev_c (by omega)) ?_ rfl) rfl))))
                                    refine y_ (yl_assign (T rfl)) (jl_nil ?_) rfl
                                    first | (exfalso; omega) | (
                                      refine q_loopC ((i + 1, (gd n.links (gd (gd l k).way.links i).toNat).dst, gd (gd l k).way.links i, gd ta k)) ?_ ?_ ⟨at_f rfl, at_f rfl, trivial⟩ ⟨at_f rfl, at_f rfl, at_f rfl, at_f rfl, at_f rfl, trivial⟩ ?_
                                      · exact ⟨by omega, fun _ => ⟨(nodes_succ _ _ hlt2).symm, rfl⟩, by omega, by omega⟩
                                      · first | omega | (simp only []; omega)
                                      · simp only [hz]; exact sbt) | (
                                      refine q_loopC ((i + 1, a, (gd l k).way.port, (gd l k).way.tag)) ?_ ?_ ⟨at_f rfl, at_f rfl, trivial⟩ ⟨at_f rfl, at_f rfl, at_f rfl, at_f rfl, at_f rfl, trivial⟩ ?_
                                      · exact ⟨by omega, fun hle => by omega, hpt, htg⟩
                                      · first | omega | (simp only []; omega)
                                      · simp only [hz]; exact sbt)
                            · refine o_n rfl (o_n rfl (o_n rfl (o_n rfl (o_n rfl (o_n rfl (o_n rfl (o_n rfl (o_n rfl (o_n rfl (o_n rfl (o_n rfl (o_n rfl (o_n rfl (o_n rfl (o_n rfl (o_n rfl (o_n rfl (o_n rfl (o_n rfl (o_n rfl (o_n rfl (o_n rfl (o_n rfl (o_n rfl (o_n rfl (o_y rfl (yl_pick_f (T rfl) ev_c) (o_y rfl (yl_pick_f (T rfl) (T rfl)) (jo_nil rfl (jl_nil (q_then (j_keep [(5, _), (9, _), (11, _), (14, _), (17, _), (18, _), (19, _), (22, _), (201, _)] ⟨at_f rfl, at_f rfl, at_f rfl, at_f rfl, at_f rfl, at_f rfl, at_f rfl, at_f rfl, at_f rfl, trivial⟩ (j_cond_f (at_f rfl) (j_skip (q_then (j_region (y_ (yl_move (T rfl)) (y_ (yl_ixR (T rfl) ev_c Try.runUnderlying57 Try.sizeOf45 (by first | omega | exact ⟨by decide, by decide⟩) (by first | exact rfl | exact hw.arr.b (i := k) (by omega) | exact (sl_arr (w0 := w0) (enc := encI) (sz := 1) (e := 3) (X := H) (fun _ => rfl) hoka).b (i := k) (by omega) | exact (sl_arr (w0 := w0) (enc := encTb) (sz := 1) (e := 51) (X := H) (fun _ => rfl) hokb).b (i := a.toNat) (by omega) | exact htb.arr.b (i := m) (by omega) | exact hwm.links.b (i := i) (by omega) | exact hn.links.b (i := (gd (gd l k).way.links i).toNat) (by omega) | exact (sl_arr (w0 := w0) (enc := encHd) (l := [Z]) (sz := 10) (e := 45) (X := H) (fun _ => rfl) hokd).b (i := 0) (by simp))) ?_ rfl) rfl))))))))) rfl gd_n) rfl (gd_y rfl rfl (at_f rfl))) rfl (nw_ft rfl rfl (at_f rfl))) rfl (nw_u rfl rfl (at_f rfl))) rfl (nw_u rfl rfl (at_f rfl))) rfl (nw_u rfl rfl (at_f rfl))) rfl (nw_u rfl rfl (at_f rfl))) rfl (nw_u rfl rfl (at_f rfl))) rfl (nw_u rfl rfl (at_f rfl))) rfl (nw_u rfl rfl (at_f rfl))) rfl (nw_u rfl rfl (at_f rfl))) rfl (nw_u rfl rfl (at_f rfl))) rfl (nw_u rfl rfl (at_f rfl))) rfl (nw_u rfl rfl (at_f rfl))) rfl (nw_u rfl rfl (at_f rfl))) rfl (nw_u rfl rfl (at_f rfl))) rfl (nw_ft rfl rfl (at_f rfl))) rfl (nw_ft rfl rfl (at_f rfl))) rfl (nw_u rfl rfl (at_f rfl))) rfl (nw_u rfl rfl (at_f rfl))) rfl (nw_u rfl rfl (at_f rfl))) rfl (nw_u rfl rfl (at_f rfl))) rfl (nw_u rfl rfl (at_f rfl))) rfl (nw_u rfl rfl (at_f rfl))) rfl (nw_ft rfl rfl (at_f rfl))) rfl (nw_ft rfl rfl (at_f rfl))) rfl (nw_ft rfl rfl (at_f rfl))) rfl (nw_ft rfl rfl (at_f rfl))
                              refine y_ (yl_loadA (T rfl) Try.isAgg45 Try.sizeOf45 rfl (by first | exact cs_m ((sl_arr (w0 := w0) (enc := encHd) (l := [Z]) (sz := 10) (e := 45) (X := H) (fun _ => rfl) hokd).cs (i := 0) (by simp)) | exact cs_o)) ?_ rfl
                              first | refine jl_e (eff_sW (T rfl) (T rfl) Try.sizeOf45) rfl gd_n ?_
                              rintro _ _ ⟨rfl, rfl⟩
                              refine jl_nil (q_block (q_then (j_region (y_ (yl_move (T rfl)) (y_ (yl_add (T rfl) ev_c (by omega)) ?_ rfl) rfl))))
                              refine y_ (yl_assign (T rfl)) (jl_nil ?_) rfl
                              first | (exfalso; omega) | (
                                refine q_loopC ((i + 1, (gd n.links (gd (gd l k).way.links i).toNat).dst, gd (gd l k).way.links i, gd ta k)) ?_ ?_ ⟨at_f rfl, at_f rfl, trivial⟩ ⟨at_f rfl, at_f rfl, at_f rfl, at_f rfl, at_f rfl, trivial⟩ ?_
                                · exact ⟨by omega, fun _ => ⟨(nodes_succ _ _ hlt2).symm, rfl⟩, by omega, by omega⟩
                                · first | omega | (simp only []; omega)
                                · simp only [hz]; exact sbt) | (
                                refine q_loopC ((i + 1, a, (gd l k).way.port, (gd l k).way.tag)) ?_ ?_ ⟨at_f rfl, at_f rfl, trivial⟩ ⟨at_f rfl, at_f rfl, at_f rfl, at_f rfl, at_f rfl, trivial⟩ ?_
                                · exact ⟨by omega, fun hle => by omega, hpt, htg⟩
                                · first | omega | (simp only []; omega)
                                · simp only [hz]; exact sbt)
                · refine j_exit (q_then_exit (q_loop_exit (q_block_hit (q_then (j_seq (j_region (y_ (yl_move (T rfl)) (y_ (yl_assign (T rfl)) (jl_nil (q_then (j_ret (q_ret rfl (.tmp (at_f rfl) .nil) ?_)))) rfl) rfl)))))))
                  first | exact ⟨_, ⟨rfl, rfl⟩, sbt⟩ | (exfalso; first | omega | exact c160 trivial | exact c170 hstep | exact c177 hstep | exact c201 hlink | exact c199 hlink)
end Go.Proofs.Ytdbffighngmibaa
