/-
  Plain laws on the places of a plan, and on tables under way.
-/
import Derived.Test.YtdbffighngmibaaVf
namespace Go.Proofs.Ytdbffighngmibaa
open Go.RowKit
set_option linter.unusedVariables false
set_option linter.unusedSimpArgs false
theorem look_mem {K V : Type} [DecidableEq K] : ∀ (l : List (K × V)) (k : K), (look l k).isSome = true ↔ k ∈ l.map (·.1)
  | [], k => by simp [look, findI]
  | e :: l, k => by
    rw [look_cons]
    split
    · rename_i h; simp [h]
    · rename_i h
      rw [look_mem l k]; simp only [List.map_cons, List.mem_cons]
      exact ⟨fun h2 => .inr h2, fun h2 => h2.resolve_left (fun h3 => h h3.symm)⟩
theorem keysEn_perm {pl : PlanL} {k : List (Int × Int)} (h : KeysEn pl k) : k.Perm (pl.map (·.1)) := by
  obtain ⟨seen, h1, h2, rfl⟩ := h
  have h3 : seen.Perm (List.range pl.length) := (List.perm_ext_iff_of_nodup h1 List.nodup_range).2 fun i => by rw [h2, List.mem_range]
  have h4 := h3.map fun i => (gd pl i).1
  have h5 : (List.range pl.length).map (fun i => (gd pl i).1) = pl.map (·.1) := by
    apply List.ext_getElem (by simp)
    intro i h6 h7
    simp at h6
    simp [gd_getElem h6]
  rw [h5] at h4
  exact h4
/-- what a plan of right tags holds -/
theorem plan_dom {n : Nm} {l : List Wm} (hg : Gw n l) {tg : List Int} (hel : tg.length = l.length) (hb : ∀ i, i < tg.length → 1 ≤ gd tg i ∧ gd tg i ≤ 65535) {t k : Int} {h : Hop} (hp : planR n.links (pairs l tg) t k = some h) :
    (1 ≤ t ∧ t ≤ 65535) ∧ (0 ≤ k ∧ k < n.nodes.length) ∧ (h.link = -1 ∨ 0 ≤ h.link) ∧ t ∈ tg := by
  obtain ⟨e, he, h1, h2⟩ := plan_some hp
  obtain ⟨i, hi, rfl⟩ := (mem_pairs (by omega)).1 he
  simp only at h1 h2
  refine ⟨h1 ▸ hb i hi, ?_, hop_link (hg.inr _ (gd_mem (by omega))) h2, h1 ▸ gd_mem hi⟩
  exact hg.at' _ (gd_mem (by omega)) _ (atF_mem h2)
/-- the table of a node, of some places -/
def tblP (top : Int) (f : Int → Int → Option Hop) (ks : List (Int × Int)) (j : Int) : List Rul := tblK top (fun t => f t j) ((ks.filter fun p => p.2 == j).map (·.1))
theorem tblP_step {top : Int} {f : Int → Int → Option Hop} {ks : List (Int × Int)} {k : Nat} (hk : k < ks.length) (j : Int) : tblP top f (ks.take (k + 1)) j = if (gd ks k).2 = j then tblS top (fun t => f t j) (tblP top f (ks.take k) j) (gd ks k).1 else tblP top f (ks.take k) j := by
  unfold tblP
  rw [take_gd hk, List.filter_append]
  by_cases h : (gd ks k).2 = j
  · rw [if_pos h]
    simp only [List.filter_cons, beq_iff_eq, h, if_true, List.filter_nil, List.map_append, List.map_cons, List.map_nil, tblK_snoc]
  · rw [if_neg h]
    have hb : ((gd ks k).2 == j) = false := by simpa using h
    simp [List.filter_cons, h]
theorem tblP_le (top : Int) (f : Int → Int → Option Hop) (ks : List (Int × Int)) (k : Nat) (j : Int) : (tblP top f (ks.take k) j).length ≤ (tblP top f ks j).length := by
  unfold tblP
  conv => rhs; rw [← List.take_append_drop k ks]
  rw [List.filter_append, List.map_append]
  exact tblK_len_le _ _ _ _
theorem tblP_all {n : Nm} {l : List Wm} (hg : Gw n l) {tg : List Int} (hel : tg.length = l.length) (hb : ∀ i, i < tg.length → 1 ≤ gd tg i ∧ gd tg i ≤ 65535) {pl : PlanL} (hrep : Rep n.links pl (pairs l tg)) (hok : PlOk l l.length pl) {k0 ks : List (Int × Int)}
    (hen : KeysEn pl k0) (hpm : ks.Perm k0) (hpw : ks.Pairwise fun a b => a.1 ≤ b.1) (top j : Int) : tblP top (planR n.links (pairs l tg)) ks j = tblK top (fun t => planR n.links (pairs l tg) t j) (usedF tg) := by
  have hp2 := hpm.trans (keysEn_perm hen)
  have hmem : ∀ t k, (t, k) ∈ ks ↔ t ∈ usedF tg ∧ (planR n.links (pairs l tg) t k).isSome = true := fun t k => by
    rw [hp2.mem_iff, ← look_mem, hrep t k]
    constructor
    · intro h
      obtain ⟨x, hx⟩ := Option.isSome_iff_exists.1 h
      have hd := plan_dom hg hel hb hx
      refine ⟨?_, h⟩
      unfold usedF
      exact usedTo_mem.2 ⟨by omega, hd.2.2.2⟩
    · exact fun h => h.2
  have h1 := places_node (ps := ks) (us := usedF tg) (f := fun t k => (planR n.links (pairs l tg) t k).isSome) (hp2.nodup_iff.2 hok.nd) hpw (usedTo_incr tg 65535) hmem j
  unfold tblP tblK
  rw [h1, ← tblK_filter]
/-- tables in memory, one of them apart -/
theorem ts_expose {ts : List Tb} {j : Nat} (h : j < ts.length) (Z : List (Nat × Obj)) : (tsH ts ++ Z).Perm (slH (gd ts j).d ((gd ts j).rs.flatMap encRm) 56 ++ ((gd ts j).rs.flatMap rmH ++ (tsH (restT ts j) ++ Z))) := by
  have := (ts_split h).append_right Z
  unfold tbH at this
  simpa only [List.append_assoc] using this
theorem ts_close {ts : List Tb} {j : Nat} (h : j < ts.length) (d : Sl) (rs : List Rm) (m : Rm) (Z : List (Nat × Obj)) : (rmH m ++ (slH d ((rs ++ [m]).flatMap encRm) 56 ++ (rs.flatMap rmH ++ (tsH (restT ts j) ++ Z)))).Perm (tsH (ts.set j ⟨d, rs ++ [m]⟩) ++ Z) := by
  refine (tb_add2 _ _ _ _).trans ?_
  have := (ts_join (⟨d, rs ++ [m]⟩ : Tb) h).append_right Z
  unfold tbH at this
  simpa only [List.append_assoc] using this
theorem ts_nil (N : Nat) : tsH (List.replicate N ⟨.nil, []⟩) = [] := by
  induction N with
  | zero => rfl
  | succ N ih => rw [List.replicate_succ]; unfold tsH at *; rw [List.flatMap_cons, ih]; rfl
theorem ts_cells (ts : List Tb) : ts.flatMap encTb = ts.map tbV := flat_one ts
theorem ts_zero (N : Nat) : (List.replicate N (⟨.nil, []⟩ : Tb)).flatMap encTb = List.replicate N (.slice none 0 0) := by rw [ts_cells]; simp [slQ, slC]
theorem c_tb {w0 : World} {H : List (Nat × Obj)} {b : Nat} {ts : List Tb} {j : Nat} (hf : Fnd H b (Cl (ts.flatMap encTb) 51)) (hj : j < ts.length) : Cell w0 H ⟨b, 0 + j * 1, none⟩ (tbV (gd ts j)) := by
  refine cell_get hf ?_
  rw [ts_cells]
  simp [hj, gd_getElem hj]
theorem setN_set : ∀ {l : List Value} {i : Nat} {v : Value}, i < l.length → SetN l i v (l.set i v)
  | [], i, v, h => by simp at h
  | x :: l, 0, v, _ => .h
  | x :: l, i + 1, v, h => .t (setN_set (by simpa using h))
theorem eff_sT {P : Program} {w0 : World} {L : Fm} {ty t : TypeId} {x y : Operand} {H H' : List (Nat × Obj)} {b : Nat} {ts : List Tb} {j : Nat} {v : Value} (t' : Tb) (hx : Ev L x (.pointer (some ⟨b, 0 + j * 1, none⟩))) (hy : Ev L y v) (hv : v = tbV t') (hz : ∀ w, (sizeOf t).run P w = .ok 1 w) (hj : j < ts.length)
    (hu : Upd H b (Cl (ts.flatMap encTb) 51) (Cl ((ts.set j t').flatMap encTb) 51) H') : Eff P w0 (.store t x y) ty L H (Still undef H') := by
  subst hv
  refine eff_store1 hx hy rfl hz ?_ hu
  rw [ts_cells, ts_cells, show (ts.set j t').map tbV = (ts.map tbV).set (0 + j * 1) (tbV t') by simp]
  exact setN_set (by simpa using hj)
theorem gd_set_ne {ts : List Tb} {i j : Nat} (t : Tb) (h : ¬ i = j) : gd (ts.set j t) i = gd ts i := by
  unfold gd; simp only [List.getD]; rw [List.getElem?_set_ne (by omega)]
theorem yl_lookH1 {w0 : World} {L : Fm} {H : List (Nat × Obj)} {ty : TypeId} {x y : Operand} {r : Nat} {l : PlanL} {k : Int × Int} {v : Value} {h : Hop} (hlk : look l k = some h) (hx : Ev L x (.map (some r))) (hy : Ev L y v) (hv : v = encK2 k) (hf : Fnd H r (mapO encK2 encHv l)) :
    Yl Try.prog w0 (.lookup 87 x y false) ty L H (encHv h) := by
  have h1 := yl_lookup (P := Try.prog) (w0 := w0) (ty := ty) (keyP (V := Hop)) hx hy hv Try.runUnderlying87 Try.zeroValue72 hf
  rwa [hlk] at h1
end Go.Proofs.Ytdbffighngmibaa
