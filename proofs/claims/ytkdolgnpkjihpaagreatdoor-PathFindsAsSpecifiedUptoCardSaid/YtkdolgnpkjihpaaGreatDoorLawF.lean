/-
  For every input of bulk at most 1048576 PathFindsAsSpecified returns true, and its arguments read as before. Condition: the bound of the second form alone.
-/
import Derived.Test.YtkdolgnpkjihpaaGreatDoorJF6
import Derived.Test.YtkdolgnpkjihpaaGreatDoorCards
import Derived.Test.YtkdolgnpkjihpaaGreatDoorTie
import Derived.Deep.DeepHandedRow
namespace Go.Proofs.YtkdolgnpkjihpaaGreatDoor
open Go.ChangeShapes Go.WideShapes Go.ChangeAt Go.RowKit Go.Joins
set_option linter.unusedSimpArgs false
set_option linter.unusedVariables false
set_option maxRecDepth 100000
theorem finds_contract (H : Type) (enc : TypeId × Value → H) (W : World) (base : Nat) (args : Array Value) (ds gs : List (DataW H)) (before : List MemPlace)
  (hval0 : ∀ (j : Nat) t v, Tryz.f7.params[j]? = some t → args[j]? = some v → Value.okWide Tryz.prog W .any base t v)
  (hW : DataW.Whole enc Tryz.prog Tryz.f7.params.toList Rows.pathFindsAsSpecifiedSpec.vars false W args.toList ds gs before) (hk : Rows.uptoSmall H (ds ++ gs) = true) :
  Calls Tryz.prog 7 args W fun e W' => ∃ v, e = .returned v ∧ Rows.pathFindsAsSpecifiedSpec.post enc Tryz.prog Tryz.f7 false true false false W args v W' := by
 have hbk : Rows.uptoBulkAll (ds ++ gs) ≤ 1048576 := of_decide_eq_true hk
 have hval : ∀ (j : Nat) t v, Tryz.f7.params[j]? = some t → args[j]? = some v → Value.okWide Tryz.prog W .any base t v := hval0
 have hW' := hW
 obtain ⟨p, q, hA0, hV, rfl, hfz, hnd⟩ := hW
 have hA : DataW.TrodAll enc Tryz.prog W 0 (fun _ => true) true Tryz.f7.params.toList args.toList ds p := hA0
 rw [Tryz.params7] at hA hval
 have hAk := hA
 obtain ⟨v0, vs0, d0, ds0, p0, q0, hargs, rfl, rfl, h0, r0⟩ := trodAll_cons hA
 obtain ⟨v1, vs1, d1, ds1, p1, q1, rfl, rfl, rfl, h1, r1⟩ := trodAll_cons r0
 obtain ⟨v2, vs2, d2, ds2, p2, q2, rfl, rfl, rfl, h2, r2⟩ := trodAll_cons r1
 obtain ⟨v3, vs3, d3, ds3, p3, q3, rfl, rfl, rfl, h3, r3⟩ := trodAll_cons r2
 obtain ⟨v4, vs4, d4, ds4, p4, q4, rfl, rfl, rfl, h4, r4⟩ := trodAll_cons r3
 obtain ⟨v5, vs5, d5, ds5, p5, q5, rfl, rfl, rfl, h5, r5⟩ := trodAll_cons r4
 obtain ⟨v6, vs6, d6, ds6, p6, q6, rfl, rfl, rfl, h6, r6⟩ := trodAll_cons r5
 obtain ⟨v7, vs7, d7, ds7, p7, q7, rfl, rfl, rfl, h7, r7⟩ := trodAll_cons r6
 obtain ⟨rfl, rfl, rfl⟩ := trodAll_nil r7
 obtain rfl : args = #[v0, v1, v2, v3, v4, v5, v6, v7] := by cases args; simp_all
 obtain ⟨rfl, rfl⟩ := trodVars_none hV
 simp only [List.append_nil, Rows.uptoBulkAll] at hbk
 obtain ⟨n, rfl, hn⟩ := open_net (hval 0 56 v0 rfl rfl) h0
 obtain ⟨f, rfl, hf, lf⟩ := open_fail (hval 1 58 v1 rfl rfl) h1
 obtain ⟨r, rfl, hr, br⟩ := open_rx (hval 2 24 v2 rfl rfl) h2
 obtain ⟨m, rfl, hm⟩ := open_mach (hval 3 29 v3 rfl rfl) h3 (by omega)
 obtain ⟨x, rfl, _, _, w4⟩ := open_int Tryz.underlying3 (hval 4 3 v4 rfl rfl) h4
 obtain ⟨y, rfl, _, _, w5⟩ := open_int Tryz.underlying3 (hval 5 3 v5 rfl rfl) h5
 obtain ⟨qls, ls, kls, rfl, hls, cls, lls, ils, bls⟩ := open_ints (hval 6 42 v6 rfl rfl) h6
 obtain ⟨qpl, pl, kpl, rfl, hpl, cpl, lpl⟩ := open_places (hval 7 59 v7 rfl rfl) h7
 clear hA0 hval0
 simp only [List.append_nil] at hW'
 refine (calls_true (finds_s n hn f hf lf r hr (by omega) m hm x y ls qls kls hls lls pl qpl kpl hpl lpl)).mono fun e W' ⟨he, hb⟩ => ?_
 subst he
 refine ⟨_, rfl, _, _, _, [], _, [], hW', trodAll_mk1 (shut_bool Tryz.underlying4 _), trodAll_stays ?_ hAk hb ?_, rfl, hb.frame _, fun h => by cases h⟩
 ·intro t ht
  have h9 : t = 56 ∨ t = 58 ∨ t = 24 ∨ t = 29 ∨ t = 3 ∨ t = 3 ∨ t = 42 ∨ t = 59 := by simpa using ht
  have ht' : t = 56 ∨ t = 58 ∨ t = 24 ∨ t = 29 ∨ t = 3 ∨ t = 42 ∨ t = 59 := by rcases h9 with h | h | h | h | h | h | h | h <;> simp [h]
  rcases ht' with rfl | rfl | rfl | rfl | rfl | rfl | rfl
  ·exact ⟨by kernel_rfl, of_decide_eq_true (by kernel_rfl)⟩
  ·exact ⟨by kernel_rfl, of_decide_eq_true (by kernel_rfl)⟩
  ·exact ⟨by kernel_rfl, of_decide_eq_true (by kernel_rfl)⟩
  ·exact ⟨by kernel_rfl, of_decide_eq_true (by kernel_rfl)⟩
  ·exact ⟨by kernel_rfl, of_decide_eq_true (by kernel_rfl)⟩
  ·exact ⟨by kernel_rfl, of_decide_eq_true (by kernel_rfl)⟩
  ·exact ⟨by kernel_rfl, of_decide_eq_true (by kernel_rfl)⟩
 ·intro x hx; exact hW'.lt x (by simpa using hx)
theorem finds_met (os : Os) : laidMet Tryz.prog Rows.pathFindsAsSpecifiedRow.laid ((laidWorld os).forCall (fun _ _ => 0) ⟨#[], #[.agg #[.slice none 0 0, .slice none 0 0, .slice none 0 0], .agg #[.slice none 0 0, .int .i64 0], .agg #[.int .i64 0, .string ⟨#[]⟩, .slice none 0 0], .agg #[.slice none 0 0, .slice none 0 0, .slice none 0 0], .int .i64 0, .int .i64 0, .slice none 0 0, .slice none 0 0], []⟩).memory :=
 laidMet_of_run' 80 (by kernel_rfl) (by kernel_rfl)
theorem finds_reads (os : Os) {H : Type} (enc : TypeId × Value → H) : ∃ places, DataW.whole enc Tryz.prog ((laidWorld os).forCall (fun _ _ => 0) ⟨#[], #[.agg #[.slice none 0 0, .slice none 0 0, .slice none 0 0], .agg #[.slice none 0 0, .int .i64 0], .agg #[.int .i64 0, .string ⟨#[]⟩, .slice none 0 0], .agg #[.slice none 0 0, .slice none 0 0, .slice none 0 0], .int .i64 0, .int .i64 0, .slice none 0 0, .slice none 0 0], []⟩).memory Tryz.f7.params.toList Rows.pathFindsAsSpecifiedSpec.vars false (#[.agg #[.slice none 0 0, .slice none 0 0, .slice none 0 0], .agg #[.slice none 0 0, .int .i64 0], .agg #[.int .i64 0, .string ⟨#[]⟩, .slice none 0 0], .agg #[.slice none 0 0, .slice none 0 0, .slice none 0 0], .int .i64 0, .int .i64 0, .slice none 0 0, .slice none 0 0] : Array Value).toList 8 = some ([.agg [.nil, .nil, .nil], .agg [.nil, .lit (.int .i64 0)], .agg [.lit (.int .i64 0), .lit (.string []), .nil], .agg [.nil, .nil, .nil], .lit (.int .i64 0), .lit (.int .i64 0), .nil, .nil], [], places) :=
 ⟨[], by kernel_rfl⟩
theorem finds_lifted (os : Os) (started : os.Started) (H : Type) (enc : TypeId × Value → H) (F : Stop.Interp) :
  ReturnsInHanded {} Tryz.checked os 7 .any ((Rows.OpenSpec.upto Rows.pathFindsAsSpecifiedSpec).preRow enc Tryz.prog Tryz.f7 Rows.pathFindsAsSpecifiedUptoRow.domain false Rows.pathFindsAsSpecifiedUptoRow.laid) (((Rows.OpenSpec.upto Rows.pathFindsAsSpecifiedSpec).at F).post enc Tryz.prog Tryz.f7 false true false false) := by
 obtain ⟨places, hx⟩ := finds_reads os enc
 refine returnsInHanded_of_row (C := Tryz.checked) (s := Rows.OpenSpec.upto Rows.pathFindsAsSpecifiedSpec) own_knob started (by kernel_rfl) Tryz.func7
  (witness_row_at (enc := enc) (C := Tryz.checked) false (laidWorld os) #[.agg #[.slice none 0 0, .slice none 0 0, .slice none 0 0], .agg #[.slice none 0 0, .int .i64 0], .agg #[.int .i64 0, .string ⟨#[]⟩, .slice none 0 0], .agg #[.slice none 0 0, .slice none 0 0, .slice none 0 0], .int .i64 0, .int .i64 0, .slice none 0 0, .slice none 0 0] rfl (by kernel_rfl) (by kernel_rfl) (by kernel_rfl)
   (OpenSpec.preRow_of_cond 8 hx (by kernel_rfl) (fun k hk => by cases hk; kernel_rfl) (by kernel_rfl) (finds_met os))) ?_
 intro W base args ds gs before hval hW _ hcond _ _ _ _
 exact finds_contract H enc W base args ds gs before hval hW (hcond _ E)
theorem finds_said : Rows.PathFindsAsSpecifiedUptoSaid :=
 OpenClaim.holds_of_cond 7 Tryz.f7 E E E E E E E ⟨rfl, rfl, rfl, rfl, rfl⟩ rfl E E E E (by kernel_rfl) Tryz.func7 (by kernel_rfl)
  (of_decide_eq_true (by kernel_rfl)) (by unfold Func.isWrapper; first | (rw [if_pos (by decide +kernel)]; kernel_rfl) | (rw [if_neg (by decide +kernel)]; exact ⟨rfl, rfl⟩))
  (fun os started H enc _ F => by rw [OpenClaim.pre_eq_preRow]; exact finds_lifted os started H enc F)
theorem finds_plain (f : FuncId) (fn : Func) (hf : Tryz.pinned.checked.prog.funcNamed "interlace/interlacelaw16.PathFindsAsSpecified" = some f) (hfn : Tryz.pinned.checked.prog.funcs[f]? = some fn) :
  false = Tryz.pinned.checked.prog.looks [] ∧ ∀ (j : Nat) t, fn.params[j]? = some t → Tryz.pinned.checked.prog.wantsStandIn t = false := by
 obtain rfl : f = 7 := Option.some.inj ((show Tryz.prog.funcNamed "interlace/interlacelaw16.PathFindsAsSpecified" = some 7 by kernel_rfl).symm.trans hf) |>.symm
 obtain rfl : fn = Tryz.f7 := (Option.some.inj (Tryz.func7.symm.trans hfn)).symm
 refine ⟨by kernel_rfl, fun j t ht => ?_⟩
 rw [Tryz.params7] at ht
 have h9 : t = 56 ∨ t = 58 ∨ t = 24 ∨ t = 29 ∨ t = 3 ∨ t = 3 ∨ t = 42 ∨ t = 59 := by simpa using Array.mem_of_getElem? ht
 have ht' : t = 56 ∨ t = 58 ∨ t = 24 ∨ t = 29 ∨ t = 3 ∨ t = 42 ∨ t = 59 := by rcases h9 with h | h | h | h | h | h | h | h <;> simp [h]
 rcases ht' with rfl | rfl | rfl | rfl | rfl | rfl | rfl
 ·exact (show Tryz.prog.wantsStandIn 56 = false by kernel_rfl)
 ·exact (show Tryz.prog.wantsStandIn 58 = false by kernel_rfl)
 ·exact (show Tryz.prog.wantsStandIn 24 = false by kernel_rfl)
 ·exact (show Tryz.prog.wantsStandIn 29 = false by kernel_rfl)
 ·exact (show Tryz.prog.wantsStandIn 3 = false by kernel_rfl)
 ·exact (show Tryz.prog.wantsStandIn 42 = false by kernel_rfl)
 ·exact (show Tryz.prog.wantsStandIn 59 = false by kernel_rfl)
/-- the statement -/
theorem finds_holds : Rows.PathFindsAsSpecifiedUptoCardSaid :=
 Claim7.holds_tied_plain_at .later [] _ _ _ _ finds_said (fun _ h => by cases h) (by kernel_rfl) (fun _ h => by cases h) pathFindsAsSpecifiedUpto_row_tie E ⟨rfl, rfl⟩ (by kernel_rfl) E finds_plain (by kernel_rfl)
end Go.Proofs.YtkdolgnpkjihpaaGreatDoor
