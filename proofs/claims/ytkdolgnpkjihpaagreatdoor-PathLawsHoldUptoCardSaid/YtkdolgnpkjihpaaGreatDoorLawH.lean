/-
  For every input of bulk at most 1048576 PathLawsHold returns true, and its arguments read as before. Condition: the bound of the second form alone.
-/
import Derived.Test.YtkdolgnpkjihpaaGreatDoorJH5
import Derived.Test.YtkdolgnpkjihpaaGreatDoorCards
import Derived.Test.YtkdolgnpkjihpaaGreatDoorTie
import Derived.Deep.DeepHandedRow
namespace Go.Proofs.YtkdolgnpkjihpaaGreatDoor
open Go.ChangeShapes Go.WideShapes Go.ChangeAt Go.RowKit Go.Joins
set_option linter.unusedSimpArgs false
set_option linter.unusedVariables false
set_option maxRecDepth 100000
theorem hold_contract (H : Type) (enc : TypeId × Value → H) (W : World) (base : Nat) (args : Array Value) (ds gs : List (DataW H)) (before : List MemPlace)
  (hval0 : ∀ (j : Nat) t v, Tryz.f6.params[j]? = some t → args[j]? = some v → Value.okWide Tryz.prog W .any base t v)
  (hW : DataW.Whole enc Tryz.prog Tryz.f6.params.toList Rows.pathLawsHoldSpec.vars false W args.toList ds gs before) (hk : Rows.uptoSmall H (ds ++ gs) = true) :
  Calls Tryz.prog 6 args W fun e W' => ∃ v, e = .returned v ∧ Rows.pathLawsHoldSpec.post enc Tryz.prog Tryz.f6 false true false false W args v W' := by
 have hbk : Rows.uptoBulkAll (ds ++ gs) ≤ 1048576 := of_decide_eq_true hk
 have hval : ∀ (j : Nat) t v, Tryz.f6.params[j]? = some t → args[j]? = some v → Value.okWide Tryz.prog W .any base t v := hval0
 have hW' := hW
 obtain ⟨p, q, hA0, hV, rfl, hfz, hnd⟩ := hW
 have hA : DataW.TrodAll enc Tryz.prog W 0 (fun _ => true) true Tryz.f6.params.toList args.toList ds p := hA0
 rw [Tryz.params6] at hA hval
 have hAk := hA
 obtain ⟨v0, vs0, d0, ds0, p0, q0, hargs, rfl, rfl, h0, r0⟩ := trodAll_cons hA
 obtain ⟨v1, vs1, d1, ds1, p1, q1, rfl, rfl, rfl, h1, r1⟩ := trodAll_cons r0
 obtain ⟨v2, vs2, d2, ds2, p2, q2, rfl, rfl, rfl, h2, r2⟩ := trodAll_cons r1
 obtain ⟨rfl, rfl, rfl⟩ := trodAll_nil r2
 obtain rfl : args = #[v0, v1, v2] := by cases args; simp_all
 obtain ⟨rfl, rfl⟩ := trodVars_none hV
 simp only [List.append_nil, Rows.uptoBulkAll] at hbk
 obtain ⟨r, rfl, hr, br⟩ := open_rx (hval 0 24 v0 rfl rfl) h0
 obtain ⟨s, rfl, hs, bs⟩ := open_rx (hval 1 24 v1 rfl rfl) h1
 obtain ⟨t, rfl, ht, bt⟩ := open_rx (hval 2 24 v2 rfl rfl) h2
 clear hA0 hval0
 simp only [List.append_nil] at hW'
 refine (calls_true (laws_s r hr (by omega) s hs (by omega) t ht (by omega))).mono fun e W' ⟨he, hb⟩ => ?_
 subst he
 refine ⟨_, rfl, _, _, _, [], _, [], hW', trodAll_mk1 (shut_bool Tryz.underlying4 _), trodAll_stays ?_ hAk hb ?_, rfl, hb.frame _, fun h => by cases h⟩
 ·intro t ht
  have h9 : t = 24 ∨ t = 24 ∨ t = 24 := by simpa using ht
  have ht' : t = 24 := by rcases h9 with h | h | h <;> simp [h]
  rcases ht' with rfl
  exact ⟨by kernel_rfl, of_decide_eq_true (by kernel_rfl)⟩
 ·intro x hx; exact hW'.lt x (by simpa using hx)
theorem hold_met (os : Os) : laidMet Tryz.prog Rows.pathLawsHoldRow.laid ((laidWorld os).forCall (fun _ _ => 0) ⟨#[], #[.agg #[.int .i64 0, .string ⟨#[]⟩, .slice none 0 0], .agg #[.int .i64 0, .string ⟨#[]⟩, .slice none 0 0], .agg #[.int .i64 0, .string ⟨#[]⟩, .slice none 0 0]], []⟩).memory :=
 laidMet_of_run' 80 (by kernel_rfl) (by kernel_rfl)
theorem hold_reads (os : Os) {H : Type} (enc : TypeId × Value → H) : ∃ places, DataW.whole enc Tryz.prog ((laidWorld os).forCall (fun _ _ => 0) ⟨#[], #[.agg #[.int .i64 0, .string ⟨#[]⟩, .slice none 0 0], .agg #[.int .i64 0, .string ⟨#[]⟩, .slice none 0 0], .agg #[.int .i64 0, .string ⟨#[]⟩, .slice none 0 0]], []⟩).memory Tryz.f6.params.toList Rows.pathLawsHoldSpec.vars false (#[.agg #[.int .i64 0, .string ⟨#[]⟩, .slice none 0 0], .agg #[.int .i64 0, .string ⟨#[]⟩, .slice none 0 0], .agg #[.int .i64 0, .string ⟨#[]⟩, .slice none 0 0]] : Array Value).toList 8 = some ([.agg [.lit (.int .i64 0), .lit (.string []), .nil], .agg [.lit (.int .i64 0), .lit (.string []), .nil], .agg [.lit (.int .i64 0), .lit (.string []), .nil]], [], places) :=
 ⟨[], by kernel_rfl⟩
theorem hold_lifted (os : Os) (started : os.Started) (H : Type) (enc : TypeId × Value → H) (F : Stop.Interp) :
  ReturnsInHanded {} Tryz.checked os 6 .any ((Rows.OpenSpec.upto Rows.pathLawsHoldSpec).preRow enc Tryz.prog Tryz.f6 Rows.pathLawsHoldUptoRow.domain false Rows.pathLawsHoldUptoRow.laid) (((Rows.OpenSpec.upto Rows.pathLawsHoldSpec).at F).post enc Tryz.prog Tryz.f6 false true false false) := by
 obtain ⟨places, hx⟩ := hold_reads os enc
 refine returnsInHanded_of_row (C := Tryz.checked) (s := Rows.OpenSpec.upto Rows.pathLawsHoldSpec) own_knob started (by kernel_rfl) Tryz.func6
  (witness_row_at (enc := enc) (C := Tryz.checked) false (laidWorld os) #[.agg #[.int .i64 0, .string ⟨#[]⟩, .slice none 0 0], .agg #[.int .i64 0, .string ⟨#[]⟩, .slice none 0 0], .agg #[.int .i64 0, .string ⟨#[]⟩, .slice none 0 0]] rfl (by kernel_rfl) (by kernel_rfl) (by kernel_rfl)
   (OpenSpec.preRow_of_cond 8 hx (by kernel_rfl) (fun k hk => by cases hk; kernel_rfl) (by kernel_rfl) (hold_met os))) ?_
 intro W base args ds gs before hval hW _ hcond _ _ _ _
 exact hold_contract H enc W base args ds gs before hval hW (hcond _ U)
theorem hold_said : Rows.PathLawsHoldUptoSaid :=
 OpenClaim.holds_of_cond 6 Tryz.f6 U U U U U U U ⟨rfl, rfl, rfl, rfl, rfl⟩ rfl U U U U (by kernel_rfl) Tryz.func6 (by kernel_rfl)
  (of_decide_eq_true (by kernel_rfl)) (by unfold Func.isWrapper; first | (rw [if_pos (by decide +kernel)]; kernel_rfl) | (rw [if_neg (by decide +kernel)]; exact ⟨rfl, rfl⟩))
  (fun os started H enc _ F => by rw [OpenClaim.pre_eq_preRow]; exact hold_lifted os started H enc F)
theorem hold_plain (f : FuncId) (fn : Func) (hf : Tryz.pinned.checked.prog.funcNamed "interlace/interlacelaw16.PathLawsHold" = some f) (hfn : Tryz.pinned.checked.prog.funcs[f]? = some fn) :
  false = Tryz.pinned.checked.prog.looks [] ∧ ∀ (j : Nat) t, fn.params[j]? = some t → Tryz.pinned.checked.prog.wantsStandIn t = false := by
 obtain rfl : f = 6 := Option.some.inj ((show Tryz.prog.funcNamed "interlace/interlacelaw16.PathLawsHold" = some 6 by kernel_rfl).symm.trans hf) |>.symm
 obtain rfl : fn = Tryz.f6 := (Option.some.inj (Tryz.func6.symm.trans hfn)).symm
 refine ⟨by kernel_rfl, fun j t ht => ?_⟩
 rw [Tryz.params6] at ht
 have h9 : t = 24 ∨ t = 24 ∨ t = 24 := by simpa using Array.mem_of_getElem? ht
 have ht' : t = 24 := by rcases h9 with h | h | h <;> simp [h]
 rcases ht' with rfl
 ·exact (show Tryz.prog.wantsStandIn 24 = false by kernel_rfl)
/-- the statement -/
theorem hold_holds : Rows.PathLawsHoldUptoCardSaid :=
 Claim7.holds_tied_plain_at .later [] _ _ _ _ hold_said (fun _ h => by cases h) (by kernel_rfl) (fun _ h => by cases h) pathLawsHoldUpto_row_tie U ⟨rfl, rfl⟩ (by kernel_rfl) U hold_plain (by kernel_rfl)
end Go.Proofs.YtkdolgnpkjihpaaGreatDoor
