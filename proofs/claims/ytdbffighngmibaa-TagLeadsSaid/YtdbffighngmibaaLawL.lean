/-
  For every input TagLeads returns true, and its arguments read as before. No condition.
-/
import Derived.Test.YtdbffighngmibaaWz
import Derived.Test.YtdbffighngmibaaWe
namespace Go.Proofs.Ytdbffighngmibaa
open Go.ChangeShapes Go.WideShapes Go.ChangeAt Go.RowKit Go.Joins
set_option linter.unusedSimpArgs false
set_option linter.unusedVariables false
set_option maxRecDepth 100000
theorem cells45 : Try.prog.cellsOf 45 = 10 := by kernel_rfl
theorem open_head {H : Type} {enc : TypeId × Value → H} {W : World} {b0 : Nat} {sp1 : Nat → Bool} {held : Bool} {base : Nat} {r : Reach} {v : Value} {d : DataW H} {p : List MemPlace} (hv : Value.okWide Try.prog W r base 45 v) (h : DataW.Trod enc Try.prog W b0 sp1 held 45 v d p) : ∃ u : Nat → Int, v = .agg (encHd u).toArray := by
  simp only [Value.okWide, Try.underlying45] at hv
  obtain ⟨cs, rfl, hsz, _⟩ := hv
  obtain ⟨fuel, hf⟩ := h
  obtain ⟨xs, m, rfl, hx, hlen, hxl, hall⟩ := DataW.trod_array Try.underlying45 hf
  obtain ⟨l⟩ := cs
  simp only [Value.cells, cells45] at hlen hall
  match xs, hxl, l, hlen with
  | [x0, x1, x2, x3, x4, x5, x6, x7, x8, x9], _, [c0, c1, c2, c3, c4, c5, c6, c7, c8, c9], _ =>
    have f0 : DataW.trod enc Try.prog W b0 sp1 held m 3 [c0] = some x0 := by have := hall 0 (by omega); simpa [cells3] using this
    have f1 : DataW.trod enc Try.prog W b0 sp1 held m 3 [c1] = some x1 := by have := hall 1 (by omega); simpa [cells3] using this
    have f2 : DataW.trod enc Try.prog W b0 sp1 held m 3 [c2] = some x2 := by have := hall 2 (by omega); simpa [cells3] using this
    have f3 : DataW.trod enc Try.prog W b0 sp1 held m 3 [c3] = some x3 := by have := hall 3 (by omega); simpa [cells3] using this
    have f4 : DataW.trod enc Try.prog W b0 sp1 held m 3 [c4] = some x4 := by have := hall 4 (by omega); simpa [cells3] using this
    have f5 : DataW.trod enc Try.prog W b0 sp1 held m 3 [c5] = some x5 := by have := hall 5 (by omega); simpa [cells3] using this
    have f6 : DataW.trod enc Try.prog W b0 sp1 held m 3 [c6] = some x6 := by have := hall 6 (by omega); simpa [cells3] using this
    have f7 : DataW.trod enc Try.prog W b0 sp1 held m 3 [c7] = some x7 := by have := hall 7 (by omega); simpa [cells3] using this
    have f8 : DataW.trod enc Try.prog W b0 sp1 held m 3 [c8] = some x8 := by have := hall 8 (by omega); simpa [cells3] using this
    have f9 : DataW.trod enc Try.prog W b0 sp1 held m 3 [c9] = some x9 := by have := hall 9 (by omega); simpa [cells3] using this
    obtain ⟨a0, rfl, _⟩ := rd_int f0
    obtain ⟨a1, rfl, _⟩ := rd_int f1
    obtain ⟨a2, rfl, _⟩ := rd_int f2
    obtain ⟨a3, rfl, _⟩ := rd_int f3
    obtain ⟨a4, rfl, _⟩ := rd_int f4
    obtain ⟨a5, rfl, _⟩ := rd_int f5
    obtain ⟨a6, rfl, _⟩ := rd_int f6
    obtain ⟨a7, rfl, _⟩ := rd_int f7
    obtain ⟨a8, rfl, _⟩ := rd_int f8
    obtain ⟨a9, rfl, _⟩ := rd_int f9
    exact ⟨fun | 0 => a0 | 1 => a1 | 2 => a2 | 3 => a3 | 4 => a4 | 5 => a5 | 6 => a6 | 7 => a7 | 8 => a8 | _ => a9, rfl⟩
theorem leads_lifted (os : Os) (started : os.Started) (H : Type) (enc : TypeId × Value → H) :
    ReturnsInHanded {} Try.checked os 5 .any (Rows.tagLeadsSpec.pre6 enc Try.prog Try.f5 Rows.tagLeadsRow.domain false) (Rows.tagLeadsSpec.post enc Try.prog Try.f5 false true false false) := by
  refine returnsInHanded_of_change (C := Try.checked) own_knob started (by kernel_rfl) Try.func5
    (ChangeSpec.witness6 (enc := enc) (C := Try.checked) false ⟨#[], #[.agg #[.slice none 0 0, .slice none 0 0, .slice none 0 0], .int .i64 0, .slice none 0 0, .int .u8 0, .agg #[.int .i64 0, .int .i64 0, .int .i64 0, .int .i64 0, .int .i64 0, .int .i64 0, .int .i64 0, .int .i64 0, .int .i64 0, .int .i64 0]], []⟩ 8 (by kernel_rfl) (by kernel_rfl) (by kernel_rfl) (by kernel_rfl)) ?_
  intro W base args ds gs before hval0 hW hcnd _
  have hval : ∀ (j : Nat) t v, Try.f5.params[j]? = some t → args[j]? = some v → Value.okWide Try.prog W .any base t v := hval0
  have hW' := hW
  obtain ⟨p, q, hA0, hV, rfl, hfz, hnd⟩ := hW
  have hA : DataW.TrodAll enc Try.prog W 0 (fun _ => true) true Try.f5.params.toList args.toList ds p := hA0
  rw [Try.params5] at hA hval
  have hAk := hA
  obtain ⟨v0, vs0, d0, ds0, p0, q0, hargs, rfl, rfl, h0, r0⟩ := trodAll_cons hA
  obtain ⟨v1, vs1, d1, ds1, p1, q1, rfl, rfl, rfl, h1, r1⟩ := trodAll_cons r0
  obtain ⟨v2, vs2, d2, ds2, p2, q2, rfl, rfl, rfl, h2, r2⟩ := trodAll_cons r1
  obtain ⟨v3, vs3, d3, ds3, p3, q3, rfl, rfl, rfl, h3, r3⟩ := trodAll_cons r2
  obtain ⟨v4, vs4, d4, ds4, p4, q4, rfl, rfl, rfl, h4, r4⟩ := trodAll_cons r3
  obtain ⟨rfl, rfl, rfl⟩ := trodAll_nil r4
  obtain rfl : args = #[v0, v1, v2, v3, v4] := by cases args; simp_all
  obtain ⟨rfl, rfl⟩ := trodVars_none hV
  obtain ⟨n, rfl, hn⟩ := open_net (hval 0 26 v0 rfl rfl) h0
  obtain ⟨steps, rfl, _, _, w1⟩ := open_int Try.underlying3 (hval 1 3 v1 rfl rfl) h1
  obtain ⟨ql, l, kl, rfl, hl, cl⟩ := open_ways (hval 2 27 v2 rfl rfl) h2
  obtain ⟨pick, rfl, _, _, w3⟩ := open_int Try.underlying5 (hval 3 5 v3 rfl rfl) h3
  obtain ⟨h, rfl⟩ := open_head (hval 4 45 v4 rfl rfl) h4
  clear hA0 hval0
  simp only [List.append_nil] at hW'
  refine (calls_true (leads_s n hn steps (i64_bd w1) ql kl l hl pick (bounds_u8 w3) h)).mono fun e W' ⟨he, hb⟩ => ?_
  subst he
  refine ⟨_, rfl, _, _, _, [], _, [], hW', trodAll_mk1 (shut_bool Try.underlying4 _), trodAll_stays ?_ hAk hb ?_, rfl, hb.frame _, fun h => by cases h⟩
  · intro t ht
    have h9 : t = 26 ∨ t = 3 ∨ t = 27 ∨ t = 5 ∨ t = 45 := by simpa using ht
    have ht' : t = 26 ∨ t = 3 ∨ t = 27 ∨ t = 5 ∨ t = 45 := by rcases h9 with h | h | h | h | h <;> simp [h]
    rcases ht' with rfl | rfl | rfl | rfl | rfl
    · exact ⟨by kernel_rfl, of_decide_eq_true (by kernel_rfl)⟩
    · exact ⟨by kernel_rfl, of_decide_eq_true (by kernel_rfl)⟩
    · exact ⟨by kernel_rfl, of_decide_eq_true (by kernel_rfl)⟩
    · exact ⟨by kernel_rfl, of_decide_eq_true (by kernel_rfl)⟩
    · exact ⟨by kernel_rfl, of_decide_eq_true (by kernel_rfl)⟩
  · intro x hx; exact hW'.lt x (by simpa using hx)
/-- the statement -/
theorem leads_holds : Rows.TagLeadsSaid :=
  OpenClaim.holds_of_wide 5 Try.f5 rfl rfl rfl rfl rfl rfl rfl ⟨rfl, rfl, rfl, rfl, rfl⟩ rfl rfl rfl rfl rfl (by kernel_rfl) Try.func5 (by kernel_rfl)
    (of_decide_eq_true (by kernel_rfl)) (by unfold Func.isWrapper; first | (rw [if_pos (by decide +kernel)]; kernel_rfl) | (rw [if_neg (by decide +kernel)]; exact ⟨rfl, rfl⟩))
    (fun os started H enc _ => leads_lifted os started H enc)
end Go.Proofs.Ytdbffighngmibaa
