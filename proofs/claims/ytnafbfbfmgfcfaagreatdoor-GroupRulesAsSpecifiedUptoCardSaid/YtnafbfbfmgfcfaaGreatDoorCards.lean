/-
  DERIVED. GIVEN WITH THE SEED: THE CARDS: each row of YtnafbfbfmgfcfaaGreatDoorRows.lean that lists a variable, with what it lists TIED to the program's text (the seventh form; the later family's looks); each row that meets fmt, with fmt's text TOLD by the authors' own Lean function (tested against real Go, not proved from fmt's source: count such statements apart). THE CARD IS WHAT COUNTS. Prove the row's statement (the work); the ties are given (YtnafbfbfmgfcfaaGreatDoorTie.lean); close each card by the builder's one call (the guide's Derived/Test/ToyasCard.lean, 'card_holds'). Laid BY PROGRAM, IN A SANDBOX (cutbox-door.mjs). By AI agents, Wed Nov 11 2026. No macro, syntax, notation, axiom, sorry.
-/
import Derived.Test.YtnafbfbfmgfcfaaGreatDoorRows
import GoSem.ClaimSeven
namespace Go.Proofs.YtnafbfbfmgfcfaaGreatDoor
namespace Rows

/-- THE TIED CARD OF 'interlacelaw28.GroupProtectsAsSpecified'. -/
def groupProtectsAsSpecifiedCard : Claim7 := { stood := { row := groupProtectsAsSpecifiedRow, standIns := [], harness := (true, "f8e3a56bf96dcf34adadecf12e7b048f85f636692bcdfa3c128089b676dd5984"), looks := false }, kinds := [], alts := [], laidByText := true, laidKinds := [.widerDeep], laidTests := true, laidLooks := .later }
def GroupProtectsAsSpecifiedCardSaid : Prop := Claim7.holds Tryz.pinned (.plain (OpenSpec.ofChange groupProtectsAsSpecifiedSpec)) groupProtectsAsSpecifiedCard

/-- THE TIED CARD OF 'interlacelaw28.GroupAssignsTags'. -/
def groupAssignsTagsCard : Claim7 := { stood := { row := groupAssignsTagsRow, standIns := [], harness := (true, "f8e3a56bf96dcf34adadecf12e7b048f85f636692bcdfa3c128089b676dd5984"), looks := false }, kinds := [], alts := [], laidByText := true, laidKinds := [.widerDeep], laidTests := true, laidLooks := .later }
def GroupAssignsTagsCardSaid : Prop := Claim7.holds Tryz.pinned (.plain (OpenSpec.ofChange groupAssignsTagsSpec)) groupAssignsTagsCard

/-- THE TIED CARD OF 'interlacelaw28.GroupRulesAsSpecified'. -/
def groupRulesAsSpecifiedCard : Claim7 := { stood := { row := groupRulesAsSpecifiedRow, standIns := [], harness := (true, "f8e3a56bf96dcf34adadecf12e7b048f85f636692bcdfa3c128089b676dd5984"), looks := false }, kinds := [], alts := [], laidByText := true, laidKinds := [.widerDeep], laidTests := true, laidLooks := .later }
def GroupRulesAsSpecifiedCardSaid : Prop := Claim7.holds Tryz.pinned (.plain (OpenSpec.ofChange groupRulesAsSpecifiedSpec)) groupRulesAsSpecifiedCard

/-- THE TIED CARD OF 'interlacelaw28.GroupFindsDetours'. -/
def groupFindsDetoursCard : Claim7 := { stood := { row := groupFindsDetoursRow, standIns := [], harness := (true, "f8e3a56bf96dcf34adadecf12e7b048f85f636692bcdfa3c128089b676dd5984"), looks := false }, kinds := [], alts := [], laidByText := true, laidKinds := [.widerDeep], laidTests := true, laidLooks := .later }
def GroupFindsDetoursCardSaid : Prop := Claim7.holds Tryz.pinned (.plain (OpenSpec.ofChange groupFindsDetoursSpec)) groupFindsDetoursCard

/-- THE TIED CARD OF 'interlacelaw28.GroupSurvives'. -/
def groupSurvivesCard : Claim7 := { stood := { row := groupSurvivesRow, standIns := [], harness := (true, "f8e3a56bf96dcf34adadecf12e7b048f85f636692bcdfa3c128089b676dd5984"), looks := false }, kinds := [], alts := [], laidByText := true, laidKinds := [.widerDeep], laidTests := true, laidLooks := .later }
def GroupSurvivesCardSaid : Prop := Claim7.holds Tryz.pinned (.plain (OpenSpec.ofChange groupSurvivesSpec)) groupSurvivesCard

/-- THE SECOND FORM's CARD OF 'interlacelaw28.GroupProtectsAsSpecified'. -/
def groupProtectsAsSpecifiedUptoCard : Claim7 := { stood := { row := groupProtectsAsSpecifiedUptoRow, standIns := [], harness := (true, "f8e3a56bf96dcf34adadecf12e7b048f85f636692bcdfa3c128089b676dd5984"), looks := false }, kinds := [], alts := [], laidByText := true, laidKinds := [.widerDeep], laidTests := true, laidLooks := .later }
def GroupProtectsAsSpecifiedUptoCardSaid : Prop := Claim7.holds Tryz.pinned (.plain (OpenSpec.upto groupProtectsAsSpecifiedSpec)) groupProtectsAsSpecifiedUptoCard

/-- THE SECOND FORM's CARD OF 'interlacelaw28.GroupAssignsTags'. -/
def groupAssignsTagsUptoCard : Claim7 := { stood := { row := groupAssignsTagsUptoRow, standIns := [], harness := (true, "f8e3a56bf96dcf34adadecf12e7b048f85f636692bcdfa3c128089b676dd5984"), looks := false }, kinds := [], alts := [], laidByText := true, laidKinds := [.widerDeep], laidTests := true, laidLooks := .later }
def GroupAssignsTagsUptoCardSaid : Prop := Claim7.holds Tryz.pinned (.plain (OpenSpec.upto groupAssignsTagsSpec)) groupAssignsTagsUptoCard

/-- THE SECOND FORM's CARD OF 'interlacelaw28.GroupRulesAsSpecified'. -/
def groupRulesAsSpecifiedUptoCard : Claim7 := { stood := { row := groupRulesAsSpecifiedUptoRow, standIns := [], harness := (true, "f8e3a56bf96dcf34adadecf12e7b048f85f636692bcdfa3c128089b676dd5984"), looks := false }, kinds := [], alts := [], laidByText := true, laidKinds := [.widerDeep], laidTests := true, laidLooks := .later }
def GroupRulesAsSpecifiedUptoCardSaid : Prop := Claim7.holds Tryz.pinned (.plain (OpenSpec.upto groupRulesAsSpecifiedSpec)) groupRulesAsSpecifiedUptoCard

/-- THE SECOND FORM's CARD OF 'interlacelaw28.GroupFindsDetours'. -/
def groupFindsDetoursUptoCard : Claim7 := { stood := { row := groupFindsDetoursUptoRow, standIns := [], harness := (true, "f8e3a56bf96dcf34adadecf12e7b048f85f636692bcdfa3c128089b676dd5984"), looks := false }, kinds := [], alts := [], laidByText := true, laidKinds := [.widerDeep], laidTests := true, laidLooks := .later }
def GroupFindsDetoursUptoCardSaid : Prop := Claim7.holds Tryz.pinned (.plain (OpenSpec.upto groupFindsDetoursSpec)) groupFindsDetoursUptoCard

/-- THE SECOND FORM's CARD OF 'interlacelaw28.GroupSurvives'. -/
def groupSurvivesUptoCard : Claim7 := { stood := { row := groupSurvivesUptoRow, standIns := [], harness := (true, "f8e3a56bf96dcf34adadecf12e7b048f85f636692bcdfa3c128089b676dd5984"), looks := false }, kinds := [], alts := [], laidByText := true, laidKinds := [.widerDeep], laidTests := true, laidLooks := .later }
def GroupSurvivesUptoCardSaid : Prop := Claim7.holds Tryz.pinned (.plain (OpenSpec.upto groupSurvivesSpec)) groupSurvivesUptoCard
end Rows
end Go.Proofs.YtnafbfbfmgfcfaaGreatDoor
