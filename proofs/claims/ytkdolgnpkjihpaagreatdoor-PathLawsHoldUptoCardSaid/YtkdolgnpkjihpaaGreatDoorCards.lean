/-
  DERIVED. GIVEN WITH THE SEED: THE CARDS: each row of YtkdolgnpkjihpaaGreatDoorRows.lean that lists a variable, with what it lists TIED to the program's text (the seventh form; the later family's looks); each row that meets fmt, with fmt's text TOLD by the authors' own Lean function (tested against real Go, not proved from fmt's source: count such statements apart). THE CARD IS WHAT COUNTS. Prove the row's statement (the work); the ties are given (YtkdolgnpkjihpaaGreatDoorTie.lean); close each card by the builder's one call (the guide's Derived/Test/ToyasCard.lean, 'card_holds'). Laid BY PROGRAM, IN A SANDBOX (cutbox-door.mjs). By AI agents, Wed Nov 11 2026. No macro, syntax, notation, axiom, sorry.
-/
import Derived.Test.YtkdolgnpkjihpaaGreatDoorRows
import GoSem.ClaimSeven
namespace Go.Proofs.YtkdolgnpkjihpaaGreatDoor
namespace Rows

/-- THE TIED CARD OF 'interlacelaw16.PathMatchesSpec'. -/
def pathMatchesSpecCard : Claim7 := { stood := { row := pathMatchesSpecRow, standIns := [], harness := (true, "288b565834fbcc15901d9a50a478529d82d07dcf3b9d59087fb0eac1fc206b76"), looks := false }, kinds := [], alts := [], laidByText := true, laidKinds := [.data, .data, .data], laidTests := true, laidLooks := .later }
def PathMatchesSpecCardSaid : Prop := Claim7.holds Tryz.pinned (.plain (OpenSpec.ofChange pathMatchesSpecSpec)) pathMatchesSpecCard

/-- THE TIED CARD OF 'interlacelaw16.PathMachinesAreLeast'. -/
def pathMachinesAreLeastCard : Claim7 := { stood := { row := pathMachinesAreLeastRow, standIns := [], harness := (true, "288b565834fbcc15901d9a50a478529d82d07dcf3b9d59087fb0eac1fc206b76"), looks := false }, kinds := [], alts := [], laidByText := true, laidKinds := [.data, .data, .data], laidTests := true, laidLooks := .later }
def PathMachinesAreLeastCardSaid : Prop := Claim7.holds Tryz.pinned (.plain (OpenSpec.ofChange pathMachinesAreLeastSpec)) pathMachinesAreLeastCard

/-- THE TIED CARD OF 'interlacelaw16.PathEqualDecides'. -/
def pathEqualDecidesCard : Claim7 := { stood := { row := pathEqualDecidesRow, standIns := [], harness := (true, "288b565834fbcc15901d9a50a478529d82d07dcf3b9d59087fb0eac1fc206b76"), looks := false }, kinds := [], alts := [], laidByText := true, laidKinds := [.data, .data, .data], laidTests := true, laidLooks := .later }
def PathEqualDecidesCardSaid : Prop := Claim7.holds Tryz.pinned (.plain (OpenSpec.ofChange pathEqualDecidesSpec)) pathEqualDecidesCard

/-- THE TIED CARD OF 'interlacelaw16.PathLawsHold'. -/
def pathLawsHoldCard : Claim7 := { stood := { row := pathLawsHoldRow, standIns := [], harness := (true, "288b565834fbcc15901d9a50a478529d82d07dcf3b9d59087fb0eac1fc206b76"), looks := false }, kinds := [], alts := [], laidByText := true, laidKinds := [.data, .data, .data], laidTests := true, laidLooks := .later }
def PathLawsHoldCardSaid : Prop := Claim7.holds Tryz.pinned (.plain (OpenSpec.ofChange pathLawsHoldSpec)) pathLawsHoldCard

/-- THE TIED CARD OF 'interlacelaw16.PathFindsAsSpecified'. -/
def pathFindsAsSpecifiedCard : Claim7 := { stood := { row := pathFindsAsSpecifiedRow, standIns := [], harness := (true, "288b565834fbcc15901d9a50a478529d82d07dcf3b9d59087fb0eac1fc206b76"), looks := false }, kinds := [], alts := [], laidByText := true, laidKinds := [.data, .data, .data], laidTests := true, laidLooks := .later }
def PathFindsAsSpecifiedCardSaid : Prop := Claim7.holds Tryz.pinned (.plain (OpenSpec.ofChange pathFindsAsSpecifiedSpec)) pathFindsAsSpecifiedCard

/-- THE TIED CARD OF 'interlacelaw16.PathIsShortest'. -/
def pathIsShortestCard : Claim7 := { stood := { row := pathIsShortestRow, standIns := [], harness := (true, "288b565834fbcc15901d9a50a478529d82d07dcf3b9d59087fb0eac1fc206b76"), looks := false }, kinds := [], alts := [], laidByText := true, laidKinds := [.data, .data, .data], laidTests := true, laidLooks := .later }
def PathIsShortestCardSaid : Prop := Claim7.holds Tryz.pinned (.plain (OpenSpec.ofChange pathIsShortestSpec)) pathIsShortestCard

/-- THE TIED CARD OF 'interlacelaw16.PathRefutesSoundly'. -/
def pathRefutesSoundlyCard : Claim7 := { stood := { row := pathRefutesSoundlyRow, standIns := [], harness := (true, "288b565834fbcc15901d9a50a478529d82d07dcf3b9d59087fb0eac1fc206b76"), looks := false }, kinds := [], alts := [], laidByText := true, laidKinds := [.data, .data, .data], laidTests := true, laidLooks := .later }
def PathRefutesSoundlyCardSaid : Prop := Claim7.holds Tryz.pinned (.plain (OpenSpec.ofChange pathRefutesSoundlySpec)) pathRefutesSoundlyCard

/-- THE SECOND FORM's CARD OF 'interlacelaw16.PathMatchesSpec'. -/
def pathMatchesSpecUptoCard : Claim7 := { stood := { row := pathMatchesSpecUptoRow, standIns := [], harness := (true, "288b565834fbcc15901d9a50a478529d82d07dcf3b9d59087fb0eac1fc206b76"), looks := false }, kinds := [], alts := [], laidByText := true, laidKinds := [.data, .data, .data], laidTests := true, laidLooks := .later }
def PathMatchesSpecUptoCardSaid : Prop := Claim7.holds Tryz.pinned (.plain (OpenSpec.upto pathMatchesSpecSpec)) pathMatchesSpecUptoCard

/-- THE SECOND FORM's CARD OF 'interlacelaw16.PathMachinesAreLeast'. -/
def pathMachinesAreLeastUptoCard : Claim7 := { stood := { row := pathMachinesAreLeastUptoRow, standIns := [], harness := (true, "288b565834fbcc15901d9a50a478529d82d07dcf3b9d59087fb0eac1fc206b76"), looks := false }, kinds := [], alts := [], laidByText := true, laidKinds := [.data, .data, .data], laidTests := true, laidLooks := .later }
def PathMachinesAreLeastUptoCardSaid : Prop := Claim7.holds Tryz.pinned (.plain (OpenSpec.upto pathMachinesAreLeastSpec)) pathMachinesAreLeastUptoCard

/-- THE SECOND FORM's CARD OF 'interlacelaw16.PathEqualDecides'. -/
def pathEqualDecidesUptoCard : Claim7 := { stood := { row := pathEqualDecidesUptoRow, standIns := [], harness := (true, "288b565834fbcc15901d9a50a478529d82d07dcf3b9d59087fb0eac1fc206b76"), looks := false }, kinds := [], alts := [], laidByText := true, laidKinds := [.data, .data, .data], laidTests := true, laidLooks := .later }
def PathEqualDecidesUptoCardSaid : Prop := Claim7.holds Tryz.pinned (.plain (OpenSpec.upto pathEqualDecidesSpec)) pathEqualDecidesUptoCard

/-- THE SECOND FORM's CARD OF 'interlacelaw16.PathLawsHold'. -/
def pathLawsHoldUptoCard : Claim7 := { stood := { row := pathLawsHoldUptoRow, standIns := [], harness := (true, "288b565834fbcc15901d9a50a478529d82d07dcf3b9d59087fb0eac1fc206b76"), looks := false }, kinds := [], alts := [], laidByText := true, laidKinds := [.data, .data, .data], laidTests := true, laidLooks := .later }
def PathLawsHoldUptoCardSaid : Prop := Claim7.holds Tryz.pinned (.plain (OpenSpec.upto pathLawsHoldSpec)) pathLawsHoldUptoCard

/-- THE SECOND FORM's CARD OF 'interlacelaw16.PathFindsAsSpecified'. -/
def pathFindsAsSpecifiedUptoCard : Claim7 := { stood := { row := pathFindsAsSpecifiedUptoRow, standIns := [], harness := (true, "288b565834fbcc15901d9a50a478529d82d07dcf3b9d59087fb0eac1fc206b76"), looks := false }, kinds := [], alts := [], laidByText := true, laidKinds := [.data, .data, .data], laidTests := true, laidLooks := .later }
def PathFindsAsSpecifiedUptoCardSaid : Prop := Claim7.holds Tryz.pinned (.plain (OpenSpec.upto pathFindsAsSpecifiedSpec)) pathFindsAsSpecifiedUptoCard

/-- THE SECOND FORM's CARD OF 'interlacelaw16.PathIsShortest'. -/
def pathIsShortestUptoCard : Claim7 := { stood := { row := pathIsShortestUptoRow, standIns := [], harness := (true, "288b565834fbcc15901d9a50a478529d82d07dcf3b9d59087fb0eac1fc206b76"), looks := false }, kinds := [], alts := [], laidByText := true, laidKinds := [.data, .data, .data], laidTests := true, laidLooks := .later }
def PathIsShortestUptoCardSaid : Prop := Claim7.holds Tryz.pinned (.plain (OpenSpec.upto pathIsShortestSpec)) pathIsShortestUptoCard

/-- THE SECOND FORM's CARD OF 'interlacelaw16.PathRefutesSoundly'. -/
def pathRefutesSoundlyUptoCard : Claim7 := { stood := { row := pathRefutesSoundlyUptoRow, standIns := [], harness := (true, "288b565834fbcc15901d9a50a478529d82d07dcf3b9d59087fb0eac1fc206b76"), looks := false }, kinds := [], alts := [], laidByText := true, laidKinds := [.data, .data, .data], laidTests := true, laidLooks := .later }
def PathRefutesSoundlyUptoCardSaid : Prop := Claim7.holds Tryz.pinned (.plain (OpenSpec.upto pathRefutesSoundlySpec)) pathRefutesSoundlyUptoCard
end Rows
end Go.Proofs.YtkdolgnpkjihpaaGreatDoor
