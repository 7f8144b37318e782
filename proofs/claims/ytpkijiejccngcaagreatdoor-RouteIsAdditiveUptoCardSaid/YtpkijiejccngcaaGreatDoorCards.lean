/-
  DERIVED. GIVEN WITH THE SEED: THE CARDS: each row of YtpkijiejccngcaaGreatDoorRows.lean that lists a variable, with what it lists TIED to the program's text (the seventh form; the later family's looks); each row that meets fmt, with fmt's text TOLD by the authors' own Lean function (tested against real Go, not proved from fmt's source: count such statements apart). THE CARD IS WHAT COUNTS. Prove the row's statement (the work); the ties are given (YtpkijiejccngcaaGreatDoorTie.lean); close each card by the builder's one call (the guide's Derived/Test/ToyasCard.lean, 'card_holds'). Laid BY PROGRAM, IN A SANDBOX (cutbox-door.mjs). By AI agents, Wed Nov 11 2026. No macro, syntax, notation, axiom, sorry.
-/
import Derived.Test.YtpkijiejccngcaaGreatDoorRows
import GoSem.ClaimSeven
namespace Go.Proofs.YtpkijiejccngcaaGreatDoor
namespace Rows

/-- THE TIED CARD OF 'interlacelaw24.RouteChecksMatchSpec'. -/
def routeChecksMatchSpecCard : Claim7 := { stood := { row := routeChecksMatchSpecRow, standIns := [], harness := (true, "a6e9b0e9e7941896f8378e67713d14e9e746be61a4e28881ada9a1deb5840e4a"), looks := false }, kinds := [], alts := [], laidByText := true, laidKinds := [.widerDeep], laidTests := true, laidLooks := .later }
def RouteChecksMatchSpecCardSaid : Prop := Claim7.holds Tryz.pinned (.plain (OpenSpec.ofChange routeChecksMatchSpecSpec)) routeChecksMatchSpecCard

/-- THE TIED CARD OF 'interlacelaw24.RouteMatchesSpec'. -/
def routeMatchesSpecCard : Claim7 := { stood := { row := routeMatchesSpecRow, standIns := [], harness := (true, "a6e9b0e9e7941896f8378e67713d14e9e746be61a4e28881ada9a1deb5840e4a"), looks := false }, kinds := [], alts := [], laidByText := true, laidKinds := [.widerDeep], laidTests := true, laidLooks := .later }
def RouteMatchesSpecCardSaid : Prop := Claim7.holds Tryz.pinned (.plain (OpenSpec.ofChange routeMatchesSpecSpec)) routeMatchesSpecCard

/-- THE TIED CARD OF 'interlacelaw24.RoutePricesMatchSpec'. -/
def routePricesMatchSpecCard : Claim7 := { stood := { row := routePricesMatchSpecRow, standIns := [], harness := (true, "a6e9b0e9e7941896f8378e67713d14e9e746be61a4e28881ada9a1deb5840e4a"), looks := false }, kinds := [], alts := [], laidByText := true, laidKinds := [.widerDeep], laidTests := true, laidLooks := .later }
def RoutePricesMatchSpecCardSaid : Prop := Claim7.holds Tryz.pinned (.plain (OpenSpec.ofChange routePricesMatchSpecSpec)) routePricesMatchSpecCard

/-- THE TIED CARD OF 'interlacelaw24.RouteFits'. -/
def routeFitsCard : Claim7 := { stood := { row := routeFitsRow, standIns := [], harness := (true, "a6e9b0e9e7941896f8378e67713d14e9e746be61a4e28881ada9a1deb5840e4a"), looks := false }, kinds := [], alts := [], laidByText := true, laidKinds := [.widerDeep], laidTests := true, laidLooks := .later }
def RouteFitsCardSaid : Prop := Claim7.holds Tryz.pinned (.plain (OpenSpec.ofChange routeFitsSpec)) routeFitsCard

/-- THE TIED CARD OF 'interlacelaw24.RouteRefutesSoundly'. -/
def routeRefutesSoundlyCard : Claim7 := { stood := { row := routeRefutesSoundlyRow, standIns := [], harness := (true, "a6e9b0e9e7941896f8378e67713d14e9e746be61a4e28881ada9a1deb5840e4a"), looks := false }, kinds := [], alts := [], laidByText := true, laidKinds := [.widerDeep], laidTests := true, laidLooks := .later }
def RouteRefutesSoundlyCardSaid : Prop := Claim7.holds Tryz.pinned (.plain (OpenSpec.ofChange routeRefutesSoundlySpec)) routeRefutesSoundlyCard

/-- THE TIED CARD OF 'interlacelaw24.RouteIsAdditive'. -/
def routeIsAdditiveCard : Claim7 := { stood := { row := routeIsAdditiveRow, standIns := [], harness := (true, "a6e9b0e9e7941896f8378e67713d14e9e746be61a4e28881ada9a1deb5840e4a"), looks := false }, kinds := [], alts := [], laidByText := true, laidKinds := [.widerDeep], laidTests := true, laidLooks := .later }
def RouteIsAdditiveCardSaid : Prop := Claim7.holds Tryz.pinned (.plain (OpenSpec.ofChange routeIsAdditiveSpec)) routeIsAdditiveCard

/-- THE TIED CARD OF 'interlacelaw24.RoutePricesAreLeast'. -/
def routePricesAreLeastCard : Claim7 := { stood := { row := routePricesAreLeastRow, standIns := [], harness := (true, "a6e9b0e9e7941896f8378e67713d14e9e746be61a4e28881ada9a1deb5840e4a"), looks := false }, kinds := [], alts := [], laidByText := true, laidKinds := [.widerDeep], laidTests := true, laidLooks := .later }
def RoutePricesAreLeastCardSaid : Prop := Claim7.holds Tryz.pinned (.plain (OpenSpec.ofChange routePricesAreLeastSpec)) routePricesAreLeastCard

/-- THE SECOND FORM's CARD OF 'interlacelaw24.RouteChecksMatchSpec'. -/
def routeChecksMatchSpecUptoCard : Claim7 := { stood := { row := routeChecksMatchSpecUptoRow, standIns := [], harness := (true, "a6e9b0e9e7941896f8378e67713d14e9e746be61a4e28881ada9a1deb5840e4a"), looks := false }, kinds := [], alts := [], laidByText := true, laidKinds := [.widerDeep], laidTests := true, laidLooks := .later }
def RouteChecksMatchSpecUptoCardSaid : Prop := Claim7.holds Tryz.pinned (.plain (OpenSpec.upto routeChecksMatchSpecSpec)) routeChecksMatchSpecUptoCard

/-- THE SECOND FORM's CARD OF 'interlacelaw24.RouteMatchesSpec'. -/
def routeMatchesSpecUptoCard : Claim7 := { stood := { row := routeMatchesSpecUptoRow, standIns := [], harness := (true, "a6e9b0e9e7941896f8378e67713d14e9e746be61a4e28881ada9a1deb5840e4a"), looks := false }, kinds := [], alts := [], laidByText := true, laidKinds := [.widerDeep], laidTests := true, laidLooks := .later }
def RouteMatchesSpecUptoCardSaid : Prop := Claim7.holds Tryz.pinned (.plain (OpenSpec.upto routeMatchesSpecSpec)) routeMatchesSpecUptoCard

/-- THE SECOND FORM's CARD OF 'interlacelaw24.RoutePricesMatchSpec'. -/
def routePricesMatchSpecUptoCard : Claim7 := { stood := { row := routePricesMatchSpecUptoRow, standIns := [], harness := (true, "a6e9b0e9e7941896f8378e67713d14e9e746be61a4e28881ada9a1deb5840e4a"), looks := false }, kinds := [], alts := [], laidByText := true, laidKinds := [.widerDeep], laidTests := true, laidLooks := .later }
def RoutePricesMatchSpecUptoCardSaid : Prop := Claim7.holds Tryz.pinned (.plain (OpenSpec.upto routePricesMatchSpecSpec)) routePricesMatchSpecUptoCard

/-- THE SECOND FORM's CARD OF 'interlacelaw24.RouteFits'. -/
def routeFitsUptoCard : Claim7 := { stood := { row := routeFitsUptoRow, standIns := [], harness := (true, "a6e9b0e9e7941896f8378e67713d14e9e746be61a4e28881ada9a1deb5840e4a"), looks := false }, kinds := [], alts := [], laidByText := true, laidKinds := [.widerDeep], laidTests := true, laidLooks := .later }
def RouteFitsUptoCardSaid : Prop := Claim7.holds Tryz.pinned (.plain (OpenSpec.upto routeFitsSpec)) routeFitsUptoCard

/-- THE SECOND FORM's CARD OF 'interlacelaw24.RouteRefutesSoundly'. -/
def routeRefutesSoundlyUptoCard : Claim7 := { stood := { row := routeRefutesSoundlyUptoRow, standIns := [], harness := (true, "a6e9b0e9e7941896f8378e67713d14e9e746be61a4e28881ada9a1deb5840e4a"), looks := false }, kinds := [], alts := [], laidByText := true, laidKinds := [.widerDeep], laidTests := true, laidLooks := .later }
def RouteRefutesSoundlyUptoCardSaid : Prop := Claim7.holds Tryz.pinned (.plain (OpenSpec.upto routeRefutesSoundlySpec)) routeRefutesSoundlyUptoCard

/-- THE SECOND FORM's CARD OF 'interlacelaw24.RouteIsAdditive'. -/
def routeIsAdditiveUptoCard : Claim7 := { stood := { row := routeIsAdditiveUptoRow, standIns := [], harness := (true, "a6e9b0e9e7941896f8378e67713d14e9e746be61a4e28881ada9a1deb5840e4a"), looks := false }, kinds := [], alts := [], laidByText := true, laidKinds := [.widerDeep], laidTests := true, laidLooks := .later }
def RouteIsAdditiveUptoCardSaid : Prop := Claim7.holds Tryz.pinned (.plain (OpenSpec.upto routeIsAdditiveSpec)) routeIsAdditiveUptoCard

/-- THE SECOND FORM's CARD OF 'interlacelaw24.RoutePricesAreLeast'. -/
def routePricesAreLeastUptoCard : Claim7 := { stood := { row := routePricesAreLeastUptoRow, standIns := [], harness := (true, "a6e9b0e9e7941896f8378e67713d14e9e746be61a4e28881ada9a1deb5840e4a"), looks := false }, kinds := [], alts := [], laidByText := true, laidKinds := [.widerDeep], laidTests := true, laidLooks := .later }
def RoutePricesAreLeastUptoCardSaid : Prop := Claim7.holds Tryz.pinned (.plain (OpenSpec.upto routePricesAreLeastSpec)) routePricesAreLeastUptoCard
end Rows
end Go.Proofs.YtpkijiejccngcaaGreatDoor
