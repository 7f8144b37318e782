/-
  NARROWER THAN 'FOR EVERY INPUT', by the rows' own cells (each row's printed sentence says how): RouteChecksMatchSpec: loops, laid · RouteMatchesSpec: loops, laid · RoutePricesMatchSpec: loops, laid · RouteFits: loops, laid · RouteRefutesSoundly: loops, laid · RouteIsAdditive: loops, laid · RoutePricesAreLeast: loops, laid.
  DERIVED. THE GIVEN ROWS OF THIS SEAT. 7 by the template 'for every input the law returns true; each argument reads behind the call as it read before'; 0 by the template 'total and deterministic' (their statements: YtpkijiejccngcaaGreatDoorTotals.lean).
  GIVEN WITH THE SEED: the statements are not yours to turn. If you find one false, say at which input.
  Laid BY PROGRAM, IN A SANDBOX (cutbox-rows.mjs): the forced cells as the released guide's own fill.sh prints them over the translation 0dac2fda32598436… (all of the seat's roots in one cut). By AI agents, Wed Nov 11 2026. No macro, syntax, notation, axiom, sorry.
-/
import Derived.Test.YtpkijiejccngcaaGreatDoorChecked
import GoSem.Claim
import GoSem.ClaimJoined
import GoSem.ClaimMapViews
import Derived.JoinedTies
import Derived.KernelRfl
namespace Go.Proofs.YtpkijiejccngcaaGreatDoor
/- THE CELL 'sum', in the pinned program and in every row, IS THE sha256 OF THE DUMP (.gsa) THAT YtpkijiejccngcaaGreatDoorProg.lean LOADS. Nothing in Lean hashes anything: it is a label: what it is worth is what the hold of that sum in a sandbox is worth. -/
noncomputable def Tryz.pinned : Pinned := { name := "ytpkijiejccngcaagreatdoor", sum := "0dac2fda32598436b8f9e5f80c0e7c8ede2ca263a118774a0e14f2dd37ec4455", checked := Tryz.checked }
namespace Rows
def none {H : Type} : Left H := { results := [], args := [] }

/- WHAT THE LISTED PACKAGE-LEVEL VARIABLES READ AS WHEN THE CALL BEGINS. Each datum BY PROGRAM (the guide's laid-datum.mjs) off the statement by which the dump's own 'gosem.cut.vars' lays the variable. In a bare row this is a premise. The card (YtpkijiejccngcaaGreatDoorCards.lean) ties it to the program's text. -/
def laid_interlace_token_words {H : Type} : DataW H := .agg [.lit (.string [97, 110, 100]), .lit (.string [97, 110, 121]), .lit (.string [97, 116]), .lit (.string [98, 97, 99, 107]), .lit (.string [98, 111, 120]), .lit (.string [98, 117, 114, 115, 116]), .lit (.string [98, 121]), .lit (.string [99, 97, 112, 97, 99, 105, 116, 121]), .lit (.string [99, 101, 105, 108, 105, 110, 103]), .lit (.string [99, 104, 101, 99, 107]), .lit (.string [99, 111, 110, 116, 114, 97, 99, 116]), .lit (.string [99, 111, 117, 110, 116]), .lit (.string [100, 101, 109, 97, 110, 100]), .lit (.string [100, 114, 111, 112]), .lit (.string [101, 97, 99, 104]), .lit (.string [101, 100, 103, 101]), .lit (.string [101, 110, 116, 114, 105, 101, 115]), .lit (.string [102, 97, 108, 115, 101]), .lit (.string [102, 105, 101, 108, 100]), .lit (.string [102, 108, 111, 111, 114]), .lit (.string [102, 114, 111, 109]), .lit (.string [105, 100]), .lit (.string [105, 110]), .lit (.string [105, 110, 110, 101, 114]), .lit (.string [105, 110, 116, 111]), .lit (.string [108, 105, 110, 107]), .lit (.string [110, 101, 116, 119, 111, 114, 107]), .lit (.string [110, 111, 100, 101]), .lit (.string [110, 111, 116]), .lit (.string [111, 112, 101, 110]), .lit (.string [111, 114]), .lit (.string [112, 97, 116, 104]), .lit (.string [112, 111, 114, 116]), .lit (.string [112, 114, 105, 99, 101]), .lit (.string [114, 111, 117, 116, 101]), .lit (.string [114, 117, 108, 101, 115]), .lit (.string [115, 116, 97, 103, 101]), .lit (.string [116, 97, 107, 101]), .lit (.string [116, 101, 110, 97, 110, 116]), .lit (.string [116, 104, 101, 110]), .lit (.string [116, 105, 109, 101]), .lit (.string [116, 111]), .lit (.string [116, 111, 107, 101, 110]), .lit (.string [116, 114, 97, 110, 115, 108, 97, 116, 101]), .lit (.string [116, 114, 117, 101]), .lit (.string [118, 105, 97]), .lit (.string [119, 105, 100, 116, 104]), .lit (.string [119, 105, 114, 101]), .lit (.string [119, 105, 116, 104, 105, 110])]

/-- 'interlacelaw24.RouteChecksMatchSpec': WHATEVER THE INPUT: true; the input reads as it did. -/
def routeChecksMatchSpecSpec : ChangeSpec := { name := "routeChecksMatchSpec", fn := fun _ => fun
  | [d1, d2, d3, d4, d5] => { results := [.lit (.bool true)], args := [d1, d2, d3, d4, d5] }
  | _ => none }
def routeChecksMatchSpecRow : OpenClaim := { program := "ytpkijiejccngcaagreatdoor", sum := "0dac2fda32598436b8f9e5f80c0e7c8ede2ca263a118774a0e14f2dd37ec4455", func := "interlace/interlacelaw24.RouteChecksMatchSpec", spec := "routeChecksMatchSpec", unfollowed := true, recurses := true, named := ["interlace/token.words"], loops := true, plainKeys := false, apart := false, laid := [("interlace/token.words", laid_interlace_token_words)] }
def RouteChecksMatchSpecSaid : Prop := routeChecksMatchSpecRow.holds Tryz.pinned (OpenSpec.ofChange routeChecksMatchSpecSpec)

/-- ITS FALSE NEIGHBOUR: 'it returns false'. Refute it at one input. -/
def routeChecksMatchSpecWrong : ChangeSpec := { name := "routeChecksMatchSpec", fn := fun _ => fun
  | [d1, d2, d3, d4, d5] => { results := [.lit (.bool false)], args := [d1, d2, d3, d4, d5] }
  | _ => none }
def RouteChecksMatchSpecWrongFalsely : Prop := routeChecksMatchSpecRow.holds Tryz.pinned (OpenSpec.ofChange routeChecksMatchSpecWrong)

/-- 'interlacelaw24.RouteMatchesSpec': WHATEVER THE INPUT: true; the input reads as it did. -/
def routeMatchesSpecSpec : ChangeSpec := { name := "routeMatchesSpec", fn := fun _ => fun
  | [d1, d2, d3] => { results := [.lit (.bool true)], args := [d1, d2, d3] }
  | _ => none }
def routeMatchesSpecRow : OpenClaim := { program := "ytpkijiejccngcaagreatdoor", sum := "0dac2fda32598436b8f9e5f80c0e7c8ede2ca263a118774a0e14f2dd37ec4455", func := "interlace/interlacelaw24.RouteMatchesSpec", spec := "routeMatchesSpec", unfollowed := true, recurses := true, named := ["interlace/token.words"], loops := true, plainKeys := false, apart := false, laid := [("interlace/token.words", laid_interlace_token_words)] }
def RouteMatchesSpecSaid : Prop := routeMatchesSpecRow.holds Tryz.pinned (OpenSpec.ofChange routeMatchesSpecSpec)

/-- ITS FALSE NEIGHBOUR: 'it returns false'. Refute it at one input. -/
def routeMatchesSpecWrong : ChangeSpec := { name := "routeMatchesSpec", fn := fun _ => fun
  | [d1, d2, d3] => { results := [.lit (.bool false)], args := [d1, d2, d3] }
  | _ => none }
def RouteMatchesSpecWrongFalsely : Prop := routeMatchesSpecRow.holds Tryz.pinned (OpenSpec.ofChange routeMatchesSpecWrong)

/-- 'interlacelaw24.RoutePricesMatchSpec': WHATEVER THE INPUT: true; the input reads as it did. -/
def routePricesMatchSpecSpec : ChangeSpec := { name := "routePricesMatchSpec", fn := fun _ => fun
  | [d1, d2, d3, d4] => { results := [.lit (.bool true)], args := [d1, d2, d3, d4] }
  | _ => none }
def routePricesMatchSpecRow : OpenClaim := { program := "ytpkijiejccngcaagreatdoor", sum := "0dac2fda32598436b8f9e5f80c0e7c8ede2ca263a118774a0e14f2dd37ec4455", func := "interlace/interlacelaw24.RoutePricesMatchSpec", spec := "routePricesMatchSpec", unfollowed := true, recurses := true, named := ["interlace/token.words"], loops := true, plainKeys := false, apart := false, laid := [("interlace/token.words", laid_interlace_token_words)] }
def RoutePricesMatchSpecSaid : Prop := routePricesMatchSpecRow.holds Tryz.pinned (OpenSpec.ofChange routePricesMatchSpecSpec)

/-- ITS FALSE NEIGHBOUR: 'it returns false'. Refute it at one input. -/
def routePricesMatchSpecWrong : ChangeSpec := { name := "routePricesMatchSpec", fn := fun _ => fun
  | [d1, d2, d3, d4] => { results := [.lit (.bool false)], args := [d1, d2, d3, d4] }
  | _ => none }
def RoutePricesMatchSpecWrongFalsely : Prop := routePricesMatchSpecRow.holds Tryz.pinned (OpenSpec.ofChange routePricesMatchSpecWrong)

/-- 'interlacelaw24.RouteFits': WHATEVER THE INPUT: true; the input reads as it did. -/
def routeFitsSpec : ChangeSpec := { name := "routeFits", fn := fun _ => fun
  | [d1, d2, d3] => { results := [.lit (.bool true)], args := [d1, d2, d3] }
  | _ => none }
def routeFitsRow : OpenClaim := { program := "ytpkijiejccngcaagreatdoor", sum := "0dac2fda32598436b8f9e5f80c0e7c8ede2ca263a118774a0e14f2dd37ec4455", func := "interlace/interlacelaw24.RouteFits", spec := "routeFits", unfollowed := true, recurses := true, named := ["interlace/token.words"], loops := true, plainKeys := false, apart := false, laid := [("interlace/token.words", laid_interlace_token_words)] }
def RouteFitsSaid : Prop := routeFitsRow.holds Tryz.pinned (OpenSpec.ofChange routeFitsSpec)

/-- ITS FALSE NEIGHBOUR: 'it returns false'. Refute it at one input. -/
def routeFitsWrong : ChangeSpec := { name := "routeFits", fn := fun _ => fun
  | [d1, d2, d3] => { results := [.lit (.bool false)], args := [d1, d2, d3] }
  | _ => none }
def RouteFitsWrongFalsely : Prop := routeFitsRow.holds Tryz.pinned (OpenSpec.ofChange routeFitsWrong)

/-- 'interlacelaw24.RouteRefutesSoundly': WHATEVER THE INPUT: true; the input reads as it did. -/
def routeRefutesSoundlySpec : ChangeSpec := { name := "routeRefutesSoundly", fn := fun _ => fun
  | [d1, d2, d3, d4, d5] => { results := [.lit (.bool true)], args := [d1, d2, d3, d4, d5] }
  | _ => none }
def routeRefutesSoundlyRow : OpenClaim := { program := "ytpkijiejccngcaagreatdoor", sum := "0dac2fda32598436b8f9e5f80c0e7c8ede2ca263a118774a0e14f2dd37ec4455", func := "interlace/interlacelaw24.RouteRefutesSoundly", spec := "routeRefutesSoundly", unfollowed := true, recurses := true, named := ["interlace/token.words"], loops := true, plainKeys := false, apart := false, laid := [("interlace/token.words", laid_interlace_token_words)] }
def RouteRefutesSoundlySaid : Prop := routeRefutesSoundlyRow.holds Tryz.pinned (OpenSpec.ofChange routeRefutesSoundlySpec)

/-- ITS FALSE NEIGHBOUR: 'it returns false'. Refute it at one input. -/
def routeRefutesSoundlyWrong : ChangeSpec := { name := "routeRefutesSoundly", fn := fun _ => fun
  | [d1, d2, d3, d4, d5] => { results := [.lit (.bool false)], args := [d1, d2, d3, d4, d5] }
  | _ => none }
def RouteRefutesSoundlyWrongFalsely : Prop := routeRefutesSoundlyRow.holds Tryz.pinned (OpenSpec.ofChange routeRefutesSoundlyWrong)

/-- 'interlacelaw24.RouteIsAdditive': WHATEVER THE INPUT: true; the input reads as it did. -/
def routeIsAdditiveSpec : ChangeSpec := { name := "routeIsAdditive", fn := fun _ => fun
  | [d1, d2, d3, d4, d5] => { results := [.lit (.bool true)], args := [d1, d2, d3, d4, d5] }
  | _ => none }
def routeIsAdditiveRow : OpenClaim := { program := "ytpkijiejccngcaagreatdoor", sum := "0dac2fda32598436b8f9e5f80c0e7c8ede2ca263a118774a0e14f2dd37ec4455", func := "interlace/interlacelaw24.RouteIsAdditive", spec := "routeIsAdditive", unfollowed := true, recurses := true, named := ["interlace/token.words"], loops := true, plainKeys := false, apart := false, laid := [("interlace/token.words", laid_interlace_token_words)] }
def RouteIsAdditiveSaid : Prop := routeIsAdditiveRow.holds Tryz.pinned (OpenSpec.ofChange routeIsAdditiveSpec)

/-- ITS FALSE NEIGHBOUR: 'it returns false'. Refute it at one input. -/
def routeIsAdditiveWrong : ChangeSpec := { name := "routeIsAdditive", fn := fun _ => fun
  | [d1, d2, d3, d4, d5] => { results := [.lit (.bool false)], args := [d1, d2, d3, d4, d5] }
  | _ => none }
def RouteIsAdditiveWrongFalsely : Prop := routeIsAdditiveRow.holds Tryz.pinned (OpenSpec.ofChange routeIsAdditiveWrong)

/-- 'interlacelaw24.RoutePricesAreLeast': WHATEVER THE INPUT: true; the input reads as it did. -/
def routePricesAreLeastSpec : ChangeSpec := { name := "routePricesAreLeast", fn := fun _ => fun
  | [d1, d2, d3, d4, d5] => { results := [.lit (.bool true)], args := [d1, d2, d3, d4, d5] }
  | _ => none }
def routePricesAreLeastRow : OpenClaim := { program := "ytpkijiejccngcaagreatdoor", sum := "0dac2fda32598436b8f9e5f80c0e7c8ede2ca263a118774a0e14f2dd37ec4455", func := "interlace/interlacelaw24.RoutePricesAreLeast", spec := "routePricesAreLeast", unfollowed := true, recurses := true, named := ["interlace/token.words"], loops := true, plainKeys := false, apart := false, laid := [("interlace/token.words", laid_interlace_token_words)] }
def RoutePricesAreLeastSaid : Prop := routePricesAreLeastRow.holds Tryz.pinned (OpenSpec.ofChange routePricesAreLeastSpec)

/-- ITS FALSE NEIGHBOUR: 'it returns false'. Refute it at one input. -/
def routePricesAreLeastWrong : ChangeSpec := { name := "routePricesAreLeast", fn := fun _ => fun
  | [d1, d2, d3, d4, d5] => { results := [.lit (.bool false)], args := [d1, d2, d3, d4, d5] }
  | _ => none }
def RoutePricesAreLeastWrongFalsely : Prop := routePricesAreLeastRow.holds Tryz.pinned (OpenSpec.ofChange routePricesAreLeastWrong)

/- THE SECOND FORM. 'bulk': how many values and letters a reading holds, each counted each time it is reached (what is shared counts as often as it is met; a slice's spare places count too). A statement '..UptoSaid' is the law's where the arguments, and the package variables that the reading takes, are together of bulk at most 1048576: NARROWER than '..Said'. Prove '..Said' where nothing that the law and all that it calls make is longer than what came in: it says more and counts as full. Else prove '..UptoSaid'. A law counts once. -/
mutual
def uptoBulk {H : Type} : DataW H → Nat
  | .lit (.string bytes) => bytes.length + 1
  | .lit _ => 1
  | .nil => 1
  | .ptr d => uptoBulk d + 1
  | .slice elems spare => uptoBulkAll elems + uptoBulkAll spare + 1
  | .agg parts => uptoBulkAll parts + 1
  | .iface _ d => uptoBulk d + 1
  | .map entries => uptoBulkEntries entries + 1
  | .held _ => 1
def uptoBulkAll {H : Type} : List (DataW H) → Nat
  | [] => 0
  | d :: r => uptoBulk d + uptoBulkAll r
def uptoBulkEntries {H : Type} : List (Lit × DataW H) → Nat
  | [] => 0
  | x :: r => uptoBulkEntry x + uptoBulkEntries r
def uptoBulkEntry {H : Type} : Lit × DataW H → Nat
  | (.string bytes, d) => bytes.length + uptoBulk d + 1
  | (_, d) => uptoBulk d + 1
 end
def uptoSmall : (H : Type) → List (DataW H) → Bool := fun _ ds => decide (uptoBulkAll ds ≤ 1048576)
def OpenSpec.upto (s : _root_.Go.ChangeSpec) : _root_.Go.OpenSpec := { _root_.Go.OpenSpec.ofChange s with cond := some uptoSmall }

/-- 'interlacelaw24.RouteChecksMatchSpec', WHERE WHAT IT READS IS OF BULK AT MOST 1048576: true; the input reads as it did. -/
def routeChecksMatchSpecUptoRow : OpenClaim := { program := "ytpkijiejccngcaagreatdoor", sum := "0dac2fda32598436b8f9e5f80c0e7c8ede2ca263a118774a0e14f2dd37ec4455", func := "interlace/interlacelaw24.RouteChecksMatchSpec", spec := "routeChecksMatchSpec", unfollowed := true, recurses := true, named := ["interlace/token.words"], loops := true, plainKeys := false, apart := false, laid := [("interlace/token.words", laid_interlace_token_words)], narrowed := true }
def RouteChecksMatchSpecUptoSaid : Prop := routeChecksMatchSpecUptoRow.holds Tryz.pinned (OpenSpec.upto routeChecksMatchSpecSpec)

/-- 'interlacelaw24.RouteMatchesSpec', WHERE WHAT IT READS IS OF BULK AT MOST 1048576: true; the input reads as it did. -/
def routeMatchesSpecUptoRow : OpenClaim := { program := "ytpkijiejccngcaagreatdoor", sum := "0dac2fda32598436b8f9e5f80c0e7c8ede2ca263a118774a0e14f2dd37ec4455", func := "interlace/interlacelaw24.RouteMatchesSpec", spec := "routeMatchesSpec", unfollowed := true, recurses := true, named := ["interlace/token.words"], loops := true, plainKeys := false, apart := false, laid := [("interlace/token.words", laid_interlace_token_words)], narrowed := true }
def RouteMatchesSpecUptoSaid : Prop := routeMatchesSpecUptoRow.holds Tryz.pinned (OpenSpec.upto routeMatchesSpecSpec)

/-- 'interlacelaw24.RoutePricesMatchSpec', WHERE WHAT IT READS IS OF BULK AT MOST 1048576: true; the input reads as it did. -/
def routePricesMatchSpecUptoRow : OpenClaim := { program := "ytpkijiejccngcaagreatdoor", sum := "0dac2fda32598436b8f9e5f80c0e7c8ede2ca263a118774a0e14f2dd37ec4455", func := "interlace/interlacelaw24.RoutePricesMatchSpec", spec := "routePricesMatchSpec", unfollowed := true, recurses := true, named := ["interlace/token.words"], loops := true, plainKeys := false, apart := false, laid := [("interlace/token.words", laid_interlace_token_words)], narrowed := true }
def RoutePricesMatchSpecUptoSaid : Prop := routePricesMatchSpecUptoRow.holds Tryz.pinned (OpenSpec.upto routePricesMatchSpecSpec)

/-- 'interlacelaw24.RouteFits', WHERE WHAT IT READS IS OF BULK AT MOST 1048576: true; the input reads as it did. -/
def routeFitsUptoRow : OpenClaim := { program := "ytpkijiejccngcaagreatdoor", sum := "0dac2fda32598436b8f9e5f80c0e7c8ede2ca263a118774a0e14f2dd37ec4455", func := "interlace/interlacelaw24.RouteFits", spec := "routeFits", unfollowed := true, recurses := true, named := ["interlace/token.words"], loops := true, plainKeys := false, apart := false, laid := [("interlace/token.words", laid_interlace_token_words)], narrowed := true }
def RouteFitsUptoSaid : Prop := routeFitsUptoRow.holds Tryz.pinned (OpenSpec.upto routeFitsSpec)

/-- 'interlacelaw24.RouteRefutesSoundly', WHERE WHAT IT READS IS OF BULK AT MOST 1048576: true; the input reads as it did. -/
def routeRefutesSoundlyUptoRow : OpenClaim := { program := "ytpkijiejccngcaagreatdoor", sum := "0dac2fda32598436b8f9e5f80c0e7c8ede2ca263a118774a0e14f2dd37ec4455", func := "interlace/interlacelaw24.RouteRefutesSoundly", spec := "routeRefutesSoundly", unfollowed := true, recurses := true, named := ["interlace/token.words"], loops := true, plainKeys := false, apart := false, laid := [("interlace/token.words", laid_interlace_token_words)], narrowed := true }
def RouteRefutesSoundlyUptoSaid : Prop := routeRefutesSoundlyUptoRow.holds Tryz.pinned (OpenSpec.upto routeRefutesSoundlySpec)

/-- 'interlacelaw24.RouteIsAdditive', WHERE WHAT IT READS IS OF BULK AT MOST 1048576: true; the input reads as it did. -/
def routeIsAdditiveUptoRow : OpenClaim := { program := "ytpkijiejccngcaagreatdoor", sum := "0dac2fda32598436b8f9e5f80c0e7c8ede2ca263a118774a0e14f2dd37ec4455", func := "interlace/interlacelaw24.RouteIsAdditive", spec := "routeIsAdditive", unfollowed := true, recurses := true, named := ["interlace/token.words"], loops := true, plainKeys := false, apart := false, laid := [("interlace/token.words", laid_interlace_token_words)], narrowed := true }
def RouteIsAdditiveUptoSaid : Prop := routeIsAdditiveUptoRow.holds Tryz.pinned (OpenSpec.upto routeIsAdditiveSpec)

/-- 'interlacelaw24.RoutePricesAreLeast', WHERE WHAT IT READS IS OF BULK AT MOST 1048576: true; the input reads as it did. -/
def routePricesAreLeastUptoRow : OpenClaim := { program := "ytpkijiejccngcaagreatdoor", sum := "0dac2fda32598436b8f9e5f80c0e7c8ede2ca263a118774a0e14f2dd37ec4455", func := "interlace/interlacelaw24.RoutePricesAreLeast", spec := "routePricesAreLeast", unfollowed := true, recurses := true, named := ["interlace/token.words"], loops := true, plainKeys := false, apart := false, laid := [("interlace/token.words", laid_interlace_token_words)], narrowed := true }
def RoutePricesAreLeastUptoSaid : Prop := routePricesAreLeastUptoRow.holds Tryz.pinned (OpenSpec.upto routePricesAreLeastSpec)

end Rows
end Go.Proofs.YtpkijiejccngcaaGreatDoor
