/-
  NARROWER THAN 'FOR EVERY INPUT', by the rows' own cells (each row's printed sentence says how): PathMatchesSpec: loops, laid · PathMachinesAreLeast: loops, laid · PathEqualDecides: loops, laid · PathLawsHold: loops, laid · PathFindsAsSpecified: loops, laid · PathIsShortest: loops, laid · PathRefutesSoundly: loops, laid.
  DERIVED. THE GIVEN ROWS OF THIS SEAT. 7 by the template 'for every input the law returns true; each argument reads behind the call as it read before'; 0 by the template 'total and deterministic' (their statements: YtkdolgnpkjihpaaGreatDoorTotals.lean).
  GIVEN WITH THE SEED: the statements are not yours to turn. If you find one false, say at which input.
  Laid BY PROGRAM, IN A SANDBOX (cutbox-rows.mjs): the forced cells as the released guide's own fill.sh prints them over the translation 055f05c7a77b7e3d… (all of the seat's roots in one cut). By AI agents, Wed Nov 11 2026. No macro, syntax, notation, axiom, sorry.
-/
import Derived.Test.YtkdolgnpkjihpaaGreatDoorChecked
import GoSem.Claim
import GoSem.ClaimJoined
import GoSem.ClaimMapViews
import Derived.JoinedTies
import Derived.KernelRfl
namespace Go.Proofs.YtkdolgnpkjihpaaGreatDoor
/- THE CELL 'sum', in the pinned program and in every row, IS THE sha256 OF THE DUMP (.gsa) THAT YtkdolgnpkjihpaaGreatDoorProg.lean LOADS. Nothing in Lean hashes anything: it is a label: what it is worth is what the hold of that sum in a sandbox is worth. -/
noncomputable def Tryz.pinned : Pinned := { name := "ytkdolgnpkjihpaagreatdoor", sum := "055f05c7a77b7e3de0a54b57dbe7cfa3aa8df8cc6597099fcefbcec8a510f345", checked := Tryz.checked }
namespace Rows
def none {H : Type} : Left H := { results := [], args := [] }

/- WHAT THE LISTED PACKAGE-LEVEL VARIABLES READ AS WHEN THE CALL BEGINS. Each datum BY PROGRAM (the guide's laid-datum.mjs) off the statement by which the dump's own 'gosem.cut.vars' lays the variable. In a bare row this is a premise. The card (YtkdolgnpkjihpaaGreatDoorCards.lean) ties it to the program's text. -/
def laid_math_bits_deBruijn32tab {H : Type} : DataW H := .agg [.lit (.int .u8 0), .lit (.int .u8 1), .lit (.int .u8 28), .lit (.int .u8 2), .lit (.int .u8 29), .lit (.int .u8 14), .lit (.int .u8 24), .lit (.int .u8 3), .lit (.int .u8 30), .lit (.int .u8 22), .lit (.int .u8 20), .lit (.int .u8 15), .lit (.int .u8 25), .lit (.int .u8 17), .lit (.int .u8 4), .lit (.int .u8 8), .lit (.int .u8 31), .lit (.int .u8 27), .lit (.int .u8 13), .lit (.int .u8 23), .lit (.int .u8 21), .lit (.int .u8 19), .lit (.int .u8 16), .lit (.int .u8 7), .lit (.int .u8 26), .lit (.int .u8 12), .lit (.int .u8 18), .lit (.int .u8 6), .lit (.int .u8 11), .lit (.int .u8 5), .lit (.int .u8 10), .lit (.int .u8 9)]
def laid_math_bits_deBruijn64tab {H : Type} : DataW H := .agg [.lit (.int .u8 0), .lit (.int .u8 1), .lit (.int .u8 56), .lit (.int .u8 2), .lit (.int .u8 57), .lit (.int .u8 49), .lit (.int .u8 28), .lit (.int .u8 3), .lit (.int .u8 61), .lit (.int .u8 58), .lit (.int .u8 42), .lit (.int .u8 50), .lit (.int .u8 38), .lit (.int .u8 29), .lit (.int .u8 17), .lit (.int .u8 4), .lit (.int .u8 62), .lit (.int .u8 47), .lit (.int .u8 59), .lit (.int .u8 36), .lit (.int .u8 45), .lit (.int .u8 43), .lit (.int .u8 51), .lit (.int .u8 22), .lit (.int .u8 53), .lit (.int .u8 39), .lit (.int .u8 33), .lit (.int .u8 30), .lit (.int .u8 24), .lit (.int .u8 18), .lit (.int .u8 12), .lit (.int .u8 5), .lit (.int .u8 63), .lit (.int .u8 55), .lit (.int .u8 48), .lit (.int .u8 27), .lit (.int .u8 60), .lit (.int .u8 41), .lit (.int .u8 37), .lit (.int .u8 16), .lit (.int .u8 46), .lit (.int .u8 35), .lit (.int .u8 44), .lit (.int .u8 21), .lit (.int .u8 52), .lit (.int .u8 32), .lit (.int .u8 23), .lit (.int .u8 11), .lit (.int .u8 54), .lit (.int .u8 26), .lit (.int .u8 40), .lit (.int .u8 15), .lit (.int .u8 34), .lit (.int .u8 20), .lit (.int .u8 31), .lit (.int .u8 10), .lit (.int .u8 25), .lit (.int .u8 14), .lit (.int .u8 19), .lit (.int .u8 9), .lit (.int .u8 13), .lit (.int .u8 8), .lit (.int .u8 7), .lit (.int .u8 6)]
def laid_internal_strconv_uint64pow10 {H : Type} : DataW H := .agg [.lit (.int .u64 1), .lit (.int .u64 10), .lit (.int .u64 100), .lit (.int .u64 1000), .lit (.int .u64 10000), .lit (.int .u64 100000), .lit (.int .u64 1000000), .lit (.int .u64 10000000), .lit (.int .u64 100000000), .lit (.int .u64 1000000000), .lit (.int .u64 10000000000), .lit (.int .u64 100000000000), .lit (.int .u64 1000000000000), .lit (.int .u64 10000000000000), .lit (.int .u64 100000000000000), .lit (.int .u64 1000000000000000), .lit (.int .u64 10000000000000000), .lit (.int .u64 100000000000000000), .lit (.int .u64 1000000000000000000), .lit (.int .u64 10000000000000000000)]

/-- 'interlacelaw16.PathMatchesSpec': WHATEVER THE INPUT: true; the input reads as it did. -/
def pathMatchesSpecSpec : ChangeSpec := { name := "pathMatchesSpec", fn := fun _ => fun
  | [d1, d2, d3] => { results := [.lit (.bool true)], args := [d1, d2, d3] }
  | _ => none }
def pathMatchesSpecRow : OpenClaim := { program := "ytkdolgnpkjihpaagreatdoor", sum := "055f05c7a77b7e3de0a54b57dbe7cfa3aa8df8cc6597099fcefbcec8a510f345", func := "interlace/interlacelaw16.PathMatchesSpec", spec := "pathMatchesSpec", unfollowed := true, recurses := true, named := ["internal/strconv.uint64pow10", "math/bits.deBruijn32tab", "math/bits.deBruijn64tab"], loops := true, plainKeys := false, apart := false, laid := [("math/bits.deBruijn32tab", laid_math_bits_deBruijn32tab), ("math/bits.deBruijn64tab", laid_math_bits_deBruijn64tab), ("internal/strconv.uint64pow10", laid_internal_strconv_uint64pow10)] }
def PathMatchesSpecSaid : Prop := pathMatchesSpecRow.holds Tryz.pinned (OpenSpec.ofChange pathMatchesSpecSpec)

/-- ITS FALSE NEIGHBOUR: 'it returns false'. Refute it at one input. -/
def pathMatchesSpecWrong : ChangeSpec := { name := "pathMatchesSpec", fn := fun _ => fun
  | [d1, d2, d3] => { results := [.lit (.bool false)], args := [d1, d2, d3] }
  | _ => none }
def PathMatchesSpecWrongFalsely : Prop := pathMatchesSpecRow.holds Tryz.pinned (OpenSpec.ofChange pathMatchesSpecWrong)

/-- 'interlacelaw16.PathMachinesAreLeast': WHATEVER THE INPUT: true; the input reads as it did. -/
def pathMachinesAreLeastSpec : ChangeSpec := { name := "pathMachinesAreLeast", fn := fun _ => fun
  | [d1, d2] => { results := [.lit (.bool true)], args := [d1, d2] }
  | _ => none }
def pathMachinesAreLeastRow : OpenClaim := { program := "ytkdolgnpkjihpaagreatdoor", sum := "055f05c7a77b7e3de0a54b57dbe7cfa3aa8df8cc6597099fcefbcec8a510f345", func := "interlace/interlacelaw16.PathMachinesAreLeast", spec := "pathMachinesAreLeast", unfollowed := true, recurses := true, named := ["internal/strconv.uint64pow10", "math/bits.deBruijn32tab", "math/bits.deBruijn64tab"], loops := true, plainKeys := false, apart := false, laid := [("math/bits.deBruijn32tab", laid_math_bits_deBruijn32tab), ("math/bits.deBruijn64tab", laid_math_bits_deBruijn64tab), ("internal/strconv.uint64pow10", laid_internal_strconv_uint64pow10)] }
def PathMachinesAreLeastSaid : Prop := pathMachinesAreLeastRow.holds Tryz.pinned (OpenSpec.ofChange pathMachinesAreLeastSpec)

/-- ITS FALSE NEIGHBOUR: 'it returns false'. Refute it at one input. -/
def pathMachinesAreLeastWrong : ChangeSpec := { name := "pathMachinesAreLeast", fn := fun _ => fun
  | [d1, d2] => { results := [.lit (.bool false)], args := [d1, d2] }
  | _ => none }
def PathMachinesAreLeastWrongFalsely : Prop := pathMachinesAreLeastRow.holds Tryz.pinned (OpenSpec.ofChange pathMachinesAreLeastWrong)

/-- 'interlacelaw16.PathEqualDecides': WHATEVER THE INPUT: true; the input reads as it did. -/
def pathEqualDecidesSpec : ChangeSpec := { name := "pathEqualDecides", fn := fun _ => fun
  | [d1, d2, d3] => { results := [.lit (.bool true)], args := [d1, d2, d3] }
  | _ => none }
def pathEqualDecidesRow : OpenClaim := { program := "ytkdolgnpkjihpaagreatdoor", sum := "055f05c7a77b7e3de0a54b57dbe7cfa3aa8df8cc6597099fcefbcec8a510f345", func := "interlace/interlacelaw16.PathEqualDecides", spec := "pathEqualDecides", unfollowed := true, recurses := true, named := ["internal/strconv.uint64pow10", "math/bits.deBruijn32tab", "math/bits.deBruijn64tab"], loops := true, plainKeys := false, apart := false, laid := [("math/bits.deBruijn32tab", laid_math_bits_deBruijn32tab), ("math/bits.deBruijn64tab", laid_math_bits_deBruijn64tab), ("internal/strconv.uint64pow10", laid_internal_strconv_uint64pow10)] }
def PathEqualDecidesSaid : Prop := pathEqualDecidesRow.holds Tryz.pinned (OpenSpec.ofChange pathEqualDecidesSpec)

/-- ITS FALSE NEIGHBOUR: 'it returns false'. Refute it at one input. -/
def pathEqualDecidesWrong : ChangeSpec := { name := "pathEqualDecides", fn := fun _ => fun
  | [d1, d2, d3] => { results := [.lit (.bool false)], args := [d1, d2, d3] }
  | _ => none }
def PathEqualDecidesWrongFalsely : Prop := pathEqualDecidesRow.holds Tryz.pinned (OpenSpec.ofChange pathEqualDecidesWrong)

/-- 'interlacelaw16.PathLawsHold': WHATEVER THE INPUT: true; the input reads as it did. -/
def pathLawsHoldSpec : ChangeSpec := { name := "pathLawsHold", fn := fun _ => fun
  | [d1, d2, d3] => { results := [.lit (.bool true)], args := [d1, d2, d3] }
  | _ => none }
def pathLawsHoldRow : OpenClaim := { program := "ytkdolgnpkjihpaagreatdoor", sum := "055f05c7a77b7e3de0a54b57dbe7cfa3aa8df8cc6597099fcefbcec8a510f345", func := "interlace/interlacelaw16.PathLawsHold", spec := "pathLawsHold", unfollowed := true, recurses := true, named := ["internal/strconv.uint64pow10", "math/bits.deBruijn32tab", "math/bits.deBruijn64tab"], loops := true, plainKeys := false, apart := false, laid := [("math/bits.deBruijn32tab", laid_math_bits_deBruijn32tab), ("math/bits.deBruijn64tab", laid_math_bits_deBruijn64tab), ("internal/strconv.uint64pow10", laid_internal_strconv_uint64pow10)] }
def PathLawsHoldSaid : Prop := pathLawsHoldRow.holds Tryz.pinned (OpenSpec.ofChange pathLawsHoldSpec)

/-- ITS FALSE NEIGHBOUR: 'it returns false'. Refute it at one input. -/
def pathLawsHoldWrong : ChangeSpec := { name := "pathLawsHold", fn := fun _ => fun
  | [d1, d2, d3] => { results := [.lit (.bool false)], args := [d1, d2, d3] }
  | _ => none }
def PathLawsHoldWrongFalsely : Prop := pathLawsHoldRow.holds Tryz.pinned (OpenSpec.ofChange pathLawsHoldWrong)

/-- 'interlacelaw16.PathFindsAsSpecified': WHATEVER THE INPUT: true; the input reads as it did. -/
def pathFindsAsSpecifiedSpec : ChangeSpec := { name := "pathFindsAsSpecified", fn := fun _ => fun
  | [d1, d2, d3, d4, d5, d6, d7, d8] => { results := [.lit (.bool true)], args := [d1, d2, d3, d4, d5, d6, d7, d8] }
  | _ => none }
def pathFindsAsSpecifiedRow : OpenClaim := { program := "ytkdolgnpkjihpaagreatdoor", sum := "055f05c7a77b7e3de0a54b57dbe7cfa3aa8df8cc6597099fcefbcec8a510f345", func := "interlace/interlacelaw16.PathFindsAsSpecified", spec := "pathFindsAsSpecified", unfollowed := true, recurses := true, named := ["internal/strconv.uint64pow10", "math/bits.deBruijn32tab", "math/bits.deBruijn64tab"], loops := true, plainKeys := false, apart := false, laid := [("math/bits.deBruijn32tab", laid_math_bits_deBruijn32tab), ("math/bits.deBruijn64tab", laid_math_bits_deBruijn64tab), ("internal/strconv.uint64pow10", laid_internal_strconv_uint64pow10)] }
def PathFindsAsSpecifiedSaid : Prop := pathFindsAsSpecifiedRow.holds Tryz.pinned (OpenSpec.ofChange pathFindsAsSpecifiedSpec)

/-- ITS FALSE NEIGHBOUR: 'it returns false'. Refute it at one input. -/
def pathFindsAsSpecifiedWrong : ChangeSpec := { name := "pathFindsAsSpecified", fn := fun _ => fun
  | [d1, d2, d3, d4, d5, d6, d7, d8] => { results := [.lit (.bool false)], args := [d1, d2, d3, d4, d5, d6, d7, d8] }
  | _ => none }
def PathFindsAsSpecifiedWrongFalsely : Prop := pathFindsAsSpecifiedRow.holds Tryz.pinned (OpenSpec.ofChange pathFindsAsSpecifiedWrong)

/-- 'interlacelaw16.PathIsShortest': WHATEVER THE INPUT: true; the input reads as it did. -/
def pathIsShortestSpec : ChangeSpec := { name := "pathIsShortest", fn := fun _ => fun
  | [d1, d2, d3, d4, d5, d6] => { results := [.lit (.bool true)], args := [d1, d2, d3, d4, d5, d6] }
  | _ => none }
def pathIsShortestRow : OpenClaim := { program := "ytkdolgnpkjihpaagreatdoor", sum := "055f05c7a77b7e3de0a54b57dbe7cfa3aa8df8cc6597099fcefbcec8a510f345", func := "interlace/interlacelaw16.PathIsShortest", spec := "pathIsShortest", unfollowed := true, recurses := true, named := ["internal/strconv.uint64pow10", "math/bits.deBruijn32tab", "math/bits.deBruijn64tab"], loops := true, plainKeys := false, apart := false, laid := [("math/bits.deBruijn32tab", laid_math_bits_deBruijn32tab), ("math/bits.deBruijn64tab", laid_math_bits_deBruijn64tab), ("internal/strconv.uint64pow10", laid_internal_strconv_uint64pow10)] }
def PathIsShortestSaid : Prop := pathIsShortestRow.holds Tryz.pinned (OpenSpec.ofChange pathIsShortestSpec)

/-- ITS FALSE NEIGHBOUR: 'it returns false'. Refute it at one input. -/
def pathIsShortestWrong : ChangeSpec := { name := "pathIsShortest", fn := fun _ => fun
  | [d1, d2, d3, d4, d5, d6] => { results := [.lit (.bool false)], args := [d1, d2, d3, d4, d5, d6] }
  | _ => none }
def PathIsShortestWrongFalsely : Prop := pathIsShortestRow.holds Tryz.pinned (OpenSpec.ofChange pathIsShortestWrong)

/-- 'interlacelaw16.PathRefutesSoundly': WHATEVER THE INPUT: true; the input reads as it did. -/
def pathRefutesSoundlySpec : ChangeSpec := { name := "pathRefutesSoundly", fn := fun _ => fun
  | [d1, d2, d3, d4, d5, d6, d7, d8] => { results := [.lit (.bool true)], args := [d1, d2, d3, d4, d5, d6, d7, d8] }
  | _ => none }
def pathRefutesSoundlyRow : OpenClaim := { program := "ytkdolgnpkjihpaagreatdoor", sum := "055f05c7a77b7e3de0a54b57dbe7cfa3aa8df8cc6597099fcefbcec8a510f345", func := "interlace/interlacelaw16.PathRefutesSoundly", spec := "pathRefutesSoundly", unfollowed := true, recurses := true, named := ["internal/strconv.uint64pow10", "math/bits.deBruijn32tab", "math/bits.deBruijn64tab"], loops := true, plainKeys := false, apart := false, laid := [("math/bits.deBruijn32tab", laid_math_bits_deBruijn32tab), ("math/bits.deBruijn64tab", laid_math_bits_deBruijn64tab), ("internal/strconv.uint64pow10", laid_internal_strconv_uint64pow10)] }
def PathRefutesSoundlySaid : Prop := pathRefutesSoundlyRow.holds Tryz.pinned (OpenSpec.ofChange pathRefutesSoundlySpec)

/-- ITS FALSE NEIGHBOUR: 'it returns false'. Refute it at one input. -/
def pathRefutesSoundlyWrong : ChangeSpec := { name := "pathRefutesSoundly", fn := fun _ => fun
  | [d1, d2, d3, d4, d5, d6, d7, d8] => { results := [.lit (.bool false)], args := [d1, d2, d3, d4, d5, d6, d7, d8] }
  | _ => none }
def PathRefutesSoundlyWrongFalsely : Prop := pathRefutesSoundlyRow.holds Tryz.pinned (OpenSpec.ofChange pathRefutesSoundlyWrong)

/- THE SECOND FORM. 'bulk': how many values and letters a reading holds, each counted each time it is reached (what is shared counts as often as it is met; a slice's spare places count too). A statement '..UptoSaid' is the law's where the arguments, and the package variables that the reading takes, are together of bulk at most 1048576: NARROWER than '..Said'. Prove '..Said' where nothing that the law and all that it calls make is longer than what came in: it says more and counts as full. Else prove '..UptoSaid'. A law counts once. -/
mutual
def uptoBulk {H : Type} : DataW H → Nat
  | .lit (.string bytes) => bytes.length + 1
  | .lit _ => 1
  | .nil => 1
  | .ptr d => uptoBulk d + 1
  | .slice elems spare => uptoBulkAll elems + uptoBulkAll spare + 1
  | .agg parts => uptoBulkAll parts + 1
  | .iface _ d => uptoBulk d + 1
  | .map entries => uptoBulkEntries entries + 1
  | .held _ => 1
def uptoBulkAll {H : Type} : List (DataW H) → Nat
  | [] => 0
  | d :: r => uptoBulk d + uptoBulkAll r
def uptoBulkEntries {H : Type} : List (Lit × DataW H) → Nat
  | [] => 0
  | x :: r => uptoBulkEntry x + uptoBulkEntries r
def uptoBulkEntry {H : Type} : Lit × DataW H → Nat
  | (.string bytes, d) => bytes.length + uptoBulk d + 1
  | (_, d) => uptoBulk d + 1
 end
def uptoSmall : (H : Type) → List (DataW H) → Bool := fun _ ds => decide (uptoBulkAll ds ≤ 1048576)
def OpenSpec.upto (s : _root_.Go.ChangeSpec) : _root_.Go.OpenSpec := { _root_.Go.OpenSpec.ofChange s with cond := some uptoSmall }

/-- 'interlacelaw16.PathMatchesSpec', WHERE WHAT IT READS IS OF BULK AT MOST 1048576: true; the input reads as it did. -/
def pathMatchesSpecUptoRow : OpenClaim := { program := "ytkdolgnpkjihpaagreatdoor", sum := "055f05c7a77b7e3de0a54b57dbe7cfa3aa8df8cc6597099fcefbcec8a510f345", func := "interlace/interlacelaw16.PathMatchesSpec", spec := "pathMatchesSpec", unfollowed := true, recurses := true, named := ["internal/strconv.uint64pow10", "math/bits.deBruijn32tab", "math/bits.deBruijn64tab"], loops := true, plainKeys := false, apart := false, laid := [("math/bits.deBruijn32tab", laid_math_bits_deBruijn32tab), ("math/bits.deBruijn64tab", laid_math_bits_deBruijn64tab), ("internal/strconv.uint64pow10", laid_internal_strconv_uint64pow10)], narrowed := true }
def PathMatchesSpecUptoSaid : Prop := pathMatchesSpecUptoRow.holds Tryz.pinned (OpenSpec.upto pathMatchesSpecSpec)

/-- 'interlacelaw16.PathMachinesAreLeast', WHERE WHAT IT READS IS OF BULK AT MOST 1048576: true; the input reads as it did. -/
def pathMachinesAreLeastUptoRow : OpenClaim := { program := "ytkdolgnpkjihpaagreatdoor", sum := "055f05c7a77b7e3de0a54b57dbe7cfa3aa8df8cc6597099fcefbcec8a510f345", func := "interlace/interlacelaw16.PathMachinesAreLeast", spec := "pathMachinesAreLeast", unfollowed := true, recurses := true, named := ["internal/strconv.uint64pow10", "math/bits.deBruijn32tab", "math/bits.deBruijn64tab"], loops := true, plainKeys := false, apart := false, laid := [("math/bits.deBruijn32tab", laid_math_bits_deBruijn32tab), ("math/bits.deBruijn64tab", laid_math_bits_deBruijn64tab), ("internal/strconv.uint64pow10", laid_internal_strconv_uint64pow10)], narrowed := true }
def PathMachinesAreLeastUptoSaid : Prop := pathMachinesAreLeastUptoRow.holds Tryz.pinned (OpenSpec.upto pathMachinesAreLeastSpec)

/-- 'interlacelaw16.PathEqualDecides', WHERE WHAT IT READS IS OF BULK AT MOST 1048576: true; the input reads as it did. -/
def pathEqualDecidesUptoRow : OpenClaim := { program := "ytkdolgnpkjihpaagreatdoor", sum := "055f05c7a77b7e3de0a54b57dbe7cfa3aa8df8cc6597099fcefbcec8a510f345", func := "interlace/interlacelaw16.PathEqualDecides", spec := "pathEqualDecides", unfollowed := true, recurses := true, named := ["internal/strconv.uint64pow10", "math/bits.deBruijn32tab", "math/bits.deBruijn64tab"], loops := true, plainKeys := false, apart := false, laid := [("math/bits.deBruijn32tab", laid_math_bits_deBruijn32tab), ("math/bits.deBruijn64tab", laid_math_bits_deBruijn64tab), ("internal/strconv.uint64pow10", laid_internal_strconv_uint64pow10)], narrowed := true }
def PathEqualDecidesUptoSaid : Prop := pathEqualDecidesUptoRow.holds Tryz.pinned (OpenSpec.upto pathEqualDecidesSpec)

/-- 'interlacelaw16.PathLawsHold', WHERE WHAT IT READS IS OF BULK AT MOST 1048576: true; the input reads as it did. -/
def pathLawsHoldUptoRow : OpenClaim := { program := "ytkdolgnpkjihpaagreatdoor", sum := "055f05c7a77b7e3de0a54b57dbe7cfa3aa8df8cc6597099fcefbcec8a510f345", func := "interlace/interlacelaw16.PathLawsHold", spec := "pathLawsHold", unfollowed := true, recurses := true, named := ["internal/strconv.uint64pow10", "math/bits.deBruijn32tab", "math/bits.deBruijn64tab"], loops := true, plainKeys := false, apart := false, laid := [("math/bits.deBruijn32tab", laid_math_bits_deBruijn32tab), ("math/bits.deBruijn64tab", laid_math_bits_deBruijn64tab), ("internal/strconv.uint64pow10", laid_internal_strconv_uint64pow10)], narrowed := true }
def PathLawsHoldUptoSaid : Prop := pathLawsHoldUptoRow.holds Tryz.pinned (OpenSpec.upto pathLawsHoldSpec)

/-- 'interlacelaw16.PathFindsAsSpecified', WHERE WHAT IT READS IS OF BULK AT MOST 1048576: true; the input reads as it did. -/
def pathFindsAsSpecifiedUptoRow : OpenClaim := { program := "ytkdolgnpkjihpaagreatdoor", sum := "055f05c7a77b7e3de0a54b57dbe7cfa3aa8df8cc6597099fcefbcec8a510f345", func := "interlace/interlacelaw16.PathFindsAsSpecified", spec := "pathFindsAsSpecified", unfollowed := true, recurses := true, named := ["internal/strconv.uint64pow10", "math/bits.deBruijn32tab", "math/bits.deBruijn64tab"], loops := true, plainKeys := false, apart := false, laid := [("math/bits.deBruijn32tab", laid_math_bits_deBruijn32tab), ("math/bits.deBruijn64tab", laid_math_bits_deBruijn64tab), ("internal/strconv.uint64pow10", laid_internal_strconv_uint64pow10)], narrowed := true }
def PathFindsAsSpecifiedUptoSaid : Prop := pathFindsAsSpecifiedUptoRow.holds Tryz.pinned (OpenSpec.upto pathFindsAsSpecifiedSpec)

/-- 'interlacelaw16.PathIsShortest', WHERE WHAT IT READS IS OF BULK AT MOST 1048576: true; the input reads as it did. -/
def pathIsShortestUptoRow : OpenClaim := { program := "ytkdolgnpkjihpaagreatdoor", sum := "055f05c7a77b7e3de0a54b57dbe7cfa3aa8df8cc6597099fcefbcec8a510f345", func := "interlace/interlacelaw16.PathIsShortest", spec := "pathIsShortest", unfollowed := true, recurses := true, named := ["internal/strconv.uint64pow10", "math/bits.deBruijn32tab", "math/bits.deBruijn64tab"], loops := true, plainKeys := false, apart := false, laid := [("math/bits.deBruijn32tab", laid_math_bits_deBruijn32tab), ("math/bits.deBruijn64tab", laid_math_bits_deBruijn64tab), ("internal/strconv.uint64pow10", laid_internal_strconv_uint64pow10)], narrowed := true }
def PathIsShortestUptoSaid : Prop := pathIsShortestUptoRow.holds Tryz.pinned (OpenSpec.upto pathIsShortestSpec)

/-- 'interlacelaw16.PathRefutesSoundly', WHERE WHAT IT READS IS OF BULK AT MOST 1048576: true; the input reads as it did. -/
def pathRefutesSoundlyUptoRow : OpenClaim := { program := "ytkdolgnpkjihpaagreatdoor", sum := "055f05c7a77b7e3de0a54b57dbe7cfa3aa8df8cc6597099fcefbcec8a510f345", func := "interlace/interlacelaw16.PathRefutesSoundly", spec := "pathRefutesSoundly", unfollowed := true, recurses := true, named := ["internal/strconv.uint64pow10", "math/bits.deBruijn32tab", "math/bits.deBruijn64tab"], loops := true, plainKeys := false, apart := false, laid := [("math/bits.deBruijn32tab", laid_math_bits_deBruijn32tab), ("math/bits.deBruijn64tab", laid_math_bits_deBruijn64tab), ("internal/strconv.uint64pow10", laid_internal_strconv_uint64pow10)], narrowed := true }
def PathRefutesSoundlyUptoSaid : Prop := pathRefutesSoundlyUptoRow.holds Tryz.pinned (OpenSpec.upto pathRefutesSoundlySpec)

end Rows
end Go.Proofs.YtkdolgnpkjihpaaGreatDoor
