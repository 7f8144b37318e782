/-
  No cell of these rows narrows 'for every input' (looked for: loops, veiled, ifaces, maps, wideKeys, modest, calm, conditions, laid).
  DERIVED. THE GIVEN ROWS OF THIS SEAT. 8 by the template 'for every input the law returns true; each argument reads behind the call as it read before'; 0 by the template 'total and deterministic' (their statements: YthebnpophckgcaaTotals.lean).
  GIVEN WITH THE SEED: the statements are not yours to turn. If you find one false, say at which input.
  Laid BY PROGRAM, IN A SANDBOX (cutbox-rows.mjs): the forced cells as the released guide's own fill.sh prints them over the translation fbff8e9d868f0d89… (all of the seat's roots in one cut). By AI agents, Wed Nov 11 2026. No macro, syntax, notation, axiom, sorry.
-/
import Derived.Test.YthebnpophckgcaaChecked
import GoSem.Claim
import GoSem.ClaimJoined
import GoSem.ClaimMapViews
import Derived.JoinedTies
import Derived.KernelRfl
namespace Go.Proofs.Ythebnpophckgcaa
/- THE CELL 'sum', in the pinned program and in every row, IS THE sha256 OF THE DUMP (.gsa) THAT YthebnpophckgcaaProg.lean LOADS. Nothing in Lean hashes anything: it is a label: what it is worth is what the hold of that sum in a sandbox is worth. -/
noncomputable def Try.pinned : Pinned := { name := "ythebnpophckgcaa", sum := "fbff8e9d868f0d8998912f13b35f27d2976b18c4997ec285c72d79a96af6ab7f", checked := Try.checked }
namespace Rows
def none {H : Type} : Left H := { results := [], args := [] }

/-- 'interlacelaw44.ClockMatchesSpec': WHATEVER THE INPUT: true; the input reads as it did. -/
def clockMatchesSpecSpec : ChangeSpec := { name := "clockMatchesSpec", fn := fun _ => fun
  | [d1, d2, d3, d4, d5] => { results := [.lit (.bool true)], args := [d1, d2, d3, d4, d5] }
  | _ => none }
def clockMatchesSpecRow : OpenClaim := { program := "ythebnpophckgcaa", sum := "fbff8e9d868f0d8998912f13b35f27d2976b18c4997ec285c72d79a96af6ab7f", func := "interlace/interlacelaw44.ClockMatchesSpec", spec := "clockMatchesSpec", unfollowed := true, recurses := true, apart := false }
def ClockMatchesSpecSaid : Prop := clockMatchesSpecRow.holds Try.pinned (OpenSpec.ofChange clockMatchesSpecSpec)

/-- ITS FALSE NEIGHBOUR: 'it returns false'. Refute it at one input. -/
def clockMatchesSpecWrong : ChangeSpec := { name := "clockMatchesSpec", fn := fun _ => fun
  | [d1, d2, d3, d4, d5] => { results := [.lit (.bool false)], args := [d1, d2, d3, d4, d5] }
  | _ => none }
def ClockMatchesSpecWrongFalsely : Prop := clockMatchesSpecRow.holds Try.pinned (OpenSpec.ofChange clockMatchesSpecWrong)

/-- 'interlacelaw44.ClockSpansMatchSpec': WHATEVER THE INPUT: true; the input reads as it did. -/
def clockSpansMatchSpecSpec : ChangeSpec := { name := "clockSpansMatchSpec", fn := fun _ => fun
  | [d] => { results := [.lit (.bool true)], args := [d] }
  | _ => none }
def clockSpansMatchSpecRow : OpenClaim := { program := "ythebnpophckgcaa", sum := "fbff8e9d868f0d8998912f13b35f27d2976b18c4997ec285c72d79a96af6ab7f", func := "interlace/interlacelaw44.ClockSpansMatchSpec", spec := "clockSpansMatchSpec", unfollowed := true, recurses := true, apart := false }
def ClockSpansMatchSpecSaid : Prop := clockSpansMatchSpecRow.holds Try.pinned (OpenSpec.ofChange clockSpansMatchSpecSpec)

/-- ITS FALSE NEIGHBOUR: 'it returns false'. Refute it at one input. -/
def clockSpansMatchSpecWrong : ChangeSpec := { name := "clockSpansMatchSpec", fn := fun _ => fun
  | [d] => { results := [.lit (.bool false)], args := [d] }
  | _ => none }
def ClockSpansMatchSpecWrongFalsely : Prop := clockSpansMatchSpecRow.holds Try.pinned (OpenSpec.ofChange clockSpansMatchSpecWrong)

/-- 'interlacelaw44.ClockLocalMatchesSpec': WHATEVER THE INPUT: true; the input reads as it did. -/
def clockLocalMatchesSpecSpec : ChangeSpec := { name := "clockLocalMatchesSpec", fn := fun _ => fun
  | [d1, d2] => { results := [.lit (.bool true)], args := [d1, d2] }
  | _ => none }
def clockLocalMatchesSpecRow : OpenClaim := { program := "ythebnpophckgcaa", sum := "fbff8e9d868f0d8998912f13b35f27d2976b18c4997ec285c72d79a96af6ab7f", func := "interlace/interlacelaw44.ClockLocalMatchesSpec", spec := "clockLocalMatchesSpec", unfollowed := true, recurses := true, apart := false }
def ClockLocalMatchesSpecSaid : Prop := clockLocalMatchesSpecRow.holds Try.pinned (OpenSpec.ofChange clockLocalMatchesSpecSpec)

/-- ITS FALSE NEIGHBOUR: 'it returns false'. Refute it at one input. -/
def clockLocalMatchesSpecWrong : ChangeSpec := { name := "clockLocalMatchesSpec", fn := fun _ => fun
  | [d1, d2] => { results := [.lit (.bool false)], args := [d1, d2] }
  | _ => none }
def ClockLocalMatchesSpecWrongFalsely : Prop := clockLocalMatchesSpecRow.holds Try.pinned (OpenSpec.ofChange clockLocalMatchesSpecWrong)

/-- 'interlacelaw44.ClockLocalIsTight': WHATEVER THE INPUT: true; the input reads as it did. -/
def clockLocalIsTightSpec : ChangeSpec := { name := "clockLocalIsTight", fn := fun _ => fun
  | [d1, d2, d3] => { results := [.lit (.bool true)], args := [d1, d2, d3] }
  | _ => none }
def clockLocalIsTightRow : OpenClaim := { program := "ythebnpophckgcaa", sum := "fbff8e9d868f0d8998912f13b35f27d2976b18c4997ec285c72d79a96af6ab7f", func := "interlace/interlacelaw44.ClockLocalIsTight", spec := "clockLocalIsTight", unfollowed := true, recurses := true, apart := false }
def ClockLocalIsTightSaid : Prop := clockLocalIsTightRow.holds Try.pinned (OpenSpec.ofChange clockLocalIsTightSpec)

/-- ITS FALSE NEIGHBOUR: 'it returns false'. Refute it at one input. -/
def clockLocalIsTightWrong : ChangeSpec := { name := "clockLocalIsTight", fn := fun _ => fun
  | [d1, d2, d3] => { results := [.lit (.bool false)], args := [d1, d2, d3] }
  | _ => none }
def ClockLocalIsTightWrongFalsely : Prop := clockLocalIsTightRow.holds Try.pinned (OpenSpec.ofChange clockLocalIsTightWrong)

/-- 'interlacelaw44.ClockIsRight': WHATEVER THE INPUT: true; the input reads as it did. -/
def clockIsRightSpec : ChangeSpec := { name := "clockIsRight", fn := fun _ => fun
  | [d1, d2, d3, d4, d5, d6] => { results := [.lit (.bool true)], args := [d1, d2, d3, d4, d5, d6] }
  | _ => none }
def clockIsRightRow : OpenClaim := { program := "ythebnpophckgcaa", sum := "fbff8e9d868f0d8998912f13b35f27d2976b18c4997ec285c72d79a96af6ab7f", func := "interlace/interlacelaw44.ClockIsRight", spec := "clockIsRight", unfollowed := true, recurses := true, apart := false }
def ClockIsRightSaid : Prop := clockIsRightRow.holds Try.pinned (OpenSpec.ofChange clockIsRightSpec)

/-- ITS FALSE NEIGHBOUR: 'it returns false'. Refute it at one input. -/
def clockIsRightWrong : ChangeSpec := { name := "clockIsRight", fn := fun _ => fun
  | [d1, d2, d3, d4, d5, d6] => { results := [.lit (.bool false)], args := [d1, d2, d3, d4, d5, d6] }
  | _ => none }
def ClockIsRightWrongFalsely : Prop := clockIsRightRow.holds Try.pinned (OpenSpec.ofChange clockIsRightWrong)

/-- 'interlacelaw44.ClockSyncs': WHATEVER THE INPUT: true; the input reads as it did. -/
def clockSyncsSpec : ChangeSpec := { name := "clockSyncs", fn := fun _ => fun
  | [d1, d2, d3, d4] => { results := [.lit (.bool true)], args := [d1, d2, d3, d4] }
  | _ => none }
def clockSyncsRow : OpenClaim := { program := "ythebnpophckgcaa", sum := "fbff8e9d868f0d8998912f13b35f27d2976b18c4997ec285c72d79a96af6ab7f", func := "interlace/interlacelaw44.ClockSyncs", spec := "clockSyncs", unfollowed := true, recurses := true, apart := false }
def ClockSyncsSaid : Prop := clockSyncsRow.holds Try.pinned (OpenSpec.ofChange clockSyncsSpec)

/-- ITS FALSE NEIGHBOUR: 'it returns false'. Refute it at one input. -/
def clockSyncsWrong : ChangeSpec := { name := "clockSyncs", fn := fun _ => fun
  | [d1, d2, d3, d4] => { results := [.lit (.bool false)], args := [d1, d2, d3, d4] }
  | _ => none }
def ClockSyncsWrongFalsely : Prop := clockSyncsRow.holds Try.pinned (OpenSpec.ofChange clockSyncsWrong)

/-- 'interlacelaw44.ClockIsMonotone': WHATEVER THE INPUT: true; the input reads as it did. -/
def clockIsMonotoneSpec : ChangeSpec := { name := "clockIsMonotone", fn := fun _ => fun
  | [d1, d2, d3] => { results := [.lit (.bool true)], args := [d1, d2, d3] }
  | _ => none }
def clockIsMonotoneRow : OpenClaim := { program := "ythebnpophckgcaa", sum := "fbff8e9d868f0d8998912f13b35f27d2976b18c4997ec285c72d79a96af6ab7f", func := "interlace/interlacelaw44.ClockIsMonotone", spec := "clockIsMonotone", unfollowed := true, recurses := true, apart := false }
def ClockIsMonotoneSaid : Prop := clockIsMonotoneRow.holds Try.pinned (OpenSpec.ofChange clockIsMonotoneSpec)

/-- ITS FALSE NEIGHBOUR: 'it returns false'. Refute it at one input. -/
def clockIsMonotoneWrong : ChangeSpec := { name := "clockIsMonotone", fn := fun _ => fun
  | [d1, d2, d3] => { results := [.lit (.bool false)], args := [d1, d2, d3] }
  | _ => none }
def ClockIsMonotoneWrongFalsely : Prop := clockIsMonotoneRow.holds Try.pinned (OpenSpec.ofChange clockIsMonotoneWrong)

/-- 'interlacelaw44.ClockOrders': WHATEVER THE INPUT: true; the input reads as it did. -/
def clockOrdersSpec : ChangeSpec := { name := "clockOrders", fn := fun _ => fun
  | [d] => { results := [.lit (.bool true)], args := [d] }
  | _ => none }
def clockOrdersRow : OpenClaim := { program := "ythebnpophckgcaa", sum := "fbff8e9d868f0d8998912f13b35f27d2976b18c4997ec285c72d79a96af6ab7f", func := "interlace/interlacelaw44.ClockOrders", spec := "clockOrders", unfollowed := true, recurses := true, apart := false }
def ClockOrdersSaid : Prop := clockOrdersRow.holds Try.pinned (OpenSpec.ofChange clockOrdersSpec)

/-- ITS FALSE NEIGHBOUR: 'it returns false'. Refute it at one input. -/
def clockOrdersWrong : ChangeSpec := { name := "clockOrders", fn := fun _ => fun
  | [d] => { results := [.lit (.bool false)], args := [d] }
  | _ => none }
def ClockOrdersWrongFalsely : Prop := clockOrdersRow.holds Try.pinned (OpenSpec.ofChange clockOrdersWrong)

/- THE SECOND FORM. 'bulk': how many values and letters a reading holds, each counted each time it is reached (what is shared counts as often as it is met; a slice's spare places count too). A statement '..UptoSaid' is the law's where the arguments, and the package variables that the reading takes, are together of bulk at most 1048576: NARROWER than '..Said'. Prove '..Said' where nothing that the law and all that it calls make is longer than what came in: it says more and counts as full. Else prove '..UptoSaid'. A law counts once. -/
mutual
def uptoBulk {H : Type} : DataW H → Nat
  | .lit (.string bytes) => bytes.length + 1
  | .lit _ => 1
  | .nil => 1
  | .ptr d => uptoBulk d + 1
  | .slice elems spare => uptoBulkAll elems + uptoBulkAll spare + 1
  | .agg parts => uptoBulkAll parts + 1
  | .iface _ d => uptoBulk d + 1
  | .map entries => uptoBulkEntries entries + 1
  | .held _ => 1
def uptoBulkAll {H : Type} : List (DataW H) → Nat
  | [] => 0
  | d :: r => uptoBulk d + uptoBulkAll r
def uptoBulkEntries {H : Type} : List (Lit × DataW H) → Nat
  | [] => 0
  | x :: r => uptoBulkEntry x + uptoBulkEntries r
def uptoBulkEntry {H : Type} : Lit × DataW H → Nat
  | (.string bytes, d) => bytes.length + uptoBulk d + 1
  | (_, d) => uptoBulk d + 1
 end
def uptoSmall : (H : Type) → List (DataW H) → Bool := fun _ ds => decide (uptoBulkAll ds ≤ 1048576)
def OpenSpec.upto (s : _root_.Go.ChangeSpec) : _root_.Go.OpenSpec := { _root_.Go.OpenSpec.ofChange s with cond := some uptoSmall }

/-- 'interlacelaw44.ClockMatchesSpec', WHERE WHAT IT READS IS OF BULK AT MOST 1048576: true; the input reads as it did. -/
def clockMatchesSpecUptoRow : OpenClaim := { program := "ythebnpophckgcaa", sum := "fbff8e9d868f0d8998912f13b35f27d2976b18c4997ec285c72d79a96af6ab7f", func := "interlace/interlacelaw44.ClockMatchesSpec", spec := "clockMatchesSpec", unfollowed := true, recurses := true, apart := false, narrowed := true }
def ClockMatchesSpecUptoSaid : Prop := clockMatchesSpecUptoRow.holds Try.pinned (OpenSpec.upto clockMatchesSpecSpec)

/-- 'interlacelaw44.ClockSpansMatchSpec', WHERE WHAT IT READS IS OF BULK AT MOST 1048576: true; the input reads as it did. -/
def clockSpansMatchSpecUptoRow : OpenClaim := { program := "ythebnpophckgcaa", sum := "fbff8e9d868f0d8998912f13b35f27d2976b18c4997ec285c72d79a96af6ab7f", func := "interlace/interlacelaw44.ClockSpansMatchSpec", spec := "clockSpansMatchSpec", unfollowed := true, recurses := true, apart := false, narrowed := true }
def ClockSpansMatchSpecUptoSaid : Prop := clockSpansMatchSpecUptoRow.holds Try.pinned (OpenSpec.upto clockSpansMatchSpecSpec)

/-- 'interlacelaw44.ClockLocalMatchesSpec', WHERE WHAT IT READS IS OF BULK AT MOST 1048576: true; the input reads as it did. -/
def clockLocalMatchesSpecUptoRow : OpenClaim := { program := "ythebnpophckgcaa", sum := "fbff8e9d868f0d8998912f13b35f27d2976b18c4997ec285c72d79a96af6ab7f", func := "interlace/interlacelaw44.ClockLocalMatchesSpec", spec := "clockLocalMatchesSpec", unfollowed := true, recurses := true, apart := false, narrowed := true }
def ClockLocalMatchesSpecUptoSaid : Prop := clockLocalMatchesSpecUptoRow.holds Try.pinned (OpenSpec.upto clockLocalMatchesSpecSpec)

/-- 'interlacelaw44.ClockLocalIsTight', WHERE WHAT IT READS IS OF BULK AT MOST 1048576: true; the input reads as it did. -/
def clockLocalIsTightUptoRow : OpenClaim := { program := "ythebnpophckgcaa", sum := "fbff8e9d868f0d8998912f13b35f27d2976b18c4997ec285c72d79a96af6ab7f", func := "interlace/interlacelaw44.ClockLocalIsTight", spec := "clockLocalIsTight", unfollowed := true, recurses := true, apart := false, narrowed := true }
def ClockLocalIsTightUptoSaid : Prop := clockLocalIsTightUptoRow.holds Try.pinned (OpenSpec.upto clockLocalIsTightSpec)

/-- 'interlacelaw44.ClockIsRight', WHERE WHAT IT READS IS OF BULK AT MOST 1048576: true; the input reads as it did. -/
def clockIsRightUptoRow : OpenClaim := { program := "ythebnpophckgcaa", sum := "fbff8e9d868f0d8998912f13b35f27d2976b18c4997ec285c72d79a96af6ab7f", func := "interlace/interlacelaw44.ClockIsRight", spec := "clockIsRight", unfollowed := true, recurses := true, apart := false, narrowed := true }
def ClockIsRightUptoSaid : Prop := clockIsRightUptoRow.holds Try.pinned (OpenSpec.upto clockIsRightSpec)

/-- 'interlacelaw44.ClockSyncs', WHERE WHAT IT READS IS OF BULK AT MOST 1048576: true; the input reads as it did. -/
def clockSyncsUptoRow : OpenClaim := { program := "ythebnpophckgcaa", sum := "fbff8e9d868f0d8998912f13b35f27d2976b18c4997ec285c72d79a96af6ab7f", func := "interlace/interlacelaw44.ClockSyncs", spec := "clockSyncs", unfollowed := true, recurses := true, apart := false, narrowed := true }
def ClockSyncsUptoSaid : Prop := clockSyncsUptoRow.holds Try.pinned (OpenSpec.upto clockSyncsSpec)

/-- 'interlacelaw44.ClockIsMonotone', WHERE WHAT IT READS IS OF BULK AT MOST 1048576: true; the input reads as it did. -/
def clockIsMonotoneUptoRow : OpenClaim := { program := "ythebnpophckgcaa", sum := "fbff8e9d868f0d8998912f13b35f27d2976b18c4997ec285c72d79a96af6ab7f", func := "interlace/interlacelaw44.ClockIsMonotone", spec := "clockIsMonotone", unfollowed := true, recurses := true, apart := false, narrowed := true }
def ClockIsMonotoneUptoSaid : Prop := clockIsMonotoneUptoRow.holds Try.pinned (OpenSpec.upto clockIsMonotoneSpec)

/-- 'interlacelaw44.ClockOrders', WHERE WHAT IT READS IS OF BULK AT MOST 1048576: true; the input reads as it did. -/
def clockOrdersUptoRow : OpenClaim := { program := "ythebnpophckgcaa", sum := "fbff8e9d868f0d8998912f13b35f27d2976b18c4997ec285c72d79a96af6ab7f", func := "interlace/interlacelaw44.ClockOrders", spec := "clockOrders", unfollowed := true, recurses := true, apart := false, narrowed := true }
def ClockOrdersUptoSaid : Prop := clockOrdersUptoRow.holds Try.pinned (OpenSpec.upto clockOrdersSpec)

end Rows
end Go.Proofs.Ythebnpophckgcaa
