/-
  No cell of these rows narrows 'for every input' (looked for: loops, veiled, ifaces, maps, wideKeys, modest, calm, conditions, laid).
  DERIVED. THE GIVEN ROWS OF THIS SEAT. 6 by the template 'for every input the law returns true; each argument reads behind the call as it read before'; 0 by the template 'total and deterministic' (their statements: YtdbffighngmibaaTotals.lean).
  GIVEN WITH THE SEED: the statements are not yours to turn. If you find one false, say at which input.
  Laid BY PROGRAM, IN A SANDBOX (cutbox-rows.mjs): the forced cells as the released guide's own fill.sh prints them over the translation 786b99e440d16235… (all of the seat's roots in one cut). By AI agents, Wed Nov 11 2026. No macro, syntax, notation, axiom, sorry.
-/
import Derived.Test.YtdbffighngmibaaChecked
import GoSem.Claim
import GoSem.ClaimJoined
import GoSem.ClaimMapViews
import Derived.JoinedTies
import Derived.KernelRfl
namespace Go.Proofs.Ytdbffighngmibaa
/- THE CELL 'sum', in the pinned program and in every row, IS THE sha256 OF THE DUMP (.gsa) THAT YtdbffighngmibaaProg.lean LOADS. Nothing in Lean hashes anything: it is a label: what it is worth is what the hold of that sum in a sandbox is worth. -/
noncomputable def Try.pinned : Pinned := { name := "ytdbffighngmibaa", sum := "786b99e440d16235309945e333c69ffc1ee763b0d1d8e4a13584ce8d51183b21", checked := Try.checked }
namespace Rows
def none {H : Type} : Left H := { results := [], args := [] }

/-- 'interlacelaw27.TagAssignsAsSpecified': WHATEVER THE INPUT: true; the input reads as it did. -/
def tagAssignsAsSpecifiedSpec : ChangeSpec := { name := "tagAssignsAsSpecified", fn := fun _ => fun
  | [d1, d2, d3, d4, d5] => { results := [.lit (.bool true)], args := [d1, d2, d3, d4, d5] }
  | _ => none }
def tagAssignsAsSpecifiedRow : OpenClaim := { program := "ytdbffighngmibaa", sum := "786b99e440d16235309945e333c69ffc1ee763b0d1d8e4a13584ce8d51183b21", func := "interlace/interlacelaw27.TagAssignsAsSpecified", spec := "tagAssignsAsSpecified", unfollowed := true, recurses := true, plainKeys := false, apart := false }
def TagAssignsAsSpecifiedSaid : Prop := tagAssignsAsSpecifiedRow.holds Try.pinned (OpenSpec.ofChange tagAssignsAsSpecifiedSpec)

/-- ITS FALSE NEIGHBOUR: 'it returns false'. Refute it at one input. -/
def tagAssignsAsSpecifiedWrong : ChangeSpec := { name := "tagAssignsAsSpecified", fn := fun _ => fun
  | [d1, d2, d3, d4, d5] => { results := [.lit (.bool false)], args := [d1, d2, d3, d4, d5] }
  | _ => none }
def TagAssignsAsSpecifiedWrongFalsely : Prop := tagAssignsAsSpecifiedRow.holds Try.pinned (OpenSpec.ofChange tagAssignsAsSpecifiedWrong)

/-- 'interlacelaw27.TagRulesMatchSpec': WHATEVER THE INPUT: true; the input reads as it did. -/
def tagRulesMatchSpecSpec : ChangeSpec := { name := "tagRulesMatchSpec", fn := fun _ => fun
  | [d1, d2, d3, d4, d5] => { results := [.lit (.bool true)], args := [d1, d2, d3, d4, d5] }
  | _ => none }
def tagRulesMatchSpecRow : OpenClaim := { program := "ytdbffighngmibaa", sum := "786b99e440d16235309945e333c69ffc1ee763b0d1d8e4a13584ce8d51183b21", func := "interlace/interlacelaw27.TagRulesMatchSpec", spec := "tagRulesMatchSpec", unfollowed := true, recurses := true, plainKeys := false, apart := false }
def TagRulesMatchSpecSaid : Prop := tagRulesMatchSpecRow.holds Try.pinned (OpenSpec.ofChange tagRulesMatchSpecSpec)

/-- ITS FALSE NEIGHBOUR: 'it returns false'. Refute it at one input. -/
def tagRulesMatchSpecWrong : ChangeSpec := { name := "tagRulesMatchSpec", fn := fun _ => fun
  | [d1, d2, d3, d4, d5] => { results := [.lit (.bool false)], args := [d1, d2, d3, d4, d5] }
  | _ => none }
def TagRulesMatchSpecWrongFalsely : Prop := tagRulesMatchSpecRow.holds Try.pinned (OpenSpec.ofChange tagRulesMatchSpecWrong)

/-- 'interlacelaw27.TagLeads': WHATEVER THE INPUT: true; the input reads as it did. -/
def tagLeadsSpec : ChangeSpec := { name := "tagLeads", fn := fun _ => fun
  | [d1, d2, d3, d4, d5] => { results := [.lit (.bool true)], args := [d1, d2, d3, d4, d5] }
  | _ => none }
def tagLeadsRow : OpenClaim := { program := "ytdbffighngmibaa", sum := "786b99e440d16235309945e333c69ffc1ee763b0d1d8e4a13584ce8d51183b21", func := "interlace/interlacelaw27.TagLeads", spec := "tagLeads", unfollowed := true, recurses := true, plainKeys := false, apart := false }
def TagLeadsSaid : Prop := tagLeadsRow.holds Try.pinned (OpenSpec.ofChange tagLeadsSpec)

/-- ITS FALSE NEIGHBOUR: 'it returns false'. Refute it at one input. -/
def tagLeadsWrong : ChangeSpec := { name := "tagLeads", fn := fun _ => fun
  | [d1, d2, d3, d4, d5] => { results := [.lit (.bool false)], args := [d1, d2, d3, d4, d5] }
  | _ => none }
def TagLeadsWrongFalsely : Prop := tagLeadsRow.holds Try.pinned (OpenSpec.ofChange tagLeadsWrong)

/-- 'interlacelaw27.TagConflicts': WHATEVER THE INPUT: true; the input reads as it did. -/
def tagConflictsSpec : ChangeSpec := { name := "tagConflicts", fn := fun _ => fun
  | [d1, d2, d3, d4, d5] => { results := [.lit (.bool true)], args := [d1, d2, d3, d4, d5] }
  | _ => none }
def tagConflictsRow : OpenClaim := { program := "ytdbffighngmibaa", sum := "786b99e440d16235309945e333c69ffc1ee763b0d1d8e4a13584ce8d51183b21", func := "interlace/interlacelaw27.TagConflicts", spec := "tagConflicts", unfollowed := true, recurses := true, plainKeys := false, apart := false }
def TagConflictsSaid : Prop := tagConflictsRow.holds Try.pinned (OpenSpec.ofChange tagConflictsSpec)

/-- ITS FALSE NEIGHBOUR: 'it returns false'. Refute it at one input. -/
def tagConflictsWrong : ChangeSpec := { name := "tagConflicts", fn := fun _ => fun
  | [d1, d2, d3, d4, d5] => { results := [.lit (.bool false)], args := [d1, d2, d3, d4, d5] }
  | _ => none }
def TagConflictsWrongFalsely : Prop := tagConflictsRow.holds Try.pinned (OpenSpec.ofChange tagConflictsWrong)

/-- 'interlacelaw27.TagChecksMatchSpec': WHATEVER THE INPUT: true; the input reads as it did. -/
def tagChecksMatchSpecSpec : ChangeSpec := { name := "tagChecksMatchSpec", fn := fun _ => fun
  | [d1, d2, d3, d4] => { results := [.lit (.bool true)], args := [d1, d2, d3, d4] }
  | _ => none }
def tagChecksMatchSpecRow : OpenClaim := { program := "ytdbffighngmibaa", sum := "786b99e440d16235309945e333c69ffc1ee763b0d1d8e4a13584ce8d51183b21", func := "interlace/interlacelaw27.TagChecksMatchSpec", spec := "tagChecksMatchSpec", unfollowed := true, recurses := true, plainKeys := false, apart := false }
def TagChecksMatchSpecSaid : Prop := tagChecksMatchSpecRow.holds Try.pinned (OpenSpec.ofChange tagChecksMatchSpecSpec)

/-- ITS FALSE NEIGHBOUR: 'it returns false'. Refute it at one input. -/
def tagChecksMatchSpecWrong : ChangeSpec := { name := "tagChecksMatchSpec", fn := fun _ => fun
  | [d1, d2, d3, d4] => { results := [.lit (.bool false)], args := [d1, d2, d3, d4] }
  | _ => none }
def TagChecksMatchSpecWrongFalsely : Prop := tagChecksMatchSpecRow.holds Try.pinned (OpenSpec.ofChange tagChecksMatchSpecWrong)

/-- 'interlacelaw27.TagIsStuck': WHATEVER THE INPUT: true; the input reads as it did. -/
def tagIsStuckSpec : ChangeSpec := { name := "tagIsStuck", fn := fun _ => fun
  | [d1, d2, d3, d4, d5] => { results := [.lit (.bool true)], args := [d1, d2, d3, d4, d5] }
  | _ => none }
def tagIsStuckRow : OpenClaim := { program := "ytdbffighngmibaa", sum := "786b99e440d16235309945e333c69ffc1ee763b0d1d8e4a13584ce8d51183b21", func := "interlace/interlacelaw27.TagIsStuck", spec := "tagIsStuck", unfollowed := true, recurses := true, plainKeys := false, apart := false }
def TagIsStuckSaid : Prop := tagIsStuckRow.holds Try.pinned (OpenSpec.ofChange tagIsStuckSpec)

/-- ITS FALSE NEIGHBOUR: 'it returns false'. Refute it at one input. -/
def tagIsStuckWrong : ChangeSpec := { name := "tagIsStuck", fn := fun _ => fun
  | [d1, d2, d3, d4, d5] => { results := [.lit (.bool false)], args := [d1, d2, d3, d4, d5] }
  | _ => none }
def TagIsStuckWrongFalsely : Prop := tagIsStuckRow.holds Try.pinned (OpenSpec.ofChange tagIsStuckWrong)

/- THE SECOND FORM. 'bulk': how many values and letters a reading holds, each counted each time it is reached (what is shared counts as often as it is met; a slice's spare places count too). A statement '..UptoSaid' is the law's where the arguments, and the package variables that the reading takes, are together of bulk at most 1048576: NARROWER than '..Said'. Prove '..Said' where nothing that the law and all that it calls make is longer than what came in: it says more and counts as full. Else prove '..UptoSaid'. A law counts once. -/
mutual
def uptoBulk {H : Type} : DataW H → Nat
  | .lit (.string bytes) => bytes.length + 1
  | .lit _ => 1
  | .nil => 1
  | .ptr d => uptoBulk d + 1
  | .slice elems spare => uptoBulkAll elems + uptoBulkAll spare + 1
  | .agg parts => uptoBulkAll parts + 1
  | .iface _ d => uptoBulk d + 1
  | .map entries => uptoBulkEntries entries + 1
  | .held _ => 1
def uptoBulkAll {H : Type} : List (DataW H) → Nat
  | [] => 0
  | d :: r => uptoBulk d + uptoBulkAll r
def uptoBulkEntries {H : Type} : List (Lit × DataW H) → Nat
  | [] => 0
  | x :: r => uptoBulkEntry x + uptoBulkEntries r
def uptoBulkEntry {H : Type} : Lit × DataW H → Nat
  | (.string bytes, d) => bytes.length + uptoBulk d + 1
  | (_, d) => uptoBulk d + 1
 end
def uptoSmall : (H : Type) → List (DataW H) → Bool := fun _ ds => decide (uptoBulkAll ds ≤ 1048576)
def OpenSpec.upto (s : _root_.Go.ChangeSpec) : _root_.Go.OpenSpec := { _root_.Go.OpenSpec.ofChange s with cond := some uptoSmall }

/-- 'interlacelaw27.TagAssignsAsSpecified', WHERE WHAT IT READS IS OF BULK AT MOST 1048576: true; the input reads as it did. -/
def tagAssignsAsSpecifiedUptoRow : OpenClaim := { program := "ytdbffighngmibaa", sum := "786b99e440d16235309945e333c69ffc1ee763b0d1d8e4a13584ce8d51183b21", func := "interlace/interlacelaw27.TagAssignsAsSpecified", spec := "tagAssignsAsSpecified", unfollowed := true, recurses := true, plainKeys := false, apart := false, narrowed := true }
def TagAssignsAsSpecifiedUptoSaid : Prop := tagAssignsAsSpecifiedUptoRow.holds Try.pinned (OpenSpec.upto tagAssignsAsSpecifiedSpec)

/-- 'interlacelaw27.TagRulesMatchSpec', WHERE WHAT IT READS IS OF BULK AT MOST 1048576: true; the input reads as it did. -/
def tagRulesMatchSpecUptoRow : OpenClaim := { program := "ytdbffighngmibaa", sum := "786b99e440d16235309945e333c69ffc1ee763b0d1d8e4a13584ce8d51183b21", func := "interlace/interlacelaw27.TagRulesMatchSpec", spec := "tagRulesMatchSpec", unfollowed := true, recurses := true, plainKeys := false, apart := false, narrowed := true }
def TagRulesMatchSpecUptoSaid : Prop := tagRulesMatchSpecUptoRow.holds Try.pinned (OpenSpec.upto tagRulesMatchSpecSpec)

/-- 'interlacelaw27.TagLeads', WHERE WHAT IT READS IS OF BULK AT MOST 1048576: true; the input reads as it did. -/
def tagLeadsUptoRow : OpenClaim := { program := "ytdbffighngmibaa", sum := "786b99e440d16235309945e333c69ffc1ee763b0d1d8e4a13584ce8d51183b21", func := "interlace/interlacelaw27.TagLeads", spec := "tagLeads", unfollowed := true, recurses := true, plainKeys := false, apart := false, narrowed := true }
def TagLeadsUptoSaid : Prop := tagLeadsUptoRow.holds Try.pinned (OpenSpec.upto tagLeadsSpec)

/-- 'interlacelaw27.TagConflicts', WHERE WHAT IT READS IS OF BULK AT MOST 1048576: true; the input reads as it did. -/
def tagConflictsUptoRow : OpenClaim := { program := "ytdbffighngmibaa", sum := "786b99e440d16235309945e333c69ffc1ee763b0d1d8e4a13584ce8d51183b21", func := "interlace/interlacelaw27.TagConflicts", spec := "tagConflicts", unfollowed := true, recurses := true, plainKeys := false, apart := false, narrowed := true }
def TagConflictsUptoSaid : Prop := tagConflictsUptoRow.holds Try.pinned (OpenSpec.upto tagConflictsSpec)

/-- 'interlacelaw27.TagChecksMatchSpec', WHERE WHAT IT READS IS OF BULK AT MOST 1048576: true; the input reads as it did. -/
def tagChecksMatchSpecUptoRow : OpenClaim := { program := "ytdbffighngmibaa", sum := "786b99e440d16235309945e333c69ffc1ee763b0d1d8e4a13584ce8d51183b21", func := "interlace/interlacelaw27.TagChecksMatchSpec", spec := "tagChecksMatchSpec", unfollowed := true, recurses := true, plainKeys := false, apart := false, narrowed := true }
def TagChecksMatchSpecUptoSaid : Prop := tagChecksMatchSpecUptoRow.holds Try.pinned (OpenSpec.upto tagChecksMatchSpecSpec)

/-- 'interlacelaw27.TagIsStuck', WHERE WHAT IT READS IS OF BULK AT MOST 1048576: true; the input reads as it did. -/
def tagIsStuckUptoRow : OpenClaim := { program := "ytdbffighngmibaa", sum := "786b99e440d16235309945e333c69ffc1ee763b0d1d8e4a13584ce8d51183b21", func := "interlace/interlacelaw27.TagIsStuck", spec := "tagIsStuck", unfollowed := true, recurses := true, plainKeys := false, apart := false, narrowed := true }
def TagIsStuckUptoSaid : Prop := tagIsStuckUptoRow.holds Try.pinned (OpenSpec.upto tagIsStuckSpec)

end Rows
end Go.Proofs.Ytdbffighngmibaa
