/-
  NARROWER THAN 'FOR EVERY INPUT', by the rows' own cells (each row's printed sentence says how): EquivMatchesSpec: loops · EquivOfOneMatchesSpec: loops · EquivOfTwoMatchesSpec: loops · EquivAlwaysMatchesSpec: loops · EquivWitnesses: loops · EquivReplaces: loops · EquivSlicesRunTogether: loops · EquivOfItself: loops.
  DERIVED. THE GIVEN ROWS OF THIS SEAT. 8 by the template 'for every input the law returns true; each argument reads behind the call as it read before'; 0 by the template 'total and deterministic' (their statements: YtkgfmjanajdibaaGreatTotals.lean).
  GIVEN WITH THE SEED: the statements are not yours to turn. If you find one false, say at which input.
  Laid BY PROGRAM, IN A SANDBOX (cutbox-rows.mjs): the forced cells as the released guide's own fill.sh prints them over the translation 55c4cdc0e75fadcd… (all of the seat's roots in one cut). By AI agents, Wed Nov 11 2026. No macro, syntax, notation, axiom, sorry.
-/
import Derived.Test.YtkgfmjanajdibaaGreatChecked
import GoSem.Claim
import GoSem.ClaimJoined
import GoSem.ClaimMapViews
import Derived.JoinedTies
import Derived.KernelRfl
namespace Go.Proofs.YtkgfmjanajdibaaGreat
/- THE CELL 'sum', in the pinned program and in every row, IS THE sha256 OF THE DUMP (.gsa) THAT YtkgfmjanajdibaaGreatProg.lean LOADS. Nothing in Lean hashes anything: it is a label: what it is worth is what the hold of that sum in a sandbox is worth. -/
noncomputable def Tryz.pinned : Pinned := { name := "ytkgfmjanajdibaagreat", sum := "55c4cdc0e75fadcda43726d875d077744fe7987e9fbb70d1810533a59c4c6415", checked := Tryz.checked }
namespace Rows
def none {H : Type} : Left H := { results := [], args := [] }

/-- 'interlacelaw15.EquivMatchesSpec': WHATEVER THE INPUT: true; the input reads as it did. -/
def equivMatchesSpecSpec : ChangeSpec := { name := "equivMatchesSpec", fn := fun _ => fun
  | [d1, d2, d3, d4] => { results := [.lit (.bool true)], args := [d1, d2, d3, d4] }
  | _ => none }
def equivMatchesSpecRow : OpenClaim := { program := "ytkgfmjanajdibaagreat", sum := "55c4cdc0e75fadcda43726d875d077744fe7987e9fbb70d1810533a59c4c6415", func := "interlace/interlacelaw15.EquivMatchesSpec", spec := "equivMatchesSpec", unfollowed := true, recurses := true, loops := true, plainKeys := false, apart := false }
def EquivMatchesSpecSaid : Prop := equivMatchesSpecRow.holds Tryz.pinned (OpenSpec.ofChange equivMatchesSpecSpec)

/-- ITS FALSE NEIGHBOUR: 'it returns false'. Refute it at one input. -/
def equivMatchesSpecWrong : ChangeSpec := { name := "equivMatchesSpec", fn := fun _ => fun
  | [d1, d2, d3, d4] => { results := [.lit (.bool false)], args := [d1, d2, d3, d4] }
  | _ => none }
def EquivMatchesSpecWrongFalsely : Prop := equivMatchesSpecRow.holds Tryz.pinned (OpenSpec.ofChange equivMatchesSpecWrong)

/-- 'interlacelaw15.EquivOfOneMatchesSpec': WHATEVER THE INPUT: true; the input reads as it did. -/
def equivOfOneMatchesSpecSpec : ChangeSpec := { name := "equivOfOneMatchesSpec", fn := fun _ => fun
  | [d1, d2, d3] => { results := [.lit (.bool true)], args := [d1, d2, d3] }
  | _ => none }
def equivOfOneMatchesSpecRow : OpenClaim := { program := "ytkgfmjanajdibaagreat", sum := "55c4cdc0e75fadcda43726d875d077744fe7987e9fbb70d1810533a59c4c6415", func := "interlace/interlacelaw15.EquivOfOneMatchesSpec", spec := "equivOfOneMatchesSpec", unfollowed := true, recurses := true, loops := true, plainKeys := false, apart := false }
def EquivOfOneMatchesSpecSaid : Prop := equivOfOneMatchesSpecRow.holds Tryz.pinned (OpenSpec.ofChange equivOfOneMatchesSpecSpec)

/-- ITS FALSE NEIGHBOUR: 'it returns false'. Refute it at one input. -/
def equivOfOneMatchesSpecWrong : ChangeSpec := { name := "equivOfOneMatchesSpec", fn := fun _ => fun
  | [d1, d2, d3] => { results := [.lit (.bool false)], args := [d1, d2, d3] }
  | _ => none }
def EquivOfOneMatchesSpecWrongFalsely : Prop := equivOfOneMatchesSpecRow.holds Tryz.pinned (OpenSpec.ofChange equivOfOneMatchesSpecWrong)

/-- 'interlacelaw15.EquivOfTwoMatchesSpec': WHATEVER THE INPUT: true; the input reads as it did. -/
def equivOfTwoMatchesSpecSpec : ChangeSpec := { name := "equivOfTwoMatchesSpec", fn := fun _ => fun
  | [d1, d2, d3, d4] => { results := [.lit (.bool true)], args := [d1, d2, d3, d4] }
  | _ => none }
def equivOfTwoMatchesSpecRow : OpenClaim := { program := "ytkgfmjanajdibaagreat", sum := "55c4cdc0e75fadcda43726d875d077744fe7987e9fbb70d1810533a59c4c6415", func := "interlace/interlacelaw15.EquivOfTwoMatchesSpec", spec := "equivOfTwoMatchesSpec", unfollowed := true, recurses := true, loops := true, plainKeys := false, apart := false }
def EquivOfTwoMatchesSpecSaid : Prop := equivOfTwoMatchesSpecRow.holds Tryz.pinned (OpenSpec.ofChange equivOfTwoMatchesSpecSpec)

/-- ITS FALSE NEIGHBOUR: 'it returns false'. Refute it at one input. -/
def equivOfTwoMatchesSpecWrong : ChangeSpec := { name := "equivOfTwoMatchesSpec", fn := fun _ => fun
  | [d1, d2, d3, d4] => { results := [.lit (.bool false)], args := [d1, d2, d3, d4] }
  | _ => none }
def EquivOfTwoMatchesSpecWrongFalsely : Prop := equivOfTwoMatchesSpecRow.holds Tryz.pinned (OpenSpec.ofChange equivOfTwoMatchesSpecWrong)

/-- 'interlacelaw15.EquivAlwaysMatchesSpec': WHATEVER THE INPUT: true; the input reads as it did. -/
def equivAlwaysMatchesSpecSpec : ChangeSpec := { name := "equivAlwaysMatchesSpec", fn := fun _ => fun
  | [d1, d2, d3] => { results := [.lit (.bool true)], args := [d1, d2, d3] }
  | _ => none }
def equivAlwaysMatchesSpecRow : OpenClaim := { program := "ytkgfmjanajdibaagreat", sum := "55c4cdc0e75fadcda43726d875d077744fe7987e9fbb70d1810533a59c4c6415", func := "interlace/interlacelaw15.EquivAlwaysMatchesSpec", spec := "equivAlwaysMatchesSpec", unfollowed := true, recurses := true, loops := true, plainKeys := false, apart := false }
def EquivAlwaysMatchesSpecSaid : Prop := equivAlwaysMatchesSpecRow.holds Tryz.pinned (OpenSpec.ofChange equivAlwaysMatchesSpecSpec)

/-- ITS FALSE NEIGHBOUR: 'it returns false'. Refute it at one input. -/
def equivAlwaysMatchesSpecWrong : ChangeSpec := { name := "equivAlwaysMatchesSpec", fn := fun _ => fun
  | [d1, d2, d3] => { results := [.lit (.bool false)], args := [d1, d2, d3] }
  | _ => none }
def EquivAlwaysMatchesSpecWrongFalsely : Prop := equivAlwaysMatchesSpecRow.holds Tryz.pinned (OpenSpec.ofChange equivAlwaysMatchesSpecWrong)

/-- 'interlacelaw15.EquivWitnesses': WHATEVER THE INPUT: true; the input reads as it did. -/
def equivWitnessesSpec : ChangeSpec := { name := "equivWitnesses", fn := fun _ => fun
  | [d1, d2, d3, d4, d5] => { results := [.lit (.bool true)], args := [d1, d2, d3, d4, d5] }
  | _ => none }
def equivWitnessesRow : OpenClaim := { program := "ytkgfmjanajdibaagreat", sum := "55c4cdc0e75fadcda43726d875d077744fe7987e9fbb70d1810533a59c4c6415", func := "interlace/interlacelaw15.EquivWitnesses", spec := "equivWitnesses", unfollowed := true, recurses := true, loops := true, plainKeys := false, apart := false }
def EquivWitnessesSaid : Prop := equivWitnessesRow.holds Tryz.pinned (OpenSpec.ofChange equivWitnessesSpec)

/-- ITS FALSE NEIGHBOUR: 'it returns false'. Refute it at one input. -/
def equivWitnessesWrong : ChangeSpec := { name := "equivWitnesses", fn := fun _ => fun
  | [d1, d2, d3, d4, d5] => { results := [.lit (.bool false)], args := [d1, d2, d3, d4, d5] }
  | _ => none }
def EquivWitnessesWrongFalsely : Prop := equivWitnessesRow.holds Tryz.pinned (OpenSpec.ofChange equivWitnessesWrong)

/-- 'interlacelaw15.EquivReplaces': WHATEVER THE INPUT: true; the input reads as it did. -/
def equivReplacesSpec : ChangeSpec := { name := "equivReplaces", fn := fun _ => fun
  | [d1, d2, d3, d4, d5] => { results := [.lit (.bool true)], args := [d1, d2, d3, d4, d5] }
  | _ => none }
def equivReplacesRow : OpenClaim := { program := "ytkgfmjanajdibaagreat", sum := "55c4cdc0e75fadcda43726d875d077744fe7987e9fbb70d1810533a59c4c6415", func := "interlace/interlacelaw15.EquivReplaces", spec := "equivReplaces", unfollowed := true, recurses := true, loops := true, plainKeys := false, apart := false }
def EquivReplacesSaid : Prop := equivReplacesRow.holds Tryz.pinned (OpenSpec.ofChange equivReplacesSpec)

/-- ITS FALSE NEIGHBOUR: 'it returns false'. Refute it at one input. -/
def equivReplacesWrong : ChangeSpec := { name := "equivReplaces", fn := fun _ => fun
  | [d1, d2, d3, d4, d5] => { results := [.lit (.bool false)], args := [d1, d2, d3, d4, d5] }
  | _ => none }
def EquivReplacesWrongFalsely : Prop := equivReplacesRow.holds Tryz.pinned (OpenSpec.ofChange equivReplacesWrong)

/-- 'interlacelaw15.EquivSlicesRunTogether': WHATEVER THE INPUT: true; the input reads as it did. -/
def equivSlicesRunTogetherSpec : ChangeSpec := { name := "equivSlicesRunTogether", fn := fun _ => fun
  | [d1, d2, d3, d4, d5] => { results := [.lit (.bool true)], args := [d1, d2, d3, d4, d5] }
  | _ => none }
def equivSlicesRunTogetherRow : OpenClaim := { program := "ytkgfmjanajdibaagreat", sum := "55c4cdc0e75fadcda43726d875d077744fe7987e9fbb70d1810533a59c4c6415", func := "interlace/interlacelaw15.EquivSlicesRunTogether", spec := "equivSlicesRunTogether", unfollowed := true, recurses := true, loops := true, plainKeys := false, apart := false }
def EquivSlicesRunTogetherSaid : Prop := equivSlicesRunTogetherRow.holds Tryz.pinned (OpenSpec.ofChange equivSlicesRunTogetherSpec)

/-- ITS FALSE NEIGHBOUR: 'it returns false'. Refute it at one input. -/
def equivSlicesRunTogetherWrong : ChangeSpec := { name := "equivSlicesRunTogether", fn := fun _ => fun
  | [d1, d2, d3, d4, d5] => { results := [.lit (.bool false)], args := [d1, d2, d3, d4, d5] }
  | _ => none }
def EquivSlicesRunTogetherWrongFalsely : Prop := equivSlicesRunTogetherRow.holds Tryz.pinned (OpenSpec.ofChange equivSlicesRunTogetherWrong)

/-- 'interlacelaw15.EquivOfItself': WHATEVER THE INPUT: true; the input reads as it did. -/
def equivOfItselfSpec : ChangeSpec := { name := "equivOfItself", fn := fun _ => fun
  | [d1, d2, d3, d4] => { results := [.lit (.bool true)], args := [d1, d2, d3, d4] }
  | _ => none }
def equivOfItselfRow : OpenClaim := { program := "ytkgfmjanajdibaagreat", sum := "55c4cdc0e75fadcda43726d875d077744fe7987e9fbb70d1810533a59c4c6415", func := "interlace/interlacelaw15.EquivOfItself", spec := "equivOfItself", unfollowed := true, recurses := true, loops := true, plainKeys := false, apart := false }
def EquivOfItselfSaid : Prop := equivOfItselfRow.holds Tryz.pinned (OpenSpec.ofChange equivOfItselfSpec)

/-- ITS FALSE NEIGHBOUR: 'it returns false'. Refute it at one input. -/
def equivOfItselfWrong : ChangeSpec := { name := "equivOfItself", fn := fun _ => fun
  | [d1, d2, d3, d4] => { results := [.lit (.bool false)], args := [d1, d2, d3, d4] }
  | _ => none }
def EquivOfItselfWrongFalsely : Prop := equivOfItselfRow.holds Tryz.pinned (OpenSpec.ofChange equivOfItselfWrong)

/- THE SECOND FORM. 'bulk': how many values and letters a reading holds, each counted each time it is reached (what is shared counts as often as it is met; a slice's spare places count too). A statement '..UptoSaid' is the law's where the arguments, and the package variables that the reading takes, are together of bulk at most 1048576: NARROWER than '..Said'. Prove '..Said' where nothing that the law and all that it calls make is longer than what came in: it says more and counts as full. Else prove '..UptoSaid'. A law counts once. -/
mutual
def uptoBulk {H : Type} : DataW H → Nat
  | .lit (.string bytes) => bytes.length + 1
  | .lit _ => 1
  | .nil => 1
  | .ptr d => uptoBulk d + 1
  | .slice elems spare => uptoBulkAll elems + uptoBulkAll spare + 1
  | .agg parts => uptoBulkAll parts + 1
  | .iface _ d => uptoBulk d + 1
  | .map entries => uptoBulkEntries entries + 1
  | .held _ => 1
def uptoBulkAll {H : Type} : List (DataW H) → Nat
  | [] => 0
  | d :: r => uptoBulk d + uptoBulkAll r
def uptoBulkEntries {H : Type} : List (Lit × DataW H) → Nat
  | [] => 0
  | x :: r => uptoBulkEntry x + uptoBulkEntries r
def uptoBulkEntry {H : Type} : Lit × DataW H → Nat
  | (.string bytes, d) => bytes.length + uptoBulk d + 1
  | (_, d) => uptoBulk d + 1
 end
def uptoSmall : (H : Type) → List (DataW H) → Bool := fun _ ds => decide (uptoBulkAll ds ≤ 1048576)
def OpenSpec.upto (s : _root_.Go.ChangeSpec) : _root_.Go.OpenSpec := { _root_.Go.OpenSpec.ofChange s with cond := some uptoSmall }

/-- 'interlacelaw15.EquivMatchesSpec', WHERE WHAT IT READS IS OF BULK AT MOST 1048576: true; the input reads as it did. -/
def equivMatchesSpecUptoRow : OpenClaim := { program := "ytkgfmjanajdibaagreat", sum := "55c4cdc0e75fadcda43726d875d077744fe7987e9fbb70d1810533a59c4c6415", func := "interlace/interlacelaw15.EquivMatchesSpec", spec := "equivMatchesSpec", unfollowed := true, recurses := true, loops := true, plainKeys := false, apart := false, narrowed := true }
def EquivMatchesSpecUptoSaid : Prop := equivMatchesSpecUptoRow.holds Tryz.pinned (OpenSpec.upto equivMatchesSpecSpec)

/-- 'interlacelaw15.EquivOfOneMatchesSpec', WHERE WHAT IT READS IS OF BULK AT MOST 1048576: true; the input reads as it did. -/
def equivOfOneMatchesSpecUptoRow : OpenClaim := { program := "ytkgfmjanajdibaagreat", sum := "55c4cdc0e75fadcda43726d875d077744fe7987e9fbb70d1810533a59c4c6415", func := "interlace/interlacelaw15.EquivOfOneMatchesSpec", spec := "equivOfOneMatchesSpec", unfollowed := true, recurses := true, loops := true, plainKeys := false, apart := false, narrowed := true }
def EquivOfOneMatchesSpecUptoSaid : Prop := equivOfOneMatchesSpecUptoRow.holds Tryz.pinned (OpenSpec.upto equivOfOneMatchesSpecSpec)

/-- 'interlacelaw15.EquivOfTwoMatchesSpec', WHERE WHAT IT READS IS OF BULK AT MOST 1048576: true; the input reads as it did. -/
def equivOfTwoMatchesSpecUptoRow : OpenClaim := { program := "ytkgfmjanajdibaagreat", sum := "55c4cdc0e75fadcda43726d875d077744fe7987e9fbb70d1810533a59c4c6415", func := "interlace/interlacelaw15.EquivOfTwoMatchesSpec", spec := "equivOfTwoMatchesSpec", unfollowed := true, recurses := true, loops := true, plainKeys := false, apart := false, narrowed := true }
def EquivOfTwoMatchesSpecUptoSaid : Prop := equivOfTwoMatchesSpecUptoRow.holds Tryz.pinned (OpenSpec.upto equivOfTwoMatchesSpecSpec)

/-- 'interlacelaw15.EquivAlwaysMatchesSpec', WHERE WHAT IT READS IS OF BULK AT MOST 1048576: true; the input reads as it did. -/
def equivAlwaysMatchesSpecUptoRow : OpenClaim := { program := "ytkgfmjanajdibaagreat", sum := "55c4cdc0e75fadcda43726d875d077744fe7987e9fbb70d1810533a59c4c6415", func := "interlace/interlacelaw15.EquivAlwaysMatchesSpec", spec := "equivAlwaysMatchesSpec", unfollowed := true, recurses := true, loops := true, plainKeys := false, apart := false, narrowed := true }
def EquivAlwaysMatchesSpecUptoSaid : Prop := equivAlwaysMatchesSpecUptoRow.holds Tryz.pinned (OpenSpec.upto equivAlwaysMatchesSpecSpec)

/-- 'interlacelaw15.EquivWitnesses', WHERE WHAT IT READS IS OF BULK AT MOST 1048576: true; the input reads as it did. -/
def equivWitnessesUptoRow : OpenClaim := { program := "ytkgfmjanajdibaagreat", sum := "55c4cdc0e75fadcda43726d875d077744fe7987e9fbb70d1810533a59c4c6415", func := "interlace/interlacelaw15.EquivWitnesses", spec := "equivWitnesses", unfollowed := true, recurses := true, loops := true, plainKeys := false, apart := false, narrowed := true }
def EquivWitnessesUptoSaid : Prop := equivWitnessesUptoRow.holds Tryz.pinned (OpenSpec.upto equivWitnessesSpec)

/-- 'interlacelaw15.EquivReplaces', WHERE WHAT IT READS IS OF BULK AT MOST 1048576: true; the input reads as it did. -/
def equivReplacesUptoRow : OpenClaim := { program := "ytkgfmjanajdibaagreat", sum := "55c4cdc0e75fadcda43726d875d077744fe7987e9fbb70d1810533a59c4c6415", func := "interlace/interlacelaw15.EquivReplaces", spec := "equivReplaces", unfollowed := true, recurses := true, loops := true, plainKeys := false, apart := false, narrowed := true }
def EquivReplacesUptoSaid : Prop := equivReplacesUptoRow.holds Tryz.pinned (OpenSpec.upto equivReplacesSpec)

/-- 'interlacelaw15.EquivSlicesRunTogether', WHERE WHAT IT READS IS OF BULK AT MOST 1048576: true; the input reads as it did. -/
def equivSlicesRunTogetherUptoRow : OpenClaim := { program := "ytkgfmjanajdibaagreat", sum := "55c4cdc0e75fadcda43726d875d077744fe7987e9fbb70d1810533a59c4c6415", func := "interlace/interlacelaw15.EquivSlicesRunTogether", spec := "equivSlicesRunTogether", unfollowed := true, recurses := true, loops := true, plainKeys := false, apart := false, narrowed := true }
def EquivSlicesRunTogetherUptoSaid : Prop := equivSlicesRunTogetherUptoRow.holds Tryz.pinned (OpenSpec.upto equivSlicesRunTogetherSpec)

/-- 'interlacelaw15.EquivOfItself', WHERE WHAT IT READS IS OF BULK AT MOST 1048576: true; the input reads as it did. -/
def equivOfItselfUptoRow : OpenClaim := { program := "ytkgfmjanajdibaagreat", sum := "55c4cdc0e75fadcda43726d875d077744fe7987e9fbb70d1810533a59c4c6415", func := "interlace/interlacelaw15.EquivOfItself", spec := "equivOfItself", unfollowed := true, recurses := true, loops := true, plainKeys := false, apart := false, narrowed := true }
def EquivOfItselfUptoSaid : Prop := equivOfItselfUptoRow.holds Tryz.pinned (OpenSpec.upto equivOfItselfSpec)

end Rows
end Go.Proofs.YtkgfmjanajdibaaGreat
