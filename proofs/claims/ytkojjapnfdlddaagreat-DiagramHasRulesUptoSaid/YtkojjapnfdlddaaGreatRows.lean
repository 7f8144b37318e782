/-
  NARROWER THAN 'FOR EVERY INPUT', by the rows' own cells (each row's printed sentence says how): DiagramIsCanonical: loops · DiagramHasRules: loops · DiagramIsAnAlgebra: loops · DiagramTests: loops · DiagramHasRoom: loops · DiagramInducts: loops · DiagramEvaluates: loops.
  DERIVED. THE GIVEN ROWS OF THIS SEAT. 7 by the template 'for every input the law returns true; each argument reads behind the call as it read before'; 0 by the template 'total and deterministic' (their statements: YtkojjapnfdlddaaGreatTotals.lean).
  GIVEN WITH THE SEED: the statements are not yours to turn. If you find one false, say at which input.
  Laid BY PROGRAM, IN A SANDBOX (cutbox-rows.mjs): the forced cells as the released guide's own fill.sh prints them over the translation 50b5cafdb3b316e7… (all of the seat's roots in one cut). By AI agents, Wed Nov 11 2026. No macro, syntax, notation, axiom, sorry.
-/
import Derived.Test.YtkojjapnfdlddaaGreatChecked
import GoSem.Claim
import GoSem.ClaimJoined
import GoSem.ClaimMapViews
import Derived.JoinedTies
import Derived.KernelRfl
namespace Go.Proofs.YtkojjapnfdlddaaGreat
/- THE CELL 'sum', in the pinned program and in every row, IS THE sha256 OF THE DUMP (.gsa) THAT YtkojjapnfdlddaaGreatProg.lean LOADS. Nothing in Lean hashes anything: it is a label: what it is worth is what the hold of that sum in a sandbox is worth. -/
noncomputable def Tryz.pinned : Pinned := { name := "ytkojjapnfdlddaagreat", sum := "50b5cafdb3b316e7a0b57d789c2ec5c36909a19cc1bf7fd62b410ddf754fdf9c", checked := Tryz.checked }
namespace Rows
def none {H : Type} : Left H := { results := [], args := [] }

/-- 'interlacelaw14.DiagramIsCanonical': WHATEVER THE INPUT: true; the input reads as it did. -/
def diagramIsCanonicalSpec : ChangeSpec := { name := "diagramIsCanonical", fn := fun _ => fun
  | [d1, d2, d3, d4, d5] => { results := [.lit (.bool true)], args := [d1, d2, d3, d4, d5] }
  | _ => none }
def diagramIsCanonicalRow : OpenClaim := { program := "ytkojjapnfdlddaagreat", sum := "50b5cafdb3b316e7a0b57d789c2ec5c36909a19cc1bf7fd62b410ddf754fdf9c", func := "interlace/interlacelaw14.DiagramIsCanonical", spec := "diagramIsCanonical", unfollowed := true, recurses := true, loops := true, plainKeys := false, apart := false }
def DiagramIsCanonicalSaid : Prop := diagramIsCanonicalRow.holds Tryz.pinned (OpenSpec.ofChange diagramIsCanonicalSpec)

/-- ITS FALSE NEIGHBOUR: 'it returns false'. Refute it at one input. -/
def diagramIsCanonicalWrong : ChangeSpec := { name := "diagramIsCanonical", fn := fun _ => fun
  | [d1, d2, d3, d4, d5] => { results := [.lit (.bool false)], args := [d1, d2, d3, d4, d5] }
  | _ => none }
def DiagramIsCanonicalWrongFalsely : Prop := diagramIsCanonicalRow.holds Tryz.pinned (OpenSpec.ofChange diagramIsCanonicalWrong)

/-- 'interlacelaw14.DiagramHasRules': WHATEVER THE INPUT: true; the input reads as it did. -/
def diagramHasRulesSpec : ChangeSpec := { name := "diagramHasRules", fn := fun _ => fun
  | [d1, d2, d3, d4] => { results := [.lit (.bool true)], args := [d1, d2, d3, d4] }
  | _ => none }
def diagramHasRulesRow : OpenClaim := { program := "ytkojjapnfdlddaagreat", sum := "50b5cafdb3b316e7a0b57d789c2ec5c36909a19cc1bf7fd62b410ddf754fdf9c", func := "interlace/interlacelaw14.DiagramHasRules", spec := "diagramHasRules", unfollowed := true, recurses := true, loops := true, plainKeys := false, apart := false }
def DiagramHasRulesSaid : Prop := diagramHasRulesRow.holds Tryz.pinned (OpenSpec.ofChange diagramHasRulesSpec)

/-- ITS FALSE NEIGHBOUR: 'it returns false'. Refute it at one input. -/
def diagramHasRulesWrong : ChangeSpec := { name := "diagramHasRules", fn := fun _ => fun
  | [d1, d2, d3, d4] => { results := [.lit (.bool false)], args := [d1, d2, d3, d4] }
  | _ => none }
def DiagramHasRulesWrongFalsely : Prop := diagramHasRulesRow.holds Tryz.pinned (OpenSpec.ofChange diagramHasRulesWrong)

/-- 'interlacelaw14.DiagramIsAnAlgebra': WHATEVER THE INPUT: true; the input reads as it did. -/
def diagramIsAnAlgebraSpec : ChangeSpec := { name := "diagramIsAnAlgebra", fn := fun _ => fun
  | [d1, d2, d3, d4, d5] => { results := [.lit (.bool true)], args := [d1, d2, d3, d4, d5] }
  | _ => none }
def diagramIsAnAlgebraRow : OpenClaim := { program := "ytkojjapnfdlddaagreat", sum := "50b5cafdb3b316e7a0b57d789c2ec5c36909a19cc1bf7fd62b410ddf754fdf9c", func := "interlace/interlacelaw14.DiagramIsAnAlgebra", spec := "diagramIsAnAlgebra", unfollowed := true, recurses := true, loops := true, plainKeys := false, apart := false }
def DiagramIsAnAlgebraSaid : Prop := diagramIsAnAlgebraRow.holds Tryz.pinned (OpenSpec.ofChange diagramIsAnAlgebraSpec)

/-- ITS FALSE NEIGHBOUR: 'it returns false'. Refute it at one input. -/
def diagramIsAnAlgebraWrong : ChangeSpec := { name := "diagramIsAnAlgebra", fn := fun _ => fun
  | [d1, d2, d3, d4, d5] => { results := [.lit (.bool false)], args := [d1, d2, d3, d4, d5] }
  | _ => none }
def DiagramIsAnAlgebraWrongFalsely : Prop := diagramIsAnAlgebraRow.holds Tryz.pinned (OpenSpec.ofChange diagramIsAnAlgebraWrong)

/-- 'interlacelaw14.DiagramTests': WHATEVER THE INPUT: true; the input reads as it did. -/
def diagramTestsSpec : ChangeSpec := { name := "diagramTests", fn := fun _ => fun
  | [d1, d2, d3, d4, d5, d6, d7] => { results := [.lit (.bool true)], args := [d1, d2, d3, d4, d5, d6, d7] }
  | _ => none }
def diagramTestsRow : OpenClaim := { program := "ytkojjapnfdlddaagreat", sum := "50b5cafdb3b316e7a0b57d789c2ec5c36909a19cc1bf7fd62b410ddf754fdf9c", func := "interlace/interlacelaw14.DiagramTests", spec := "diagramTests", unfollowed := true, recurses := true, loops := true, plainKeys := false, apart := false }
def DiagramTestsSaid : Prop := diagramTestsRow.holds Tryz.pinned (OpenSpec.ofChange diagramTestsSpec)

/-- ITS FALSE NEIGHBOUR: 'it returns false'. Refute it at one input. -/
def diagramTestsWrong : ChangeSpec := { name := "diagramTests", fn := fun _ => fun
  | [d1, d2, d3, d4, d5, d6, d7] => { results := [.lit (.bool false)], args := [d1, d2, d3, d4, d5, d6, d7] }
  | _ => none }
def DiagramTestsWrongFalsely : Prop := diagramTestsRow.holds Tryz.pinned (OpenSpec.ofChange diagramTestsWrong)

/-- 'interlacelaw14.DiagramHasRoom': WHATEVER THE INPUT: true; the input reads as it did. -/
def diagramHasRoomSpec : ChangeSpec := { name := "diagramHasRoom", fn := fun _ => fun
  | [d1, d2, d3, d4, d5] => { results := [.lit (.bool true)], args := [d1, d2, d3, d4, d5] }
  | _ => none }
def diagramHasRoomRow : OpenClaim := { program := "ytkojjapnfdlddaagreat", sum := "50b5cafdb3b316e7a0b57d789c2ec5c36909a19cc1bf7fd62b410ddf754fdf9c", func := "interlace/interlacelaw14.DiagramHasRoom", spec := "diagramHasRoom", unfollowed := true, recurses := true, loops := true, plainKeys := false, apart := false }
def DiagramHasRoomSaid : Prop := diagramHasRoomRow.holds Tryz.pinned (OpenSpec.ofChange diagramHasRoomSpec)

/-- ITS FALSE NEIGHBOUR: 'it returns false'. Refute it at one input. -/
def diagramHasRoomWrong : ChangeSpec := { name := "diagramHasRoom", fn := fun _ => fun
  | [d1, d2, d3, d4, d5] => { results := [.lit (.bool false)], args := [d1, d2, d3, d4, d5] }
  | _ => none }
def DiagramHasRoomWrongFalsely : Prop := diagramHasRoomRow.holds Tryz.pinned (OpenSpec.ofChange diagramHasRoomWrong)

/-- 'interlacelaw14.DiagramInducts': WHATEVER THE INPUT: true; the input reads as it did. -/
def diagramInductsSpec : ChangeSpec := { name := "diagramInducts", fn := fun _ => fun
  | [d1, d2, d3, d4] => { results := [.lit (.bool true)], args := [d1, d2, d3, d4] }
  | _ => none }
def diagramInductsRow : OpenClaim := { program := "ytkojjapnfdlddaagreat", sum := "50b5cafdb3b316e7a0b57d789c2ec5c36909a19cc1bf7fd62b410ddf754fdf9c", func := "interlace/interlacelaw14.DiagramInducts", spec := "diagramInducts", unfollowed := true, recurses := true, loops := true, plainKeys := false, apart := false }
def DiagramInductsSaid : Prop := diagramInductsRow.holds Tryz.pinned (OpenSpec.ofChange diagramInductsSpec)

/-- ITS FALSE NEIGHBOUR: 'it returns false'. Refute it at one input. -/
def diagramInductsWrong : ChangeSpec := { name := "diagramInducts", fn := fun _ => fun
  | [d1, d2, d3, d4] => { results := [.lit (.bool false)], args := [d1, d2, d3, d4] }
  | _ => none }
def DiagramInductsWrongFalsely : Prop := diagramInductsRow.holds Tryz.pinned (OpenSpec.ofChange diagramInductsWrong)

/-- 'interlacelaw14.DiagramEvaluates': WHATEVER THE INPUT: true; the input reads as it did. -/
def diagramEvaluatesSpec : ChangeSpec := { name := "diagramEvaluates", fn := fun _ => fun
  | [d1, d2, d3, d4] => { results := [.lit (.bool true)], args := [d1, d2, d3, d4] }
  | _ => none }
def diagramEvaluatesRow : OpenClaim := { program := "ytkojjapnfdlddaagreat", sum := "50b5cafdb3b316e7a0b57d789c2ec5c36909a19cc1bf7fd62b410ddf754fdf9c", func := "interlace/interlacelaw14.DiagramEvaluates", spec := "diagramEvaluates", unfollowed := true, recurses := true, loops := true, plainKeys := false, apart := false }
def DiagramEvaluatesSaid : Prop := diagramEvaluatesRow.holds Tryz.pinned (OpenSpec.ofChange diagramEvaluatesSpec)

/-- ITS FALSE NEIGHBOUR: 'it returns false'. Refute it at one input. -/
def diagramEvaluatesWrong : ChangeSpec := { name := "diagramEvaluates", fn := fun _ => fun
  | [d1, d2, d3, d4] => { results := [.lit (.bool false)], args := [d1, d2, d3, d4] }
  | _ => none }
def DiagramEvaluatesWrongFalsely : Prop := diagramEvaluatesRow.holds Tryz.pinned (OpenSpec.ofChange diagramEvaluatesWrong)

/- THE SECOND FORM. 'bulk': how many values and letters a reading holds, each counted each time it is reached (what is shared counts as often as it is met; a slice's spare places count too). A statement '..UptoSaid' is the law's where the arguments, and the package variables that the reading takes, are together of bulk at most 1048576: NARROWER than '..Said'. Prove '..Said' where nothing that the law and all that it calls make is longer than what came in: it says more and counts as full. Else prove '..UptoSaid'. A law counts once. -/
mutual
def uptoBulk {H : Type} : DataW H → Nat
  | .lit (.string bytes) => bytes.length + 1
  | .lit _ => 1
  | .nil => 1
  | .ptr d => uptoBulk d + 1
  | .slice elems spare => uptoBulkAll elems + uptoBulkAll spare + 1
  | .agg parts => uptoBulkAll parts + 1
  | .iface _ d => uptoBulk d + 1
  | .map entries => uptoBulkEntries entries + 1
  | .held _ => 1
def uptoBulkAll {H : Type} : List (DataW H) → Nat
  | [] => 0
  | d :: r => uptoBulk d + uptoBulkAll r
def uptoBulkEntries {H : Type} : List (Lit × DataW H) → Nat
  | [] => 0
  | x :: r => uptoBulkEntry x + uptoBulkEntries r
def uptoBulkEntry {H : Type} : Lit × DataW H → Nat
  | (.string bytes, d) => bytes.length + uptoBulk d + 1
  | (_, d) => uptoBulk d + 1
 end
def uptoSmall : (H : Type) → List (DataW H) → Bool := fun _ ds => decide (uptoBulkAll ds ≤ 1048576)
def OpenSpec.upto (s : _root_.Go.ChangeSpec) : _root_.Go.OpenSpec := { _root_.Go.OpenSpec.ofChange s with cond := some uptoSmall }

/-- 'interlacelaw14.DiagramIsCanonical', WHERE WHAT IT READS IS OF BULK AT MOST 1048576: true; the input reads as it did. -/
def diagramIsCanonicalUptoRow : OpenClaim := { program := "ytkojjapnfdlddaagreat", sum := "50b5cafdb3b316e7a0b57d789c2ec5c36909a19cc1bf7fd62b410ddf754fdf9c", func := "interlace/interlacelaw14.DiagramIsCanonical", spec := "diagramIsCanonical", unfollowed := true, recurses := true, loops := true, plainKeys := false, apart := false, narrowed := true }
def DiagramIsCanonicalUptoSaid : Prop := diagramIsCanonicalUptoRow.holds Tryz.pinned (OpenSpec.upto diagramIsCanonicalSpec)

/-- 'interlacelaw14.DiagramHasRules', WHERE WHAT IT READS IS OF BULK AT MOST 1048576: true; the input reads as it did. -/
def diagramHasRulesUptoRow : OpenClaim := { program := "ytkojjapnfdlddaagreat", sum := "50b5cafdb3b316e7a0b57d789c2ec5c36909a19cc1bf7fd62b410ddf754fdf9c", func := "interlace/interlacelaw14.DiagramHasRules", spec := "diagramHasRules", unfollowed := true, recurses := true, loops := true, plainKeys := false, apart := false, narrowed := true }
def DiagramHasRulesUptoSaid : Prop := diagramHasRulesUptoRow.holds Tryz.pinned (OpenSpec.upto diagramHasRulesSpec)

/-- 'interlacelaw14.DiagramIsAnAlgebra', WHERE WHAT IT READS IS OF BULK AT MOST 1048576: true; the input reads as it did. -/
def diagramIsAnAlgebraUptoRow : OpenClaim := { program := "ytkojjapnfdlddaagreat", sum := "50b5cafdb3b316e7a0b57d789c2ec5c36909a19cc1bf7fd62b410ddf754fdf9c", func := "interlace/interlacelaw14.DiagramIsAnAlgebra", spec := "diagramIsAnAlgebra", unfollowed := true, recurses := true, loops := true, plainKeys := false, apart := false, narrowed := true }
def DiagramIsAnAlgebraUptoSaid : Prop := diagramIsAnAlgebraUptoRow.holds Tryz.pinned (OpenSpec.upto diagramIsAnAlgebraSpec)

/-- 'interlacelaw14.DiagramTests', WHERE WHAT IT READS IS OF BULK AT MOST 1048576: true; the input reads as it did. -/
def diagramTestsUptoRow : OpenClaim := { program := "ytkojjapnfdlddaagreat", sum := "50b5cafdb3b316e7a0b57d789c2ec5c36909a19cc1bf7fd62b410ddf754fdf9c", func := "interlace/interlacelaw14.DiagramTests", spec := "diagramTests", unfollowed := true, recurses := true, loops := true, plainKeys := false, apart := false, narrowed := true }
def DiagramTestsUptoSaid : Prop := diagramTestsUptoRow.holds Tryz.pinned (OpenSpec.upto diagramTestsSpec)

/-- 'interlacelaw14.DiagramHasRoom', WHERE WHAT IT READS IS OF BULK AT MOST 1048576: true; the input reads as it did. -/
def diagramHasRoomUptoRow : OpenClaim := { program := "ytkojjapnfdlddaagreat", sum := "50b5cafdb3b316e7a0b57d789c2ec5c36909a19cc1bf7fd62b410ddf754fdf9c", func := "interlace/interlacelaw14.DiagramHasRoom", spec := "diagramHasRoom", unfollowed := true, recurses := true, loops := true, plainKeys := false, apart := false, narrowed := true }
def DiagramHasRoomUptoSaid : Prop := diagramHasRoomUptoRow.holds Tryz.pinned (OpenSpec.upto diagramHasRoomSpec)

/-- 'interlacelaw14.DiagramInducts', WHERE WHAT IT READS IS OF BULK AT MOST 1048576: true; the input reads as it did. -/
def diagramInductsUptoRow : OpenClaim := { program := "ytkojjapnfdlddaagreat", sum := "50b5cafdb3b316e7a0b57d789c2ec5c36909a19cc1bf7fd62b410ddf754fdf9c", func := "interlace/interlacelaw14.DiagramInducts", spec := "diagramInducts", unfollowed := true, recurses := true, loops := true, plainKeys := false, apart := false, narrowed := true }
def DiagramInductsUptoSaid : Prop := diagramInductsUptoRow.holds Tryz.pinned (OpenSpec.upto diagramInductsSpec)

/-- 'interlacelaw14.DiagramEvaluates', WHERE WHAT IT READS IS OF BULK AT MOST 1048576: true; the input reads as it did. -/
def diagramEvaluatesUptoRow : OpenClaim := { program := "ytkojjapnfdlddaagreat", sum := "50b5cafdb3b316e7a0b57d789c2ec5c36909a19cc1bf7fd62b410ddf754fdf9c", func := "interlace/interlacelaw14.DiagramEvaluates", spec := "diagramEvaluates", unfollowed := true, recurses := true, loops := true, plainKeys := false, apart := false, narrowed := true }
def DiagramEvaluatesUptoSaid : Prop := diagramEvaluatesUptoRow.holds Tryz.pinned (OpenSpec.upto diagramEvaluatesSpec)

end Rows
end Go.Proofs.YtkojjapnfdlddaaGreat
