/-
  No cell of these rows narrows 'for every input' (looked for: loops, veiled, ifaces, maps, wideKeys, modest, calm, conditions, laid).
  DERIVED. THE GIVEN ROWS OF THIS SEAT. 6 by the template 'for every input the law returns true; each argument reads behind the call as it read before'; 0 by the template 'total and deterministic' (their statements: YtljadjoljhanfaaTotals.lean).
  GIVEN WITH THE SEED: the statements are not yours to turn. If you find one false, say at which input.
  Laid BY PROGRAM, IN A SANDBOX (cutbox-rows.mjs): the forced cells as the released guide's own fill.sh prints them over the translation b0de23564f793ffe… (all of the seat's roots in one cut). By AI agents, Wed Nov 11 2026. No macro, syntax, notation, axiom, sorry.
-/
import Derived.Test.YtljadjoljhanfaaChecked
import GoSem.Claim
import GoSem.ClaimJoined
import GoSem.ClaimMapViews
import Derived.JoinedTies
import Derived.KernelRfl
namespace Go.Proofs.Ytljadjoljhanfaa
/- THE CELL 'sum', in the pinned program and in every row, IS THE sha256 OF THE DUMP (.gsa) THAT YtljadjoljhanfaaProg.lean LOADS. Nothing in Lean hashes anything: it is a label: what it is worth is what the hold of that sum in a sandbox is worth. -/
noncomputable def Try.pinned : Pinned := { name := "ytljadjoljhanfaa", sum := "b0de23564f793ffe0a853b677c0c9d75d8e85d32a32ac93baef16e06e673fb4b", checked := Try.checked }
namespace Rows
def none {H : Type} : Left H := { results := [], args := [] }

/-- 'shawmlaw16.ShapeScales': WHATEVER THE INPUT: true; the input reads as it did. -/
def shapeScalesSpec : ChangeSpec := { name := "shapeScales", fn := fun _ => fun
  | [d1, d2] => { results := [.lit (.bool true)], args := [d1, d2] }
  | _ => none }
def shapeScalesRow : OpenClaim := { program := "ytljadjoljhanfaa", sum := "b0de23564f793ffe0a853b677c0c9d75d8e85d32a32ac93baef16e06e673fb4b", func := "shawm/shawmlaw16.ShapeScales", spec := "shapeScales", unfollowed := true, recurses := true, plainKeys := false, apart := false }
def ShapeScalesSaid : Prop := shapeScalesRow.holds Try.pinned (OpenSpec.ofChange shapeScalesSpec)

/-- ITS FALSE NEIGHBOUR: 'it returns false'. Refute it at one input. -/
def shapeScalesWrong : ChangeSpec := { name := "shapeScales", fn := fun _ => fun
  | [d1, d2] => { results := [.lit (.bool false)], args := [d1, d2] }
  | _ => none }
def ShapeScalesWrongFalsely : Prop := shapeScalesRow.holds Try.pinned (OpenSpec.ofChange shapeScalesWrong)

/-- 'shawmlaw16.ShapeQuantizes': WHATEVER THE INPUT: true; the input reads as it did. -/
def shapeQuantizesSpec : ChangeSpec := { name := "shapeQuantizes", fn := fun _ => fun
  | [d1, d2, d3] => { results := [.lit (.bool true)], args := [d1, d2, d3] }
  | _ => none }
def shapeQuantizesRow : OpenClaim := { program := "ytljadjoljhanfaa", sum := "b0de23564f793ffe0a853b677c0c9d75d8e85d32a32ac93baef16e06e673fb4b", func := "shawm/shawmlaw16.ShapeQuantizes", spec := "shapeQuantizes", unfollowed := true, recurses := true, plainKeys := false, apart := false }
def ShapeQuantizesSaid : Prop := shapeQuantizesRow.holds Try.pinned (OpenSpec.ofChange shapeQuantizesSpec)

/-- ITS FALSE NEIGHBOUR: 'it returns false'. Refute it at one input. -/
def shapeQuantizesWrong : ChangeSpec := { name := "shapeQuantizes", fn := fun _ => fun
  | [d1, d2, d3] => { results := [.lit (.bool false)], args := [d1, d2, d3] }
  | _ => none }
def ShapeQuantizesWrongFalsely : Prop := shapeQuantizesRow.holds Try.pinned (OpenSpec.ofChange shapeQuantizesWrong)

/-- 'shawmlaw16.ShapeOvers': WHATEVER THE INPUT: true; the input reads as it did. -/
def shapeOversSpec : ChangeSpec := { name := "shapeOvers", fn := fun _ => fun
  | [d1, d2, d3] => { results := [.lit (.bool true)], args := [d1, d2, d3] }
  | _ => none }
def shapeOversRow : OpenClaim := { program := "ytljadjoljhanfaa", sum := "b0de23564f793ffe0a853b677c0c9d75d8e85d32a32ac93baef16e06e673fb4b", func := "shawm/shawmlaw16.ShapeOvers", spec := "shapeOvers", unfollowed := true, recurses := true, plainKeys := false, apart := false }
def ShapeOversSaid : Prop := shapeOversRow.holds Try.pinned (OpenSpec.ofChange shapeOversSpec)

/-- ITS FALSE NEIGHBOUR: 'it returns false'. Refute it at one input. -/
def shapeOversWrong : ChangeSpec := { name := "shapeOvers", fn := fun _ => fun
  | [d1, d2, d3] => { results := [.lit (.bool false)], args := [d1, d2, d3] }
  | _ => none }
def ShapeOversWrongFalsely : Prop := shapeOversRow.holds Try.pinned (OpenSpec.ofChange shapeOversWrong)

/-- 'shawmlaw16.ShapeCoarsens': WHATEVER THE INPUT: true; the input reads as it did. -/
def shapeCoarsensSpec : ChangeSpec := { name := "shapeCoarsens", fn := fun _ => fun
  | [d1, d2, d3] => { results := [.lit (.bool true)], args := [d1, d2, d3] }
  | _ => none }
def shapeCoarsensRow : OpenClaim := { program := "ytljadjoljhanfaa", sum := "b0de23564f793ffe0a853b677c0c9d75d8e85d32a32ac93baef16e06e673fb4b", func := "shawm/shawmlaw16.ShapeCoarsens", spec := "shapeCoarsens", unfollowed := true, recurses := true, plainKeys := false, apart := false }
def ShapeCoarsensSaid : Prop := shapeCoarsensRow.holds Try.pinned (OpenSpec.ofChange shapeCoarsensSpec)

/-- ITS FALSE NEIGHBOUR: 'it returns false'. Refute it at one input. -/
def shapeCoarsensWrong : ChangeSpec := { name := "shapeCoarsens", fn := fun _ => fun
  | [d1, d2, d3] => { results := [.lit (.bool false)], args := [d1, d2, d3] }
  | _ => none }
def ShapeCoarsensWrongFalsely : Prop := shapeCoarsensRow.holds Try.pinned (OpenSpec.ofChange shapeCoarsensWrong)

/-- 'shawmlaw16.ShapeWithin': WHATEVER THE INPUT: true; the input reads as it did. -/
def shapeWithinSpec : ChangeSpec := { name := "shapeWithin", fn := fun _ => fun
  | [d1, d2, d3] => { results := [.lit (.bool true)], args := [d1, d2, d3] }
  | _ => none }
def shapeWithinRow : OpenClaim := { program := "ytljadjoljhanfaa", sum := "b0de23564f793ffe0a853b677c0c9d75d8e85d32a32ac93baef16e06e673fb4b", func := "shawm/shawmlaw16.ShapeWithin", spec := "shapeWithin", unfollowed := true, recurses := true, plainKeys := false, apart := false }
def ShapeWithinSaid : Prop := shapeWithinRow.holds Try.pinned (OpenSpec.ofChange shapeWithinSpec)

/-- ITS FALSE NEIGHBOUR: 'it returns false'. Refute it at one input. -/
def shapeWithinWrong : ChangeSpec := { name := "shapeWithin", fn := fun _ => fun
  | [d1, d2, d3] => { results := [.lit (.bool false)], args := [d1, d2, d3] }
  | _ => none }
def ShapeWithinWrongFalsely : Prop := shapeWithinRow.holds Try.pinned (OpenSpec.ofChange shapeWithinWrong)

/-- 'shawmlaw16.ShapeFits': WHATEVER THE INPUT: true; the input reads as it did. -/
def shapeFitsSpec : ChangeSpec := { name := "shapeFits", fn := fun _ => fun
  | [d1, d2, d3] => { results := [.lit (.bool true)], args := [d1, d2, d3] }
  | _ => none }
def shapeFitsRow : OpenClaim := { program := "ytljadjoljhanfaa", sum := "b0de23564f793ffe0a853b677c0c9d75d8e85d32a32ac93baef16e06e673fb4b", func := "shawm/shawmlaw16.ShapeFits", spec := "shapeFits", unfollowed := true, recurses := true, plainKeys := false, apart := false }
def ShapeFitsSaid : Prop := shapeFitsRow.holds Try.pinned (OpenSpec.ofChange shapeFitsSpec)

/-- ITS FALSE NEIGHBOUR: 'it returns false'. Refute it at one input. -/
def shapeFitsWrong : ChangeSpec := { name := "shapeFits", fn := fun _ => fun
  | [d1, d2, d3] => { results := [.lit (.bool false)], args := [d1, d2, d3] }
  | _ => none }
def ShapeFitsWrongFalsely : Prop := shapeFitsRow.holds Try.pinned (OpenSpec.ofChange shapeFitsWrong)

/- THE SECOND FORM. 'bulk': how many values and letters a reading holds, each counted each time it is reached (what is shared counts as often as it is met; a slice's spare places count too). A statement '..UptoSaid' is the law's where the arguments, and the package variables that the reading takes, are together of bulk at most 1048576: NARROWER than '..Said'. Prove '..Said' where nothing that the law and all that it calls make is longer than what came in: it says more and counts as full. Else prove '..UptoSaid'. A law counts once. -/
mutual
def uptoBulk {H : Type} : DataW H → Nat
  | .lit (.string bytes) => bytes.length + 1
  | .lit _ => 1
  | .nil => 1
  | .ptr d => uptoBulk d + 1
  | .slice elems spare => uptoBulkAll elems + uptoBulkAll spare + 1
  | .agg parts => uptoBulkAll parts + 1
  | .iface _ d => uptoBulk d + 1
  | .map entries => uptoBulkEntries entries + 1
  | .held _ => 1
def uptoBulkAll {H : Type} : List (DataW H) → Nat
  | [] => 0
  | d :: r => uptoBulk d + uptoBulkAll r
def uptoBulkEntries {H : Type} : List (Lit × DataW H) → Nat
  | [] => 0
  | x :: r => uptoBulkEntry x + uptoBulkEntries r
def uptoBulkEntry {H : Type} : Lit × DataW H → Nat
  | (.string bytes, d) => bytes.length + uptoBulk d + 1
  | (_, d) => uptoBulk d + 1
 end
def uptoSmall : (H : Type) → List (DataW H) → Bool := fun _ ds => decide (uptoBulkAll ds ≤ 1048576)
def OpenSpec.upto (s : _root_.Go.ChangeSpec) : _root_.Go.OpenSpec := { _root_.Go.OpenSpec.ofChange s with cond := some uptoSmall }

/-- 'shawmlaw16.ShapeScales', WHERE WHAT IT READS IS OF BULK AT MOST 1048576: true; the input reads as it did. -/
def shapeScalesUptoRow : OpenClaim := { program := "ytljadjoljhanfaa", sum := "b0de23564f793ffe0a853b677c0c9d75d8e85d32a32ac93baef16e06e673fb4b", func := "shawm/shawmlaw16.ShapeScales", spec := "shapeScales", unfollowed := true, recurses := true, plainKeys := false, apart := false, narrowed := true }
def ShapeScalesUptoSaid : Prop := shapeScalesUptoRow.holds Try.pinned (OpenSpec.upto shapeScalesSpec)

/-- 'shawmlaw16.ShapeQuantizes', WHERE WHAT IT READS IS OF BULK AT MOST 1048576: true; the input reads as it did. -/
def shapeQuantizesUptoRow : OpenClaim := { program := "ytljadjoljhanfaa", sum := "b0de23564f793ffe0a853b677c0c9d75d8e85d32a32ac93baef16e06e673fb4b", func := "shawm/shawmlaw16.ShapeQuantizes", spec := "shapeQuantizes", unfollowed := true, recurses := true, plainKeys := false, apart := false, narrowed := true }
def ShapeQuantizesUptoSaid : Prop := shapeQuantizesUptoRow.holds Try.pinned (OpenSpec.upto shapeQuantizesSpec)

/-- 'shawmlaw16.ShapeOvers', WHERE WHAT IT READS IS OF BULK AT MOST 1048576: true; the input reads as it did. -/
def shapeOversUptoRow : OpenClaim := { program := "ytljadjoljhanfaa", sum := "b0de23564f793ffe0a853b677c0c9d75d8e85d32a32ac93baef16e06e673fb4b", func := "shawm/shawmlaw16.ShapeOvers", spec := "shapeOvers", unfollowed := true, recurses := true, plainKeys := false, apart := false, narrowed := true }
def ShapeOversUptoSaid : Prop := shapeOversUptoRow.holds Try.pinned (OpenSpec.upto shapeOversSpec)

/-- 'shawmlaw16.ShapeCoarsens', WHERE WHAT IT READS IS OF BULK AT MOST 1048576: true; the input reads as it did. -/
def shapeCoarsensUptoRow : OpenClaim := { program := "ytljadjoljhanfaa", sum := "b0de23564f793ffe0a853b677c0c9d75d8e85d32a32ac93baef16e06e673fb4b", func := "shawm/shawmlaw16.ShapeCoarsens", spec := "shapeCoarsens", unfollowed := true, recurses := true, plainKeys := false, apart := false, narrowed := true }
def ShapeCoarsensUptoSaid : Prop := shapeCoarsensUptoRow.holds Try.pinned (OpenSpec.upto shapeCoarsensSpec)

/-- 'shawmlaw16.ShapeWithin', WHERE WHAT IT READS IS OF BULK AT MOST 1048576: true; the input reads as it did. -/
def shapeWithinUptoRow : OpenClaim := { program := "ytljadjoljhanfaa", sum := "b0de23564f793ffe0a853b677c0c9d75d8e85d32a32ac93baef16e06e673fb4b", func := "shawm/shawmlaw16.ShapeWithin", spec := "shapeWithin", unfollowed := true, recurses := true, plainKeys := false, apart := false, narrowed := true }
def ShapeWithinUptoSaid : Prop := shapeWithinUptoRow.holds Try.pinned (OpenSpec.upto shapeWithinSpec)

/-- 'shawmlaw16.ShapeFits', WHERE WHAT IT READS IS OF BULK AT MOST 1048576: true; the input reads as it did. -/
def shapeFitsUptoRow : OpenClaim := { program := "ytljadjoljhanfaa", sum := "b0de23564f793ffe0a853b677c0c9d75d8e85d32a32ac93baef16e06e673fb4b", func := "shawm/shawmlaw16.ShapeFits", spec := "shapeFits", unfollowed := true, recurses := true, plainKeys := false, apart := false, narrowed := true }
def ShapeFitsUptoSaid : Prop := shapeFitsUptoRow.holds Try.pinned (OpenSpec.upto shapeFitsSpec)

end Rows
end Go.Proofs.Ytljadjoljhanfaa
