/-
  No cell of these rows narrows 'for every input' (looked for: loops, veiled, ifaces, maps, wideKeys, modest, calm, conditions, laid).
  DERIVED. THE GIVEN ROWS OF THIS SEAT. 8 by the template 'for every input the law returns true; each argument reads behind the call as it read before'; 0 by the template 'total and deterministic' (their statements: YtglpdojccncjjaaTotals.lean).
  GIVEN WITH THE SEED: the statements are not yours to turn. If you find one false, say at which input.
  Laid BY PROGRAM, IN A SANDBOX (cutbox-rows.mjs): the forced cells as the released guide's own fill.sh prints them over the translation b3cb330d6f046d4e… (all of the seat's roots in one cut). By AI agents, Wed Nov 11 2026. No macro, syntax, notation, axiom, sorry.
-/
import Derived.Test.YtglpdojccncjjaaChecked
import GoSem.Claim
import GoSem.ClaimJoined
import GoSem.ClaimMapViews
import Derived.JoinedTies
import Derived.KernelRfl
namespace Go.Proofs.Ytglpdojccncjjaa
/- THE CELL 'sum', in the pinned program and in every row, IS THE sha256 OF THE DUMP (.gsa) THAT YtglpdojccncjjaaProg.lean LOADS. Nothing in Lean hashes anything: it is a label: what it is worth is what the hold of that sum in a sandbox is worth. -/
noncomputable def Try.pinned : Pinned := { name := "ytglpdojccncjjaa", sum := "b3cb330d6f046d4e996337b42c28e92d3d3cc830a1e72e04fa97f89ed31a5490", checked := Try.checked }
namespace Rows
def none {H : Type} : Left H := { results := [], args := [] }

/-- 'shawmlaw15.QuantOne': WHATEVER THE INPUT: true; the input reads as it did. -/
def quantOneSpec : ChangeSpec := { name := "quantOne", fn := fun _ => fun
  | [d1, d2, d3] => { results := [.lit (.bool true)], args := [d1, d2, d3] }
  | _ => none }
def quantOneRow : OpenClaim := { program := "ytglpdojccncjjaa", sum := "b3cb330d6f046d4e996337b42c28e92d3d3cc830a1e72e04fa97f89ed31a5490", func := "shawm/shawmlaw15.QuantOne", spec := "quantOne", unfollowed := true, recurses := true, apart := false }
def QuantOneSaid : Prop := quantOneRow.holds Try.pinned (OpenSpec.ofChange quantOneSpec)

/-- ITS FALSE NEIGHBOUR: 'it returns false'. Refute it at one input. -/
def quantOneWrong : ChangeSpec := { name := "quantOne", fn := fun _ => fun
  | [d1, d2, d3] => { results := [.lit (.bool false)], args := [d1, d2, d3] }
  | _ => none }
def QuantOneWrongFalsely : Prop := quantOneRow.holds Try.pinned (OpenSpec.ofChange quantOneWrong)

/-- 'shawmlaw15.QuantLists': WHATEVER THE INPUT: true; the input reads as it did. -/
def quantListsSpec : ChangeSpec := { name := "quantLists", fn := fun _ => fun
  | [d1, d2, d3] => { results := [.lit (.bool true)], args := [d1, d2, d3] }
  | _ => none }
def quantListsRow : OpenClaim := { program := "ytglpdojccncjjaa", sum := "b3cb330d6f046d4e996337b42c28e92d3d3cc830a1e72e04fa97f89ed31a5490", func := "shawm/shawmlaw15.QuantLists", spec := "quantLists", unfollowed := true, recurses := true, apart := false }
def QuantListsSaid : Prop := quantListsRow.holds Try.pinned (OpenSpec.ofChange quantListsSpec)

/-- ITS FALSE NEIGHBOUR: 'it returns false'. Refute it at one input. -/
def quantListsWrong : ChangeSpec := { name := "quantLists", fn := fun _ => fun
  | [d1, d2, d3] => { results := [.lit (.bool false)], args := [d1, d2, d3] }
  | _ => none }
def QuantListsWrongFalsely : Prop := quantListsRow.holds Try.pinned (OpenSpec.ofChange quantListsWrong)

/-- 'shawmlaw15.QuantScales': WHATEVER THE INPUT: true; the input reads as it did. -/
def quantScalesSpec : ChangeSpec := { name := "quantScales", fn := fun _ => fun
  | [d1, d2] => { results := [.lit (.bool true)], args := [d1, d2] }
  | _ => none }
def quantScalesRow : OpenClaim := { program := "ytglpdojccncjjaa", sum := "b3cb330d6f046d4e996337b42c28e92d3d3cc830a1e72e04fa97f89ed31a5490", func := "shawm/shawmlaw15.QuantScales", spec := "quantScales", unfollowed := true, recurses := true, apart := false }
def QuantScalesSaid : Prop := quantScalesRow.holds Try.pinned (OpenSpec.ofChange quantScalesSpec)

/-- ITS FALSE NEIGHBOUR: 'it returns false'. Refute it at one input. -/
def quantScalesWrong : ChangeSpec := { name := "quantScales", fn := fun _ => fun
  | [d1, d2] => { results := [.lit (.bool false)], args := [d1, d2] }
  | _ => none }
def QuantScalesWrongFalsely : Prop := quantScalesRow.holds Try.pinned (OpenSpec.ofChange quantScalesWrong)

/-- 'shawmlaw15.QuantAgain': WHATEVER THE INPUT: true; the input reads as it did. -/
def quantAgainSpec : ChangeSpec := { name := "quantAgain", fn := fun _ => fun
  | [d1, d2] => { results := [.lit (.bool true)], args := [d1, d2] }
  | _ => none }
def quantAgainRow : OpenClaim := { program := "ytglpdojccncjjaa", sum := "b3cb330d6f046d4e996337b42c28e92d3d3cc830a1e72e04fa97f89ed31a5490", func := "shawm/shawmlaw15.QuantAgain", spec := "quantAgain", unfollowed := true, recurses := true, apart := false }
def QuantAgainSaid : Prop := quantAgainRow.holds Try.pinned (OpenSpec.ofChange quantAgainSpec)

/-- ITS FALSE NEIGHBOUR: 'it returns false'. Refute it at one input. -/
def quantAgainWrong : ChangeSpec := { name := "quantAgain", fn := fun _ => fun
  | [d1, d2] => { results := [.lit (.bool false)], args := [d1, d2] }
  | _ => none }
def QuantAgainWrongFalsely : Prop := quantAgainRow.holds Try.pinned (OpenSpec.ofChange quantAgainWrong)

/-- 'shawmlaw15.QuantRising': WHATEVER THE INPUT: true; the input reads as it did. -/
def quantRisingSpec : ChangeSpec := { name := "quantRising", fn := fun _ => fun
  | [d1, d2, d3] => { results := [.lit (.bool true)], args := [d1, d2, d3] }
  | _ => none }
def quantRisingRow : OpenClaim := { program := "ytglpdojccncjjaa", sum := "b3cb330d6f046d4e996337b42c28e92d3d3cc830a1e72e04fa97f89ed31a5490", func := "shawm/shawmlaw15.QuantRising", spec := "quantRising", unfollowed := true, recurses := true, apart := false }
def QuantRisingSaid : Prop := quantRisingRow.holds Try.pinned (OpenSpec.ofChange quantRisingSpec)

/-- ITS FALSE NEIGHBOUR: 'it returns false'. Refute it at one input. -/
def quantRisingWrong : ChangeSpec := { name := "quantRising", fn := fun _ => fun
  | [d1, d2, d3] => { results := [.lit (.bool false)], args := [d1, d2, d3] }
  | _ => none }
def QuantRisingWrongFalsely : Prop := quantRisingRow.holds Try.pinned (OpenSpec.ofChange quantRisingWrong)

/-- 'shawmlaw15.QuantOdd': WHATEVER THE INPUT: true; the input reads as it did. -/
def quantOddSpec : ChangeSpec := { name := "quantOdd", fn := fun _ => fun
  | [d1, d2, d3] => { results := [.lit (.bool true)], args := [d1, d2, d3] }
  | _ => none }
def quantOddRow : OpenClaim := { program := "ytglpdojccncjjaa", sum := "b3cb330d6f046d4e996337b42c28e92d3d3cc830a1e72e04fa97f89ed31a5490", func := "shawm/shawmlaw15.QuantOdd", spec := "quantOdd", unfollowed := true, recurses := true, apart := false }
def QuantOddSaid : Prop := quantOddRow.holds Try.pinned (OpenSpec.ofChange quantOddSpec)

/-- ITS FALSE NEIGHBOUR: 'it returns false'. Refute it at one input. -/
def quantOddWrong : ChangeSpec := { name := "quantOdd", fn := fun _ => fun
  | [d1, d2, d3] => { results := [.lit (.bool false)], args := [d1, d2, d3] }
  | _ => none }
def QuantOddWrongFalsely : Prop := quantOddRow.holds Try.pinned (OpenSpec.ofChange quantOddWrong)

/-- 'shawmlaw15.QuantNear': WHATEVER THE INPUT: true; the input reads as it did. -/
def quantNearSpec : ChangeSpec := { name := "quantNear", fn := fun _ => fun
  | [d1, d2] => { results := [.lit (.bool true)], args := [d1, d2] }
  | _ => none }
def quantNearRow : OpenClaim := { program := "ytglpdojccncjjaa", sum := "b3cb330d6f046d4e996337b42c28e92d3d3cc830a1e72e04fa97f89ed31a5490", func := "shawm/shawmlaw15.QuantNear", spec := "quantNear", unfollowed := true, recurses := true, apart := false }
def QuantNearSaid : Prop := quantNearRow.holds Try.pinned (OpenSpec.ofChange quantNearSpec)

/-- ITS FALSE NEIGHBOUR: 'it returns false'. Refute it at one input. -/
def quantNearWrong : ChangeSpec := { name := "quantNear", fn := fun _ => fun
  | [d1, d2] => { results := [.lit (.bool false)], args := [d1, d2] }
  | _ => none }
def QuantNearWrongFalsely : Prop := quantNearRow.holds Try.pinned (OpenSpec.ofChange quantNearWrong)

/-- 'shawmlaw15.QuantBest': WHATEVER THE INPUT: true; the input reads as it did. -/
def quantBestSpec : ChangeSpec := { name := "quantBest", fn := fun _ => fun
  | [d1, d2] => { results := [.lit (.bool true)], args := [d1, d2] }
  | _ => none }
def quantBestRow : OpenClaim := { program := "ytglpdojccncjjaa", sum := "b3cb330d6f046d4e996337b42c28e92d3d3cc830a1e72e04fa97f89ed31a5490", func := "shawm/shawmlaw15.QuantBest", spec := "quantBest", unfollowed := true, recurses := true, apart := false }
def QuantBestSaid : Prop := quantBestRow.holds Try.pinned (OpenSpec.ofChange quantBestSpec)

/-- ITS FALSE NEIGHBOUR: 'it returns false'. Refute it at one input. -/
def quantBestWrong : ChangeSpec := { name := "quantBest", fn := fun _ => fun
  | [d1, d2] => { results := [.lit (.bool false)], args := [d1, d2] }
  | _ => none }
def QuantBestWrongFalsely : Prop := quantBestRow.holds Try.pinned (OpenSpec.ofChange quantBestWrong)

/- THE SECOND FORM. 'bulk': how many values and letters a reading holds, each counted each time it is reached (what is shared counts as often as it is met; a slice's spare places count too). A statement '..UptoSaid' is the law's where the arguments, and the package variables that the reading takes, are together of bulk at most 1048576: NARROWER than '..Said'. Prove '..Said' where nothing that the law and all that it calls make is longer than what came in: it says more and counts as full. Else prove '..UptoSaid'. A law counts once. -/
mutual
def uptoBulk {H : Type} : DataW H → Nat
  | .lit (.string bytes) => bytes.length + 1
  | .lit _ => 1
  | .nil => 1
  | .ptr d => uptoBulk d + 1
  | .slice elems spare => uptoBulkAll elems + uptoBulkAll spare + 1
  | .agg parts => uptoBulkAll parts + 1
  | .iface _ d => uptoBulk d + 1
  | .map entries => uptoBulkEntries entries + 1
  | .held _ => 1
def uptoBulkAll {H : Type} : List (DataW H) → Nat
  | [] => 0
  | d :: r => uptoBulk d + uptoBulkAll r
def uptoBulkEntries {H : Type} : List (Lit × DataW H) → Nat
  | [] => 0
  | x :: r => uptoBulkEntry x + uptoBulkEntries r
def uptoBulkEntry {H : Type} : Lit × DataW H → Nat
  | (.string bytes, d) => bytes.length + uptoBulk d + 1
  | (_, d) => uptoBulk d + 1
 end
def uptoSmall : (H : Type) → List (DataW H) → Bool := fun _ ds => decide (uptoBulkAll ds ≤ 1048576)
def OpenSpec.upto (s : _root_.Go.ChangeSpec) : _root_.Go.OpenSpec := { _root_.Go.OpenSpec.ofChange s with cond := some uptoSmall }

/-- 'shawmlaw15.QuantOne', WHERE WHAT IT READS IS OF BULK AT MOST 1048576: true; the input reads as it did. -/
def quantOneUptoRow : OpenClaim := { program := "ytglpdojccncjjaa", sum := "b3cb330d6f046d4e996337b42c28e92d3d3cc830a1e72e04fa97f89ed31a5490", func := "shawm/shawmlaw15.QuantOne", spec := "quantOne", unfollowed := true, recurses := true, apart := false, narrowed := true }
def QuantOneUptoSaid : Prop := quantOneUptoRow.holds Try.pinned (OpenSpec.upto quantOneSpec)

/-- 'shawmlaw15.QuantLists', WHERE WHAT IT READS IS OF BULK AT MOST 1048576: true; the input reads as it did. -/
def quantListsUptoRow : OpenClaim := { program := "ytglpdojccncjjaa", sum := "b3cb330d6f046d4e996337b42c28e92d3d3cc830a1e72e04fa97f89ed31a5490", func := "shawm/shawmlaw15.QuantLists", spec := "quantLists", unfollowed := true, recurses := true, apart := false, narrowed := true }
def QuantListsUptoSaid : Prop := quantListsUptoRow.holds Try.pinned (OpenSpec.upto quantListsSpec)

/-- 'shawmlaw15.QuantScales', WHERE WHAT IT READS IS OF BULK AT MOST 1048576: true; the input reads as it did. -/
def quantScalesUptoRow : OpenClaim := { program := "ytglpdojccncjjaa", sum := "b3cb330d6f046d4e996337b42c28e92d3d3cc830a1e72e04fa97f89ed31a5490", func := "shawm/shawmlaw15.QuantScales", spec := "quantScales", unfollowed := true, recurses := true, apart := false, narrowed := true }
def QuantScalesUptoSaid : Prop := quantScalesUptoRow.holds Try.pinned (OpenSpec.upto quantScalesSpec)

/-- 'shawmlaw15.QuantAgain', WHERE WHAT IT READS IS OF BULK AT MOST 1048576: true; the input reads as it did. -/
def quantAgainUptoRow : OpenClaim := { program := "ytglpdojccncjjaa", sum := "b3cb330d6f046d4e996337b42c28e92d3d3cc830a1e72e04fa97f89ed31a5490", func := "shawm/shawmlaw15.QuantAgain", spec := "quantAgain", unfollowed := true, recurses := true, apart := false, narrowed := true }
def QuantAgainUptoSaid : Prop := quantAgainUptoRow.holds Try.pinned (OpenSpec.upto quantAgainSpec)

/-- 'shawmlaw15.QuantRising', WHERE WHAT IT READS IS OF BULK AT MOST 1048576: true; the input reads as it did. -/
def quantRisingUptoRow : OpenClaim := { program := "ytglpdojccncjjaa", sum := "b3cb330d6f046d4e996337b42c28e92d3d3cc830a1e72e04fa97f89ed31a5490", func := "shawm/shawmlaw15.QuantRising", spec := "quantRising", unfollowed := true, recurses := true, apart := false, narrowed := true }
def QuantRisingUptoSaid : Prop := quantRisingUptoRow.holds Try.pinned (OpenSpec.upto quantRisingSpec)

/-- 'shawmlaw15.QuantOdd', WHERE WHAT IT READS IS OF BULK AT MOST 1048576: true; the input reads as it did. -/
def quantOddUptoRow : OpenClaim := { program := "ytglpdojccncjjaa", sum := "b3cb330d6f046d4e996337b42c28e92d3d3cc830a1e72e04fa97f89ed31a5490", func := "shawm/shawmlaw15.QuantOdd", spec := "quantOdd", unfollowed := true, recurses := true, apart := false, narrowed := true }
def QuantOddUptoSaid : Prop := quantOddUptoRow.holds Try.pinned (OpenSpec.upto quantOddSpec)

/-- 'shawmlaw15.QuantNear', WHERE WHAT IT READS IS OF BULK AT MOST 1048576: true; the input reads as it did. -/
def quantNearUptoRow : OpenClaim := { program := "ytglpdojccncjjaa", sum := "b3cb330d6f046d4e996337b42c28e92d3d3cc830a1e72e04fa97f89ed31a5490", func := "shawm/shawmlaw15.QuantNear", spec := "quantNear", unfollowed := true, recurses := true, apart := false, narrowed := true }
def QuantNearUptoSaid : Prop := quantNearUptoRow.holds Try.pinned (OpenSpec.upto quantNearSpec)

/-- 'shawmlaw15.QuantBest', WHERE WHAT IT READS IS OF BULK AT MOST 1048576: true; the input reads as it did. -/
def quantBestUptoRow : OpenClaim := { program := "ytglpdojccncjjaa", sum := "b3cb330d6f046d4e996337b42c28e92d3d3cc830a1e72e04fa97f89ed31a5490", func := "shawm/shawmlaw15.QuantBest", spec := "quantBest", unfollowed := true, recurses := true, apart := false, narrowed := true }
def QuantBestUptoSaid : Prop := quantBestUptoRow.holds Try.pinned (OpenSpec.upto quantBestSpec)

end Rows
end Go.Proofs.Ytglpdojccncjjaa
