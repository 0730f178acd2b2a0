/-
  No cell of these rows narrows 'for every input' (looked for: loops, veiled, ifaces, maps, wideKeys, modest, calm, conditions, laid).
  DERIVED. THE GIVEN ROWS OF THIS SEAT. 6 by the template 'for every input the law returns true; each argument reads behind the call as it read before'; 0 by the template 'total and deterministic' (their statements: YtefffjhnpojjlaaTotals.lean).
  GIVEN WITH THE SEED: the statements are not yours to turn. If you find one false, say at which input.
  Laid BY PROGRAM, IN A SANDBOX (cutbox-rows.mjs): the forced cells as the released guide's own fill.sh prints them over the translation aef9e07890c5d5fe… (all of the seat's roots in one cut). By AI agents, Wed Nov 11 2026. No macro, syntax, notation, axiom, sorry.
-/
import Derived.Test.YtefffjhnpojjlaaChecked
import GoSem.Claim
import GoSem.ClaimJoined
import GoSem.ClaimMapViews
import Derived.JoinedTies
import Derived.KernelRfl
namespace Go.Proofs.Ytefffjhnpojjlaa
/- THE CELL 'sum', in the pinned program and in every row, IS THE sha256 OF THE DUMP (.gsa) THAT YtefffjhnpojjlaaProg.lean LOADS. Nothing in Lean hashes anything: it is a label: what it is worth is what the hold of that sum in a sandbox is worth. -/
noncomputable def Try.pinned : Pinned := { name := "ytefffjhnpojjlaa", sum := "aef9e07890c5d5fe4d8e8638d2588a0e9b88ba60a6ed52bbdfc31a96c66471a6", checked := Try.checked }
namespace Rows
def none {H : Type} : Left H := { results := [], args := [] }

/-- 'laws.FnExactWidthSum': WHATEVER THE INPUT: true; the input reads as it did. -/
def fnExactWidthSumSpec : ChangeSpec := { name := "fnExactWidthSum", fn := fun _ => fun
  | [d] => { results := [.lit (.bool true)], args := [d] }
  | _ => none }
def fnExactWidthSumRow : OpenClaim := { program := "ytefffjhnpojjlaa", sum := "aef9e07890c5d5fe4d8e8638d2588a0e9b88ba60a6ed52bbdfc31a96c66471a6", func := "loop.example/g00146/laws.FnExactWidthSum", spec := "fnExactWidthSum", unfollowed := true, recurses := true, apart := false }
def FnExactWidthSumSaid : Prop := fnExactWidthSumRow.holds Try.pinned (OpenSpec.ofChange fnExactWidthSumSpec)

/-- ITS FALSE NEIGHBOUR: 'it returns false'. Refute it at one input. -/
def fnExactWidthSumWrong : ChangeSpec := { name := "fnExactWidthSum", fn := fun _ => fun
  | [d] => { results := [.lit (.bool false)], args := [d] }
  | _ => none }
def FnExactWidthSumWrongFalsely : Prop := fnExactWidthSumRow.holds Try.pinned (OpenSpec.ofChange fnExactWidthSumWrong)

/-- 'laws.FnExactShownOf': WHATEVER THE INPUT: true; the input reads as it did. -/
def fnExactShownOfSpec : ChangeSpec := { name := "fnExactShownOf", fn := fun _ => fun
  | [d] => { results := [.lit (.bool true)], args := [d] }
  | _ => none }
def fnExactShownOfRow : OpenClaim := { program := "ytefffjhnpojjlaa", sum := "aef9e07890c5d5fe4d8e8638d2588a0e9b88ba60a6ed52bbdfc31a96c66471a6", func := "loop.example/g00146/laws.FnExactShownOf", spec := "fnExactShownOf", unfollowed := true, recurses := true, apart := false }
def FnExactShownOfSaid : Prop := fnExactShownOfRow.holds Try.pinned (OpenSpec.ofChange fnExactShownOfSpec)

/-- ITS FALSE NEIGHBOUR: 'it returns false'. Refute it at one input. -/
def fnExactShownOfWrong : ChangeSpec := { name := "fnExactShownOf", fn := fun _ => fun
  | [d] => { results := [.lit (.bool false)], args := [d] }
  | _ => none }
def FnExactShownOfWrongFalsely : Prop := fnExactShownOfRow.holds Try.pinned (OpenSpec.ofChange fnExactShownOfWrong)

/-- 'laws.FnExactGridNew': WHATEVER THE INPUT: true; the input reads as it did. -/
def fnExactGridNewSpec : ChangeSpec := { name := "fnExactGridNew", fn := fun _ => fun
  | [d1, d2] => { results := [.lit (.bool true)], args := [d1, d2] }
  | _ => none }
def fnExactGridNewRow : OpenClaim := { program := "ytefffjhnpojjlaa", sum := "aef9e07890c5d5fe4d8e8638d2588a0e9b88ba60a6ed52bbdfc31a96c66471a6", func := "loop.example/g00146/laws.FnExactGridNew", spec := "fnExactGridNew", apart := false }
def FnExactGridNewSaid : Prop := fnExactGridNewRow.holds Try.pinned (OpenSpec.ofChange fnExactGridNewSpec)

/-- ITS FALSE NEIGHBOUR: 'it returns false'. Refute it at one input. -/
def fnExactGridNewWrong : ChangeSpec := { name := "fnExactGridNew", fn := fun _ => fun
  | [d1, d2] => { results := [.lit (.bool false)], args := [d1, d2] }
  | _ => none }
def FnExactGridNewWrongFalsely : Prop := fnExactGridNewRow.holds Try.pinned (OpenSpec.ofChange fnExactGridNewWrong)

/-- 'laws.FnExactLineCount': WHATEVER THE INPUT: true; the input reads as it did. -/
def fnExactLineCountSpec : ChangeSpec := { name := "fnExactLineCount", fn := fun _ => fun
  | [d] => { results := [.lit (.bool true)], args := [d] }
  | _ => none }
def fnExactLineCountRow : OpenClaim := { program := "ytefffjhnpojjlaa", sum := "aef9e07890c5d5fe4d8e8638d2588a0e9b88ba60a6ed52bbdfc31a96c66471a6", func := "loop.example/g00146/laws.FnExactLineCount", spec := "fnExactLineCount", unfollowed := true, recurses := true, apart := false }
def FnExactLineCountSaid : Prop := fnExactLineCountRow.holds Try.pinned (OpenSpec.ofChange fnExactLineCountSpec)

/-- ITS FALSE NEIGHBOUR: 'it returns false'. Refute it at one input. -/
def fnExactLineCountWrong : ChangeSpec := { name := "fnExactLineCount", fn := fun _ => fun
  | [d] => { results := [.lit (.bool false)], args := [d] }
  | _ => none }
def FnExactLineCountWrongFalsely : Prop := fnExactLineCountRow.holds Try.pinned (OpenSpec.ofChange fnExactLineCountWrong)

/-- 'laws.FnExactRingRight': WHATEVER THE INPUT: true; the input reads as it did. -/
def fnExactRingRightSpec : ChangeSpec := { name := "fnExactRingRight", fn := fun _ => fun
  | [d] => { results := [.lit (.bool true)], args := [d] }
  | _ => none }
def fnExactRingRightRow : OpenClaim := { program := "ytefffjhnpojjlaa", sum := "aef9e07890c5d5fe4d8e8638d2588a0e9b88ba60a6ed52bbdfc31a96c66471a6", func := "loop.example/g00146/laws.FnExactRingRight", spec := "fnExactRingRight", unfollowed := true, recurses := true, apart := false }
def FnExactRingRightSaid : Prop := fnExactRingRightRow.holds Try.pinned (OpenSpec.ofChange fnExactRingRightSpec)

/-- ITS FALSE NEIGHBOUR: 'it returns false'. Refute it at one input. -/
def fnExactRingRightWrong : ChangeSpec := { name := "fnExactRingRight", fn := fun _ => fun
  | [d] => { results := [.lit (.bool false)], args := [d] }
  | _ => none }
def FnExactRingRightWrongFalsely : Prop := fnExactRingRightRow.holds Try.pinned (OpenSpec.ofChange fnExactRingRightWrong)

/-- 'laws.FnExactBufRegion': WHATEVER THE INPUT: true; the input reads as it did. -/
def fnExactBufRegionSpec : ChangeSpec := { name := "fnExactBufRegion", fn := fun _ => fun
  | [d] => { results := [.lit (.bool true)], args := [d] }
  | _ => none }
def fnExactBufRegionRow : OpenClaim := { program := "ytefffjhnpojjlaa", sum := "aef9e07890c5d5fe4d8e8638d2588a0e9b88ba60a6ed52bbdfc31a96c66471a6", func := "loop.example/g00146/laws.FnExactBufRegion", spec := "fnExactBufRegion", unfollowed := true, recurses := true, apart := false }
def FnExactBufRegionSaid : Prop := fnExactBufRegionRow.holds Try.pinned (OpenSpec.ofChange fnExactBufRegionSpec)

/-- ITS FALSE NEIGHBOUR: 'it returns false'. Refute it at one input. -/
def fnExactBufRegionWrong : ChangeSpec := { name := "fnExactBufRegion", fn := fun _ => fun
  | [d] => { results := [.lit (.bool false)], args := [d] }
  | _ => none }
def FnExactBufRegionWrongFalsely : Prop := fnExactBufRegionRow.holds Try.pinned (OpenSpec.ofChange fnExactBufRegionWrong)

/- THE SECOND FORM. 'bulk': how many values and letters a reading holds, each counted each time it is reached (what is shared counts as often as it is met; a slice's spare places count too). A statement '..UptoSaid' is the law's where the arguments, and the package variables that the reading takes, are together of bulk at most 1048576: NARROWER than '..Said'. Prove '..Said' where nothing that the law and all that it calls make is longer than what came in: it says more and counts as full. Else prove '..UptoSaid'. A law counts once. -/
mutual
def uptoBulk {H : Type} : DataW H → Nat
  | .lit (.string bytes) => bytes.length + 1
  | .lit _ => 1
  | .nil => 1
  | .ptr d => uptoBulk d + 1
  | .slice elems spare => uptoBulkAll elems + uptoBulkAll spare + 1
  | .agg parts => uptoBulkAll parts + 1
  | .iface _ d => uptoBulk d + 1
  | .map entries => uptoBulkEntries entries + 1
  | .held _ => 1
def uptoBulkAll {H : Type} : List (DataW H) → Nat
  | [] => 0
  | d :: r => uptoBulk d + uptoBulkAll r
def uptoBulkEntries {H : Type} : List (Lit × DataW H) → Nat
  | [] => 0
  | x :: r => uptoBulkEntry x + uptoBulkEntries r
def uptoBulkEntry {H : Type} : Lit × DataW H → Nat
  | (.string bytes, d) => bytes.length + uptoBulk d + 1
  | (_, d) => uptoBulk d + 1
 end
def uptoSmall : (H : Type) → List (DataW H) → Bool := fun _ ds => decide (uptoBulkAll ds ≤ 1048576)
def OpenSpec.upto (s : _root_.Go.ChangeSpec) : _root_.Go.OpenSpec := { _root_.Go.OpenSpec.ofChange s with cond := some uptoSmall }

/-- 'laws.FnExactWidthSum', WHERE WHAT IT READS IS OF BULK AT MOST 1048576: true; the input reads as it did. -/
def fnExactWidthSumUptoRow : OpenClaim := { program := "ytefffjhnpojjlaa", sum := "aef9e07890c5d5fe4d8e8638d2588a0e9b88ba60a6ed52bbdfc31a96c66471a6", func := "loop.example/g00146/laws.FnExactWidthSum", spec := "fnExactWidthSum", unfollowed := true, recurses := true, apart := false, narrowed := true }
def FnExactWidthSumUptoSaid : Prop := fnExactWidthSumUptoRow.holds Try.pinned (OpenSpec.upto fnExactWidthSumSpec)

/-- 'laws.FnExactShownOf', WHERE WHAT IT READS IS OF BULK AT MOST 1048576: true; the input reads as it did. -/
def fnExactShownOfUptoRow : OpenClaim := { program := "ytefffjhnpojjlaa", sum := "aef9e07890c5d5fe4d8e8638d2588a0e9b88ba60a6ed52bbdfc31a96c66471a6", func := "loop.example/g00146/laws.FnExactShownOf", spec := "fnExactShownOf", unfollowed := true, recurses := true, apart := false, narrowed := true }
def FnExactShownOfUptoSaid : Prop := fnExactShownOfUptoRow.holds Try.pinned (OpenSpec.upto fnExactShownOfSpec)

/-- 'laws.FnExactGridNew', WHERE WHAT IT READS IS OF BULK AT MOST 1048576: true; the input reads as it did. -/
def fnExactGridNewUptoRow : OpenClaim := { program := "ytefffjhnpojjlaa", sum := "aef9e07890c5d5fe4d8e8638d2588a0e9b88ba60a6ed52bbdfc31a96c66471a6", func := "loop.example/g00146/laws.FnExactGridNew", spec := "fnExactGridNew", apart := false, narrowed := true }
def FnExactGridNewUptoSaid : Prop := fnExactGridNewUptoRow.holds Try.pinned (OpenSpec.upto fnExactGridNewSpec)

/-- 'laws.FnExactLineCount', WHERE WHAT IT READS IS OF BULK AT MOST 1048576: true; the input reads as it did. -/
def fnExactLineCountUptoRow : OpenClaim := { program := "ytefffjhnpojjlaa", sum := "aef9e07890c5d5fe4d8e8638d2588a0e9b88ba60a6ed52bbdfc31a96c66471a6", func := "loop.example/g00146/laws.FnExactLineCount", spec := "fnExactLineCount", unfollowed := true, recurses := true, apart := false, narrowed := true }
def FnExactLineCountUptoSaid : Prop := fnExactLineCountUptoRow.holds Try.pinned (OpenSpec.upto fnExactLineCountSpec)

/-- 'laws.FnExactRingRight', WHERE WHAT IT READS IS OF BULK AT MOST 1048576: true; the input reads as it did. -/
def fnExactRingRightUptoRow : OpenClaim := { program := "ytefffjhnpojjlaa", sum := "aef9e07890c5d5fe4d8e8638d2588a0e9b88ba60a6ed52bbdfc31a96c66471a6", func := "loop.example/g00146/laws.FnExactRingRight", spec := "fnExactRingRight", unfollowed := true, recurses := true, apart := false, narrowed := true }
def FnExactRingRightUptoSaid : Prop := fnExactRingRightUptoRow.holds Try.pinned (OpenSpec.upto fnExactRingRightSpec)

/-- 'laws.FnExactBufRegion', WHERE WHAT IT READS IS OF BULK AT MOST 1048576: true; the input reads as it did. -/
def fnExactBufRegionUptoRow : OpenClaim := { program := "ytefffjhnpojjlaa", sum := "aef9e07890c5d5fe4d8e8638d2588a0e9b88ba60a6ed52bbdfc31a96c66471a6", func := "loop.example/g00146/laws.FnExactBufRegion", spec := "fnExactBufRegion", unfollowed := true, recurses := true, apart := false, narrowed := true }
def FnExactBufRegionUptoSaid : Prop := fnExactBufRegionUptoRow.holds Try.pinned (OpenSpec.upto fnExactBufRegionSpec)

end Rows
end Go.Proofs.Ytefffjhnpojjlaa
