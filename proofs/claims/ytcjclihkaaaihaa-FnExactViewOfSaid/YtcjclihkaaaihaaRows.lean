/-
  No cell of these rows narrows 'for every input' (looked for: loops, veiled, ifaces, maps, wideKeys, modest, calm, conditions, laid).
  DERIVED. THE GIVEN ROWS OF THIS SEAT. 6 by the template 'for every input the law returns true; each argument reads behind the call as it read before'; 0 by the template 'total and deterministic' (their statements: YtcjclihkaaaihaaTotals.lean).
  GIVEN WITH THE SEED: the statements are not yours to turn. If you find one false, say at which input.
  Laid BY PROGRAM, IN A SANDBOX (cutbox-rows.mjs): the forced cells as the released guide's own fill.sh prints them over the translation 441b3f21cff98f67… (all of the seat's roots in one cut). By AI agents, Wed Nov 11 2026. No macro, syntax, notation, axiom, sorry.
-/
import Derived.Test.YtcjclihkaaaihaaChecked
import GoSem.Claim
import GoSem.ClaimJoined
import GoSem.ClaimMapViews
import Derived.JoinedTies
import Derived.KernelRfl
namespace Go.Proofs.Ytcjclihkaaaihaa
/- THE CELL 'sum', in the pinned program and in every row, IS THE sha256 OF THE DUMP (.gsa) THAT YtcjclihkaaaihaaProg.lean LOADS. Nothing in Lean hashes anything: it is a label: what it is worth is what the hold of that sum in a sandbox is worth. -/
noncomputable def Try.pinned : Pinned := { name := "ytcjclihkaaaihaa", sum := "441b3f21cff98f676821d2d7d4a9057a26b110a2c1c1f5538cc4fb7f4c3ea324", checked := Try.checked }
namespace Rows
def none {H : Type} : Left H := { results := [], args := [] }

/-- 'laws.FnExactViewOf': WHATEVER THE INPUT: true; the input reads as it did. -/
def fnExactViewOfSpec : ChangeSpec := { name := "fnExactViewOf", fn := fun _ => fun
  | [d1, d2, d3, d4, d5] => { results := [.lit (.bool true)], args := [d1, d2, d3, d4, d5] }
  | _ => none }
def fnExactViewOfRow : OpenClaim := { program := "ytcjclihkaaaihaa", sum := "441b3f21cff98f676821d2d7d4a9057a26b110a2c1c1f5538cc4fb7f4c3ea324", func := "loop.example/g00146/laws.FnExactViewOf", spec := "fnExactViewOf", unfollowed := true, recurses := true, apart := false }
def FnExactViewOfSaid : Prop := fnExactViewOfRow.holds Try.pinned (OpenSpec.ofChange fnExactViewOfSpec)

/-- ITS FALSE NEIGHBOUR: 'it returns false'. Refute it at one input. -/
def fnExactViewOfWrong : ChangeSpec := { name := "fnExactViewOf", fn := fun _ => fun
  | [d1, d2, d3, d4, d5] => { results := [.lit (.bool false)], args := [d1, d2, d3, d4, d5] }
  | _ => none }
def FnExactViewOfWrongFalsely : Prop := fnExactViewOfRow.holds Try.pinned (OpenSpec.ofChange fnExactViewOfWrong)

/-- 'laws.FnExactViewRows': WHATEVER THE INPUT: true; the input reads as it did. -/
def fnExactViewRowsSpec : ChangeSpec := { name := "fnExactViewRows", fn := fun _ => fun
  | [d1, d2, d3] => { results := [.lit (.bool true)], args := [d1, d2, d3] }
  | _ => none }
def fnExactViewRowsRow : OpenClaim := { program := "ytcjclihkaaaihaa", sum := "441b3f21cff98f676821d2d7d4a9057a26b110a2c1c1f5538cc4fb7f4c3ea324", func := "loop.example/g00146/laws.FnExactViewRows", spec := "fnExactViewRows", unfollowed := true, recurses := true, apart := false }
def FnExactViewRowsSaid : Prop := fnExactViewRowsRow.holds Try.pinned (OpenSpec.ofChange fnExactViewRowsSpec)

/-- ITS FALSE NEIGHBOUR: 'it returns false'. Refute it at one input. -/
def fnExactViewRowsWrong : ChangeSpec := { name := "fnExactViewRows", fn := fun _ => fun
  | [d1, d2, d3] => { results := [.lit (.bool false)], args := [d1, d2, d3] }
  | _ => none }
def FnExactViewRowsWrongFalsely : Prop := fnExactViewRowsRow.holds Try.pinned (OpenSpec.ofChange fnExactViewRowsWrong)

/-- 'laws.FnExactViewSpot': WHATEVER THE INPUT: true; the input reads as it did. -/
def fnExactViewSpotSpec : ChangeSpec := { name := "fnExactViewSpot", fn := fun _ => fun
  | [d1, d2, d3, d4] => { results := [.lit (.bool true)], args := [d1, d2, d3, d4] }
  | _ => none }
def fnExactViewSpotRow : OpenClaim := { program := "ytcjclihkaaaihaa", sum := "441b3f21cff98f676821d2d7d4a9057a26b110a2c1c1f5538cc4fb7f4c3ea324", func := "loop.example/g00146/laws.FnExactViewSpot", spec := "fnExactViewSpot", unfollowed := true, recurses := true, apart := false }
def FnExactViewSpotSaid : Prop := fnExactViewSpotRow.holds Try.pinned (OpenSpec.ofChange fnExactViewSpotSpec)

/-- ITS FALSE NEIGHBOUR: 'it returns false'. Refute it at one input. -/
def fnExactViewSpotWrong : ChangeSpec := { name := "fnExactViewSpot", fn := fun _ => fun
  | [d1, d2, d3, d4] => { results := [.lit (.bool false)], args := [d1, d2, d3, d4] }
  | _ => none }
def FnExactViewSpotWrongFalsely : Prop := fnExactViewSpotRow.holds Try.pinned (OpenSpec.ofChange fnExactViewSpotWrong)

/-- 'laws.FnExactNodesRight': WHATEVER THE INPUT: true; the input reads as it did. -/
def fnExactNodesRightSpec : ChangeSpec := { name := "fnExactNodesRight", fn := fun _ => fun
  | [d] => { results := [.lit (.bool true)], args := [d] }
  | _ => none }
def fnExactNodesRightRow : OpenClaim := { program := "ytcjclihkaaaihaa", sum := "441b3f21cff98f676821d2d7d4a9057a26b110a2c1c1f5538cc4fb7f4c3ea324", func := "loop.example/g00146/laws.FnExactNodesRight", spec := "fnExactNodesRight", unfollowed := true, recurses := true, apart := false }
def FnExactNodesRightSaid : Prop := fnExactNodesRightRow.holds Try.pinned (OpenSpec.ofChange fnExactNodesRightSpec)

/-- ITS FALSE NEIGHBOUR: 'it returns false'. Refute it at one input. -/
def fnExactNodesRightWrong : ChangeSpec := { name := "fnExactNodesRight", fn := fun _ => fun
  | [d] => { results := [.lit (.bool false)], args := [d] }
  | _ => none }
def FnExactNodesRightWrongFalsely : Prop := fnExactNodesRightRow.holds Try.pinned (OpenSpec.ofChange fnExactNodesRightWrong)

/-- 'laws.FnExactNodesDeep': WHATEVER THE INPUT: true; the input reads as it did. -/
def fnExactNodesDeepSpec : ChangeSpec := { name := "fnExactNodesDeep", fn := fun _ => fun
  | [d] => { results := [.lit (.bool true)], args := [d] }
  | _ => none }
def fnExactNodesDeepRow : OpenClaim := { program := "ytcjclihkaaaihaa", sum := "441b3f21cff98f676821d2d7d4a9057a26b110a2c1c1f5538cc4fb7f4c3ea324", func := "loop.example/g00146/laws.FnExactNodesDeep", spec := "fnExactNodesDeep", unfollowed := true, recurses := true, apart := false }
def FnExactNodesDeepSaid : Prop := fnExactNodesDeepRow.holds Try.pinned (OpenSpec.ofChange fnExactNodesDeepSpec)

/-- ITS FALSE NEIGHBOUR: 'it returns false'. Refute it at one input. -/
def fnExactNodesDeepWrong : ChangeSpec := { name := "fnExactNodesDeep", fn := fun _ => fun
  | [d] => { results := [.lit (.bool false)], args := [d] }
  | _ => none }
def FnExactNodesDeepWrongFalsely : Prop := fnExactNodesDeepRow.holds Try.pinned (OpenSpec.ofChange fnExactNodesDeepWrong)

/-- 'laws.FnExactNodesVars': WHATEVER THE INPUT: true; the input reads as it did. -/
def fnExactNodesVarsSpec : ChangeSpec := { name := "fnExactNodesVars", fn := fun _ => fun
  | [d] => { results := [.lit (.bool true)], args := [d] }
  | _ => none }
def fnExactNodesVarsRow : OpenClaim := { program := "ytcjclihkaaaihaa", sum := "441b3f21cff98f676821d2d7d4a9057a26b110a2c1c1f5538cc4fb7f4c3ea324", func := "loop.example/g00146/laws.FnExactNodesVars", spec := "fnExactNodesVars", unfollowed := true, recurses := true, apart := false }
def FnExactNodesVarsSaid : Prop := fnExactNodesVarsRow.holds Try.pinned (OpenSpec.ofChange fnExactNodesVarsSpec)

/-- ITS FALSE NEIGHBOUR: 'it returns false'. Refute it at one input. -/
def fnExactNodesVarsWrong : ChangeSpec := { name := "fnExactNodesVars", fn := fun _ => fun
  | [d] => { results := [.lit (.bool false)], args := [d] }
  | _ => none }
def FnExactNodesVarsWrongFalsely : Prop := fnExactNodesVarsRow.holds Try.pinned (OpenSpec.ofChange fnExactNodesVarsWrong)

/- THE SECOND FORM. 'bulk': how many values and letters a reading holds, each counted each time it is reached (what is shared counts as often as it is met; a slice's spare places count too). A statement '..UptoSaid' is the law's where the arguments, and the package variables that the reading takes, are together of bulk at most 1048576: NARROWER than '..Said'. Prove '..Said' where nothing that the law and all that it calls make is longer than what came in: it says more and counts as full. Else prove '..UptoSaid'. A law counts once. -/
mutual
def uptoBulk {H : Type} : DataW H → Nat
  | .lit (.string bytes) => bytes.length + 1
  | .lit _ => 1
  | .nil => 1
  | .ptr d => uptoBulk d + 1
  | .slice elems spare => uptoBulkAll elems + uptoBulkAll spare + 1
  | .agg parts => uptoBulkAll parts + 1
  | .iface _ d => uptoBulk d + 1
  | .map entries => uptoBulkEntries entries + 1
  | .held _ => 1
def uptoBulkAll {H : Type} : List (DataW H) → Nat
  | [] => 0
  | d :: r => uptoBulk d + uptoBulkAll r
def uptoBulkEntries {H : Type} : List (Lit × DataW H) → Nat
  | [] => 0
  | x :: r => uptoBulkEntry x + uptoBulkEntries r
def uptoBulkEntry {H : Type} : Lit × DataW H → Nat
  | (.string bytes, d) => bytes.length + uptoBulk d + 1
  | (_, d) => uptoBulk d + 1
 end
def uptoSmall : (H : Type) → List (DataW H) → Bool := fun _ ds => decide (uptoBulkAll ds ≤ 1048576)
def OpenSpec.upto (s : _root_.Go.ChangeSpec) : _root_.Go.OpenSpec := { _root_.Go.OpenSpec.ofChange s with cond := some uptoSmall }

/-- 'laws.FnExactViewOf', WHERE WHAT IT READS IS OF BULK AT MOST 1048576: true; the input reads as it did. -/
def fnExactViewOfUptoRow : OpenClaim := { program := "ytcjclihkaaaihaa", sum := "441b3f21cff98f676821d2d7d4a9057a26b110a2c1c1f5538cc4fb7f4c3ea324", func := "loop.example/g00146/laws.FnExactViewOf", spec := "fnExactViewOf", unfollowed := true, recurses := true, apart := false, narrowed := true }
def FnExactViewOfUptoSaid : Prop := fnExactViewOfUptoRow.holds Try.pinned (OpenSpec.upto fnExactViewOfSpec)

/-- 'laws.FnExactViewRows', WHERE WHAT IT READS IS OF BULK AT MOST 1048576: true; the input reads as it did. -/
def fnExactViewRowsUptoRow : OpenClaim := { program := "ytcjclihkaaaihaa", sum := "441b3f21cff98f676821d2d7d4a9057a26b110a2c1c1f5538cc4fb7f4c3ea324", func := "loop.example/g00146/laws.FnExactViewRows", spec := "fnExactViewRows", unfollowed := true, recurses := true, apart := false, narrowed := true }
def FnExactViewRowsUptoSaid : Prop := fnExactViewRowsUptoRow.holds Try.pinned (OpenSpec.upto fnExactViewRowsSpec)

/-- 'laws.FnExactViewSpot', WHERE WHAT IT READS IS OF BULK AT MOST 1048576: true; the input reads as it did. -/
def fnExactViewSpotUptoRow : OpenClaim := { program := "ytcjclihkaaaihaa", sum := "441b3f21cff98f676821d2d7d4a9057a26b110a2c1c1f5538cc4fb7f4c3ea324", func := "loop.example/g00146/laws.FnExactViewSpot", spec := "fnExactViewSpot", unfollowed := true, recurses := true, apart := false, narrowed := true }
def FnExactViewSpotUptoSaid : Prop := fnExactViewSpotUptoRow.holds Try.pinned (OpenSpec.upto fnExactViewSpotSpec)

/-- 'laws.FnExactNodesRight', WHERE WHAT IT READS IS OF BULK AT MOST 1048576: true; the input reads as it did. -/
def fnExactNodesRightUptoRow : OpenClaim := { program := "ytcjclihkaaaihaa", sum := "441b3f21cff98f676821d2d7d4a9057a26b110a2c1c1f5538cc4fb7f4c3ea324", func := "loop.example/g00146/laws.FnExactNodesRight", spec := "fnExactNodesRight", unfollowed := true, recurses := true, apart := false, narrowed := true }
def FnExactNodesRightUptoSaid : Prop := fnExactNodesRightUptoRow.holds Try.pinned (OpenSpec.upto fnExactNodesRightSpec)

/-- 'laws.FnExactNodesDeep', WHERE WHAT IT READS IS OF BULK AT MOST 1048576: true; the input reads as it did. -/
def fnExactNodesDeepUptoRow : OpenClaim := { program := "ytcjclihkaaaihaa", sum := "441b3f21cff98f676821d2d7d4a9057a26b110a2c1c1f5538cc4fb7f4c3ea324", func := "loop.example/g00146/laws.FnExactNodesDeep", spec := "fnExactNodesDeep", unfollowed := true, recurses := true, apart := false, narrowed := true }
def FnExactNodesDeepUptoSaid : Prop := fnExactNodesDeepUptoRow.holds Try.pinned (OpenSpec.upto fnExactNodesDeepSpec)

/-- 'laws.FnExactNodesVars', WHERE WHAT IT READS IS OF BULK AT MOST 1048576: true; the input reads as it did. -/
def fnExactNodesVarsUptoRow : OpenClaim := { program := "ytcjclihkaaaihaa", sum := "441b3f21cff98f676821d2d7d4a9057a26b110a2c1c1f5538cc4fb7f4c3ea324", func := "loop.example/g00146/laws.FnExactNodesVars", spec := "fnExactNodesVars", unfollowed := true, recurses := true, apart := false, narrowed := true }
def FnExactNodesVarsUptoSaid : Prop := fnExactNodesVarsUptoRow.holds Try.pinned (OpenSpec.upto fnExactNodesVarsSpec)

end Rows
end Go.Proofs.Ytcjclihkaaaihaa
