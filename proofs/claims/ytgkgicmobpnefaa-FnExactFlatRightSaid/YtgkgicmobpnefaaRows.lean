/-
  No cell of these rows narrows 'for every input' (looked for: loops, veiled, ifaces, maps, wideKeys, modest, calm, conditions, laid).
  DERIVED. THE GIVEN ROWS OF THIS SEAT. 6 by the template 'for every input the law returns true; each argument reads behind the call as it read before'; 0 by the template 'total and deterministic' (their statements: YtgkgicmobpnefaaTotals.lean).
  GIVEN WITH THE SEED: the statements are not yours to turn. If you find one false, say at which input.
  Laid BY PROGRAM, IN A SANDBOX (cutbox-rows.mjs): the forced cells as the released guide's own fill.sh prints them over the translation 424011e2fb0bc8e6… (all of the seat's roots in one cut). By AI agents, Wed Nov 11 2026. No macro, syntax, notation, axiom, sorry.
-/
import Derived.Test.YtgkgicmobpnefaaChecked
import GoSem.Claim
import GoSem.ClaimJoined
import GoSem.ClaimMapViews
import Derived.JoinedTies
import Derived.KernelRfl
namespace Go.Proofs.Ytgkgicmobpnefaa
/- THE CELL 'sum', in the pinned program and in every row, IS THE sha256 OF THE DUMP (.gsa) THAT YtgkgicmobpnefaaProg.lean LOADS. Nothing in Lean hashes anything: it is a label: what it is worth is what the hold of that sum in a sandbox is worth. -/
noncomputable def Try.pinned : Pinned := { name := "ytgkgicmobpnefaa", sum := "424011e2fb0bc8e62354d9e12883445e4211fd746d1a2b72bc4dc1b319c56df0", checked := Try.checked }
namespace Rows
def none {H : Type} : Left H := { results := [], args := [] }

/-- 'laws.FnExactFlatRight': WHATEVER THE INPUT: true; the input reads as it did. -/
def fnExactFlatRightSpec : ChangeSpec := { name := "fnExactFlatRight", fn := fun _ => fun
  | [d] => { results := [.lit (.bool true)], args := [d] }
  | _ => none }
def fnExactFlatRightRow : OpenClaim := { program := "ytgkgicmobpnefaa", sum := "424011e2fb0bc8e62354d9e12883445e4211fd746d1a2b72bc4dc1b319c56df0", func := "loop.example/g00146/laws.FnExactFlatRight", spec := "fnExactFlatRight", apart := false }
def FnExactFlatRightSaid : Prop := fnExactFlatRightRow.holds Try.pinned (OpenSpec.ofChange fnExactFlatRightSpec)

/-- ITS FALSE NEIGHBOUR: 'it returns false'. Refute it at one input. -/
def fnExactFlatRightWrong : ChangeSpec := { name := "fnExactFlatRight", fn := fun _ => fun
  | [d] => { results := [.lit (.bool false)], args := [d] }
  | _ => none }
def FnExactFlatRightWrongFalsely : Prop := fnExactFlatRightRow.holds Try.pinned (OpenSpec.ofChange fnExactFlatRightWrong)

/-- 'laws.FnExactGridRow': WHATEVER THE INPUT: true; the input reads as it did. -/
def fnExactGridRowSpec : ChangeSpec := { name := "fnExactGridRow", fn := fun _ => fun
  | [d1, d2] => { results := [.lit (.bool true)], args := [d1, d2] }
  | _ => none }
def fnExactGridRowRow : OpenClaim := { program := "ytgkgicmobpnefaa", sum := "424011e2fb0bc8e62354d9e12883445e4211fd746d1a2b72bc4dc1b319c56df0", func := "loop.example/g00146/laws.FnExactGridRow", spec := "fnExactGridRow", apart := false }
def FnExactGridRowSaid : Prop := fnExactGridRowRow.holds Try.pinned (OpenSpec.ofChange fnExactGridRowSpec)

/-- ITS FALSE NEIGHBOUR: 'it returns false'. Refute it at one input. -/
def fnExactGridRowWrong : ChangeSpec := { name := "fnExactGridRow", fn := fun _ => fun
  | [d1, d2] => { results := [.lit (.bool false)], args := [d1, d2] }
  | _ => none }
def FnExactGridRowWrongFalsely : Prop := fnExactGridRowRow.holds Try.pinned (OpenSpec.ofChange fnExactGridRowWrong)

/-- 'laws.FnExactKeyFeed': WHATEVER THE INPUT: true; the input reads as it did. -/
def fnExactKeyFeedSpec : ChangeSpec := { name := "fnExactKeyFeed", fn := fun _ => fun
  | [d1, d2, d3, d4] => { results := [.lit (.bool true)], args := [d1, d2, d3, d4] }
  | _ => none }
def fnExactKeyFeedRow : OpenClaim := { program := "ytgkgicmobpnefaa", sum := "424011e2fb0bc8e62354d9e12883445e4211fd746d1a2b72bc4dc1b319c56df0", func := "loop.example/g00146/laws.FnExactKeyFeed", spec := "fnExactKeyFeed", inPlace := ["internal/bytealg.abigen_runtime_cmpstring"], unfollowed := true, recurses := true, apart := false }
def FnExactKeyFeedSaid : Prop := fnExactKeyFeedRow.holds Try.pinned (OpenSpec.ofChange fnExactKeyFeedSpec)

/-- ITS FALSE NEIGHBOUR: 'it returns false'. Refute it at one input. -/
def fnExactKeyFeedWrong : ChangeSpec := { name := "fnExactKeyFeed", fn := fun _ => fun
  | [d1, d2, d3, d4] => { results := [.lit (.bool false)], args := [d1, d2, d3, d4] }
  | _ => none }
def FnExactKeyFeedWrongFalsely : Prop := fnExactKeyFeedRow.holds Try.pinned (OpenSpec.ofChange fnExactKeyFeedWrong)

/-- 'laws.FnUndo': WHATEVER THE INPUT: true; the input reads as it did. -/
def fnUndoSpec : ChangeSpec := { name := "fnUndo", fn := fun _ => fun
  | [d] => { results := [.lit (.bool true)], args := [d] }
  | _ => none }
def fnUndoRow : OpenClaim := { program := "ytgkgicmobpnefaa", sum := "424011e2fb0bc8e62354d9e12883445e4211fd746d1a2b72bc4dc1b319c56df0", func := "loop.example/g00146/laws.FnUndo", spec := "fnUndo", unfollowed := true, recurses := true, apart := false }
def FnUndoSaid : Prop := fnUndoRow.holds Try.pinned (OpenSpec.ofChange fnUndoSpec)

/-- ITS FALSE NEIGHBOUR: 'it returns false'. Refute it at one input. -/
def fnUndoWrong : ChangeSpec := { name := "fnUndo", fn := fun _ => fun
  | [d] => { results := [.lit (.bool false)], args := [d] }
  | _ => none }
def FnUndoWrongFalsely : Prop := fnUndoRow.holds Try.pinned (OpenSpec.ofChange fnUndoWrong)

/-- 'laws.FnExactViewSpot': WHATEVER THE INPUT: true; the input reads as it did. -/
def fnExactViewSpotSpec : ChangeSpec := { name := "fnExactViewSpot", fn := fun _ => fun
  | [d1, d2, d3, d4] => { results := [.lit (.bool true)], args := [d1, d2, d3, d4] }
  | _ => none }
def fnExactViewSpotRow : OpenClaim := { program := "ytgkgicmobpnefaa", sum := "424011e2fb0bc8e62354d9e12883445e4211fd746d1a2b72bc4dc1b319c56df0", func := "loop.example/g00146/laws.FnExactViewSpot", spec := "fnExactViewSpot", unfollowed := true, recurses := true, apart := false }
def FnExactViewSpotSaid : Prop := fnExactViewSpotRow.holds Try.pinned (OpenSpec.ofChange fnExactViewSpotSpec)

/-- ITS FALSE NEIGHBOUR: 'it returns false'. Refute it at one input. -/
def fnExactViewSpotWrong : ChangeSpec := { name := "fnExactViewSpot", fn := fun _ => fun
  | [d1, d2, d3, d4] => { results := [.lit (.bool false)], args := [d1, d2, d3, d4] }
  | _ => none }
def FnExactViewSpotWrongFalsely : Prop := fnExactViewSpotRow.holds Try.pinned (OpenSpec.ofChange fnExactViewSpotWrong)

/-- 'laws.FnExactNodesRight': WHATEVER THE INPUT: true; the input reads as it did. -/
def fnExactNodesRightSpec : ChangeSpec := { name := "fnExactNodesRight", fn := fun _ => fun
  | [d] => { results := [.lit (.bool true)], args := [d] }
  | _ => none }
def fnExactNodesRightRow : OpenClaim := { program := "ytgkgicmobpnefaa", sum := "424011e2fb0bc8e62354d9e12883445e4211fd746d1a2b72bc4dc1b319c56df0", func := "loop.example/g00146/laws.FnExactNodesRight", spec := "fnExactNodesRight", unfollowed := true, recurses := true, apart := false }
def FnExactNodesRightSaid : Prop := fnExactNodesRightRow.holds Try.pinned (OpenSpec.ofChange fnExactNodesRightSpec)

/-- ITS FALSE NEIGHBOUR: 'it returns false'. Refute it at one input. -/
def fnExactNodesRightWrong : ChangeSpec := { name := "fnExactNodesRight", fn := fun _ => fun
  | [d] => { results := [.lit (.bool false)], args := [d] }
  | _ => none }
def FnExactNodesRightWrongFalsely : Prop := fnExactNodesRightRow.holds Try.pinned (OpenSpec.ofChange fnExactNodesRightWrong)

/- THE SECOND FORM. 'bulk': how many values and letters a reading holds, each counted each time it is reached (what is shared counts as often as it is met; a slice's spare places count too). A statement '..UptoSaid' is the law's where the arguments, and the package variables that the reading takes, are together of bulk at most 1048576: NARROWER than '..Said'. Prove '..Said' where nothing that the law and all that it calls make is longer than what came in: it says more and counts as full. Else prove '..UptoSaid'. A law counts once. -/
mutual
def uptoBulk {H : Type} : DataW H → Nat
  | .lit (.string bytes) => bytes.length + 1
  | .lit _ => 1
  | .nil => 1
  | .ptr d => uptoBulk d + 1
  | .slice elems spare => uptoBulkAll elems + uptoBulkAll spare + 1
  | .agg parts => uptoBulkAll parts + 1
  | .iface _ d => uptoBulk d + 1
  | .map entries => uptoBulkEntries entries + 1
  | .held _ => 1
def uptoBulkAll {H : Type} : List (DataW H) → Nat
  | [] => 0
  | d :: r => uptoBulk d + uptoBulkAll r
def uptoBulkEntries {H : Type} : List (Lit × DataW H) → Nat
  | [] => 0
  | x :: r => uptoBulkEntry x + uptoBulkEntries r
def uptoBulkEntry {H : Type} : Lit × DataW H → Nat
  | (.string bytes, d) => bytes.length + uptoBulk d + 1
  | (_, d) => uptoBulk d + 1
 end
def uptoSmall : (H : Type) → List (DataW H) → Bool := fun _ ds => decide (uptoBulkAll ds ≤ 1048576)
def OpenSpec.upto (s : _root_.Go.ChangeSpec) : _root_.Go.OpenSpec := { _root_.Go.OpenSpec.ofChange s with cond := some uptoSmall }

/-- 'laws.FnExactFlatRight', WHERE WHAT IT READS IS OF BULK AT MOST 1048576: true; the input reads as it did. -/
def fnExactFlatRightUptoRow : OpenClaim := { program := "ytgkgicmobpnefaa", sum := "424011e2fb0bc8e62354d9e12883445e4211fd746d1a2b72bc4dc1b319c56df0", func := "loop.example/g00146/laws.FnExactFlatRight", spec := "fnExactFlatRight", apart := false, narrowed := true }
def FnExactFlatRightUptoSaid : Prop := fnExactFlatRightUptoRow.holds Try.pinned (OpenSpec.upto fnExactFlatRightSpec)

/-- 'laws.FnExactGridRow', WHERE WHAT IT READS IS OF BULK AT MOST 1048576: true; the input reads as it did. -/
def fnExactGridRowUptoRow : OpenClaim := { program := "ytgkgicmobpnefaa", sum := "424011e2fb0bc8e62354d9e12883445e4211fd746d1a2b72bc4dc1b319c56df0", func := "loop.example/g00146/laws.FnExactGridRow", spec := "fnExactGridRow", apart := false, narrowed := true }
def FnExactGridRowUptoSaid : Prop := fnExactGridRowUptoRow.holds Try.pinned (OpenSpec.upto fnExactGridRowSpec)

/-- 'laws.FnExactKeyFeed', WHERE WHAT IT READS IS OF BULK AT MOST 1048576: true; the input reads as it did. -/
def fnExactKeyFeedUptoRow : OpenClaim := { program := "ytgkgicmobpnefaa", sum := "424011e2fb0bc8e62354d9e12883445e4211fd746d1a2b72bc4dc1b319c56df0", func := "loop.example/g00146/laws.FnExactKeyFeed", spec := "fnExactKeyFeed", inPlace := ["internal/bytealg.abigen_runtime_cmpstring"], unfollowed := true, recurses := true, apart := false, narrowed := true }
def FnExactKeyFeedUptoSaid : Prop := fnExactKeyFeedUptoRow.holds Try.pinned (OpenSpec.upto fnExactKeyFeedSpec)

/-- 'laws.FnUndo', WHERE WHAT IT READS IS OF BULK AT MOST 1048576: true; the input reads as it did. -/
def fnUndoUptoRow : OpenClaim := { program := "ytgkgicmobpnefaa", sum := "424011e2fb0bc8e62354d9e12883445e4211fd746d1a2b72bc4dc1b319c56df0", func := "loop.example/g00146/laws.FnUndo", spec := "fnUndo", unfollowed := true, recurses := true, apart := false, narrowed := true }
def FnUndoUptoSaid : Prop := fnUndoUptoRow.holds Try.pinned (OpenSpec.upto fnUndoSpec)

/-- 'laws.FnExactViewSpot', WHERE WHAT IT READS IS OF BULK AT MOST 1048576: true; the input reads as it did. -/
def fnExactViewSpotUptoRow : OpenClaim := { program := "ytgkgicmobpnefaa", sum := "424011e2fb0bc8e62354d9e12883445e4211fd746d1a2b72bc4dc1b319c56df0", func := "loop.example/g00146/laws.FnExactViewSpot", spec := "fnExactViewSpot", unfollowed := true, recurses := true, apart := false, narrowed := true }
def FnExactViewSpotUptoSaid : Prop := fnExactViewSpotUptoRow.holds Try.pinned (OpenSpec.upto fnExactViewSpotSpec)

/-- 'laws.FnExactNodesRight', WHERE WHAT IT READS IS OF BULK AT MOST 1048576: true; the input reads as it did. -/
def fnExactNodesRightUptoRow : OpenClaim := { program := "ytgkgicmobpnefaa", sum := "424011e2fb0bc8e62354d9e12883445e4211fd746d1a2b72bc4dc1b319c56df0", func := "loop.example/g00146/laws.FnExactNodesRight", spec := "fnExactNodesRight", unfollowed := true, recurses := true, apart := false, narrowed := true }
def FnExactNodesRightUptoSaid : Prop := fnExactNodesRightUptoRow.holds Try.pinned (OpenSpec.upto fnExactNodesRightSpec)

end Rows
end Go.Proofs.Ytgkgicmobpnefaa
