/-
  No cell of these rows narrows 'for every input' (looked for: loops, veiled, ifaces, maps, wideKeys, modest, calm, conditions, laid).
  DERIVED. THE GIVEN ROWS OF THIS SEAT. 6 by the template 'for every input the law returns true; each argument reads behind the call as it read before'; 0 by the template 'total and deterministic' (their statements: YtefffjhnpojjlabTotals.lean).
  GIVEN WITH THE SEED: the statements are not yours to turn. If you find one false, say at which input.
  Laid BY PROGRAM, IN A SANDBOX (cutbox-rows.mjs): the forced cells as the released guide's own fill.sh prints them over the translation 2a41d562997b9762… (all of the seat's roots in one cut). By AI agents, Wed Nov 11 2026. No macro, syntax, notation, axiom, sorry.
-/
import Derived.Test.YtefffjhnpojjlabChecked
import GoSem.Claim
import GoSem.ClaimJoined
import GoSem.ClaimMapViews
import Derived.JoinedTies
import Derived.KernelRfl
namespace Go.Proofs.Ytefffjhnpojjlab
/- THE CELL 'sum', in the pinned program and in every row, IS THE sha256 OF THE DUMP (.gsa) THAT YtefffjhnpojjlabProg.lean LOADS. Nothing in Lean hashes anything: it is a label: what it is worth is what the hold of that sum in a sandbox is worth. -/
noncomputable def Try.pinned : Pinned := { name := "ytefffjhnpojjlab", sum := "2a41d562997b9762f9a454bc23575e7a5a9f272983205778cec4677350596947", checked := Try.checked }
namespace Rows
def none {H : Type} : Left H := { results := [], args := [] }

/-- 'laws.FnExactHistRight': WHATEVER THE INPUT: true; the input reads as it did. -/
def fnExactHistRightSpec : ChangeSpec := { name := "fnExactHistRight", fn := fun _ => fun
  | [d] => { results := [.lit (.bool true)], args := [d] }
  | _ => none }
def fnExactHistRightRow : OpenClaim := { program := "ytefffjhnpojjlab", sum := "2a41d562997b9762f9a454bc23575e7a5a9f272983205778cec4677350596947", func := "loop.example/g00146/laws.FnExactHistRight", spec := "fnExactHistRight", unfollowed := true, recurses := true, apart := false }
def FnExactHistRightSaid : Prop := fnExactHistRightRow.holds Try.pinned (OpenSpec.ofChange fnExactHistRightSpec)

/-- ITS FALSE NEIGHBOUR: 'it returns false'. Refute it at one input. -/
def fnExactHistRightWrong : ChangeSpec := { name := "fnExactHistRight", fn := fun _ => fun
  | [d] => { results := [.lit (.bool false)], args := [d] }
  | _ => none }
def FnExactHistRightWrongFalsely : Prop := fnExactHistRightRow.holds Try.pinned (OpenSpec.ofChange fnExactHistRightWrong)

/-- 'laws.FnExactKeysRight': WHATEVER THE INPUT: true; the input reads as it did. -/
def fnExactKeysRightSpec : ChangeSpec := { name := "fnExactKeysRight", fn := fun _ => fun
  | [d] => { results := [.lit (.bool true)], args := [d] }
  | _ => none }
def fnExactKeysRightRow : OpenClaim := { program := "ytefffjhnpojjlab", sum := "2a41d562997b9762f9a454bc23575e7a5a9f272983205778cec4677350596947", func := "loop.example/g00146/laws.FnExactKeysRight", spec := "fnExactKeysRight", inPlace := ["internal/bytealg.abigen_runtime_cmpstring"], apart := false }
def FnExactKeysRightSaid : Prop := fnExactKeysRightRow.holds Try.pinned (OpenSpec.ofChange fnExactKeysRightSpec)

/-- ITS FALSE NEIGHBOUR: 'it returns false'. Refute it at one input. -/
def fnExactKeysRightWrong : ChangeSpec := { name := "fnExactKeysRight", fn := fun _ => fun
  | [d] => { results := [.lit (.bool false)], args := [d] }
  | _ => none }
def FnExactKeysRightWrongFalsely : Prop := fnExactKeysRightRow.holds Try.pinned (OpenSpec.ofChange fnExactKeysRightWrong)

/-- 'laws.FnExactSpotOf': WHATEVER THE INPUT: true; the input reads as it did. -/
def fnExactSpotOfSpec : ChangeSpec := { name := "fnExactSpotOf", fn := fun _ => fun
  | [d1, d2] => { results := [.lit (.bool true)], args := [d1, d2] }
  | _ => none }
def fnExactSpotOfRow : OpenClaim := { program := "ytefffjhnpojjlab", sum := "2a41d562997b9762f9a454bc23575e7a5a9f272983205778cec4677350596947", func := "loop.example/g00146/laws.FnExactSpotOf", spec := "fnExactSpotOf", unfollowed := true, recurses := true, apart := false }
def FnExactSpotOfSaid : Prop := fnExactSpotOfRow.holds Try.pinned (OpenSpec.ofChange fnExactSpotOfSpec)

/-- ITS FALSE NEIGHBOUR: 'it returns false'. Refute it at one input. -/
def fnExactSpotOfWrong : ChangeSpec := { name := "fnExactSpotOf", fn := fun _ => fun
  | [d1, d2] => { results := [.lit (.bool false)], args := [d1, d2] }
  | _ => none }
def FnExactSpotOfWrongFalsely : Prop := fnExactSpotOfRow.holds Try.pinned (OpenSpec.ofChange fnExactSpotOfWrong)

/-- 'laws.FnWidths': WHATEVER THE INPUT: true; the input reads as it did. -/
def fnWidthsSpec : ChangeSpec := { name := "fnWidths", fn := fun _ => fun
  | [d] => { results := [.lit (.bool true)], args := [d] }
  | _ => none }
def fnWidthsRow : OpenClaim := { program := "ytefffjhnpojjlab", sum := "2a41d562997b9762f9a454bc23575e7a5a9f272983205778cec4677350596947", func := "loop.example/g00146/laws.FnWidths", spec := "fnWidths", unfollowed := true, recurses := true, apart := false }
def FnWidthsSaid : Prop := fnWidthsRow.holds Try.pinned (OpenSpec.ofChange fnWidthsSpec)

/-- ITS FALSE NEIGHBOUR: 'it returns false'. Refute it at one input. -/
def fnWidthsWrong : ChangeSpec := { name := "fnWidths", fn := fun _ => fun
  | [d] => { results := [.lit (.bool false)], args := [d] }
  | _ => none }
def FnWidthsWrongFalsely : Prop := fnWidthsRow.holds Try.pinned (OpenSpec.ofChange fnWidthsWrong)

/-- 'laws.FnExactUndoRight': WHATEVER THE INPUT: true; the input reads as it did. -/
def fnExactUndoRightSpec : ChangeSpec := { name := "fnExactUndoRight", fn := fun _ => fun
  | [d] => { results := [.lit (.bool true)], args := [d] }
  | _ => none }
def fnExactUndoRightRow : OpenClaim := { program := "ytefffjhnpojjlab", sum := "2a41d562997b9762f9a454bc23575e7a5a9f272983205778cec4677350596947", func := "loop.example/g00146/laws.FnExactUndoRight", spec := "fnExactUndoRight", unfollowed := true, recurses := true, apart := false }
def FnExactUndoRightSaid : Prop := fnExactUndoRightRow.holds Try.pinned (OpenSpec.ofChange fnExactUndoRightSpec)

/-- ITS FALSE NEIGHBOUR: 'it returns false'. Refute it at one input. -/
def fnExactUndoRightWrong : ChangeSpec := { name := "fnExactUndoRight", fn := fun _ => fun
  | [d] => { results := [.lit (.bool false)], args := [d] }
  | _ => none }
def FnExactUndoRightWrongFalsely : Prop := fnExactUndoRightRow.holds Try.pinned (OpenSpec.ofChange fnExactUndoRightWrong)

/-- 'laws.FnExactGridSame': WHATEVER THE INPUT: true; the input reads as it did. -/
def fnExactGridSameSpec : ChangeSpec := { name := "fnExactGridSame", fn := fun _ => fun
  | [d1, d2] => { results := [.lit (.bool true)], args := [d1, d2] }
  | _ => none }
def fnExactGridSameRow : OpenClaim := { program := "ytefffjhnpojjlab", sum := "2a41d562997b9762f9a454bc23575e7a5a9f272983205778cec4677350596947", func := "loop.example/g00146/laws.FnExactGridSame", spec := "fnExactGridSame", unfollowed := true, recurses := true, apart := false }
def FnExactGridSameSaid : Prop := fnExactGridSameRow.holds Try.pinned (OpenSpec.ofChange fnExactGridSameSpec)

/-- ITS FALSE NEIGHBOUR: 'it returns false'. Refute it at one input. -/
def fnExactGridSameWrong : ChangeSpec := { name := "fnExactGridSame", fn := fun _ => fun
  | [d1, d2] => { results := [.lit (.bool false)], args := [d1, d2] }
  | _ => none }
def FnExactGridSameWrongFalsely : Prop := fnExactGridSameRow.holds Try.pinned (OpenSpec.ofChange fnExactGridSameWrong)

/- THE SECOND FORM. 'bulk': how many values and letters a reading holds, each counted each time it is reached (what is shared counts as often as it is met; a slice's spare places count too). A statement '..UptoSaid' is the law's where the arguments, and the package variables that the reading takes, are together of bulk at most 1048576: NARROWER than '..Said'. Prove '..Said' where nothing that the law and all that it calls make is longer than what came in: it says more and counts as full. Else prove '..UptoSaid'. A law counts once. -/
mutual
def uptoBulk {H : Type} : DataW H → Nat
  | .lit (.string bytes) => bytes.length + 1
  | .lit _ => 1
  | .nil => 1
  | .ptr d => uptoBulk d + 1
  | .slice elems spare => uptoBulkAll elems + uptoBulkAll spare + 1
  | .agg parts => uptoBulkAll parts + 1
  | .iface _ d => uptoBulk d + 1
  | .map entries => uptoBulkEntries entries + 1
  | .held _ => 1
def uptoBulkAll {H : Type} : List (DataW H) → Nat
  | [] => 0
  | d :: r => uptoBulk d + uptoBulkAll r
def uptoBulkEntries {H : Type} : List (Lit × DataW H) → Nat
  | [] => 0
  | x :: r => uptoBulkEntry x + uptoBulkEntries r
def uptoBulkEntry {H : Type} : Lit × DataW H → Nat
  | (.string bytes, d) => bytes.length + uptoBulk d + 1
  | (_, d) => uptoBulk d + 1
 end
def uptoSmall : (H : Type) → List (DataW H) → Bool := fun _ ds => decide (uptoBulkAll ds ≤ 1048576)
def OpenSpec.upto (s : _root_.Go.ChangeSpec) : _root_.Go.OpenSpec := { _root_.Go.OpenSpec.ofChange s with cond := some uptoSmall }

/-- 'laws.FnExactHistRight', WHERE WHAT IT READS IS OF BULK AT MOST 1048576: true; the input reads as it did. -/
def fnExactHistRightUptoRow : OpenClaim := { program := "ytefffjhnpojjlab", sum := "2a41d562997b9762f9a454bc23575e7a5a9f272983205778cec4677350596947", func := "loop.example/g00146/laws.FnExactHistRight", spec := "fnExactHistRight", unfollowed := true, recurses := true, apart := false, narrowed := true }
def FnExactHistRightUptoSaid : Prop := fnExactHistRightUptoRow.holds Try.pinned (OpenSpec.upto fnExactHistRightSpec)

/-- 'laws.FnExactKeysRight', WHERE WHAT IT READS IS OF BULK AT MOST 1048576: true; the input reads as it did. -/
def fnExactKeysRightUptoRow : OpenClaim := { program := "ytefffjhnpojjlab", sum := "2a41d562997b9762f9a454bc23575e7a5a9f272983205778cec4677350596947", func := "loop.example/g00146/laws.FnExactKeysRight", spec := "fnExactKeysRight", inPlace := ["internal/bytealg.abigen_runtime_cmpstring"], apart := false, narrowed := true }
def FnExactKeysRightUptoSaid : Prop := fnExactKeysRightUptoRow.holds Try.pinned (OpenSpec.upto fnExactKeysRightSpec)

/-- 'laws.FnExactSpotOf', WHERE WHAT IT READS IS OF BULK AT MOST 1048576: true; the input reads as it did. -/
def fnExactSpotOfUptoRow : OpenClaim := { program := "ytefffjhnpojjlab", sum := "2a41d562997b9762f9a454bc23575e7a5a9f272983205778cec4677350596947", func := "loop.example/g00146/laws.FnExactSpotOf", spec := "fnExactSpotOf", unfollowed := true, recurses := true, apart := false, narrowed := true }
def FnExactSpotOfUptoSaid : Prop := fnExactSpotOfUptoRow.holds Try.pinned (OpenSpec.upto fnExactSpotOfSpec)

/-- 'laws.FnWidths', WHERE WHAT IT READS IS OF BULK AT MOST 1048576: true; the input reads as it did. -/
def fnWidthsUptoRow : OpenClaim := { program := "ytefffjhnpojjlab", sum := "2a41d562997b9762f9a454bc23575e7a5a9f272983205778cec4677350596947", func := "loop.example/g00146/laws.FnWidths", spec := "fnWidths", unfollowed := true, recurses := true, apart := false, narrowed := true }
def FnWidthsUptoSaid : Prop := fnWidthsUptoRow.holds Try.pinned (OpenSpec.upto fnWidthsSpec)

/-- 'laws.FnExactUndoRight', WHERE WHAT IT READS IS OF BULK AT MOST 1048576: true; the input reads as it did. -/
def fnExactUndoRightUptoRow : OpenClaim := { program := "ytefffjhnpojjlab", sum := "2a41d562997b9762f9a454bc23575e7a5a9f272983205778cec4677350596947", func := "loop.example/g00146/laws.FnExactUndoRight", spec := "fnExactUndoRight", unfollowed := true, recurses := true, apart := false, narrowed := true }
def FnExactUndoRightUptoSaid : Prop := fnExactUndoRightUptoRow.holds Try.pinned (OpenSpec.upto fnExactUndoRightSpec)

/-- 'laws.FnExactGridSame', WHERE WHAT IT READS IS OF BULK AT MOST 1048576: true; the input reads as it did. -/
def fnExactGridSameUptoRow : OpenClaim := { program := "ytefffjhnpojjlab", sum := "2a41d562997b9762f9a454bc23575e7a5a9f272983205778cec4677350596947", func := "loop.example/g00146/laws.FnExactGridSame", spec := "fnExactGridSame", unfollowed := true, recurses := true, apart := false, narrowed := true }
def FnExactGridSameUptoSaid : Prop := fnExactGridSameUptoRow.holds Try.pinned (OpenSpec.upto fnExactGridSameSpec)

end Rows
end Go.Proofs.Ytefffjhnpojjlab
