/-
  No cell of these rows narrows 'for every input' (looked for: loops, veiled, ifaces, maps, wideKeys, modest, calm, conditions, laid).
  DERIVED. THE GIVEN ROWS OF THIS SEAT. 6 by the template 'for every input the law returns true; each argument reads behind the call as it read before'; 0 by the template 'total and deterministic' (their statements: YthcnhafdhjajpaaTotals.lean).
  GIVEN WITH THE SEED: the statements are not yours to turn. If you find one false, say at which input.
  Laid BY PROGRAM, IN A SANDBOX (cutbox-rows.mjs): the forced cells as the released guide's own fill.sh prints them over the translation cee229ed91704ed2… (all of the seat's roots in one cut). By AI agents, Wed Nov 11 2026. No macro, syntax, notation, axiom, sorry.
-/
import Derived.Test.YthcnhafdhjajpaaChecked
import GoSem.Claim
import GoSem.ClaimJoined
import GoSem.ClaimMapViews
import Derived.JoinedTies
import Derived.KernelRfl
namespace Go.Proofs.Ythcnhafdhjajpaa
/- THE CELL 'sum', in the pinned program and in every row, IS THE sha256 OF THE DUMP (.gsa) THAT YthcnhafdhjajpaaProg.lean LOADS. Nothing in Lean hashes anything: it is a label: what it is worth is what the hold of that sum in a sandbox is worth. -/
noncomputable def Try.pinned : Pinned := { name := "ythcnhafdhjajpaa", sum := "cee229ed91704ed2e636fbe2c68c9ca24d1f07c8060ff6bd4560ac51f12c17c1", checked := Try.checked }
namespace Rows
def none {H : Type} : Left H := { results := [], args := [] }

/-- 'laws.FnWidths': WHATEVER THE INPUT: true; the input reads as it did. -/
def fnWidthsSpec : ChangeSpec := { name := "fnWidths", fn := fun _ => fun
  | [d] => { results := [.lit (.bool true)], args := [d] }
  | _ => none }
def fnWidthsRow : OpenClaim := { program := "ythcnhafdhjajpaa", sum := "cee229ed91704ed2e636fbe2c68c9ca24d1f07c8060ff6bd4560ac51f12c17c1", func := "loop.example/g00146/laws.FnWidths", spec := "fnWidths", unfollowed := true, recurses := true, apart := false }
def FnWidthsSaid : Prop := fnWidthsRow.holds Try.pinned (OpenSpec.ofChange fnWidthsSpec)

/-- ITS FALSE NEIGHBOUR: 'it returns false'. Refute it at one input. -/
def fnWidthsWrong : ChangeSpec := { name := "fnWidths", fn := fun _ => fun
  | [d] => { results := [.lit (.bool false)], args := [d] }
  | _ => none }
def FnWidthsWrongFalsely : Prop := fnWidthsRow.holds Try.pinned (OpenSpec.ofChange fnWidthsWrong)

/-- 'laws.FnPlaces': WHATEVER THE INPUT: true; the input reads as it did. -/
def fnPlacesSpec : ChangeSpec := { name := "fnPlaces", fn := fun _ => fun
  | [d] => { results := [.lit (.bool true)], args := [d] }
  | _ => none }
def fnPlacesRow : OpenClaim := { program := "ythcnhafdhjajpaa", sum := "cee229ed91704ed2e636fbe2c68c9ca24d1f07c8060ff6bd4560ac51f12c17c1", func := "loop.example/g00146/laws.FnPlaces", spec := "fnPlaces", unfollowed := true, recurses := true, apart := false }
def FnPlacesSaid : Prop := fnPlacesRow.holds Try.pinned (OpenSpec.ofChange fnPlacesSpec)

/-- ITS FALSE NEIGHBOUR: 'it returns false'. Refute it at one input. -/
def fnPlacesWrong : ChangeSpec := { name := "fnPlaces", fn := fun _ => fun
  | [d] => { results := [.lit (.bool false)], args := [d] }
  | _ => none }
def FnPlacesWrongFalsely : Prop := fnPlacesRow.holds Try.pinned (OpenSpec.ofChange fnPlacesWrong)

/-- 'laws.FnExactKeysRight': WHATEVER THE INPUT: true; the input reads as it did. -/
def fnExactKeysRightSpec : ChangeSpec := { name := "fnExactKeysRight", fn := fun _ => fun
  | [d] => { results := [.lit (.bool true)], args := [d] }
  | _ => none }
def fnExactKeysRightRow : OpenClaim := { program := "ythcnhafdhjajpaa", sum := "cee229ed91704ed2e636fbe2c68c9ca24d1f07c8060ff6bd4560ac51f12c17c1", func := "loop.example/g00146/laws.FnExactKeysRight", spec := "fnExactKeysRight", inPlace := ["internal/bytealg.abigen_runtime_cmpstring"], apart := false }
def FnExactKeysRightSaid : Prop := fnExactKeysRightRow.holds Try.pinned (OpenSpec.ofChange fnExactKeysRightSpec)

/-- ITS FALSE NEIGHBOUR: 'it returns false'. Refute it at one input. -/
def fnExactKeysRightWrong : ChangeSpec := { name := "fnExactKeysRight", fn := fun _ => fun
  | [d] => { results := [.lit (.bool false)], args := [d] }
  | _ => none }
def FnExactKeysRightWrongFalsely : Prop := fnExactKeysRightRow.holds Try.pinned (OpenSpec.ofChange fnExactKeysRightWrong)

/-- 'laws.FnExactKeyLook': WHATEVER THE INPUT: true; the input reads as it did. -/
def fnExactKeyLookSpec : ChangeSpec := { name := "fnExactKeyLook", fn := fun _ => fun
  | [d1, d2, d3] => { results := [.lit (.bool true)], args := [d1, d2, d3] }
  | _ => none }
def fnExactKeyLookRow : OpenClaim := { program := "ythcnhafdhjajpaa", sum := "cee229ed91704ed2e636fbe2c68c9ca24d1f07c8060ff6bd4560ac51f12c17c1", func := "loop.example/g00146/laws.FnExactKeyLook", spec := "fnExactKeyLook", inPlace := ["internal/bytealg.abigen_runtime_cmpstring"], unfollowed := true, recurses := true, apart := false }
def FnExactKeyLookSaid : Prop := fnExactKeyLookRow.holds Try.pinned (OpenSpec.ofChange fnExactKeyLookSpec)

/-- ITS FALSE NEIGHBOUR: 'it returns false'. Refute it at one input. -/
def fnExactKeyLookWrong : ChangeSpec := { name := "fnExactKeyLook", fn := fun _ => fun
  | [d1, d2, d3] => { results := [.lit (.bool false)], args := [d1, d2, d3] }
  | _ => none }
def FnExactKeyLookWrongFalsely : Prop := fnExactKeyLookRow.holds Try.pinned (OpenSpec.ofChange fnExactKeyLookWrong)

/-- 'laws.FnHistFind': WHATEVER THE INPUT: true; the input reads as it did. -/
def fnHistFindSpec : ChangeSpec := { name := "fnHistFind", fn := fun _ => fun
  | [d] => { results := [.lit (.bool true)], args := [d] }
  | _ => none }
def fnHistFindRow : OpenClaim := { program := "ythcnhafdhjajpaa", sum := "cee229ed91704ed2e636fbe2c68c9ca24d1f07c8060ff6bd4560ac51f12c17c1", func := "loop.example/g00146/laws.FnHistFind", spec := "fnHistFind", unfollowed := true, recurses := true, apart := false }
def FnHistFindSaid : Prop := fnHistFindRow.holds Try.pinned (OpenSpec.ofChange fnHistFindSpec)

/-- ITS FALSE NEIGHBOUR: 'it returns false'. Refute it at one input. -/
def fnHistFindWrong : ChangeSpec := { name := "fnHistFind", fn := fun _ => fun
  | [d] => { results := [.lit (.bool false)], args := [d] }
  | _ => none }
def FnHistFindWrongFalsely : Prop := fnHistFindRow.holds Try.pinned (OpenSpec.ofChange fnHistFindWrong)

/-- 'laws.FnExactTextOf': WHATEVER THE INPUT: true; the input reads as it did. -/
def fnExactTextOfSpec : ChangeSpec := { name := "fnExactTextOf", fn := fun _ => fun
  | [d] => { results := [.lit (.bool true)], args := [d] }
  | _ => none }
def fnExactTextOfRow : OpenClaim := { program := "ythcnhafdhjajpaa", sum := "cee229ed91704ed2e636fbe2c68c9ca24d1f07c8060ff6bd4560ac51f12c17c1", func := "loop.example/g00146/laws.FnExactTextOf", spec := "fnExactTextOf", unfollowed := true, recurses := true, apart := false }
def FnExactTextOfSaid : Prop := fnExactTextOfRow.holds Try.pinned (OpenSpec.ofChange fnExactTextOfSpec)

/-- ITS FALSE NEIGHBOUR: 'it returns false'. Refute it at one input. -/
def fnExactTextOfWrong : ChangeSpec := { name := "fnExactTextOf", fn := fun _ => fun
  | [d] => { results := [.lit (.bool false)], args := [d] }
  | _ => none }
def FnExactTextOfWrongFalsely : Prop := fnExactTextOfRow.holds Try.pinned (OpenSpec.ofChange fnExactTextOfWrong)

/- THE SECOND FORM. 'bulk': how many values and letters a reading holds, each counted each time it is reached (what is shared counts as often as it is met; a slice's spare places count too). A statement '..UptoSaid' is the law's where the arguments, and the package variables that the reading takes, are together of bulk at most 1048576: NARROWER than '..Said'. Prove '..Said' where nothing that the law and all that it calls make is longer than what came in: it says more and counts as full. Else prove '..UptoSaid'. A law counts once. -/
mutual
def uptoBulk {H : Type} : DataW H → Nat
  | .lit (.string bytes) => bytes.length + 1
  | .lit _ => 1
  | .nil => 1
  | .ptr d => uptoBulk d + 1
  | .slice elems spare => uptoBulkAll elems + uptoBulkAll spare + 1
  | .agg parts => uptoBulkAll parts + 1
  | .iface _ d => uptoBulk d + 1
  | .map entries => uptoBulkEntries entries + 1
  | .held _ => 1
def uptoBulkAll {H : Type} : List (DataW H) → Nat
  | [] => 0
  | d :: r => uptoBulk d + uptoBulkAll r
def uptoBulkEntries {H : Type} : List (Lit × DataW H) → Nat
  | [] => 0
  | x :: r => uptoBulkEntry x + uptoBulkEntries r
def uptoBulkEntry {H : Type} : Lit × DataW H → Nat
  | (.string bytes, d) => bytes.length + uptoBulk d + 1
  | (_, d) => uptoBulk d + 1
 end
def uptoSmall : (H : Type) → List (DataW H) → Bool := fun _ ds => decide (uptoBulkAll ds ≤ 1048576)
def OpenSpec.upto (s : _root_.Go.ChangeSpec) : _root_.Go.OpenSpec := { _root_.Go.OpenSpec.ofChange s with cond := some uptoSmall }

/-- 'laws.FnWidths', WHERE WHAT IT READS IS OF BULK AT MOST 1048576: true; the input reads as it did. -/
def fnWidthsUptoRow : OpenClaim := { program := "ythcnhafdhjajpaa", sum := "cee229ed91704ed2e636fbe2c68c9ca24d1f07c8060ff6bd4560ac51f12c17c1", func := "loop.example/g00146/laws.FnWidths", spec := "fnWidths", unfollowed := true, recurses := true, apart := false, narrowed := true }
def FnWidthsUptoSaid : Prop := fnWidthsUptoRow.holds Try.pinned (OpenSpec.upto fnWidthsSpec)

/-- 'laws.FnPlaces', WHERE WHAT IT READS IS OF BULK AT MOST 1048576: true; the input reads as it did. -/
def fnPlacesUptoRow : OpenClaim := { program := "ythcnhafdhjajpaa", sum := "cee229ed91704ed2e636fbe2c68c9ca24d1f07c8060ff6bd4560ac51f12c17c1", func := "loop.example/g00146/laws.FnPlaces", spec := "fnPlaces", unfollowed := true, recurses := true, apart := false, narrowed := true }
def FnPlacesUptoSaid : Prop := fnPlacesUptoRow.holds Try.pinned (OpenSpec.upto fnPlacesSpec)

/-- 'laws.FnExactKeysRight', WHERE WHAT IT READS IS OF BULK AT MOST 1048576: true; the input reads as it did. -/
def fnExactKeysRightUptoRow : OpenClaim := { program := "ythcnhafdhjajpaa", sum := "cee229ed91704ed2e636fbe2c68c9ca24d1f07c8060ff6bd4560ac51f12c17c1", func := "loop.example/g00146/laws.FnExactKeysRight", spec := "fnExactKeysRight", inPlace := ["internal/bytealg.abigen_runtime_cmpstring"], apart := false, narrowed := true }
def FnExactKeysRightUptoSaid : Prop := fnExactKeysRightUptoRow.holds Try.pinned (OpenSpec.upto fnExactKeysRightSpec)

/-- 'laws.FnExactKeyLook', WHERE WHAT IT READS IS OF BULK AT MOST 1048576: true; the input reads as it did. -/
def fnExactKeyLookUptoRow : OpenClaim := { program := "ythcnhafdhjajpaa", sum := "cee229ed91704ed2e636fbe2c68c9ca24d1f07c8060ff6bd4560ac51f12c17c1", func := "loop.example/g00146/laws.FnExactKeyLook", spec := "fnExactKeyLook", inPlace := ["internal/bytealg.abigen_runtime_cmpstring"], unfollowed := true, recurses := true, apart := false, narrowed := true }
def FnExactKeyLookUptoSaid : Prop := fnExactKeyLookUptoRow.holds Try.pinned (OpenSpec.upto fnExactKeyLookSpec)

/-- 'laws.FnHistFind', WHERE WHAT IT READS IS OF BULK AT MOST 1048576: true; the input reads as it did. -/
def fnHistFindUptoRow : OpenClaim := { program := "ythcnhafdhjajpaa", sum := "cee229ed91704ed2e636fbe2c68c9ca24d1f07c8060ff6bd4560ac51f12c17c1", func := "loop.example/g00146/laws.FnHistFind", spec := "fnHistFind", unfollowed := true, recurses := true, apart := false, narrowed := true }
def FnHistFindUptoSaid : Prop := fnHistFindUptoRow.holds Try.pinned (OpenSpec.upto fnHistFindSpec)

/-- 'laws.FnExactTextOf', WHERE WHAT IT READS IS OF BULK AT MOST 1048576: true; the input reads as it did. -/
def fnExactTextOfUptoRow : OpenClaim := { program := "ythcnhafdhjajpaa", sum := "cee229ed91704ed2e636fbe2c68c9ca24d1f07c8060ff6bd4560ac51f12c17c1", func := "loop.example/g00146/laws.FnExactTextOf", spec := "fnExactTextOf", unfollowed := true, recurses := true, apart := false, narrowed := true }
def FnExactTextOfUptoSaid : Prop := fnExactTextOfUptoRow.holds Try.pinned (OpenSpec.upto fnExactTextOfSpec)

end Rows
end Go.Proofs.Ythcnhafdhjajpaa
