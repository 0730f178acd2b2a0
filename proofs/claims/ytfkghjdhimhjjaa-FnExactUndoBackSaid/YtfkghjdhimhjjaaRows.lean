/-
  No cell of these rows narrows 'for every input' (looked for: loops, veiled, ifaces, maps, wideKeys, modest, calm, conditions, laid).
  DERIVED. THE GIVEN ROWS OF THIS SEAT. 6 by the template 'for every input the law returns true; each argument reads behind the call as it read before'; 0 by the template 'total and deterministic' (their statements: YtfkghjdhimhjjaaTotals.lean).
  GIVEN WITH THE SEED: the statements are not yours to turn. If you find one false, say at which input.
  Laid BY PROGRAM, IN A SANDBOX (cutbox-rows.mjs): the forced cells as the released guide's own fill.sh prints them over the translation 9173b9ea75592f8b… (all of the seat's roots in one cut). By AI agents, Wed Nov 11 2026. No macro, syntax, notation, axiom, sorry.
-/
import Derived.Test.YtfkghjdhimhjjaaChecked
import GoSem.Claim
import GoSem.ClaimJoined
import GoSem.ClaimMapViews
import Derived.JoinedTies
import Derived.KernelRfl
namespace Go.Proofs.Ytfkghjdhimhjjaa
/- THE CELL 'sum', in the pinned program and in every row, IS THE sha256 OF THE DUMP (.gsa) THAT YtfkghjdhimhjjaaProg.lean LOADS. Nothing in Lean hashes anything: it is a label: what it is worth is what the hold of that sum in a sandbox is worth. -/
noncomputable def Try.pinned : Pinned := { name := "ytfkghjdhimhjjaa", sum := "9173b9ea75592f8bb058feeab2a476d0ba3bc0f93b3ebc90fad9d5288eef498f", checked := Try.checked }
namespace Rows
def none {H : Type} : Left H := { results := [], args := [] }

/-- 'laws.FnExactGridRow': WHATEVER THE INPUT: true; the input reads as it did. -/
def fnExactGridRowSpec : ChangeSpec := { name := "fnExactGridRow", fn := fun _ => fun
  | [d1, d2] => { results := [.lit (.bool true)], args := [d1, d2] }
  | _ => none }
def fnExactGridRowRow : OpenClaim := { program := "ytfkghjdhimhjjaa", sum := "9173b9ea75592f8bb058feeab2a476d0ba3bc0f93b3ebc90fad9d5288eef498f", func := "loop.example/g00146/laws.FnExactGridRow", spec := "fnExactGridRow", apart := false }
def FnExactGridRowSaid : Prop := fnExactGridRowRow.holds Try.pinned (OpenSpec.ofChange fnExactGridRowSpec)

/-- ITS FALSE NEIGHBOUR: 'it returns false'. Refute it at one input. -/
def fnExactGridRowWrong : ChangeSpec := { name := "fnExactGridRow", fn := fun _ => fun
  | [d1, d2] => { results := [.lit (.bool false)], args := [d1, d2] }
  | _ => none }
def FnExactGridRowWrongFalsely : Prop := fnExactGridRowRow.holds Try.pinned (OpenSpec.ofChange fnExactGridRowWrong)

/-- 'laws.FnUndo': WHATEVER THE INPUT: true; the input reads as it did. -/
def fnUndoSpec : ChangeSpec := { name := "fnUndo", fn := fun _ => fun
  | [d] => { results := [.lit (.bool true)], args := [d] }
  | _ => none }
def fnUndoRow : OpenClaim := { program := "ytfkghjdhimhjjaa", sum := "9173b9ea75592f8bb058feeab2a476d0ba3bc0f93b3ebc90fad9d5288eef498f", func := "loop.example/g00146/laws.FnUndo", spec := "fnUndo", unfollowed := true, recurses := true, apart := false }
def FnUndoSaid : Prop := fnUndoRow.holds Try.pinned (OpenSpec.ofChange fnUndoSpec)

/-- ITS FALSE NEIGHBOUR: 'it returns false'. Refute it at one input. -/
def fnUndoWrong : ChangeSpec := { name := "fnUndo", fn := fun _ => fun
  | [d] => { results := [.lit (.bool false)], args := [d] }
  | _ => none }
def FnUndoWrongFalsely : Prop := fnUndoRow.holds Try.pinned (OpenSpec.ofChange fnUndoWrong)

/-- 'laws.FnExactHistAdd': WHATEVER THE INPUT: true; the input reads as it did. -/
def fnExactHistAddSpec : ChangeSpec := { name := "fnExactHistAdd", fn := fun _ => fun
  | [d1, d2] => { results := [.lit (.bool true)], args := [d1, d2] }
  | _ => none }
def fnExactHistAddRow : OpenClaim := { program := "ytfkghjdhimhjjaa", sum := "9173b9ea75592f8bb058feeab2a476d0ba3bc0f93b3ebc90fad9d5288eef498f", func := "loop.example/g00146/laws.FnExactHistAdd", spec := "fnExactHistAdd", unfollowed := true, recurses := true, apart := false }
def FnExactHistAddSaid : Prop := fnExactHistAddRow.holds Try.pinned (OpenSpec.ofChange fnExactHistAddSpec)

/-- ITS FALSE NEIGHBOUR: 'it returns false'. Refute it at one input. -/
def fnExactHistAddWrong : ChangeSpec := { name := "fnExactHistAdd", fn := fun _ => fun
  | [d1, d2] => { results := [.lit (.bool false)], args := [d1, d2] }
  | _ => none }
def FnExactHistAddWrongFalsely : Prop := fnExactHistAddRow.holds Try.pinned (OpenSpec.ofChange fnExactHistAddWrong)

/-- 'laws.FnExactUndoNote': WHATEVER THE INPUT: true; the input reads as it did. -/
def fnExactUndoNoteSpec : ChangeSpec := { name := "fnExactUndoNote", fn := fun _ => fun
  | [d1, d2] => { results := [.lit (.bool true)], args := [d1, d2] }
  | _ => none }
def fnExactUndoNoteRow : OpenClaim := { program := "ytfkghjdhimhjjaa", sum := "9173b9ea75592f8bb058feeab2a476d0ba3bc0f93b3ebc90fad9d5288eef498f", func := "loop.example/g00146/laws.FnExactUndoNote", spec := "fnExactUndoNote", unfollowed := true, recurses := true, apart := false }
def FnExactUndoNoteSaid : Prop := fnExactUndoNoteRow.holds Try.pinned (OpenSpec.ofChange fnExactUndoNoteSpec)

/-- ITS FALSE NEIGHBOUR: 'it returns false'. Refute it at one input. -/
def fnExactUndoNoteWrong : ChangeSpec := { name := "fnExactUndoNote", fn := fun _ => fun
  | [d1, d2] => { results := [.lit (.bool false)], args := [d1, d2] }
  | _ => none }
def FnExactUndoNoteWrongFalsely : Prop := fnExactUndoNoteRow.holds Try.pinned (OpenSpec.ofChange fnExactUndoNoteWrong)

/-- 'laws.FnExactUndoBack': WHATEVER THE INPUT: true; the input reads as it did. -/
def fnExactUndoBackSpec : ChangeSpec := { name := "fnExactUndoBack", fn := fun _ => fun
  | [d1, d2] => { results := [.lit (.bool true)], args := [d1, d2] }
  | _ => none }
def fnExactUndoBackRow : OpenClaim := { program := "ytfkghjdhimhjjaa", sum := "9173b9ea75592f8bb058feeab2a476d0ba3bc0f93b3ebc90fad9d5288eef498f", func := "loop.example/g00146/laws.FnExactUndoBack", spec := "fnExactUndoBack", unfollowed := true, recurses := true, apart := false }
def FnExactUndoBackSaid : Prop := fnExactUndoBackRow.holds Try.pinned (OpenSpec.ofChange fnExactUndoBackSpec)

/-- ITS FALSE NEIGHBOUR: 'it returns false'. Refute it at one input. -/
def fnExactUndoBackWrong : ChangeSpec := { name := "fnExactUndoBack", fn := fun _ => fun
  | [d1, d2] => { results := [.lit (.bool false)], args := [d1, d2] }
  | _ => none }
def FnExactUndoBackWrongFalsely : Prop := fnExactUndoBackRow.holds Try.pinned (OpenSpec.ofChange fnExactUndoBackWrong)

/-- 'laws.FnExactUndoForth': WHATEVER THE INPUT: true; the input reads as it did. -/
def fnExactUndoForthSpec : ChangeSpec := { name := "fnExactUndoForth", fn := fun _ => fun
  | [d1, d2] => { results := [.lit (.bool true)], args := [d1, d2] }
  | _ => none }
def fnExactUndoForthRow : OpenClaim := { program := "ytfkghjdhimhjjaa", sum := "9173b9ea75592f8bb058feeab2a476d0ba3bc0f93b3ebc90fad9d5288eef498f", func := "loop.example/g00146/laws.FnExactUndoForth", spec := "fnExactUndoForth", unfollowed := true, recurses := true, apart := false }
def FnExactUndoForthSaid : Prop := fnExactUndoForthRow.holds Try.pinned (OpenSpec.ofChange fnExactUndoForthSpec)

/-- ITS FALSE NEIGHBOUR: 'it returns false'. Refute it at one input. -/
def fnExactUndoForthWrong : ChangeSpec := { name := "fnExactUndoForth", fn := fun _ => fun
  | [d1, d2] => { results := [.lit (.bool false)], args := [d1, d2] }
  | _ => none }
def FnExactUndoForthWrongFalsely : Prop := fnExactUndoForthRow.holds Try.pinned (OpenSpec.ofChange fnExactUndoForthWrong)

/- THE SECOND FORM. 'bulk': how many values and letters a reading holds, each counted each time it is reached (what is shared counts as often as it is met; a slice's spare places count too). A statement '..UptoSaid' is the law's where the arguments, and the package variables that the reading takes, are together of bulk at most 1048576: NARROWER than '..Said'. Prove '..Said' where nothing that the law and all that it calls make is longer than what came in: it says more and counts as full. Else prove '..UptoSaid'. A law counts once. -/
mutual
def uptoBulk {H : Type} : DataW H → Nat
  | .lit (.string bytes) => bytes.length + 1
  | .lit _ => 1
  | .nil => 1
  | .ptr d => uptoBulk d + 1
  | .slice elems spare => uptoBulkAll elems + uptoBulkAll spare + 1
  | .agg parts => uptoBulkAll parts + 1
  | .iface _ d => uptoBulk d + 1
  | .map entries => uptoBulkEntries entries + 1
  | .held _ => 1
def uptoBulkAll {H : Type} : List (DataW H) → Nat
  | [] => 0
  | d :: r => uptoBulk d + uptoBulkAll r
def uptoBulkEntries {H : Type} : List (Lit × DataW H) → Nat
  | [] => 0
  | x :: r => uptoBulkEntry x + uptoBulkEntries r
def uptoBulkEntry {H : Type} : Lit × DataW H → Nat
  | (.string bytes, d) => bytes.length + uptoBulk d + 1
  | (_, d) => uptoBulk d + 1
 end
def uptoSmall : (H : Type) → List (DataW H) → Bool := fun _ ds => decide (uptoBulkAll ds ≤ 1048576)
def OpenSpec.upto (s : _root_.Go.ChangeSpec) : _root_.Go.OpenSpec := { _root_.Go.OpenSpec.ofChange s with cond := some uptoSmall }

/-- 'laws.FnExactGridRow', WHERE WHAT IT READS IS OF BULK AT MOST 1048576: true; the input reads as it did. -/
def fnExactGridRowUptoRow : OpenClaim := { program := "ytfkghjdhimhjjaa", sum := "9173b9ea75592f8bb058feeab2a476d0ba3bc0f93b3ebc90fad9d5288eef498f", func := "loop.example/g00146/laws.FnExactGridRow", spec := "fnExactGridRow", apart := false, narrowed := true }
def FnExactGridRowUptoSaid : Prop := fnExactGridRowUptoRow.holds Try.pinned (OpenSpec.upto fnExactGridRowSpec)

/-- 'laws.FnUndo', WHERE WHAT IT READS IS OF BULK AT MOST 1048576: true; the input reads as it did. -/
def fnUndoUptoRow : OpenClaim := { program := "ytfkghjdhimhjjaa", sum := "9173b9ea75592f8bb058feeab2a476d0ba3bc0f93b3ebc90fad9d5288eef498f", func := "loop.example/g00146/laws.FnUndo", spec := "fnUndo", unfollowed := true, recurses := true, apart := false, narrowed := true }
def FnUndoUptoSaid : Prop := fnUndoUptoRow.holds Try.pinned (OpenSpec.upto fnUndoSpec)

/-- 'laws.FnExactHistAdd', WHERE WHAT IT READS IS OF BULK AT MOST 1048576: true; the input reads as it did. -/
def fnExactHistAddUptoRow : OpenClaim := { program := "ytfkghjdhimhjjaa", sum := "9173b9ea75592f8bb058feeab2a476d0ba3bc0f93b3ebc90fad9d5288eef498f", func := "loop.example/g00146/laws.FnExactHistAdd", spec := "fnExactHistAdd", unfollowed := true, recurses := true, apart := false, narrowed := true }
def FnExactHistAddUptoSaid : Prop := fnExactHistAddUptoRow.holds Try.pinned (OpenSpec.upto fnExactHistAddSpec)

/-- 'laws.FnExactUndoNote', WHERE WHAT IT READS IS OF BULK AT MOST 1048576: true; the input reads as it did. -/
def fnExactUndoNoteUptoRow : OpenClaim := { program := "ytfkghjdhimhjjaa", sum := "9173b9ea75592f8bb058feeab2a476d0ba3bc0f93b3ebc90fad9d5288eef498f", func := "loop.example/g00146/laws.FnExactUndoNote", spec := "fnExactUndoNote", unfollowed := true, recurses := true, apart := false, narrowed := true }
def FnExactUndoNoteUptoSaid : Prop := fnExactUndoNoteUptoRow.holds Try.pinned (OpenSpec.upto fnExactUndoNoteSpec)

/-- 'laws.FnExactUndoBack', WHERE WHAT IT READS IS OF BULK AT MOST 1048576: true; the input reads as it did. -/
def fnExactUndoBackUptoRow : OpenClaim := { program := "ytfkghjdhimhjjaa", sum := "9173b9ea75592f8bb058feeab2a476d0ba3bc0f93b3ebc90fad9d5288eef498f", func := "loop.example/g00146/laws.FnExactUndoBack", spec := "fnExactUndoBack", unfollowed := true, recurses := true, apart := false, narrowed := true }
def FnExactUndoBackUptoSaid : Prop := fnExactUndoBackUptoRow.holds Try.pinned (OpenSpec.upto fnExactUndoBackSpec)

/-- 'laws.FnExactUndoForth', WHERE WHAT IT READS IS OF BULK AT MOST 1048576: true; the input reads as it did. -/
def fnExactUndoForthUptoRow : OpenClaim := { program := "ytfkghjdhimhjjaa", sum := "9173b9ea75592f8bb058feeab2a476d0ba3bc0f93b3ebc90fad9d5288eef498f", func := "loop.example/g00146/laws.FnExactUndoForth", spec := "fnExactUndoForth", unfollowed := true, recurses := true, apart := false, narrowed := true }
def FnExactUndoForthUptoSaid : Prop := fnExactUndoForthUptoRow.holds Try.pinned (OpenSpec.upto fnExactUndoForthSpec)

end Rows
end Go.Proofs.Ytfkghjdhimhjjaa
