/-
  No cell of these rows narrows 'for every input' (looked for: loops, veiled, ifaces, maps, wideKeys, modest, calm, conditions, laid).
  DERIVED. THE GIVEN ROWS OF THIS SEAT. 6 by the template 'for every input the law returns true; each argument reads behind the call as it read before'; 0 by the template 'total and deterministic' (their statements: YtegadjijonlmcaaTotals.lean).
  GIVEN WITH THE SEED: the statements are not yours to turn. If you find one false, say at which input.
  Laid BY PROGRAM, IN A SANDBOX (cutbox-rows.mjs): the forced cells as the released guide's own fill.sh prints them over the translation a73b5644821ab211… (all of the seat's roots in one cut). By AI agents, Wed Nov 11 2026. No macro, syntax, notation, axiom, sorry.
-/
import Derived.Test.YtegadjijonlmcaaChecked
import GoSem.Claim
import GoSem.ClaimJoined
import GoSem.ClaimMapViews
import Derived.JoinedTies
import Derived.KernelRfl
namespace Go.Proofs.Ytegadjijonlmcaa
/- THE CELL 'sum', in the pinned program and in every row, IS THE sha256 OF THE DUMP (.gsa) THAT YtegadjijonlmcaaProg.lean LOADS. Nothing in Lean hashes anything: it is a label: what it is worth is what the hold of that sum in a sandbox is worth. -/
noncomputable def Try.pinned : Pinned := { name := "ytegadjijonlmcaa", sum := "a73b5644821ab211f62f1326ca40ed579081298bf30e2810f9897429675da578", checked := Try.checked }
namespace Rows
def none {H : Type} : Left H := { results := [], args := [] }

/-- 'laws.FnExactBufMove': WHATEVER THE INPUT: true; the input reads as it did. -/
def fnExactBufMoveSpec : ChangeSpec := { name := "fnExactBufMove", fn := fun _ => fun
  | [d1, d2, d3, d4] => { results := [.lit (.bool true)], args := [d1, d2, d3, d4] }
  | _ => none }
def fnExactBufMoveRow : OpenClaim := { program := "ytegadjijonlmcaa", sum := "a73b5644821ab211f62f1326ca40ed579081298bf30e2810f9897429675da578", func := "loop.example/g00146/laws.FnExactBufMove", spec := "fnExactBufMove", unfollowed := true, recurses := true, apart := false }
def FnExactBufMoveSaid : Prop := fnExactBufMoveRow.holds Try.pinned (OpenSpec.ofChange fnExactBufMoveSpec)

/-- ITS FALSE NEIGHBOUR: 'it returns false'. Refute it at one input. -/
def fnExactBufMoveWrong : ChangeSpec := { name := "fnExactBufMove", fn := fun _ => fun
  | [d1, d2, d3, d4] => { results := [.lit (.bool false)], args := [d1, d2, d3, d4] }
  | _ => none }
def FnExactBufMoveWrongFalsely : Prop := fnExactBufMoveRow.holds Try.pinned (OpenSpec.ofChange fnExactBufMoveWrong)

/-- 'laws.FnExactMotion': WHATEVER THE INPUT: true; the input reads as it did. -/
def fnExactMotionSpec : ChangeSpec := { name := "fnExactMotion", fn := fun _ => fun
  | [d1, d2, d3, d4] => { results := [.lit (.bool true)], args := [d1, d2, d3, d4] }
  | _ => none }
def fnExactMotionRow : OpenClaim := { program := "ytegadjijonlmcaa", sum := "a73b5644821ab211f62f1326ca40ed579081298bf30e2810f9897429675da578", func := "loop.example/g00146/laws.FnExactMotion", spec := "fnExactMotion", unfollowed := true, recurses := true, apart := false }
def FnExactMotionSaid : Prop := fnExactMotionRow.holds Try.pinned (OpenSpec.ofChange fnExactMotionSpec)

/-- ITS FALSE NEIGHBOUR: 'it returns false'. Refute it at one input. -/
def fnExactMotionWrong : ChangeSpec := { name := "fnExactMotion", fn := fun _ => fun
  | [d1, d2, d3, d4] => { results := [.lit (.bool false)], args := [d1, d2, d3, d4] }
  | _ => none }
def FnExactMotionWrongFalsely : Prop := fnExactMotionRow.holds Try.pinned (OpenSpec.ofChange fnExactMotionWrong)

/-- 'laws.FnExactRingTurn': WHATEVER THE INPUT: true; the input reads as it did. -/
def fnExactRingTurnSpec : ChangeSpec := { name := "fnExactRingTurn", fn := fun _ => fun
  | [d] => { results := [.lit (.bool true)], args := [d] }
  | _ => none }
def fnExactRingTurnRow : OpenClaim := { program := "ytegadjijonlmcaa", sum := "a73b5644821ab211f62f1326ca40ed579081298bf30e2810f9897429675da578", func := "loop.example/g00146/laws.FnExactRingTurn", spec := "fnExactRingTurn", unfollowed := true, recurses := true, apart := false }
def FnExactRingTurnSaid : Prop := fnExactRingTurnRow.holds Try.pinned (OpenSpec.ofChange fnExactRingTurnSpec)

/-- ITS FALSE NEIGHBOUR: 'it returns false'. Refute it at one input. -/
def fnExactRingTurnWrong : ChangeSpec := { name := "fnExactRingTurn", fn := fun _ => fun
  | [d] => { results := [.lit (.bool false)], args := [d] }
  | _ => none }
def FnExactRingTurnWrongFalsely : Prop := fnExactRingTurnRow.holds Try.pinned (OpenSpec.ofChange fnExactRingTurnWrong)

/-- 'laws.FnExactGridNew': WHATEVER THE INPUT: true; the input reads as it did. -/
def fnExactGridNewSpec : ChangeSpec := { name := "fnExactGridNew", fn := fun _ => fun
  | [d1, d2] => { results := [.lit (.bool true)], args := [d1, d2] }
  | _ => none }
def fnExactGridNewRow : OpenClaim := { program := "ytegadjijonlmcaa", sum := "a73b5644821ab211f62f1326ca40ed579081298bf30e2810f9897429675da578", func := "loop.example/g00146/laws.FnExactGridNew", spec := "fnExactGridNew", apart := false }
def FnExactGridNewSaid : Prop := fnExactGridNewRow.holds Try.pinned (OpenSpec.ofChange fnExactGridNewSpec)

/-- ITS FALSE NEIGHBOUR: 'it returns false'. Refute it at one input. -/
def fnExactGridNewWrong : ChangeSpec := { name := "fnExactGridNew", fn := fun _ => fun
  | [d1, d2] => { results := [.lit (.bool false)], args := [d1, d2] }
  | _ => none }
def FnExactGridNewWrongFalsely : Prop := fnExactGridNewRow.holds Try.pinned (OpenSpec.ofChange fnExactGridNewWrong)

/-- 'laws.FnExactHistAdd': WHATEVER THE INPUT: true; the input reads as it did. -/
def fnExactHistAddSpec : ChangeSpec := { name := "fnExactHistAdd", fn := fun _ => fun
  | [d1, d2] => { results := [.lit (.bool true)], args := [d1, d2] }
  | _ => none }
def fnExactHistAddRow : OpenClaim := { program := "ytegadjijonlmcaa", sum := "a73b5644821ab211f62f1326ca40ed579081298bf30e2810f9897429675da578", func := "loop.example/g00146/laws.FnExactHistAdd", spec := "fnExactHistAdd", unfollowed := true, recurses := true, apart := false }
def FnExactHistAddSaid : Prop := fnExactHistAddRow.holds Try.pinned (OpenSpec.ofChange fnExactHistAddSpec)

/-- ITS FALSE NEIGHBOUR: 'it returns false'. Refute it at one input. -/
def fnExactHistAddWrong : ChangeSpec := { name := "fnExactHistAdd", fn := fun _ => fun
  | [d1, d2] => { results := [.lit (.bool false)], args := [d1, d2] }
  | _ => none }
def FnExactHistAddWrongFalsely : Prop := fnExactHistAddRow.holds Try.pinned (OpenSpec.ofChange fnExactHistAddWrong)

/-- 'laws.FnExactHistUp': WHATEVER THE INPUT: true; the input reads as it did. -/
def fnExactHistUpSpec : ChangeSpec := { name := "fnExactHistUp", fn := fun _ => fun
  | [d1, d2, d3] => { results := [.lit (.bool true)], args := [d1, d2, d3] }
  | _ => none }
def fnExactHistUpRow : OpenClaim := { program := "ytegadjijonlmcaa", sum := "a73b5644821ab211f62f1326ca40ed579081298bf30e2810f9897429675da578", func := "loop.example/g00146/laws.FnExactHistUp", spec := "fnExactHistUp", unfollowed := true, recurses := true, apart := false }
def FnExactHistUpSaid : Prop := fnExactHistUpRow.holds Try.pinned (OpenSpec.ofChange fnExactHistUpSpec)

/-- ITS FALSE NEIGHBOUR: 'it returns false'. Refute it at one input. -/
def fnExactHistUpWrong : ChangeSpec := { name := "fnExactHistUp", fn := fun _ => fun
  | [d1, d2, d3] => { results := [.lit (.bool false)], args := [d1, d2, d3] }
  | _ => none }
def FnExactHistUpWrongFalsely : Prop := fnExactHistUpRow.holds Try.pinned (OpenSpec.ofChange fnExactHistUpWrong)

/- THE SECOND FORM. 'bulk': how many values and letters a reading holds, each counted each time it is reached (what is shared counts as often as it is met; a slice's spare places count too). A statement '..UptoSaid' is the law's where the arguments, and the package variables that the reading takes, are together of bulk at most 1048576: NARROWER than '..Said'. Prove '..Said' where nothing that the law and all that it calls make is longer than what came in: it says more and counts as full. Else prove '..UptoSaid'. A law counts once. -/
mutual
def uptoBulk {H : Type} : DataW H → Nat
  | .lit (.string bytes) => bytes.length + 1
  | .lit _ => 1
  | .nil => 1
  | .ptr d => uptoBulk d + 1
  | .slice elems spare => uptoBulkAll elems + uptoBulkAll spare + 1
  | .agg parts => uptoBulkAll parts + 1
  | .iface _ d => uptoBulk d + 1
  | .map entries => uptoBulkEntries entries + 1
  | .held _ => 1
def uptoBulkAll {H : Type} : List (DataW H) → Nat
  | [] => 0
  | d :: r => uptoBulk d + uptoBulkAll r
def uptoBulkEntries {H : Type} : List (Lit × DataW H) → Nat
  | [] => 0
  | x :: r => uptoBulkEntry x + uptoBulkEntries r
def uptoBulkEntry {H : Type} : Lit × DataW H → Nat
  | (.string bytes, d) => bytes.length + uptoBulk d + 1
  | (_, d) => uptoBulk d + 1
 end
def uptoSmall : (H : Type) → List (DataW H) → Bool := fun _ ds => decide (uptoBulkAll ds ≤ 1048576)
def OpenSpec.upto (s : _root_.Go.ChangeSpec) : _root_.Go.OpenSpec := { _root_.Go.OpenSpec.ofChange s with cond := some uptoSmall }

/-- 'laws.FnExactBufMove', WHERE WHAT IT READS IS OF BULK AT MOST 1048576: true; the input reads as it did. -/
def fnExactBufMoveUptoRow : OpenClaim := { program := "ytegadjijonlmcaa", sum := "a73b5644821ab211f62f1326ca40ed579081298bf30e2810f9897429675da578", func := "loop.example/g00146/laws.FnExactBufMove", spec := "fnExactBufMove", unfollowed := true, recurses := true, apart := false, narrowed := true }
def FnExactBufMoveUptoSaid : Prop := fnExactBufMoveUptoRow.holds Try.pinned (OpenSpec.upto fnExactBufMoveSpec)

/-- 'laws.FnExactMotion', WHERE WHAT IT READS IS OF BULK AT MOST 1048576: true; the input reads as it did. -/
def fnExactMotionUptoRow : OpenClaim := { program := "ytegadjijonlmcaa", sum := "a73b5644821ab211f62f1326ca40ed579081298bf30e2810f9897429675da578", func := "loop.example/g00146/laws.FnExactMotion", spec := "fnExactMotion", unfollowed := true, recurses := true, apart := false, narrowed := true }
def FnExactMotionUptoSaid : Prop := fnExactMotionUptoRow.holds Try.pinned (OpenSpec.upto fnExactMotionSpec)

/-- 'laws.FnExactRingTurn', WHERE WHAT IT READS IS OF BULK AT MOST 1048576: true; the input reads as it did. -/
def fnExactRingTurnUptoRow : OpenClaim := { program := "ytegadjijonlmcaa", sum := "a73b5644821ab211f62f1326ca40ed579081298bf30e2810f9897429675da578", func := "loop.example/g00146/laws.FnExactRingTurn", spec := "fnExactRingTurn", unfollowed := true, recurses := true, apart := false, narrowed := true }
def FnExactRingTurnUptoSaid : Prop := fnExactRingTurnUptoRow.holds Try.pinned (OpenSpec.upto fnExactRingTurnSpec)

/-- 'laws.FnExactGridNew', WHERE WHAT IT READS IS OF BULK AT MOST 1048576: true; the input reads as it did. -/
def fnExactGridNewUptoRow : OpenClaim := { program := "ytegadjijonlmcaa", sum := "a73b5644821ab211f62f1326ca40ed579081298bf30e2810f9897429675da578", func := "loop.example/g00146/laws.FnExactGridNew", spec := "fnExactGridNew", apart := false, narrowed := true }
def FnExactGridNewUptoSaid : Prop := fnExactGridNewUptoRow.holds Try.pinned (OpenSpec.upto fnExactGridNewSpec)

/-- 'laws.FnExactHistAdd', WHERE WHAT IT READS IS OF BULK AT MOST 1048576: true; the input reads as it did. -/
def fnExactHistAddUptoRow : OpenClaim := { program := "ytegadjijonlmcaa", sum := "a73b5644821ab211f62f1326ca40ed579081298bf30e2810f9897429675da578", func := "loop.example/g00146/laws.FnExactHistAdd", spec := "fnExactHistAdd", unfollowed := true, recurses := true, apart := false, narrowed := true }
def FnExactHistAddUptoSaid : Prop := fnExactHistAddUptoRow.holds Try.pinned (OpenSpec.upto fnExactHistAddSpec)

/-- 'laws.FnExactHistUp', WHERE WHAT IT READS IS OF BULK AT MOST 1048576: true; the input reads as it did. -/
def fnExactHistUpUptoRow : OpenClaim := { program := "ytegadjijonlmcaa", sum := "a73b5644821ab211f62f1326ca40ed579081298bf30e2810f9897429675da578", func := "loop.example/g00146/laws.FnExactHistUp", spec := "fnExactHistUp", unfollowed := true, recurses := true, apart := false, narrowed := true }
def FnExactHistUpUptoSaid : Prop := fnExactHistUpUptoRow.holds Try.pinned (OpenSpec.upto fnExactHistUpSpec)

end Rows
end Go.Proofs.Ytegadjijonlmcaa
