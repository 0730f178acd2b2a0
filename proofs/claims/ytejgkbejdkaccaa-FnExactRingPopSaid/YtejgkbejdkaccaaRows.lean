/-
  No cell of these rows narrows 'for every input' (looked for: loops, veiled, ifaces, maps, wideKeys, modest, calm, conditions, laid).
  DERIVED. THE GIVEN ROWS OF THIS SEAT. 6 by the template 'for every input the law returns true; each argument reads behind the call as it read before'; 0 by the template 'total and deterministic' (their statements: YtejgkbejdkaccaaTotals.lean).
  GIVEN WITH THE SEED: the statements are not yours to turn. If you find one false, say at which input.
  Laid BY PROGRAM, IN A SANDBOX (cutbox-rows.mjs): the forced cells as the released guide's own fill.sh prints them over the translation 4c10699deeff6651… (all of the seat's roots in one cut). By AI agents, Wed Nov 11 2026. No macro, syntax, notation, axiom, sorry.
-/
import Derived.Test.YtejgkbejdkaccaaChecked
import GoSem.Claim
import GoSem.ClaimJoined
import GoSem.ClaimMapViews
import Derived.JoinedTies
import Derived.KernelRfl
namespace Go.Proofs.Ytejgkbejdkaccaa
/- THE CELL 'sum', in the pinned program and in every row, IS THE sha256 OF THE DUMP (.gsa) THAT YtejgkbejdkaccaaProg.lean LOADS. Nothing in Lean hashes anything: it is a label: what it is worth is what the hold of that sum in a sandbox is worth. -/
noncomputable def Try.pinned : Pinned := { name := "ytejgkbejdkaccaa", sum := "4c10699deeff6651b11d0f01380f3372b706f8e7f10bbf2c647000803726b783", checked := Try.checked }
namespace Rows
def none {H : Type} : Left H := { results := [], args := [] }

/-- 'laws.FnExactBufReplace': WHATEVER THE INPUT: true; the input reads as it did. -/
def fnExactBufReplaceSpec : ChangeSpec := { name := "fnExactBufReplace", fn := fun _ => fun
  | [d1, d2, d3, d4] => { results := [.lit (.bool true)], args := [d1, d2, d3, d4] }
  | _ => none }
def fnExactBufReplaceRow : OpenClaim := { program := "ytejgkbejdkaccaa", sum := "4c10699deeff6651b11d0f01380f3372b706f8e7f10bbf2c647000803726b783", func := "loop.example/g00146/laws.FnExactBufReplace", spec := "fnExactBufReplace", unfollowed := true, recurses := true, apart := false }
def FnExactBufReplaceSaid : Prop := fnExactBufReplaceRow.holds Try.pinned (OpenSpec.ofChange fnExactBufReplaceSpec)

/-- ITS FALSE NEIGHBOUR: 'it returns false'. Refute it at one input. -/
def fnExactBufReplaceWrong : ChangeSpec := { name := "fnExactBufReplace", fn := fun _ => fun
  | [d1, d2, d3, d4] => { results := [.lit (.bool false)], args := [d1, d2, d3, d4] }
  | _ => none }
def FnExactBufReplaceWrongFalsely : Prop := fnExactBufReplaceRow.holds Try.pinned (OpenSpec.ofChange fnExactBufReplaceWrong)

/-- 'laws.FnExactBufInsert': WHATEVER THE INPUT: true; the input reads as it did. -/
def fnExactBufInsertSpec : ChangeSpec := { name := "fnExactBufInsert", fn := fun _ => fun
  | [d1, d2] => { results := [.lit (.bool true)], args := [d1, d2] }
  | _ => none }
def fnExactBufInsertRow : OpenClaim := { program := "ytejgkbejdkaccaa", sum := "4c10699deeff6651b11d0f01380f3372b706f8e7f10bbf2c647000803726b783", func := "loop.example/g00146/laws.FnExactBufInsert", spec := "fnExactBufInsert", unfollowed := true, recurses := true, apart := false }
def FnExactBufInsertSaid : Prop := fnExactBufInsertRow.holds Try.pinned (OpenSpec.ofChange fnExactBufInsertSpec)

/-- ITS FALSE NEIGHBOUR: 'it returns false'. Refute it at one input. -/
def fnExactBufInsertWrong : ChangeSpec := { name := "fnExactBufInsert", fn := fun _ => fun
  | [d1, d2] => { results := [.lit (.bool false)], args := [d1, d2] }
  | _ => none }
def FnExactBufInsertWrongFalsely : Prop := fnExactBufInsertRow.holds Try.pinned (OpenSpec.ofChange fnExactBufInsertWrong)

/-- 'laws.FnExactBufDelete': WHATEVER THE INPUT: true; the input reads as it did. -/
def fnExactBufDeleteSpec : ChangeSpec := { name := "fnExactBufDelete", fn := fun _ => fun
  | [d1, d2, d3] => { results := [.lit (.bool true)], args := [d1, d2, d3] }
  | _ => none }
def fnExactBufDeleteRow : OpenClaim := { program := "ytejgkbejdkaccaa", sum := "4c10699deeff6651b11d0f01380f3372b706f8e7f10bbf2c647000803726b783", func := "loop.example/g00146/laws.FnExactBufDelete", spec := "fnExactBufDelete", unfollowed := true, recurses := true, apart := false }
def FnExactBufDeleteSaid : Prop := fnExactBufDeleteRow.holds Try.pinned (OpenSpec.ofChange fnExactBufDeleteSpec)

/-- ITS FALSE NEIGHBOUR: 'it returns false'. Refute it at one input. -/
def fnExactBufDeleteWrong : ChangeSpec := { name := "fnExactBufDelete", fn := fun _ => fun
  | [d1, d2, d3] => { results := [.lit (.bool false)], args := [d1, d2, d3] }
  | _ => none }
def FnExactBufDeleteWrongFalsely : Prop := fnExactBufDeleteRow.holds Try.pinned (OpenSpec.ofChange fnExactBufDeleteWrong)

/-- 'laws.FnExactRingYank': WHATEVER THE INPUT: true; the input reads as it did. -/
def fnExactRingYankSpec : ChangeSpec := { name := "fnExactRingYank", fn := fun _ => fun
  | [d1, d2] => { results := [.lit (.bool true)], args := [d1, d2] }
  | _ => none }
def fnExactRingYankRow : OpenClaim := { program := "ytejgkbejdkaccaa", sum := "4c10699deeff6651b11d0f01380f3372b706f8e7f10bbf2c647000803726b783", func := "loop.example/g00146/laws.FnExactRingYank", spec := "fnExactRingYank", unfollowed := true, recurses := true, apart := false }
def FnExactRingYankSaid : Prop := fnExactRingYankRow.holds Try.pinned (OpenSpec.ofChange fnExactRingYankSpec)

/-- ITS FALSE NEIGHBOUR: 'it returns false'. Refute it at one input. -/
def fnExactRingYankWrong : ChangeSpec := { name := "fnExactRingYank", fn := fun _ => fun
  | [d1, d2] => { results := [.lit (.bool false)], args := [d1, d2] }
  | _ => none }
def FnExactRingYankWrongFalsely : Prop := fnExactRingYankRow.holds Try.pinned (OpenSpec.ofChange fnExactRingYankWrong)

/-- 'laws.FnExactRingPop': WHATEVER THE INPUT: true; the input reads as it did. -/
def fnExactRingPopSpec : ChangeSpec := { name := "fnExactRingPop", fn := fun _ => fun
  | [d1, d2, d3, d4] => { results := [.lit (.bool true)], args := [d1, d2, d3, d4] }
  | _ => none }
def fnExactRingPopRow : OpenClaim := { program := "ytejgkbejdkaccaa", sum := "4c10699deeff6651b11d0f01380f3372b706f8e7f10bbf2c647000803726b783", func := "loop.example/g00146/laws.FnExactRingPop", spec := "fnExactRingPop", unfollowed := true, recurses := true, apart := false }
def FnExactRingPopSaid : Prop := fnExactRingPopRow.holds Try.pinned (OpenSpec.ofChange fnExactRingPopSpec)

/-- ITS FALSE NEIGHBOUR: 'it returns false'. Refute it at one input. -/
def fnExactRingPopWrong : ChangeSpec := { name := "fnExactRingPop", fn := fun _ => fun
  | [d1, d2, d3, d4] => { results := [.lit (.bool false)], args := [d1, d2, d3, d4] }
  | _ => none }
def FnExactRingPopWrongFalsely : Prop := fnExactRingPopRow.holds Try.pinned (OpenSpec.ofChange fnExactRingPopWrong)

/-- 'laws.FnReplace': WHATEVER THE INPUT: true; the input reads as it did. -/
def fnReplaceSpec : ChangeSpec := { name := "fnReplace", fn := fun _ => fun
  | [d] => { results := [.lit (.bool true)], args := [d] }
  | _ => none }
def fnReplaceRow : OpenClaim := { program := "ytejgkbejdkaccaa", sum := "4c10699deeff6651b11d0f01380f3372b706f8e7f10bbf2c647000803726b783", func := "loop.example/g00146/laws.FnReplace", spec := "fnReplace", unfollowed := true, recurses := true, apart := false }
def FnReplaceSaid : Prop := fnReplaceRow.holds Try.pinned (OpenSpec.ofChange fnReplaceSpec)

/-- ITS FALSE NEIGHBOUR: 'it returns false'. Refute it at one input. -/
def fnReplaceWrong : ChangeSpec := { name := "fnReplace", fn := fun _ => fun
  | [d] => { results := [.lit (.bool false)], args := [d] }
  | _ => none }
def FnReplaceWrongFalsely : Prop := fnReplaceRow.holds Try.pinned (OpenSpec.ofChange fnReplaceWrong)

/- THE SECOND FORM. 'bulk': how many values and letters a reading holds, each counted each time it is reached (what is shared counts as often as it is met; a slice's spare places count too). A statement '..UptoSaid' is the law's where the arguments, and the package variables that the reading takes, are together of bulk at most 1048576: NARROWER than '..Said'. Prove '..Said' where nothing that the law and all that it calls make is longer than what came in: it says more and counts as full. Else prove '..UptoSaid'. A law counts once. -/
mutual
def uptoBulk {H : Type} : DataW H → Nat
  | .lit (.string bytes) => bytes.length + 1
  | .lit _ => 1
  | .nil => 1
  | .ptr d => uptoBulk d + 1
  | .slice elems spare => uptoBulkAll elems + uptoBulkAll spare + 1
  | .agg parts => uptoBulkAll parts + 1
  | .iface _ d => uptoBulk d + 1
  | .map entries => uptoBulkEntries entries + 1
  | .held _ => 1
def uptoBulkAll {H : Type} : List (DataW H) → Nat
  | [] => 0
  | d :: r => uptoBulk d + uptoBulkAll r
def uptoBulkEntries {H : Type} : List (Lit × DataW H) → Nat
  | [] => 0
  | x :: r => uptoBulkEntry x + uptoBulkEntries r
def uptoBulkEntry {H : Type} : Lit × DataW H → Nat
  | (.string bytes, d) => bytes.length + uptoBulk d + 1
  | (_, d) => uptoBulk d + 1
 end
def uptoSmall : (H : Type) → List (DataW H) → Bool := fun _ ds => decide (uptoBulkAll ds ≤ 1048576)
def OpenSpec.upto (s : _root_.Go.ChangeSpec) : _root_.Go.OpenSpec := { _root_.Go.OpenSpec.ofChange s with cond := some uptoSmall }

/-- 'laws.FnExactBufReplace', WHERE WHAT IT READS IS OF BULK AT MOST 1048576: true; the input reads as it did. -/
def fnExactBufReplaceUptoRow : OpenClaim := { program := "ytejgkbejdkaccaa", sum := "4c10699deeff6651b11d0f01380f3372b706f8e7f10bbf2c647000803726b783", func := "loop.example/g00146/laws.FnExactBufReplace", spec := "fnExactBufReplace", unfollowed := true, recurses := true, apart := false, narrowed := true }
def FnExactBufReplaceUptoSaid : Prop := fnExactBufReplaceUptoRow.holds Try.pinned (OpenSpec.upto fnExactBufReplaceSpec)

/-- 'laws.FnExactBufInsert', WHERE WHAT IT READS IS OF BULK AT MOST 1048576: true; the input reads as it did. -/
def fnExactBufInsertUptoRow : OpenClaim := { program := "ytejgkbejdkaccaa", sum := "4c10699deeff6651b11d0f01380f3372b706f8e7f10bbf2c647000803726b783", func := "loop.example/g00146/laws.FnExactBufInsert", spec := "fnExactBufInsert", unfollowed := true, recurses := true, apart := false, narrowed := true }
def FnExactBufInsertUptoSaid : Prop := fnExactBufInsertUptoRow.holds Try.pinned (OpenSpec.upto fnExactBufInsertSpec)

/-- 'laws.FnExactBufDelete', WHERE WHAT IT READS IS OF BULK AT MOST 1048576: true; the input reads as it did. -/
def fnExactBufDeleteUptoRow : OpenClaim := { program := "ytejgkbejdkaccaa", sum := "4c10699deeff6651b11d0f01380f3372b706f8e7f10bbf2c647000803726b783", func := "loop.example/g00146/laws.FnExactBufDelete", spec := "fnExactBufDelete", unfollowed := true, recurses := true, apart := false, narrowed := true }
def FnExactBufDeleteUptoSaid : Prop := fnExactBufDeleteUptoRow.holds Try.pinned (OpenSpec.upto fnExactBufDeleteSpec)

/-- 'laws.FnExactRingYank', WHERE WHAT IT READS IS OF BULK AT MOST 1048576: true; the input reads as it did. -/
def fnExactRingYankUptoRow : OpenClaim := { program := "ytejgkbejdkaccaa", sum := "4c10699deeff6651b11d0f01380f3372b706f8e7f10bbf2c647000803726b783", func := "loop.example/g00146/laws.FnExactRingYank", spec := "fnExactRingYank", unfollowed := true, recurses := true, apart := false, narrowed := true }
def FnExactRingYankUptoSaid : Prop := fnExactRingYankUptoRow.holds Try.pinned (OpenSpec.upto fnExactRingYankSpec)

/-- 'laws.FnExactRingPop', WHERE WHAT IT READS IS OF BULK AT MOST 1048576: true; the input reads as it did. -/
def fnExactRingPopUptoRow : OpenClaim := { program := "ytejgkbejdkaccaa", sum := "4c10699deeff6651b11d0f01380f3372b706f8e7f10bbf2c647000803726b783", func := "loop.example/g00146/laws.FnExactRingPop", spec := "fnExactRingPop", unfollowed := true, recurses := true, apart := false, narrowed := true }
def FnExactRingPopUptoSaid : Prop := fnExactRingPopUptoRow.holds Try.pinned (OpenSpec.upto fnExactRingPopSpec)

/-- 'laws.FnReplace', WHERE WHAT IT READS IS OF BULK AT MOST 1048576: true; the input reads as it did. -/
def fnReplaceUptoRow : OpenClaim := { program := "ytejgkbejdkaccaa", sum := "4c10699deeff6651b11d0f01380f3372b706f8e7f10bbf2c647000803726b783", func := "loop.example/g00146/laws.FnReplace", spec := "fnReplace", unfollowed := true, recurses := true, apart := false, narrowed := true }
def FnReplaceUptoSaid : Prop := fnReplaceUptoRow.holds Try.pinned (OpenSpec.upto fnReplaceSpec)

end Rows
end Go.Proofs.Ytejgkbejdkaccaa
