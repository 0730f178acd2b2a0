/-
  No cell of these rows narrows 'for every input' (looked for: loops, veiled, ifaces, maps, wideKeys, modest, calm, conditions, laid).
  DERIVED. THE GIVEN ROWS OF THIS SEAT. 6 by the template 'for every input the law returns true; each argument reads behind the call as it read before'; 0 by the template 'total and deterministic' (their statements: YtpjdjbbfbalhpaaTotals.lean).
  GIVEN WITH THE SEED: the statements are not yours to turn. If you find one false, say at which input.
  Laid BY PROGRAM, IN A SANDBOX (cutbox-rows.mjs): the forced cells as the released guide's own fill.sh prints them over the translation 71468b87516ae449… (all of the seat's roots in one cut). By AI agents, Wed Nov 11 2026. No macro, syntax, notation, axiom, sorry.
-/
import Derived.Test.YtpjdjbbfbalhpaaChecked
import GoSem.Claim
import GoSem.ClaimJoined
import GoSem.ClaimMapViews
import Derived.JoinedTies
import Derived.KernelRfl
namespace Go.Proofs.Ytpjdjbbfbalhpaa
/- THE CELL 'sum', in the pinned program and in every row, IS THE sha256 OF THE DUMP (.gsa) THAT YtpjdjbbfbalhpaaProg.lean LOADS. Nothing in Lean hashes anything: it is a label: what it is worth is what the hold of that sum in a sandbox is worth. -/
noncomputable def Try.pinned : Pinned := { name := "ytpjdjbbfbalhpaa", sum := "71468b87516ae449ae5093f1dad30ade433739b711dedfa2d13c7ca3f427500c", checked := Try.checked }
namespace Rows
def none {H : Type} : Left H := { results := [], args := [] }

/-- 'laws.FnExactConstants': WHATEVER THE INPUT: true; the input reads as it did. -/
def fnExactConstantsSpec : ChangeSpec := { name := "fnExactConstants", fn := fun _ => fun
  | [] => { results := [.lit (.bool true)], args := [] }
  | _ => none }
def fnExactConstantsRow : OpenClaim := { program := "ytpjdjbbfbalhpaa", sum := "71468b87516ae449ae5093f1dad30ade433739b711dedfa2d13c7ca3f427500c", func := "loop.example/g00146/laws.FnExactConstants", spec := "fnExactConstants", apart := false }
def FnExactConstantsSaid : Prop := fnExactConstantsRow.holds Try.pinned (OpenSpec.ofChange fnExactConstantsSpec)

/-- ITS FALSE NEIGHBOUR: 'it returns false'. Refute it at one input. -/
def fnExactConstantsWrong : ChangeSpec := { name := "fnExactConstants", fn := fun _ => fun
  | [] => { results := [.lit (.bool false)], args := [] }
  | _ => none }
def FnExactConstantsWrongFalsely : Prop := fnExactConstantsRow.holds Try.pinned (OpenSpec.ofChange fnExactConstantsWrong)

/-- 'laws.FnExactClassOf': WHATEVER THE INPUT: true; the input reads as it did. -/
def fnExactClassOfSpec : ChangeSpec := { name := "fnExactClassOf", fn := fun _ => fun
  | [d] => { results := [.lit (.bool true)], args := [d] }
  | _ => none }
def fnExactClassOfRow : OpenClaim := { program := "ytpjdjbbfbalhpaa", sum := "71468b87516ae449ae5093f1dad30ade433739b711dedfa2d13c7ca3f427500c", func := "loop.example/g00146/laws.FnExactClassOf", spec := "fnExactClassOf", apart := false }
def FnExactClassOfSaid : Prop := fnExactClassOfRow.holds Try.pinned (OpenSpec.ofChange fnExactClassOfSpec)

/-- ITS FALSE NEIGHBOUR: 'it returns false'. Refute it at one input. -/
def fnExactClassOfWrong : ChangeSpec := { name := "fnExactClassOf", fn := fun _ => fun
  | [d] => { results := [.lit (.bool false)], args := [d] }
  | _ => none }
def FnExactClassOfWrongFalsely : Prop := fnExactClassOfRow.holds Try.pinned (OpenSpec.ofChange fnExactClassOfWrong)

/-- 'laws.FnExactWidthOf': WHATEVER THE INPUT: true; the input reads as it did. -/
def fnExactWidthOfSpec : ChangeSpec := { name := "fnExactWidthOf", fn := fun _ => fun
  | [d] => { results := [.lit (.bool true)], args := [d] }
  | _ => none }
def fnExactWidthOfRow : OpenClaim := { program := "ytpjdjbbfbalhpaa", sum := "71468b87516ae449ae5093f1dad30ade433739b711dedfa2d13c7ca3f427500c", func := "loop.example/g00146/laws.FnExactWidthOf", spec := "fnExactWidthOf", apart := false }
def FnExactWidthOfSaid : Prop := fnExactWidthOfRow.holds Try.pinned (OpenSpec.ofChange fnExactWidthOfSpec)

/-- ITS FALSE NEIGHBOUR: 'it returns false'. Refute it at one input. -/
def fnExactWidthOfWrong : ChangeSpec := { name := "fnExactWidthOf", fn := fun _ => fun
  | [d] => { results := [.lit (.bool false)], args := [d] }
  | _ => none }
def FnExactWidthOfWrongFalsely : Prop := fnExactWidthOfRow.holds Try.pinned (OpenSpec.ofChange fnExactWidthOfWrong)

/-- 'laws.FnExactPointsRight': WHATEVER THE INPUT: true; the input reads as it did. -/
def fnExactPointsRightSpec : ChangeSpec := { name := "fnExactPointsRight", fn := fun _ => fun
  | [d] => { results := [.lit (.bool true)], args := [d] }
  | _ => none }
def fnExactPointsRightRow : OpenClaim := { program := "ytpjdjbbfbalhpaa", sum := "71468b87516ae449ae5093f1dad30ade433739b711dedfa2d13c7ca3f427500c", func := "loop.example/g00146/laws.FnExactPointsRight", spec := "fnExactPointsRight", unfollowed := true, recurses := true, apart := false }
def FnExactPointsRightSaid : Prop := fnExactPointsRightRow.holds Try.pinned (OpenSpec.ofChange fnExactPointsRightSpec)

/-- ITS FALSE NEIGHBOUR: 'it returns false'. Refute it at one input. -/
def fnExactPointsRightWrong : ChangeSpec := { name := "fnExactPointsRight", fn := fun _ => fun
  | [d] => { results := [.lit (.bool false)], args := [d] }
  | _ => none }
def FnExactPointsRightWrongFalsely : Prop := fnExactPointsRightRow.holds Try.pinned (OpenSpec.ofChange fnExactPointsRightWrong)

/-- 'laws.FnExactBufSame': WHATEVER THE INPUT: true; the input reads as it did. -/
def fnExactBufSameSpec : ChangeSpec := { name := "fnExactBufSame", fn := fun _ => fun
  | [d1, d2] => { results := [.lit (.bool true)], args := [d1, d2] }
  | _ => none }
def fnExactBufSameRow : OpenClaim := { program := "ytpjdjbbfbalhpaa", sum := "71468b87516ae449ae5093f1dad30ade433739b711dedfa2d13c7ca3f427500c", func := "loop.example/g00146/laws.FnExactBufSame", spec := "fnExactBufSame", apart := false }
def FnExactBufSameSaid : Prop := fnExactBufSameRow.holds Try.pinned (OpenSpec.ofChange fnExactBufSameSpec)

/-- ITS FALSE NEIGHBOUR: 'it returns false'. Refute it at one input. -/
def fnExactBufSameWrong : ChangeSpec := { name := "fnExactBufSame", fn := fun _ => fun
  | [d1, d2] => { results := [.lit (.bool false)], args := [d1, d2] }
  | _ => none }
def FnExactBufSameWrongFalsely : Prop := fnExactBufSameRow.holds Try.pinned (OpenSpec.ofChange fnExactBufSameWrong)

/-- 'laws.FnExactBufRight': WHATEVER THE INPUT: true; the input reads as it did. -/
def fnExactBufRightSpec : ChangeSpec := { name := "fnExactBufRight", fn := fun _ => fun
  | [d] => { results := [.lit (.bool true)], args := [d] }
  | _ => none }
def fnExactBufRightRow : OpenClaim := { program := "ytpjdjbbfbalhpaa", sum := "71468b87516ae449ae5093f1dad30ade433739b711dedfa2d13c7ca3f427500c", func := "loop.example/g00146/laws.FnExactBufRight", spec := "fnExactBufRight", unfollowed := true, recurses := true, apart := false }
def FnExactBufRightSaid : Prop := fnExactBufRightRow.holds Try.pinned (OpenSpec.ofChange fnExactBufRightSpec)

/-- ITS FALSE NEIGHBOUR: 'it returns false'. Refute it at one input. -/
def fnExactBufRightWrong : ChangeSpec := { name := "fnExactBufRight", fn := fun _ => fun
  | [d] => { results := [.lit (.bool false)], args := [d] }
  | _ => none }
def FnExactBufRightWrongFalsely : Prop := fnExactBufRightRow.holds Try.pinned (OpenSpec.ofChange fnExactBufRightWrong)

/- THE SECOND FORM. 'bulk': how many values and letters a reading holds, each counted each time it is reached (what is shared counts as often as it is met; a slice's spare places count too). A statement '..UptoSaid' is the law's where the arguments, and the package variables that the reading takes, are together of bulk at most 1048576: NARROWER than '..Said'. Prove '..Said' where nothing that the law and all that it calls make is longer than what came in: it says more and counts as full. Else prove '..UptoSaid'. A law counts once. -/
mutual
def uptoBulk {H : Type} : DataW H → Nat
  | .lit (.string bytes) => bytes.length + 1
  | .lit _ => 1
  | .nil => 1
  | .ptr d => uptoBulk d + 1
  | .slice elems spare => uptoBulkAll elems + uptoBulkAll spare + 1
  | .agg parts => uptoBulkAll parts + 1
  | .iface _ d => uptoBulk d + 1
  | .map entries => uptoBulkEntries entries + 1
  | .held _ => 1
def uptoBulkAll {H : Type} : List (DataW H) → Nat
  | [] => 0
  | d :: r => uptoBulk d + uptoBulkAll r
def uptoBulkEntries {H : Type} : List (Lit × DataW H) → Nat
  | [] => 0
  | x :: r => uptoBulkEntry x + uptoBulkEntries r
def uptoBulkEntry {H : Type} : Lit × DataW H → Nat
  | (.string bytes, d) => bytes.length + uptoBulk d + 1
  | (_, d) => uptoBulk d + 1
 end
def uptoSmall : (H : Type) → List (DataW H) → Bool := fun _ ds => decide (uptoBulkAll ds ≤ 1048576)
def OpenSpec.upto (s : _root_.Go.ChangeSpec) : _root_.Go.OpenSpec := { _root_.Go.OpenSpec.ofChange s with cond := some uptoSmall }

/-- 'laws.FnExactConstants', WHERE WHAT IT READS IS OF BULK AT MOST 1048576: true; the input reads as it did. -/
def fnExactConstantsUptoRow : OpenClaim := { program := "ytpjdjbbfbalhpaa", sum := "71468b87516ae449ae5093f1dad30ade433739b711dedfa2d13c7ca3f427500c", func := "loop.example/g00146/laws.FnExactConstants", spec := "fnExactConstants", apart := false, narrowed := true }
def FnExactConstantsUptoSaid : Prop := fnExactConstantsUptoRow.holds Try.pinned (OpenSpec.upto fnExactConstantsSpec)

/-- 'laws.FnExactClassOf', WHERE WHAT IT READS IS OF BULK AT MOST 1048576: true; the input reads as it did. -/
def fnExactClassOfUptoRow : OpenClaim := { program := "ytpjdjbbfbalhpaa", sum := "71468b87516ae449ae5093f1dad30ade433739b711dedfa2d13c7ca3f427500c", func := "loop.example/g00146/laws.FnExactClassOf", spec := "fnExactClassOf", apart := false, narrowed := true }
def FnExactClassOfUptoSaid : Prop := fnExactClassOfUptoRow.holds Try.pinned (OpenSpec.upto fnExactClassOfSpec)

/-- 'laws.FnExactWidthOf', WHERE WHAT IT READS IS OF BULK AT MOST 1048576: true; the input reads as it did. -/
def fnExactWidthOfUptoRow : OpenClaim := { program := "ytpjdjbbfbalhpaa", sum := "71468b87516ae449ae5093f1dad30ade433739b711dedfa2d13c7ca3f427500c", func := "loop.example/g00146/laws.FnExactWidthOf", spec := "fnExactWidthOf", apart := false, narrowed := true }
def FnExactWidthOfUptoSaid : Prop := fnExactWidthOfUptoRow.holds Try.pinned (OpenSpec.upto fnExactWidthOfSpec)

/-- 'laws.FnExactPointsRight', WHERE WHAT IT READS IS OF BULK AT MOST 1048576: true; the input reads as it did. -/
def fnExactPointsRightUptoRow : OpenClaim := { program := "ytpjdjbbfbalhpaa", sum := "71468b87516ae449ae5093f1dad30ade433739b711dedfa2d13c7ca3f427500c", func := "loop.example/g00146/laws.FnExactPointsRight", spec := "fnExactPointsRight", unfollowed := true, recurses := true, apart := false, narrowed := true }
def FnExactPointsRightUptoSaid : Prop := fnExactPointsRightUptoRow.holds Try.pinned (OpenSpec.upto fnExactPointsRightSpec)

/-- 'laws.FnExactBufSame', WHERE WHAT IT READS IS OF BULK AT MOST 1048576: true; the input reads as it did. -/
def fnExactBufSameUptoRow : OpenClaim := { program := "ytpjdjbbfbalhpaa", sum := "71468b87516ae449ae5093f1dad30ade433739b711dedfa2d13c7ca3f427500c", func := "loop.example/g00146/laws.FnExactBufSame", spec := "fnExactBufSame", apart := false, narrowed := true }
def FnExactBufSameUptoSaid : Prop := fnExactBufSameUptoRow.holds Try.pinned (OpenSpec.upto fnExactBufSameSpec)

/-- 'laws.FnExactBufRight', WHERE WHAT IT READS IS OF BULK AT MOST 1048576: true; the input reads as it did. -/
def fnExactBufRightUptoRow : OpenClaim := { program := "ytpjdjbbfbalhpaa", sum := "71468b87516ae449ae5093f1dad30ade433739b711dedfa2d13c7ca3f427500c", func := "loop.example/g00146/laws.FnExactBufRight", spec := "fnExactBufRight", unfollowed := true, recurses := true, apart := false, narrowed := true }
def FnExactBufRightUptoSaid : Prop := fnExactBufRightUptoRow.holds Try.pinned (OpenSpec.upto fnExactBufRightSpec)

end Rows
end Go.Proofs.Ytpjdjbbfbalhpaa
