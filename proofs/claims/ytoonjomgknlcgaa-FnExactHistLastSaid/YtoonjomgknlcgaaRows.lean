/-
  No cell of these rows narrows 'for every input' (looked for: loops, veiled, ifaces, maps, wideKeys, modest, calm, conditions, laid).
  DERIVED. THE GIVEN ROWS OF THIS SEAT. 6 by the template 'for every input the law returns true; each argument reads behind the call as it read before'; 0 by the template 'total and deterministic' (their statements: YtoonjomgknlcgaaTotals.lean).
  GIVEN WITH THE SEED: the statements are not yours to turn. If you find one false, say at which input.
  Laid BY PROGRAM, IN A SANDBOX (cutbox-rows.mjs): the forced cells as the released guide's own fill.sh prints them over the translation 5058aedb223b266d… (all of the seat's roots in one cut). By AI agents, Wed Nov 11 2026. No macro, syntax, notation, axiom, sorry.
-/
import Derived.Test.YtoonjomgknlcgaaChecked
import GoSem.Claim
import GoSem.ClaimJoined
import GoSem.ClaimMapViews
import Derived.JoinedTies
import Derived.KernelRfl
namespace Go.Proofs.Ytoonjomgknlcgaa
/- THE CELL 'sum', in the pinned program and in every row, IS THE sha256 OF THE DUMP (.gsa) THAT YtoonjomgknlcgaaProg.lean LOADS. Nothing in Lean hashes anything: it is a label: what it is worth is what the hold of that sum in a sandbox is worth. -/
noncomputable def Try.pinned : Pinned := { name := "ytoonjomgknlcgaa", sum := "5058aedb223b266dd0b766a2389085a180fe1c76944a2f26067192b077bd34f2", checked := Try.checked }
namespace Rows
def none {H : Type} : Left H := { results := [], args := [] }

/-- 'laws.FnExactPlaceOf': WHATEVER THE INPUT: true; the input reads as it did. -/
def fnExactPlaceOfSpec : ChangeSpec := { name := "fnExactPlaceOf", fn := fun _ => fun
  | [d1, d2] => { results := [.lit (.bool true)], args := [d1, d2] }
  | _ => none }
def fnExactPlaceOfRow : OpenClaim := { program := "ytoonjomgknlcgaa", sum := "5058aedb223b266dd0b766a2389085a180fe1c76944a2f26067192b077bd34f2", func := "loop.example/g00146/laws.FnExactPlaceOf", spec := "fnExactPlaceOf", unfollowed := true, recurses := true, apart := false }
def FnExactPlaceOfSaid : Prop := fnExactPlaceOfRow.holds Try.pinned (OpenSpec.ofChange fnExactPlaceOfSpec)

/-- ITS FALSE NEIGHBOUR: 'it returns false'. Refute it at one input. -/
def fnExactPlaceOfWrong : ChangeSpec := { name := "fnExactPlaceOf", fn := fun _ => fun
  | [d1, d2] => { results := [.lit (.bool false)], args := [d1, d2] }
  | _ => none }
def FnExactPlaceOfWrongFalsely : Prop := fnExactPlaceOfRow.holds Try.pinned (OpenSpec.ofChange fnExactPlaceOfWrong)

/-- 'laws.FnPlaces': WHATEVER THE INPUT: true; the input reads as it did. -/
def fnPlacesSpec : ChangeSpec := { name := "fnPlaces", fn := fun _ => fun
  | [d] => { results := [.lit (.bool true)], args := [d] }
  | _ => none }
def fnPlacesRow : OpenClaim := { program := "ytoonjomgknlcgaa", sum := "5058aedb223b266dd0b766a2389085a180fe1c76944a2f26067192b077bd34f2", func := "loop.example/g00146/laws.FnPlaces", spec := "fnPlaces", unfollowed := true, recurses := true, apart := false }
def FnPlacesSaid : Prop := fnPlacesRow.holds Try.pinned (OpenSpec.ofChange fnPlacesSpec)

/-- ITS FALSE NEIGHBOUR: 'it returns false'. Refute it at one input. -/
def fnPlacesWrong : ChangeSpec := { name := "fnPlaces", fn := fun _ => fun
  | [d] => { results := [.lit (.bool false)], args := [d] }
  | _ => none }
def FnPlacesWrongFalsely : Prop := fnPlacesRow.holds Try.pinned (OpenSpec.ofChange fnPlacesWrong)

/-- 'laws.FnExactRingTop': WHATEVER THE INPUT: true; the input reads as it did. -/
def fnExactRingTopSpec : ChangeSpec := { name := "fnExactRingTop", fn := fun _ => fun
  | [d] => { results := [.lit (.bool true)], args := [d] }
  | _ => none }
def fnExactRingTopRow : OpenClaim := { program := "ytoonjomgknlcgaa", sum := "5058aedb223b266dd0b766a2389085a180fe1c76944a2f26067192b077bd34f2", func := "loop.example/g00146/laws.FnExactRingTop", spec := "fnExactRingTop", unfollowed := true, recurses := true, apart := false }
def FnExactRingTopSaid : Prop := fnExactRingTopRow.holds Try.pinned (OpenSpec.ofChange fnExactRingTopSpec)

/-- ITS FALSE NEIGHBOUR: 'it returns false'. Refute it at one input. -/
def fnExactRingTopWrong : ChangeSpec := { name := "fnExactRingTop", fn := fun _ => fun
  | [d] => { results := [.lit (.bool false)], args := [d] }
  | _ => none }
def FnExactRingTopWrongFalsely : Prop := fnExactRingTopRow.holds Try.pinned (OpenSpec.ofChange fnExactRingTopWrong)

/-- 'laws.FnExactHistLast': WHATEVER THE INPUT: true; the input reads as it did. -/
def fnExactHistLastSpec : ChangeSpec := { name := "fnExactHistLast", fn := fun _ => fun
  | [d] => { results := [.lit (.bool true)], args := [d] }
  | _ => none }
def fnExactHistLastRow : OpenClaim := { program := "ytoonjomgknlcgaa", sum := "5058aedb223b266dd0b766a2389085a180fe1c76944a2f26067192b077bd34f2", func := "loop.example/g00146/laws.FnExactHistLast", spec := "fnExactHistLast", unfollowed := true, recurses := true, apart := false }
def FnExactHistLastSaid : Prop := fnExactHistLastRow.holds Try.pinned (OpenSpec.ofChange fnExactHistLastSpec)

/-- ITS FALSE NEIGHBOUR: 'it returns false'. Refute it at one input. -/
def fnExactHistLastWrong : ChangeSpec := { name := "fnExactHistLast", fn := fun _ => fun
  | [d] => { results := [.lit (.bool false)], args := [d] }
  | _ => none }
def FnExactHistLastWrongFalsely : Prop := fnExactHistLastRow.holds Try.pinned (OpenSpec.ofChange fnExactHistLastWrong)

/-- 'laws.FnExactHistFind': WHATEVER THE INPUT: true; the input reads as it did. -/
def fnExactHistFindSpec : ChangeSpec := { name := "fnExactHistFind", fn := fun _ => fun
  | [d1, d2, d3] => { results := [.lit (.bool true)], args := [d1, d2, d3] }
  | _ => none }
def fnExactHistFindRow : OpenClaim := { program := "ytoonjomgknlcgaa", sum := "5058aedb223b266dd0b766a2389085a180fe1c76944a2f26067192b077bd34f2", func := "loop.example/g00146/laws.FnExactHistFind", spec := "fnExactHistFind", unfollowed := true, recurses := true, apart := false }
def FnExactHistFindSaid : Prop := fnExactHistFindRow.holds Try.pinned (OpenSpec.ofChange fnExactHistFindSpec)

/-- ITS FALSE NEIGHBOUR: 'it returns false'. Refute it at one input. -/
def fnExactHistFindWrong : ChangeSpec := { name := "fnExactHistFind", fn := fun _ => fun
  | [d1, d2, d3] => { results := [.lit (.bool false)], args := [d1, d2, d3] }
  | _ => none }
def FnExactHistFindWrongFalsely : Prop := fnExactHistFindRow.holds Try.pinned (OpenSpec.ofChange fnExactHistFindWrong)

/-- 'laws.FnExactGridRight': WHATEVER THE INPUT: true; the input reads as it did. -/
def fnExactGridRightSpec : ChangeSpec := { name := "fnExactGridRight", fn := fun _ => fun
  | [d] => { results := [.lit (.bool true)], args := [d] }
  | _ => none }
def fnExactGridRightRow : OpenClaim := { program := "ytoonjomgknlcgaa", sum := "5058aedb223b266dd0b766a2389085a180fe1c76944a2f26067192b077bd34f2", func := "loop.example/g00146/laws.FnExactGridRight", spec := "fnExactGridRight", apart := false }
def FnExactGridRightSaid : Prop := fnExactGridRightRow.holds Try.pinned (OpenSpec.ofChange fnExactGridRightSpec)

/-- ITS FALSE NEIGHBOUR: 'it returns false'. Refute it at one input. -/
def fnExactGridRightWrong : ChangeSpec := { name := "fnExactGridRight", fn := fun _ => fun
  | [d] => { results := [.lit (.bool false)], args := [d] }
  | _ => none }
def FnExactGridRightWrongFalsely : Prop := fnExactGridRightRow.holds Try.pinned (OpenSpec.ofChange fnExactGridRightWrong)

/- THE SECOND FORM. 'bulk': how many values and letters a reading holds, each counted each time it is reached (what is shared counts as often as it is met; a slice's spare places count too). A statement '..UptoSaid' is the law's where the arguments, and the package variables that the reading takes, are together of bulk at most 1048576: NARROWER than '..Said'. Prove '..Said' where nothing that the law and all that it calls make is longer than what came in: it says more and counts as full. Else prove '..UptoSaid'. A law counts once. -/
mutual
def uptoBulk {H : Type} : DataW H → Nat
  | .lit (.string bytes) => bytes.length + 1
  | .lit _ => 1
  | .nil => 1
  | .ptr d => uptoBulk d + 1
  | .slice elems spare => uptoBulkAll elems + uptoBulkAll spare + 1
  | .agg parts => uptoBulkAll parts + 1
  | .iface _ d => uptoBulk d + 1
  | .map entries => uptoBulkEntries entries + 1
  | .held _ => 1
def uptoBulkAll {H : Type} : List (DataW H) → Nat
  | [] => 0
  | d :: r => uptoBulk d + uptoBulkAll r
def uptoBulkEntries {H : Type} : List (Lit × DataW H) → Nat
  | [] => 0
  | x :: r => uptoBulkEntry x + uptoBulkEntries r
def uptoBulkEntry {H : Type} : Lit × DataW H → Nat
  | (.string bytes, d) => bytes.length + uptoBulk d + 1
  | (_, d) => uptoBulk d + 1
 end
def uptoSmall : (H : Type) → List (DataW H) → Bool := fun _ ds => decide (uptoBulkAll ds ≤ 1048576)
def OpenSpec.upto (s : _root_.Go.ChangeSpec) : _root_.Go.OpenSpec := { _root_.Go.OpenSpec.ofChange s with cond := some uptoSmall }

/-- 'laws.FnExactPlaceOf', WHERE WHAT IT READS IS OF BULK AT MOST 1048576: true; the input reads as it did. -/
def fnExactPlaceOfUptoRow : OpenClaim := { program := "ytoonjomgknlcgaa", sum := "5058aedb223b266dd0b766a2389085a180fe1c76944a2f26067192b077bd34f2", func := "loop.example/g00146/laws.FnExactPlaceOf", spec := "fnExactPlaceOf", unfollowed := true, recurses := true, apart := false, narrowed := true }
def FnExactPlaceOfUptoSaid : Prop := fnExactPlaceOfUptoRow.holds Try.pinned (OpenSpec.upto fnExactPlaceOfSpec)

/-- 'laws.FnPlaces', WHERE WHAT IT READS IS OF BULK AT MOST 1048576: true; the input reads as it did. -/
def fnPlacesUptoRow : OpenClaim := { program := "ytoonjomgknlcgaa", sum := "5058aedb223b266dd0b766a2389085a180fe1c76944a2f26067192b077bd34f2", func := "loop.example/g00146/laws.FnPlaces", spec := "fnPlaces", unfollowed := true, recurses := true, apart := false, narrowed := true }
def FnPlacesUptoSaid : Prop := fnPlacesUptoRow.holds Try.pinned (OpenSpec.upto fnPlacesSpec)

/-- 'laws.FnExactRingTop', WHERE WHAT IT READS IS OF BULK AT MOST 1048576: true; the input reads as it did. -/
def fnExactRingTopUptoRow : OpenClaim := { program := "ytoonjomgknlcgaa", sum := "5058aedb223b266dd0b766a2389085a180fe1c76944a2f26067192b077bd34f2", func := "loop.example/g00146/laws.FnExactRingTop", spec := "fnExactRingTop", unfollowed := true, recurses := true, apart := false, narrowed := true }
def FnExactRingTopUptoSaid : Prop := fnExactRingTopUptoRow.holds Try.pinned (OpenSpec.upto fnExactRingTopSpec)

/-- 'laws.FnExactHistLast', WHERE WHAT IT READS IS OF BULK AT MOST 1048576: true; the input reads as it did. -/
def fnExactHistLastUptoRow : OpenClaim := { program := "ytoonjomgknlcgaa", sum := "5058aedb223b266dd0b766a2389085a180fe1c76944a2f26067192b077bd34f2", func := "loop.example/g00146/laws.FnExactHistLast", spec := "fnExactHistLast", unfollowed := true, recurses := true, apart := false, narrowed := true }
def FnExactHistLastUptoSaid : Prop := fnExactHistLastUptoRow.holds Try.pinned (OpenSpec.upto fnExactHistLastSpec)

/-- 'laws.FnExactHistFind', WHERE WHAT IT READS IS OF BULK AT MOST 1048576: true; the input reads as it did. -/
def fnExactHistFindUptoRow : OpenClaim := { program := "ytoonjomgknlcgaa", sum := "5058aedb223b266dd0b766a2389085a180fe1c76944a2f26067192b077bd34f2", func := "loop.example/g00146/laws.FnExactHistFind", spec := "fnExactHistFind", unfollowed := true, recurses := true, apart := false, narrowed := true }
def FnExactHistFindUptoSaid : Prop := fnExactHistFindUptoRow.holds Try.pinned (OpenSpec.upto fnExactHistFindSpec)

/-- 'laws.FnExactGridRight', WHERE WHAT IT READS IS OF BULK AT MOST 1048576: true; the input reads as it did. -/
def fnExactGridRightUptoRow : OpenClaim := { program := "ytoonjomgknlcgaa", sum := "5058aedb223b266dd0b766a2389085a180fe1c76944a2f26067192b077bd34f2", func := "loop.example/g00146/laws.FnExactGridRight", spec := "fnExactGridRight", apart := false, narrowed := true }
def FnExactGridRightUptoSaid : Prop := fnExactGridRightUptoRow.holds Try.pinned (OpenSpec.upto fnExactGridRightSpec)

end Rows
end Go.Proofs.Ytoonjomgknlcgaa
