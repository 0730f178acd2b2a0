/-
  DERIVED. GIVEN WITH THE SEED: THE CARDS: each row of YtbbhdggikcipaaaDoorRows.lean that lists a variable, with what it lists TIED to the program's text (the seventh form; the later family's looks); each row that meets fmt, with fmt's text TOLD by the authors' own Lean function (tested against real Go, not proved from fmt's source: count such statements apart). THE CARD IS WHAT COUNTS. Prove the row's statement (the work); the ties are given (YtbbhdggikcipaaaDoorTie.lean); close each card by the builder's one call (the guide's Derived/Test/ToyasCard.lean, 'card_holds'). Laid BY PROGRAM, IN A SANDBOX (cutbox-door.mjs). By AI agents, Wed Nov 11 2026. No macro, syntax, notation, axiom, sorry.
-/
import Derived.Test.YtbbhdggikcipaaaDoorRows
import GoSem.ClaimSeven
namespace Go.Proofs.YtbbhdggikcipaaaDoor
namespace Rows

/-- THE TIED CARD OF 'laws.FnExactPointsOf'. -/
def fnExactPointsOfCard : Claim7 := { stood := { row := fnExactPointsOfRow, standIns := [], harness := (true, "168663213bb63ca7f890ddba725b5da1e627075088e54ad0d7dfbccd8d28689d"), looks := false }, kinds := [], alts := [], laidByText := true, laidKinds := [.data, .pinned], laidTests := true, laidLooks := .later }
def FnExactPointsOfCardSaid : Prop := Claim7.holds Tryd.pinned (.plain (OpenSpec.ofChange fnExactPointsOfSpec)) fnExactPointsOfCard

/-- THE TIED CARD OF 'laws.FnExactBufOf'. -/
def fnExactBufOfCard : Claim7 := { stood := { row := fnExactBufOfRow, standIns := [], harness := (true, "168663213bb63ca7f890ddba725b5da1e627075088e54ad0d7dfbccd8d28689d"), looks := false }, kinds := [], alts := [], laidByText := true, laidKinds := [.data, .pinned], laidTests := true, laidLooks := .later }
def FnExactBufOfCardSaid : Prop := Claim7.holds Tryd.pinned (.plain (OpenSpec.ofChange fnExactBufOfSpec)) fnExactBufOfCard

/-- THE TIED CARD OF 'laws.FnPoints'. -/
def fnPointsCard : Claim7 := { stood := { row := fnPointsRow, standIns := [], harness := (true, "168663213bb63ca7f890ddba725b5da1e627075088e54ad0d7dfbccd8d28689d"), looks := false }, kinds := [], alts := [], laidByText := true, laidKinds := [.data, .pinned], laidTests := true, laidLooks := .later }
def FnPointsCardSaid : Prop := Claim7.holds Tryd.pinned (.plain (OpenSpec.ofChange fnPointsSpec)) fnPointsCard

/-- THE SECOND FORM's CARD OF 'laws.FnExactPointsOf'. -/
def fnExactPointsOfUptoCard : Claim7 := { stood := { row := fnExactPointsOfUptoRow, standIns := [], harness := (true, "168663213bb63ca7f890ddba725b5da1e627075088e54ad0d7dfbccd8d28689d"), looks := false }, kinds := [], alts := [], laidByText := true, laidKinds := [.data, .pinned], laidTests := true, laidLooks := .later }
def FnExactPointsOfUptoCardSaid : Prop := Claim7.holds Tryd.pinned (.plain (OpenSpec.upto fnExactPointsOfSpec)) fnExactPointsOfUptoCard

/-- THE SECOND FORM's CARD OF 'laws.FnExactBufOf'. -/
def fnExactBufOfUptoCard : Claim7 := { stood := { row := fnExactBufOfUptoRow, standIns := [], harness := (true, "168663213bb63ca7f890ddba725b5da1e627075088e54ad0d7dfbccd8d28689d"), looks := false }, kinds := [], alts := [], laidByText := true, laidKinds := [.data, .pinned], laidTests := true, laidLooks := .later }
def FnExactBufOfUptoCardSaid : Prop := Claim7.holds Tryd.pinned (.plain (OpenSpec.upto fnExactBufOfSpec)) fnExactBufOfUptoCard

/-- THE SECOND FORM's CARD OF 'laws.FnPoints'. -/
def fnPointsUptoCard : Claim7 := { stood := { row := fnPointsUptoRow, standIns := [], harness := (true, "168663213bb63ca7f890ddba725b5da1e627075088e54ad0d7dfbccd8d28689d"), looks := false }, kinds := [], alts := [], laidByText := true, laidKinds := [.data, .pinned], laidTests := true, laidLooks := .later }
def FnPointsUptoCardSaid : Prop := Claim7.holds Tryd.pinned (.plain (OpenSpec.upto fnPointsSpec)) fnPointsUptoCard
end Rows
end Go.Proofs.YtbbhdggikcipaaaDoor
