/-
  DERIVED. GIVEN WITH THE SEED: THE CARDS: each row of YtbjhmknahldhaaaDoorRows.lean that lists a variable, with what it lists TIED to the program's text (the seventh form; the later family's looks); each row that meets fmt, with fmt's text TOLD by the authors' own Lean function (tested against real Go, not proved from fmt's source: count such statements apart). THE CARD IS WHAT COUNTS. Prove the row's statement (the work); the ties are given (YtbjhmknahldhaaaDoorTie.lean); close each card by the builder's one call (the guide's Derived/Test/ToyasCard.lean, 'card_holds'). Laid BY PROGRAM, IN A SANDBOX (cutbox-door.mjs). By AI agents, Wed Nov 11 2026. No macro, syntax, notation, axiom, sorry.
-/
import Derived.Test.YtbjhmknahldhaaaDoorRows
import GoSem.ClaimSeven
namespace Go.Proofs.YtbjhmknahldhaaaDoor
namespace Rows

/-- THE TIED CARD OF 'glossatorlaw23.FiveEncodes'. -/
def fiveEncodesCard : Claim7 := { stood := { row := fiveEncodesRow, standIns := [], harness := (true, "5c67390f9be6db767651cbd42f1322a5e0674cf1286099e2de75d745933e9ef1"), looks := false }, kinds := [], alts := [], laidByText := true, laidKinds := [.data, .pinned], laidTests := true, laidLooks := .later }
def FiveEncodesCardSaid : Prop := Claim7.holds Tryd.pinned (.plain (OpenSpec.ofChange fiveEncodesSpec)) fiveEncodesCard

/-- THE TIED CARD OF 'glossatorlaw23.FiveDecodes'. -/
def fiveDecodesCard : Claim7 := { stood := { row := fiveDecodesRow, standIns := [], harness := (true, "5c67390f9be6db767651cbd42f1322a5e0674cf1286099e2de75d745933e9ef1"), looks := false }, kinds := [], alts := [], laidByText := true, laidKinds := [.data, .pinned], laidTests := true, laidLooks := .later }
def FiveDecodesCardSaid : Prop := Claim7.holds Tryd.pinned (.plain (OpenSpec.ofChange fiveDecodesSpec)) fiveDecodesCard

/-- THE TIED CARD OF 'glossatorlaw23.FiveBack'. -/
def fiveBackCard : Claim7 := { stood := { row := fiveBackRow, standIns := [], harness := (true, "5c67390f9be6db767651cbd42f1322a5e0674cf1286099e2de75d745933e9ef1"), looks := false }, kinds := [], alts := [], laidByText := true, laidKinds := [.data, .pinned], laidTests := true, laidLooks := .later }
def FiveBackCardSaid : Prop := Claim7.holds Tryd.pinned (.plain (OpenSpec.ofChange fiveBackSpec)) fiveBackCard

/-- THE TIED CARD OF 'glossatorlaw23.FiveWhole'. -/
def fiveWholeCard : Claim7 := { stood := { row := fiveWholeRow, standIns := [], harness := (true, "5c67390f9be6db767651cbd42f1322a5e0674cf1286099e2de75d745933e9ef1"), looks := false }, kinds := [], alts := [], laidByText := true, laidKinds := [.data, .pinned], laidTests := true, laidLooks := .later }
def FiveWholeCardSaid : Prop := Claim7.holds Tryd.pinned (.plain (OpenSpec.ofChange fiveWholeSpec)) fiveWholeCard

/-- THE TIED CARD OF 'glossatorlaw23.FiveBehind'. -/
def fiveBehindCard : Claim7 := { stood := { row := fiveBehindRow, standIns := [], harness := (true, "5c67390f9be6db767651cbd42f1322a5e0674cf1286099e2de75d745933e9ef1"), looks := false }, kinds := [], alts := [], laidByText := true, laidKinds := [.data, .pinned], laidTests := true, laidLooks := .later }
def FiveBehindCardSaid : Prop := Claim7.holds Tryd.pinned (.plain (OpenSpec.ofChange fiveBehindSpec)) fiveBehindCard

/-- THE SECOND FORM's CARD OF 'glossatorlaw23.FiveEncodes'. -/
def fiveEncodesUptoCard : Claim7 := { stood := { row := fiveEncodesUptoRow, standIns := [], harness := (true, "5c67390f9be6db767651cbd42f1322a5e0674cf1286099e2de75d745933e9ef1"), looks := false }, kinds := [], alts := [], laidByText := true, laidKinds := [.data, .pinned], laidTests := true, laidLooks := .later }
def FiveEncodesUptoCardSaid : Prop := Claim7.holds Tryd.pinned (.plain (OpenSpec.upto fiveEncodesSpec)) fiveEncodesUptoCard

/-- THE SECOND FORM's CARD OF 'glossatorlaw23.FiveDecodes'. -/
def fiveDecodesUptoCard : Claim7 := { stood := { row := fiveDecodesUptoRow, standIns := [], harness := (true, "5c67390f9be6db767651cbd42f1322a5e0674cf1286099e2de75d745933e9ef1"), looks := false }, kinds := [], alts := [], laidByText := true, laidKinds := [.data, .pinned], laidTests := true, laidLooks := .later }
def FiveDecodesUptoCardSaid : Prop := Claim7.holds Tryd.pinned (.plain (OpenSpec.upto fiveDecodesSpec)) fiveDecodesUptoCard

/-- THE SECOND FORM's CARD OF 'glossatorlaw23.FiveBack'. -/
def fiveBackUptoCard : Claim7 := { stood := { row := fiveBackUptoRow, standIns := [], harness := (true, "5c67390f9be6db767651cbd42f1322a5e0674cf1286099e2de75d745933e9ef1"), looks := false }, kinds := [], alts := [], laidByText := true, laidKinds := [.data, .pinned], laidTests := true, laidLooks := .later }
def FiveBackUptoCardSaid : Prop := Claim7.holds Tryd.pinned (.plain (OpenSpec.upto fiveBackSpec)) fiveBackUptoCard

/-- THE SECOND FORM's CARD OF 'glossatorlaw23.FiveWhole'. -/
def fiveWholeUptoCard : Claim7 := { stood := { row := fiveWholeUptoRow, standIns := [], harness := (true, "5c67390f9be6db767651cbd42f1322a5e0674cf1286099e2de75d745933e9ef1"), looks := false }, kinds := [], alts := [], laidByText := true, laidKinds := [.data, .pinned], laidTests := true, laidLooks := .later }
def FiveWholeUptoCardSaid : Prop := Claim7.holds Tryd.pinned (.plain (OpenSpec.upto fiveWholeSpec)) fiveWholeUptoCard

/-- THE SECOND FORM's CARD OF 'glossatorlaw23.FiveBehind'. -/
def fiveBehindUptoCard : Claim7 := { stood := { row := fiveBehindUptoRow, standIns := [], harness := (true, "5c67390f9be6db767651cbd42f1322a5e0674cf1286099e2de75d745933e9ef1"), looks := false }, kinds := [], alts := [], laidByText := true, laidKinds := [.data, .pinned], laidTests := true, laidLooks := .later }
def FiveBehindUptoCardSaid : Prop := Claim7.holds Tryd.pinned (.plain (OpenSpec.upto fiveBehindSpec)) fiveBehindUptoCard
end Rows
end Go.Proofs.YtbjhmknahldhaaaDoor
