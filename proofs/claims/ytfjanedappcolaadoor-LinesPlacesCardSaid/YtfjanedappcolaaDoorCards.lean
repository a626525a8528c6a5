/-
  DERIVED. GIVEN WITH THE SEED: THE CARDS: each row of YtfjanedappcolaaDoorRows.lean that lists a variable, with what it lists TIED to the program's text (the seventh form; the later family's looks); each row that meets fmt, with fmt's text TOLD by the authors' own Lean function (tested against real Go, not proved from fmt's source: count such statements apart). THE CARD IS WHAT COUNTS. Prove the row's statement (the work); the ties are given (YtfjanedappcolaaDoorTie.lean); close each card by the builder's one call (the guide's Derived/Test/ToyasCard.lean, 'card_holds'). Laid BY PROGRAM, IN A SANDBOX (cutbox-door.mjs). By AI agents, Wed Nov 11 2026. No macro, syntax, notation, axiom, sorry.
-/
import Derived.Test.YtfjanedappcolaaDoorRows
import GoSem.ClaimSeven
namespace Go.Proofs.YtfjanedappcolaaDoor
namespace Rows

/-- THE TIED CARD OF 'glossatorlaw01.UtfFixes'. -/
def utfFixesCard : Claim7 := { stood := { row := utfFixesRow, standIns := [], harness := (true, "abb4238588f119db652afd78c202f01a13d1877a7ff721d2bc5ffb9f2d2eca55"), looks := false }, kinds := [], alts := [], laidByText := true, laidKinds := [.data, .pinned], laidTests := true, laidLooks := .later }
def UtfFixesCardSaid : Prop := Claim7.holds Tryd.pinned (.plain (OpenSpec.ofChange utfFixesSpec)) utfFixesCard

/-- THE TIED CARD OF 'glossatorlaw01.UtfTells'. -/
def utfTellsCard : Claim7 := { stood := { row := utfTellsRow, standIns := [], harness := (true, "abb4238588f119db652afd78c202f01a13d1877a7ff721d2bc5ffb9f2d2eca55"), looks := false }, kinds := [], alts := [], laidByText := true, laidKinds := [.data, .pinned], laidTests := true, laidLooks := .later }
def UtfTellsCardSaid : Prop := Claim7.holds Tryd.pinned (.plain (OpenSpec.ofChange utfTellsSpec)) utfTellsCard

/-- THE TIED CARD OF 'glossatorlaw01.UtfFixed'. -/
def utfFixedCard : Claim7 := { stood := { row := utfFixedRow, standIns := [], harness := (true, "abb4238588f119db652afd78c202f01a13d1877a7ff721d2bc5ffb9f2d2eca55"), looks := false }, kinds := [], alts := [], laidByText := true, laidKinds := [.data, .pinned], laidTests := true, laidLooks := .later }
def UtfFixedCardSaid : Prop := Claim7.holds Tryd.pinned (.plain (OpenSpec.ofChange utfFixedSpec)) utfFixedCard

/-- THE TIED CARD OF 'glossatorlaw01.UtfBack'. -/
def utfBackCard : Claim7 := { stood := { row := utfBackRow, standIns := [], harness := (true, "abb4238588f119db652afd78c202f01a13d1877a7ff721d2bc5ffb9f2d2eca55"), looks := false }, kinds := [], alts := [], laidByText := true, laidKinds := [.data, .pinned], laidTests := true, laidLooks := .later }
def UtfBackCardSaid : Prop := Claim7.holds Tryd.pinned (.plain (OpenSpec.ofChange utfBackSpec)) utfBackCard

/-- THE TIED CARD OF 'glossatorlaw01.UtfJoins'. -/
def utfJoinsCard : Claim7 := { stood := { row := utfJoinsRow, standIns := [], harness := (true, "abb4238588f119db652afd78c202f01a13d1877a7ff721d2bc5ffb9f2d2eca55"), looks := false }, kinds := [], alts := [], laidByText := true, laidKinds := [.data, .pinned], laidTests := true, laidLooks := .later }
def UtfJoinsCardSaid : Prop := Claim7.holds Tryd.pinned (.plain (OpenSpec.ofChange utfJoinsSpec)) utfJoinsCard

/-- THE TIED CARD OF 'glossatorlaw02.LinesPlaces'. -/
def linesPlacesCard : Claim7 := { stood := { row := linesPlacesRow, standIns := [], harness := (true, "abb4238588f119db652afd78c202f01a13d1877a7ff721d2bc5ffb9f2d2eca55"), looks := false }, kinds := [], alts := [], laidByText := true, laidKinds := [.data, .pinned], laidTests := true, laidLooks := .later }
def LinesPlacesCardSaid : Prop := Claim7.holds Tryd.pinned (.plain (OpenSpec.ofChange linesPlacesSpec)) linesPlacesCard

/-- THE TIED CARD OF 'glossatorlaw02.LinesBack'. -/
def linesBackCard : Claim7 := { stood := { row := linesBackRow, standIns := [], harness := (true, "abb4238588f119db652afd78c202f01a13d1877a7ff721d2bc5ffb9f2d2eca55"), looks := false }, kinds := [], alts := [], laidByText := true, laidKinds := [.data, .pinned], laidTests := true, laidLooks := .later }
def LinesBackCardSaid : Prop := Claim7.holds Tryd.pinned (.plain (OpenSpec.ofChange linesBackSpec)) linesBackCard

/-- THE TIED CARD OF 'glossatorlaw02.LinesWhole'. -/
def linesWholeCard : Claim7 := { stood := { row := linesWholeRow, standIns := [], harness := (true, "abb4238588f119db652afd78c202f01a13d1877a7ff721d2bc5ffb9f2d2eca55"), looks := false }, kinds := [], alts := [], laidByText := true, laidKinds := [.data, .pinned], laidTests := true, laidLooks := .later }
def LinesWholeCardSaid : Prop := Claim7.holds Tryd.pinned (.plain (OpenSpec.ofChange linesWholeSpec)) linesWholeCard

/-- THE TIED CARD OF 'glossatorlaw02.LinesRise'. -/
def linesRiseCard : Claim7 := { stood := { row := linesRiseRow, standIns := [], harness := (true, "abb4238588f119db652afd78c202f01a13d1877a7ff721d2bc5ffb9f2d2eca55"), looks := false }, kinds := [], alts := [], laidByText := true, laidKinds := [.data, .pinned], laidTests := true, laidLooks := .later }
def LinesRiseCardSaid : Prop := Claim7.holds Tryd.pinned (.plain (OpenSpec.ofChange linesRiseSpec)) linesRiseCard

/-- THE SECOND FORM's CARD OF 'glossatorlaw01.UtfFixes'. -/
def utfFixesUptoCard : Claim7 := { stood := { row := utfFixesUptoRow, standIns := [], harness := (true, "abb4238588f119db652afd78c202f01a13d1877a7ff721d2bc5ffb9f2d2eca55"), looks := false }, kinds := [], alts := [], laidByText := true, laidKinds := [.data, .pinned], laidTests := true, laidLooks := .later }
def UtfFixesUptoCardSaid : Prop := Claim7.holds Tryd.pinned (.plain (OpenSpec.upto utfFixesSpec)) utfFixesUptoCard

/-- THE SECOND FORM's CARD OF 'glossatorlaw01.UtfTells'. -/
def utfTellsUptoCard : Claim7 := { stood := { row := utfTellsUptoRow, standIns := [], harness := (true, "abb4238588f119db652afd78c202f01a13d1877a7ff721d2bc5ffb9f2d2eca55"), looks := false }, kinds := [], alts := [], laidByText := true, laidKinds := [.data, .pinned], laidTests := true, laidLooks := .later }
def UtfTellsUptoCardSaid : Prop := Claim7.holds Tryd.pinned (.plain (OpenSpec.upto utfTellsSpec)) utfTellsUptoCard

/-- THE SECOND FORM's CARD OF 'glossatorlaw01.UtfFixed'. -/
def utfFixedUptoCard : Claim7 := { stood := { row := utfFixedUptoRow, standIns := [], harness := (true, "abb4238588f119db652afd78c202f01a13d1877a7ff721d2bc5ffb9f2d2eca55"), looks := false }, kinds := [], alts := [], laidByText := true, laidKinds := [.data, .pinned], laidTests := true, laidLooks := .later }
def UtfFixedUptoCardSaid : Prop := Claim7.holds Tryd.pinned (.plain (OpenSpec.upto utfFixedSpec)) utfFixedUptoCard

/-- THE SECOND FORM's CARD OF 'glossatorlaw01.UtfBack'. -/
def utfBackUptoCard : Claim7 := { stood := { row := utfBackUptoRow, standIns := [], harness := (true, "abb4238588f119db652afd78c202f01a13d1877a7ff721d2bc5ffb9f2d2eca55"), looks := false }, kinds := [], alts := [], laidByText := true, laidKinds := [.data, .pinned], laidTests := true, laidLooks := .later }
def UtfBackUptoCardSaid : Prop := Claim7.holds Tryd.pinned (.plain (OpenSpec.upto utfBackSpec)) utfBackUptoCard

/-- THE SECOND FORM's CARD OF 'glossatorlaw01.UtfJoins'. -/
def utfJoinsUptoCard : Claim7 := { stood := { row := utfJoinsUptoRow, standIns := [], harness := (true, "abb4238588f119db652afd78c202f01a13d1877a7ff721d2bc5ffb9f2d2eca55"), looks := false }, kinds := [], alts := [], laidByText := true, laidKinds := [.data, .pinned], laidTests := true, laidLooks := .later }
def UtfJoinsUptoCardSaid : Prop := Claim7.holds Tryd.pinned (.plain (OpenSpec.upto utfJoinsSpec)) utfJoinsUptoCard

/-- THE SECOND FORM's CARD OF 'glossatorlaw02.LinesPlaces'. -/
def linesPlacesUptoCard : Claim7 := { stood := { row := linesPlacesUptoRow, standIns := [], harness := (true, "abb4238588f119db652afd78c202f01a13d1877a7ff721d2bc5ffb9f2d2eca55"), looks := false }, kinds := [], alts := [], laidByText := true, laidKinds := [.data, .pinned], laidTests := true, laidLooks := .later }
def LinesPlacesUptoCardSaid : Prop := Claim7.holds Tryd.pinned (.plain (OpenSpec.upto linesPlacesSpec)) linesPlacesUptoCard

/-- THE SECOND FORM's CARD OF 'glossatorlaw02.LinesBack'. -/
def linesBackUptoCard : Claim7 := { stood := { row := linesBackUptoRow, standIns := [], harness := (true, "abb4238588f119db652afd78c202f01a13d1877a7ff721d2bc5ffb9f2d2eca55"), looks := false }, kinds := [], alts := [], laidByText := true, laidKinds := [.data, .pinned], laidTests := true, laidLooks := .later }
def LinesBackUptoCardSaid : Prop := Claim7.holds Tryd.pinned (.plain (OpenSpec.upto linesBackSpec)) linesBackUptoCard

/-- THE SECOND FORM's CARD OF 'glossatorlaw02.LinesWhole'. -/
def linesWholeUptoCard : Claim7 := { stood := { row := linesWholeUptoRow, standIns := [], harness := (true, "abb4238588f119db652afd78c202f01a13d1877a7ff721d2bc5ffb9f2d2eca55"), looks := false }, kinds := [], alts := [], laidByText := true, laidKinds := [.data, .pinned], laidTests := true, laidLooks := .later }
def LinesWholeUptoCardSaid : Prop := Claim7.holds Tryd.pinned (.plain (OpenSpec.upto linesWholeSpec)) linesWholeUptoCard

/-- THE SECOND FORM's CARD OF 'glossatorlaw02.LinesRise'. -/
def linesRiseUptoCard : Claim7 := { stood := { row := linesRiseUptoRow, standIns := [], harness := (true, "abb4238588f119db652afd78c202f01a13d1877a7ff721d2bc5ffb9f2d2eca55"), looks := false }, kinds := [], alts := [], laidByText := true, laidKinds := [.data, .pinned], laidTests := true, laidLooks := .later }
def LinesRiseUptoCardSaid : Prop := Claim7.holds Tryd.pinned (.plain (OpenSpec.upto linesRiseSpec)) linesRiseUptoCard
end Rows
end Go.Proofs.YtfjanedappcolaaDoor
