/-
  DERIVED. GIVEN WITH THE SEED: THE CARDS: each row of YtjmchpkmhidejaaDoorRows.lean that lists a variable, with what it lists TIED to the program's text (the seventh form; the later family's looks); each row that meets fmt, with fmt's text TOLD by the authors' own Lean function (tested against real Go, not proved from fmt's source: count such statements apart). THE CARD IS WHAT COUNTS. Prove the row's statement (the work); the ties are given (YtjmchpkmhidejaaDoorTie.lean); close each card by the builder's one call (the guide's Derived/Test/ToyasCard.lean, 'card_holds'). Laid BY PROGRAM, IN A SANDBOX (cutbox-door.mjs). By AI agents, Wed Nov 11 2026. No macro, syntax, notation, axiom, sorry.
-/
import Derived.Test.YtjmchpkmhidejaaDoorRows
import GoSem.ClaimSeven
namespace Go.Proofs.YtjmchpkmhidejaaDoor
namespace Rows

/-- THE TIED CARD OF 'glossatorlaw05.FrameWrites'. -/
def frameWritesCard : Claim7 := { stood := { row := frameWritesRow, standIns := [], harness := (true, "66b7a1dfd0ddf8a31a39804ad1e84561f62133936664b5d2b4663cf5c31c27bb"), looks := false }, kinds := [], alts := [], laidByText := true, laidKinds := [.data, .data, .data], laidTests := true, laidLooks := .later }
def FrameWritesCardSaid : Prop := Claim7.holds Tryd.pinned (.plain (OpenSpec.ofChange frameWritesSpec)) frameWritesCard

/-- THE TIED CARD OF 'glossatorlaw04.JsontextQuotes'. -/
def jsontextQuotesCard : Claim7 := { stood := { row := jsontextQuotesRow, standIns := [], harness := (true, "66b7a1dfd0ddf8a31a39804ad1e84561f62133936664b5d2b4663cf5c31c27bb"), looks := false }, kinds := [], alts := [], laidByText := true, laidKinds := [.data, .data, .data, .data, .pinned], laidTests := true, laidLooks := .later }
def JsontextQuotesCardSaid : Prop := Claim7.holds Tryd.pinned (.plain (OpenSpec.ofChange jsontextQuotesSpec)) jsontextQuotesCard

/-- THE SECOND FORM's CARD OF 'glossatorlaw05.FrameWrites'. -/
def frameWritesUptoCard : Claim7 := { stood := { row := frameWritesUptoRow, standIns := [], harness := (true, "66b7a1dfd0ddf8a31a39804ad1e84561f62133936664b5d2b4663cf5c31c27bb"), looks := false }, kinds := [], alts := [], laidByText := true, laidKinds := [.data, .data, .data], laidTests := true, laidLooks := .later }
def FrameWritesUptoCardSaid : Prop := Claim7.holds Tryd.pinned (.plain (OpenSpec.upto frameWritesSpec)) frameWritesUptoCard

/-- THE SECOND FORM's CARD OF 'glossatorlaw04.JsontextQuotes'. -/
def jsontextQuotesUptoCard : Claim7 := { stood := { row := jsontextQuotesUptoRow, standIns := [], harness := (true, "66b7a1dfd0ddf8a31a39804ad1e84561f62133936664b5d2b4663cf5c31c27bb"), looks := false }, kinds := [], alts := [], laidByText := true, laidKinds := [.data, .data, .data, .data, .pinned], laidTests := true, laidLooks := .later }
def JsontextQuotesUptoCardSaid : Prop := Claim7.holds Tryd.pinned (.plain (OpenSpec.upto jsontextQuotesSpec)) jsontextQuotesUptoCard
end Rows
end Go.Proofs.YtjmchpkmhidejaaDoor
