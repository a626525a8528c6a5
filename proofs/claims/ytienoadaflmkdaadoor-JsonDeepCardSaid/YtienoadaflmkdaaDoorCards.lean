/-
  DERIVED. GIVEN WITH THE SEED: THE CARDS: each row of YtienoadaflmkdaaDoorRows.lean that lists a variable, with what it lists TIED to the program's text (the seventh form; the later family's looks); each row that meets fmt, with fmt's text TOLD by the authors' own Lean function (tested against real Go, not proved from fmt's source: count such statements apart). THE CARD IS WHAT COUNTS. Prove the row's statement (the work); the ties are given (YtienoadaflmkdaaDoorTie.lean); close each card by the builder's one call (the guide's Derived/Test/ToyasCard.lean, 'card_holds'). Laid BY PROGRAM, IN A SANDBOX (cutbox-door.mjs). By AI agents, Wed Nov 11 2026. No macro, syntax, notation, axiom, sorry.
-/
import Derived.Test.YtienoadaflmkdaaDoorRows
import GoSem.ClaimSeven
namespace Go.Proofs.YtienoadaflmkdaaDoor
namespace Rows

/-- THE TIED CARD OF 'glossatorlaw03.JsonReads'. -/
def jsonReadsCard : Claim7 := { stood := { row := jsonReadsRow, standIns := [], harness := (true, "e4300c457009ed7c26391bf55d7208eeb31e374e422a57ba99191392c9779f9b"), looks := true }, kinds := [], alts := [], laidByText := true, laidKinds := [.data, .data, .data, .data, .sentinel, .sentinel, .pinned], laidTests := true, laidLooks := .later }
def JsonReadsCardSaid : Prop := Claim7.holds Tryd.pinned (.plain (OpenSpec.ofChange jsonReadsSpec)) jsonReadsCard

/-- THE TIED CARD OF 'glossatorlaw03.JsonStops'. -/
def jsonStopsCard : Claim7 := { stood := { row := jsonStopsRow, standIns := [], harness := (true, "e4300c457009ed7c26391bf55d7208eeb31e374e422a57ba99191392c9779f9b"), looks := true }, kinds := [], alts := [], laidByText := true, laidKinds := [.data, .data, .data, .data, .sentinel, .sentinel, .pinned], laidTests := true, laidLooks := .later }
def JsonStopsCardSaid : Prop := Claim7.holds Tryd.pinned (.plain (OpenSpec.ofChange jsonStopsSpec)) jsonStopsCard

/-- THE TIED CARD OF 'glossatorlaw03.JsonAround'. -/
def jsonAroundCard : Claim7 := { stood := { row := jsonAroundRow, standIns := [], harness := (true, "e4300c457009ed7c26391bf55d7208eeb31e374e422a57ba99191392c9779f9b"), looks := true }, kinds := [], alts := [], laidByText := true, laidKinds := [.data, .data, .data, .data, .sentinel, .sentinel, .pinned], laidTests := true, laidLooks := .later }
def JsonAroundCardSaid : Prop := Claim7.holds Tryd.pinned (.plain (OpenSpec.ofChange jsonAroundSpec)) jsonAroundCard

/-- THE TIED CARD OF 'glossatorlaw03.JsonDeep'. -/
def jsonDeepCard : Claim7 := { stood := { row := jsonDeepRow, standIns := [], harness := (true, "e4300c457009ed7c26391bf55d7208eeb31e374e422a57ba99191392c9779f9b"), looks := true }, kinds := [], alts := [], laidByText := true, laidKinds := [.data, .data, .data, .data, .sentinel, .sentinel, .pinned], laidTests := true, laidLooks := .later }
def JsonDeepCardSaid : Prop := Claim7.holds Tryd.pinned (.plain (OpenSpec.ofChange jsonDeepSpec)) jsonDeepCard

/-- THE SECOND FORM's CARD OF 'glossatorlaw03.JsonReads'. -/
def jsonReadsUptoCard : Claim7 := { stood := { row := jsonReadsUptoRow, standIns := [], harness := (true, "e4300c457009ed7c26391bf55d7208eeb31e374e422a57ba99191392c9779f9b"), looks := true }, kinds := [], alts := [], laidByText := true, laidKinds := [.data, .data, .data, .data, .sentinel, .sentinel, .pinned], laidTests := true, laidLooks := .later }
def JsonReadsUptoCardSaid : Prop := Claim7.holds Tryd.pinned (.plain (OpenSpec.upto jsonReadsSpec)) jsonReadsUptoCard

/-- THE SECOND FORM's CARD OF 'glossatorlaw03.JsonStops'. -/
def jsonStopsUptoCard : Claim7 := { stood := { row := jsonStopsUptoRow, standIns := [], harness := (true, "e4300c457009ed7c26391bf55d7208eeb31e374e422a57ba99191392c9779f9b"), looks := true }, kinds := [], alts := [], laidByText := true, laidKinds := [.data, .data, .data, .data, .sentinel, .sentinel, .pinned], laidTests := true, laidLooks := .later }
def JsonStopsUptoCardSaid : Prop := Claim7.holds Tryd.pinned (.plain (OpenSpec.upto jsonStopsSpec)) jsonStopsUptoCard

/-- THE SECOND FORM's CARD OF 'glossatorlaw03.JsonAround'. -/
def jsonAroundUptoCard : Claim7 := { stood := { row := jsonAroundUptoRow, standIns := [], harness := (true, "e4300c457009ed7c26391bf55d7208eeb31e374e422a57ba99191392c9779f9b"), looks := true }, kinds := [], alts := [], laidByText := true, laidKinds := [.data, .data, .data, .data, .sentinel, .sentinel, .pinned], laidTests := true, laidLooks := .later }
def JsonAroundUptoCardSaid : Prop := Claim7.holds Tryd.pinned (.plain (OpenSpec.upto jsonAroundSpec)) jsonAroundUptoCard

/-- THE SECOND FORM's CARD OF 'glossatorlaw03.JsonDeep'. -/
def jsonDeepUptoCard : Claim7 := { stood := { row := jsonDeepUptoRow, standIns := [], harness := (true, "e4300c457009ed7c26391bf55d7208eeb31e374e422a57ba99191392c9779f9b"), looks := true }, kinds := [], alts := [], laidByText := true, laidKinds := [.data, .data, .data, .data, .sentinel, .sentinel, .pinned], laidTests := true, laidLooks := .later }
def JsonDeepUptoCardSaid : Prop := Claim7.holds Tryd.pinned (.plain (OpenSpec.upto jsonDeepSpec)) jsonDeepUptoCard
end Rows
end Go.Proofs.YtienoadaflmkdaaDoor
