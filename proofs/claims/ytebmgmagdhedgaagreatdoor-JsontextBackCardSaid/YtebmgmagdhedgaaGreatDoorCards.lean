/-
  DERIVED. GIVEN WITH THE SEED: THE CARDS: each row of YtebmgmagdhedgaaGreatDoorRows.lean that lists a variable, with what it lists TIED to the program's text (the seventh form; the later family's looks); each row that meets fmt, with fmt's text TOLD by the authors' own Lean function (tested against real Go, not proved from fmt's source: count such statements apart). THE CARD IS WHAT COUNTS. Prove the row's statement (the work); the ties are given (YtebmgmagdhedgaaGreatDoorTie.lean); close each card by the builder's one call (the guide's Derived/Test/ToyasCard.lean, 'card_holds'). Laid BY PROGRAM, IN A SANDBOX (cutbox-door.mjs). By AI agents, Wed Nov 11 2026. No macro, syntax, notation, axiom, sorry.
-/
import Derived.Test.YtebmgmagdhedgaaGreatDoorRows
import GoSem.ClaimSeven
namespace Go.Proofs.YtebmgmagdhedgaaGreatDoor
namespace Rows

/-- THE TIED CARD OF 'glossatorlaw04.JsontextBack'. -/
def jsontextBackCard : Claim7 := { stood := { row := jsontextBackRow, standIns := [], harness := (true, "b79c25d69225f98c2b6c2845e30b9f981c330b1f297b3fac49064a910f282eb1"), looks := true }, kinds := [], alts := [], laidByText := true, laidKinds := [.data, .data, .data, .data, .sentinel, .sentinel, .pinned], laidTests := true, laidLooks := .later }
def JsontextBackCardSaid : Prop := Claim7.holds Tryz.pinned (.plain (OpenSpec.ofChange jsontextBackSpec)) jsontextBackCard

/-- THE TIED CARD OF 'glossatorlaw04.JsontextPlain'. -/
def jsontextPlainCard : Claim7 := { stood := { row := jsontextPlainRow, standIns := [], harness := (true, "b79c25d69225f98c2b6c2845e30b9f981c330b1f297b3fac49064a910f282eb1"), looks := true }, kinds := [], alts := [], laidByText := true, laidKinds := [.data, .data, .data, .data, .sentinel, .sentinel, .pinned], laidTests := true, laidLooks := .later }
def JsontextPlainCardSaid : Prop := Claim7.holds Tryz.pinned (.plain (OpenSpec.ofChange jsontextPlainSpec)) jsontextPlainCard

/-- THE TIED CARD OF 'glossatorlaw04.JsontextWrites'. -/
def jsontextWritesCard : Claim7 := { stood := { row := jsontextWritesRow, standIns := [], harness := (true, "b79c25d69225f98c2b6c2845e30b9f981c330b1f297b3fac49064a910f282eb1"), looks := true }, kinds := [], alts := [], laidByText := true, laidKinds := [.data, .data, .data, .data, .sentinel, .sentinel, .pinned], laidTests := true, laidLooks := .later }
def JsontextWritesCardSaid : Prop := Claim7.holds Tryz.pinned (.plain (OpenSpec.ofChange jsontextWritesSpec)) jsontextWritesCard

/-- THE TIED CARD OF 'glossatorlaw04.JsontextOne'. -/
def jsontextOneCard : Claim7 := { stood := { row := jsontextOneRow, standIns := [], harness := (true, "b79c25d69225f98c2b6c2845e30b9f981c330b1f297b3fac49064a910f282eb1"), looks := true }, kinds := [], alts := [], laidByText := true, laidKinds := [.data, .data, .data, .data, .sentinel, .sentinel, .pinned], laidTests := true, laidLooks := .later }
def JsontextOneCardSaid : Prop := Claim7.holds Tryz.pinned (.plain (OpenSpec.ofChange jsontextOneSpec)) jsontextOneCard

/-- THE SECOND FORM's CARD OF 'glossatorlaw04.JsontextBack'. -/
def jsontextBackUptoCard : Claim7 := { stood := { row := jsontextBackUptoRow, standIns := [], harness := (true, "b79c25d69225f98c2b6c2845e30b9f981c330b1f297b3fac49064a910f282eb1"), looks := true }, kinds := [], alts := [], laidByText := true, laidKinds := [.data, .data, .data, .data, .sentinel, .sentinel, .pinned], laidTests := true, laidLooks := .later }
def JsontextBackUptoCardSaid : Prop := Claim7.holds Tryz.pinned (.plain (OpenSpec.upto jsontextBackSpec)) jsontextBackUptoCard

/-- THE SECOND FORM's CARD OF 'glossatorlaw04.JsontextPlain'. -/
def jsontextPlainUptoCard : Claim7 := { stood := { row := jsontextPlainUptoRow, standIns := [], harness := (true, "b79c25d69225f98c2b6c2845e30b9f981c330b1f297b3fac49064a910f282eb1"), looks := true }, kinds := [], alts := [], laidByText := true, laidKinds := [.data, .data, .data, .data, .sentinel, .sentinel, .pinned], laidTests := true, laidLooks := .later }
def JsontextPlainUptoCardSaid : Prop := Claim7.holds Tryz.pinned (.plain (OpenSpec.upto jsontextPlainSpec)) jsontextPlainUptoCard

/-- THE SECOND FORM's CARD OF 'glossatorlaw04.JsontextWrites'. -/
def jsontextWritesUptoCard : Claim7 := { stood := { row := jsontextWritesUptoRow, standIns := [], harness := (true, "b79c25d69225f98c2b6c2845e30b9f981c330b1f297b3fac49064a910f282eb1"), looks := true }, kinds := [], alts := [], laidByText := true, laidKinds := [.data, .data, .data, .data, .sentinel, .sentinel, .pinned], laidTests := true, laidLooks := .later }
def JsontextWritesUptoCardSaid : Prop := Claim7.holds Tryz.pinned (.plain (OpenSpec.upto jsontextWritesSpec)) jsontextWritesUptoCard

/-- THE SECOND FORM's CARD OF 'glossatorlaw04.JsontextOne'. -/
def jsontextOneUptoCard : Claim7 := { stood := { row := jsontextOneUptoRow, standIns := [], harness := (true, "b79c25d69225f98c2b6c2845e30b9f981c330b1f297b3fac49064a910f282eb1"), looks := true }, kinds := [], alts := [], laidByText := true, laidKinds := [.data, .data, .data, .data, .sentinel, .sentinel, .pinned], laidTests := true, laidLooks := .later }
def JsontextOneUptoCardSaid : Prop := Claim7.holds Tryz.pinned (.plain (OpenSpec.upto jsontextOneSpec)) jsontextOneUptoCard
end Rows
end Go.Proofs.YtebmgmagdhedgaaGreatDoor
