/-
  No cell of these rows narrows 'for every input' (looked for: loops, veiled, ifaces, maps, wideKeys, modest, calm, conditions, laid).
  DERIVED. THE GIVEN ROWS OF THIS SEAT. 3 by the template 'for every input the law returns true; each argument reads behind the call as it read before'; 0 by the template 'total and deterministic' (their statements: YtfjanedappcolaaTotals.lean).
  GIVEN WITH THE SEED: the statements are not yours to turn. If you find one false, say at which input.
  Laid BY PROGRAM, IN A SANDBOX (cutbox-rows.mjs): the forced cells as the released guide's own fill.sh prints them over the translation 33745071799d92fe… (all of the seat's roots in one cut). By AI agents, Wed Nov 11 2026. No macro, syntax, notation, axiom, sorry.
-/
import Derived.Test.YtfjanedappcolaaChecked
import GoSem.Claim
import GoSem.ClaimJoined
import GoSem.ClaimMapViews
import Derived.JoinedTies
import Derived.KernelRfl
namespace Go.Proofs.Ytfjanedappcolaa
/- THE CELL 'sum', in the pinned program and in every row, IS THE sha256 OF THE DUMP (.gsa) THAT YtfjanedappcolaaProg.lean LOADS. Nothing in Lean hashes anything: it is a label: what it is worth is what the hold of that sum in a sandbox is worth. -/
noncomputable def Try.pinned : Pinned := { name := "ytfjanedappcolaa", sum := "33745071799d92fe44fa8da76332ee166eac52ff50a4b3a6cb1ca2d89a6c5f93", checked := Try.checked }
namespace Rows
def none {H : Type} : Left H := { results := [], args := [] }

/-- 'glossatorlaw10.EditsAround': WHATEVER THE INPUT: true; the input reads as it did. -/
def editsAroundSpec : ChangeSpec := { name := "editsAround", fn := fun _ => fun
  | [d] => { results := [.lit (.bool true)], args := [d] }
  | _ => none }
def editsAroundRow : OpenClaim := { program := "ytfjanedappcolaa", sum := "33745071799d92fe44fa8da76332ee166eac52ff50a4b3a6cb1ca2d89a6c5f93", func := "glossator/glossatorlaw10.EditsAround", spec := "editsAround", apart := false }
def EditsAroundSaid : Prop := editsAroundRow.holds Try.pinned (OpenSpec.ofChange editsAroundSpec)

/-- ITS FALSE NEIGHBOUR: 'it returns false'. Refute it at one input. -/
def editsAroundWrong : ChangeSpec := { name := "editsAround", fn := fun _ => fun
  | [d] => { results := [.lit (.bool false)], args := [d] }
  | _ => none }
def EditsAroundWrongFalsely : Prop := editsAroundRow.holds Try.pinned (OpenSpec.ofChange editsAroundWrong)

/-- 'glossatorlaw01.UtfUnits': WHATEVER THE INPUT: true; the input reads as it did. -/
def utfUnitsSpec : ChangeSpec := { name := "utfUnits", fn := fun _ => fun
  | [d1, d2] => { results := [.lit (.bool true)], args := [d1, d2] }
  | _ => none }
def utfUnitsRow : OpenClaim := { program := "ytfjanedappcolaa", sum := "33745071799d92fe44fa8da76332ee166eac52ff50a4b3a6cb1ca2d89a6c5f93", func := "glossator/glossatorlaw01.UtfUnits", spec := "utfUnits", apart := false }
def UtfUnitsSaid : Prop := utfUnitsRow.holds Try.pinned (OpenSpec.ofChange utfUnitsSpec)

/-- ITS FALSE NEIGHBOUR: 'it returns false'. Refute it at one input. -/
def utfUnitsWrong : ChangeSpec := { name := "utfUnits", fn := fun _ => fun
  | [d1, d2] => { results := [.lit (.bool false)], args := [d1, d2] }
  | _ => none }
def UtfUnitsWrongFalsely : Prop := utfUnitsRow.holds Try.pinned (OpenSpec.ofChange utfUnitsWrong)

/-- 'glossatorlaw02.LinesTell': WHATEVER THE INPUT: true; the input reads as it did. -/
def linesTellSpec : ChangeSpec := { name := "linesTell", fn := fun _ => fun
  | [d1, d2] => { results := [.lit (.bool true)], args := [d1, d2] }
  | _ => none }
def linesTellRow : OpenClaim := { program := "ytfjanedappcolaa", sum := "33745071799d92fe44fa8da76332ee166eac52ff50a4b3a6cb1ca2d89a6c5f93", func := "glossator/glossatorlaw02.LinesTell", spec := "linesTell", inPlace := ["internal/bytealg.IndexByteString", "internal/bytealg.IndexString"], unfollowed := true, recurses := true, named := ["internal/bytealg.MaxLen"], apart := false }
def LinesTellSaid : Prop := linesTellRow.holds Try.pinned (OpenSpec.ofChange linesTellSpec)

/-- ITS FALSE NEIGHBOUR: 'it returns false'. Refute it at one input. -/
def linesTellWrong : ChangeSpec := { name := "linesTell", fn := fun _ => fun
  | [d1, d2] => { results := [.lit (.bool false)], args := [d1, d2] }
  | _ => none }
def LinesTellWrongFalsely : Prop := linesTellRow.holds Try.pinned (OpenSpec.ofChange linesTellWrong)

/- THE SECOND FORM. 'bulk': how many values and letters a reading holds, each counted each time it is reached (what is shared counts as often as it is met; a slice's spare places count too). A statement '..UptoSaid' is the law's where the arguments, and the package variables that the reading takes, are together of bulk at most 1048576: NARROWER than '..Said'. Prove '..Said' where nothing that the law and all that it calls make is longer than what came in: it says more and counts as full. Else prove '..UptoSaid'. A law counts once. -/
mutual
def uptoBulk {H : Type} : DataW H → Nat
  | .lit (.string bytes) => bytes.length + 1
  | .lit _ => 1
  | .nil => 1
  | .ptr d => uptoBulk d + 1
  | .slice elems spare => uptoBulkAll elems + uptoBulkAll spare + 1
  | .agg parts => uptoBulkAll parts + 1
  | .iface _ d => uptoBulk d + 1
  | .map entries => uptoBulkEntries entries + 1
  | .held _ => 1
def uptoBulkAll {H : Type} : List (DataW H) → Nat
  | [] => 0
  | d :: r => uptoBulk d + uptoBulkAll r
def uptoBulkEntries {H : Type} : List (Lit × DataW H) → Nat
  | [] => 0
  | x :: r => uptoBulkEntry x + uptoBulkEntries r
def uptoBulkEntry {H : Type} : Lit × DataW H → Nat
  | (.string bytes, d) => bytes.length + uptoBulk d + 1
  | (_, d) => uptoBulk d + 1
 end
def uptoSmall : (H : Type) → List (DataW H) → Bool := fun _ ds => decide (uptoBulkAll ds ≤ 1048576)
def OpenSpec.upto (s : _root_.Go.ChangeSpec) : _root_.Go.OpenSpec := { _root_.Go.OpenSpec.ofChange s with cond := some uptoSmall }

/-- 'glossatorlaw10.EditsAround', WHERE WHAT IT READS IS OF BULK AT MOST 1048576: true; the input reads as it did. -/
def editsAroundUptoRow : OpenClaim := { program := "ytfjanedappcolaa", sum := "33745071799d92fe44fa8da76332ee166eac52ff50a4b3a6cb1ca2d89a6c5f93", func := "glossator/glossatorlaw10.EditsAround", spec := "editsAround", apart := false, narrowed := true }
def EditsAroundUptoSaid : Prop := editsAroundUptoRow.holds Try.pinned (OpenSpec.upto editsAroundSpec)

/-- 'glossatorlaw01.UtfUnits', WHERE WHAT IT READS IS OF BULK AT MOST 1048576: true; the input reads as it did. -/
def utfUnitsUptoRow : OpenClaim := { program := "ytfjanedappcolaa", sum := "33745071799d92fe44fa8da76332ee166eac52ff50a4b3a6cb1ca2d89a6c5f93", func := "glossator/glossatorlaw01.UtfUnits", spec := "utfUnits", apart := false, narrowed := true }
def UtfUnitsUptoSaid : Prop := utfUnitsUptoRow.holds Try.pinned (OpenSpec.upto utfUnitsSpec)

/-- 'glossatorlaw02.LinesTell', WHERE WHAT IT READS IS OF BULK AT MOST 1048576: true; the input reads as it did. -/
def linesTellUptoRow : OpenClaim := { program := "ytfjanedappcolaa", sum := "33745071799d92fe44fa8da76332ee166eac52ff50a4b3a6cb1ca2d89a6c5f93", func := "glossator/glossatorlaw02.LinesTell", spec := "linesTell", inPlace := ["internal/bytealg.IndexByteString", "internal/bytealg.IndexString"], unfollowed := true, recurses := true, named := ["internal/bytealg.MaxLen"], apart := false, narrowed := true }
def LinesTellUptoSaid : Prop := linesTellUptoRow.holds Try.pinned (OpenSpec.upto linesTellSpec)

end Rows
end Go.Proofs.Ytfjanedappcolaa
