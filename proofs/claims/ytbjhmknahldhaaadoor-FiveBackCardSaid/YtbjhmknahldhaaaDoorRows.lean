/-
  NARROWER THAN 'FOR EVERY INPUT', by the rows' own cells (each row's printed sentence says how): FiveEncodes: laid · FiveDecodes: laid · FiveBack: laid · FiveWhole: laid · FiveBehind: laid.
  DERIVED. THE GIVEN ROWS OF THIS SEAT. 5 by the template 'for every input the law returns true; each argument reads behind the call as it read before'; 0 by the template 'total and deterministic' (their statements: YtbjhmknahldhaaaDoorTotals.lean).
  GIVEN WITH THE SEED: the statements are not yours to turn. If you find one false, say at which input.
  Laid BY PROGRAM, IN A SANDBOX (cutbox-rows.mjs): the forced cells as the released guide's own fill.sh prints them over the translation e48fd21451a8e7cf… (all of the seat's roots in one cut). By AI agents, Wed Nov 11 2026. No macro, syntax, notation, axiom, sorry.
-/
import Derived.Test.YtbjhmknahldhaaaDoorChecked
import GoSem.PinnedTables
import GoSem.Claim
import GoSem.ClaimJoined
import GoSem.ClaimMapViews
import Derived.JoinedTies
import Derived.KernelRfl
namespace Go.Proofs.YtbjhmknahldhaaaDoor
/- THE CELL 'sum', in the pinned program and in every row, IS THE sha256 OF THE DUMP (.gsa) THAT YtbjhmknahldhaaaDoorProg.lean LOADS. Nothing in Lean hashes anything: it is a label: what it is worth is what the hold of that sum in a sandbox is worth. -/
noncomputable def Tryd.pinned : Pinned := { name := "ytbjhmknahldhaaadoor", sum := "e48fd21451a8e7cf23a3b67e458e8eeeaab6448a1b91809d2a69b68021d71a03", checked := Tryd.checked }
namespace Rows
def none {H : Type} : Left H := { results := [], args := [] }

/- WHAT THE LISTED PACKAGE-LEVEL VARIABLES READ AS WHEN THE CALL BEGINS. Each datum BY PROGRAM (the guide's laid-datum.mjs) off the statement by which the dump's own 'gosem.cut.vars' lays the variable. In a bare row this is a premise. The card (YtbjhmknahldhaaaDoorCards.lean) ties it to the program's text. -/
def laid_unicode_utf8_acceptRanges {H : Type} : DataW H := .agg [.agg [.lit (.int .u8 128), .lit (.int .u8 191)], .agg [.lit (.int .u8 160), .lit (.int .u8 191)], .agg [.lit (.int .u8 128), .lit (.int .u8 159)], .agg [.lit (.int .u8 144), .lit (.int .u8 191)], .agg [.lit (.int .u8 128), .lit (.int .u8 143)], .agg [.lit (.int .u8 0), .lit (.int .u8 0)], .agg [.lit (.int .u8 0), .lit (.int .u8 0)], .agg [.lit (.int .u8 0), .lit (.int .u8 0)], .agg [.lit (.int .u8 0), .lit (.int .u8 0)], .agg [.lit (.int .u8 0), .lit (.int .u8 0)], .agg [.lit (.int .u8 0), .lit (.int .u8 0)], .agg [.lit (.int .u8 0), .lit (.int .u8 0)], .agg [.lit (.int .u8 0), .lit (.int .u8 0)], .agg [.lit (.int .u8 0), .lit (.int .u8 0)], .agg [.lit (.int .u8 0), .lit (.int .u8 0)], .agg [.lit (.int .u8 0), .lit (.int .u8 0)]]
/-- One of Go's own tables, pinned by name: the form's constant. -/
def laid_unicode_utf8_first : DataW Unit := Go.Pinned.utf8First

/-- 'glossatorlaw23.FiveEncodes': WHATEVER THE INPUT: true; the input reads as it did. -/
def fiveEncodesSpec : ChangeSpec := { name := "fiveEncodes", fn := fun _ => fun
  | [d1, d2] => { results := [.lit (.bool true)], args := [d1, d2] }
  | _ => none }
def fiveEncodesRow : OpenClaim := { program := "ytbjhmknahldhaaadoor", sum := "e48fd21451a8e7cf23a3b67e458e8eeeaab6448a1b91809d2a69b68021d71a03", func := "glossator/glossatorlaw23.FiveEncodes", spec := "fiveEncodes", inPlace := ["internal/bytealg.IndexByteString", "internal/bytealg.IndexString"], unfollowed := true, recurses := true, named := ["unicode/utf8.first", "unicode/utf8.acceptRanges", "internal/bytealg.MaxLen"], apart := false, laid := [("unicode/utf8.acceptRanges", laid_unicode_utf8_acceptRanges), ("unicode/utf8.first", laid_unicode_utf8_first)] }
def FiveEncodesSaid : Prop := fiveEncodesRow.holds Tryd.pinned (OpenSpec.ofChange fiveEncodesSpec)

/-- ITS FALSE NEIGHBOUR: 'it returns false'. Refute it at one input. -/
def fiveEncodesWrong : ChangeSpec := { name := "fiveEncodes", fn := fun _ => fun
  | [d1, d2] => { results := [.lit (.bool false)], args := [d1, d2] }
  | _ => none }
def FiveEncodesWrongFalsely : Prop := fiveEncodesRow.holds Tryd.pinned (OpenSpec.ofChange fiveEncodesWrong)

/-- 'glossatorlaw23.FiveDecodes': WHATEVER THE INPUT: true; the input reads as it did. -/
def fiveDecodesSpec : ChangeSpec := { name := "fiveDecodes", fn := fun _ => fun
  | [d1, d2] => { results := [.lit (.bool true)], args := [d1, d2] }
  | _ => none }
def fiveDecodesRow : OpenClaim := { program := "ytbjhmknahldhaaadoor", sum := "e48fd21451a8e7cf23a3b67e458e8eeeaab6448a1b91809d2a69b68021d71a03", func := "glossator/glossatorlaw23.FiveDecodes", spec := "fiveDecodes", inPlace := ["internal/bytealg.IndexByteString", "internal/bytealg.IndexString"], unfollowed := true, recurses := true, named := ["unicode/utf8.first", "unicode/utf8.acceptRanges", "internal/bytealg.MaxLen"], apart := false, laid := [("unicode/utf8.acceptRanges", laid_unicode_utf8_acceptRanges), ("unicode/utf8.first", laid_unicode_utf8_first)] }
def FiveDecodesSaid : Prop := fiveDecodesRow.holds Tryd.pinned (OpenSpec.ofChange fiveDecodesSpec)

/-- ITS FALSE NEIGHBOUR: 'it returns false'. Refute it at one input. -/
def fiveDecodesWrong : ChangeSpec := { name := "fiveDecodes", fn := fun _ => fun
  | [d1, d2] => { results := [.lit (.bool false)], args := [d1, d2] }
  | _ => none }
def FiveDecodesWrongFalsely : Prop := fiveDecodesRow.holds Tryd.pinned (OpenSpec.ofChange fiveDecodesWrong)

/-- 'glossatorlaw23.FiveBack': WHATEVER THE INPUT: true; the input reads as it did. -/
def fiveBackSpec : ChangeSpec := { name := "fiveBack", fn := fun _ => fun
  | [d1, d2, d3] => { results := [.lit (.bool true)], args := [d1, d2, d3] }
  | _ => none }
def fiveBackRow : OpenClaim := { program := "ytbjhmknahldhaaadoor", sum := "e48fd21451a8e7cf23a3b67e458e8eeeaab6448a1b91809d2a69b68021d71a03", func := "glossator/glossatorlaw23.FiveBack", spec := "fiveBack", inPlace := ["internal/bytealg.IndexByteString", "internal/bytealg.IndexString"], unfollowed := true, recurses := true, named := ["unicode/utf8.first", "unicode/utf8.acceptRanges", "internal/bytealg.MaxLen"], apart := false, laid := [("unicode/utf8.acceptRanges", laid_unicode_utf8_acceptRanges), ("unicode/utf8.first", laid_unicode_utf8_first)] }
def FiveBackSaid : Prop := fiveBackRow.holds Tryd.pinned (OpenSpec.ofChange fiveBackSpec)

/-- ITS FALSE NEIGHBOUR: 'it returns false'. Refute it at one input. -/
def fiveBackWrong : ChangeSpec := { name := "fiveBack", fn := fun _ => fun
  | [d1, d2, d3] => { results := [.lit (.bool false)], args := [d1, d2, d3] }
  | _ => none }
def FiveBackWrongFalsely : Prop := fiveBackRow.holds Tryd.pinned (OpenSpec.ofChange fiveBackWrong)

/-- 'glossatorlaw23.FiveWhole': WHATEVER THE INPUT: true; the input reads as it did. -/
def fiveWholeSpec : ChangeSpec := { name := "fiveWhole", fn := fun _ => fun
  | [d1, d2] => { results := [.lit (.bool true)], args := [d1, d2] }
  | _ => none }
def fiveWholeRow : OpenClaim := { program := "ytbjhmknahldhaaadoor", sum := "e48fd21451a8e7cf23a3b67e458e8eeeaab6448a1b91809d2a69b68021d71a03", func := "glossator/glossatorlaw23.FiveWhole", spec := "fiveWhole", inPlace := ["internal/bytealg.IndexByteString", "internal/bytealg.IndexString"], unfollowed := true, recurses := true, named := ["unicode/utf8.first", "unicode/utf8.acceptRanges", "internal/bytealg.MaxLen"], apart := false, laid := [("unicode/utf8.acceptRanges", laid_unicode_utf8_acceptRanges), ("unicode/utf8.first", laid_unicode_utf8_first)] }
def FiveWholeSaid : Prop := fiveWholeRow.holds Tryd.pinned (OpenSpec.ofChange fiveWholeSpec)

/-- ITS FALSE NEIGHBOUR: 'it returns false'. Refute it at one input. -/
def fiveWholeWrong : ChangeSpec := { name := "fiveWhole", fn := fun _ => fun
  | [d1, d2] => { results := [.lit (.bool false)], args := [d1, d2] }
  | _ => none }
def FiveWholeWrongFalsely : Prop := fiveWholeRow.holds Tryd.pinned (OpenSpec.ofChange fiveWholeWrong)

/-- 'glossatorlaw23.FiveBehind': WHATEVER THE INPUT: true; the input reads as it did. -/
def fiveBehindSpec : ChangeSpec := { name := "fiveBehind", fn := fun _ => fun
  | [d1, d2, d3] => { results := [.lit (.bool true)], args := [d1, d2, d3] }
  | _ => none }
def fiveBehindRow : OpenClaim := { program := "ytbjhmknahldhaaadoor", sum := "e48fd21451a8e7cf23a3b67e458e8eeeaab6448a1b91809d2a69b68021d71a03", func := "glossator/glossatorlaw23.FiveBehind", spec := "fiveBehind", inPlace := ["internal/bytealg.IndexByteString", "internal/bytealg.IndexString"], unfollowed := true, recurses := true, named := ["unicode/utf8.first", "unicode/utf8.acceptRanges", "internal/bytealg.MaxLen"], apart := false, laid := [("unicode/utf8.acceptRanges", laid_unicode_utf8_acceptRanges), ("unicode/utf8.first", laid_unicode_utf8_first)] }
def FiveBehindSaid : Prop := fiveBehindRow.holds Tryd.pinned (OpenSpec.ofChange fiveBehindSpec)

/-- ITS FALSE NEIGHBOUR: 'it returns false'. Refute it at one input. -/
def fiveBehindWrong : ChangeSpec := { name := "fiveBehind", fn := fun _ => fun
  | [d1, d2, d3] => { results := [.lit (.bool false)], args := [d1, d2, d3] }
  | _ => none }
def FiveBehindWrongFalsely : Prop := fiveBehindRow.holds Tryd.pinned (OpenSpec.ofChange fiveBehindWrong)

/- THE SECOND FORM. 'bulk': how many values and letters a reading holds, each counted each time it is reached (what is shared counts as often as it is met; a slice's spare places count too). A statement '..UptoSaid' is the law's where the arguments, and the package variables that the reading takes, are together of bulk at most 1048576: NARROWER than '..Said'. Prove '..Said' where nothing that the law and all that it calls make is longer than what came in: it says more and counts as full. Else prove '..UptoSaid'. A law counts once. -/
mutual
def uptoBulk {H : Type} : DataW H → Nat
  | .lit (.string bytes) => bytes.length + 1
  | .lit _ => 1
  | .nil => 1
  | .ptr d => uptoBulk d + 1
  | .slice elems spare => uptoBulkAll elems + uptoBulkAll spare + 1
  | .agg parts => uptoBulkAll parts + 1
  | .iface _ d => uptoBulk d + 1
  | .map entries => uptoBulkEntries entries + 1
  | .held _ => 1
def uptoBulkAll {H : Type} : List (DataW H) → Nat
  | [] => 0
  | d :: r => uptoBulk d + uptoBulkAll r
def uptoBulkEntries {H : Type} : List (Lit × DataW H) → Nat
  | [] => 0
  | x :: r => uptoBulkEntry x + uptoBulkEntries r
def uptoBulkEntry {H : Type} : Lit × DataW H → Nat
  | (.string bytes, d) => bytes.length + uptoBulk d + 1
  | (_, d) => uptoBulk d + 1
 end
def uptoSmall : (H : Type) → List (DataW H) → Bool := fun _ ds => decide (uptoBulkAll ds ≤ 1048576)
def OpenSpec.upto (s : _root_.Go.ChangeSpec) : _root_.Go.OpenSpec := { _root_.Go.OpenSpec.ofChange s with cond := some uptoSmall }

/-- 'glossatorlaw23.FiveEncodes', WHERE WHAT IT READS IS OF BULK AT MOST 1048576: true; the input reads as it did. -/
def fiveEncodesUptoRow : OpenClaim := { program := "ytbjhmknahldhaaadoor", sum := "e48fd21451a8e7cf23a3b67e458e8eeeaab6448a1b91809d2a69b68021d71a03", func := "glossator/glossatorlaw23.FiveEncodes", spec := "fiveEncodes", inPlace := ["internal/bytealg.IndexByteString", "internal/bytealg.IndexString"], unfollowed := true, recurses := true, named := ["unicode/utf8.first", "unicode/utf8.acceptRanges", "internal/bytealg.MaxLen"], apart := false, laid := [("unicode/utf8.acceptRanges", laid_unicode_utf8_acceptRanges), ("unicode/utf8.first", laid_unicode_utf8_first)], narrowed := true }
def FiveEncodesUptoSaid : Prop := fiveEncodesUptoRow.holds Tryd.pinned (OpenSpec.upto fiveEncodesSpec)

/-- 'glossatorlaw23.FiveDecodes', WHERE WHAT IT READS IS OF BULK AT MOST 1048576: true; the input reads as it did. -/
def fiveDecodesUptoRow : OpenClaim := { program := "ytbjhmknahldhaaadoor", sum := "e48fd21451a8e7cf23a3b67e458e8eeeaab6448a1b91809d2a69b68021d71a03", func := "glossator/glossatorlaw23.FiveDecodes", spec := "fiveDecodes", inPlace := ["internal/bytealg.IndexByteString", "internal/bytealg.IndexString"], unfollowed := true, recurses := true, named := ["unicode/utf8.first", "unicode/utf8.acceptRanges", "internal/bytealg.MaxLen"], apart := false, laid := [("unicode/utf8.acceptRanges", laid_unicode_utf8_acceptRanges), ("unicode/utf8.first", laid_unicode_utf8_first)], narrowed := true }
def FiveDecodesUptoSaid : Prop := fiveDecodesUptoRow.holds Tryd.pinned (OpenSpec.upto fiveDecodesSpec)

/-- 'glossatorlaw23.FiveBack', WHERE WHAT IT READS IS OF BULK AT MOST 1048576: true; the input reads as it did. -/
def fiveBackUptoRow : OpenClaim := { program := "ytbjhmknahldhaaadoor", sum := "e48fd21451a8e7cf23a3b67e458e8eeeaab6448a1b91809d2a69b68021d71a03", func := "glossator/glossatorlaw23.FiveBack", spec := "fiveBack", inPlace := ["internal/bytealg.IndexByteString", "internal/bytealg.IndexString"], unfollowed := true, recurses := true, named := ["unicode/utf8.first", "unicode/utf8.acceptRanges", "internal/bytealg.MaxLen"], apart := false, laid := [("unicode/utf8.acceptRanges", laid_unicode_utf8_acceptRanges), ("unicode/utf8.first", laid_unicode_utf8_first)], narrowed := true }
def FiveBackUptoSaid : Prop := fiveBackUptoRow.holds Tryd.pinned (OpenSpec.upto fiveBackSpec)

/-- 'glossatorlaw23.FiveWhole', WHERE WHAT IT READS IS OF BULK AT MOST 1048576: true; the input reads as it did. -/
def fiveWholeUptoRow : OpenClaim := { program := "ytbjhmknahldhaaadoor", sum := "e48fd21451a8e7cf23a3b67e458e8eeeaab6448a1b91809d2a69b68021d71a03", func := "glossator/glossatorlaw23.FiveWhole", spec := "fiveWhole", inPlace := ["internal/bytealg.IndexByteString", "internal/bytealg.IndexString"], unfollowed := true, recurses := true, named := ["unicode/utf8.first", "unicode/utf8.acceptRanges", "internal/bytealg.MaxLen"], apart := false, laid := [("unicode/utf8.acceptRanges", laid_unicode_utf8_acceptRanges), ("unicode/utf8.first", laid_unicode_utf8_first)], narrowed := true }
def FiveWholeUptoSaid : Prop := fiveWholeUptoRow.holds Tryd.pinned (OpenSpec.upto fiveWholeSpec)

/-- 'glossatorlaw23.FiveBehind', WHERE WHAT IT READS IS OF BULK AT MOST 1048576: true; the input reads as it did. -/
def fiveBehindUptoRow : OpenClaim := { program := "ytbjhmknahldhaaadoor", sum := "e48fd21451a8e7cf23a3b67e458e8eeeaab6448a1b91809d2a69b68021d71a03", func := "glossator/glossatorlaw23.FiveBehind", spec := "fiveBehind", inPlace := ["internal/bytealg.IndexByteString", "internal/bytealg.IndexString"], unfollowed := true, recurses := true, named := ["unicode/utf8.first", "unicode/utf8.acceptRanges", "internal/bytealg.MaxLen"], apart := false, laid := [("unicode/utf8.acceptRanges", laid_unicode_utf8_acceptRanges), ("unicode/utf8.first", laid_unicode_utf8_first)], narrowed := true }
def FiveBehindUptoSaid : Prop := fiveBehindUptoRow.holds Tryd.pinned (OpenSpec.upto fiveBehindSpec)

end Rows
end Go.Proofs.YtbjhmknahldhaaaDoor
