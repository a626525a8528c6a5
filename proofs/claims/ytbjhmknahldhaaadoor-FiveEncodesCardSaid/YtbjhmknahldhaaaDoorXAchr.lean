/-
  What the character at a place of a string is; whether none is there. No program in sight.
-/
import Derived.Test.YtbjhmknahldhaaaDoorXUtf
import Derived.Test.YtbjhmknahldhaaaDoorXEv
namespace Go.Proofs.YtbjhmknahldhaaaDoor.XRef01
open Go Go.RowKit Go.Proofs.YtbjhmknahldhaaaDoor.XEv
set_option linter.unusedVariables false
set_option linter.unusedSimpArgs false

/-- No character is encoded there. -/
def bad (s : ByteArray) (p : Nat) : Prop := (Utf8.decode s p).1 = 65533 ∧ (Utf8.decode s p).2 = 1
instance (s : ByteArray) (p : Nat) : Decidable (bad s p) := by unfold bad; infer_instance
def nxN (d : Nat × Nat) : Int × Int × Bool := if d.1 = 65533 ∧ d.2 = 1 then (0, 0, false) else ((d.1 : Int), (d.2 : Int), true)
def nx (s : ByteArray) (p : Nat) : Int × Int × Bool := nxN (Utf8.decode s p)
theorem nx_bad (s : ByteArray) (p : Nat) (h : bad s p) : nx s p = (0, 0, false) := if_pos h
theorem nx_good (s : ByteArray) (p : Nat) (h : ¬ bad s p) : nx s p = (((Utf8.decode s p).1 : Int), ((Utf8.decode s p).2 : Int), true) := if_neg h

end Go.Proofs.YtbjhmknahldhaaaDoor.XRef01
