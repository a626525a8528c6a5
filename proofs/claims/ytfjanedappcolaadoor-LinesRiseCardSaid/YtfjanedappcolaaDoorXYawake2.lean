/-
  The examples of chapter 2: the program answers them all.
-/
import Derived.Test.YtfjanedappcolaaDoorXEv
import Derived.Lib.Strings
import Derived.Test.YtfjanedappcolaaDoorQ6
namespace Go.Proofs.YtfjanedappcolaaDoor.XYawake2
open Go Go.RowKit Go.Proofs.YtfjanedappcolaaDoor.Q Go.Proofs.YtfjanedappcolaaDoorW.PrintWords Go.Proofs.YtfjanedappcolaaDoorW.PrintLast Go.Proofs.YtfjanedappcolaaDoorW.PrintMore Go.Proofs.YtfjanedappcolaaDoor.XEv
set_option linter.unusedVariables false
set_option linter.unusedSimpArgs false
theorem awake : Ev (fun k => glossatorlaw02_awake.f k) true := of_mono glossatorlaw02_awake.mono ⟨20, by decide +kernel⟩
end Go.Proofs.YtfjanedappcolaaDoor.XYawake2
