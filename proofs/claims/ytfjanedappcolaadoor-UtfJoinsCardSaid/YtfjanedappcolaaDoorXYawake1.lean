/-
  The examples of chapter 1: the program answers them all.
-/
import Derived.Test.YtfjanedappcolaaDoorXEv
import Derived.Lib.Strings
import Derived.Test.YtfjanedappcolaaDoorQ10
namespace Go.Proofs.YtfjanedappcolaaDoor.XYawake1
open Go Go.RowKit Go.Proofs.YtfjanedappcolaaDoor.Q Go.Proofs.YtfjanedappcolaaDoorW.PrintWords Go.Proofs.YtfjanedappcolaaDoorW.PrintLast Go.Proofs.YtfjanedappcolaaDoorW.PrintMore Go.Proofs.YtfjanedappcolaaDoor.XEv
set_option linter.unusedVariables false
set_option linter.unusedSimpArgs false
theorem awake : Ev (fun k => glossatorlaw01_awake.f k) true := by
  refine of_mono glossatorlaw01_awake.mono ⟨20, ?_⟩
  simp only [glossatorlaw01_awake.f, Lib.toList_data]
  decide +kernel
end Go.Proofs.YtfjanedappcolaaDoor.XYawake1
