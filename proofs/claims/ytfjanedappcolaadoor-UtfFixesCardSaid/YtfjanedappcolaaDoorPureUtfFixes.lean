/-
  UtfFixes: the pure statement of the law: whatever the string, the printed law answers true. No condition of ours.
-/
import Derived.Test.YtfjanedappcolaaDoorXUtfX
import Derived.Test.YtfjanedappcolaaDoorQ4
namespace Go.Proofs.YtfjanedappcolaaDoor.Pure
open Go Go.RowKit Go.Proofs.YtfjanedappcolaaDoor.Q Go.Proofs.YtfjanedappcolaaDoorW.PrintWords Go.Proofs.YtfjanedappcolaaDoorW.PrintLast Go.Proofs.YtfjanedappcolaaDoor.XEv

theorem UtfFixes : glossatorlaw01_UtfFixes.Pure := by
  intro s hs
  refine Ev.rounds (g := fun k => glossatorlaw01_UtfFixes.f k s) ?_
  obtain ⟨b, hb, hle⟩ := XUtfX.long_le s
  simp only [glossatorlaw01_UtfFixes.f]
  refine bind hb ?_
  cases b with
  | true => simp only [if_true]; exact now fun _ => rfl
  | false =>
    simp only [Bool.false_eq_true, if_false]
    refine cbind (XUtfX.utf_fix s (hle rfl)) (bind (XUtfX.ref_fix s (hle rfl)) (now fun _ => ?_))
    simp
end Go.Proofs.YtfjanedappcolaaDoor.Pure
