/- Words and walks of this claim, put together by this repo's wip/xlink.py out of PureJsontextPlain. -/
import Derived.Test.YtebmgmagdhedgaaGreatDoorL13
import Derived.Test.YtebmgmagdhedgaaGreatDoorL18
namespace Go.Proofs.YtebmgmagdhedgaaGreatDoor.Pure
open Go Go.RowKit Go.Proofs.YtebmgmagdhedgaaGreatDoor.Q Go.Proofs.YtebmgmagdhedgaaGreatDoorW.PrintWords Go.Proofs.YtebmgmagdhedgaaGreatDoorW.PrintLast Go.Proofs.YtebmgmagdhedgaaGreatDoorW.PrintMore Go.Proofs.YtebmgmagdhedgaaGreatDoor.XEv
set_option linter.unusedVariables false
set_option linter.unusedSimpArgs false
theorem JsontextPlain : glossatorlaw04_JsontextPlain.Pure := by
  unfold glossatorlaw04_JsontextPlain.Pure
  intro a s ha _
  obtain ⟨h0, h1⟩ := lit_i64 ha
  exact ⟨0, if_pos ⟨h0, h1⟩⟩
end Go.Proofs.YtebmgmagdhedgaaGreatDoor.Pure
