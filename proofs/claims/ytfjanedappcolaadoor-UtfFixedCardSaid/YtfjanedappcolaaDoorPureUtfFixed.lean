/-
  UtfFixed: the pure statement of the law: whatever the string, the printed law answers true. No condition of ours.
-/
import Derived.Test.YtfjanedappcolaaDoorXYfix
import Derived.Test.YtfjanedappcolaaDoorXYawake1
import Derived.Test.YtfjanedappcolaaDoorQ12
namespace Go.Proofs.YtfjanedappcolaaDoor.Pure
open Go Go.RowKit Go.Proofs.YtfjanedappcolaaDoor.Q Go.Proofs.YtfjanedappcolaaDoorW.PrintWords Go.Proofs.YtfjanedappcolaaDoorW.PrintLast Go.Proofs.YtfjanedappcolaaDoor.XEv Go.Proofs.YtfjanedappcolaaDoor.XYfix Go.Proofs.YtfjanedappcolaaDoor.XWchars
set_option linter.unusedVariables false
set_option linter.unusedSimpArgs false

theorem UtfFixed.units (s : ByteArray) (hs : s.size ≤ 140737488351232) : utf_Units.f s = some (U s) := by
  unfold utf_Units.f; rw [if_pos hs]; rfl
theorem UtfFixed : glossatorlaw01_UtfFixed.Pure := by
  intro s hs
  refine Ev.rounds (g := fun k => glossatorlaw01_UtfFixed.f k s) ?_
  simp only [glossatorlaw01_UtfFixed.f]
  refine bind XYawake1.awake ?_
  simp only [if_true]
  obtain ⟨b, hb, hle⟩ := XUtfX.long_le s
  refine bind hb ?_
  cases b with
  | true => simp only [if_true]; exact now fun _ => rfl
  | false =>
    have h := hle rfl
    have hz := fixed_size s
    simp only [Bool.false_eq_true, if_false]
    refine cbind (utf_fixE s (by omega)) (cbind (XUtfT.utf_valid (XUtfX.fixed s) (by omega)) ?_)
    simp only [fixed_valid, if_true]
    refine cbind (UtfFixed.units (XUtfX.fixed s) (by omega)) (cbind (UtfFixed.units s hs) ?_)
    simp only [fixed_units, if_true]
    refine cbind (XUtfT.utf_valid s hs) ?_
    simp only [fixed_same, beq_self_eq_true, if_true]
    refine cbind (utf_fixE (XUtfX.fixed s) (by omega)) (now fun _ => ?_)
    rw [fixed_self (XUtfX.fixed s) (fixed_valid s)]
    simp
end Go.Proofs.YtfjanedappcolaaDoor.Pure
