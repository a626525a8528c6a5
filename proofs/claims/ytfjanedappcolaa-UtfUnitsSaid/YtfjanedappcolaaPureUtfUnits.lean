import Derived.Test.YtfjanedappcolaaXRef01u
import Derived.Test.YtfjanedappcolaaXLong
import Derived.Test.YtfjanedappcolaaQ2
namespace Go.Proofs.Ytfjanedappcolaa.Pure
open Go Go.RowKit Go.Proofs.Ytfjanedappcolaa.Q Go.Proofs.YtfjanedappcolaaW.PrintWords Go.Proofs.YtfjanedappcolaaW.PrintLast Go.Proofs.Ytfjanedappcolaa.XEv

theorem UtfUnits : glossatorlaw01_UtfUnits.Pure := by
  intro s u hsz hu
  have hu' := lit_i64 hu
  refine Ev.rounds (g := fun k => glossatorlaw01_UtfUnits.f k s u) ?_
  obtain ⟨b, hb⟩ := XLong.one s
  simp only [glossatorlaw01_UtfUnits.f]
  refine bind hb ?_
  cases b with
  | true => simp only [if_true]; exact now fun _ => rfl
  | false =>
    simp only [Bool.false_eq_true, if_false]
    have e1 : utf_Units.f s = some (XUtf.units s s.size 0 0) := if_pos hsz
    refine cbind e1 (bind (XRef01.units s hsz) ?_)
    simp only [if_true]
    have e2 : utf_Cut.f s u = some ((XUtf.cutAt s s.size 0 u : Nat) : Int) := by
      unfold utf_Cut.f
      by_cases c : u < 0
      · rw [if_pos c, XRef01.cutAt_neg s u c]; rfl
      · rw [if_neg c, if_pos hu'.2]
    refine cbind e2 (bind (XRef01.cut s hsz u) (now fun _ => ?_))
    simp
end Go.Proofs.Ytfjanedappcolaa.Pure
