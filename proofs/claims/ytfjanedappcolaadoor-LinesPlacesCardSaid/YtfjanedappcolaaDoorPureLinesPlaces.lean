/-
  LinesPlaces: the pure statement of the law: whatever the string and the places, the printed law answers true. No condition of ours.
-/
import Derived.Test.YtfjanedappcolaaDoorXZoffsR
import Derived.Test.YtfjanedappcolaaDoorQ17
namespace Go.Proofs.YtfjanedappcolaaDoor.Pure
open Go Go.RowKit Go.Proofs.YtfjanedappcolaaDoor.Q Go.Proofs.YtfjanedappcolaaDoorW.PrintWords Go.Proofs.YtfjanedappcolaaDoorW.PrintLast Go.Proofs.YtfjanedappcolaaDoorW.PrintMore Go.Proofs.YtfjanedappcolaaDoor.XEv
set_option linter.unusedVariables false
set_option linter.unusedSimpArgs false

theorem LinesPlaces : glossatorlaw02_LinesPlaces.Pure := by
  intro s p q a hsz hp hq ha
  have hp1 := lit_i64 hp.2
  have hq1 := lit_i64 hq.2
  refine Ev.rounds (g := fun k => glossatorlaw02_LinesPlaces.f k s p.f0 p.f1 q.f0 q.f1 a) ?_
  simp only [glossatorlaw02_LinesPlaces.f]
  by_cases h : (s.size : Int) > 20000
  · simp only [if_pos h]; exact now fun _ => rfl
  · simp only [if_neg h]
    have hs : s.size ≤ 20000 := by omega
    refine cbind (XZoffs.offset s hs p.f0 p.f1 hp1.2) (bind (XZoffs.ref_offset s hs p.f0 p.f1) ?_)
    simp only [if_true]
    refine bind (XZoffs.posE s hs a) (bind (XZoffs.ref_pos s hs a) ?_)
    simp only [beq_self_eq_true, Bool.and_self, if_true]
    have ho : lines_Offsets.f s p.f0 p.f1 q.f0 q.f1 = some (mn (XZoffs.offs s p.f0 p.f1) (XZoffs.offs s q.f0 q.f1), mx (XZoffs.offs s p.f0 p.f1) (XZoffs.offs s q.f0 q.f1)) := by
      simp only [lines_Offsets.f, XZoffs.offset s hs p.f0 p.f1 hp1.2, XZoffs.offset s hs q.f0 q.f1 hq1.2, Option.bind_some]
    have hr : Ev (fun k => glossatorref02_Offsets.f k s p.f0 p.f1 q.f0 q.f1) (mn (XZoffs.offs s p.f0 p.f1) (XZoffs.offs s q.f0 q.f1), mx (XZoffs.offs s p.f0 p.f1) (XZoffs.offs s q.f0 q.f1)) := by
      simp only [glossatorref02_Offsets.f]
      refine bind (XZoffs.ref_offset s hs p.f0 p.f1) (bind (XZoffs.ref_offset s hs q.f0 q.f1) (now fun _ => ?_))
      unfold mn mx
      by_cases c : XZoffs.offs s q.f0 q.f1 < XZoffs.offs s p.f0 p.f1
      · have c' : ¬ XZoffs.offs s p.f0 p.f1 < XZoffs.offs s q.f0 q.f1 := by omega
        simp only [if_pos c, if_neg c']
      · simp only [if_neg c]
        by_cases c' : XZoffs.offs s p.f0 p.f1 < XZoffs.offs s q.f0 q.f1
        · simp only [if_pos c']
        · simp only [if_neg c']
          have : XZoffs.offs s p.f0 p.f1 = XZoffs.offs s q.f0 q.f1 := by omega
          rw [this]
    refine cbind ho (bind hr (now fun _ => ?_))
    simp
end Go.Proofs.YtfjanedappcolaaDoor.Pure
