/-
  LinesRise: the pure statement of the law: whatever the string and the two places, the printed law answers true. No condition of ours.
-/
import Derived.Test.YtfjanedappcolaaDoorXZplace
import Derived.Test.YtfjanedappcolaaDoorXYawake2
import Derived.Test.YtfjanedappcolaaDoorQ9
namespace Go.Proofs.YtfjanedappcolaaDoor.Pure
open Go Go.RowKit Go.Proofs.YtfjanedappcolaaDoor.Q Go.Proofs.YtfjanedappcolaaDoorW.PrintWords Go.Proofs.YtfjanedappcolaaDoorW.PrintLast Go.Proofs.YtfjanedappcolaaDoorW.PrintMore Go.Proofs.YtfjanedappcolaaDoor.XEv Go.Proofs.YtfjanedappcolaaDoor.XWchars Go.Proofs.YtfjanedappcolaaDoor.XUtfT Go.Proofs.YtfjanedappcolaaDoor.XZplace
set_option linter.unusedVariables false
set_option linter.unusedSimpArgs false

theorem LinesRise : glossatorlaw02_LinesRise.Pure := by
  intro s a b hsz ha hb
  refine Ev.rounds (g := fun k => glossatorlaw02_LinesRise.f k s a b) ?_
  simp only [glossatorlaw02_LinesRise.f]
  refine bind XYawake2.awake ?_
  simp only [if_true]
  by_cases h : (s.size : Int) > 20000
  · simp only [if_pos h]; exact now fun _ => rfl
  · simp only [if_neg h]
    have hs : s.size ≤ 20000 := by omega
    refine bind (XZoffs.posE s hs (mn a b)) (bind (XZoffs.posE s hs (mx a b)) (now fun _ => ?_))
    have hle : beg s (mn a b) ≤ beg s (mx a b) := by
      have h1 := bnd_beg s (mn a b)
      have h2 : mn a b ≤ mx a b := by unfold mn mx; split <;> split <;> omega
      by_cases h0 : mn a b < 0
      · unfold beg; rw [if_pos h0]; exact Nat.zero_le _
      · have := beg_le' s (mn a b) (by omega)
        exact beg_last s (mx a b) _ h1 (by omega)
    have := pos_rise s _ _ (bnd_beg s (mn a b)) (bnd_beg s (mx a b)) hle
    unfold XZoffs.pos
    rcases this with h1 | ⟨h1, h2⟩
    · rw [if_pos h1]
    · rw [if_neg (by omega), if_pos h1, decide_eq_true h2]
end Go.Proofs.YtfjanedappcolaaDoor.Pure
