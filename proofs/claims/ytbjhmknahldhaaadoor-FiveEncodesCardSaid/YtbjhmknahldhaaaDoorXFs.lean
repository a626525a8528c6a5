/-
  Lists of numbers, and of marks, are the same as themselves.
-/
import Derived.Test.YtbjhmknahldhaaaDoorXFa
import Derived.Test.YtbjhmknahldhaaaDoorQ12
namespace Go.Proofs.YtbjhmknahldhaaaDoor.XFive
open Go Go.RowKit Go.Proofs.YtbjhmknahldhaaaDoor.Q Go.Proofs.YtbjhmknahldhaaaDoorW.PrintWords Go.Proofs.YtbjhmknahldhaaaDoorW.PrintLast Go.Proofs.YtbjhmknahldhaaaDoorW.PrintMore Go.Proofs.YtbjhmknahldhaaaDoor.XEv
set_option linter.unusedVariables false
set_option linter.unusedSimpArgs false

theorem same23 (l : List Int) (hl : l.length ≤ 1000000000000000) : Ev (fun k => glossatorref23_Same.f k l l) true := by
  have h : ∀ (d i : Nat), l.length = i + d → Ev (fun k => glossatorref23_Same.l0 k l l (i : Int)) true := by
    intro d
    induction d with
    | zero =>
      intro i hd
      have c : ¬ (i : Int) < (l.length : Int) := by omega
      refine up ?_
      simp only [glossatorref23_Same.l0, if_neg c]
      exact now fun _ => rfl
    | succ d ih =>
      intro i hd
      have c : (i : Int) < (l.length : Int) := by omega
      have c2 : (0 : Int) ≤ (i : Int) := by omega
      have hi9 : i < 9223372036854775807 := by omega
      refine up ?_
      simp only [glossatorref23_Same.l0, if_pos c, if_pos c2, if_true, w1 i hi9]
      exact ih (i + 1) (by omega)
  simp only [glossatorref23_Same.f, if_true]
  exact h l.length 0 (by omega)
theorem same22 (l : List Mk) (hl : l.length ≤ 1000000000000000) : Ev (fun k => glossatorref22_Same.f k l l) true := by
  have h : ∀ (d i : Nat), l.length = i + d → Ev (fun k => glossatorref22_Same.l0 k l l (i : Int)) true := by
    intro d
    induction d with
    | zero =>
      intro i hd
      have c : ¬ (i : Int) < (l.length : Int) := by omega
      refine up ?_
      simp only [glossatorref22_Same.l0, if_neg c]
      exact now fun _ => rfl
    | succ d ih =>
      intro i hd
      have c : (i : Int) < (l.length : Int) := by omega
      have c2 : (0 : Int) ≤ (i : Int) := by omega
      have hi9 : i < 9223372036854775807 := by omega
      refine up ?_
      simp only [glossatorref22_Same.l0, if_pos c, if_pos c2, beq_self_eq_true, Bool.not_true, Bool.or_self, Bool.false_eq_true, if_false, w1 i hi9]
      exact ih (i + 1) (by omega)
  simp only [glossatorref22_Same.f, if_true]
  exact h l.length 0 (by omega)
end Go.Proofs.YtbjhmknahldhaaaDoor.XFive
