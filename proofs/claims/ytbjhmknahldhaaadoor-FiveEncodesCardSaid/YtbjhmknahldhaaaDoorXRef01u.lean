/-
  The reference of layer 1: units.
-/
import Derived.Test.YtbjhmknahldhaaaDoorXRef01
import Derived.Test.YtbjhmknahldhaaaDoorQ6
namespace Go.Proofs.YtbjhmknahldhaaaDoor.XRef01
open Go Go.RowKit Go.Proofs.YtbjhmknahldhaaaDoor.Q Go.Proofs.YtbjhmknahldhaaaDoorW.PrintWords Go.Proofs.YtbjhmknahldhaaaDoorW.PrintLast Go.Proofs.YtbjhmknahldhaaaDoorW.PrintMore Go.Proofs.YtbjhmknahldhaaaDoor.XEv
set_option linter.unusedVariables false
set_option linter.unusedSimpArgs false

theorem units_l0 (s : ByteArray) (hsz : s.size ≤ 140737488351232) : ∀ (b pos : Nat) (acc : Int), s.size ≤ pos + b → pos ≤ s.size → 0 ≤ acc → acc ≤ 2 * (pos : Int) →
    Ev (fun k => glossatorref01_Units.l0 k s pos acc) (XUtf.units s b pos acc) := by
  intro b
  induction b with
  | zero =>
    intro pos acc hb hp h0 h1
    refine up ?_
    have c : ¬ (pos : Int) < (s.size : Int) := by omega
    simp only [glossatorref01_Units.l0, if_neg c]
    exact now fun _ => rfl
  | succ b ih =>
    intro pos acc hb hp h0 h1
    refine up ?_
    by_cases c : pos < s.size
    · have c' : (pos : Int) < (s.size : Int) := by omega
      simp only [glossatorref01_Units.l0, if_pos c']
      refine bind (step s pos c hsz) ?_
      have hw := XUtf.width_range s pos
      have hf := XUtf.width_fit s pos c
      have hu := XUtf.uni_range s pos
      have hl := XUtf.uni_le s pos
      have e1 : wrap64 ((pos : Int) + (XUtf.width s pos : Int)) = ((pos + XUtf.width s pos : Nat) : Int) := by rw [w64 (by omega) (by omega)]; omega
      have e2 : wrap64 (acc + XUtf.uni s pos) = acc + XUtf.uni s pos := w64 (by omega) (by omega)
      simp only [e1, e2]
      rw [XUtf.units, if_pos c]
      exact ih _ _ (by omega) (by omega) (by omega) (by omega)
    · have c' : ¬ (pos : Int) < (s.size : Int) := by omega
      simp only [glossatorref01_Units.l0, if_neg c']
      rw [XUtf.units, if_neg c]
      exact now fun _ => rfl
theorem units (s : ByteArray) (hsz : s.size ≤ 140737488351232) : Ev (fun k => glossatorref01_Units.f k s) (XUtf.units s s.size 0 0) := by
  simp only [glossatorref01_Units.f]
  exact units_l0 s hsz s.size 0 0 (by omega) (by omega) (by omega) (by omega)

theorem cutAt_neg (s : ByteArray) (u : Int) (h : u < 0) : XUtf.cutAt s s.size 0 u = 0 := by
  by_cases hs : 0 < s.size
  · exact XUtf.cutAt_hit s s.size 0 u hs (by omega) (by have := XUtf.uOf_range (Utf8.decode s 0).1; omega)
  · rw [XUtf.cutAt_done s s.size 0 u hs]; omega
end Go.Proofs.YtbjhmknahldhaaaDoor.XRef01
