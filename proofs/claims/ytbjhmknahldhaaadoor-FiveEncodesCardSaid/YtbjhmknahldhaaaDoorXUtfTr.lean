/-
  Characters in a string: the reference of layer 1.
-/
import Derived.Test.YtbjhmknahldhaaaDoorXUtfT
import Derived.Test.YtbjhmknahldhaaaDoorXRef01
import Derived.Test.YtbjhmknahldhaaaDoorQ2
namespace Go.Proofs.YtbjhmknahldhaaaDoor.XUtfT
open Go Go.RowKit Go.Proofs.YtbjhmknahldhaaaDoor.Q Go.Proofs.YtbjhmknahldhaaaDoorW.PrintWords Go.Proofs.YtbjhmknahldhaaaDoorW.PrintLast Go.Proofs.YtbjhmknahldhaaaDoorW.PrintMore Go.Proofs.YtbjhmknahldhaaaDoor.XEv Go.Proofs.YtbjhmknahldhaaaDoor.XRef01
set_option linter.unusedVariables false
set_option linter.unusedSimpArgs false

theorem begin_l0 (s : ByteArray) (hs : s.size ≤ 140737488351232) (a : Nat) (ha : a < s.size) : ∀ (b p : Nat), a < p + b → p ≤ a → Ev (fun k => glossatorref01_Begin.l0 k s a p) (begF s a b p : Int) := by
  intro b
  induction b with
  | zero => intro p h1 h2; omega
  | succ b ih =>
    intro p h1 h2
    refine up ?_
    simp only [glossatorref01_Begin.l0]
    refine bind (XRef01.step s p (by omega) hs) ?_
    have hw := XUtf.width_range s p
    have hf := XUtf.width_fit s p (by omega)
    have e1 : wrap64 ((p : Int) + (XUtf.width s p : Int)) = ((p + XUtf.width s p : Nat) : Int) := by rw [w64 (by omega) (by omega)]; omega
    simp only [e1]
    rw [begF]
    by_cases h : a < p + XUtf.width s p
    · have c : ((p + XUtf.width s p : Nat) : Int) > (a : Int) := by omega
      simp only [if_pos c, if_pos h]
      exact now fun _ => rfl
    · have c : ¬ ((p + XUtf.width s p : Nat) : Int) > (a : Int) := by omega
      simp only [if_neg c, if_neg h]
      exact ih _ (by omega) (by omega)
theorem ref_begin (s : ByteArray) (hs : s.size ≤ 140737488351232) (a : Nat) (ha : a < s.size) : Ev (fun k => glossatorref01_Begin.f k s a) (begF s a (a + 1) 0 : Int) := by
  have c0 : ¬ (a : Int) < 0 := by omega
  have c1 : ¬ (a : Int) ≥ (s.size : Int) := by omega
  simp only [glossatorref01_Begin.f, if_neg c0, if_neg c1]
  exact begin_l0 s hs a ha (a + 1) 0 (by omega) (by omega)
theorem ref_beg (s : ByteArray) (hs : s.size ≤ 140737488351232) (a : Int) : Ev (fun k => glossatorref01_Begin.f k s a) (beg s a : Int) := by
  unfold beg
  by_cases h0 : a < 0
  · rw [if_pos h0]; simp only [glossatorref01_Begin.f, if_pos h0]; exact now fun _ => rfl
  · by_cases h1 : (s.size : Int) ≤ a
    · have h1' : a ≥ (s.size : Int) := h1
      rw [if_neg h0, if_pos h1]; simp only [glossatorref01_Begin.f, if_neg h0, if_pos h1']; exact now fun _ => rfl
    · obtain ⟨n, rfl⟩ : ∃ n : Nat, a = n := ⟨a.toNat, by omega⟩
      rw [if_neg h0, if_neg h1]
      exact ref_begin s hs n (by omega)
end Go.Proofs.YtbjhmknahldhaaaDoor.XUtfT
