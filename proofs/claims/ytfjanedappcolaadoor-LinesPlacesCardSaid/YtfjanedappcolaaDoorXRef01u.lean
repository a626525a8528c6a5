/-
  The reference of layer 1: units, and the place behind some.
-/
import Derived.Test.YtfjanedappcolaaDoorXRef01
import Derived.Test.YtfjanedappcolaaDoorQ13
import Derived.Test.YtfjanedappcolaaDoorQ14
namespace Go.Proofs.YtfjanedappcolaaDoor.XRef01
open Go Go.RowKit Go.Proofs.YtfjanedappcolaaDoor.Q Go.Proofs.YtfjanedappcolaaDoorW.PrintWords Go.Proofs.YtfjanedappcolaaDoorW.PrintLast Go.Proofs.YtfjanedappcolaaDoorW.PrintMore Go.Proofs.YtfjanedappcolaaDoor.XEv
set_option linter.unusedVariables false
set_option linter.unusedSimpArgs false

theorem units_l0 (s : ByteArray) (hsz : s.size ≤ 140737488351232) : ∀ (b pos : Nat) (acc : Int), s.size ≤ pos + b → pos ≤ s.size → 0 ≤ acc → acc ≤ 2 * (pos : Int) →
    Ev (fun k => glossatorref01_Units.l0 k s pos acc) (XUtf.units s b pos acc) := by
  intro b
  induction b with
  | zero =>
    intro pos acc hb hp h0 h1
    refine up ?_
    have c : ¬ (pos : Int) < (s.size : Int) := by omega
    simp only [glossatorref01_Units.l0, if_neg c]
    exact now fun _ => rfl
  | succ b ih =>
    intro pos acc hb hp h0 h1
    refine up ?_
    by_cases c : pos < s.size
    · have c' : (pos : Int) < (s.size : Int) := by omega
      simp only [glossatorref01_Units.l0, if_pos c']
      refine bind (step s pos c hsz) ?_
      have hw := XUtf.width_range s pos
      have hf := XUtf.width_fit s pos c
      have hu := XUtf.uni_range s pos
      have hl := XUtf.uni_le s pos
      have e1 : wrap64 ((pos : Int) + (XUtf.width s pos : Int)) = ((pos + XUtf.width s pos : Nat) : Int) := by rw [w64 (by omega) (by omega)]; omega
      have e2 : wrap64 (acc + XUtf.uni s pos) = acc + XUtf.uni s pos := w64 (by omega) (by omega)
      simp only [e1, e2]
      rw [XUtf.units, if_pos c]
      exact ih _ _ (by omega) (by omega) (by omega) (by omega)
    · have c' : ¬ (pos : Int) < (s.size : Int) := by omega
      simp only [glossatorref01_Units.l0, if_neg c']
      rw [XUtf.units, if_neg c]
      exact now fun _ => rfl
theorem units (s : ByteArray) (hsz : s.size ≤ 140737488351232) : Ev (fun k => glossatorref01_Units.f k s) (XUtf.units s s.size 0 0) := by
  simp only [glossatorref01_Units.f]
  exact units_l0 s hsz s.size 0 0 (by omega) (by omega) (by omega) (by omega)

theorem cut_l0 (s : ByteArray) (hsz : s.size ≤ 140737488351232) (u : Int) : ∀ (b pos : Nat) (n : Int), s.size ≤ pos + b → pos ≤ s.size → 0 ≤ n → n ≤ 2 * (pos : Int) →
    Ev (fun k => glossatorref01_Cut.l0 k s u pos n) ((XUtf.cutAt s b pos (u - n) : Nat) : Int) := by
  intro b
  induction b with
  | zero =>
    intro pos n hb hp h0 h1
    refine up ?_
    have c : ¬ (pos : Int) < (s.size : Int) := by omega
    simp only [glossatorref01_Cut.l0, if_neg c]
    exact now fun _ => rfl
  | succ b ih =>
    intro pos n hb hp h0 h1
    refine up ?_
    by_cases c : pos < s.size
    · have c' : (pos : Int) < (s.size : Int) := by omega
      simp only [glossatorref01_Cut.l0, if_pos c']
      refine bind (step s pos c hsz) ?_
      have hw := XUtf.width_range s pos
      have hf := XUtf.width_fit s pos c
      have hu := XUtf.uni_range s pos
      have hl := XUtf.uni_le s pos
      have e1 : wrap64 ((pos : Int) + (XUtf.width s pos : Int)) = ((pos + XUtf.width s pos : Nat) : Int) := by rw [w64 (by omega) (by omega)]; omega
      have e2 : wrap64 (n + XUtf.uni s pos) = n + XUtf.uni s pos := w64 (by omega) (by omega)
      simp only [e1, e2]
      rw [XUtf.cutAt, if_pos c]
      by_cases d : n + XUtf.uni s pos > u
      · rw [if_pos (show u - n - XUtf.uOf (Utf8.decode s pos).1 < 0 by have : XUtf.uOf (Utf8.decode s pos).1 = XUtf.uni s pos := rfl; omega)]
        simp only [if_pos d]
        exact now fun _ => rfl
      · rw [if_neg (show ¬ u - n - XUtf.uOf (Utf8.decode s pos).1 < 0 by have : XUtf.uOf (Utf8.decode s pos).1 = XUtf.uni s pos := rfl; omega)]
        simp only [if_neg d]
        have e3 : u - n - XUtf.uOf (Utf8.decode s pos).1 = u - (n + XUtf.uni s pos) := by have : XUtf.uOf (Utf8.decode s pos).1 = XUtf.uni s pos := rfl; omega
        rw [e3]
        exact ih _ _ (by omega) (by omega) (by omega) (by omega)
    · have c' : ¬ (pos : Int) < (s.size : Int) := by omega
      simp only [glossatorref01_Cut.l0, if_neg c']
      rw [XUtf.cutAt, if_neg c]
      exact now fun _ => rfl
theorem cut (s : ByteArray) (hsz : s.size ≤ 140737488351232) (u : Int) : Ev (fun k => glossatorref01_Cut.f k s u) ((XUtf.cutAt s s.size 0 u : Nat) : Int) := by
  simp only [glossatorref01_Cut.f]
  have := cut_l0 s hsz u s.size 0 0 (by omega) (by omega) (by omega) (by omega)
  rwa [Int.sub_zero] at this
theorem cutAt_neg (s : ByteArray) (u : Int) (h : u < 0) : XUtf.cutAt s s.size 0 u = 0 := by
  by_cases hs : 0 < s.size
  · exact XUtf.cutAt_hit s s.size 0 u hs (by omega) (by have := XUtf.uOf_range (Utf8.decode s 0).1; omega)
  · rw [XUtf.cutAt_done s s.size 0 u hs]; omega
end Go.Proofs.YtfjanedappcolaaDoor.XRef01
