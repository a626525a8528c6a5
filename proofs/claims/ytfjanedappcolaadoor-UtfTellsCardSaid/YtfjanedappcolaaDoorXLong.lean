/-
  Whether strings are longer than what is gone through: it answers, whatever they are.
-/
import Derived.Test.YtfjanedappcolaaDoorXEv
import Derived.Test.YtfjanedappcolaaDoorQ3
namespace Go.Proofs.YtfjanedappcolaaDoor.XLong
open Go Go.RowKit Go.Proofs.YtfjanedappcolaaDoor.Q Go.Proofs.YtfjanedappcolaaDoorW.PrintWords Go.Proofs.YtfjanedappcolaaDoorW.PrintLast Go.Proofs.YtfjanedappcolaaDoorW.PrintMore Go.Proofs.YtfjanedappcolaaDoor.XEv

theorem l0 (l : List ByteArray) (hl : (l.length : Int) ≤ 1000000) : ∀ (d : Nat) (i n : Int), (l.length : Int) - i = d → 0 ≤ i → ∃ b, Ev (fun k => glossatorlaw01_long.l0 k l n i) b := by
  intro d
  induction d with
  | zero =>
    intro i n hd hi
    refine ⟨decide (n > 262144), up ?_⟩
    have c : ¬ i < (l.length : Int) := by omega
    simp only [glossatorlaw01_long.l0, if_neg c]
    exact now fun _ => rfl
  | succ d ih =>
    intro i n hd hi
    obtain ⟨b, hb⟩ := ih (i + 1) (wrap64 (n + (mn ((rdOf ByteArray.empty l i).size : Int) 1048576))) (by omega) (by omega)
    refine ⟨b, up ?_⟩
    have c : i < (l.length : Int) := by omega
    simp only [glossatorlaw01_long.l0, if_pos c, if_pos hi, w64 (show (-9223372036854775808 : Int) ≤ i + 1 by omega) (by omega)]
    exact hb
theorem one (s : ByteArray) : ∃ b, Ev (fun k => glossatorlaw01_long.f k [s]) b := by
  simp only [glossatorlaw01_long.f]
  exact l0 [s] (by simp) 1 0 0 (by simp) (by omega)
theorem two (s t : ByteArray) : ∃ b, Ev (fun k => glossatorlaw01_long.f k [s, t]) b := by
  simp only [glossatorlaw01_long.f]
  exact l0 [s, t] (by simp) 2 0 0 (by simp) (by omega)
end Go.Proofs.YtfjanedappcolaaDoor.XLong
