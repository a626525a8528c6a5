/-
  LinesTell: the pure statement of the law: whatever the string and the number, the printed law answers true. No condition of ours.
-/
import Derived.Test.YtfjanedappcolaaXRef02
import Derived.Test.YtfjanedappcolaaQ8
namespace Go.Proofs.Ytfjanedappcolaa.Pure
open Go Go.RowKit Go.Proofs.Ytfjanedappcolaa.Q Go.Proofs.YtfjanedappcolaaW.PrintWords Go.Proofs.YtfjanedappcolaaW.PrintLast Go.Proofs.Ytfjanedappcolaa.XEv Go.Proofs.Ytfjanedappcolaa.XLines

theorem begs_short (s : ByteArray) : (begs (lns s)).length ≤ s.size + 1 := by
  unfold begs; rw [List.length_map]; exact lnsFrom_len _ _ _
theorem LinesTell.again (s : ByteArray) (hs : s.size ≤ 20000) : ∀ (m i : Nat) (L : List Int), L.length ≤ i + m → L.length ≤ 30000 → Ev (fun k => glossatorlaw02_LinesTell.l0 k s L (i : Int)) true := by
  intro m
  have hst : lines_Starts.f s = some (begs (lns s)) := if_pos (by omega)
  have hln := begs_short s
  have fin : Ev (fun k => (lines_Starts.f s).bind fun t200 => ((glossatorref02_Starts.f k s).bind fun t203 => ((glossatorref02_Same.f k t200 t203).bind fun t206 => (some t206)))) true :=
    cbind hst (bind (XRef02.starts s (by omega)) (bind (XRef02.same _ (by omega)) (now fun _ => rfl)))
  induction m with
  | zero =>
    intro i L hm hl
    refine up ?_
    have c : ¬ (i : Int) < (L.length : Int) := by omega
    simp only [glossatorlaw02_LinesTell.l0, if_neg c]
    exact fin
  | succ m ih =>
    intro i L hm hl
    refine up ?_
    by_cases h : i < L.length
    · have c : (i : Int) < (L.length : Int) := by omega
      have c0 : (0 : Int) ≤ (i : Int) := by omega
      have e1 : wrap64 ((i : Int) + 1) = ((i + 1 : Nat) : Int) := by rw [w64 (by omega) (by omega)]; rfl
      simp only [glossatorlaw02_LinesTell.l0, if_pos c, if_pos c0, e1]
      exact ih (i + 1) _ (by rw [List.length_set]; omega) (by rw [List.length_set]; exact hl)
    · have c : ¬ (i : Int) < (L.length : Int) := by omega
      simp only [glossatorlaw02_LinesTell.l0, if_neg c]
      exact fin
theorem LinesTell : glossatorlaw02_LinesTell.Pure := by
  intro s n hsz hn
  refine Ev.rounds (g := fun k => glossatorlaw02_LinesTell.f k s n) ?_
  simp only [glossatorlaw02_LinesTell.f]
  by_cases h : (s.size : Int) > 20000
  · simp only [if_pos h]
    exact now fun _ => rfl
  · simp only [if_neg h]
    have hs : s.size ≤ 20000 := by omega
    have hln := begs_short s
    have hst : lines_Starts.f s = some (begs (lns s)) := if_pos (by omega)
    have hli : lines_Line.f s n = some (lineOf n (lns s)) := if_pos (by omega)
    have hma : lines_Many.f s = some (manyOf (lns s)) := if_pos (by omega)
    refine cbind hst (cbind hli (bind (XRef02.line s (by omega) n) (bind (XRef02.starts s (by omega)) (bind (XRef02.same _ (by omega)) ?_))))
    simp only [if_true]
    refine cbind hma (bind (XRef02.many s (by omega)) ?_)
    simp only [if_true, beq_self_eq_true, Bool.not_true, Bool.or_self, Bool.false_eq_true, if_false, bne_self_eq_false]
    refine up ?_
    simp only [glossatorlaw02_LinesTell.j0, Bool.false_eq_true, if_false]
    exact LinesTell.again s hs (begs (lns s)).length 0 _ (by omega) (by omega)
end Go.Proofs.Ytfjanedappcolaa.Pure
