/-
  The reference of layer 2: what its functions answer.
-/
import Derived.Test.YtbjhmknahldhaaaDoorXLines
import Derived.Test.YtbjhmknahldhaaaDoorQ3
import Derived.Test.YtbjhmknahldhaaaDoorQ4
namespace Go.Proofs.YtbjhmknahldhaaaDoor.XRef02
open Go Go.RowKit Go.Proofs.YtbjhmknahldhaaaDoor.Q Go.Proofs.YtbjhmknahldhaaaDoorW.PrintWords Go.Proofs.YtbjhmknahldhaaaDoorW.PrintLast Go.Proofs.YtbjhmknahldhaaaDoorW.PrintMore Go.Proofs.YtbjhmknahldhaaaDoor.XEv Go.Proofs.YtbjhmknahldhaaaDoor.XLines
set_option linter.unusedVariables false
set_option linter.unusedSimpArgs false

/-- How many bytes a line's end has there. -/
def endAt (s : ByteArray) (i : Nat) : Nat := if isB s i then nxt s i - i else 0
theorem endAt_pos (s : ByteArray) (i : Nat) (h : isB s i) : endAt s i = nxt s i - i ∧ 0 < endAt s i := by
  have := nxt_gt s i
  unfold endAt; rw [if_pos h]; omega
theorem endAt_zero (s : ByteArray) (i : Nat) (h : ¬ isB s i) : endAt s i = 0 := if_neg h
theorem endE (s : ByteArray) (hs : s.size ≤ 140737488351232) (i : Nat) : Ev (fun k => glossatorref02_end.f k s (i : Int)) (endAt s i : Int) := by
  unfold glossatorref02_end.f
  by_cases h : i < s.size
  · have c1 : ¬ (i : Int) ≥ (s.size : Int) := by omega
    have c2 : (0 : Int) ≤ (i : Int) := by omega
    have c3 : (i : Int) < (s.size : Int) := by omega
    have e1 : wrap64 ((i : Int) + 1) = ((i + 1 : Nat) : Int) := by rw [w64 (by omega) (by omega)]; rfl
    simp only [if_neg c1, if_pos c2, if_pos c3, bt_nat]
    by_cases h10 : B s i = 10
    · have h10' : (B s i : Int) = 10 := by omega
      simp only [if_pos h10']
      refine up ?_
      have h13 : ¬ (B s i : Int) = 13 := by omega
      simp only [glossatorref02_end.j0, Bool.false_eq_true, if_false, if_pos c2, if_pos c3, bt_nat, if_neg h13]
      have hb : isB s i := ⟨h, .inl h10⟩
      have hc : crlf s i = false := by
        cases hc : crlf s i with
        | false => rfl
        | true => have := (crlf_iff s i).1 hc; omega
      have : endAt s i = 1 := by rw [(endAt_pos s i hb).1]; unfold nxt; rw [hc]; simp
      rw [this]
      exact now fun _ => rfl
    · have h10' : ¬ (B s i : Int) = 10 := by omega
      simp only [if_neg h10']
      refine up ?_
      by_cases h13 : B s i = 13
      · have h13' : (B s i : Int) = 13 := by omega
        have hb : isB s i := ⟨h, .inr h13⟩
        simp only [glossatorref02_end.j0, h13', bne_self_eq_false, Bool.false_eq_true, if_false, if_pos c2, if_pos c3, bt_nat, if_true, e1]
        by_cases hl : i + 1 < s.size
        · have c4 : ((i + 1 : Nat) : Int) < (s.size : Int) := by omega
          have c5 : (0 : Int) ≤ ((i + 1 : Nat) : Int) := by omega
          simp only [if_pos c4, if_pos c5]
          by_cases hn : B s (i + 1) = 10
          · have hn' : (B s (i + 1) : Int) = 10 := by omega
            have hc : crlf s i = true := (crlf_iff s i).2 ⟨hl, h13, hn⟩
            have : endAt s i = 2 := by rw [(endAt_pos s i hb).1]; unfold nxt; rw [hc]; simp
            rw [this]
            simp only [if_pos hn']
            exact now fun _ => rfl
          · have hn' : ¬ (B s (i + 1) : Int) = 10 := by omega
            have hc : crlf s i = false := by
              cases hc : crlf s i with
              | false => rfl
              | true => exact absurd ((crlf_iff s i).1 hc).2.2 hn
            have : endAt s i = 1 := by rw [(endAt_pos s i hb).1]; unfold nxt; rw [hc]; simp
            rw [this]
            simp only [if_neg hn']
            exact now fun _ => rfl
        · have c4 : ¬ ((i + 1 : Nat) : Int) < (s.size : Int) := by omega
          have hc : crlf s i = false := by
            cases hc : crlf s i with
            | false => rfl
            | true => exact absurd ((crlf_iff s i).1 hc).1 hl
          have : endAt s i = 1 := by rw [(endAt_pos s i hb).1]; unfold nxt; rw [hc]; simp
          rw [this]
          simp only [if_neg c4]
          exact now fun _ => rfl
      · have h13' : ¬ (B s i : Int) = 13 := by omega
        have e13 : ((B s i : Int) != 13) = true := by simp [h13']
        rw [endAt_zero s i (fun hb => hb.2.elim h10 h13)]
        simp only [glossatorref02_end.j0, e13, if_true]
        exact now fun _ => rfl
  · have c1 : (i : Int) ≥ (s.size : Int) := by omega
    simp only [if_pos c1]
    refine up ?_
    rw [endAt_zero s i (fun hb => h hb.1)]
    simp only [glossatorref02_end.j0, if_true]
    exact now fun _ => rfl

theorem starts_l0 (s : ByteArray) (hs : s.size ≤ 1000000000) : ∀ (b a : Nat) (acc : List Int), s.size ≤ a + b → acc.length + b ≤ 2000000000 →
    Ev (fun k => glossatorref02_Starts.l0 k s acc (a : Int)) (acc ++ sts s b a) := by
  intro b
  induction b with
  | zero =>
    intro a acc hb hl
    refine up ?_
    have c : ¬ (a : Int) < (s.size : Int) := by omega
    simp only [glossatorref02_Starts.l0, if_neg c, sts, List.append_nil]
    exact now fun _ => rfl
  | succ b ih =>
    intro a acc hb hl
    refine up ?_
    by_cases h : a < s.size
    · have c : (a : Int) < (s.size : Int) := by omega
      simp only [glossatorref02_Starts.l0, if_pos c]
      refine bind (endE s (by omega) a) ?_
      rw [sts, if_pos h]
      by_cases hB : isB s a
      · have h0 := endAt_pos s a hB
        have h1 := nxt_gt s a
        have h2 := nxt_le s a h
        have c2 : (endAt s a : Int) > 0 := by omega
        have c3 : acc.length < 17592186044416 := by omega
        have e1 : wrap64 ((a : Int) + (endAt s a : Int)) = (nxt s a : Int) := by rw [w64 (by omega) (by omega)]; omega
        simp only [if_pos c2, if_pos c3, e1, if_pos hB]
        have := ih (nxt s a) (acc ++ [(nxt s a : Int)]) (by omega) (by simp; omega)
        rw [List.append_assoc, List.singleton_append] at this
        exact this
      · have c2 : ¬ (endAt s a : Int) > 0 := by rw [endAt_zero s a hB]; omega
        have e1 : wrap64 ((a : Int) + 1) = ((a + 1 : Nat) : Int) := by rw [w64 (by omega) (by omega)]; rfl
        simp only [if_neg c2, e1, if_neg hB]
        exact ih (a + 1) acc (by omega) (by omega)
    · have c : ¬ (a : Int) < (s.size : Int) := by omega
      rw [sts, if_neg h]
      simp only [glossatorref02_Starts.l0, if_neg c, List.append_nil]
      exact now fun _ => rfl
theorem starts (s : ByteArray) (hs : s.size ≤ 1000000000) : Ev (fun k => glossatorref02_Starts.f k s) (begs (lns s)) := by
  rw [begs_lns]
  simp only [glossatorref02_Starts.f]
  exact starts_l0 s hs s.size 0 [0] (by omega) (by simp; omega)

theorem line_l0 (s : ByteArray) (hs : s.size ≤ 1000000000) (L : List Int) (n : Nat) (hn : n < L.length) : ∀ (m a : Nat), s.size - a ≤ m → a ≤ s.size →
    Ev (fun k => glossatorref02_Line.l0 k s (n : Int) L (a : Int)) (rd L (n : Int), ((brk s a : Nat) : Int), true) := by
  have c5 : (0 : Int) ≤ (n : Int) := by omega
  have c6 : (n : Int) < (L.length : Int) := by omega
  intro m
  induction m with
  | zero =>
    intro a hm ha
    refine up ?_
    have c : ¬ (a : Int) < (s.size : Int) := by omega
    simp only [glossatorref02_Line.l0, if_neg c, if_pos c5, if_pos c6]
    rw [brk_end s a (by omega)]
    have : a = s.size := by omega
    subst this
    exact now fun _ => rfl
  | succ m ih =>
    intro a hm ha
    refine up ?_
    by_cases h : a < s.size
    · have c : (a : Int) < (s.size : Int) := by omega
      simp only [glossatorref02_Line.l0, if_pos c]
      refine bind (endE s (by omega) a) ?_
      by_cases hB : isB s a
      · have h0 := endAt_pos s a hB
        have c2 : ¬ (endAt s a : Int) = 0 := by omega
        simp only [if_neg c2, if_pos c5, if_pos c6]
        rw [brk_hit s a hB]
        exact now fun _ => rfl
      · have c2 : (endAt s a : Int) = 0 := by rw [endAt_zero s a hB]; rfl
        have e1 : wrap64 ((a : Int) + 1) = ((a + 1 : Nat) : Int) := by rw [w64 (by omega) (by omega)]; rfl
        simp only [if_pos c2, e1]
        rw [brk_skip s a h hB]
        exact ih (a + 1) (by omega) (by omega)
    · have c : ¬ (a : Int) < (s.size : Int) := by omega
      simp only [glossatorref02_Line.l0, if_neg c, if_pos c5, if_pos c6]
      rw [brk_end s a (by omega)]
      have : a = s.size := by omega
      subst this
      exact now fun _ => rfl
theorem line_at (s : ByteArray) (hs : s.size ≤ 1000000000) (i : Nat) (x : Ln s) (hx : (lns s)[i]? = some x) : Ev (fun k => glossatorref02_Line.f k s (i : Int)) ((x.1.2.1 : Int), ((brk s x.1.2.1 : Nat) : Int), true) := by
  have h0 : ¬ (i : Int) < 0 := by omega
  have hl : (begs (lns s)).length = (lns s).length := by unfold begs; rw [List.length_map]
  have hi := (List.getElem?_eq_some_iff.1 hx).1
  have h1 : ¬ (i : Int) ≥ ((begs (lns s)).length : Int) := by omega
  have c5 : (0 : Int) ≤ (i : Int) := by omega
  have c6 : (i : Int) < ((begs (lns s)).length : Int) := by omega
  simp only [glossatorref02_Line.f]
  refine bind (starts s hs) ?_
  simp only [if_neg h0]
  refine up ?_
  simp only [glossatorref02_Line.j0, h1, decide_false, Bool.false_eq_true, if_false, if_pos c5, if_pos c6]
  have hr := rd_of (begs_at s i x hx)
  rw [hr]
  have := line_l0 s hs (begs (lns s)) i (by omega) s.size x.1.2.1 (by omega) (by have := x.2; omega)
  rw [hr] at this
  exact this
end Go.Proofs.YtbjhmknahldhaaaDoor.XRef02
