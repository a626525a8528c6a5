/-
  LinesBack: the pure statement of the law: whatever the string, the place and the place by lines, the printed law answers true. No condition of ours.
-/
import Derived.Test.YtfjanedappcolaaDoorXZplace
import Derived.Test.YtfjanedappcolaaDoorXYawake2
import Derived.Test.YtfjanedappcolaaDoorQ7
namespace Go.Proofs.YtfjanedappcolaaDoor.Pure
open Go Go.RowKit Go.Proofs.YtfjanedappcolaaDoor.Q Go.Proofs.YtfjanedappcolaaDoorW.PrintWords Go.Proofs.YtfjanedappcolaaDoorW.PrintLast Go.Proofs.YtfjanedappcolaaDoorW.PrintMore Go.Proofs.YtfjanedappcolaaDoor.XEv Go.Proofs.YtfjanedappcolaaDoor.XWchars Go.Proofs.YtfjanedappcolaaDoor.XUtfT Go.Proofs.YtfjanedappcolaaDoor.XLines Go.Proofs.YtfjanedappcolaaDoor.XZplace
set_option linter.unusedVariables false
set_option linter.unusedSimpArgs false

theorem LinesBack.posE (s : ByteArray) (hs : s.size ≤ 20000) (k : Nat) (hb : Bnd s k) : Ev (fun n => lines_Pos.f n s (k : Int)) (posOf (k : Int) (lns s)) := by
  have := XZoffs.posE s hs (k : Int)
  unfold XZoffs.pos at this
  rw [beg_bnd s k hb] at this
  exact this
theorem LinesBack.j1 (s : ByteArray) (hs : s.size ≤ 20000) (l c : Int) (hc : c ≤ 9223372036854775807) : Ev (fun k => glossatorlaw02_LinesBack.j1 k s false l c) true := by
  obtain ⟨k, hk, hb, hback, hl⟩ := offs_spec s l c
  have hle := bnd_le hb
  have c1 : ¬ (k : Int) < 0 := by omega
  have c2 : ¬ (k : Int) > (s.size : Int) := by omega
  have hpl := posOf_le s k
  refine up ?_
  simp only [glossatorlaw02_LinesBack.j1, Bool.false_eq_true, if_false]
  refine cbind (XZoffs.offset s hs l c hc) ?_
  rw [hk]
  refine bind (LinesBack.posE s hs k hb) ?_
  simp only [if_neg c1, if_neg c2]
  refine bind (utf_begin s (by omega) (k : Int)) ?_
  rw [beg_bnd s k hb]
  simp only [if_true]
  refine cbind (XZoffs.offset s hs _ _ (by omega)) ?_
  rw [hback]
  simp only [if_true]
  have hli : lines_Line.f s (mx l 0) = some (lineOf (mx l 0) (lns s)) := if_pos (by omega)
  refine cbind hli ?_
  rcases hl with ⟨h1, h2⟩ | ⟨h1, h2, h3, h4, h5⟩
  · have c3 : (k : Int) = (s.size : Int) := by omega
    simp only [h1, Bool.false_eq_true, if_false, if_pos c3]
    exact now fun _ => rfl
  · have c4 : (k : Int) ≥ (lineOf (mx l 0) (lns s)).1 := h4
    simp only [h1, if_true, if_pos h2, if_pos h3, if_pos c4, decide_eq_true h5]
    exact now fun _ => rfl
theorem LinesBack.j0 (s : ByteArray) (hs : s.size ≤ 20000) (l c : Int) (hc : c ≤ 9223372036854775807) (t m : Nat) (ht : t ≤ s.size) (x : Bool) (h1 : x = true → m + 1 = t) (h2 : x = false → m = t) :
    Ev (fun k => glossatorlaw02_LinesBack.j0 k s (t : Int) (m : Int) x l c) true := by
  refine up ?_
  cases x with
  | true =>
    have := h1 rfl
    have e1 : (m : Int) = wrap64 ((t : Int) - 1) := by rw [w64 (by omega) (by omega)]; omega
    simp only [glossatorlaw02_LinesBack.j0, if_true, if_pos e1]
    exact LinesBack.j1 s hs l c hc
  | false =>
    have := h2 rfl
    subst this
    simp only [glossatorlaw02_LinesBack.j0, Bool.false_eq_true, if_false, bne_self_eq_false]
    exact LinesBack.j1 s hs l c hc
theorem LinesBack : glossatorlaw02_LinesBack.Pure := by
  intro s a p hsz ha hp
  have hc := (lit_i64 hp.2).2
  refine Ev.rounds (g := fun k => glossatorlaw02_LinesBack.f k s a p.f0 p.f1) ?_
  simp only [glossatorlaw02_LinesBack.f]
  refine bind XYawake2.awake ?_
  simp only [if_true]
  by_cases h : (s.size : Int) > 20000
  · simp only [if_pos h]; exact now fun _ => rfl
  · simp only [if_neg h]
    have hs : s.size ≤ 20000 := by omega
    have hb := bnd_beg s a
    have hle := bnd_le hb
    obtain ⟨t, ht⟩ : ∃ t, beg s a = t := ⟨_, rfl⟩
    have hpos : XZoffs.pos s a = posOf (t : Int) (lns s) := by unfold XZoffs.pos; rw [ht]
    rw [ht] at hb hle
    have hpl := posOf_le s t
    obtain ⟨m, g1, g2, g3⟩ := place_back s t hb
    refine bind (utf_begin s (by omega) a) (bind (XZoffs.posE s hs a) ?_)
    rw [ht, hpos]
    refine cbind (XZoffs.offset s hs _ _ (by omega)) ?_
    rw [g1]
    have J := LinesBack.j0 s hs p.f0 p.f1 hc t m hle
    have hno : ¬ (0 < t ∧ crlf s (t - 1) = true) → m = t := by
      intro hn
      rcases g2 with g2 | ⟨g2, g4⟩
      · exact g2
      · exact absurd ⟨by omega, by rw [show t - 1 = m by omega]; exact g4⟩ hn
    have hci := crlf_iff s (t - 1)
    by_cases c1 : (t : Int) > 0
    · simp only [if_pos c1]
      by_cases c2 : (t : Int) < (s.size : Int)
      · have e1 : wrap64 ((t : Int) - 1) = ((t - 1 : Nat) : Int) := by rw [w64 (by omega) (by omega)]; omega
        have c3 : (0 : Int) ≤ ((t - 1 : Nat) : Int) := by omega
        have c4 : ((t - 1 : Nat) : Int) < (s.size : Int) := by omega
        simp only [if_pos c2, e1, if_pos c3, if_pos c4, bt_nat]
        by_cases c5 : (B s (t - 1) : Int) = 13
        · have c6 : (0 : Int) ≤ (t : Int) := by omega
          simp only [if_pos c5, if_pos c6]
          refine J _ (fun hx => ?_) (fun hx => ?_)
          · have hx' : (B s t : Int) = 10 := by simpa using hx
            have hcr : crlf s (t - 1) = true := hci.2 ⟨by omega, by omega, by rw [show t - 1 + 1 = t by omega]; omega⟩
            rcases g2 with g2 | ⟨g2, _⟩
            · exact absurd ⟨by omega, hcr⟩ (g3 g2)
            · exact g2
          · have hx' : ¬ (B s t : Int) = 10 := by simpa using hx
            refine hno (fun hn => ?_)
            have := (hci.1 hn.2).2.2
            rw [show t - 1 + 1 = t by omega] at this
            omega
        · simp only [if_neg c5]
          refine J _ (fun hx => by cases hx) (fun _ => hno (fun hn => ?_))
          have := (hci.1 hn.2).2.1
          omega
      · simp only [if_neg c2]
        refine J _ (fun hx => by cases hx) (fun _ => hno (fun hn => ?_))
        have := (hci.1 hn.2).1
        omega
    · simp only [if_neg c1]
      exact J _ (fun hx => by cases hx) (fun _ => hno (fun hn => by omega))
end Go.Proofs.YtfjanedappcolaaDoor.Pure
