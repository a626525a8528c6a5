/-
  LinesWhole: the pure statement of the law: whatever the string, the printed law answers true. No condition of ours.
-/
import Derived.Test.YtfjanedappcolaaDoorXZplace
import Derived.Test.YtfjanedappcolaaDoorXYawake2
import Derived.Test.YtfjanedappcolaaDoorQ8
namespace Go.Proofs.YtfjanedappcolaaDoor.Pure
open Go Go.RowKit Go.Proofs.YtfjanedappcolaaDoor.Q Go.Proofs.YtfjanedappcolaaDoorW.PrintWords Go.Proofs.YtfjanedappcolaaDoorW.PrintLast Go.Proofs.YtfjanedappcolaaDoorW.PrintMore Go.Proofs.YtfjanedappcolaaDoor.XEv Go.Proofs.YtfjanedappcolaaDoor.XWchars Go.Proofs.YtfjanedappcolaaDoor.XUtfT Go.Proofs.YtfjanedappcolaaDoor.XLines Go.Proofs.YtfjanedappcolaaDoor.XYlines Go.Proofs.YtfjanedappcolaaDoor.XZplace
set_option linter.unusedVariables false
set_option linter.unusedSimpArgs false

theorem LinesWhole.ext1 (s : ByteArray) (a : Nat) (h : a < s.size) : (s.extract a (a + 1)).toList = [s.get! a] := by
  rw [Lib.extract_toList, List.drop_eq_getElem_cons (by rw [← Lib.size_eq]; exact h), show a + 1 - a = 1 by omega, get!_in s a h]
  rfl
theorem LinesWhole.ext2 (s : ByteArray) (a : Nat) (h : a + 1 < s.size) : (s.extract a (a + 2)).toList = [s.get! a, s.get! (a + 1)] := by
  rw [Lib.extract_toList, List.drop_eq_getElem_cons (by rw [← Lib.size_eq]; omega), List.drop_eq_getElem_cons (by rw [← Lib.size_eq]; exact h), show a + 2 - a = 2 by omega, get!_in s a (by omega), get!_in s (a + 1) h]
  rfl
theorem LinesWhole.ext0 (s : ByteArray) : (s.extract s.size s.size).toList = [] := by
  rw [Lib.extract_toList, Nat.sub_self]; rfl
theorem LinesWhole.byte (s : ByteArray) (a : Nat) (v : UInt8) (h : B s a = v.toNat) : s.get! a = v := UInt8.toNat_inj.1 h
theorem LinesWhole.l0 (s : ByteArray) (hs : s.size ≤ 20000) : ∀ (d i : Nat), (lns s).length = i + d → Ev (fun k => glossatorlaw02_LinesWhole.l0 k s (begs (lns s)) (i : Int)) true := by
  have hlen := begs_len s
  have hll : (lns s).length ≤ s.size + 1 := lnsFrom_len _ _ _
  intro d
  induction d with
  | zero =>
    intro i hd
    refine up ?_
    have c : ¬ (i : Int) < ((begs (lns s)).length : Int) := by omega
    simp only [glossatorlaw02_LinesWhole.l0, if_neg c]
    refine up ?_
    simp only [glossatorlaw02_LinesWhole.j2, Bool.false_eq_true, if_false]
    exact now fun _ => rfl
  | succ d ih =>
    intro i hd
    refine up ?_
    have c : (i : Int) < ((begs (lns s)).length : Int) := by omega
    simp only [glossatorlaw02_LinesWhole.l0, if_pos c]
    refine up ?_
    by_cases c3 : (i : Int) < 300
    case neg =>
      simp only [glossatorlaw02_LinesWhole.j2, decide_eq_false c3, Bool.false_eq_true, if_false]
      exact now fun _ => rfl
    simp only [glossatorlaw02_LinesWhole.j2, decide_eq_true c3, if_true]
    obtain ⟨x, hx⟩ : ∃ x, (lns s)[i]? = some x := ⟨_, List.getElem?_eq_getElem (by omega)⟩
    obtain ⟨b1, b2, _, h4, h5, h6, h7⟩ := ln s i x hx
    have hli : lines_Line.f s (i : Int) = some ((x.1.2.1 : Int), (x.1.2.2 : Int), true) := by
      have := line_in s i x hx
      rw [← (lns_at s i x hx).2] at this
      rw [← this]
      exact if_pos (by omega)
    refine cbind hli ?_
    have c0 : (0 : Int) ≤ (i : Int) := by omega
    have hr : rd (begs (lns s)) (i : Int) = (x.1.2.1 : Int) := XLines.rd_of (begs_at s i x hx)
    simp only [if_true, if_pos c0, if_pos c, hr, bne_self_eq_false]
    refine up ?_
    simp only [glossatorlaw02_LinesWhole.j3, Bool.false_eq_true, if_false]
    have hi9 : i < 9223372036854775807 := by omega
    have J6 : ∀ (e : ByteArray) (r : List UInt8), e.toList = r → (r = [13] → x.1.2.2 + 1 < s.size → ¬ B s (x.1.2.2 + 1) = 10) → Ev (fun k => glossatorlaw02_LinesWhole.j6 k s (begs (lns s)) (i : Int) e false (x.1.2.1 : Int) (x.1.2.2 : Int)) true := by
      intro e r he h13
      refine up ?_
      have hx9 : x.1.2.2 < 9223372036854775807 := by omega
      simp only [glossatorlaw02_LinesWhole.j6, Bool.false_eq_true, if_false, he, w1 i hi9, w1 x.1.2.2 hx9]
      by_cases hc : r = [13]
      · simp only [if_pos hc]
        by_cases hc2 : ((x.1.2.2 + 1 : Nat) : Int) < (s.size : Int)
        · have c5 : (0 : Int) ≤ ((x.1.2.2 + 1 : Nat) : Int) := by omega
          have c6 : ¬ (B s (x.1.2.2 + 1) : Int) = 10 := by have := h13 hc (by omega); omega
          simp only [if_pos hc2, if_pos c5, bt_nat, if_neg c6]
          exact ih (i + 1) (by omega)
        · simp only [if_neg hc2]
          exact ih (i + 1) (by omega)
      · simp only [if_neg hc]
        exact ih (i + 1) (by omega)
    have fin : Ev (fun k => if (0 : Int) ≤ (x.1.2.2 : Int) then (if (x.1.2.2 : Int) ≤ (s.size : Int) then (if (wrap64 ((i : Int) + 1)) < ((begs (lns s)).length : Int) then (if 0 ≤ (wrap64 ((i : Int) + 1)) then (if (x.1.2.2 : Int) ≤ (rd (begs (lns s)) (wrap64 ((i : Int) + 1))) then (if (rd (begs (lns s)) (wrap64 ((i : Int) + 1))) ≤ (s.size : Int) then (glossatorlaw02_LinesWhole.j5 k s (begs (lns s)) (i : Int) (s.extract (x.1.2.2 : Int).toNat ((rd (begs (lns s)) (wrap64 ((i : Int) + 1))) : Int).toNat) (x.1.2.1 : Int) (x.1.2.2 : Int)) else (none)) else (none)) else (none)) else (glossatorlaw02_LinesWhole.j5 k s (begs (lns s)) (i : Int) (s.extract (x.1.2.2 : Int).toNat s.size) (x.1.2.1 : Int) (x.1.2.2 : Int))) else (none)) else (none)) true := by
      have k1 : (0 : Int) ≤ (x.1.2.2 : Int) := by omega
      have k2 : (x.1.2.2 : Int) ≤ (s.size : Int) := by omega
      simp only [if_pos k1, if_pos k2, w1 i hi9]
      rcases h7 with ⟨h7, h8⟩ | ⟨h7, y, hy, he⟩
      · have k3 : ¬ ((i + 1 : Nat) : Int) < ((begs (lns s)).length : Int) := by omega
        have k4 : ((i + 1 : Nat) : Int) = ((begs (lns s)).length : Int) := by omega
        simp only [if_neg k3]
        refine up ?_
        have hl : (s.extract ((x.1.2.2 : Int)).toNat s.size).toList = [] := by
          rw [show ((x.1.2.2 : Int)).toNat = s.size by omega]; exact LinesWhole.ext0 s
        simp only [glossatorlaw02_LinesWhole.j5, w1 i hi9, if_neg k3, if_pos k4, hl, bne_self_eq_false]
        exact J6 _ [] hl (fun h => by cases h)
      · have hlt := (List.getElem?_eq_some_iff.1 hy).1
        have k3 : ((i + 1 : Nat) : Int) < ((begs (lns s)).length : Int) := by omega
        have k4 : ¬ ((i + 1 : Nat) : Int) = ((begs (lns s)).length : Int) := by omega
        have k5 : (0 : Int) ≤ ((i + 1 : Nat) : Int) := by omega
        have hr2 : rd (begs (lns s)) ((i + 1 : Nat) : Int) = (nxt s x.1.2.2 : Int) := by rw [XLines.rd_of (begs_at s (i + 1) y hy), he]
        have hg := nxt_gt s x.1.2.2
        have hn := nxt_le s x.1.2.2 h7.1
        have k6 : (x.1.2.2 : Int) ≤ (nxt s x.1.2.2 : Int) := by omega
        have k7 : (nxt s x.1.2.2 : Int) ≤ (s.size : Int) := by omega
        simp only [if_pos k3, if_pos k5, hr2, if_pos k6, if_pos k7]
        rw [show ((x.1.2.2 : Int)).toNat = x.1.2.2 from rfl, show ((nxt s x.1.2.2 : Int)).toNat = nxt s x.1.2.2 from rfl]
        refine up ?_
        simp only [glossatorlaw02_LinesWhole.j5, w1 i hi9, if_pos k3]
        by_cases hc : crlf s x.1.2.2 = true
        · have hci := (crlf_iff s x.1.2.2).1 hc
          have hl : (s.extract x.1.2.2 (nxt s x.1.2.2)).toList = [13, 10] := by
            unfold nxt; rw [if_pos hc, LinesWhole.ext2 s _ hci.1, LinesWhole.byte s _ 13 hci.2.1, LinesWhole.byte s _ 10 hci.2.2]
          have n1 : ¬ ([13, 10] : List UInt8) = [10] := by decide
          have n2 : ¬ ([13, 10] : List UInt8) = [13] := by decide
          simp only [hl, if_neg n1, if_neg n2, if_true, if_neg k4]
          exact J6 _ [13, 10] hl (fun h => absurd h n2)
        · have hnx : nxt s x.1.2.2 = x.1.2.2 + 1 := by unfold nxt; rw [if_neg hc]
          rcases h7.2 with h10 | h13
          · have hl : (s.extract x.1.2.2 (nxt s x.1.2.2)).toList = [10] := by
              rw [hnx, LinesWhole.ext1 s _ h7.1, LinesWhole.byte s _ 10 h10]
            simp only [hl, if_true, if_neg k4]
            exact J6 _ [10] hl (fun h => by exact absurd h (by decide))
          · have hl : (s.extract x.1.2.2 (nxt s x.1.2.2)).toList = [13] := by
              rw [hnx, LinesWhole.ext1 s _ h7.1, LinesWhole.byte s _ 13 h13]
            have n1 : ¬ ([13] : List UInt8) = [10] := by decide
            simp only [hl, if_neg n1, if_true, if_neg k4]
            exact J6 _ [13] hl (fun _ h1 h2 => hc ((crlf_iff s _).2 ⟨h1, h13, h2⟩))
    have L1 : ∀ (m j : Nat), x.1.2.2 ≤ j + m → x.1.2.1 ≤ j → j ≤ x.1.2.2 → Ev (fun k => glossatorlaw02_LinesWhole.l1 k s (begs (lns s)) (i : Int) (j : Int) (x.1.2.1 : Int) (x.1.2.2 : Int)) true := by
      intro m
      induction m with
      | zero =>
        intro j hj1 hj2 hj3
        refine up ?_
        have q : ¬ (j : Int) < (x.1.2.2 : Int) := by omega
        simp only [glossatorlaw02_LinesWhole.l1, if_neg q]
        exact fin
      | succ m ihm =>
        intro j hj1 hj2 hj3
        refine up ?_
        by_cases hj : j < x.1.2.2
        · have q : (j : Int) < (x.1.2.2 : Int) := by omega
          have q1 : (0 : Int) ≤ (j : Int) := by omega
          have q2 : (j : Int) < (s.size : Int) := by omega
          have hnb := h6 j hj2 hj
          have q3 : ¬ (B s j : Int) = 10 := fun h => hnb ⟨by omega, .inl (by omega)⟩
          have q4 : ¬ (B s j : Int) = 13 := fun h => hnb ⟨by omega, .inr (by omega)⟩
          have hj9 : j < 9223372036854775807 := by omega
          simp only [glossatorlaw02_LinesWhole.l1, if_pos q, if_pos q1, if_pos q2, bt_nat, if_neg q3, if_neg q4, w1 j hj9]
          exact ihm (j + 1) (by omega) (by omega) (by omega)
        · have q : ¬ (j : Int) < (x.1.2.2 : Int) := by omega
          simp only [glossatorlaw02_LinesWhole.l1, if_neg q]
          exact fin
    exact L1 s.size x.1.2.1 (by omega) (Nat.le_refl _) h4
theorem LinesWhole : glossatorlaw02_LinesWhole.Pure := by
  intro s hsz
  refine Ev.rounds (g := fun k => glossatorlaw02_LinesWhole.f k s) ?_
  simp only [glossatorlaw02_LinesWhole.f]
  refine bind XYawake2.awake ?_
  simp only [if_true]
  by_cases h : (s.size : Int) > 20000
  · simp only [if_pos h]; exact now fun _ => rfl
  · simp only [if_neg h]
    have hs : s.size ≤ 20000 := by omega
    have hst : lines_Starts.f s = some (begs (lns s)) := if_pos (by omega)
    have hma : lines_Many.f s = some (manyOf (lns s)) := if_pos (by omega)
    have hlen := begs_len s
    have hne := List.length_pos_iff.2 (lns_ne s)
    obtain ⟨x, hx, hx0⟩ := ln_first s
    have hr : rd (begs (lns s)) (0 : Int) = 0 := by
      have := XLines.rd_of (begs_at s 0 x hx)
      rw [hx0] at this
      exact this
    have c1 : ¬ ((begs (lns s)).length : Int) = 0 := by omega
    have c2 : (0 : Int) < ((begs (lns s)).length : Int) := by omega
    refine cbind hst ?_
    simp only [if_neg c1, if_pos c2, hr, if_true]
    refine cbind hma ?_
    rw [many s]
    simp only [bne_self_eq_false]
    refine up ?_
    simp only [glossatorlaw02_LinesWhole.j0, Bool.false_eq_true, if_false]
    exact LinesWhole.l0 s hs (lns s).length 0 (by omega)
end Go.Proofs.YtfjanedappcolaaDoor.Pure
