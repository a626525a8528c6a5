/-
  Marks of a string: what the program's functions answer.
-/
import Derived.Test.YtbjhmknahldhaaaDoorXFa
import Derived.Test.YtbjhmknahldhaaaDoorQ10
import Derived.Test.YtbjhmknahldhaaaDoorQ11
import Derived.Test.YtbjhmknahldhaaaDoorQ12
import Derived.Test.YtbjhmknahldhaaaDoorQ8
import Derived.Test.YtbjhmknahldhaaaDoorQ9
namespace Go.Proofs.YtbjhmknahldhaaaDoor.XFive
open Go Go.RowKit Go.Proofs.YtbjhmknahldhaaaDoor.Q Go.Proofs.YtbjhmknahldhaaaDoorW.PrintWords Go.Proofs.YtbjhmknahldhaaaDoorW.PrintLast Go.Proofs.YtbjhmknahldhaaaDoorW.PrintMore Go.Proofs.YtbjhmknahldhaaaDoor.XEv Go.Proofs.YtbjhmknahldhaaaDoor.XUtfT Go.Proofs.YtbjhmknahldhaaaDoor.XWchars Go.Proofs.YtbjhmknahldhaaaDoor.XLines Go.Proofs.YtbjhmknahldhaaaDoor.XYlines
set_option linter.unusedVariables false
set_option linter.unusedSimpArgs false

theorem rightE (s : ByteArray) (hs : s.size ≤ 1000000) : ∀ (l : List Mk) (a : Int), Ev (fun k => rightF k s a l) (rgt s a l)
  | [], a => now fun _ => rfl
  | m :: r, a => by
    simp only [rightF, rgt]
    by_cases c1 : m.f0.f0 < a
    · simp only [if_pos c1]; exact now fun _ => rfl
    simp only [if_neg c1]
    by_cases c2 : m.f0.f1 < m.f0.f0
    · simp only [if_pos c2]; exact now fun _ => rfl
    simp only [if_neg c2]
    by_cases c3 : (s.size : Int) < m.f0.f1
    · simp only [if_pos c3]; exact now fun _ => rfl
    simp only [if_neg c3]
    by_cases c4 : m.f1 < 0
    · simp only [if_pos c4]; exact now fun _ => rfl
    simp only [if_neg c4]
    by_cases c5 : m.f2 < 0
    · simp only [if_pos c5]; exact now fun _ => rfl
    simp only [if_neg c5]
    refine bind (utf_begin s (by omega) _) ?_
    by_cases c6 : (beg s m.f0.f0 : Int) = m.f0.f0
    · simp only [if_pos c6]
      refine bind (utf_begin s (by omega) _) ?_
      by_cases c7 : (beg s m.f0.f1 : Int) = m.f0.f1
      · simp only [if_pos c7]; exact rightE s hs r _
      · simp only [if_neg c7]; exact now fun _ => rfl
    · simp only [if_neg c6]; exact now fun _ => rfl
theorem right (s : ByteArray) (hs : s.size ≤ 1000000) (l : List Mk) (hl : l.length ≤ 1000000) : Ev (fun k => five_right.f k s l) (rgt s 0 l) := by
  simp only [five_right.f]
  refine Go.Proofs.YtbjhmknahldhaaaDoor.XEv.pos (by omega) (rightE s hs l 0)
/-- Where lines begin, and the end. -/
def st (s : ByteArray) : List Int := begs (lns s) ++ [((s.size + 1 : Nat) : Int)]
theorem begs_len (s : ByteArray) : (begs (lns s)).length = (lns s).length := by unfold begs; rw [List.length_map]
theorem st_len (s : ByteArray) : (st s).length = (lns s).length + 1 := by unfold st; rw [List.length_append, begs_len]; rfl
theorem ends (s : ByteArray) (hs : s.size ≤ 1000000) : five_ends.f s = some (st s) := by
  have h1 : lines_Starts.f s = some (begs (lns s)) := by unfold lines_Starts.f; rw [if_pos (by omega)]
  have h2 := lns_len s
  unfold five_ends.f
  rw [h1, Option.bind_some, if_pos (by rw [begs_len]; omega), w64 (by omega) (by omega)]
  rfl
theorem st_beg (s : ByteArray) (n : Nat) (x : Ln s) (h : (lns s)[n]? = some x) : rd (st s) (n : Int) = (x.1.2.1 : Int) := by
  refine rd_of ?_
  unfold st
  rw [List.getElem?_append_left (by rw [begs_len]; exact (List.getElem?_eq_some_iff.1 h).1)]
  exact begs_at s n x h
theorem st_last (s : ByteArray) : rd (st s) ((lns s).length : Int) = ((s.size + 1 : Nat) : Int) := by
  refine rd_of ?_
  unfold st
  rw [List.getElem?_append_right (by rw [begs_len]; omega), begs_len, Nat.sub_self]
  rfl
/-- Where the next line begins, or all ends. -/
theorem st_next (s : ByteArray) (n : Nat) (x : Ln s) (h : (lns s)[n]? = some x) : ∃ e : Nat, rd (st s) ((n : Int) + 1) = (e : Int) ∧ (∀ f : Nat, f ≤ s.size → f < e → ∀ y, (lns s)[n + 1]? = some y → f < y.1.2.1) ∧ x.1.2.2 < e ∧
    (∀ y, (lns s)[n + 1]? = some y → e = y.1.2.1) ∧ ((lns s)[n + 1]? = none → e = s.size + 1) ∧ (∀ j, x.1.2.2 ≤ j → j < min e s.size → isB s j) := by
  obtain ⟨_, _, _, _, l4, _, hl⟩ := ln s n x h
  rcases hl with ⟨h1, h2⟩ | ⟨h1, y, hy, h2⟩
  · have hn : (lns s)[n + 1]? = none := List.getElem?_eq_none (by omega)
    refine ⟨s.size + 1, by rw [← st_last, h2]; rfl, fun f hf _ y hy => by (rw [hn] at hy; cases hy), by omega, fun y hy => by (rw [hn] at hy; cases hy), fun _ => rfl, fun j h3 h4 => by omega⟩
  · refine ⟨y.1.2.1, by rw [show ((n : Int) + 1) = ((n + 1 : Nat) : Int) by omega]; exact st_beg s (n + 1) y hy, fun f _ hf z hz => ?_, ?_, fun z hz => ?_, fun hz => by (rw [hy] at hz; cases hz), fun j h3 h4 => ?_⟩
    · rw [hy] at hz; obtain rfl := Option.some.inj hz; exact hf
    · have := nxt_gt s x.1.2.2; omega
    · rw [hy] at hz; obtain rfl := Option.some.inj hz; rfl
    · rw [h2] at h4
      unfold nxt at h4
      split at h4
      · rename_i hc
        have := crlf_isB s _ hc
        rcases Nat.lt_or_ge x.1.2.2 j with h5 | h5
        · rw [show j = x.1.2.2 + 1 by omega]; exact this.2
        · rw [show j = x.1.2.2 by omega]; exact this.1
      · rw [show j = x.1.2.2 by omega]; exact h1

/-- Lines ahead of a mark's have nothing of it. -/
theorem pcs1_from (s : ByteArray) {n : Nat} {x : Ln s} {m : Mk} (hx : (lns s)[n]? = some x) (hxle : (x.1.2.1 : Int) ≤ m.f0.f0) : pcs1 s m = ((lns s).drop n).filterMap (pc s m) := by
  have hn := (List.getElem?_eq_some_iff.1 hx).1
  have e : (lns s).filterMap (pc s m) = ((lns s).take n ++ (lns s).drop n).filterMap (pc s m) := by rw [List.take_append_drop]
  unfold pcs1
  rw [e, List.filterMap_append, List.filterMap_eq_nil_iff.2, List.nil_append]
  intro y hy
  obtain ⟨q, hq, hq2⟩ := List.getElem_of_mem hy
  rw [List.getElem_take] at hq2
  have hq3 : q < n := by rw [List.length_take] at hq; omega
  have hy2 : (lns s)[q]? = some y := by rw [← hq2]; exact List.getElem?_eq_getElem _
  refine pc_none (.inr ?_)
  obtain ⟨dd, hdd⟩ : ∃ dd, n = q + dd + 1 := ⟨n - q - 1, by omega⟩
  have := ln_rise s q y hy2 dd x (by rw [← hdd]; exact hx)
  omega
section
variable (s : ByteArray) (hs : s.size ≤ 1000000) (L : List Mk)
include hs
/-- The end of a line is passed back over. -/
theorem p3 {n j i : Nat} {x : Ln s} {m : Mk} {acc : List Mk} {f0 f1 f2 f3 : Int} {r : List Mk × Int} (hx : (lns s)[j]? = some x) (hm : m = ⟨⟨f0, f1⟩, f2, f3⟩) (hacc : acc.length < 4000000000000)
    (h : Ev (fun k => five_Pieces.l2 k s (acc ++ (pc s m x).toList) (st s) (n : Int) ((j + 1 : Nat) : Int) L (L.length : Int) (i : Int) f0 f1 f2 f3) r) :
    ∀ (d q : Nat), q = x.1.2.2 + d → q ≤ s.size → (∀ b, x.1.2.2 ≤ b → b < q → isB s b) → Ev (fun k => five_Pieces.l3 k s acc (st s) (n : Int) (j : Int) (q : Int) L (L.length : Int) (i : Int) f0 f1 f2 f3) r := by
  have hj := (List.getElem?_eq_some_iff.1 hx).1
  have hln := lns_len s
  obtain ⟨_, _, _, l3, l4, l5, _⟩ := ln s j x hx
  have e1 : wrap64 ((j : Int) + 1) = ((j + 1 : Nat) : Int) := w1 j (by omega)
  have c1 : (0 : Int) ≤ (j : Int) := by omega
  have c2 : (j : Int) < ((st s).length : Int) := by rw [st_len]; omega
  have hfin : Ev (fun k => if (mx f0 (x.1.2.1 : Int)) < (mn f1 (x.1.2.2 : Int)) then (if acc.length < 4398046511104 then (five_Pieces.l2 k s (acc ++ [(⟨(⟨mx f0 (x.1.2.1 : Int), mn f1 (x.1.2.2 : Int)⟩ : S36), f2, f3⟩ : Mk)]) (st s) (n : Int) (wrap64 ((j : Int) + 1)) L (L.length : Int) (i : Int) f0 f1 f2 f3) else none) else (five_Pieces.l2 k s acc (st s) (n : Int) (wrap64 ((j : Int) + 1)) L (L.length : Int) (i : Int) f0 f1 f2 f3)) r := by
    subst hm
    unfold pc at h
    by_cases c : mx f0 (x.1.2.1 : Int) < mn f1 (x.1.2.2 : Int)
    · rw [if_pos c] at h
      simp only [if_pos c, e1]
      exact XEv.pos (by omega) h
    · rw [if_neg c, Option.toList_none, List.append_nil] at h
      simp only [if_neg c, e1]
      exact h
  intro d
  induction d with
  | zero =>
    intro q hto hle hb
    refine up ?_
    simp only [five_Pieces.l3, if_pos c1, if_pos c2, st_beg s j x hx]
    rw [show q = x.1.2.2 by omega]
    by_cases c : (x.1.2.2 : Int) > (x.1.2.1 : Int)
    · have hb := l5 (x.1.2.2 - 1) (by omega) (by omega)
      have hn : ¬ (B s (x.1.2.2 - 1) = 10 ∨ B s (x.1.2.2 - 1) = 13) := fun h => hb ⟨by omega, h⟩
      have e2 := wsub1 x.1.2.2 (by omega) (by omega)
      have c3 : (0 : Int) ≤ ((x.1.2.2 - 1 : Nat) : Int) := by omega
      have c4 : ((x.1.2.2 - 1 : Nat) : Int) < (s.size : Int) := by omega
      have c5 : ¬ ((B s (x.1.2.2 - 1) : Int) = 10) := by omega
      have c6 : ¬ ((B s (x.1.2.2 - 1) : Int) = 13) := by omega
      simp only [if_pos c, e2, if_pos c3, if_pos c4, bt_nat, if_neg c5, if_neg c6]
      exact hfin
    · simp only [if_neg c]
      exact hfin
  | succ d ih =>
    intro q hto hle hb
    refine up ?_
    simp only [five_Pieces.l3, if_pos c1, if_pos c2, st_beg s j x hx]
    have c : (q : Int) > (x.1.2.1 : Int) := by omega
    have hB := (hb (q - 1) (by omega) (by omega)).2
    have e2 := wsub1 q (by omega) (by omega)
    have c3 : (0 : Int) ≤ ((q - 1 : Nat) : Int) := by omega
    have c4 : ((q - 1 : Nat) : Int) < (s.size : Int) := by omega
    have hr := ih (q - 1) (by omega) (by omega) (fun b h1 h2 => hb b h1 (by omega))
    simp only [if_pos c, e2, if_pos c3, if_pos c4, bt_nat]
    by_cases c5 : (B s (q - 1) : Int) = 10
    · simp only [if_pos c5]; exact hr
    · have c6 : (B s (q - 1) : Int) = 13 := by omega
      simp only [if_neg c5, if_pos c6]; exact hr
/-- The lines of one mark. -/
theorem p2 {n i : Nat} {m : Mk} {f0 f1 f2 f3 : Int} {r : List Mk × Int} (hm : m = ⟨⟨f0, f1⟩, f2, f3⟩) :
    ∀ (d j : Nat) (acc : List Mk), (lns s).length = j + d → acc.length + d < 4000000000000 →
    Ev (fun k => five_Pieces.l0 k s (acc ++ ((lns s).drop j).filterMap (pc s m)) (st s) (n : Int) L (L.length : Int) (wrap64 ((i : Int) + 1))) r →
    Ev (fun k => five_Pieces.l2 k s acc (st s) (n : Int) (j : Int) L (L.length : Int) (i : Int) f0 f1 f2 f3) r := by
  have hln := lns_len s
  intro d
  induction d with
  | zero =>
    intro j acc hd _ h
    rw [List.drop_eq_nil_of_le (by omega), List.filterMap_nil, List.append_nil] at h
    have e1 : wrap64 ((j : Int) + 1) = ((j + 1 : Nat) : Int) := w1 j (by omega)
    have c1 : ¬ (((j + 1 : Nat) : Int) < ((st s).length : Int)) := by rw [st_len]; omega
    refine up ?_
    simp only [five_Pieces.l2, e1, if_neg c1]
    refine up ?_
    simp only [five_Pieces.j3, Bool.false_eq_true, if_false]
    exact h
  | succ d ih =>
    intro j acc hd hacc h
    obtain ⟨x, hx⟩ : ∃ x, (lns s)[j]? = some x := ⟨_, List.getElem?_eq_getElem (by omega)⟩
    have hj : j < (lns s).length := by omega
    have e1 : wrap64 ((j : Int) + 1) = ((j + 1 : Nat) : Int) := w1 j (by omega)
    have c1 : ((j + 1 : Nat) : Int) < ((st s).length : Int) := by rw [st_len]; omega
    have c2 : (0 : Int) ≤ (j : Int) := by omega
    have c3 : (j : Int) < ((st s).length : Int) := by rw [st_len]; omega
    have c4 : (0 : Int) ≤ ((j + 1 : Nat) : Int) := by omega
    refine up ?_
    simp only [five_Pieces.l2, e1, if_pos c1, if_pos c2, if_pos c3, st_beg s j x hx]
    refine up ?_
    rw [List.drop_eq_getElem_cons hj, show (lns s)[j] = x from Option.some.inj ((List.getElem?_eq_getElem hj).symm.trans hx)] at h
    by_cases c : (x.1.2.1 : Int) < f1
    · obtain ⟨e, he, _, h3, _, _, h6⟩ := st_next s j x hx
      have hx2 := x.2
      have hmn : mn (rd (st s) ((j + 1 : Nat) : Int)) (s.size : Int) = ((min e s.size : Nat) : Int) := by
        rw [show ((j + 1 : Nat) : Int) = (j : Int) + 1 by omega, he]
        unfold mn; split <;> omega
      simp only [five_Pieces.j3, decide_eq_true c, if_true, e1, if_pos c1, if_pos c4, hmn]
      refine p3 s hs L hx hm (by omega) ?_ (min e s.size - x.1.2.2) (min e s.size) (by omega) (by omega) h6
      refine ih (j + 1) _ (by omega) ?_ ?_
      · rw [List.length_append]
        have : (pc s m x).toList.length ≤ 1 := by cases pc s m x <;> simp
        omega
      · rw [List.append_assoc]
        cases hp : pc s m x with
        | none => rw [List.filterMap_cons_none hp] at h; exact h
        | some p => rw [List.filterMap_cons_some hp] at h; exact h
    · simp only [five_Pieces.j3, decide_eq_false c, Bool.false_eq_true, if_false]
      have hno : ∀ y ∈ x :: (lns s).drop (j + 1), pc s m y = none := by
        intro y hy
        refine pc_none (.inl ?_)
        obtain ⟨q, hq, hq2⟩ := List.getElem_of_mem hy
        have hy2 : (lns s)[j + q]? = some y := by
          rw [← hq2]
          cases q with
          | zero => exact hx
          | succ q => simp only [List.getElem_cons_succ, List.getElem_drop]; rw [show j + (q + 1) = j + 1 + q by omega]; exact List.getElem?_eq_getElem _
        have := beg_mono s hx hy2 (by omega)
        subst hm
        show f1 ≤ _
        omega
      rw [List.filterMap_eq_nil_iff.2 hno, List.append_nil] at h
      exact h
/-- The line of a mark's begin is looked for. -/
theorem p1 {i : Nat} {acc : List Mk} {m : Mk} {r : List Mk × Int} (o : Ok s m) (hi : i < 1000000000) (hacc : acc.length < 3000000000000)
    (h : ∀ (n : Nat) (x : Ln s), (lns s)[n]? = some x → (x.1.2.1 : Int) ≤ m.f0.f0 → Ev (fun k => five_Pieces.l0 k s (acc ++ pcs1 s m) (st s) (n : Int) L (L.length : Int) ((i + 1 : Nat) : Int)) r) :
    ∀ (e n : Nat) (x : Ln s), (lns s).length = n + e → (lns s)[n]? = some x → (x.1.2.1 : Int) ≤ m.f0.f0 →
      Ev (fun k => five_Pieces.l1 k s acc (st s) (n : Int) L (L.length : Int) (i : Int) m.f0.f0 m.f0.f1 m.f1 m.f2) r := by
  have hln := lns_len s
  have o1 := o.h1
  have o2 := o.h2
  intro e
  induction e with
  | zero => intro n x he hx _; have := (List.getElem?_eq_some_iff.1 hx).1; omega
  | succ e ihe =>
    intro n x he hx hxle
    have e1 : wrap64 ((n : Int) + 1) = ((n + 1 : Nat) : Int) := w1 n (by omega)
    have c4 : (0 : Int) ≤ ((n + 1 : Nat) : Int) := by omega
    have c5 : ((n + 1 : Nat) : Int) < ((st s).length : Int) := by rw [st_len]; omega
    obtain ⟨g, hg, _, h3, h4, h5, _⟩ := st_next s n x hx
    have hg' : rd (st s) ((n + 1 : Nat) : Int) = (g : Int) := by rw [show ((n + 1 : Nat) : Int) = (n : Int) + 1 by omega]; exact hg
    refine up ?_
    simp only [five_Pieces.l1, e1, if_pos c4, if_pos c5, hg']
    by_cases c : (g : Int) ≤ m.f0.f0
    · simp only [if_pos c]
      cases hy : (lns s)[n + 1]? with
      | none => have := h5 hy; omega
      | some y => exact ihe (n + 1) y (by omega) hy (by have := h4 y hy; omega)
    · simp only [if_neg c]
      refine p2 s hs L (m := m) (by cases m with | mk f a b => cases f; rfl) e.succ n acc (by omega) (by omega) ?_
      rw [w1 i (by omega), ← pcs1_from s hx hxle]
      exact h n x hx hxle
/-- The marks. -/
theorem p0 (hL : L.length < 1000000000) (r : List Mk × Int) : ∀ (d i n : Nat) (acc : List Mk) (a : Int) (x : Ln s), L.length = i + d → Row s a (L.drop i) → (lns s)[n]? = some x → (x.1.2.1 : Int) ≤ a → acc.length + d * (s.size + 1) < 2000000000000 →
    r = (acc ++ pcs s (L.drop i), 0) → Ev (fun k => five_Pieces.l0 k s acc (st s) (n : Int) L (L.length : Int) (i : Int)) r := by
  have hln := lns_len s
  intro d
  induction d with
  | zero =>
    intro i n acc a x hd _ _ _ _ hr
    have c : ¬ (i : Int) < (L.length : Int) := by omega
    refine up ?_
    simp only [five_Pieces.l0, if_neg c]
    rw [List.drop_eq_nil_of_le (by omega)] at hr
    subst hr
    refine now fun _ => ?_
    simp [pcs]
  | succ d ih =>
    intro i n acc a x hd hrow hx hle hb hr
    rw [Nat.succ_mul] at hb
    obtain ⟨D, hD⟩ : ∃ D, d * (s.size + 1) = D := ⟨_, rfl⟩
    rw [hD] at hb ih
    clear hD
    have hi : i < L.length := by omega
    have c1 : (i : Int) < (L.length : Int) := by omega
    have c2 : (0 : Int) ≤ (i : Int) := by omega
    obtain ⟨m, hm⟩ : ∃ m, L[i]? = some m := ⟨_, List.getElem?_eq_getElem hi⟩
    have hrd : rd_T38 L (i : Int) = m := by
      unfold rd_T38
      rw [List.getD_eq_getElem?_getD, show ((i : Int)).toNat = i from rfl, hm]; rfl
    rw [List.drop_eq_getElem_cons hi, show L[i] = m from Option.some.inj ((List.getElem?_eq_getElem hi).symm.trans hm)] at hrow hr
    cases hrow with
    | cons h o t =>
      have o1 := o.h1
      refine up ?_
      simp only [five_Pieces.l0, if_pos c1, if_pos c2, hrd]
      refine p1 s hs L o (by omega) (by omega) (fun n' x' hx' hle' => ?_) ((lns s).length - n) n x (by have := (List.getElem?_eq_some_iff.1 hx).1; omega) hx (by omega)
      refine ih (i + 1) n' _ m.f0.f1 x' (by omega) t hx' (by omega) ?_ ?_
      · have := pcs1_len s m
        rw [List.length_append]; omega
      · rw [hr]; unfold pcs; rw [List.flatMap_cons, List.append_assoc]
end
theorem pieces (s : ByteArray) (hs : s.size ≤ 10000) (l : List Mk) (hl : l.length ≤ 100000) : Ev (fun k => five_Pieces.f k s l) (if rgt s 0 l = true then (pcs s l, 0) else ([], 230)) := by
  simp only [five_Pieces.f]
  refine bind (right s (by omega) l (by omega)) ?_
  by_cases h : rgt s 0 l = true
  · simp only [if_pos h]
    refine cbind (ends s (by omega)) ?_
    obtain ⟨x, hx, hx0⟩ := ln_first s
    have hrow := row_of_rgt s l 0 (by omega) h
    refine p0 s (by omega) l (by omega) _ l.length 0 0 [] 0 x (by omega) (by rw [List.drop_zero]; exact hrow) hx (by omega) ?_ (by rw [List.drop_zero, List.nil_append])
    have : l.length * (s.size + 1) ≤ 100000 * 10001 := Nat.mul_le_mul hl (by omega)
    simp only [List.length_nil]; omega
  · simp only [if_neg h]; exact now fun _ => rfl
end Go.Proofs.YtbjhmknahldhaaaDoor.XFive
