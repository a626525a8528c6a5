/-
  FiveEncodes: the pure statement of the law: whatever the string and the marks, the printed law answers true. No condition of ours.
-/
import Derived.Test.YtbjhmknahldhaaaDoorXFq
import Derived.Test.YtbjhmknahldhaaaDoorXFr
import Derived.Test.YtbjhmknahldhaaaDoorXFs
import Derived.Test.YtbjhmknahldhaaaDoorQ13
namespace Go.Proofs.YtbjhmknahldhaaaDoor.Pure
open Go Go.RowKit Go.Proofs.YtbjhmknahldhaaaDoor.Q Go.Proofs.YtbjhmknahldhaaaDoorW.PrintWords Go.Proofs.YtbjhmknahldhaaaDoorW.PrintLast Go.Proofs.YtbjhmknahldhaaaDoorW.PrintMore Go.Proofs.YtbjhmknahldhaaaDoor.XEv Go.Proofs.YtbjhmknahldhaaaDoor.XFive
set_option linter.unusedVariables false
set_option linter.unusedSimpArgs false

theorem fe_l2 (s : ByteArray) (l m : List Mk) (x6 : List Int) (x7 : Int) (x8 : List Mk) (x9 : Int) (t : Nat) (ht : t < 10) (h : Ev (fun k => glossatorlaw23_FiveEncodes.l0 k s l m x6 x7 x8 x9 ((t + 1 : Nat) : Int)) true) : ∀ (d i : Nat) (P : List Mk), P.length = i + d → P.length ≤ 1000000000000000 →
    Ev (fun k => glossatorlaw23_FiveEncodes.l2 k s l m x6 x7 x8 x9 (t : Int) P (i : Int)) true := by
  intro d
  induction d with
  | zero =>
    intro i P hd _
    have c : ¬ (i : Int) < (P.length : Int) := by omega
    have ht9 : t < 9223372036854775807 := by omega
    refine up ?_
    simp only [glossatorlaw23_FiveEncodes.l2, if_neg c, w1 t ht9]
    exact h
  | succ d ih =>
    intro i P hd hl
    have c : (i : Int) < (P.length : Int) := by omega
    have c2 : (0 : Int) ≤ (i : Int) := by omega
    have hi9 : i < 9223372036854775807 := by omega
    refine up ?_
    simp only [glossatorlaw23_FiveEncodes.l2, if_pos c, if_pos c2, w1 i hi9]
    exact ih (i + 1) _ (by rw [List.length_set]; omega) (by rw [List.length_set]; omega)
theorem fe_l1 (s : ByteArray) (l m : List Mk) (x6 : List Int) (x7 : Int) (x8 : List Mk) (x9 : Int) (t : Nat) (P : List Mk) (h : Ev (fun k => glossatorlaw23_FiveEncodes.l2 k s l m x6 x7 x8 x9 (t : Int) P 0) true) : ∀ (d i : Nat) (D : List Int), D.length = i + d → D.length ≤ 1000000000000000 →
    Ev (fun k => glossatorlaw23_FiveEncodes.l1 k s l m x6 x7 x8 x9 (t : Int) D P (i : Int)) true := by
  intro d
  induction d with
  | zero =>
    intro i D hd _
    have c : ¬ (i : Int) < (D.length : Int) := by omega
    refine up ?_
    simp only [glossatorlaw23_FiveEncodes.l1, if_neg c]
    exact h
  | succ d ih =>
    intro i D hd hl
    have c : (i : Int) < (D.length : Int) := by omega
    have c2 : (0 : Int) ≤ (i : Int) := by omega
    have hi9 : i < 9223372036854775807 := by omega
    refine up ?_
    simp only [glossatorlaw23_FiveEncodes.l1, if_pos c, if_pos c2, w1 i hi9]
    exact ih (i + 1) _ (by rw [List.length_set]; omega) (by rw [List.length_set]; omega)
theorem fe_len (s : ByteArray) (hs : s.size ≤ 10000) (l : List Mk) (hl : l.length ≤ 100000) : (enc s l).length ≤ 1000000000000000 ∧ (pcs s l).length ≤ 1000000000000000 := by
  have h1 := pcs_len s l
  have h2 := lns_len s
  have h3 : l.length * (lns s).length ≤ 100000 * 10001 := Nat.mul_le_mul hl (by omega)
  have h4 : (enc s l).length = 5 * (pcs s l).length := by unfold enc; rw [flat_len, fvs_len]
  omega
theorem fe_l0 (s : ByteArray) (hs : s.size ≤ 10000) (l : List Mk) (hl : l.length ≤ 100000) : ∀ (d t : Nat), 2 = t + d →
    Ev (fun k => glossatorlaw23_FiveEncodes.l0 k s l l (if rgt s 0 l = true then (enc s l, (0 : Int)) else ([], 230)).1 (if rgt s 0 l = true then (enc s l, (0 : Int)) else ([], 230)).2 (if rgt s 0 l = true then (pcs s l, (0 : Int)) else ([], 230)).1 (if rgt s 0 l = true then (pcs s l, (0 : Int)) else ([], 230)).2 (t : Int)) true := by
  obtain ⟨A, hA⟩ : ∃ A, (if rgt s 0 l = true then (enc s l, (0 : Int)) else ([], 230)) = A := ⟨_, rfl⟩
  obtain ⟨P, hP⟩ : ∃ P, (if rgt s 0 l = true then (pcs s l, (0 : Int)) else ([], 230)) = P := ⟨_, rfl⟩
  have hb := fe_len s hs l hl
  have lA : A.1.length ≤ 1000000000000000 := by rw [← hA]; split; exact hb.1; simp
  have lP : P.1.length ≤ 1000000000000000 := by rw [← hP]; split; exact hb.2; simp
  have eA := encode s hs l hl
  have eP := pieces s hs l hl
  rw [hA] at eA
  rw [hP] at eP
  rw [hA, hP]
  intro d
  induction d with
  | zero =>
    intro t hd
    have c : ¬ (t : Int) < 2 := by omega
    refine up ?_
    simp only [glossatorlaw23_FiveEncodes.l0, if_neg c]
    exact now fun _ => rfl
  | succ d ih =>
    intro t hd
    have c : (t : Int) < 2 := by omega
    refine up ?_
    simp only [glossatorlaw23_FiveEncodes.l0, if_pos c]
    refine bind eA (bind eP ?_)
    refine bind (same23 A.1 lA) ?_
    simp only [if_true]
    refine bind (same22 P.1 lP) ?_
    simp only [if_true]
    refine bind (same22 l (by omega)) ?_
    refine up ?_
    simp only [glossatorlaw23_FiveEncodes.j2, Bool.not_true, Bool.false_eq_true, if_false]
    exact fe_l1 s l l _ _ _ _ t P.1 (fe_l2 s l l _ _ _ _ t (by omega) (ih (t + 1) (by omega)) P.1.length 0 P.1 (by omega) lP) A.1.length 0 A.1 (by omega) lA
theorem FiveEncodes : glossatorlaw23_FiveEncodes.Pure := by
  intro s l hsz hl
  refine Ev.rounds (g := fun k => glossatorlaw23_FiveEncodes.f k s l) ?_
  simp only [glossatorlaw23_FiveEncodes.f]
  by_cases h : (s.size : Int) > 3000
  · simp only [if_pos h]
    refine up ?_
    simp only [glossatorlaw23_FiveEncodes.j0, if_true]
    exact now fun _ => rfl
  simp only [if_neg h]
  by_cases h2 : (l.length : Int) > 1000
  · simp only [decide_eq_true h2]
    refine up ?_
    simp only [glossatorlaw23_FiveEncodes.j0, if_true]
    exact now fun _ => rfl
  simp only [decide_eq_false h2]
  refine up ?_
  have c : 0 + l.length < 4398046511104 := by omega
  simp only [glossatorlaw23_FiveEncodes.j0, Bool.false_eq_true, if_false, Option.bind_some, List.length_nil, if_pos c, List.nil_append]
  refine bind (XFiveR.encode s (by omega) l (by omega)) (bind (XFiveR.pieces s (by omega) l (by omega)) ?_)
  exact fe_l0 s (by omega) l (by omega) 2 0 (by omega)
end Go.Proofs.YtbjhmknahldhaaaDoor.Pure
