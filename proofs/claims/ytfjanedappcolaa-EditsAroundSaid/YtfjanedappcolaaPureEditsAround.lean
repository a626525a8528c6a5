/-
  EditsAround: the pure statement of the law: whatever the edits, the program's stretches and the reference's are the same. No condition of ours.
-/
import Derived.Test.YtfjanedappcolaaXEv
import Derived.Test.YtfjanedappcolaaQ5
import Derived.Test.YtfjanedappcolaaQ6
namespace Go.Proofs.Ytfjanedappcolaa.Pure
open Go Go.RowKit Go.Proofs.Ytfjanedappcolaa.Q Go.Proofs.YtfjanedappcolaaW.PrintWords Go.Proofs.YtfjanedappcolaaW.PrintLast Go.Proofs.YtfjanedappcolaaW.PrintMore Go.Proofs.Ytfjanedappcolaa.XEv

def In64 (x : Int) : Prop := -9223372036854775808 ≤ x ∧ x ≤ 9223372036854775807
theorem wrap_in (x : Int) : In64 (wrap64 x) := by unfold In64 wrap64; omega

theorem around_l1 (l : List S42) (hl : l.length ≤ 4398046511104) : ∀ (d : Nat) (i a b c : Int), (l.length : Int) - i = d → 1 ≤ i →
    ∃ r, Ev (fun k => edits_Around.l1 k l (l.length : Int) i a b a c) r ∧ Ev (fun k => glossatorref10_Around.l1 k l a b c i) r := by
  intro d
  induction d with
  | zero =>
    intro i a b c hd hi
    refine ⟨(a, b, a, c, 0), up ?_, up ?_⟩
    · have h : ¬ i < (l.length : Int) := by omega
      simp only [edits_Around.l1, if_neg h]
      exact now fun _ => rfl
    · have h : ¬ i < (l.length : Int) := by omega
      simp only [glossatorref10_Around.l1, if_neg h]
      exact now fun _ => rfl
  | succ d ih =>
    intro i a b c hd hi
    have h : i < (l.length : Int) := by omega
    have h0 : 0 ≤ i := by omega
    have hz : ¬ i = 0 := by omega
    have e1 : wrap64 (i + 1) = i + 1 := w64 (by omega) (by omega)
    obtain ⟨r, h1, h2⟩ := ih (i + 1) (mn a (rd_T42 l i).f0) (wrap64 (wrap64 (b + mx c (rd_T42 l i).f1) - c)) (wrap64 (wrap64 (mx c (rd_T42 l i).f1 - wrap64 ((rd_T42 l i).f1 - (rd_T42 l i).f0)) + ((rd_T42 l i).f2.size : Int))) (by omega) (by omega)
    have e2 : wrap64 (wrap64 (mx c (rd_T42 l i).f1 + ((rd_T42 l i).f2.size : Int)) - wrap64 ((rd_T42 l i).f1 - (rd_T42 l i).f0)) = wrap64 (wrap64 (mx c (rd_T42 l i).f1 - wrap64 ((rd_T42 l i).f1 - (rd_T42 l i).f0)) + ((rd_T42 l i).f2.size : Int)) := by
      unfold wrap64
      omega
    refine ⟨r, up ?_, up ?_⟩
    · simp only [edits_Around.l1, if_pos h, if_pos h0, if_neg hz, e1]
      exact h1
    · simp only [glossatorref10_Around.l1, if_pos h, if_pos h0, if_neg hz, e1, e2]
      exact h2

theorem around_first (l : List S42) (hl : l.length ≤ 4398046511104) (hw : ∀ x ∈ l, Wf42 x) :
    ∃ r, Ev (fun k => edits_Around.l1 k l (l.length : Int) 0 0 0 0 0) r ∧ Ev (fun k => glossatorref10_Around.l1 k l 0 0 0 0) r := by
  by_cases h : (0 : Int) < (l.length : Int)
  · have e1 : wrap64 ((0 : Int) + 1) = 1 := by unfold wrap64; omega
    have hm : rd_T42 l 0 ∈ l := by
      unfold rd_T42
      rw [List.getD_eq_getElem?_getD, List.getElem?_eq_getElem (by omega : (0 : Int).toNat < l.length)]
      exact List.getElem_mem _
    have hb := lit_i64 (hw _ hm).2.1
    have ha := lit_i64 (hw _ hm).1
    have e2 : wrap64 (wrap64 ((rd_T42 l 0).f1 + (rd_T42 l 0).f1) - (rd_T42 l 0).f1) = (rd_T42 l 0).f1 := by unfold wrap64; omega
    have e3 : wrap64 (wrap64 ((rd_T42 l 0).f1 - wrap64 ((rd_T42 l 0).f1 - (rd_T42 l 0).f0)) + ((rd_T42 l 0).f2.size : Int)) = wrap64 ((rd_T42 l 0).f0 + ((rd_T42 l 0).f2.size : Int)) := by unfold wrap64; omega
    obtain ⟨r, h1, h2⟩ := around_l1 l hl (l.length - 1) 1 (rd_T42 l 0).f0 (rd_T42 l 0).f1 (wrap64 ((rd_T42 l 0).f0 + ((rd_T42 l 0).f2.size : Int))) (by omega) (by omega)
    refine ⟨r, up ?_, up ?_⟩
    · simp only [edits_Around.l1, if_pos h, Int.le_refl, if_true, e1, e2, e3]
      exact h1
    · simp only [glossatorref10_Around.l1, if_pos h, Int.le_refl, if_true, e1]
      exact h2
  · refine ⟨(0, 0, 0, 0, 0), up ?_, up ?_⟩
    · simp only [edits_Around.l1, if_neg h]
      exact now fun _ => rfl
    · simp only [glossatorref10_Around.l1, if_neg h]
      exact now fun _ => rfl

theorem around_l0 (l : List S42) (hl : l.length ≤ 4398046511104) (hw : ∀ x ∈ l, Wf42 x) : ∀ (d : Nat) (i : Int), (l.length : Int) - i = d → 0 ≤ i →
    ∃ r, Ev (fun k => edits_Around.l0 k l l (l.length : Int) i 0 0 0 0) r ∧ Ev (fun k => glossatorref10_Around.l0 k l i) r := by
  intro d
  induction d with
  | zero =>
    intro i hd hi
    have h : ¬ i < (l.length : Int) := by omega
    by_cases hm : (l.length : Int) > 65536
    · refine ⟨(0, 0, 0, 0, 4), up ?_, up ?_⟩
      · simp only [edits_Around.l0, if_neg h, if_pos hm]
        exact now fun _ => rfl
      · simp only [glossatorref10_Around.l0, if_neg h, if_pos hm]
        exact now fun _ => rfl
    · obtain ⟨r, h1, h2⟩ := around_first l hl hw
      refine ⟨r, up ?_, up ?_⟩
      · simp only [edits_Around.l0, if_neg h, if_neg hm]
        exact h1
      · simp only [glossatorref10_Around.l0, if_neg h, if_neg hm]
        exact h2
  | succ d ih =>
    intro i hd hi
    have h : i < (l.length : Int) := by omega
    have e1 : wrap64 (i + 1) = i + 1 := w64 (by omega) (by omega)
    obtain ⟨r, h1, h2⟩ := ih (i + 1) (by omega) (by omega)
    by_cases c : (rd_T42 l i).f0 < 0 ∨ (rd_T42 l i).f1 < (rd_T42 l i).f0 ∨ (rd_T42 l i).f1 > 1099511627776
    · refine ⟨(0, 0, 0, 0, 2), up ?_, up ?_⟩
      · simp only [edits_Around.l0, if_pos h, if_pos hi]
        refine now fun _ => ?_
        repeat' split
        all_goals first | rfl | (exfalso; omega)
      · simp only [glossatorref10_Around.l0, if_pos h, if_pos hi]
        refine now fun _ => ?_
        repeat' split
        all_goals first | rfl | (exfalso; omega)
    · have c1 : ¬ (rd_T42 l i).f0 < 0 := by omega
      have c2 : ¬ (rd_T42 l i).f1 < (rd_T42 l i).f0 := by omega
      have c3 : ¬ (rd_T42 l i).f1 > 1099511627776 := by omega
      have c4 : ¬ (rd_T42 l i).f0 > 1099511627776 := by omega
      refine ⟨r, up ?_, up ?_⟩
      · simp only [edits_Around.l0, if_pos h, if_pos hi, if_neg c1, if_neg c2, if_neg c3, e1]
        exact h1
      · simp only [glossatorref10_Around.l0, if_pos h, if_pos hi, if_neg c1, if_neg c2, if_neg c3, if_neg c4, e1]
        exact h2

theorem same_l0 (l : List S42) (hl : l.length ≤ 4398046511104) : ∀ (d : Nat) (i : Int), (l.length : Int) - i = d → 0 ≤ i → Ev (fun k => glossatorref10_Same.l0 k l l i) true := by
  intro d
  induction d with
  | zero =>
    intro i hd hi
    have h : ¬ i < (l.length : Int) := by omega
    refine up ?_
    simp only [glossatorref10_Same.l0, if_neg h]
    exact now fun _ => rfl
  | succ d ih =>
    intro i hd hi
    have h : i < (l.length : Int) := by omega
    have e1 : wrap64 (i + 1) = i + 1 := w64 (by omega) (by omega)
    refine up ?_
    have e2 : (!((rd_T42 l i).f0 == (rd_T42 l i).f0) || (!((rd_T42 l i).f1 == (rd_T42 l i).f1) || !((rd_T42 l i).f2.toList == (rd_T42 l i).f2.toList))) = false := by simp
    simp only [glossatorref10_Same.l0, if_pos h, if_pos hi, e1, e2, Bool.false_eq_true, if_false]
    exact ih (i + 1) (by omega) (by omega)

theorem EditsAround : glossatorlaw10_EditsAround.Pure := by
  intro l hl
  have hlen : l.length ≤ 4398046511104 := by have := hl.2.1; omega
  have hlt : l.length < 4398046511104 := by have := hl.2.1; omega
  refine Ev.rounds (g := fun k => glossatorlaw10_EditsAround.f k l) ?_
  obtain ⟨r, h1, h2⟩ := around_l0 l hlen hl.2.2 l.length 0 (by omega) (by omega)
  have g0 : (([] : List S42).length + l.length < 4398046511104) := by simpa using hlt
  simp only [glossatorlaw10_EditsAround.f, Option.bind_some, if_pos g0, List.nil_append]
  refine bind (a := r) ?_ (bind (a := r) ?_ ?_)
  · simp only [edits_Around.f]
    exact h1
  · simp only [glossatorref10_Around.f]
    exact h2
  · simp only [beq_self_eq_true, Bool.and_self, if_true]
    refine bind (a := true) ?_ (now fun _ => rfl)
    simp only [glossatorref10_Same.f, if_true]
    exact same_l0 l hlen l.length 0 (by omega) (by omega)
end Go.Proofs.Ytfjanedappcolaa.Pure
