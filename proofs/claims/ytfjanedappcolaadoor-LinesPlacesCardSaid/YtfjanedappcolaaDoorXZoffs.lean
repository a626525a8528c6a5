/-
  Places by lines: what the functions of layer 2 answer.
-/
import Derived.Test.YtfjanedappcolaaDoorXLines
import Derived.Test.YtfjanedappcolaaDoorXUtfT
import Derived.Test.YtfjanedappcolaaDoorQ12
import Derived.Test.YtfjanedappcolaaDoorQ14
namespace Go.Proofs.YtfjanedappcolaaDoor.XZoffs
open Go Go.RowKit Go.Proofs.YtfjanedappcolaaDoor.Q Go.Proofs.YtfjanedappcolaaDoorW.PrintWords Go.Proofs.YtfjanedappcolaaDoorW.PrintLast Go.Proofs.YtfjanedappcolaaDoorW.PrintMore Go.Proofs.YtfjanedappcolaaDoor.XEv Go.Proofs.YtfjanedappcolaaDoor.XLines
set_option linter.unusedVariables false
set_option linter.unusedSimpArgs false

theorem line_cases (s : ByteArray) (n : Int) : ((n < 0 ∨ ((lns s).length : Int) ≤ n) ∧ lineOf n (lns s) = (0, 0, false)) ∨
    ∃ (i : Nat) (x : Ln s), n = i ∧ (lns s)[i]? = some x ∧ lineOf n (lns s) = ((x.1.2.1 : Int), (x.1.2.2 : Int), true) := by
  have hl : (begs (lns s)).length = (lns s).length := by unfold begs; rw [List.length_map]
  by_cases h : n < 0 ∨ ((lns s).length : Int) ≤ n
  · exact .inl ⟨h, line_out s n (by omega)⟩
  · obtain ⟨i, rfl⟩ : ∃ i : Nat, n = i := ⟨n.toNat, by omega⟩
    obtain ⟨x, hx⟩ : ∃ x, (lns s)[i]? = some x := ⟨_, List.getElem?_eq_getElem (by omega)⟩
    refine .inr ⟨i, x, rfl, hx, ?_⟩
    rw [line_in s i x hx, (lns_at s i x hx).2]
/-- The place behind some units of a stretch. -/
def cutIn (s : ByteArray) (a b : Nat) (c : Int) : Nat := XUtf.cutAt (s.extract a b) (s.extract a b).size 0 c
theorem cutAt_le (s : ByteArray) : ∀ (b p : Nat) (u : Int), p ≤ s.size → XUtf.cutAt s b p u ≤ s.size := by
  intro b
  induction b with
  | zero => intro p u hp; simp [XUtf.cutAt]
  | succ b ih =>
    intro p u hp
    rw [XUtf.cutAt]
    by_cases h : p < s.size
    · rw [if_pos h]
      split
      · omega
      · exact ih _ _ (XUtf.width_fit s p h)
    · rw [if_neg h]; exact Nat.le_refl _
theorem cutIn_le (s : ByteArray) (a b : Nat) (c : Int) (hb : b ≤ s.size) : cutIn s a b c ≤ b - a := by
  have := cutAt_le (s.extract a b) (s.extract a b).size 0 c (Nat.zero_le _)
  have he : (s.extract a b).size = b - a := by rw [ByteArray.size_extract]; omega
  unfold cutIn
  omega
/-- A place's bytes. -/
def offs (s : ByteArray) (l c : Int) : Int := if (lineOf (mx l 0) (lns s)).2.2 = true then (lineOf (mx l 0) (lns s)).1 + (cutIn s (lineOf (mx l 0) (lns s)).1.toNat (lineOf (mx l 0) (lns s)).2.1.toNat (mx c 0) : Int) else (s.size : Int)
theorem mx0 (a : Int) : 0 ≤ mx a 0 ∧ (a < 0 → mx a 0 = 0) ∧ (0 ≤ a → mx a 0 = a) := by unfold mx; split <;> omega
theorem offset (s : ByteArray) (hs : s.size ≤ 20000) (l c : Int) (hc : c ≤ 9223372036854775807) : lines_Offset.f s l c = some (offs s l c) := by
  have hli : ∀ n, lines_Line.f s n = some (lineOf n (lns s)) := fun n => if_pos (by omega)
  have hm := mx0 c
  simp only [lines_Offset.f, hli, Option.bind_some, offs]
  rcases line_cases s (mx l 0) with ⟨_, h⟩ | ⟨i, x, _, _, h⟩
  · rw [h]; rfl
  · rw [h]
    have hx := x.2
    have c1 : (0 : Int) ≤ (x.1.2.1 : Int) := by omega
    have c2 : (x.1.2.1 : Int) ≤ (x.1.2.2 : Int) := by omega
    have c3 : (x.1.2.2 : Int) ≤ (s.size : Int) := by omega
    simp only [if_true, if_pos c1, if_pos c2, if_pos c3]
    have hcut : utf_Cut.f (s.extract ((x.1.2.1 : Int)).toNat ((x.1.2.2 : Int)).toNat) (mx c 0) = some ((cutIn s x.1.2.1 x.1.2.2 (mx c 0) : Nat) : Int) := by
      unfold utf_Cut.f
      rw [if_neg (by omega), if_pos (by omega)]
      rfl
    rw [hcut]
    have := cutIn_le s x.1.2.1 x.1.2.2 (mx c 0) hx.2.2
    show some (wrap64 ((x.1.2.1 : Int) + (cutIn s x.1.2.1 x.1.2.2 (mx c 0) : Int))) = _
    rw [w64 (by omega) (by omega)]
    rfl
theorem lns_zero (s : ByteArray) : ∃ x, (lns s)[0]? = some x ∧ x.1.2.1 = 0 := by
  obtain ⟨x, hx⟩ : ∃ x, (lns s)[0]? = some x := ⟨_, List.getElem?_eq_getElem (List.length_pos_iff.2 (lns_ne s))⟩
  refine ⟨x, hx, ?_⟩
  have h1 := begs_at s 0 x hx
  rw [begs_lns] at h1
  simp at h1
  omega
theorem take_get {α : Type} (p : α → Bool) : ∀ (l : List α) (i : Nat), i < (l.takeWhile p).length → (l.takeWhile p)[i]? = l[i]? ∧ ∃ x, l[i]? = some x ∧ p x = true
  | [], i, h => by simp at h
  | a :: l, i, h => by
    by_cases ha : p a = true
    · rw [List.takeWhile_cons_of_pos ha] at h ⊢
      cases i with
      | zero => exact ⟨rfl, a, rfl, ha⟩
      | succ i => simpa using take_get p l i (by simpa using h)
    · rw [List.takeWhile_cons_of_neg ha] at h; simp at h
theorem take_stop {α : Type} (p : α → Bool) : ∀ (l : List α) (x : α), l[(l.takeWhile p).length]? = some x → p x = false
  | [], x, h => by simp at h
  | a :: l, x, h => by
    by_cases ha : p a = true
    · rw [List.takeWhile_cons_of_pos ha] at h
      exact take_stop p l x (by simpa using h)
    · rw [List.takeWhile_cons_of_neg ha] at h
      simp at h
      subst h
      simpa using ha
theorem begF_le (s : ByteArray) (a : Nat) (ha : a < s.size) : XUtfT.begF s a (a + 1) 0 ≤ a := (XUtfT.begF_bnd s a ha (a + 1) 0 (by omega) (by omega) .zero).2.1
theorem beg_le (s : ByteArray) (a : Int) : XUtfT.beg s a ≤ s.size := by
  unfold XUtfT.beg
  split
  · omega
  · split
    · omega
    · have := begF_le s a.toNat (by omega); omega
/-- A place by lines. -/
def pos (s : ByteArray) (a : Int) : Int × Int := posOf (XUtfT.beg s a : Int) (lns s)
theorem posE (s : ByteArray) (hs : s.size ≤ 20000) (a : Int) : Ev (fun k => lines_Pos.f k s a) (pos s a) := by
  have c : s.size < 4294967281 := by omega
  simp only [lines_Pos.f, if_pos c]
  exact bind (XUtfT.utf_begin s (by omega) a) (now fun _ => rfl)
end Go.Proofs.YtfjanedappcolaaDoor.XZoffs
