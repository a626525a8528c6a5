/-
  What puts characters in the place of what is none, and its reference.
-/
import Derived.Test.YtfjanedappcolaaDoorXUtfTr
import Derived.Lib.MapLaws
import Derived.Test.YtfjanedappcolaaDoorQ12
import Derived.Test.YtfjanedappcolaaDoorQ15
import Derived.Test.YtfjanedappcolaaDoorQ9
namespace Go.Proofs.YtfjanedappcolaaDoor.XUtfX
open Go Go.RowKit Go.Proofs.YtfjanedappcolaaDoor.Q Go.Proofs.YtfjanedappcolaaDoorW.PrintWords Go.Proofs.YtfjanedappcolaaDoorW.PrintLast Go.Proofs.YtfjanedappcolaaDoorW.PrintMore Go.Proofs.YtfjanedappcolaaDoor.XEv Go.Proofs.YtfjanedappcolaaDoor.XRef01 Go.Proofs.YtfjanedappcolaaDoor.XUtfT
set_option linter.unusedVariables false
set_option linter.unusedSimpArgs false

/-- Who is not told long is short. -/
theorem long_le (s : ByteArray) : ∃ b, Ev (fun k => glossatorlaw01_long.f k [s]) b ∧ (b = false → s.size ≤ 262144) := by
  have e1 : wrap64 (0 + (mn (s.size : Int) 1048576)) = mn (s.size : Int) 1048576 := by
    rw [w64 (by unfold mn; split <;> omega) (by unfold mn; split <;> omega)]; omega
  refine ⟨decide (mn (s.size : Int) 1048576 > 262144), ?_, fun h => ?_⟩
  · simp only [glossatorlaw01_long.f]
    refine up ?_
    have c0 : (0 : Int) < (([s] : List ByteArray).length : Int) := by simp
    have er : rdOf ByteArray.empty [s] 0 = s := rfl
    simp only [glossatorlaw01_long.l0, if_pos c0, Int.le_refl, if_true, er, e1]
    rw [show wrap64 ((0 : Int) + 1) = 1 from w64 (by omega) (by omega)]
    refine up ?_
    have c1 : ¬ (1 : Int) < (([s] : List ByteArray).length : Int) := by simp
    simp only [glossatorlaw01_long.l0, if_neg c1]
    exact now fun _ => rfl
  · have := of_decide_eq_false h
    unfold mn at this
    split at this <;> omega
/-- The bytes of a good character are what its rune is told as. -/
theorem enc_good (s : ByteArray) (p : Nat) (h : p < s.size) (hb : ¬ bad s p) : Lib.encodeRune ((Utf8.decode s p).1 : Int) = (s.data.toList.drop p).take (Utf8.decode s p).2 := by
  have hne : s.data.toList.drop p ≠ [] := by
    intro e
    have := congrArg List.length e
    have h' : p < s.data.size := h
    simp at this
    omega
  have := Lib.encode_decode (s.data.toList.drop p) hne (by rw [decodeL_drop s p]; exact hb)
  rw [decodeL_drop s p] at this
  exact this
theorem enc_bad (s : ByteArray) (p : Nat) (hb : bad s p) : Lib.encodeRune ((Utf8.decode s p).1 : Int) = [239, 191, 189] := by
  rw [hb.1]; rfl
theorem sub_bytes (s : ByteArray) (a b : Nat) : (s.extract a b).data.toList = (s.data.toList.drop a).take (b - a) := by
  simp only [ByteArray.data_extract, Array.toList_extract, List.extract_eq_take_drop]
def nums8 (l : List UInt8) : List Int := l.map fun b => (b.toNat : Int)
theorem nums_str (l : List UInt8) : strOfNums (nums8 l) = ⟨l.toArray⟩ := by
  apply ByteArray.ext
  apply Array.ext'
  show (nums8 l).map _ = l
  unfold nums8
  rw [List.map_map]
  conv => rhs; rw [← List.map_id l]
  apply List.map_congr_left
  intro x _
  simp
theorem fixL_len (s : ByteArray) : ∀ b p, (fixL s b p).length ≤ 4 * b
  | 0, _ => Nat.le_refl _
  | b + 1, p => by
    unfold fixL
    split
    · have h4 := Lib.runeCells_le ((Utf8.decode s p).1 : Int)
      rw [Lib.runeCells_length] at h4
      have := fixL_len s b (p + (Utf8.decode s p).2)
      rw [List.length_append]; omega
    · simp
theorem fix_l0 (s : ByteArray) (hs : s.size ≤ 262144) : ∀ (b p : Nat) (acc : List Int), s.size ≤ p + b → p ≤ s.size → acc.length ≤ 4 * p →
    Ev (fun k => glossatorref01_Fix.l0 k s acc p) (strOfNums (acc ++ nums8 (fixL s b p))) := by
  intro b
  induction b with
  | zero =>
    intro p acc hb hp hl
    refine up ?_
    have c : ¬ (p : Int) < (s.size : Int) := by omega
    simp only [glossatorref01_Fix.l0, if_neg c, fixL, nums8, List.map_nil, List.append_nil]
    exact now fun _ => rfl
  | succ b ih =>
    intro p acc hb hp hl
    refine up ?_
    by_cases h : p < s.size
    · have c : (p : Int) < (s.size : Int) := by omega
      simp only [glossatorref01_Fix.l0, if_pos c]
      refine bind (next s p h (by omega)) ?_
      rw [fixL, if_pos h]
      have hw := XUtf.width_range s p
      have hf := XUtf.width_fit s p h
      by_cases hb' : bad s p
      · rw [nx_bad s p hb', enc_bad s p hb', hb'.2]
        have e1 : wrap64 ((p : Int) + 1) = ((p + 1 : Nat) : Int) := by rw [w64 (by omega) (by omega)]; rfl
        have c2 : acc.length + ([239, 191, 189] : List Int).length < 140737488355328 := by simp; omega
        simp only [Bool.false_eq_true, if_false, Option.bind_some, if_pos c2, e1]
        have := ih (p + 1) (acc ++ [239, 191, 189]) (by omega) (by omega) (by simp; omega)
        rw [List.append_assoc] at this
        exact this
      · rw [nx_good s p hb', enc_good s p h hb']
        have e1 : wrap64 ((p : Int) + ((Utf8.decode s p).2 : Int)) = ((p + XUtf.width s p : Nat) : Int) := by
          show wrap64 ((p : Int) + (XUtf.width s p : Int)) = _
          rw [w64 (by omega) (by omega)]; omega
        have c0 : (0 : Int) ≤ (p : Int) := by omega
        have c1 : (p : Int) ≤ ((p + XUtf.width s p : Nat) : Int) := by omega
        have c2 : ((p + XUtf.width s p : Nat) : Int) ≤ (s.size : Int) := by omega
        have ez : (s.extract p (p + XUtf.width s p)).size = XUtf.width s p := by rw [ByteArray.size_extract]; omega
        have c3 : acc.length + (s.extract ((p : Int)).toNat (((p + XUtf.width s p : Nat) : Int)).toNat).size < 140737488355328 := by
          show acc.length + (s.extract p (p + XUtf.width s p)).size < _
          rw [ez]; omega
        simp only [if_true, e1, if_pos c0, if_pos c1, if_pos c2, if_pos c3]
        have hbo : bytesOf (s.extract ((p : Int)).toNat (((p + XUtf.width s p : Nat) : Int)).toNat) = nums8 ((s.data.toList.drop p).take (Utf8.decode s p).2) := by
          show bytesOf (s.extract p (p + XUtf.width s p)) = _
          unfold bytesOf nums8
          rw [sub_bytes, show p + XUtf.width s p - p = (Utf8.decode s p).2 by unfold XUtf.width; omega]
        rw [hbo]
        have := ih (p + XUtf.width s p) (acc ++ nums8 ((s.data.toList.drop p).take (Utf8.decode s p).2)) (by omega) hf (by
          rw [List.length_append]
          have : (nums8 ((s.data.toList.drop p).take (Utf8.decode s p).2)).length ≤ XUtf.width s p := by
            unfold nums8; rw [List.length_map, List.length_take]; exact Nat.min_le_left _ _
          omega)
        rw [List.append_assoc] at this
        unfold nums8 at this ⊢
        rw [List.map_append]
        exact this
    · have c : ¬ (p : Int) < (s.size : Int) := by omega
      rw [fixL, if_neg h]
      simp only [glossatorref01_Fix.l0, if_neg c, nums8, List.map_nil, List.append_nil]
      exact now fun _ => rfl
/-- The string with characters in the place of what is none. -/
def fixed (s : ByteArray) : ByteArray := ⟨(fixL s s.size 0).toArray⟩
theorem ref_fix (s : ByteArray) (hs : s.size ≤ 262144) : Ev (fun k => glossatorref01_Fix.f k s) (fixed s) := by
  simp only [glossatorref01_Fix.f]
  have := fix_l0 s hs s.size 0 [] (by omega) (by omega) (by simp)
  rw [List.nil_append, nums_str] at this
  exact this
theorem fixL_ok (s : ByteArray) : ∀ (b p : Nat), s.size ≤ p + b → okF s b p = true → fixL s b p = s.data.toList.drop p := by
  intro b
  induction b with
  | zero =>
    intro p hb _
    rw [fixL, List.drop_eq_nil_of_le (by rw [Array.length_toList]; exact hb)]
  | succ b ih =>
    intro p hb ho
    rw [okF] at ho
    rw [fixL]
    by_cases h : p < s.size
    · rw [if_pos h] at ho ⊢
      by_cases hb' : bad s p
      · rw [if_pos hb'] at ho; cases ho
      · rw [if_neg hb'] at ho
        have hw := XUtf.width_range s p
        rw [enc_good s p h hb', ih (p + (Utf8.decode s p).2) (by unfold XUtf.width at hw; omega) ho, ← List.drop_drop, List.take_append_drop]
    · rw [if_neg h, List.drop_eq_nil_of_le (by rw [Array.length_toList]; exact Nat.le_of_not_lt h)]
theorem utf_fix (s : ByteArray) (hs : s.size ≤ 262144) : utf_Fix.f s = some (fixed s) := by
  simp only [utf_Fix.f, utf_valid s (by omega), Option.bind_some]
  by_cases h : okF s s.size 0 = true
  · rw [if_pos h]
    unfold fixed
    rw [fixL_ok s s.size 0 (by omega) h, List.drop_zero]
  · rw [if_neg h, if_pos (by omega)]
    rfl
end Go.Proofs.YtfjanedappcolaaDoor.XUtfX
