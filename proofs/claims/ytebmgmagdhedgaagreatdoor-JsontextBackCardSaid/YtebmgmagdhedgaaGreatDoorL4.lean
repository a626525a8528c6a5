/- Words and walks of this claim, put together by this repo's wip/xlink.py out of XAchr, XUtfA. -/
import Derived.Test.YtebmgmagdhedgaaGreatDoorL3
import Derived.Lib.ValidLaws
import Derived.Lib.RuneCountTail
section
namespace Go.Proofs.YtebmgmagdhedgaaGreatDoor.XRef01
open Go Go.RowKit Go.Proofs.YtebmgmagdhedgaaGreatDoor.XEv
set_option linter.unusedVariables false
set_option linter.unusedSimpArgs false
/-- No character is encoded there. -/
def bad (s : ByteArray) (p : Nat) : Prop := (Utf8.decode s p).1 = 65533 ∧ (Utf8.decode s p).2 = 1
instance (s : ByteArray) (p : Nat) : Decidable (bad s p) := by unfold bad; infer_instance
def nxN (d : Nat × Nat) : Int × Int × Bool := if d.1 = 65533 ∧ d.2 = 1 then (0, 0, false) else ((d.1 : Int), (d.2 : Int), true)
def nx (s : ByteArray) (p : Nat) : Int × Int × Bool := nxN (Utf8.decode s p)
end Go.Proofs.YtebmgmagdhedgaaGreatDoor.XRef01

end
section
namespace Go.Proofs.YtebmgmagdhedgaaGreatDoor.XUtfT
open Go Go.RowKit Go.Proofs.YtebmgmagdhedgaaGreatDoorW.PrintWords Go.Proofs.YtebmgmagdhedgaaGreatDoorW.PrintLast Go.Proofs.YtebmgmagdhedgaaGreatDoorW.PrintMore Go.Proofs.YtebmgmagdhedgaaGreatDoor.XEv Go.Proofs.YtebmgmagdhedgaaGreatDoor.XRef01
set_option linter.unusedVariables false
set_option linter.unusedSimpArgs false
theorem dec_in (s : ByteArray) (p j : Nat) (h1 : 1 ≤ j) (h2 : j < (Utf8.decode s p).2) : p + j < s.size ∧ 128 ≤ B s (p + j) ∧ B s (p + j) < 192 := by
  show p + j < s.size ∧ 128 ≤ (s.get! (p + j)).toNat ∧ (s.get! (p + j)).toNat < 192
  revert h2
  simp only [Utf8.decode]
  repeat' split
  all_goals intro h2
  all_goals simp only [Bool.and_eq_true, decide_eq_true_eq, beq_iff_eq] at *
  all_goals (try omega)
  all_goals obtain rfl | rfl | rfl : j = 1 ∨ j = 2 ∨ j = 3 := by omega
  all_goals (first | omega | skip)
/-- Are all characters there, from a place on? -/
def okF (s : ByteArray) : Nat → Nat → Bool
  | 0, _ => true
  | b + 1, p => if p < s.size then (if bad s p then false else okF s b (p + XUtf.width s p)) else true
theorem drop_extract (s : ByteArray) (p : Nat) : (⟨(s.data.toList.drop p).toArray⟩ : ByteArray) = s.extract p s.size := by
  apply ByteArray.ext
  apply Array.ext'
  show s.data.toList.drop p = (s.extract p s.size).data.toList
  simp only [ByteArray.data_extract, Array.toList_extract, List.extract_eq_take_drop]
  rw [List.take_of_length_le]
  rw [List.length_drop, Array.length_toList]
  exact Nat.le_refl _
theorem decodeL_drop (s : ByteArray) (p : Nat) : Lib.decodeL (s.data.toList.drop p) = Utf8.decode s p := by
  unfold Lib.decodeL
  rw [drop_extract, Lib.tail_decode, Nat.add_zero]
theorem valid_ok (s : ByteArray) : ∀ (b p : Nat), s.size ≤ p + b → Lib.validD (s.data.toList.drop p) = okF s b p := by
  intro b
  induction b with
  | zero =>
    intro p hb
    rw [List.drop_eq_nil_of_le (by rw [Array.length_toList]; exact hb)]
    rfl
  | succ b ih =>
    intro p hb
    rw [okF]
    by_cases h : p < s.size
    · have hne : s.data.toList.drop p ≠ [] := by
        intro e
        have := congrArg List.length e
        rw [List.length_drop, Array.length_toList] at this
        have h' : p < s.data.size := h
        simp at this
        omega
      have hw := XUtf.width_range s p
      rw [if_pos h, Lib.validD_step _ hne, decodeL_drop s p, List.drop_drop, ih (p + (Utf8.decode s p).2) (by unfold XUtf.width at hw; omega)]
      rfl
    · rw [if_neg h, List.drop_eq_nil_of_le (by rw [Array.length_toList]; exact Nat.le_of_not_lt h)]
      rfl
/-- A place where a character begins, gone through from the string's begin. -/
inductive Bnd (s : ByteArray) : Nat → Prop
  | zero : Bnd s 0
  | next {p : Nat} : Bnd s p → p < s.size → Bnd s (p + XUtf.width s p)
end Go.Proofs.YtebmgmagdhedgaaGreatDoor.XUtfT

end
