/- Words and walks of this claim, put together by this repo's wip/xlink.py out of PureFrameWrites. -/
import Derived.Test.YtjmchpkmhidejaaDoorL6
import Derived.Lib.ItoaLen
import Derived.Lib.ItoaMem
import Derived.Lib.Strings
import Derived.Test.YtjmchpkmhidejaaDoorL5
namespace Go.Proofs.YtjmchpkmhidejaaDoor.Pure
open Go Go.RowKit Go.Proofs.YtjmchpkmhidejaaDoor.Q Go.Proofs.YtjmchpkmhidejaaDoorW.PrintWords Go.Proofs.YtjmchpkmhidejaaDoorW.PrintLast Go.Proofs.YtjmchpkmhidejaaDoorW.PrintMore Go.Proofs.YtjmchpkmhidejaaDoor.XEv
set_option linter.unusedVariables false
set_option linter.unusedSimpArgs false
theorem fw_digit : ∀ r : Nat, r < 10 → strOfNums [(wrap64 (48 + (r : Int))) % 256] = ⟨#[UInt8.ofNat (48 + r)]⟩ := by decide +kernel
/-- Digits ahead of others. -/
def fwD (u : Nat) (acc : ByteArray) : ByteArray := if u = 0 then acc else ⟨(Lib.decDigits u ++ acc.data.toList).toArray⟩
theorem fwD_step (u : Nat) (hu : 0 < u) (acc : ByteArray) : fwD (u / 10) ((⟨#[UInt8.ofNat (48 + u % 10)]⟩ : ByteArray) ++ acc) = fwD u acc := by
  unfold fwD
  rw [if_neg (show ¬ u = 0 by omega)]
  have e : Lib.decDigits u = if h : u < 10 then [UInt8.ofNat (48 + u)] else Lib.decDigits (u / 10) ++ [UInt8.ofNat (48 + u % 10)] := by rw [Lib.decDigits]
  have ha : ((⟨#[UInt8.ofNat (48 + u % 10)]⟩ : ByteArray) ++ acc).data.toList = UInt8.ofNat (48 + u % 10) :: acc.data.toList := by
    rw [ByteArray.data_append, Array.toList_append]; rfl
  by_cases h : u < 10
  · rw [if_pos (show u / 10 = 0 by omega), e, dif_pos h, show u % 10 = u by omega]
    apply ByteArray.ext
    apply Array.ext'
    rw [show u % 10 = u by omega] at ha
    rw [ha]
    rfl
  · rw [if_neg (show ¬ u / 10 = 0 by omega), e, dif_neg h, ha]
    simp
theorem fw_l0 (b : ByteArray) (r : ByteArray) : ∀ (n u : Nat) (acc : ByteArray), u ≤ n → acc.size + u ≤ 2000000 →
    Ev (fun k => glossatorref05_Write.l0 k b (fwD u acc) 0) r → Ev (fun k => glossatorref05_Write.l0 k b acc (u : Int)) r := by
  intro n
  induction n with
  | zero =>
    intro u acc hu _ h
    obtain rfl : u = 0 := by omega
    exact h
  | succ n ih =>
    intro u acc hu hb h
    by_cases h0 : u = 0
    · subst h0; exact h
    have c : (u : Int) > 0 := by omega
    have et : Int.tmod (u : Int) 10 = ((u % 10 : Nat) : Int) := rfl
    have ed : Int.tdiv (u : Int) 10 = ((u / 10 : Nat) : Int) := rfl
    have hs : (⟨#[UInt8.ofNat (48 + u % 10)]⟩ : ByteArray).size = 1 := rfl
    have c2 : (⟨#[UInt8.ofNat (48 + u % 10)]⟩ : ByteArray).size + acc.size ≤ 9223372036854775807 := by rw [hs]; omega
    have hw : wrap64 ((u / 10 : Nat) : Int) = ((u / 10 : Nat) : Int) := w64 (by omega) (by omega)
    refine up ?_
    simp only [glossatorref05_Write.l0, if_pos c, et, ed, Option.bind_some, fw_digit (u % 10) (by omega), if_pos c2, hw]
    refine ih (u / 10) _ (by omega) (by rw [ByteArray.size_append, hs]; omega) ?_
    rw [fwD_step u (by omega)]
    exact h
theorem fw_len (u : Nat) (h : u ≤ 1000000) : (Lib.decDigits u).length ≤ 21 := by
  have := Lib.itoa_length_le (u : Int) (by omega) (by omega)
  rwa [Lib.itoa_nonneg] at this
theorem fw_ne (u : Nat) : Lib.decDigits u ≠ [] := by
  rw [Lib.decDigits]
  split <;> simp
theorem fw_size (l : List UInt8) : (⟨l.toArray⟩ : ByteArray).size = l.length := rfl
def fwR (b : ByteArray) : ByteArray := ((((⟨#[67, 111, 110, 116, 101, 110, 116, 45, 76, 101, 110, 103, 116, 104, 58, 32]⟩ : ByteArray) ++ (⟨(Lib.decDigits b.size).toArray⟩ : ByteArray)) ++ (⟨#[13, 10, 13, 10]⟩ : ByteArray)) ++ b)
theorem fw_prog (b : ByteArray) (hb : b.size ≤ 1000000) : frame_Write.f b = some (fwR b) := by
  have hl := fw_len b.size hb
  have h1 : strconv_Itoa.f (b.size : Int) = some ⟨(Lib.decDigits b.size).toArray⟩ := by
    unfold strconv_Itoa.f
    rw [if_pos (by omega), if_pos (by omega), Lib.itoa_nonneg]
  have h16 : (⟨#[67, 111, 110, 116, 101, 110, 116, 45, 76, 101, 110, 103, 116, 104, 58, 32]⟩ : ByteArray).size = 16 := rfl
  have h4 : (⟨#[13, 10, 13, 10]⟩ : ByteArray).size = 4 := rfl
  unfold frame_Write.f
  rw [h1, Option.bind_some, if_pos (by rw [fw_size]; omega), if_pos (by rw [ByteArray.size_append, h16, fw_size]; omega), if_pos (by rw [ByteArray.size_append, ByteArray.size_append, h16, h4, fw_size]; omega)]
  rfl
theorem fw_ref (b : ByteArray) (hb : b.size ≤ 1000000) : Ev (fun k => glossatorref05_Write.f k b) (fwR b) := by
  have hl := fw_len b.size hb
  have h16 : (⟨#[67, 111, 110, 116, 101, 110, 116, 45, 76, 101, 110, 103, 116, 104, 58, 32]⟩ : ByteArray).size = 16 := rfl
  have h4 : (⟨#[13, 10, 13, 10]⟩ : ByteArray).size = 4 := rfl
  have h0 : (⟨#[]⟩ : ByteArray).size = 0 := rfl
  have h1 : (⟨#[48]⟩ : ByteArray).size = 1 := rfl
  simp only [glossatorref05_Write.f]
  refine fw_l0 b _ b.size b.size _ (Nat.le_refl _) (by rw [h0]; omega) ?_
  refine up ?_
  have c : ¬ (0 : Int) > 0 := by omega
  simp only [glossatorref05_Write.l0, if_neg c]
  unfold fwD
  by_cases hz : b.size = 0
  · have e : (⟨#[]⟩ : ByteArray).toList = [] := by rw [Lib.toList_data]
    have c1 : (16 + 1 ≤ 9223372036854775807) := by omega
    have c2 : (16 + 4 ≤ 9223372036854775807) := by omega
    have c3 : (((⟨#[67, 111, 110, 116, 101, 110, 116, 45, 76, 101, 110, 103, 116, 104, 58, 32]⟩ : ByteArray) ++ (⟨#[48]⟩ : ByteArray)) ++ (⟨#[13, 10, 13, 10]⟩ : ByteArray)).size + b.size ≤ 9223372036854775807 := by
      rw [ByteArray.size_append, ByteArray.size_append, h16, h4, h1]; omega
    simp only [if_pos hz, e, if_true, if_pos c3]
    refine now fun _ => ?_
    unfold fwR
    rw [hz, Lib.decDigits_one (by omega)]
    simp
  · have e : ¬ (⟨(Lib.decDigits b.size ++ (⟨#[]⟩ : ByteArray).data.toList).toArray⟩ : ByteArray).toList = [] := by
      rw [Lib.toList_data]
      simp [fw_ne]
    have ee : (⟨(Lib.decDigits b.size ++ (⟨#[]⟩ : ByteArray).data.toList).toArray⟩ : ByteArray) = ⟨(Lib.decDigits b.size).toArray⟩ := by simp
    have c1 : 16 + (⟨(Lib.decDigits b.size).toArray⟩ : ByteArray).size ≤ 9223372036854775807 := by rw [fw_size]; omega
    have c2 : ((⟨#[67, 111, 110, 116, 101, 110, 116, 45, 76, 101, 110, 103, 116, 104, 58, 32]⟩ : ByteArray) ++ (⟨(Lib.decDigits b.size).toArray⟩ : ByteArray)).size + 4 ≤ 9223372036854775807 := by rw [ByteArray.size_append, h16, fw_size]; omega
    have c3 : (((⟨#[67, 111, 110, 116, 101, 110, 116, 45, 76, 101, 110, 103, 116, 104, 58, 32]⟩ : ByteArray) ++ (⟨(Lib.decDigits b.size).toArray⟩ : ByteArray)) ++ (⟨#[13, 10, 13, 10]⟩ : ByteArray)).size + b.size ≤ 9223372036854775807 := by
      rw [ByteArray.size_append, ByteArray.size_append, h16, h4, fw_size]; omega
    simp only [if_neg hz, if_neg e]
    simp only [ee, if_pos c1, if_pos c2, if_pos c3]
    exact now fun _ => rfl
theorem FrameWrites : glossatorlaw05_FrameWrites.Pure := by
  intro s l hsz hl
  refine Ev.rounds (g := fun k => glossatorlaw05_FrameWrites.f k s l) ?_
  simp only [glossatorlaw05_FrameWrites.f]
  by_cases h : 524288 < s.size
  · simp only [if_pos h]; exact now fun _ => rfl
  · simp only [if_neg h]
    refine cbind (fw_prog s (by omega)) (bind (fw_ref s (by omega)) (now fun _ => ?_))
    simp
end Go.Proofs.YtjmchpkmhidejaaDoor.Pure
