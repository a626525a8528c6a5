/-
  Plain words on UTF-8: the model's own decode, the units of a string, the place behind some units. No program in sight.
-/
import Derived.Lib.DecodeN
import Derived.Lib.RuneCount
namespace Go.Proofs.YtbjhmknahldhaaaDoor.XUtf
open Go
set_option linter.unusedVariables false
set_option linter.unusedSimpArgs false

def width (s : ByteArray) (p : Nat) : Nat := (Utf8.decode s p).2
def uOf (r : Nat) : Int := if 65536 ≤ r then 2 else 1
def uni (s : ByteArray) (p : Nat) : Int := uOf (Utf8.decode s p).1

theorem uOf_range (r : Nat) : 1 ≤ uOf r ∧ uOf r ≤ 2 := by unfold uOf; split <;> omega

theorem decodeN_le (n b0 b1 b2 b3 : Nat) (hn : 1 ≤ n) : (Lib.decodeN n b0 b1 b2 b3).2 ≤ n := by
  unfold Lib.decodeN
  repeat' split
  all_goals (simp only; omega)
theorem decodeN_le4 (n b0 b1 b2 b3 : Nat) : (Lib.decodeN n b0 b1 b2 b3).2 ≤ 4 ∧ 1 ≤ (Lib.decodeN n b0 b1 b2 b3).2 := by
  unfold Lib.decodeN
  repeat' split
  all_goals (simp only; omega)
theorem decodeN_units (n b0 b1 b2 b3 : Nat) : (65536 ≤ (Lib.decodeN n b0 b1 b2 b3).1 → (Lib.decodeN n b0 b1 b2 b3).2 = 4) ∧ ((Lib.decodeN n b0 b1 b2 b3).2 = 4 → 65536 ≤ (Lib.decodeN n b0 b1 b2 b3).1) ∧ (Lib.decodeN n b0 b1 b2 b3).1 ≤ 1114111 := by
  refine ⟨?_, ?_, ?_⟩
  all_goals
    unfold Lib.decodeN
    repeat' split
  all_goals first | omega | (simp only; omega) | (intro _; simp only at *; omega)

theorem decode_fit (s : ByteArray) (p : Nat) (h : p < s.size) : p + (Utf8.decode s p).2 ≤ s.size := by
  have := decodeN_le (s.size - p) (s.get! p).toNat (s.get! (p + 1)).toNat (s.get! (p + 2)).toNat (s.get! (p + 3)).toNat (by omega)
  rw [← Lib.decode_at] at this
  omega
theorem width_range (s : ByteArray) (p : Nat) : 1 ≤ width s p ∧ width s p ≤ 4 := by
  have := decodeN_le4 (s.size - p) (s.get! p).toNat (s.get! (p + 1)).toNat (s.get! (p + 2)).toNat (s.get! (p + 3)).toNat
  rw [← Lib.decode_at] at this
  exact ⟨this.2, this.1⟩
theorem width_fit (s : ByteArray) (p : Nat) (h : p < s.size) : p + width s p ≤ s.size := decode_fit s p h
theorem uni_range (s : ByteArray) (p : Nat) : 1 ≤ uni s p ∧ uni s p ≤ 2 := uOf_range _
theorem uni_width (s : ByteArray) (p : Nat) : uni s p = if width s p = 4 then 2 else 1 := by
  have := decodeN_units (s.size - p) (s.get! p).toNat (s.get! (p + 1)).toNat (s.get! (p + 2)).toNat (s.get! (p + 3)).toNat
  rw [← Lib.decode_at] at this
  unfold uni uOf width
  split <;> split <;> omega
theorem uni_le (s : ByteArray) (p : Nat) : uni s p ≤ width s p := by
  rw [uni_width]
  have := width_range s p
  split <;> omega

theorem big_width (s : ByteArray) (p : Nat) (h : 65536 ≤ (Utf8.decode s p).1) : 2 ≤ (Utf8.decode s p).2 := by
  have := decodeN_units (s.size - p) (s.get! p).toNat (s.get! (p + 1)).toNat (s.get! (p + 2)).toNat (s.get! (p + 3)).toNat
  rw [← Lib.decode_at] at this
  have := this.1 h
  omega
/-- The units from a place on, in at most so many steps. -/
def units (s : ByteArray) : Nat → Nat → Int → Int
  | 0, _, acc => acc
  | b + 1, pos, acc => if pos < s.size then units s b (pos + (Utf8.decode s pos).2) (acc + uOf (Utf8.decode s pos).1) else acc
/-- The place behind so many units, from a place on. -/
def cutAt (s : ByteArray) : Nat → Nat → Int → Nat
  | 0, _, _ => s.size
  | b + 1, pos, u => if pos < s.size then (if u - uOf (Utf8.decode s pos).1 < 0 then pos else cutAt s b (pos + (Utf8.decode s pos).2) (u - uOf (Utf8.decode s pos).1)) else s.size

theorem units_done (s : ByteArray) (b pos : Nat) (acc : Int) (h : ¬ pos < s.size) : units s b pos acc = acc := by
  cases b with
  | zero => rfl
  | succ b => rw [units, if_neg h]
theorem units_step (s : ByteArray) (b pos : Nat) (acc : Int) (h : pos < s.size) : s.size ≤ pos + b →
    units s b pos acc = units s (b - 1) (pos + (Utf8.decode s pos).2) (acc + uOf (Utf8.decode s pos).1) := by
  intro hb
  cases b with
  | zero => omega
  | succ b => rw [units, if_pos h, Nat.add_sub_cancel]
theorem cutAt_done (s : ByteArray) (b pos : Nat) (u : Int) (h : ¬ pos < s.size) : cutAt s b pos u = s.size := by
  cases b with
  | zero => rfl
  | succ b => rw [cutAt, if_neg h]
theorem cutAt_hit (s : ByteArray) (b pos : Nat) (u : Int) (h : pos < s.size) (hb : s.size ≤ pos + b) (hu : u - uOf (Utf8.decode s pos).1 < 0) : cutAt s b pos u = pos := by
  cases b with
  | zero => omega
  | succ b => rw [cutAt, if_pos h, if_pos hu]
theorem cutAt_step (s : ByteArray) (b pos : Nat) (u : Int) (h : pos < s.size) (hb : s.size ≤ pos + b) (hu : ¬ u - uOf (Utf8.decode s pos).1 < 0) :
    cutAt s b pos u = cutAt s (b - 1) (pos + (Utf8.decode s pos).2) (u - uOf (Utf8.decode s pos).1) := by
  cases b with
  | zero => omega
  | succ b => rw [cutAt, if_pos h, if_neg hu, Nat.add_sub_cancel]
end Go.Proofs.YtbjhmknahldhaaaDoor.XUtf
