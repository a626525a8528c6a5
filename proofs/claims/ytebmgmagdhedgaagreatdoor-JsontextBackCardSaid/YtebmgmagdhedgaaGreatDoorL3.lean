/- Words and walks of this claim, put together by this repo's wip/xlink.py out of XUtf, XEv. -/
import Derived.Lib.DecodeN
import Derived.Lib.RuneCount
import Derived.Test.YtebmgmagdhedgaaGreatDoorL0
import Derived.Test.YtebmgmagdhedgaaGreatDoorL1
section
namespace Go.Proofs.YtebmgmagdhedgaaGreatDoor.XUtf
open Go
set_option linter.unusedVariables false
set_option linter.unusedSimpArgs false
def width (s : ByteArray) (p : Nat) : Nat := (Utf8.decode s p).2
theorem decodeN_le (n b0 b1 b2 b3 : Nat) (hn : 1 ≤ n) : (Lib.decodeN n b0 b1 b2 b3).2 ≤ n := by
  unfold Lib.decodeN
  repeat' split
  all_goals (simp only; omega)
theorem decodeN_le4 (n b0 b1 b2 b3 : Nat) : (Lib.decodeN n b0 b1 b2 b3).2 ≤ 4 ∧ 1 ≤ (Lib.decodeN n b0 b1 b2 b3).2 := by
  unfold Lib.decodeN
  repeat' split
  all_goals (simp only; omega)
theorem decode_fit (s : ByteArray) (p : Nat) (h : p < s.size) : p + (Utf8.decode s p).2 ≤ s.size := by
  have := decodeN_le (s.size - p) (s.get! p).toNat (s.get! (p + 1)).toNat (s.get! (p + 2)).toNat (s.get! (p + 3)).toNat (by omega)
  rw [← Lib.decode_at] at this
  omega
theorem width_range (s : ByteArray) (p : Nat) : 1 ≤ width s p ∧ width s p ≤ 4 := by
  have := decodeN_le4 (s.size - p) (s.get! p).toNat (s.get! (p + 1)).toNat (s.get! (p + 2)).toNat (s.get! (p + 3)).toNat
  rw [← Lib.decode_at] at this
  exact ⟨this.2, this.1⟩
end Go.Proofs.YtebmgmagdhedgaaGreatDoor.XUtf

end
section
namespace Go.Proofs.YtebmgmagdhedgaaGreatDoor.XEv
open Go Go.RowKit Go.Proofs.YtebmgmagdhedgaaGreatDoorW.PrintWords Go.Proofs.YtebmgmagdhedgaaGreatDoorW.PrintLast
set_option linter.unusedVariables false
set_option linter.unusedSimpArgs false
theorem up {α : Type} {g : Nat → Option α} {r : α} (h : Ev (fun k => g (k + 1)) r) : Ev g r := Ev.step (fun _ => rfl) h
theorem now {α : Type} {g : Nat → Option α} {r : α} (h : ∀ k, g k = some r) : Ev g r := ⟨0, fun k _ => h k⟩
theorem congr {α : Type} {g f : Nat → Option α} {r : α} (h : ∀ k, g k = f k) (k : Ev f r) : Ev g r := Ev.congr h k
theorem bind {α β : Type} {g : Nat → Option α} {f : Nat → α → Option β} {a : α} {r : β} (h : Ev g a) (k : Ev (fun n => f n a) r) : Ev (fun n => (g n).bind (f n)) r := Ev.bind h k
theorem pos {α : Type} {c : Prop} [Decidable c] {g f : Nat → Option α} {r : α} (h : c) (k : Ev g r) : Ev (fun n => if c then g n else f n) r := by
  simpa only [if_pos h] using k
theorem neg {α : Type} {c : Prop} [Decidable c] {g f : Nat → Option α} {r : α} (h : ¬ c) (k : Ev f r) : Ev (fun n => if c then g n else f n) r := by
  simpa only [if_neg h] using k
theorem ite {α : Type} {c : Prop} [Decidable c] {g f : Nat → Option α} {r s : α} (h : c → Ev g r) (k : ¬ c → Ev f s) : Ev (fun n => if c then g n else f n) (if c then r else s) := by
  by_cases hc : c
  · simpa only [if_pos hc] using h hc
  · simpa only [if_neg hc] using k hc
/-- a choice that comes to one answer on either side -/
theorem both {α : Type} {c : Prop} [Decidable c] {g f : Nat → Option α} {r : α} (h : c → Ev g r) (k : ¬ c → Ev f r) : Ev (fun n => if c then g n else f n) r := by
  by_cases hc : c
  · simpa only [if_pos hc] using h hc
  · simpa only [if_neg hc] using k hc
theorem eq {α : Type} {g : Nat → Option α} {r s : α} (h : Ev g r) (e : r = s) : Ev g s := e ▸ h
theorem w64 {x : Int} (h0 : -9223372036854775808 ≤ x) (h1 : x ≤ 9223372036854775807) : wrap64 x = x := by unfold wrap64; omega
theorem w32 {x : Int} (h0 : -2147483648 ≤ x) (h1 : x ≤ 2147483647) : wrap32 x = x := by unfold wrap32; omega
theorem w1 (j : Nat) (h : j < 9223372036854775807) : wrap64 ((j : Int) + 1) = ((j + 1 : Nat) : Int) := by unfold wrap64; omega
/-- A byte of a string, outside of it 0. -/
def B (s : ByteArray) (i : Nat) : Nat := (s.get! i).toNat
theorem B_lt (s : ByteArray) (i : Nat) : B s i < 256 := UInt8.toNat_lt _
theorem get!_in (s : ByteArray) (i : Nat) (h : i < s.size) : s.get! i = s[i]'h := by
  show s.get! i = _
  simp [ByteArray.get!, getElem!_pos, h]
  rfl
theorem get!_out (s : ByteArray) (i : Nat) (h : ¬ i < s.size) : s.get! i = 0 := by
  have h2 : ¬ i < s.data.size := h
  simp only [ByteArray.get!]
  rw [getElem!_neg s.data i h2]
  rfl
theorem bt_B (s : ByteArray) (i : Int) : bt s i = (B s i.toNat : Int) := by
  unfold bt B
  split
  · rename_i h1
    rw [get!_in s _ h1]
  · rename_i h1
    rw [get!_out s _ h1]
    rfl
theorem bt_nat (s : ByteArray) (i : Nat) : bt s (i : Int) = (B s i : Int) := bt_B s i
theorem lit_i64 {a : Int} (h : (Lit.int .i64 a).wf = true) : -9223372036854775808 ≤ a ∧ a ≤ 9223372036854775807 := by
  simpa [Lit.wf, IntKind.min, IntKind.max, IntKind.signed, IntKind.bits] using h
end Go.Proofs.YtebmgmagdhedgaaGreatDoor.XEv

end
