/- Words and walks of this claim, put together by this repo's wip/xlink.py out of XEv, XThr. -/
import Derived.Test.YtbhajflbbjipdaaDoorL0
section
namespace Go.Proofs.YtbhajflbbjipdaaDoor.XEv
open Go Go.RowKit Go.Proofs.YtbhajflbbjipdaaDoorW.PrintWords Go.Proofs.YtbhajflbbjipdaaDoorW.PrintLast
set_option linter.unusedVariables false
set_option linter.unusedSimpArgs false
theorem up {α : Type} {g : Nat → Option α} {r : α} (h : Ev (fun k => g (k + 1)) r) : Ev g r := Ev.step (fun _ => rfl) h
theorem congr {α : Type} {g f : Nat → Option α} {r : α} (h : ∀ k, g k = f k) (k : Ev f r) : Ev g r := Ev.congr h k
theorem bind {α β : Type} {g : Nat → Option α} {f : Nat → α → Option β} {a : α} {r : β} (h : Ev g a) (k : Ev (fun n => f n a) r) : Ev (fun n => (g n).bind (f n)) r := Ev.bind h k
theorem pos {α : Type} {c : Prop} [Decidable c] {g f : Nat → Option α} {r : α} (h : c) (k : Ev g r) : Ev (fun n => if c then g n else f n) r := by
  simpa only [if_pos h] using k
theorem neg {α : Type} {c : Prop} [Decidable c] {g f : Nat → Option α} {r : α} (h : ¬ c) (k : Ev f r) : Ev (fun n => if c then g n else f n) r := by
  simpa only [if_neg h] using k
theorem ite {α : Type} {c : Prop} [Decidable c] {g f : Nat → Option α} {r s : α} (h : c → Ev g r) (k : ¬ c → Ev f s) : Ev (fun n => if c then g n else f n) (if c then r else s) := by
  by_cases hc : c
  · simpa only [if_pos hc] using h hc
  · simpa only [if_neg hc] using k hc
theorem w1 (j : Nat) (h : j < 9223372036854775807) : wrap64 ((j : Int) + 1) = ((j + 1 : Nat) : Int) := by unfold wrap64; omega
/-- A byte of a string, outside of it 0. -/
def B (s : ByteArray) (i : Nat) : Nat := (s.get! i).toNat
end Go.Proofs.YtbhajflbbjipdaaDoor.XEv

end
section
namespace Go.Proofs.YtbhajflbbjipdaaDoorW.PrintWords
open Go Go.RowKit
set_option linter.unusedVariables false
set_option linter.unusedSimpArgs false
namespace Kd
/-- G of what is nested as deep as you like is G of what is nested so deep, for some depth. -/
structure Lim {α β : Type} (G : Kd α → Kd β) (F : Kd α → Kd α) (sz : Nat) (E : List Nat) (hs : ∀ n, (upto F sz E n).sz = sz) (hE : ∀ n q, q ∈ (upto F sz E n).E → q ∈ E) : Prop where
  K : ∀ w x cs, (G (fix F sz E hs hE)).K w x cs → ∃ n, (G (upto F sz E n)).K w x cs
  M : ∀ w base ok x cs, (G (fix F sz E hs hE)).M w base ok x cs → ∃ n, (G (upto F sz E n)).M w base ok x cs
end Kd
end Go.Proofs.YtbhajflbbjipdaaDoorW.PrintWords

end
