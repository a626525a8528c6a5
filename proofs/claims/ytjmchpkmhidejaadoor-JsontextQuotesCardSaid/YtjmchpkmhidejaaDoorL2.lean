/- Words and walks of this claim, put together by this repo's wip/xlink.py out of XThr. -/
import Derived.Test.YtjmchpkmhidejaaDoorL0
namespace Go.Proofs.YtjmchpkmhidejaaDoorW.PrintWords
open Go Go.RowKit
set_option linter.unusedVariables false
set_option linter.unusedSimpArgs false
namespace Kd
/-- G of what is nested as deep as you like is G of what is nested so deep, for some depth. -/
structure Lim {α β : Type} (G : Kd α → Kd β) (F : Kd α → Kd α) (sz : Nat) (E : List Nat) (hs : ∀ n, (upto F sz E n).sz = sz) (hE : ∀ n q, q ∈ (upto F sz E n).E → q ∈ E) : Prop where
  K : ∀ w x cs, (G (fix F sz E hs hE)).K w x cs → ∃ n, (G (upto F sz E n)).K w x cs
  M : ∀ w base ok x cs, (G (fix F sz E hs hE)).M w base ok x cs → ∃ n, (G (upto F sz E n)).M w base ok x cs
section
variable {α : Type} {F : Kd α → Kd α} {sz : Nat} {E : List Nat} {hs : ∀ n, (upto F sz E n).sz = sz} {hE : ∀ n q, q ∈ (upto F sz E n).E → q ∈ E}
theorem thr_C {β : Type} {G : Kd α → Kd β} (hG : Mono G) {n : Nat} {w : World} {A : Option Addr} {m : Nat} {xs : List β} (h : (G (upto F sz E n)).C w A m xs) : (G (fix F sz E hs hE)).C w A m xs :=
  C_imp (hG.sz _ (fix F sz E hs hE) (hs n)) (hG.K _ (fix F sz E hs hE) (hs n) (fun _ _ _ hp => ⟨n, hp⟩)) h
end
end Kd
end Go.Proofs.YtjmchpkmhidejaaDoorW.PrintWords
