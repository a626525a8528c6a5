/- Words and walks of this claim, put together by this repo's wip/xlink.py out of XThr. -/
import Derived.Test.YtjmchpkmhidejaaDoorL0
namespace Go.Proofs.YtjmchpkmhidejaaDoorW.PrintWords
open Go Go.RowKit
set_option linter.unusedVariables false
set_option linter.unusedSimpArgs false
namespace Kd
/-- G of what is nested as deep as you like is G of what is nested so deep, for some depth. -/
structure Lim {α β : Type} (G : Kd α → Kd β) (F : Kd α → Kd α) (sz : Nat) (E : List Nat) (hs : ∀ n, (upto F sz E n).sz = sz) (hE : ∀ n q, q ∈ (upto F sz E n).E → q ∈ E) : Prop where
  K : ∀ w x cs, (G (fix F sz E hs hE)).K w x cs → ∃ n, (G (upto F sz E n)).K w x cs
  M : ∀ w base ok x cs, (G (fix F sz E hs hE)).M w base ok x cs → ∃ n, (G (upto F sz E n)).M w base ok x cs
end Kd
end Go.Proofs.YtjmchpkmhidejaaDoorW.PrintWords
