/- Words and walks of this claim, put together by this repo's wip/xlink.py out of XOpen. -/
import Derived.Test.YtienoadaflmkdaaDoorL0
import Derived.ProofKit
import Derived.DataReads
import Derived.DataElems
import Derived.SizedLaws
namespace Go.Proofs.YtienoadaflmkdaaDoor.XOpen
open Go Go.RowKit Go.Proofs.YtienoadaflmkdaaDoorW.PrintWords Go.Proofs.YtienoadaflmkdaaDoorW.PrintLast
set_option linter.unusedVariables false
set_option linter.unusedSimpArgs false
section
variable {H : Type}
mutual
def bulk : DataW H → Nat
  | .lit (.string bytes) => bytes.length + 1
  | .lit _ => 1
  | .nil => 1
  | .ptr d => bulk d + 1
  | .slice elems spare => bulkAll elems + bulkAll spare + 1
  | .agg parts => bulkAll parts + 1
  | .iface _ d => bulk d + 1
  | .map _ => 1
  | .held _ => 1
def bulkAll : List (DataW H) → Nat
  | [] => 0
  | d :: r => bulk d + bulkAll r
end
end
/-- What is read takes no more than the reach. -/
def Light {H : Type} (P : Program) (T : TypeId) (d : DataW H) : Prop := ∀ n ∈ d.weights P T, n ≤ 140737488351232
section
variable {H : Type} {enc : TypeId × Value → H} {P : Program} {W : World} {fuel : Nat} {T : TypeId} {cs : List Value} {y : DataW H × List MemPlace}
abbrev Tr (enc : TypeId × Value → H) (P : Program) (W : World) (fuel : Nat) (T : TypeId) (cs : List Value) : Option (DataW H × List MemPlace) := DataW.trod enc P W 0 (fun _ => true) true fuel T cs
theorem open_string (ht : P.underlying T = some .string) (h : Tr enc P W fuel T cs = some y) (hl : Light P T y.1) : ∃ s : ByteArray, cs = [.string s] ∧ s.size ≤ 140737488351232 ∧ s.size + 1 ≤ bulk y.1 := by
  obtain ⟨s, rfl, rfl, _⟩ := DataW.trod_string ht h
  refine ⟨s, rfl, ?_, ?_⟩
  · have := hl s.data.toList.length (by simp [DataW.weights])
    simpa using this
  · simp [bulk]
theorem light_cons {t : TypeId} {ts : List TypeId} {d : DataW H} {ds : List (DataW H)} (h : ∀ n ∈ DataW.weightsEach P (t :: ts) (d :: ds), n ≤ 140737488351232) : Light P t d ∧ ∀ n ∈ DataW.weightsEach P ts ds, n ≤ 140737488351232 := by
  rw [DataW.weightsEach] at h
  exact ⟨fun n hn => h n (List.mem_append_left _ hn), fun n hn => h n (List.mem_append_right _ hn)⟩
theorem light_sized {ts : List TypeId} {ds : List (DataW H)} (h : (DataW.weightsEach P ts ds).all (fun n => decide (n ≤ reachBytes)) = true) : ∀ n ∈ DataW.weightsEach P ts ds, n ≤ 140737488351232 := by
  intro n hn
  have := List.all_eq_true.1 h n hn
  have h2 := of_decide_eq_true this
  simpa [reachBytes] using h2
end
end Go.Proofs.YtienoadaflmkdaaDoor.XOpen
