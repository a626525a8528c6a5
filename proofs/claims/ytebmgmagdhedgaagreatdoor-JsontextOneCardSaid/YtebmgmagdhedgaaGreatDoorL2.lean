/- Words and walks of this claim, put together by this repo's wip/xlink.py out of XOpen. -/
import Derived.Test.YtebmgmagdhedgaaGreatDoorL0
import Derived.Test.YtebmgmagdhedgaaGreatDoorL1
import Derived.ProofKit
import Derived.DataReads
import Derived.DataElems
import Derived.SizedLaws
namespace Go.Proofs.YtebmgmagdhedgaaGreatDoor.XOpen
open Go Go.RowKit Go.Proofs.YtebmgmagdhedgaaGreatDoorW.PrintWords Go.Proofs.YtebmgmagdhedgaaGreatDoorW.PrintLast
set_option linter.unusedVariables false
set_option linter.unusedSimpArgs false
section
variable {H : Type}
mutual
def bulk : DataW H → Nat
  | .lit (.string bytes) => bytes.length + 1
  | .lit _ => 1
  | .nil => 1
  | .ptr d => bulk d + 1
  | .slice elems spare => bulkAll elems + bulkAll spare + 1
  | .agg parts => bulkAll parts + 1
  | .iface _ d => bulk d + 1
  | .map _ => 1
  | .held _ => 1
def bulkAll : List (DataW H) → Nat
  | [] => 0
  | d :: r => bulk d + bulkAll r
end
end
/-- What is read takes no more than the reach. -/
def Light {H : Type} (P : Program) (T : TypeId) (d : DataW H) : Prop := ∀ n ∈ d.weights P T, n ≤ 140737488351232
section
variable {H : Type} {enc : TypeId × Value → H} {P : Program} {W : World} {fuel : Nat} {T : TypeId} {cs : List Value} {y : DataW H × List MemPlace}
abbrev Tr (enc : TypeId × Value → H) (P : Program) (W : World) (fuel : Nat) (T : TypeId) (cs : List Value) : Option (DataW H × List MemPlace) := DataW.trod enc P W 0 (fun _ => true) true fuel T cs
theorem open_int {k : IntKind} (ht : P.underlying T = some (.int k)) (h : Tr enc P W fuel T cs = some y) : ∃ x, cs = [.int k x] ∧ (Lit.int k x).wf = true ∧ 1 ≤ bulk y.1 := by
  obtain ⟨n, rfl, rfl, hw⟩ := DataW.trod_int ht h
  exact ⟨n, rfl, hw, by simp [bulk]⟩
theorem open_string (ht : P.underlying T = some .string) (h : Tr enc P W fuel T cs = some y) (hl : Light P T y.1) : ∃ s : ByteArray, cs = [.string s] ∧ s.size ≤ 140737488351232 ∧ s.size + 1 ≤ bulk y.1 := by
  obtain ⟨s, rfl, rfl, _⟩ := DataW.trod_string ht h
  refine ⟨s, rfl, ?_, ?_⟩
  · have := hl s.data.toList.length (by simp [DataW.weights])
    simpa using this
  · simp [bulk]
theorem light_all {e : TypeId} : ∀ (l : List (DataW H)), (∀ n ∈ DataW.weightsAll P e l, n ≤ 140737488351232) → ∀ d ∈ l, Light P e d
  | [], _, d, hd => by cases hd
  | x :: r, h, d, hd => by
    rw [DataW.weightsAll] at h
    rcases List.mem_cons.1 hd with rfl | hd
    · exact fun n hn => h n (List.mem_append_left _ hn)
    · exact light_all r (fun n hn => h n (List.mem_append_right _ hn)) d hd
theorem bulk_le_all {α : Type} (μ : α → Nat) : ∀ (xs : List α) (l : List (DataW H)), xs.length = l.length → (∀ (i : Nat) (x : α) (d : DataW H), xs[i]? = some x → l[i]? = some d → μ x ≤ bulk d) → (xs.map μ).sum ≤ bulkAll l
  | [], [], _, _ => by simp [bulkAll]
  | [], _ :: _, h, _ => by simp at h
  | _ :: _, [], h, _ => by simp at h
  | x :: xs, d :: l, h, hb => by
    have h1 := hb 0 x d rfl rfl
    have h2 := bulk_le_all μ xs l (by simpa using h) (fun i x' d' hx hd => hb (i + 1) x' d' (by simpa using hx) (by simpa using hd))
    simp only [List.map_cons, List.sum_cons, bulkAll]
    omega
theorem choose_all {α : Type} {Q : Nat → α → Prop} : ∀ (n : Nat), (∀ i, i < n → ∃ x, Q i x) → ∃ l : List α, l.length = n ∧ ∀ i x, l[i]? = some x → Q i x
  | 0, _ => ⟨[], rfl, fun i x h => by simp at h⟩
  | n + 1, h => by
    obtain ⟨l, hl, hq⟩ := choose_all n (fun i hi => h i (by omega))
    obtain ⟨x, hx⟩ := h n (by omega)
    refine ⟨l ++ [x], by simp [hl], fun i y hy => ?_⟩
    by_cases hi : i < l.length
    · rw [List.getElem?_append_left hi] at hy
      exact hq i y hy
    · have hlt := (List.getElem?_eq_some_iff.1 hy).1
      rw [List.length_append, List.length_singleton] at hlt
      have e : i = l.length := by omega
      subst e
      have : x = y := by simpa using hy
      rw [← this, hl]
      exact hx
/-- A slice, its elements read by a law of theirs. -/
theorem open_slice {α : Type} {d : Kd α} {wf : α → Prop} {μ : α → Nat} {e : TypeId} {b : Nat} (ht : P.underlying T = some (.slice e)) (hsz : P.cellsOf e = d.sz) (hb : P.bytesOf e = b)
    (h : Tr enc P W fuel T cs = some y) (hl : Light P T y.1)
    (he : ∀ (n : Nat) (cs' : List Value) (y' : DataW H × List MemPlace), n < fuel → Tr enc P W n e cs' = some y' → Light P e y'.1 → ∃ x, d.K W x cs' ∧ wf x ∧ μ x ≤ bulk y'.1) :
    ∃ (A : Option Addr) (c : Nat) (l : List α), cs = [.slice A l.length c] ∧ l.length ≤ c ∧ d.C W A l.length l ∧ l.length ≤ maxLen ∧ l.length * b ≤ 140737488351232 ∧ (∀ x ∈ l, wf x) ∧ (l.map μ).sum + 1 ≤ bulk y.1 := by
  rcases DataW.trod_slice ht h with ⟨rfl, rfl⟩ | ⟨a, len, cap, elems, rest, n, rfl, rfl, rfl, _, hlc, hcm, hel, hget, _, _⟩
  · exact ⟨none, 0, [], rfl, Nat.le_refl _, ⟨rfl, by simp, fun hn => absurd hn (by simp)⟩, Nat.zero_le _, by simp, fun x hx => by simp at hx, by simp [bulk]⟩
  · have hle : ∀ n' ∈ DataW.weightsAll P e (elems.map (·.1)), n' ≤ 140737488351232 := fun n' hn' => hl n' (by
      simp only [DataW.weights, ht]
      exact List.mem_cons_of_mem _ (List.mem_append_left _ hn'))
    have hwl : (elems.length + rest.length) * b ≤ 140737488351232 := by
      have := hl ((elems.length + rest.length) * P.bytesOf e) (by
        simp only [DataW.weights, ht, List.length_map]
        exact List.mem_cons_self)
      rwa [hb] at this
    have hel1 : ∀ i, i < len → ∃ x, (∃ cs' y', W.cells? 0 (a.add (i * P.cellsOf e)) (P.cellsOf e) = some cs' ∧ elems[i]? = some y' ∧ d.K W x cs' ∧ wf x ∧ μ x ≤ bulk y'.1) := by
      intro i hi
      have hg := hget i hi
      obtain ⟨y', hy'⟩ : ∃ y', elems[i]? = some y' := ⟨elems[i]'(by omega), List.getElem?_eq_getElem (by omega)⟩
      rw [hy'] at hg
      obtain ⟨cs', hc', ht'⟩ := Option.bind_eq_some_iff.1 hg
      obtain ⟨x, hk, hw, hm⟩ := he n cs' y' (by omega) ht' (light_all _ hle y'.1 (List.mem_of_getElem? (by rw [List.getElem?_map, hy']; rfl)))
      exact ⟨x, cs', y', hc', hy', hk, hw, hm⟩
    obtain ⟨l, hll, hq⟩ := choose_all len hel1
    subst hll
    refine ⟨some a, cap, l, rfl, hlc, ⟨rfl, by unfold maxLen at hcm; omega, fun _ => ⟨a, rfl, fun j p hj => ?_⟩⟩, by omega, ?_, ?_, ?_⟩
    · obtain ⟨cs', y', hc', _, hk, _, _⟩ := hq j p hj
      refine ⟨cs', d.K_len hk, hk, fun i u hu => ?_⟩
      obtain ⟨hlen, _, hcell⟩ := World.cells?_some hc'
      have hi : i < cs'.length := (List.getElem?_eq_some_iff.1 hu).1
      have := hcell i (by omega)
      rw [hsz] at this
      rw [← Addr.add_add, this, hu]
    · refine Nat.le_trans (Nat.mul_le_mul_right b ?_) hwl
      omega
    · intro x hx
      obtain ⟨i, hi⟩ := List.getElem?_of_mem hx
      obtain ⟨_, _, _, _, _, hw, _⟩ := hq i x hi
      exact hw
    · have := bulk_le_all μ l (elems.map (·.1)) (by simp [hel]) (fun i x d' hx hd => by
        obtain ⟨_, y', _, hy', _, _, hm⟩ := hq i x hx
        rw [List.getElem?_map, hy'] at hd
        obtain rfl := Option.some.inj hd
        exact hm)
      simp only [bulk]
      omega
theorem cut {cs a b : List Value} {o n : Nat} (h : (cs.drop o).take n = a) (hb : cs.drop (o + n) = b) : cs.drop o = a ++ b := by
  rw [← h, ← hb, ← List.drop_drop]
  exact (List.take_append_drop n (cs.drop o)).symm
theorem cut_end {cs : List Value} {n : Nat} (h : cs.length = n) : cs.drop n = [] := by rw [← h]; exact List.drop_length
theorem light_cons {t : TypeId} {ts : List TypeId} {d : DataW H} {ds : List (DataW H)} (h : ∀ n ∈ DataW.weightsEach P (t :: ts) (d :: ds), n ≤ 140737488351232) : Light P t d ∧ ∀ n ∈ DataW.weightsEach P ts ds, n ≤ 140737488351232 := by
  rw [DataW.weightsEach] at h
  exact ⟨fun n hn => h n (List.mem_append_left _ hn), fun n hn => h n (List.mem_append_right _ hn)⟩
theorem light_agg {fs : Array Field} {parts : List (DataW H)} (ht : P.underlying T = some (.struct fs)) (h : Light P T (.agg parts)) : ∀ n ∈ DataW.weightsEach P (fs.toList.map (·.type)) parts, n ≤ 140737488351232 := by
  intro n hn
  refine h n ?_
  simp only [DataW.weights, ht]
  exact hn
theorem light_sized {ts : List TypeId} {ds : List (DataW H)} (h : (DataW.weightsEach P ts ds).all (fun n => decide (n ≤ reachBytes)) = true) : ∀ n ∈ DataW.weightsEach P ts ds, n ≤ 140737488351232 := by
  intro n hn
  have := List.all_eq_true.1 h n hn
  have h2 := of_decide_eq_true this
  simpa [reachBytes] using h2
end
end Go.Proofs.YtebmgmagdhedgaaGreatDoor.XOpen
