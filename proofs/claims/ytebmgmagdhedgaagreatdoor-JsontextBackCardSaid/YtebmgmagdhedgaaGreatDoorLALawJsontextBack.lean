/- Words and walks of this claim, put together by this repo's wip/xadd.py out of XOpen, Q6, Q11, Q13, Q21, PureJsontextBack. -/
import Derived.Test.YtebmgmagdhedgaaGreatDoorL21
import Derived.Below
import Derived.Deep.Draws
import Derived.Deep.AppendLies
import Derived.Maps.AppendAt
import Derived.OwnWalk
import Derived.Laws.BytesArg
import Derived.Laws.MakeOwn
import Derived.Laws.OwnMore
import Derived.Deep.OwnRows
import Derived.Tactics
import Derived.Lib.ConvBytes
import Derived.Laws.Slices
import Derived.WalkKit
import Derived.KernelRfl
import Derived.RowKit3
import Derived.Deep.LoopGhost
import Derived.Deep.QuietTactic
import Derived.BigQuiet
import Derived.WideLaws
import Derived.Deep.DeepCutAuto
import Derived.Deep.CutBlock
import Derived.Deep.RegionHeld3
import Derived.Laws.Rows
import Derived.Lib.AppendStr
import Derived.ArgAppend
import Derived.Laws.IdiomCopy
import Derived.RowKit
import Derived.OrdersHeld
import Derived.Laws.BitsLemmas
import Derived.ProofKit
import Derived.DataReads
import Derived.DataElems
import Derived.SizedLaws
import Derived.Lib.DecodeN
import Derived.Lib.RuneCount
import Derived.Lib.ValidLaws
import Derived.Lib.RuneCountTail
import Derived.OrdersIn
import Derived.TacticsIn
import Derived.RangeFuncCalls
import Derived.Deep.Quiet
import Derived.Deep.MidRow
import Derived.Shelf.Unicode.ValidAny
import Derived.Shelf.Strings.Builder1
import Derived.Shelf.Strings.Trim
import Derived.Shelf.Small.Utf8
import Derived.Shelf.Small.Strs
import Derived.Shelf.Strings.BuilderF
import Derived.Shelf.Strings.BuilderK
import Derived.Shelf.Strings.BuilderRune
import Derived.Shelf.Utf8.AppendRune
import Derived.Shelf.Utf8.AppendRunePlain
import Derived.Shelf.Strconv.Atoi
import Derived.Shelf.Strconv.Itoa0
import Derived.Shelf.Strconv.Itoa1
import Derived.Shelf.LaysM
import Derived.Shelf.Strconv.Itoa2
import Derived.Shelf.Strconv.Itoa3
import Derived.Shelf.Strconv.AtoiErrFast
import Derived.Shelf.Strconv.ParseIntEmpty
import Derived.Shelf.Strconv.AtoiFail
import Derived.Shelf.Strconv.Clone
import Derived.Shelf.Strconv.SyntaxError
import Derived.Shelf.LaysC
import Derived.Shelf.Strconv.ToError
import Derived.Shelf.Strconv.AtoiErr
import Derived.Shelf.Strconv.ErrVar
import Derived.Shelf.Strconv.Lower
import Derived.Shelf.Strconv.ParseUint10
import Derived.Shelf.Strconv.ParseUint10Empty
import Derived.Shelf.Strconv.ParseUint10Any
import Derived.Shelf.Strconv.ParseInt10
import Derived.Shelf.Strconv.AtoiLong
import Derived.Shelf.Strconv.AtoiInnerAll
import Derived.Shelf.Strconv.RangeError
import Derived.Shelf.Strconv.ToErrorRange
import Derived.Shelf.Strconv.AtoiAll
import Derived.Shelf.Strconv.ErrVarAll
import Derived.Shelf.Strings.Search1
import Derived.Shelf.Unicode.Decode
import Derived.Shelf.Strings.Runes
import Derived.Shelf.Strings.AsciiSet
import Derived.Shelf.Unicode.DecodeSlow
import Derived.Shelf.Unicode.DecodeAny
import Derived.Shelf.Strings.BuilderCap
import Derived.Test.YtebmgmagdhedgaaGreatDoorProg
import Derived.RangeFuncBox
import Derived.Laws.StructEq
import Derived.Lib.LaidU8
import Derived.Lib.LaidU8T
import Derived.MakeChecks
import Derived.Lib.SmallJoins
import Derived.Lib.AppendIntMem
import Derived.LaidLaws
import Derived.StillTailTactics
import Derived.IntWalk
import Derived.Maps.Own
import Derived.Maps.OwnSet
import Derived.Maps.Views
import Derived.Carry
import Derived.Maps.OwnOps
import Derived.Recover
import Derived.Laws.Tables
import Derived.Laws.CopyOwn
import Derived.Lib.MapLaws
import Derived.Lib.RuneBytes
import Derived.Lib.TrimUEq
import Derived.Laws.EntriesVeiled
import Derived.Shelf.Strings.SlTrimAscii
import Derived.Lib.AtoiErrMem
import Derived.Lib.ItoaNum
import Derived.Lib.ItoaMem
import Derived.Lib.ItoaLen
import Derived.Lib.AtoiAll
import Derived.Lib.OthersKept
import Derived.Deep.RegionWith
import Derived.RangeFuncNested
import Derived.RangeFuncLeaves
import Derived.Shelf.Abstract
import Derived.OwnWalkIn
import Derived.TacticsInMore
import Derived.LoopNIn
import Derived.LoopIn
import Derived.Test.YtebmgmagdhedgaaGreatDoorCards
import Derived.Test.YtebmgmagdhedgaaGreatDoorTie
import Derived.OpenShut
import Derived.ShutString
import Derived.ChangeOld
import Derived.Deep.DeepHandedRow
import Derived.Lay
import Derived.JoinedCond
import Derived.SevenTiedAt
import Derived.PinnedBridge
section
namespace Go.Proofs.YtebmgmagdhedgaaGreatDoor.XOpen
open Go Go.RowKit Go.Proofs.YtebmgmagdhedgaaGreatDoorW.PrintWords Go.Proofs.YtebmgmagdhedgaaGreatDoorW.PrintLast
set_option linter.unusedVariables false
set_option linter.unusedSimpArgs false
section
variable {H : Type}
mutual
def bulk : DataW H → Nat
  | .lit (.string bytes) => bytes.length + 1
  | .lit _ => 1
  | .nil => 1
  | .ptr d => bulk d + 1
  | .slice elems spare => bulkAll elems + bulkAll spare + 1
  | .agg parts => bulkAll parts + 1
  | .iface _ d => bulk d + 1
  | .map _ => 1
  | .held _ => 1
def bulkAll : List (DataW H) → Nat
  | [] => 0
  | d :: r => bulk d + bulkAll r
end
end
/-- What is read takes no more than the reach. -/
def Light {H : Type} (P : Program) (T : TypeId) (d : DataW H) : Prop := ∀ n ∈ d.weights P T, n ≤ 140737488351232
section
variable {H : Type} {enc : TypeId × Value → H} {P : Program} {W : World} {fuel : Nat} {T : TypeId} {cs : List Value} {y : DataW H × List MemPlace}
abbrev Tr (enc : TypeId × Value → H) (P : Program) (W : World) (fuel : Nat) (T : TypeId) (cs : List Value) : Option (DataW H × List MemPlace) := DataW.trod enc P W 0 (fun _ => true) true fuel T cs
theorem open_int {k : IntKind} (ht : P.underlying T = some (.int k)) (h : Tr enc P W fuel T cs = some y) : ∃ x, cs = [.int k x] ∧ (Lit.int k x).wf = true ∧ 1 ≤ bulk y.1 := by
  obtain ⟨n, rfl, rfl, hw⟩ := DataW.trod_int ht h
  exact ⟨n, rfl, hw, by simp [bulk]⟩
theorem open_string (ht : P.underlying T = some .string) (h : Tr enc P W fuel T cs = some y) (hl : Light P T y.1) : ∃ s : ByteArray, cs = [.string s] ∧ s.size ≤ 140737488351232 ∧ s.size + 1 ≤ bulk y.1 := by
  obtain ⟨s, rfl, rfl, _⟩ := DataW.trod_string ht h
  refine ⟨s, rfl, ?_, ?_⟩
  · have := hl s.data.toList.length (by simp [DataW.weights])
    simpa using this
  · simp [bulk]
theorem light_all {e : TypeId} : ∀ (l : List (DataW H)), (∀ n ∈ DataW.weightsAll P e l, n ≤ 140737488351232) → ∀ d ∈ l, Light P e d
  | [], _, d, hd => by cases hd
  | x :: r, h, d, hd => by
    rw [DataW.weightsAll] at h
    rcases List.mem_cons.1 hd with rfl | hd
    · exact fun n hn => h n (List.mem_append_left _ hn)
    · exact light_all r (fun n hn => h n (List.mem_append_right _ hn)) d hd
theorem bulk_le_all {α : Type} (μ : α → Nat) : ∀ (xs : List α) (l : List (DataW H)), xs.length = l.length → (∀ (i : Nat) (x : α) (d : DataW H), xs[i]? = some x → l[i]? = some d → μ x ≤ bulk d) → (xs.map μ).sum ≤ bulkAll l
  | [], [], _, _ => by simp [bulkAll]
  | [], _ :: _, h, _ => by simp at h
  | _ :: _, [], h, _ => by simp at h
  | x :: xs, d :: l, h, hb => by
    have h1 := hb 0 x d rfl rfl
    have h2 := bulk_le_all μ xs l (by simpa using h) (fun i x' d' hx hd => hb (i + 1) x' d' (by simpa using hx) (by simpa using hd))
    simp only [List.map_cons, List.sum_cons, bulkAll]
    omega
theorem choose_all {α : Type} {Q : Nat → α → Prop} : ∀ (n : Nat), (∀ i, i < n → ∃ x, Q i x) → ∃ l : List α, l.length = n ∧ ∀ i x, l[i]? = some x → Q i x
  | 0, _ => ⟨[], rfl, fun i x h => by simp at h⟩
  | n + 1, h => by
    obtain ⟨l, hl, hq⟩ := choose_all n (fun i hi => h i (by omega))
    obtain ⟨x, hx⟩ := h n (by omega)
    refine ⟨l ++ [x], by simp [hl], fun i y hy => ?_⟩
    by_cases hi : i < l.length
    · rw [List.getElem?_append_left hi] at hy
      exact hq i y hy
    · have hlt := (List.getElem?_eq_some_iff.1 hy).1
      rw [List.length_append, List.length_singleton] at hlt
      have e : i = l.length := by omega
      subst e
      have : x = y := by simpa using hy
      rw [← this, hl]
      exact hx
/-- A slice, its elements read by a law of theirs. -/
theorem open_slice {α : Type} {d : Kd α} {wf : α → Prop} {μ : α → Nat} {e : TypeId} {b : Nat} (ht : P.underlying T = some (.slice e)) (hsz : P.cellsOf e = d.sz) (hb : P.bytesOf e = b)
    (h : Tr enc P W fuel T cs = some y) (hl : Light P T y.1)
    (he : ∀ (n : Nat) (cs' : List Value) (y' : DataW H × List MemPlace), n < fuel → Tr enc P W n e cs' = some y' → Light P e y'.1 → ∃ x, d.K W x cs' ∧ wf x ∧ μ x ≤ bulk y'.1) :
    ∃ (A : Option Addr) (c : Nat) (l : List α), cs = [.slice A l.length c] ∧ l.length ≤ c ∧ d.C W A l.length l ∧ l.length ≤ maxLen ∧ l.length * b ≤ 140737488351232 ∧ (∀ x ∈ l, wf x) ∧ (l.map μ).sum + 1 ≤ bulk y.1 := by
  rcases DataW.trod_slice ht h with ⟨rfl, rfl⟩ | ⟨a, len, cap, elems, rest, n, rfl, rfl, rfl, _, hlc, hcm, hel, hget, _, _⟩
  · exact ⟨none, 0, [], rfl, Nat.le_refl _, ⟨rfl, by simp, fun hn => absurd hn (by simp)⟩, Nat.zero_le _, by simp, fun x hx => by simp at hx, by simp [bulk]⟩
  · have hle : ∀ n' ∈ DataW.weightsAll P e (elems.map (·.1)), n' ≤ 140737488351232 := fun n' hn' => hl n' (by
      simp only [DataW.weights, ht]
      exact List.mem_cons_of_mem _ (List.mem_append_left _ hn'))
    have hwl : (elems.length + rest.length) * b ≤ 140737488351232 := by
      have := hl ((elems.length + rest.length) * P.bytesOf e) (by
        simp only [DataW.weights, ht, List.length_map]
        exact List.mem_cons_self)
      rwa [hb] at this
    have hel1 : ∀ i, i < len → ∃ x, (∃ cs' y', W.cells? 0 (a.add (i * P.cellsOf e)) (P.cellsOf e) = some cs' ∧ elems[i]? = some y' ∧ d.K W x cs' ∧ wf x ∧ μ x ≤ bulk y'.1) := by
      intro i hi
      have hg := hget i hi
      obtain ⟨y', hy'⟩ : ∃ y', elems[i]? = some y' := ⟨elems[i]'(by omega), List.getElem?_eq_getElem (by omega)⟩
      rw [hy'] at hg
      obtain ⟨cs', hc', ht'⟩ := Option.bind_eq_some_iff.1 hg
      obtain ⟨x, hk, hw, hm⟩ := he n cs' y' (by omega) ht' (light_all _ hle y'.1 (List.mem_of_getElem? (by rw [List.getElem?_map, hy']; rfl)))
      exact ⟨x, cs', y', hc', hy', hk, hw, hm⟩
    obtain ⟨l, hll, hq⟩ := choose_all len hel1
    subst hll
    refine ⟨some a, cap, l, rfl, hlc, ⟨rfl, by unfold maxLen at hcm; omega, fun _ => ⟨a, rfl, fun j p hj => ?_⟩⟩, by omega, ?_, ?_, ?_⟩
    · obtain ⟨cs', y', hc', _, hk, _, _⟩ := hq j p hj
      refine ⟨cs', d.K_len hk, hk, fun i u hu => ?_⟩
      obtain ⟨hlen, _, hcell⟩ := World.cells?_some hc'
      have hi : i < cs'.length := (List.getElem?_eq_some_iff.1 hu).1
      have := hcell i (by omega)
      rw [hsz] at this
      rw [← Addr.add_add, this, hu]
    · refine Nat.le_trans (Nat.mul_le_mul_right b ?_) hwl
      omega
    · intro x hx
      obtain ⟨i, hi⟩ := List.getElem?_of_mem hx
      obtain ⟨_, _, _, _, _, hw, _⟩ := hq i x hi
      exact hw
    · have := bulk_le_all μ l (elems.map (·.1)) (by simp [hel]) (fun i x d' hx hd => by
        obtain ⟨_, y', _, hy', _, _, hm⟩ := hq i x hx
        rw [List.getElem?_map, hy'] at hd
        obtain rfl := Option.some.inj hd
        exact hm)
      simp only [bulk]
      omega
theorem cut {cs a b : List Value} {o n : Nat} (h : (cs.drop o).take n = a) (hb : cs.drop (o + n) = b) : cs.drop o = a ++ b := by
  rw [← h, ← hb, ← List.drop_drop]
  exact (List.take_append_drop n (cs.drop o)).symm
theorem cut_end {cs : List Value} {n : Nat} (h : cs.length = n) : cs.drop n = [] := by rw [← h]; exact List.drop_length
theorem light_cons {t : TypeId} {ts : List TypeId} {d : DataW H} {ds : List (DataW H)} (h : ∀ n ∈ DataW.weightsEach P (t :: ts) (d :: ds), n ≤ 140737488351232) : Light P t d ∧ ∀ n ∈ DataW.weightsEach P ts ds, n ≤ 140737488351232 := by
  rw [DataW.weightsEach] at h
  exact ⟨fun n hn => h n (List.mem_append_left _ hn), fun n hn => h n (List.mem_append_right _ hn)⟩
theorem light_agg {fs : Array Field} {parts : List (DataW H)} (ht : P.underlying T = some (.struct fs)) (h : Light P T (.agg parts)) : ∀ n ∈ DataW.weightsEach P (fs.toList.map (·.type)) parts, n ≤ 140737488351232 := by
  intro n hn
  refine h n ?_
  simp only [DataW.weights, ht]
  exact hn
theorem light_sized {ts : List TypeId} {ds : List (DataW H)} (h : (DataW.weightsEach P ts ds).all (fun n => decide (n ≤ reachBytes)) = true) : ∀ n ∈ DataW.weightsEach P ts ds, n ≤ 140737488351232 := by
  intro n hn
  have := List.all_eq_true.1 h n hn
  have h2 := of_decide_eq_true this
  simpa [reachBytes] using h2
end
end Go.Proofs.YtebmgmagdhedgaaGreatDoor.XOpen

end
section
namespace Go.Proofs.YtebmgmagdhedgaaGreatDoor.Q
open Go.RowKit Go.Proofs.YtebmgmagdhedgaaGreatDoorW.PrintWords Go.Proofs.YtebmgmagdhedgaaGreatDoorW.PrintLast Go.Proofs.YtebmgmagdhedgaaGreatDoorW.PrintMore
attribute [local go_sem] max2_int min2_int max_two min_two max_three min_three max_four min_four   
set_option linter.unusedVariables false
set_option linter.unusedSimpArgs false
theorem escU_ge {s : ByteArray} {u i r j : Nat} (h : escU s u i = .ok r j) : i ≤ j := by
  unfold escU at h
  split at h
  · split at h
    · cases hl : unit s (i + 1) with
      | bad q c => rw [hl] at h; cases h
      | ok l m => rw [hl] at h; have := (unit_lt hl).2; injection h with _ h2; omega
    · injection h with _ h2; omega
  · injection h with _ h2; omega
/-- What follows a field's name. -/
def fld (s : ByteArray) (pv : Nat → Res JV) (f : Nat) (acc : List JF) (tx : List UInt8) (q : Nat) : Res (List JF) := (wd s [58] (skip isBl s q)).bind fun _ m => (pv (skip isBl s m)).bind fun v n => obj s pv f (skip isBl s n) false (putF acc ⟨tx.toArray⟩ v)
end Go.Proofs.YtebmgmagdhedgaaGreatDoor.Q

end
section
namespace Go.Proofs.YtebmgmagdhedgaaGreatDoor.Q
open Go.RowKit Go.Proofs.YtebmgmagdhedgaaGreatDoorW.PrintWords Go.Proofs.YtebmgmagdhedgaaGreatDoorW.PrintLast Go.Proofs.YtebmgmagdhedgaaGreatDoorW.PrintMore
attribute [local go_sem] max2_int min2_int max_two min_two max_three min_three max_four min_four   
set_option linter.unusedVariables false
set_option linter.unusedSimpArgs false
theorem decodeN_local (n m b0 b1 b2 b3 c1 c2 c3 : Nat) (hg : ¬ ((Lib.decodeN n b0 b1 b2 b3).1 = 65533 ∧ (Lib.decodeN n b0 b1 b2 b3).2 = 1)) (hz : (Lib.decodeN n b0 b1 b2 b3).2 ≤ m)
  (h1 : 2 ≤ (Lib.decodeN n b0 b1 b2 b3).2 → c1 = b1) (h2 : 3 ≤ (Lib.decodeN n b0 b1 b2 b3).2 → c2 = b2) (h3 : 4 ≤ (Lib.decodeN n b0 b1 b2 b3).2 → c3 = b3) :
  Lib.decodeN m b0 c1 c2 c3 = Lib.decodeN n b0 b1 b2 b3 := by
 rcases Lib.decodeN_shape n b0 b1 b2 b3 with ⟨c, e⟩ | ⟨a1, a2, a3, av, e⟩ | ⟨a1, a2, a3, a4, av, aw, e⟩ | ⟨a1, a2, a3, a4, a5, av, aw, e⟩ | e
 ·rw [e]; unfold Lib.decodeN; rw [if_pos c]
 ·rw [e] at hz h1 h2 h3 ⊢
  obtain rfl := h1 (Nat.le_refl _)
  simp only at hz
  unfold Lib.decodeN
  rw [if_neg (by omega), if_pos ⟨a1, by omega, a3⟩, if_pos av]
 ·rw [e] at hz h1 h2 h3 ⊢
  obtain rfl := h1 (by simp)
  obtain rfl := h2 (Nat.le_refl _)
  simp only at hz
  unfold Lib.decodeN
  rw [if_neg (by omega), if_neg (by omega), if_pos ⟨a1, ⟨by omega, a3⟩, by omega, a4⟩, if_pos ⟨av, by omega⟩]
 ·rw [e] at hz h1 h2 h3 ⊢
  obtain rfl := h1 (by simp)
  obtain rfl := h2 (by simp)
  obtain rfl := h3 (Nat.le_refl _)
  simp only at hz
  unfold Lib.decodeN
  rw [if_neg (by omega), if_neg (by omega), if_neg (by omega), if_pos ⟨a1, ⟨by omega, a3⟩, ⟨by omega, a4⟩, by omega, a5⟩, if_pos ⟨av, by omega⟩]
 ·exact absurd (by rw [e]; exact ⟨rfl, rfl⟩) hg
theorem getD_take (l m : List UInt8) (w j : Nat) (he : m.take w = l.take w) (hj : j < w) : m.getD j 0 = l.getD j 0 := by
 have : m[j]? = l[j]? := by rw [← List.getElem?_take_of_lt (l := m) hj, he, List.getElem?_take_of_lt hj]
 rw [List.getD_eq_getElem?_getD, List.getD_eq_getElem?_getD, this]
theorem decL_same (l m : List UInt8) (hg : ¬ ((Lib.decodeL l).1 = 65533 ∧ (Lib.decodeL l).2 = 1)) (hm : (Lib.decodeL l).2 ≤ m.length) (he : m.take (Lib.decodeL l).2 = l.take (Lib.decodeL l).2) (hw : 1 ≤ (Lib.decodeL l).2) : Lib.decodeL m = Lib.decodeL l := by
 have g : ∀ j, j < (Lib.decodeL l).2 → m.getD j 0 = l.getD j 0 := fun j hj => getD_take l m _ j he hj
 rw [Lib.decodeL_N m, g 0 (by omega)]
 rw [Lib.decodeL_N l] at hg hm g ⊢
 refine decodeN_local _ _ _ _ _ _ _ _ _ hg hm (fun h => ?_) (fun h => ?_) (fun h => ?_)
 ·rw [g 1 (by omega)]
 ·rw [g 2 (by omega)]
 ·rw [g 3 (by omega)]
theorem dec_fit (l : List UInt8) (hne : l ≠ []) : 1 ≤ (Lib.decodeL l).2 ∧ (Lib.decodeL l).2 ≤ l.length := by
 have hl : 0 < l.length := List.length_pos_iff.2 hne
 rw [Lib.decodeL_N]
 rcases Lib.decodeN_shape l.length (l.getD 0 0).toNat (l.getD 1 0).toNat (l.getD 2 0).toNat (l.getD 3 0).toNat with ⟨c, e⟩ | ⟨a1, a2, a3, av, e⟩ | ⟨a1, a2, a3, a4, av, aw, e⟩ | ⟨a1, a2, a3, a4, a5, av, aw, e⟩ | e <;> rw [e] <;> simp only <;> omega
/-- Valid bytes, and what stands behind them. -/
theorem validD_app : ∀ (n : Nat) (a b : List UInt8), a.length ≤ n → Lib.validD a = true → Lib.validD (a ++ b) = Lib.validD b := by
 intro n
 induction n with
 | zero => intro a b h _; rw [List.eq_nil_of_length_eq_zero (by omega : a.length = 0)]; rfl
 | succ n ih =>
  intro a b h hv
  by_cases hne : a = []
  ·rw [hne]; rfl
  ·obtain ⟨h1, h2⟩ := dec_fit a hne
   rw [Lib.validD_step a hne] at hv
   split at hv
   ·cases hv
   ·rename_i hg
    have hd := decL_same a (a ++ b) hg (by rw [List.length_append]; omega) (by rw [List.take_append_of_le_length h2]) h1
    rw [Lib.validD_step (a ++ b) (by simp [hne]), hd, if_neg hg, List.drop_append_of_le_length h2]
    exact ih _ b (by rw [List.length_drop]; omega) hv
theorem flat_in {s : ByteArray} {br : Nat → Res JV} {i j : Nat} {v : JV} (h : flat s br i = .ok v j) : i < s.size := by
 by_cases c : i < s.size
 ·exact c
 ·have hl := hnd_out c
  unfold flat at h
  rw [hl, if_neg (by decide), if_neg (by decide), if_neg (by decide), if_neg (by decide), if_neg (by decide)] at h
  have : number s i = .bad i 30 := by
   unfold number
   rw [hl, if_neg (by decide)]
   unfold nI
   rw [hl, if_neg (by decide)]
   unfold digits
   rw [hl, if_neg (by decide)]
   rfl
  rw [this] at h
  cases h
theorem pval_in {s : ByteArray} {d i j : Nat} {v : JV} (h : pval s d i = .ok v j) : i < s.size := by
 cases d with
 | zero => exact flat_in h
 | succ d => exact flat_in h
end Go.Proofs.YtebmgmagdhedgaaGreatDoor.Q

end
section
namespace Go.Proofs.YtebmgmagdhedgaaGreatDoor.Q
open Go.RowKit Go.Proofs.YtebmgmagdhedgaaGreatDoorW.PrintWords Go.Proofs.YtebmgmagdhedgaaGreatDoorW.PrintLast Go.Proofs.YtebmgmagdhedgaaGreatDoorW.PrintMore
attribute [local go_sem] max2_int min2_int max_two min_two max_three min_three max_four min_four   
set_option linter.unusedVariables false
set_option linter.unusedSimpArgs false
theorem cut_drop (s : ByteArray) (i z : Nat) : (s.extract i (i + z)).data.toList = (s.data.toList.drop i).take z := by
 rw [ByteArray.data_extract, Array.toList_extract, List.extract_eq_take_drop]
 congr 1
 omega
/-- A character that is passed over is valid. -/
theorem nxt_valid {s : ByteArray} {i z : Nat} (h : nxt s i = some z) (hi : i < s.size) : Lib.validD (s.extract i (i + z)).data.toList = true := by
 have hz := nxt_pos h
 have hin := nxt_in h hi
 have hl : s.data.toList.length = s.size := Array.length_toList
 rw [cut_drop]
 have hd : Lib.decodeL (s.data.toList.drop i) = Utf8.decode s i := Go.Proofs.YtebmgmagdhedgaaGreatDoor.XUtfT.decodeL_drop s i
 unfold nxt at h
 split at h
 ·cases h
 ·rename_i hb
  injection h with h
  have hlen : ((s.data.toList.drop i).take z).length = z := by rw [List.length_take, List.length_drop]; omega
  have hd2 := decL_same (s.data.toList.drop i) ((s.data.toList.drop i).take z) (by rw [hd]; exact hb) (by rw [hd, h, hlen]; exact Nat.le_refl _) (by rw [hd, h, List.take_take, Nat.min_self]) (by rw [hd, h]; exact hz)
  rw [Lib.validD_step _ (by intro e; rw [e] at hlen; simp at hlen; omega), hd2, hd, if_neg hb, h, List.drop_of_length_le (by rw [hlen]; exact Nat.le_refl _)]
  rfl
theorem qlen_app (a b : List UInt8) : qlen (a ++ b) = qlen a + qlen b := by unfold qlen; rw [List.flatMap_append, List.length_append]
theorem escape_gt {s : ByteArray} {i r j : Nat} (h : escape s i = .ok r j) : i < j := by
 unfold escape at h
 split at h
 ·injection h with _ h; omega
 ·cases hu : unit s i with
  | bad k c => rw [hu] at h; cases h
  | ok u k =>
   rw [hu] at h
   have h1 := unit_lt hu
   have h2 := escU_ge (show escU s u k = .ok r j from h)
   omega
theorem qlen_enc12 (r : Nat) : qlen (Lib.encodeRune (r : Int)) ≤ 6 := by
 have h := qb_len r
 rw [Go.Proofs.YtebmgmagdhedgaaGreatDoor.XQuote.qb_flat] at h
 unfold qlen
 rw [show (fun c : UInt8 => qByte c.toNat) = Go.Proofs.YtebmgmagdhedgaaGreatDoor.XQuote.qby from funext fun x => (qby_qByte x).symm]
 exact h
theorem txt_may {s : ByteArray} : ∀ (f i j : Nat) (acc l : List UInt8), i ≤ s.size → txt s f i acc = .ok l j → Lib.validD acc = true → Lib.validD l = true ∧ qlen l + 6 ≤ qlen acc + 6 * (j - i) ∧ i < j := by
 intro f
 induction f with
 | zero => intro i j acc l _ h; cases h
 | succ f ih =>
  intro i j acc l hi h hv
  rw [txt] at h
  split at h
  ·injection h with h h2
   subst h h2
   exact ⟨hv, by omega, by omega⟩
  split at h
  ·cases h
  split at h
  ·rename_i h92
   have hlt := hnd_pos h92 (by omega)
   cases he : escape s (i + 1) with
   | bad k c => rw [he] at h; cases h
   | ok r k =>
    rw [he] at h
    have hk := escape_gt he
    have hks := escape_sn (s := s) (i := i + 1) (by omega)
    rw [he] at hks
    obtain ⟨h1, h2, h3⟩ := ih k j _ l hks.2 h (by rw [validD_app _ acc _ (Nat.le_refl _) hv, ← List.append_nil (Lib.encodeRune _), validD_enc]; rfl)
    rw [qlen_app] at h2
    have := qlen_enc12 r
    exact ⟨h1, by omega, by omega⟩
  ·split at h
   ·rename_i z hz
    have hlt : i < s.size := by
     rcases Nat.lt_or_ge i s.size with c | c
     ·exact c
     ·have := hnd_ge c
      omega
    have hp := nxt_pos hz
    have hin := nxt_in hz hlt
    obtain ⟨h1, h2, h3⟩ := ih (i + z) j _ l hin h (by rw [validD_app _ acc _ (Nat.le_refl _) hv]; exact nxt_valid hz hlt)
    rw [qlen_app] at h2
    have := qlen_le (s.extract i (i + z)).data.toList
    have hl : (s.extract i (i + z)).data.toList.length = z := by
     rw [show (s.extract i (i + z)).data.toList.length = (s.extract i (i + z)).size from Array.length_toList, ByteArray.size_extract]
     omega
    exact ⟨h1, by omega, by omega⟩
   ·cases h
theorem text_may {s : ByteArray} {i j : Nat} {l : List UInt8} (hi : i < s.size) (h : text s i = .ok l j) : Lib.validD l = true ∧ (quo ⟨l.toArray⟩).length + 1 ≤ 6 * (j - i) ∧ i < j := by
 unfold text at h
 obtain ⟨h1, h2, h3⟩ := txt_may _ _ _ _ _ hi h rfl
 have hz : qlen [] = 0 := rfl
 refine ⟨h1, ?_, by omega⟩
 have e : (quo ⟨l.toArray⟩).length = qlen l + 2 := by
  have hv : Lib.validD (⟨l.toArray⟩ : ByteArray).data.toList = true := by simpa using h1
  rw [quo_valid hv, bts_nat, List.flatMap_map]
  simp [qlen]
 omega
def tot (ws : List Nat) : Nat := (ws.map (· + 1)).sum
theorem tot_app (a b : List Nat) : tot (a ++ b) = tot a + tot b := by simp [tot]
theorem sep_len : ∀ (l : List (List UInt8)) (b : Bool), (sep b l).length ≤ tot (l.map List.length) := by
 intro l
 induction l with
 | nil => intro b; simp [sep]
 | cons x r ih =>
  intro b
  have := ih false
  simp only [sep, List.length_append, List.map_cons]
  rw [show tot (x.length :: r.map List.length) = tot [x.length] + tot (r.map List.length) from tot_app [x.length] _]
  have : tot [x.length] = x.length + 1 := by simp [tot]
  cases b <;> simp <;> omega
/-- What is read, may be: the pieces' law. -/
def Fits (Q : JV → Prop) (wr : JV → List UInt8) (pv : Nat → Res JV) : Prop := ∀ i v j, pv i = .ok v j → Q v ∧ (wr v).length + 1 ≤ 6 * (j - i) ∧ i < j
theorem lst_may {s : ByteArray} {Q : JV → Prop} {wr : JV → List UInt8} {pv : Nat → Res JV} (H : Fits Q wr pv) : ∀ (f i j : Nat) (acc l : List JV), lst s pv f i acc = .ok l j → (∀ x ∈ acc, Q x) → (∀ x ∈ l, Q x) ∧ tot (l.map fun x => (wr x).length) + 6 ≤ tot (acc.map fun x => (wr x).length) + 6 * (j - i) ∧ i < j := by
 intro f
 induction f with
 | zero => intro i j acc l h; cases h
 | succ f ih =>
  intro i j acc l h hq
  rw [lst] at h
  split at h
  ·injection h with h h2
   subst h h2
   exact ⟨hq, by omega, by omega⟩
  ·cases h1 : (if acc.length = 0 then (.ok () i : Res Unit) else (wd s [44] i).bind fun _ j => .ok () (skip isBl s j)) with
   | bad k c => rw [h1] at h; cases h
   | ok u m =>
    rw [h1] at h
    have him : i ≤ m := by
     split at h1
     ·injection h1 with _ h1; omega
     ·cases hw : wd s [44] i with
      | bad k c => rw [hw] at h1; cases h1
      | ok u q =>
       rw [hw] at h1
       have := wd_lt hw
       have h3 := skip_ge (p := isBl) s q
       injection h1 with _ h1
       simp at this
       omega
    cases h2 : pv m with
    | bad k c => rw [show ((Res.ok u m).bind fun _ j => (pv j).bind fun v k => lst s pv f (skip isBl s k) (acc ++ [v])) = (pv m).bind fun v k => lst s pv f (skip isBl s k) (acc ++ [v]) from rfl, h2] at h; cases h
    | ok v k =>
     rw [show ((Res.ok u m).bind fun _ j => (pv j).bind fun v k => lst s pv f (skip isBl s k) (acc ++ [v])) = (pv m).bind fun v k => lst s pv f (skip isBl s k) (acc ++ [v]) from rfl, h2] at h
     obtain ⟨a, b, c⟩ := H m v k h2
     have h3 := skip_ge (p := isBl) s k
     obtain ⟨d, e, g⟩ := ih _ _ _ _ (show lst s pv f (skip isBl s k) (acc ++ [v]) = .ok l j from h) (fun x hx => by
      rcases List.mem_append.1 hx with hx | hx
      ·exact hq x hx
      ·rw [List.mem_singleton.1 hx]; exact a)
     refine ⟨d, ?_, by omega⟩
     rw [List.map_append, tot_app] at e
     have : tot ([v].map fun x => (wr x).length) = (wr v).length + 1 := by simp [tot]
     omega
theorem named_app : ∀ (l m : List JF) (met : List (List UInt8)), namedF (l ++ m) met = (namedF l met && namedF m (met ++ namesOf l)) := by
 intro l
 induction l with
 | nil => intro m met; simp [namedF, namesOf]
 | cons f r ih =>
  intro m met
  simp only [List.cons_append, namedF]
  split
  ·rfl
  split
  ·rw [ih]
   congr 2
   simp [namesOf]
  ·rfl
theorem named_set : ∀ (l : List JF) (k : Nat) (v : JV) (n : ByteArray) (met : List (List UInt8)), (∀ h : k < l.length, (l[k]).f0 = n) → namedF (l.set k ⟨n, v⟩) met = namedF l met := by
 intro l
 induction l with
 | nil => intro k v n met _; rfl
 | cons f r ih =>
  intro k v n met h
  cases k with
  | zero =>
   have := h (by simp)
   simp only [List.getElem_cons_zero] at this
   simp only [List.set_cons_zero, namedF, this]
  | succ k =>
   simp only [List.set_cons_succ, namedF]
   rw [ih k v n _ (fun hk => by have := h (by simp; omega); simpa using this)]
theorem sum_set : ∀ (l : List Nat) (k x : Nat), (l.set k x).sum ≤ l.sum + x := by
 intro l
 induction l with
 | nil => intro k x; simp
 | cons a r ih =>
  intro k x
  cases k with
  | zero => simp only [List.set_cons_zero, List.sum_cons]; omega
  | succ k => have := ih k x; simp only [List.set_cons_succ, List.sum_cons]; omega
theorem putF_may {Q : JV → Prop} {wr : JV → List UInt8} {acc : List JF} {n : ByteArray} {v : JV} (hn : namedF acc [] = true) (hval : Lib.validD n.data.toList = true) (hq : ∀ x ∈ acc, Q x.f1) (hv : Q v) :
  namedF (putF acc n v) [] = true ∧ (∀ x ∈ putF acc n v, Q x.f1) ∧ tot ((putF acc n v).map fun x => (fw wr x).length) ≤ tot (acc.map fun x => (fw wr x).length) + ((fw wr ⟨n, v⟩).length + 1) := by
 unfold putF
 split
 ·rename_i k hk
  have hlt := idxF_lt hk
  have hname : (acc[k]).f0 = n := by
   unfold idxF at hk
   rw [List.findIdx?_eq_some_iff_getElem] at hk
   obtain ⟨_, h, _⟩ := hk
   simpa using h
  refine ⟨by rw [named_set _ _ _ _ _ (fun _ => hname)]; exact hn, ?_, ?_⟩
  ·intro x hx
   rcases List.mem_or_eq_of_mem_set hx with hx | rfl
   ·exact hq x hx
   ·exact hv
  ·unfold tot
   rw [List.map_set, List.map_set]
   exact sum_set _ _ _
 ·rename_i hk
  have hnew : n.data.toList ∉ namesOf acc := by
   intro hm
   unfold idxF at hk
   rw [List.findIdx?_eq_none_iff] at hk
   obtain ⟨x, hx, he⟩ := List.mem_map.1 hm
   have := hk x hx
   rw [decide_eq_false_iff_not] at this
   exact this (ba_eq he)
  refine ⟨?_, ?_, ?_⟩
  ·rw [named_app, hn, List.nil_append]
   simp only [namedF, if_neg hnew, if_pos hval, Bool.true_and]
  ·intro x hx
   rcases List.mem_append.1 hx with hx | hx
   ·exact hq x hx
   ·rw [List.mem_singleton.1 hx]; exact hv
  ·rw [List.map_append, tot_app]
   have : tot ([(⟨n, v⟩ : JF)].map fun x => (fw wr x).length) = (fw wr ⟨n, v⟩).length + 1 := by simp [tot]
   omega
theorem obj_may {s : ByteArray} {Q : JV → Prop} {wr : JV → List UInt8} {pv : Nat → Res JV} (H : Fits Q wr pv) : ∀ (f i j : Nat) (first : Bool) (acc l : List JF), obj s pv f i first acc = .ok l j → namedF acc [] = true → (∀ x ∈ acc, Q x.f1) →
  namedF l [] = true ∧ (∀ x ∈ l, Q x.f1) ∧ tot (l.map fun x => (fw wr x).length) + 6 ≤ tot (acc.map fun x => (fw wr x).length) + 6 * (j - i) ∧ i < j := by
 intro f
 induction f with
 | zero => intro i j first acc l h; cases h
 | succ f ih =>
  intro i j first acc l h hn hq
  rw [obj] at h
  split at h
  ·injection h with h h2
   subst h h2
   exact ⟨hn, hq, by omega, by omega⟩
  ·cases h1 : (if first = true then (.ok () i : Res Unit) else (wd s [44] i).bind fun _ j => .ok () (skip isBl s j)) with
   | bad k c => rw [h1] at h; cases h
   | ok u m =>
    rw [h1] at h
    have him : i ≤ m := by
     split at h1
     ·injection h1 with _ h1; omega
     ·cases hw : wd s [44] i with
      | bad k c => rw [hw] at h1; cases h1
      | ok u q =>
       rw [hw] at h1
       have := wd_lt hw
       have h3 := skip_ge (p := isBl) s q
       injection h1 with _ h1
       simp at this
       omega
    have h : (if hnd s m = 34 then (text s m).bind fun l k => fld s pv f acc l k else .bad m 30) = .ok l j := h
    split at h
    ·rename_i h34
     have hlt := hnd_pos h34 (by omega)
     cases ht : text s m with
     | bad k c => rw [ht] at h; cases h
     | ok tx q =>
      rw [ht] at h
      obtain ⟨a, b, c⟩ := text_may hlt ht
      have h : (wd s [58] (skip isBl s q)).bind _ = _ := h
      have k1 := skip_ge (p := isBl) s q
      cases hw : wd s [58] (skip isBl s q) with
      | bad k c => rw [hw] at h; cases h
      | ok u2 q2 =>
       rw [hw] at h
       have hw2 := wd_lt hw
       simp at hw2
       have h : (pv (skip isBl s q2)).bind _ = _ := h
       have k2 := skip_ge (p := isBl) s q2
       cases hp : pv (skip isBl s q2) with
       | bad k c => rw [hp] at h; cases h
       | ok v n =>
        rw [hp] at h
        obtain ⟨d, e, g⟩ := H _ _ _ hp
        have k3 := skip_ge (p := isBl) s n
        have hval : Lib.validD (⟨tx.toArray⟩ : ByteArray).data.toList = true := by simpa using a
        obtain ⟨p1, p2, p3⟩ := putF_may (wr := wr) hn hval hq d
        obtain ⟨r1, r2, r3, r4⟩ := ih _ _ _ _ _ (show obj s pv f (skip isBl s n) false (putF acc ⟨tx.toArray⟩ v) = .ok l j from h) p1 p2
        refine ⟨r1, r2, ?_, by omega⟩
        have : (fw wr ⟨⟨tx.toArray⟩, v⟩).length = (quo ⟨tx.toArray⟩).length + 1 + (wr v).length := by simp [fw]; omega
        omega
    ·cases h
theorem numOk_cut {s : ByteArray} {i j d : Nat} {v : JV} (hs : s.size ≤ 262144) (h : pval s d i = .ok v j) (h3 : v.f0 = 3) : v = ⟨3, s.extract i j, [], []⟩ ∧ numOk (s.extract i j) = true ∧ (s.extract i j).size = j - i := by
 obtain ⟨hn, hv, n1, n2, n3, n4, n5, n6⟩ := pval3 h h3
 have hi := pval_in h
 have hlt := number_lt hn
 have hsn := number_sn (s := s) (i := i) (by omega)
 rw [hn] at hsn
 have hsz : (s.extract i j).size = j - i := by rw [ByteArray.size_extract]; have := hsn.2; omega
 have hj := hsn.2
 refine ⟨hv, ?_, hsz⟩
 have hsame : ∀ q, q < j - i → hnd (s.extract i j) (0 + q) = hnd s (i + q) := by
  intro q hq
  have hl := cut_list s (j - i) i (by omega)
  rw [show i + (j - i) = j by omega] at hl
  have hq' : q < (s.extract i j).data.toList.length := by rw [show (s.extract i j).data.toList.length = (s.extract i j).size from Array.length_toList]; omega
  have := congrArg (fun l => l[q]?) hl
  simp only [List.getElem?_map] at this
  rw [List.getElem?_eq_getElem hq'] at this
  rw [List.getElem?_range' (by omega)] at this
  simp at this
  rw [Nat.zero_add]
  unfold hnd
  rw [dif_pos (by omega)]
  have e : (s.extract i j)[q]'(by omega) = (s.extract i j).data.toList[q]'hq' := rfl
  rw [e]
  have h2 : (((s.extract i j).data.toList[q]'hq').toNat : Nat) = hnd s (i + q) := by simpa using this
  rw [h2]
  rfl
 have hsub : Sub s (s.extract i j) i 0 (j - i) := ⟨hsame, by omega, by omega, by rw [hnd_ge (by omega)]; exact numStop0⟩
 have hnum := number_sub hsub (i := 0) (j := j - i) (by rw [Nat.add_zero, show i + (j - i) = j by omega]; exact hn) (Nat.le_refl _)
 rw [Nat.add_zero, Nat.zero_add] at hnum
 have hh := hsame 0 (by omega)
 rw [Nat.add_zero, Nat.add_zero] at hh
 have hld := dig_lead (num_lead hnum)
 have hfl : ∀ br, flat (s.extract i j) br 0 = .ok ⟨3, s.extract i j, [], []⟩ (j - i) := by
  intro br
  unfold flat
  rw [hh, if_neg n1, if_neg n2, if_neg n3, if_neg n4, if_neg (by omega), hnum]
  show Res.ok _ _ = _
  have e : (s.extract i j).extract 0 (j - i) = s.extract i j := by
   generalize hx : s.extract i j = x at hsz
   rw [← hsz]
   simp
  rw [e]
 have hk : skip isBl (s.extract i j) 0 = 0 := skip_at hld.1
 have hk2 : skip isBl (s.extract i j) (j - i) = j - i := skip_at (by rw [hnd_ge (by omega)]; rfl)
 have hp : parse (s.extract i j) = .ok ⟨3, s.extract i j, [], []⟩ 0 := by
  unfold parse
  rw [hk, show pval (s.extract i j) 64 = flat (s.extract i j) _ from rfl, hfl]
  show (if _ then _ else _) = _
  rw [hk2, if_neg (by omega)]
 have hpd : parsed (s.extract i j) = (⟨3, s.extract i j, [], []⟩, 0, 0) := by unfold parsed; rw [if_neg (by omega), hp]
 unfold numOk
 rw [hpd]
 simp
theorem flat_kinds {s : ByteArray} {br : Nat → Res JV} {i j : Nat} {v : JV} (h : flat s br i = .ok v j) :
  (v = ⟨0, ⟨#[]⟩, [], []⟩ ∧ j = i + 4) ∨ (v = ⟨2, ⟨#[]⟩, [], []⟩ ∧ j = i + 4) ∨ (v = ⟨1, ⟨#[]⟩, [], []⟩ ∧ j = i + 5) ∨ (∃ l, v = ⟨4, ⟨l.toArray⟩, [], []⟩ ∧ text s i = .ok l j ∧ hnd s i = 34) ∨ ((hnd s i = 91 ∨ hnd s i = 123) ∧ br i = .ok v j) ∨ v.f0 = 3 := by
 unfold flat at h
 split at h
 ·cases hw : wd s [110, 117, 108, 108] i with
  | ok u k => rw [hw] at h; injection h with h h2; have := wd_lt hw; simp at this; exact .inl ⟨h.symm, by omega⟩
  | bad k c => rw [hw] at h; cases h
 split at h
 ·cases hw : wd s [116, 114, 117, 101] i with
  | ok u k => rw [hw] at h; injection h with h h2; have := wd_lt hw; simp at this; exact .inr (.inl ⟨h.symm, by omega⟩)
  | bad k c => rw [hw] at h; cases h
 split at h
 ·cases hw : wd s [102, 97, 108, 115, 101] i with
  | ok u k => rw [hw] at h; injection h with h h2; have := wd_lt hw; simp at this; exact .inr (.inr (.inl ⟨h.symm, by omega⟩))
  | bad k c => rw [hw] at h; cases h
 split at h
 ·rename_i h34
  cases hw : text s i with
  | ok u k => rw [hw] at h; injection h with h h2; subst h2; exact .inr (.inr (.inr (.inl ⟨u, h.symm, rfl, h34⟩)))
  | bad k c => rw [hw] at h; cases h
 split at h
 ·rename_i hc; exact .inr (.inr (.inr (.inr (.inl ⟨hc, h⟩))))
 ·cases hw : number s i with
  | ok u k => rw [hw] at h; injection h with h h2; subst h; exact .inr (.inr (.inr (.inr (.inr rfl))))
  | bad k c => rw [hw] at h; cases h
/-- What is read may be; and how long it is, written. -/
theorem pval_may {s : ByteArray} (hs : s.size ≤ 262144) : ∀ d, Fits (fun v => mayD d v = true ∧ posD d v = true) (wrD d) (pval s d) := by
 have num : ∀ d i v j, pval s d i = .ok v j → v.f0 = 3 → (mayD d v = true ∧ posD d v = true) ∧ (wrD d v).length + 1 ≤ 6 * (j - i) ∧ i < j := by
  intro d i v j h h3
  obtain ⟨hv, hk, hz⟩ := numOk_cut hs h h3
  have hlt := pval_lt d i v j h
  subst hv; refine ⟨⟨mayD_flat (by simp [fineV, hk]) (show (3 : Int) < 5 by decide) rfl rfl, posD_flat (show (0 : Int) ≤ 3 by decide) rfl rfl⟩, ?_, hlt⟩
  obtain ⟨ch, e⟩ := wrD_eq d ⟨3, s.extract i j, [], []⟩
  rw [e, show wrF ch ⟨3, s.extract i j, [], []⟩ = (s.extract i j).data.toList from rfl, show (s.extract i j).data.toList.length = (s.extract i j).size from Array.length_toList]
  omega
 have easy : ∀ d i j br v, flat s br i = .ok v j → v.f0 ≠ 3 → ¬ ((hnd s i = 91 ∨ hnd s i = 123) ∧ br i = .ok v j) → (mayD d v = true ∧ posD d v = true) ∧ (wrD d v).length + 1 ≤ 6 * (j - i) ∧ i < j := by
  intro d i j br v h h3 hn
  obtain ⟨ch, e⟩ := wrD_eq d v
  rw [e]
  rcases flat_kinds h with ⟨rfl, rfl⟩ | ⟨rfl, rfl⟩ | ⟨rfl, rfl⟩ | ⟨l, rfl, ht, h34⟩ | c | c
  ·exact ⟨⟨mayD_flat (by decide) (by decide) rfl rfl, posD_flat (by decide) rfl rfl⟩, by show 5 ≤ _; omega, by omega⟩
  ·exact ⟨⟨mayD_flat (by decide) (by decide) rfl rfl, posD_flat (by decide) rfl rfl⟩, by show 5 ≤ _; omega, by omega⟩
  ·exact ⟨⟨mayD_flat (by decide) (by decide) rfl rfl, posD_flat (by decide) rfl rfl⟩, by show 6 ≤ _; omega, by omega⟩
  ·obtain ⟨a, b, c⟩ := text_may (hnd_pos h34 (by omega)) ht
   exact ⟨⟨mayD_flat (by simp [fineV, a]) (show (4 : Int) < 5 by decide) rfl rfl, posD_flat (show (0 : Int) ≤ 4 by decide) rfl rfl⟩, b, c⟩
  ·exact absurd c hn
  ·exact absurd c h3
 intro d
 induction d with
 | zero =>
  intro i v j h
  by_cases h3 : v.f0 = 3
  ·exact num 0 i v j h h3
  ·exact easy 0 i j _ v h h3 (fun c => by cases c.2)
 | succ d ih =>
  intro i v j h
  by_cases h3 : v.f0 = 3
  ·exact num (d + 1) i v j h h3
  by_cases hb : (hnd s i = 91 ∨ hnd s i = 123) ∧ brk s (pval s d) i = .ok v j
  ·obtain ⟨hc, hb⟩ := hb
   have hin : i < s.size := by rcases hc with hc | hc <;> exact hnd_pos hc (by omega)
   unfold brk at hb
   have k1 := skip_ge (p := isBl) s (i + 1)
   split at hb
   ·cases hw : lst s (pval s d) (s.size + 1) (skip isBl s (i + 1)) [] with
    | bad k c => rw [hw] at hb; cases hb
    | ok l k =>
     rw [hw] at hb
     injection hb with hb hb2
     subst hb hb2
     obtain ⟨a, b, c⟩ := lst_may ih _ _ _ _ _ hw (fun x hx => by cases hx)
     refine ⟨⟨?_, ?_⟩, ?_, by omega⟩
     ·simp only [mayD, Bool.and_eq_true, List.all_eq_true]
      exact ⟨⟨by simp [fineV]; try rfl, fun x hx => (a x hx).1⟩, fun x hx => by cases hx⟩
     ·simp only [posD, Bool.and_eq_true, List.all_eq_true]
      exact ⟨⟨by simp, fun x hx => (a x hx).2⟩, fun x hx => by cases hx⟩
     ·show (91 :: (sep true (l.map (wrD d)) ++ [93])).length + 1 ≤ _
      have := sep_len (l.map (wrD d)) true
      rw [List.map_map] at this
      have h0 : tot (([] : List JV).map fun x => (wrD d x).length) = 0 := rfl
      simp only [List.length_cons, List.length_append, List.length_nil]
      have e : (l.map (List.length ∘ wrD d)) = l.map fun x => (wrD d x).length := rfl
      rw [e] at this
      omega
   ·cases hw : obj s (pval s d) (s.size + 1) (skip isBl s (i + 1)) true [] with
    | bad k c => rw [hw] at hb; cases hb
    | ok l k =>
     rw [hw] at hb
     injection hb with hb hb2
     subst hb hb2
     obtain ⟨n, a, b, c⟩ := obj_may ih _ _ _ _ _ _ hw rfl (fun x hx => by cases hx)
     refine ⟨⟨?_, ?_⟩, ?_, by omega⟩
     ·simp only [mayD, Bool.and_eq_true, List.all_eq_true]
      exact ⟨⟨by simp [fineV, n]; try rfl, fun x hx => by cases hx⟩, fun x hx => (a x hx).1⟩
     ·simp only [posD, Bool.and_eq_true, List.all_eq_true]
      exact ⟨⟨by simp, fun x hx => by cases hx⟩, fun x hx => (a x hx).2⟩
     ·show (123 :: (sep true (l.map (fw (wrD d))) ++ [125])).length + 1 ≤ _
      have := sep_len (l.map (fw (wrD d))) true
      rw [List.map_map] at this
      have h0 : tot (([] : List JF).map fun x => (fw (wrD d) x).length) = 0 := rfl
      simp only [List.length_cons, List.length_append, List.length_nil]
      have e : (l.map (List.length ∘ fw (wrD d))) = l.map fun x => (fw (wrD d) x).length := rfl
      rw [e] at this
      omega
  ·exact easy (d + 1) i j _ v h h3 hb
/-- A text that is read: what it is may be, and is not too long, written. -/
theorem parsed_may {s : ByteArray} {v : JV} {a : Nat} (h : parsed s = (v, a, 0)) : s.size ≤ 262144 ∧ mayD 64 v = true ∧ posD 64 v = true ∧ (wrD 64 v).length ≤ 6 * s.size := by
 unfold parsed at h
 by_cases hs : 262144 < s.size
 ·rw [if_pos hs] at h
  injection h with _ h; injection h with _ h; cases h
 ·rw [if_neg hs] at h
  rcases parse_sn s with ⟨w, hw⟩ | ⟨k, c, hw, _, hc⟩
  ·rw [hw] at h
   injection h with h _
   subst h; obtain ⟨j, hj, h1, h2, h3⟩ := parse_ok hw
   obtain ⟨⟨a, b⟩, c, d⟩ := pval_may (by omega) 64 _ _ _ hj
   exact ⟨by omega, a, b, by omega⟩
  ·rw [hw] at h
   injection h with _ h; injection h with _ h
   subst h; rcases hc with hc | hc <;> cases hc
end Go.Proofs.YtebmgmagdhedgaaGreatDoor.Q

end
section
namespace Go.Proofs.YtebmgmagdhedgaaGreatDoor.Q
open Go.RowKit Go.Proofs.YtebmgmagdhedgaaGreatDoorW.PrintWords Go.Proofs.YtebmgmagdhedgaaGreatDoorW.PrintLast Go.Proofs.YtebmgmagdhedgaaGreatDoorW.PrintMore
attribute [local go_sem] max2_int min2_int max_two min_two max_three min_three max_four min_four   
set_option linter.unusedVariables false
set_option linter.unusedSimpArgs false
theorem ba_toList {a b : ByteArray} : a.toList = b.toList ↔ a = b := by
 rw [ByteArray.toList_eq, ByteArray.toList_eq]
 exact ⟨fun h => ByteArray.ext (Array.toList_inj.1 h), fun h => by rw [h]⟩
open Go.Proofs.YtebmgmagdhedgaaGreatDoor.XEv in
/-- The reference's Same tells whether two values are the same. -/
theorem same3 : ∀ a, ndV a ≤ 1000000 → ∀ b, Ev (fun k => glossatorref03_Same.f k a.f0 a.f1 a.f2 a.f3 b.f0 b.f1 b.f2 b.f3) (eqV a b) := by
 refine jv_ind fun a h2 h3 hn b => ?_
 have e := ndV_mk a
 have l2 := ndL_len a.f2
 have l3 := ndF_len a.f3
 have L1 : a.f3.length = b.f3.length → ∀ n (m : Nat), a.f3.length = m + n → Ev (fun k => glossatorref03_Same.l1 k (m : Int) a.f0 a.f1 a.f2 a.f3 b.f0 b.f1 b.f2 b.f3) (eqF (a.f3.drop m) (b.f3.drop m)) := by
  intro hl n
  induction n with
  | zero =>
   intro m hm
   rw [List.drop_of_length_le (by omega), List.drop_of_length_le (by omega), eqF_nil]
   refine up ?_
   simp only [glossatorref03_Same.l1]
   exact now fun _ => if_neg (by omega)
  | succ n ihn =>
   intro m hm
   have hml : m < a.f3.length := by omega
   have hmb : m < b.f3.length := by omega
   rw [List.drop_eq_getElem_cons hml, List.drop_eq_getElem_cons hmb, eqF_cons]
   refine up ?_
   have c0 : (m : Int) < (a.f3.length : Int) := by omega
   have c1 : (0 : Int) ≤ (m : Int) := by omega
   have c2 : (m : Int) < (b.f3.length : Int) := by omega
   have hr : rd_T45 a.f3 (m : Int) = a.f3[m]'hml := by unfold rd_T45; rw [Int.toNat_natCast, List.getD_eq_getElem?_getD, List.getElem?_eq_getElem hml]; rfl
   have hs : rd_T45 b.f3 (m : Int) = b.f3[m]'hmb := by unfold rd_T45; rw [Int.toNat_natCast, List.getD_eq_getElem?_getD, List.getElem?_eq_getElem hmb]; rfl
   simp only [glossatorref03_Same.l1, if_pos c0, if_pos c1, if_pos c2, hr, hs]
   unfold eqF1
   by_cases c : (a.f3[m]'hml).f0 = (b.f3[m]'hmb).f0
   ·simp only [if_pos (ba_toList.2 c), decide_eq_true c, Bool.true_and]
    refine bind (h3 (a.f3[m]'hml) (List.getElem_mem _) (by have := ndF_mem (List.getElem_mem hml); omega) (b.f3[m]'hmb).f1) ?_
    cases hx : eqV (a.f3[m]'hml).f1 (b.f3[m]'hmb).f1 with
    | false => simp only [Bool.false_eq_true, if_false, Bool.false_and]; exact now fun _ => rfl
    | true =>
     simp only [if_true, Bool.true_and]
     rw [w1 m (by omega)]
     exact ihn (m + 1) (by omega)
   ·simp only [if_neg (fun h => c (ba_toList.1 h)), decide_eq_false c, Bool.false_and]
    exact now fun _ => rfl
 have L0 : a.f2.length = b.f2.length → a.f3.length = b.f3.length → ∀ n (m : Nat), a.f2.length = m + n → Ev (fun k => glossatorref03_Same.l0 k (m : Int) a.f0 a.f1 a.f2 a.f3 b.f0 b.f1 b.f2 b.f3) (eqL (a.f2.drop m) (b.f2.drop m) && eqF a.f3 b.f3) := by
  intro hl hl3 n
  induction n with
  | zero =>
   intro m hm
   rw [List.drop_of_length_le (by omega), List.drop_of_length_le (by omega), eqL_nil]
   refine up ?_
   simp only [glossatorref03_Same.l0, if_neg (show ¬ (m : Int) < (a.f2.length : Int) by omega)]
   exact L1 hl3 a.f3.length 0 (by omega)
  | succ n ihn =>
   intro m hm
   have hml : m < a.f2.length := by omega
   have hmb : m < b.f2.length := by omega
   rw [List.drop_eq_getElem_cons hml, List.drop_eq_getElem_cons hmb, eqL_cons]
   refine up ?_
   have c0 : (m : Int) < (a.f2.length : Int) := by omega
   have c1 : (0 : Int) ≤ (m : Int) := by omega
   have c2 : (m : Int) < (b.f2.length : Int) := by omega
   have hr : rd_T25 a.f2 (m : Int) = a.f2[m]'hml := by unfold rd_T25; rw [Int.toNat_natCast, List.getD_eq_getElem?_getD, List.getElem?_eq_getElem hml]; rfl
   have hs : rd_T25 b.f2 (m : Int) = b.f2[m]'hmb := by unfold rd_T25; rw [Int.toNat_natCast, List.getD_eq_getElem?_getD, List.getElem?_eq_getElem hmb]; rfl
   simp only [glossatorref03_Same.l0, if_pos c0, if_pos c1, if_pos c2, hr, hs]
   refine bind (h2 (a.f2[m]'hml) (List.getElem_mem _) (by have := ndL_mem (List.getElem_mem hml); omega) (b.f2[m]'hmb)) ?_
   cases hx : eqV (a.f2[m]'hml) (b.f2[m]'hmb) with
   | false => simp only [Bool.false_eq_true, if_false, Bool.false_and]; exact now fun _ => rfl
   | true =>
    simp only [if_true, Bool.true_and]
    rw [w1 m (by omega)]
    exact ihn (m + 1) (by omega)
 have no : ∀ {r : Bool}, r = false → Ev (fun k => glossatorref03_Same.j0 k true a.f0 a.f1 a.f2 a.f3 b.f0 b.f1 b.f2 b.f3) r := by
  intro r hr
  subst hr; refine up ?_
  simp only [glossatorref03_Same.j0, if_true]
  exact now fun _ => rfl
 rw [eqV_mk]
 refine up ?_
 simp only [glossatorref03_Same.f]
 by_cases k0 : a.f0 = b.f0
 case neg => simp only [if_neg k0]; exact no (by rw [decide_eq_false k0, Bool.false_and])
 by_cases k1 : a.f1 = b.f1
 case neg => simp only [if_pos k0, if_neg (fun h => k1 (ba_toList.1 h))]; exact no (by rw [decide_eq_false k1, Bool.false_and, Bool.and_false])
 by_cases k2 : a.f2.length = b.f2.length
 case neg => simp only [if_pos k0, if_pos (ba_toList.2 k1), if_neg (show ¬ (a.f2.length : Int) = (b.f2.length : Int) by omega)]; exact no (by rw [eqL_len _ _ k2, Bool.false_and, Bool.and_false, Bool.and_false])
 simp only [if_pos k0, if_pos (ba_toList.2 k1), if_pos (show (a.f2.length : Int) = (b.f2.length : Int) by omega), decide_eq_true k0, decide_eq_true k1, Bool.true_and]
 by_cases k3 : a.f3.length = b.f3.length
 case neg =>
  have : ((a.f3.length : Int) != (b.f3.length : Int)) = true := by simp [bne]; omega
  rw [this]
  exact no (by rw [eqF_len _ _ k3, Bool.and_false])
 have : ((a.f3.length : Int) != (b.f3.length : Int)) = false := by simp [bne, k3]
 rw [this]
 refine up ?_
 simp only [glossatorref03_Same.j0, Bool.false_eq_true, if_false]
 exact L0 k2 k3 a.f2.length 0 (by omega)
/-- What the reference's Same tells, where two values lie. -/
theorem same_c (a b : JV) (hn : ndV a ≤ 1000000) (A2 A3 B2 B3 : Option Addr) (c2 c3 d2 d3 : Nat) (h2 : a.f2.length ≤ c2) (h3 : a.f3.length ≤ c3) (k2 : b.f2.length ≤ d2) (k3 : b.f3.length ≤ d3) (w : World) (hA : Rd a A2 A3 w) (hB : Rd b B2 B3 w) : Calls Tryz.prog 11 #[.agg #[.int .u8 a.f0, .string a.f1, .slice A2 a.f2.length c2, .slice A3 a.f3.length c3], .agg #[.int .u8 b.f0, .string b.f1, .slice B2 b.f2.length d2, .slice B3 b.f3.length d3]] w fun e w' => e = .returned (.bool (eqV a b)) ∧ Below w.heap.size w w' := by
 obtain ⟨k, hk⟩ := same3 a hn b
 exact glossatorref03_Same.calls k a.f0 a.f1 A2 c2 a.f2 A3 c3 a.f3 b.f0 b.f1 B2 d2 b.f2 B3 d3 b.f3 _ w hA.1 h2 hA.2 h3 hB.1 k2 hB.2 k3 (hk k (Nat.le_refl _))
theorem qByte_pos (c : Nat) : 1 ≤ (qByte c).length := by
 unfold qByte
 repeat' split
 all_goals simp
theorem flat_pos : ∀ (l : List UInt8), l.length ≤ (l.flatMap (fun x => qByte x.toNat)).length := by
 intro l
 induction l with
 | nil => exact Nat.zero_le _
 | cons c r ih =>
  rw [List.flatMap_cons, List.length_append, List.length_cons]
  have := qByte_pos c.toNat
  omega
theorem quo_ge {s : ByteArray} (h : Lib.validD s.data.toList = true) : s.size + 2 ≤ (quo s).length := by
 have h1 := quoted_list s s.size 0
 rw [fix_same h] at h1
 unfold quo
 rw [h1]
 have h2 := flat_pos s.data.toList
 have h3 : s.data.toList.length = s.size := Array.length_toList
 simp only [List.length_cons, List.length_append, List.length_nil]
 omega
theorem namedF_valid : ∀ (l : List JF) (met : List (List UInt8)), namedF l met = true → ∀ y ∈ l, Lib.validD y.f0.data.toList = true := by
 intro l
 induction l with
 | nil => intro _ _ y hy; cases hy
 | cons f r ih =>
  intro met h y hy
  rw [namedF] at h
  split at h
  ·cases h
  split at h
  ·rename_i hv
   rcases List.mem_cons.1 hy with rfl | hy
   ·exact hv
   ·exact ih _ h y hy
  ·cases h
theorem sepL_ge {ch : JV → List UInt8} : ∀ (l : List JV) (b : Bool), (∀ x ∈ l, byV x ≤ (ch x).length ∧ ndV x ≤ (ch x).length) → byL l ≤ (sep b (l.map ch)).length ∧ ndL l ≤ (sep b (l.map ch)).length := by
 intro l
 induction l with
 | nil => intro b _; rw [byL_nil, ndL_nil]; exact ⟨Nat.zero_le _, Nat.zero_le _⟩
 | cons x r ih =>
  intro b h
  obtain ⟨h1, h1'⟩ := h x (by simp)
  obtain ⟨h2, h2'⟩ := ih false (fun y hy => h y (by simp [hy]))
  rw [List.map_cons, sep, byL_cons, ndL_cons, List.length_append]
  cases b <;> simp <;> omega
theorem sepF_ge {ch : JV → List UInt8} : ∀ (l : List JF) (b : Bool), (∀ y ∈ l, Lib.validD y.f0.data.toList = true) → (∀ y ∈ l, byV y.f1 ≤ (ch y.f1).length ∧ ndV y.f1 ≤ (ch y.f1).length) → byF l ≤ (sep b (l.map fun f => quo f.f0 ++ 58 :: ch f.f1)).length ∧ ndF l ≤ (sep b (l.map fun f => quo f.f0 ++ 58 :: ch f.f1)).length := by
 intro l
 induction l with
 | nil => intro b _ _; rw [byF_nil, ndF_nil]; exact ⟨Nat.zero_le _, Nat.zero_le _⟩
 | cons x r ih =>
  intro b hv h
  obtain ⟨h1, h1'⟩ := h x (by simp)
  obtain ⟨h2, h2'⟩ := ih false (fun y hy => hv y (by simp [hy])) (fun y hy => h y (by simp [hy]))
  have h3 := quo_ge (hv x (by simp))
  rw [List.map_cons, sep, byF_cons, ndF_cons, List.length_append]
  cases b <;> simp <;> omega
/-- How much what may be holds, by what is written of it. -/
theorem wrF_ge {ch : JV → List UInt8} {v : JV} (hf : fineV v = true) (h2 : ∀ x ∈ v.f2, byV x ≤ (ch x).length ∧ ndV x ≤ (ch x).length) (h3 : ∀ y ∈ v.f3, byV y.f1 ≤ (ch y.f1).length ∧ ndV y.f1 ≤ (ch y.f1).length) : byV v ≤ (wrF ch v).length ∧ ndV v ≤ (wrF ch v).length := by
 obtain ⟨h6, ht, hl, ho, hn, hv, hm⟩ := fineV_parts hf
 have e2 := sepL_ge (ch := ch) v.f2 true h2
 have z : v.f1.data.toList.length = v.f1.size := Array.length_toList
 rw [byV_mk, ndV_mk]
 unfold wrF
 by_cases c5 : v.f0 = 5
 ·have hf3 : v.f3 = [] := by rcases ho with h | h; exact h; omega
  rw [if_neg (by omega), if_neg (by omega), if_neg (by omega), if_neg (by omega), if_neg (by omega), if_pos c5, hf3, byF_nil, ndF_nil]
  simp only [List.length_cons, List.length_append, List.length_nil]
  omega
 have hf2 : v.f2 = [] := by rcases hl with h | h; exact h; omega
 by_cases c6 : v.f0 = 6
 ·have e3 := sepF_ge (ch := ch) v.f3 true (namedF_valid _ _ (hm c6)) h3
  have hz : v.f1.size = 0 := by omega
  rw [if_neg (by omega), if_neg (by omega), if_neg (by omega), if_neg (by omega), if_neg (by omega), if_neg c5, hf2, byL_nil, ndL_nil, hz]
  show 0 + 0 + byF v.f3 ≤ (123 :: (sep true (v.f3.map fun f => quo f.f0 ++ 58 :: ch f.f1) ++ [125])).length ∧ 1 + 0 + ndF v.f3 ≤ (123 :: (sep true (v.f3.map fun f => quo f.f0 ++ 58 :: ch f.f1) ++ [125])).length
  rw [List.length_cons, List.length_append]
  generalize (sep true (v.f3.map fun f => quo f.f0 ++ 58 :: ch f.f1)).length = L at e3 ⊢
  simp only [List.length_cons, List.length_nil]
  omega
 have hf3 : v.f3 = [] := by rcases ho with h | h; exact h; omega
 rw [hf2, hf3, byL_nil, byF_nil, ndL_nil, ndF_nil]
 by_cases c3 : v.f0 = 3
 ·have := (num_parts (hn c3)).1
  rw [if_neg (by omega), if_neg (by omega), if_neg (by omega), if_pos c3]
  omega
 by_cases c4 : v.f0 = 4
 ·have := quo_ge (hv c4)
  rw [if_neg (by omega), if_neg (by omega), if_neg (by omega), if_neg c3, if_pos c4]
  omega
 have ht0 : v.f1.size = 0 := by omega
 rw [ht0]
 repeat' split
 all_goals (try simp only [List.length_cons, List.length_nil])
 all_goals omega
theorem wr_ge : ∀ (d : Nat) (v : JV), mayD d v = true → byV v ≤ (wrD d v).length ∧ ndV v ≤ (wrD d v).length := by
 intro d
 induction d with
 | zero =>
  intro v h
  obtain ⟨h6, ht, hl, ho, hn, hv, hm⟩ := fineV_parts (mayD_fine h)
  simp only [mayD, Bool.and_eq_true, decide_eq_true_eq] at h
  have hf2 : v.f2 = [] := by rcases hl with h | h; exact h; omega
  have hf3 : v.f3 = [] := by rcases ho with h | h; exact h; omega
  exact wrF_ge h.1 (by rw [hf2]; intro x hx; cases hx) (by rw [hf3]; intro x hx; cases hx)
 | succ d ih =>
  intro v h
  have hf := mayD_fine h
  simp only [mayD, Bool.and_eq_true, List.all_eq_true] at h
  exact wrF_ge hf (fun x hx => ih x (h.1.2 x hx)) (fun y hy => ih y.f1 (h.2 y hy))
/-- What may be is in bounds when what it holds is. -/
theorem wf_of_by : ∀ (d : Nat) (v : JV), mayD d v = true → posD d v = true → byV v ≤ 1000000 → ndV v ≤ 1000000 → wfV v = true := by
 intro d
 induction d with
 | zero =>
  intro v h hp hb hn
  obtain ⟨_, _, hl, ho, _, _, _⟩ := fineV_parts (mayD_fine h)
  simp only [mayD, Bool.and_eq_true, decide_eq_true_eq] at h
  simp only [posD, decide_eq_true_eq] at hp
  have hf2 : v.f2 = [] := by rcases hl with h | h; exact h; omega
  have hf3 : v.f3 = [] := by rcases ho with h | h; exact h; omega
  rw [byV_mk] at hb
  exact wfV_iff.2 ⟨hp, by omega, by rw [hf2]; simp, by rw [hf3]; simp, (by rw [hf2]; intro x hx; cases hx), (by rw [hf3]; intro x hx; cases hx)⟩
 | succ d ih =>
  intro v h hp hb hn
  simp only [mayD, Bool.and_eq_true, List.all_eq_true] at h
  simp only [posD, Bool.and_eq_true, List.all_eq_true, decide_eq_true_eq] at hp
  rw [byV_mk] at hb
  rw [ndV_mk] at hn
  have a := ndL_len v.f2
  have b := ndF_len v.f3
  exact wfV_iff.2 ⟨hp.1.1, by omega, by omega, by omega, fun x hx => ih x (h.1.2 x hx) (hp.1.2 x hx) (by have := byL_mem hx; omega) (by have := ndL_mem hx; omega), fun y hy => ⟨by have := byF_mem hy; omega, ih y.f1 (h.2 y hy) (hp.2 y hy) (by have := byF_mem hy; omega) (by have := ndF_mem hy; omega)⟩⟩
theorem wf_of_wr {d : Nat} {v : JV} (h : mayD d v = true) (hp : posD d v = true) (hl : (wrD d v).length ≤ 1000000) : wfV v = true ∧ byV v ≤ (wrD d v).length ∧ ndV v ≤ (wrD d v).length := by
 obtain ⟨a, b⟩ := wr_ge d v h
 exact ⟨wf_of_by d v h hp (by omega) (by omega), a, b⟩
/-- A value in a box of its own, that is read where it lies. -/
def Bk (w : World) (N : Nat) (v : JV) (A2 A3 : Option Addr) (c2 c3 : Nat) (W : World) : Prop := W.heap[N]? = some (.cells #[.int .u8 v.f0, .string v.f1, .slice A2 v.f2.length c2, .slice A3 v.f3.length c3] 25 (0, 0)) ∧ Rd v A2 A3 W ∧ Below w.heap.size w W
theorem Bk.below {w : World} {N : Nat} {v : JV} {A2 A3 : Option Addr} {c2 c3 : Nat} {W W' : World} (h : Bk w N v A2 A3 c2 c3 W) (hb : Below W.heap.size W W') : Bk w N v A2 A3 c2 c3 W' := ⟨blk_below h.1 hb, h.2.1.below hb, below_step h.2.2 hb⟩
theorem Bk.drew {w : World} {N : Nat} {v : JV} {A2 A3 : Option Addr} {c2 c3 : Nat} {W : World} (h : Bk w N v A2 A3 c2 c3 W) : Bk w N v A2 A3 c2 c3 W.drew := ⟨h.1, ⟨Kd.C_drew h.2.1.1, Kd.C_drew h.2.1.2⟩, below_drew1 h.2.2⟩
theorem Bk.alloc {w : World} {N : Nat} {v : JV} {A2 A3 : Option Addr} {c2 c3 : Nat} {W : World} (h : Bk w N v A2 A3 c2 c3 W) (o : Obj) : Bk w N v A2 A3 c2 c3 (W.alloc o) := ⟨blk_alloc h.1 o, h.2.1.alloc o, below_alloc h.2.2 o⟩
theorem Bk.cells {w : World} {N : Nat} {v : JV} {A2 A3 : Option Addr} {c2 c3 : Nat} {W : World} (h : Bk w N v A2 A3 c2 c3 W) : W.cell? ⟨N, 0, none⟩ = some (.int .u8 v.f0) ∧ W.cell? ⟨N, 1, none⟩ = some (.string v.f1) ∧ W.cell? ⟨N, 2, none⟩ = some (.slice A2 v.f2.length c2) ∧ W.cell? ⟨N, 3, none⟩ = some (.slice A3 v.f3.length c3) := ⟨blk_cell h.1 0, blk_cell h.1 1, blk_cell h.1 2, blk_cell h.1 3⟩
theorem Bk.new {w W : World} {v : JV} {A2 A3 : Option Addr} {c2 c3 : Nat} (hR : Rd v A2 A3 W) (hb : Below w.heap.size w W) : Bk w W.heap.size v A2 A3 c2 c3 (W.alloc (.cells #[.int .u8 v.f0, .string v.f1, .slice A2 v.f2.length c2, .slice A3 v.f3.length c3] 25 (0, 0))) := ⟨blk_new W _, hR.alloc _, below_alloc hb _⟩
theorem parse_c (Q : ByteArray) (v : JV) (a : Nat) (c : Int) (hp : parsed Q = (v, a, c)) (w : World) (hG : GlobOk w) : Calls Tryz.prog 10 #[.string Q] w fun e w' => ∃ (A2 A3 : Option Addr) (c2 c3 : Nat), e = .returned (.tuple #[.agg #[.int .u8 v.f0, .string v.f1, .slice A2 v.f2.length c2, .slice A3 v.f3.length c3], .int .i64 a, .int .i64 c]) ∧ v.f2.length ≤ c2 ∧ v.f3.length ≤ c3 ∧ Rd v A2 A3 w' ∧ Below w.heap.size w w' := by
 refine (jp_at Q v a c hp w hG).mono ?_
 rintro e w' ⟨A2, c2, A3, c3, rfl, h2, h3, hb⟩
 have r2 := Kd.V_reads' (Kd.R_V (base' := 0) h2)
 have r3 := Kd.V_reads' (Kd.R_V (base' := 0) h3)
 exact ⟨A2, A3, c2, c3, rfl, r2.2.1, r3.2.1, ⟨r2.2.2, r3.2.2⟩, hb⟩
theorem print_d (v : JV) (hw : wfV v = true) (hb : byV v ≤ 1048576) (hn : ndV v ≤ 1000000) (A2 A3 : Option Addr) (c2 c3 : Nat) (W : World) (hG : GlobOk W) (hR : Rd v A2 A3 W) :
  Calls Tryz.prog 9 #[(.agg #[.int .u8 v.f0, .string v.f1, .slice A2 v.f2.length c2, .slice A3 v.f3.length c3])] W fun e w' => e = .returned (.tuple #[.string (printedV v).1, .int .i64 (printedV v).2]) ∧ Below W.heap.size W w' :=
 jsontext_Print.calls v A2 A3 c2 c3 W hG (.of_wf _ v hw hb) (by have := wr_len 64 v; omega) hR.1 hR.2
theorem may_d (v : JV) (hw : wfV v = true) (hb : byV v ≤ 1048576) (A2 A3 : Option Addr) (c2 c3 : Nat) (W : World) (hG : GlobOk W) (hR : Rd v A2 A3 W) :
  Calls Tryz.prog 12 #[(.agg #[.int .u8 v.f0, .string v.f1, .slice A2 v.f2.length c2, .slice A3 v.f3.length c3])] W fun e w' => e = .returned (.bool (mayD 64 v)) ∧ Below W.heap.size W w' :=
 jsontext_May.calls v A2 A3 c2 c3 W hG (.of_wf _ v hw (by omega)) hR.1 hR.2
theorem printed_bad {v : JV} (h : (printedV v).2 ≠ 0) : (printedV v).1 = ⟨#[]⟩ ∧ (((printedV v).2 = 3 ∧ mayD 64 v = true) ∨ ((printedV v).2 = 40 ∧ mayD 64 v = false)) := by
 unfold printedV at h ⊢
 by_cases a : mayD 64 v = true
 ·rw [if_pos a] at h ⊢
  by_cases b : 262144 < (wrD 64 v).length
  ·rw [if_pos b]; exact ⟨rfl, .inl ⟨rfl, a⟩⟩
  ·rw [if_neg b] at h; exact absurd rfl h
 ·rw [if_neg a]; exact ⟨rfl, .inr ⟨rfl, Bool.eq_false_iff.2 a⟩⟩
theorem printed_ok {v : JV} (hp : posD 64 v = true) (h : (printedV v).2 = 0) : parsed (printedV v).1 = (v, 0, 0) := by
 unfold printedV at h ⊢
 by_cases a : mayD 64 v = true
 ·rw [if_pos a] at h ⊢
  by_cases b : 262144 < (wrD 64 v).length
  ·rw [if_pos b] at h; cases h
  ·rw [if_neg b]; exact parsed_wr a hp (by omega)
 ·rw [if_neg a] at h; cases h
theorem printed_x {s : ByteArray} {x : JV} {a : Nat} (hs : s.size ≤ 20000) (h : parsed s = (x, a, 0)) : (printedV x).2 = 0 ∧ mayD 64 x = true ∧ posD 64 x = true ∧ wfV x = true ∧ byV x ≤ 1000000 ∧ ndV x ≤ 1000000 := by
 obtain ⟨h1, h2, h3, h4⟩ := parsed_may h
 obtain ⟨k1, k2, k3⟩ := wf_of_wr h2 h3 (by omega)
 refine ⟨?_, h2, h3, k1, by omega, by omega⟩
 unfold printedV
 rw [if_pos h2, if_neg (by omega)]
theorem parsed_at0 {s : ByteArray} {x : JV} {a : Nat} (h : parsed s = (x, a, 0)) : a = 0 := by
 unfold parsed at h
 by_cases hs : 262144 < s.size
 ·rw [if_pos hs] at h; injection h with _ h; injection h with h _; exact h.symm
 ·rw [if_neg hs] at h
  rcases parse_sn s with ⟨w, hw⟩ | ⟨k, c, hw, _, hc⟩
  ·rw [hw] at h; injection h with _ h; injection h with h _; exact h.symm
  ·rw [hw] at h; injection h with _ h; injection h with _ h; subst h; rcases hc with hc | hc <;> cases hc
set_option maxRecDepth 100000 in
set_option maxHeartbeats 8000000 in
theorem back_great (v : JV) (s : ByteArray) (hv : wfV v = true) (hg : gB v = true) (A2 A3 : Option Addr) (a2 a3 : Nat) (hc2 : v.f2.length ≤ a2) (hc3 : v.f3.length ≤ a3) (w : World) (hG : GlobOk w) (hRv : Rd v A2 A3 w) :
  Calls Tryz.prog 3 #[(.agg #[.int .u8 v.f0, .string v.f1, .slice A2 v.f2.length a2, .slice A3 v.f3.length a3]), .string s] w fun e w' => e = .returned (.bool true) ∧ Below w.heap.size w w' := by
 obtain ⟨N1, hN1⟩ : ∃ N, N = w.heap.size := ⟨_, rfl⟩
 obtain ⟨W2, hW2⟩ : ∃ W2, W2 = w.alloc (.cells #[.int .u8 v.f0, .string v.f1, .slice A2 v.f2.length a2, .slice A3 v.f3.length a3] 25 (0, 0)) := ⟨_, rfl⟩
 have H2 := Aside0.mk (show Bk w N1 v A2 A3 a2 a3 W2 by rw [hW2, hN1]; exact .new hRv (Below.refl _ _))
 have HC2 := Aside0.mk hc2; have HC3 := Aside0.mk hc3; have HG := Aside0.mk hG; have HV := Aside0.mk hv; clear hG hRv hv hc2 hc3; have HGV := Aside0.mk hg; clear hg; go_enter Tryz.func3, Tryz.ntmps3
 go_upto_region 1 with (fail)
 try rw [← hW2]
 try rw [← hN1]
 clear hW2 hN1; go_upto_region 3 with (go_at_call 7; refine (glossatorlaw04_awake.calls _ (HG.out.below H2.out.2.2)).mono ?_; rintro e w3 ⟨rfl, hb⟩; have H3 := Aside0.mk (H2.out.below hb); clear hb)
 obtain ⟨y0, y1, y2, y3⟩ := H3.out.cells
 go_wp2_with (go_at_call 8; refine (great.calls v HV.out A2 A3 a2 a3 _ H3.out.2.1).mono ?_; rintro e w4 ⟨rfl, hb⟩; rw [HGV.out]; have H4 := Aside0.mk (H3.out.below hb); clear hb y0 y1 y2 y3; obtain ⟨y0, y1, y2, y3⟩ := H4.out.cells)
 go_ret
 exact ⟨rfl, H4.out.2.2⟩
set_option maxRecDepth 100000 in
set_option maxHeartbeats 8000000 in
theorem back_long (v : JV) (s : ByteArray) (hv : wfV v = true) (hg : gB v = false) (hs : 20000 < s.size) (A2 A3 : Option Addr) (a2 a3 : Nat) (hc2 : v.f2.length ≤ a2) (hc3 : v.f3.length ≤ a3) (w : World) (hG : GlobOk w) (hRv : Rd v A2 A3 w) :
  Calls Tryz.prog 3 #[(.agg #[.int .u8 v.f0, .string v.f1, .slice A2 v.f2.length a2, .slice A3 v.f3.length a3]), .string s] w fun e w' => e = .returned (.bool true) ∧ Below w.heap.size w w' := by
 obtain ⟨N1, hN1⟩ : ∃ N, N = w.heap.size := ⟨_, rfl⟩
 obtain ⟨W2, hW2⟩ : ∃ W2, W2 = w.alloc (.cells #[.int .u8 v.f0, .string v.f1, .slice A2 v.f2.length a2, .slice A3 v.f3.length a3] 25 (0, 0)) := ⟨_, rfl⟩
 have H2 := Aside0.mk (show Bk w N1 v A2 A3 a2 a3 W2 by rw [hW2, hN1]; exact .new hRv (Below.refl _ _))
 have HC2 := Aside0.mk hc2; have HC3 := Aside0.mk hc3; have HG := Aside0.mk hG; have HV := Aside0.mk hv; clear hG hRv hv hc2 hc3; have HGV := Aside0.mk hg; have t20 : decide ((20000 : Int) < (s.size : Int)) = true := decide_eq_true (by omega)
 clear hg hs; go_enter Tryz.func3, Tryz.ntmps3
 go_upto_region 1 with (fail)
 try rw [← hW2]
 try rw [← hN1]
 clear hW2 hN1; go_upto_region 3 with (go_at_call 7; refine (glossatorlaw04_awake.calls _ (HG.out.below H2.out.2.2)).mono ?_; rintro e w3 ⟨rfl, hb⟩; have H3 := Aside0.mk (H2.out.below hb); clear hb)
 obtain ⟨y0, y1, y2, y3⟩ := H3.out.cells
 go_wp2_with (go_at_call 8; refine (great.calls v HV.out A2 A3 a2 a3 _ H3.out.2.1).mono ?_; rintro e w4 ⟨rfl, hb⟩; rw [HGV.out]; have H4 := Aside0.mk (H3.out.below hb); clear hb y0 y1 y2 y3; obtain ⟨y0, y1, y2, y3⟩ := H4.out.cells)
 go_ret
 exact ⟨rfl, H4.out.2.2⟩
set_option maxRecDepth 100000 in
set_option maxHeartbeats 8000000 in
theorem back_ob (v : JV) (s : ByteArray) (hv : wfV v = true) (hg : gB v = false) (hs : s.size ≤ 20000) (h1 : (printedV v).2 = 0) (h2 : (parsed s).2.2 ≠ 0) (A2 A3 : Option Addr) (a2 a3 : Nat) (hc2 : v.f2.length ≤ a2) (hc3 : v.f3.length ≤ a3) (w : World) (hG : GlobOk w) (hRv : Rd v A2 A3 w) :
  Calls Tryz.prog 3 #[(.agg #[.int .u8 v.f0, .string v.f1, .slice A2 v.f2.length a2, .slice A3 v.f3.length a3]), .string s] w fun e w' => e = .returned (.bool true) ∧ Below w.heap.size w w' := by
 obtain ⟨N1, hN1⟩ : ∃ N, N = w.heap.size := ⟨_, rfl⟩
 obtain ⟨W2, hW2⟩ : ∃ W2, W2 = w.alloc (.cells #[.int .u8 v.f0, .string v.f1, .slice A2 v.f2.length a2, .slice A3 v.f3.length a3] 25 (0, 0)) := ⟨_, rfl⟩
 have H2 := Aside0.mk (show Bk w N1 v A2 A3 a2 a3 W2 by rw [hW2, hN1]; exact .new hRv (Below.refl _ _))
 have HC2 := Aside0.mk hc2; have HC3 := Aside0.mk hc3; have HG := Aside0.mk hG; have HV := Aside0.mk hv; clear hG hRv hv hc2 hc3; have HGV := Aside0.mk hg; have hgn := gB_no hg
 have t20 : decide ((20000 : Int) < (s.size : Int)) = false := decide_eq_false (by omega)
 have HPV := Aside0.mk (fun W hG hR => print_d v HV.out (by omega) (by omega) A2 A3 a2 a3 W hG hR)
 have HNV := Aside0.mk (show ndV v ≤ 1000000 by omega)
 have HMV := Aside0.mk (fun W hG hR => may_d v HV.out (by omega) A2 A3 a2 a3 W hG hR)
 obtain ⟨P, hP⟩ : ∃ P, P = (printedV v).1 := ⟨_, rfl⟩
 obtain ⟨e1, he1⟩ : ∃ P, P = (printedV v).2 := ⟨_, rfl⟩
 rw [← hP, ← he1] at HPV
 rw [← he1] at h1
 obtain ⟨x, ax, ex, hx⟩ : ∃ x ax ex, parsed s = (x, ax, ex) := ⟨_, _, _, rfl⟩
 have HPS := Aside0.mk hx; rw [show (parsed s).2.2 = ex by rw [hx]] at h2
 have tg1 : (ex != 0) = true := by simpa [bne] using h2
 have tg2 : (ex == 0) = false := by simpa using h2
 clear hx h2; subst h1; have HPP := Aside0.mk (show parsed P = (v, 0, 0) by rw [hP]; exact printed_ok (pos_wf _ _ HV.out) he1.symm)
 have HSV := Aside0.mk (fun (W : World) (B2 B3 : Option Addr) (b2 b3 : Nat) (k2 : v.f2.length ≤ b2) (k3 : v.f3.length ≤ b3) (hA : Rd v A2 A3 W) (hB : Rd v B2 B3 W) => same_c v v HNV.out A2 A3 B2 B3 a2 a3 b2 b3 HC2.out HC3.out k2 k3 W hA hB)
 rw [(eqV_iff v v).2 rfl] at HSV
 clear hg hP he1 hgn hs; go_enter Tryz.func3, Tryz.ntmps3
 go_upto_region 1 with (fail)
 try rw [← hW2]
 try rw [← hN1]
 clear hW2 hN1; go_upto_region 3 with (go_at_call 7; refine (glossatorlaw04_awake.calls _ (HG.out.below H2.out.2.2)).mono ?_; rintro e w3 ⟨rfl, hb⟩; have H3 := Aside0.mk (H2.out.below hb); clear hb)
 obtain ⟨y0, y1, y2, y3⟩ := H3.out.cells
 go_upto_region 5 with ((go_at_call 8; refine (great.calls v HV.out A2 A3 a2 a3 _ H3.out.2.1).mono ?_; rintro e w4 ⟨rfl, hb⟩; rw [HGV.out]; have H4 := Aside0.mk (H3.out.below hb); clear hb y0 y1 y2 y3; obtain ⟨y0, y1, y2, y3⟩ := H4.out.cells))
 go_upto_region 6 with ((go_at_call 9; refine (HPV.out _ (HG.out.below H4.out.2.2) H4.out.2.1).mono ?_; rintro e w5 ⟨rfl, hb⟩; have H5 := Aside0.mk (H4.out.below hb); clear hb y0 y1 y2 y3))
 go_upto_region 8 with ((go_at_call 10; refine (parse_c P v 0 0 HPP.out _ (HG.out.below H5.out.2.2)).mono ?_; rintro e w6 ⟨D2, D3, d2, d3, rfl, hk2, hk3, hr, hb⟩; have HK62 := Aside0.mk hk2; have HK63 := Aside0.mk hk3; have HN6 := Aside0.mk (Bk.new (w := w) (c2 := d2) (c3 := d3) hr (below_step H5.out.2.2 hb)); have H6 := Aside0.mk ((H5.out.below hb).alloc (.cells #[.int .u8 v.f0, .string v.f1, .slice D2 v.f2.length d2, .slice D3 v.f3.length d3] 25 (0, 0))); obtain ⟨W7, hW6⟩ : ∃ W9, W9 = w6.alloc (.cells #[.int .u8 v.f0, .string v.f1, .slice D2 v.f2.length d2, .slice D3 v.f3.length d3] 25 (0, 0)) := ⟨_, rfl⟩; obtain ⟨M6, hM6⟩ : ∃ M, M = w6.heap.size := ⟨_, rfl⟩; rw [← hW6, ← hM6] at HN6; rw [← hW6] at H6; have HWM6 := Aside0.mk (show W7 = w6.alloc (.cells #[.int .u8 v.f0, .string v.f1, .slice D2 v.f2.length d2, .slice D3 v.f3.length d3] 25 (0, 0)) ∧ M6 = w6.heap.size from ⟨hW6, hM6⟩); clear hr hb hk2 hk3 hW6 hM6))
 rw [← HWM6.out.1, ← HWM6.out.2]
 clear HWM6; obtain ⟨y0, y1, y2, y3⟩ := H6.out.cells
 obtain ⟨x0, x1, x2, x3⟩ := HN6.out.cells
 go_upto_region 12 with ((go_at_call 11; refine (HSV.out _ D2 D3 d2 d3 HK62.out HK63.out H6.out.2.1 HN6.out.2.1).mono ?_; rintro e w7 ⟨rfl, hb⟩; have H7 := Aside0.mk (H6.out.below hb); clear hb y0 y1 y2 y3 x0 x1 x2 x3))
 go_upto_region 13 with ((go_at_call 10; refine (parse_c s x ax ex HPS.out _ (HG.out.below H7.out.2.2)).mono ?_; rintro e w8 ⟨B2, B3, b2, b3, rfl, hk2, hk3, hr, hb⟩; have HK82 := Aside0.mk hk2; have HK83 := Aside0.mk hk3; have HN8 := Aside0.mk (Bk.new (w := w) (c2 := b2) (c3 := b3) hr (below_step H7.out.2.2 hb)); obtain ⟨W9, hW8⟩ : ∃ W9, W9 = w8.alloc (.cells #[.int .u8 x.f0, .string x.f1, .slice B2 x.f2.length b2, .slice B3 x.f3.length b3] 25 (0, 0)) := ⟨_, rfl⟩; obtain ⟨M8, hM8⟩ : ∃ M, M = w8.heap.size := ⟨_, rfl⟩; rw [← hW8, ← hM8] at HN8; have HWM8 := Aside0.mk (show W9 = w8.alloc (.cells #[.int .u8 x.f0, .string x.f1, .slice B2 x.f2.length b2, .slice B3 x.f3.length b3] 25 (0, 0)) ∧ M8 = w8.heap.size from ⟨hW8, hM8⟩); clear hr hb hk2 hk3 hW8 hM8))
 rw [← HWM8.out.1, ← HWM8.out.2]
 clear HWM8; go_wp2
 go_ret
 exact ⟨rfl, HN8.out.2.2⟩
set_option maxRecDepth 100000 in
set_option maxHeartbeats 8000000 in
theorem back_ox (v : JV) (s : ByteArray) (hv : wfV v = true) (hg : gB v = false) (hs : s.size ≤ 20000) (h1 : (printedV v).2 = 0) (h2 : (parsed s).2.2 = 0) (A2 A3 : Option Addr) (a2 a3 : Nat) (hc2 : v.f2.length ≤ a2) (hc3 : v.f3.length ≤ a3) (w : World) (hG : GlobOk w) (hRv : Rd v A2 A3 w) :
  Calls Tryz.prog 3 #[(.agg #[.int .u8 v.f0, .string v.f1, .slice A2 v.f2.length a2, .slice A3 v.f3.length a3]), .string s] w fun e w' => e = .returned (.bool true) ∧ Below w.heap.size w w' := by
 obtain ⟨N1, hN1⟩ : ∃ N, N = w.heap.size := ⟨_, rfl⟩
 obtain ⟨W2, hW2⟩ : ∃ W2, W2 = w.alloc (.cells #[.int .u8 v.f0, .string v.f1, .slice A2 v.f2.length a2, .slice A3 v.f3.length a3] 25 (0, 0)) := ⟨_, rfl⟩
 have H2 := Aside0.mk (show Bk w N1 v A2 A3 a2 a3 W2 by rw [hW2, hN1]; exact .new hRv (Below.refl _ _))
 have HC2 := Aside0.mk hc2; have HC3 := Aside0.mk hc3; have HG := Aside0.mk hG; have HV := Aside0.mk hv; clear hG hRv hv hc2 hc3; have HGV := Aside0.mk hg; have hgn := gB_no hg
 have t20 : decide ((20000 : Int) < (s.size : Int)) = false := decide_eq_false (by omega)
 have HPV := Aside0.mk (fun W hG hR => print_d v HV.out (by omega) (by omega) A2 A3 a2 a3 W hG hR)
 have HNV := Aside0.mk (show ndV v ≤ 1000000 by omega)
 have HMV := Aside0.mk (fun W hG hR => may_d v HV.out (by omega) A2 A3 a2 a3 W hG hR)
 obtain ⟨P, hP⟩ : ∃ P, P = (printedV v).1 := ⟨_, rfl⟩
 obtain ⟨e1, he1⟩ : ∃ P, P = (printedV v).2 := ⟨_, rfl⟩
 rw [← hP, ← he1] at HPV
 rw [← he1] at h1
 obtain ⟨x, ax, ex, hx⟩ : ∃ x ax ex, parsed s = (x, ax, ex) := ⟨_, _, _, rfl⟩
 rw [show (parsed s).2.2 = ex by rw [hx]] at h2
 subst h2; obtain rfl := parsed_at0 hx
 have HPS := Aside0.mk hx; obtain ⟨hx1, hx2, hx3, hx4, hx5, hx6⟩ := printed_x hs hx
 have HPX := Aside0.mk (fun A2 A3 c2 c3 W hG hR => print_d x hx4 (by omega) hx6 A2 A3 c2 c3 W hG hR)
 have HMX := Aside0.mk (fun A2 A3 c2 c3 W hG hR => may_d x hx4 (by omega) A2 A3 c2 c3 W hG hR)
 rw [hx2] at HMX
 obtain ⟨T, hT⟩ : ∃ P, P = (printedV x).1 := ⟨_, rfl⟩
 rw [hx1, ← hT] at HPX
 have HPT := Aside0.mk (show parsed T = (x, 0, 0) by rw [hT]; exact printed_ok hx3 hx1)
 have HSX := Aside0.mk (fun (A2 A3 B2 B3 : Option Addr) (c2 c3 d2 d3 : Nat) (h2 : x.f2.length ≤ c2) (h3 : x.f3.length ≤ c3) (k2 : x.f2.length ≤ d2) (k3 : x.f3.length ≤ d3) (W : World) (hA : Rd x A2 A3 W) (hB : Rd x B2 B3 W) => same_c x x hx6 A2 A3 B2 B3 c2 c3 d2 d3 h2 h3 k2 k3 W hA hB)
 rw [(eqV_iff x x).2 rfl] at HSX
 have tTT : (T.toList == T.toList) = true := beq_self_eq_true _
 clear hx hx1 hx2 hx3 hx4 hx5 hx6 hT; subst h1; have HPP := Aside0.mk (show parsed P = (v, 0, 0) by rw [hP]; exact printed_ok (pos_wf _ _ HV.out) he1.symm)
 have HSV := Aside0.mk (fun (W : World) (B2 B3 : Option Addr) (b2 b3 : Nat) (k2 : v.f2.length ≤ b2) (k3 : v.f3.length ≤ b3) (hA : Rd v A2 A3 W) (hB : Rd v B2 B3 W) => same_c v v HNV.out A2 A3 B2 B3 a2 a3 b2 b3 HC2.out HC3.out k2 k3 W hA hB)
 rw [(eqV_iff v v).2 rfl] at HSV
 clear hg hP he1 hgn hs; go_enter Tryz.func3, Tryz.ntmps3
 go_upto_region 1 with (fail)
 try rw [← hW2]
 try rw [← hN1]
 clear hW2 hN1; go_upto_region 3 with (go_at_call 7; refine (glossatorlaw04_awake.calls _ (HG.out.below H2.out.2.2)).mono ?_; rintro e w3 ⟨rfl, hb⟩; have H3 := Aside0.mk (H2.out.below hb); clear hb)
 obtain ⟨y0, y1, y2, y3⟩ := H3.out.cells
 go_upto_region 5 with ((go_at_call 8; refine (great.calls v HV.out A2 A3 a2 a3 _ H3.out.2.1).mono ?_; rintro e w4 ⟨rfl, hb⟩; rw [HGV.out]; have H4 := Aside0.mk (H3.out.below hb); clear hb y0 y1 y2 y3; obtain ⟨y0, y1, y2, y3⟩ := H4.out.cells))
 go_upto_region 6 with ((go_at_call 9; refine (HPV.out _ (HG.out.below H4.out.2.2) H4.out.2.1).mono ?_; rintro e w5 ⟨rfl, hb⟩; have H5 := Aside0.mk (H4.out.below hb); clear hb y0 y1 y2 y3))
 go_upto_region 8 with ((go_at_call 10; refine (parse_c P v 0 0 HPP.out _ (HG.out.below H5.out.2.2)).mono ?_; rintro e w6 ⟨D2, D3, d2, d3, rfl, hk2, hk3, hr, hb⟩; have HK62 := Aside0.mk hk2; have HK63 := Aside0.mk hk3; have HN6 := Aside0.mk (Bk.new (w := w) (c2 := d2) (c3 := d3) hr (below_step H5.out.2.2 hb)); have H6 := Aside0.mk ((H5.out.below hb).alloc (.cells #[.int .u8 v.f0, .string v.f1, .slice D2 v.f2.length d2, .slice D3 v.f3.length d3] 25 (0, 0))); obtain ⟨W7, hW6⟩ : ∃ W9, W9 = w6.alloc (.cells #[.int .u8 v.f0, .string v.f1, .slice D2 v.f2.length d2, .slice D3 v.f3.length d3] 25 (0, 0)) := ⟨_, rfl⟩; obtain ⟨M6, hM6⟩ : ∃ M, M = w6.heap.size := ⟨_, rfl⟩; rw [← hW6, ← hM6] at HN6; rw [← hW6] at H6; have HWM6 := Aside0.mk (show W7 = w6.alloc (.cells #[.int .u8 v.f0, .string v.f1, .slice D2 v.f2.length d2, .slice D3 v.f3.length d3] 25 (0, 0)) ∧ M6 = w6.heap.size from ⟨hW6, hM6⟩); clear hr hb hk2 hk3 hW6 hM6))
 rw [← HWM6.out.1, ← HWM6.out.2]
 clear HWM6; obtain ⟨y0, y1, y2, y3⟩ := H6.out.cells
 obtain ⟨x0, x1, x2, x3⟩ := HN6.out.cells
 go_upto_region 12 with ((go_at_call 11; refine (HSV.out _ D2 D3 d2 d3 HK62.out HK63.out H6.out.2.1 HN6.out.2.1).mono ?_; rintro e w7 ⟨rfl, hb⟩; have H7 := Aside0.mk (H6.out.below hb); clear hb y0 y1 y2 y3 x0 x1 x2 x3))
 go_upto_region 13 with ((go_at_call 10; refine (parse_c s x 0 0 HPS.out _ (HG.out.below H7.out.2.2)).mono ?_; rintro e w8 ⟨B2, B3, b2, b3, rfl, hk2, hk3, hr, hb⟩; have HK82 := Aside0.mk hk2; have HK83 := Aside0.mk hk3; have HN8 := Aside0.mk (Bk.new (w := w) (c2 := b2) (c3 := b3) hr (below_step H7.out.2.2 hb)); obtain ⟨W9, hW8⟩ : ∃ W9, W9 = w8.alloc (.cells #[.int .u8 x.f0, .string x.f1, .slice B2 x.f2.length b2, .slice B3 x.f3.length b3] 25 (0, 0)) := ⟨_, rfl⟩; obtain ⟨M8, hM8⟩ : ∃ M, M = w8.heap.size := ⟨_, rfl⟩; rw [← hW8, ← hM8] at HN8; have HWM8 := Aside0.mk (show W9 = w8.alloc (.cells #[.int .u8 x.f0, .string x.f1, .slice B2 x.f2.length b2, .slice B3 x.f3.length b3] 25 (0, 0)) ∧ M8 = w8.heap.size from ⟨hW8, hM8⟩); clear hr hb hk2 hk3 hW8 hM8))
 rw [← HWM8.out.1, ← HWM8.out.2]
 clear HWM8; obtain ⟨z0, z1, z2, z3⟩ := HN8.out.cells
 go_upto_region 16 with ((go_at_call 9; refine (HPX.out B2 B3 b2 b3 _ (HG.out.below HN8.out.2.2) HN8.out.2.1).mono ?_; rintro e w10 ⟨rfl, hb⟩; have H10 := Aside0.mk (HN8.out.below hb); clear hb z0 z1 z2 z3; obtain ⟨z0, z1, z2, z3⟩ := H10.out.cells))
 go_upto_region 18 with ((go_at_call 12; refine (HMX.out B2 B3 b2 b3 _ (HG.out.below H10.out.2.2) H10.out.2.1).mono ?_; rintro e w11 ⟨rfl, hb⟩; have H11 := Aside0.mk (H10.out.below hb); clear hb z0 z1 z2 z3))
 go_upto_region 19 with ((go_at_call 10; refine (parse_c T x 0 0 HPT.out _ (HG.out.below H11.out.2.2)).mono ?_; rintro e w12 ⟨C2, C3, c2, c3, rfl, hk2, hk3, hr, hb⟩; have HK122 := Aside0.mk hk2; have HK123 := Aside0.mk hk3; have HN12 := Aside0.mk (Bk.new (w := w) (c2 := c2) (c3 := c3) hr (below_step H11.out.2.2 hb)); have H12 := Aside0.mk ((H11.out.below hb).alloc (.cells #[.int .u8 x.f0, .string x.f1, .slice C2 x.f2.length c2, .slice C3 x.f3.length c3] 25 (0, 0))); obtain ⟨W13, hW12⟩ : ∃ W9, W9 = w12.alloc (.cells #[.int .u8 x.f0, .string x.f1, .slice C2 x.f2.length c2, .slice C3 x.f3.length c3] 25 (0, 0)) := ⟨_, rfl⟩; obtain ⟨M12, hM12⟩ : ∃ M, M = w12.heap.size := ⟨_, rfl⟩; rw [← hW12, ← hM12] at HN12; rw [← hW12] at H12; have HWM12 := Aside0.mk (show W13 = w12.alloc (.cells #[.int .u8 x.f0, .string x.f1, .slice C2 x.f2.length c2, .slice C3 x.f3.length c3] 25 (0, 0)) ∧ M12 = w12.heap.size from ⟨hW12, hM12⟩); clear hr hb hk2 hk3 hW12 hM12))
 rw [← HWM12.out.1, ← HWM12.out.2]
 clear HWM12; obtain ⟨z0, z1, z2, z3⟩ := HN12.out.cells
 go_upto_region 20 with ((go_at_call 9; refine (HPX.out C2 C3 c2 c3 _ (HG.out.below HN12.out.2.2) HN12.out.2.1).mono ?_; rintro e w14 ⟨rfl, hb⟩; have H14 := Aside0.mk (HN12.out.below hb); have K14 := Aside0.mk (H12.out.below hb); clear hb z0 z1 z2 z3; obtain ⟨z0, z1, z2, z3⟩ := H14.out.cells; obtain ⟨x0, x1, x2, x3⟩ := K14.out.cells))
 go_wp2_with (go_at_call 11; refine (HSX.out B2 B3 C2 C3 b2 b3 c2 c3 HK82.out HK83.out HK122.out HK123.out _ K14.out.2.1 H14.out.2.1).mono ?_; rintro e w15 ⟨rfl, hb⟩; have H15 := Aside0.mk (H14.out.below hb); clear hb)
 go_ret
 exact ⟨rfl, H15.out.2.2⟩
set_option maxRecDepth 100000 in
set_option maxHeartbeats 8000000 in
theorem back_eb (v : JV) (s : ByteArray) (hv : wfV v = true) (hg : gB v = false) (hs : s.size ≤ 20000) (h1 : (printedV v).2 ≠ 0) (h2 : (parsed s).2.2 ≠ 0) (A2 A3 : Option Addr) (a2 a3 : Nat) (hc2 : v.f2.length ≤ a2) (hc3 : v.f3.length ≤ a3) (w : World) (hG : GlobOk w) (hRv : Rd v A2 A3 w) :
  Calls Tryz.prog 3 #[(.agg #[.int .u8 v.f0, .string v.f1, .slice A2 v.f2.length a2, .slice A3 v.f3.length a3]), .string s] w fun e w' => e = .returned (.bool true) ∧ Below w.heap.size w w' := by
 obtain ⟨N1, hN1⟩ : ∃ N, N = w.heap.size := ⟨_, rfl⟩
 obtain ⟨W2, hW2⟩ : ∃ W2, W2 = w.alloc (.cells #[.int .u8 v.f0, .string v.f1, .slice A2 v.f2.length a2, .slice A3 v.f3.length a3] 25 (0, 0)) := ⟨_, rfl⟩
 have H2 := Aside0.mk (show Bk w N1 v A2 A3 a2 a3 W2 by rw [hW2, hN1]; exact .new hRv (Below.refl _ _))
 have HC2 := Aside0.mk hc2; have HC3 := Aside0.mk hc3; have HG := Aside0.mk hG; have HV := Aside0.mk hv; clear hG hRv hv hc2 hc3; have HGV := Aside0.mk hg; have hgn := gB_no hg
 have t20 : decide ((20000 : Int) < (s.size : Int)) = false := decide_eq_false (by omega)
 have HPV := Aside0.mk (fun W hG hR => print_d v HV.out (by omega) (by omega) A2 A3 a2 a3 W hG hR)
 have HNV := Aside0.mk (show ndV v ≤ 1000000 by omega)
 have HMV := Aside0.mk (fun W hG hR => may_d v HV.out (by omega) A2 A3 a2 a3 W hG hR)
 obtain ⟨P, hP⟩ : ∃ P, P = (printedV v).1 := ⟨_, rfl⟩
 obtain ⟨e1, he1⟩ : ∃ P, P = (printedV v).2 := ⟨_, rfl⟩
 rw [← hP, ← he1] at HPV
 rw [← he1] at h1
 obtain ⟨x, ax, ex, hx⟩ : ∃ x ax ex, parsed s = (x, ax, ex) := ⟨_, _, _, rfl⟩
 have HPS := Aside0.mk hx; rw [show (parsed s).2.2 = ex by rw [hx]] at h2
 have tg1 : (ex != 0) = true := by simpa [bne] using h2
 have tg2 : (ex == 0) = false := by simpa using h2
 clear hx h2; obtain ⟨hpe, hpm⟩ := printed_bad (show (printedV v).2 ≠ 0 by rw [← he1]; exact h1)
 rw [← hP] at hpe
 rw [← he1] at hpm
 subst hpe; clear hg hP hgn hs; have HE1 := Aside0.mk he1; clear he1; rcases hpm with ⟨he, hm⟩ | ⟨he, hm⟩
 all_goals subst he
 all_goals rw [hm] at HMV
 all_goals clear hm h1 HE1
 all_goals
  go_enter Tryz.func3, Tryz.ntmps3
  go_upto_region 1 with (fail)
  try rw [← hW2]
  try rw [← hN1]
  clear hW2 hN1; go_upto_region 3 with (go_at_call 7; refine (glossatorlaw04_awake.calls _ (HG.out.below H2.out.2.2)).mono ?_; rintro e w3 ⟨rfl, hb⟩; have H3 := Aside0.mk (H2.out.below hb); clear hb)
  obtain ⟨y0, y1, y2, y3⟩ := H3.out.cells
  go_upto_region 5 with ((go_at_call 8; refine (great.calls v HV.out A2 A3 a2 a3 _ H3.out.2.1).mono ?_; rintro e w4 ⟨rfl, hb⟩; rw [HGV.out]; have H4 := Aside0.mk (H3.out.below hb); clear hb y0 y1 y2 y3; obtain ⟨y0, y1, y2, y3⟩ := H4.out.cells))
  go_upto_region 6 with ((go_at_call 9; refine (HPV.out _ (HG.out.below H4.out.2.2) H4.out.2.1).mono ?_; rintro e w5 ⟨rfl, hb⟩; have H5 := Aside0.mk (H4.out.below hb); clear hb y0 y1 y2 y3))
  obtain ⟨y0, y1, y2, y3⟩ := H5.out.cells
  go_upto_region 12 with ((go_at_call 12; refine (HMV.out _ (HG.out.below H5.out.2.2) H5.out.2.1).mono ?_; rintro e w7 ⟨rfl, hb⟩; have H7 := Aside0.mk (H5.out.below hb); clear hb y0 y1 y2 y3))
  go_upto_region 13 with ((go_at_call 10; refine (parse_c s x ax ex HPS.out _ (HG.out.below H7.out.2.2)).mono ?_; rintro e w8 ⟨B2, B3, b2, b3, rfl, hk2, hk3, hr, hb⟩; have HK82 := Aside0.mk hk2; have HK83 := Aside0.mk hk3; have HN8 := Aside0.mk (Bk.new (w := w) (c2 := b2) (c3 := b3) hr (below_step H7.out.2.2 hb)); obtain ⟨W9, hW8⟩ : ∃ W9, W9 = w8.alloc (.cells #[.int .u8 x.f0, .string x.f1, .slice B2 x.f2.length b2, .slice B3 x.f3.length b3] 25 (0, 0)) := ⟨_, rfl⟩; obtain ⟨M8, hM8⟩ : ∃ M, M = w8.heap.size := ⟨_, rfl⟩; rw [← hW8, ← hM8] at HN8; have HWM8 := Aside0.mk (show W9 = w8.alloc (.cells #[.int .u8 x.f0, .string x.f1, .slice B2 x.f2.length b2, .slice B3 x.f3.length b3] 25 (0, 0)) ∧ M8 = w8.heap.size from ⟨hW8, hM8⟩); clear hr hb hk2 hk3 hW8 hM8))
  rw [← HWM8.out.1, ← HWM8.out.2]
  clear HWM8; go_wp2
  go_ret
  exact ⟨rfl, HN8.out.2.2⟩
set_option maxRecDepth 100000 in
set_option maxHeartbeats 8000000 in
theorem back_ex (v : JV) (s : ByteArray) (hv : wfV v = true) (hg : gB v = false) (hs : s.size ≤ 20000) (h1 : (printedV v).2 ≠ 0) (h2 : (parsed s).2.2 = 0) (A2 A3 : Option Addr) (a2 a3 : Nat) (hc2 : v.f2.length ≤ a2) (hc3 : v.f3.length ≤ a3) (w : World) (hG : GlobOk w) (hRv : Rd v A2 A3 w) :
  Calls Tryz.prog 3 #[(.agg #[.int .u8 v.f0, .string v.f1, .slice A2 v.f2.length a2, .slice A3 v.f3.length a3]), .string s] w fun e w' => e = .returned (.bool true) ∧ Below w.heap.size w w' := by
 obtain ⟨N1, hN1⟩ : ∃ N, N = w.heap.size := ⟨_, rfl⟩
 obtain ⟨W2, hW2⟩ : ∃ W2, W2 = w.alloc (.cells #[.int .u8 v.f0, .string v.f1, .slice A2 v.f2.length a2, .slice A3 v.f3.length a3] 25 (0, 0)) := ⟨_, rfl⟩
 have H2 := Aside0.mk (show Bk w N1 v A2 A3 a2 a3 W2 by rw [hW2, hN1]; exact .new hRv (Below.refl _ _))
 have HC2 := Aside0.mk hc2; have HC3 := Aside0.mk hc3; have HG := Aside0.mk hG; have HV := Aside0.mk hv; clear hG hRv hv hc2 hc3; have HGV := Aside0.mk hg; have hgn := gB_no hg
 have t20 : decide ((20000 : Int) < (s.size : Int)) = false := decide_eq_false (by omega)
 have HPV := Aside0.mk (fun W hG hR => print_d v HV.out (by omega) (by omega) A2 A3 a2 a3 W hG hR)
 have HNV := Aside0.mk (show ndV v ≤ 1000000 by omega)
 have HMV := Aside0.mk (fun W hG hR => may_d v HV.out (by omega) A2 A3 a2 a3 W hG hR)
 obtain ⟨P, hP⟩ : ∃ P, P = (printedV v).1 := ⟨_, rfl⟩
 obtain ⟨e1, he1⟩ : ∃ P, P = (printedV v).2 := ⟨_, rfl⟩
 rw [← hP, ← he1] at HPV
 rw [← he1] at h1
 obtain ⟨x, ax, ex, hx⟩ : ∃ x ax ex, parsed s = (x, ax, ex) := ⟨_, _, _, rfl⟩
 rw [show (parsed s).2.2 = ex by rw [hx]] at h2
 subst h2; obtain rfl := parsed_at0 hx
 have HPS := Aside0.mk hx; obtain ⟨hx1, hx2, hx3, hx4, hx5, hx6⟩ := printed_x hs hx
 have HPX := Aside0.mk (fun A2 A3 c2 c3 W hG hR => print_d x hx4 (by omega) hx6 A2 A3 c2 c3 W hG hR)
 have HMX := Aside0.mk (fun A2 A3 c2 c3 W hG hR => may_d x hx4 (by omega) A2 A3 c2 c3 W hG hR)
 rw [hx2] at HMX
 obtain ⟨T, hT⟩ : ∃ P, P = (printedV x).1 := ⟨_, rfl⟩
 rw [hx1, ← hT] at HPX
 have HPT := Aside0.mk (show parsed T = (x, 0, 0) by rw [hT]; exact printed_ok hx3 hx1)
 have HSX := Aside0.mk (fun (A2 A3 B2 B3 : Option Addr) (c2 c3 d2 d3 : Nat) (h2 : x.f2.length ≤ c2) (h3 : x.f3.length ≤ c3) (k2 : x.f2.length ≤ d2) (k3 : x.f3.length ≤ d3) (W : World) (hA : Rd x A2 A3 W) (hB : Rd x B2 B3 W) => same_c x x hx6 A2 A3 B2 B3 c2 c3 d2 d3 h2 h3 k2 k3 W hA hB)
 rw [(eqV_iff x x).2 rfl] at HSX
 have tTT : (T.toList == T.toList) = true := beq_self_eq_true _
 clear hx hx1 hx2 hx3 hx4 hx5 hx6 hT; obtain ⟨hpe, hpm⟩ := printed_bad (show (printedV v).2 ≠ 0 by rw [← he1]; exact h1)
 rw [← hP] at hpe
 rw [← he1] at hpm
 subst hpe; clear hg hP hgn hs; have HE1 := Aside0.mk he1; clear he1; rcases hpm with ⟨he, hm⟩ | ⟨he, hm⟩
 all_goals subst he
 all_goals rw [hm] at HMV
 all_goals clear hm h1 HE1
 all_goals
  go_enter Tryz.func3, Tryz.ntmps3
  go_upto_region 1 with (fail)
  try rw [← hW2]
  try rw [← hN1]
  clear hW2 hN1; go_upto_region 3 with (go_at_call 7; refine (glossatorlaw04_awake.calls _ (HG.out.below H2.out.2.2)).mono ?_; rintro e w3 ⟨rfl, hb⟩; have H3 := Aside0.mk (H2.out.below hb); clear hb)
  obtain ⟨y0, y1, y2, y3⟩ := H3.out.cells
  go_upto_region 5 with ((go_at_call 8; refine (great.calls v HV.out A2 A3 a2 a3 _ H3.out.2.1).mono ?_; rintro e w4 ⟨rfl, hb⟩; rw [HGV.out]; have H4 := Aside0.mk (H3.out.below hb); clear hb y0 y1 y2 y3; obtain ⟨y0, y1, y2, y3⟩ := H4.out.cells))
  go_upto_region 6 with ((go_at_call 9; refine (HPV.out _ (HG.out.below H4.out.2.2) H4.out.2.1).mono ?_; rintro e w5 ⟨rfl, hb⟩; have H5 := Aside0.mk (H4.out.below hb); clear hb y0 y1 y2 y3))
  obtain ⟨y0, y1, y2, y3⟩ := H5.out.cells
  go_upto_region 12 with ((go_at_call 12; refine (HMV.out _ (HG.out.below H5.out.2.2) H5.out.2.1).mono ?_; rintro e w7 ⟨rfl, hb⟩; have H7 := Aside0.mk (H5.out.below hb); clear hb y0 y1 y2 y3))
  go_upto_region 13 with ((go_at_call 10; refine (parse_c s x 0 0 HPS.out _ (HG.out.below H7.out.2.2)).mono ?_; rintro e w8 ⟨B2, B3, b2, b3, rfl, hk2, hk3, hr, hb⟩; have HK82 := Aside0.mk hk2; have HK83 := Aside0.mk hk3; have HN8 := Aside0.mk (Bk.new (w := w) (c2 := b2) (c3 := b3) hr (below_step H7.out.2.2 hb)); obtain ⟨W9, hW8⟩ : ∃ W9, W9 = w8.alloc (.cells #[.int .u8 x.f0, .string x.f1, .slice B2 x.f2.length b2, .slice B3 x.f3.length b3] 25 (0, 0)) := ⟨_, rfl⟩; obtain ⟨M8, hM8⟩ : ∃ M, M = w8.heap.size := ⟨_, rfl⟩; rw [← hW8, ← hM8] at HN8; have HWM8 := Aside0.mk (show W9 = w8.alloc (.cells #[.int .u8 x.f0, .string x.f1, .slice B2 x.f2.length b2, .slice B3 x.f3.length b3] 25 (0, 0)) ∧ M8 = w8.heap.size from ⟨hW8, hM8⟩); clear hr hb hk2 hk3 hW8 hM8))
  rw [← HWM8.out.1, ← HWM8.out.2]
  clear HWM8; obtain ⟨z0, z1, z2, z3⟩ := HN8.out.cells
  go_upto_region 16 with ((go_at_call 9; refine (HPX.out B2 B3 b2 b3 _ (HG.out.below HN8.out.2.2) HN8.out.2.1).mono ?_; rintro e w10 ⟨rfl, hb⟩; have H10 := Aside0.mk (HN8.out.below hb); clear hb z0 z1 z2 z3; obtain ⟨z0, z1, z2, z3⟩ := H10.out.cells))
  go_upto_region 18 with ((go_at_call 12; refine (HMX.out B2 B3 b2 b3 _ (HG.out.below H10.out.2.2) H10.out.2.1).mono ?_; rintro e w11 ⟨rfl, hb⟩; have H11 := Aside0.mk (H10.out.below hb); clear hb z0 z1 z2 z3))
  go_upto_region 19 with ((go_at_call 10; refine (parse_c T x 0 0 HPT.out _ (HG.out.below H11.out.2.2)).mono ?_; rintro e w12 ⟨C2, C3, c2, c3, rfl, hk2, hk3, hr, hb⟩; have HK122 := Aside0.mk hk2; have HK123 := Aside0.mk hk3; have HN12 := Aside0.mk (Bk.new (w := w) (c2 := c2) (c3 := c3) hr (below_step H11.out.2.2 hb)); have H12 := Aside0.mk ((H11.out.below hb).alloc (.cells #[.int .u8 x.f0, .string x.f1, .slice C2 x.f2.length c2, .slice C3 x.f3.length c3] 25 (0, 0))); obtain ⟨W13, hW12⟩ : ∃ W9, W9 = w12.alloc (.cells #[.int .u8 x.f0, .string x.f1, .slice C2 x.f2.length c2, .slice C3 x.f3.length c3] 25 (0, 0)) := ⟨_, rfl⟩; obtain ⟨M12, hM12⟩ : ∃ M, M = w12.heap.size := ⟨_, rfl⟩; rw [← hW12, ← hM12] at HN12; rw [← hW12] at H12; have HWM12 := Aside0.mk (show W13 = w12.alloc (.cells #[.int .u8 x.f0, .string x.f1, .slice C2 x.f2.length c2, .slice C3 x.f3.length c3] 25 (0, 0)) ∧ M12 = w12.heap.size from ⟨hW12, hM12⟩); clear hr hb hk2 hk3 hW12 hM12))
  rw [← HWM12.out.1, ← HWM12.out.2]
  clear HWM12; obtain ⟨z0, z1, z2, z3⟩ := HN12.out.cells
  go_upto_region 20 with ((go_at_call 9; refine (HPX.out C2 C3 c2 c3 _ (HG.out.below HN12.out.2.2) HN12.out.2.1).mono ?_; rintro e w14 ⟨rfl, hb⟩; have H14 := Aside0.mk (HN12.out.below hb); have K14 := Aside0.mk (H12.out.below hb); clear hb z0 z1 z2 z3; obtain ⟨z0, z1, z2, z3⟩ := H14.out.cells; obtain ⟨x0, x1, x2, x3⟩ := K14.out.cells))
  go_wp2_with (go_at_call 11; refine (HSX.out B2 B3 C2 C3 b2 b3 c2 c3 HK82.out HK83.out HK122.out HK123.out _ K14.out.2.1 H14.out.2.1).mono ?_; rintro e w15 ⟨rfl, hb⟩; have H15 := Aside0.mk (H14.out.below hb); clear hb)
  go_ret
  exact ⟨rfl, H15.out.2.2⟩
def glossatorlaw04_JsontextBack.f (k : Nat) (a0 : Int) (a1 : ByteArray) (a2 : List JV) (a3 : List JF) (s : ByteArray) : Option Bool := if wfV ⟨a0, a1, a2, a3⟩ = true then some true else none
theorem glossatorlaw04_JsontextBack.mono : ∀ a0 a1 a2 a3 s k, LeO (glossatorlaw04_JsontextBack.f k a0 a1 a2 a3 s) (glossatorlaw04_JsontextBack.f (k + 1) a0 a1 a2 a3 s) := fun _ _ _ _ _ _ _ h => h
theorem back_all (v : JV) (s : ByteArray) (hv : wfV v = true) (A2 A3 : Option Addr) (a2 a3 : Nat) (hc2 : v.f2.length ≤ a2) (hc3 : v.f3.length ≤ a3) (w : World) (hG : GlobOk w) (hRv : Rd v A2 A3 w) :
  Calls Tryz.prog 3 #[.agg #[.int .u8 v.f0, .string v.f1, .slice A2 v.f2.length a2, .slice A3 v.f3.length a3], .string s] w fun e w' => e = .returned (.bool true) ∧ Below w.heap.size w w' := by
 by_cases hg : gB v = true
 ·exact back_great v s hv hg A2 A3 a2 a3 hc2 hc3 w hG hRv
 have hg := Bool.eq_false_iff.2 hg
 by_cases hs : 20000 < s.size
 ·exact back_long v s hv hg hs A2 A3 a2 a3 hc2 hc3 w hG hRv
 have hs : s.size ≤ 20000 := by omega
 by_cases h1 : (printedV v).2 = 0
 ·by_cases h2 : (parsed s).2.2 = 0
  ·exact back_ox v s hv hg hs h1 h2 A2 A3 a2 a3 hc2 hc3 w hG hRv
  ·exact back_ob v s hv hg hs h1 h2 A2 A3 a2 a3 hc2 hc3 w hG hRv
 ·by_cases h2 : (parsed s).2.2 = 0
  ·exact back_ex v s hv hg hs h1 h2 A2 A3 a2 a3 hc2 hc3 w hG hRv
  ·exact back_eb v s hv hg hs h1 h2 A2 A3 a2 a3 hc2 hc3 w hG hRv
theorem glossatorlaw04_JsontextBack.calls (k : Nat) (a0 : Int) (a1 : ByteArray) (A2 : Option Addr) (c2 : Nat) (l2 : List JV) (A3 : Option Addr) (c3 : Nat) (l3 : List JF) (s : ByteArray) (r : Bool) (w : World) (h2 : Kd.C k25 w A2 l2.length l2) (hc2 : l2.length ≤ c2) (h3 : Kd.C k45 w A3 l3.length l3) (hc3 : l3.length ≤ c3) (hG : GlobOk w) (h : glossatorlaw04_JsontextBack.f k a0 a1 l2 l3 s = some r) :
  Calls Tryz.prog 3 #[.agg #[.int .u8 a0, .string a1, .slice A2 l2.length c2, .slice A3 l3.length c3], .string s] w fun e w' => e = .returned (.bool r) ∧ Below w.heap.size w w' := by
 unfold glossatorlaw04_JsontextBack.f at h
 by_cases hw : wfV ⟨a0, a1, l2, l3⟩ = true
 ·rw [if_pos hw] at h
  obtain rfl := Option.some.inj h
  exact back_all ⟨a0, a1, l2, l3⟩ s hw A2 A3 c2 c3 hc2 hc3 w hG ⟨h2, h3⟩
 ·rw [if_neg hw] at h
  cases h
/-- THE ONE PURE STATEMENT of glossatorlaw04_JsontextBack. -/
def glossatorlaw04_JsontextBack.Pure : Prop := ∀ (p0 : S25) (p1 : ByteArray), Wf25 p0 → p1.size ≤ 140737488351232 → ∃ k, glossatorlaw04_JsontextBack.f k p0.f0 p0.f1 p0.f2 p0.f3 p1 = some true
end Go.Proofs.YtebmgmagdhedgaaGreatDoor.Q

end
section
namespace Go.Proofs.YtebmgmagdhedgaaGreatDoor.Pure
open Go Go.RowKit Go.Proofs.YtebmgmagdhedgaaGreatDoor.Q Go.Proofs.YtebmgmagdhedgaaGreatDoorW.PrintWords Go.Proofs.YtebmgmagdhedgaaGreatDoorW.PrintLast Go.Proofs.YtebmgmagdhedgaaGreatDoorW.PrintMore Go.Proofs.YtebmgmagdhedgaaGreatDoor.XEv
set_option linter.unusedVariables false
set_option linter.unusedSimpArgs false
theorem JsontextBack : glossatorlaw04_JsontextBack.Pure := by
  unfold glossatorlaw04_JsontextBack.Pure
  intro p0 s w0 _
  refine ⟨0, if_pos ?_⟩
  have := wf_v p0 w0
  cases p0
  exact this
end Go.Proofs.YtebmgmagdhedgaaGreatDoor.Pure

end
