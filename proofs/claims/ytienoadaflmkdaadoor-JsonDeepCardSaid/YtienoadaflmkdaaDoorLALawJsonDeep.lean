/- Words and walks of this claim, put together by this repo's wip/xadd.py out of WWords, WMore, XOpen, XThr, Q0, Q11, Q18, PureJsonDeep. -/
import Derived.Test.YtienoadaflmkdaaDoorL15
import Derived.Below
import Derived.Deep.Draws
import Derived.Deep.AppendLies
import Derived.Maps.AppendAt
import Derived.OwnWalk
import Derived.Laws.BytesArg
import Derived.Laws.MakeOwn
import Derived.Laws.OwnMore
import Derived.Deep.OwnRows
import Derived.Tactics
import Derived.Lib.ConvBytes
import Derived.Laws.Slices
import Derived.WalkKit
import Derived.KernelRfl
import Derived.RowKit3
import Derived.Deep.LoopGhost
import Derived.Deep.QuietTactic
import Derived.BigQuiet
import Derived.WideLaws
import Derived.Deep.DeepCutAuto
import Derived.Deep.CutBlock
import Derived.Deep.RegionHeld3
import Derived.Laws.Rows
import Derived.Lib.AppendStr
import Derived.ArgAppend
import Derived.Laws.IdiomCopy
import Derived.RowKit
import Derived.OrdersHeld
import Derived.Laws.BitsLemmas
import Derived.ProofKit
import Derived.DataReads
import Derived.DataElems
import Derived.SizedLaws
import Derived.OrdersIn
import Derived.TacticsIn
import Derived.RangeFuncCalls
import Derived.Deep.Quiet
import Derived.Deep.MidRow
import Derived.Shelf.Strings.Builder1
import Derived.Shelf.Small.Strs
import Derived.Shelf.Strings.BuilderF
import Derived.Shelf.Strings.BuilderK
import Derived.Shelf.Strings.BuilderRune
import Derived.Shelf.Utf8.AppendRune
import Derived.Shelf.Utf8.AppendRunePlain
import Derived.Shelf.Strconv.Itoa0
import Derived.Shelf.Strconv.Itoa1
import Derived.Shelf.LaysM
import Derived.Shelf.Strconv.Itoa2
import Derived.Shelf.Strconv.Itoa3
import Derived.Shelf.Strconv.Clone
import Derived.Shelf.Strconv.SyntaxError
import Derived.Shelf.LaysC
import Derived.Shelf.Strconv.ToError
import Derived.Shelf.Strings.Search1
import Derived.Shelf.Unicode.Decode
import Derived.Shelf.Unicode.DecodeSlow
import Derived.Shelf.Unicode.DecodeAny
import Derived.Test.YtienoadaflmkdaaDoorProg
import Derived.Lib.DecodeN
import Derived.Lib.RuneCount
import Derived.RangeFuncBox
import Derived.Laws.StructEq
import Derived.Lib.LaidU8
import Derived.Lib.LaidU8T
import Derived.MakeChecks
import Derived.Lib.SmallJoins
import Derived.Lib.AppendIntMem
import Derived.LaidLaws
import Derived.StillTailTactics
import Derived.IntWalk
import Derived.Lib.RuneCountTail
import Derived.Maps.Own
import Derived.Maps.OwnSet
import Derived.Maps.Views
import Derived.Carry
import Derived.Maps.OwnOps
import Derived.Recover
import Derived.Lib.OthersKept
import Derived.Deep.RegionWith
import Derived.RangeFuncNested
import Derived.RangeFuncLeaves
import Derived.Shelf.Abstract
import Derived.OwnWalkIn
import Derived.TacticsInMore
import Derived.LoopNIn
import Derived.LoopIn
import Derived.Test.YtienoadaflmkdaaDoorCards
import Derived.Test.YtienoadaflmkdaaDoorTie
import Derived.OpenShut
import Derived.ShutString
import Derived.ChangeOld
import Derived.Deep.DeepHandedRow
import Derived.Lay
import Derived.JoinedCond
import Derived.SevenTiedAt
import Derived.PinnedBridge
section
set_option linter.unusedVariables false
set_option linter.unusedSimpArgs false
namespace Go.Proofs.YtienoadaflmkdaaDoorW.PrintWords
open Go.RowKit
def bytesOf (s : ByteArray) : List Int := s.data.toList.map fun b => (b.toNat : Int)
namespace Kd
section
variable {α : Type} {F : Kd α → Kd α} {sz : Nat} {E : List Nat} {hs : ∀ n, (upto F sz E n).sz = sz} {hE : ∀ n q, q ∈ (upto F sz E n).E → q ∈ E}
theorem fix_R {n : Nat} {e : Nat} {w : World} {base : Nat} {ok : Nat → Prop} {v : Value} {xs : List α} (h : (upto F sz E n).R e w base ok v xs) : (fix F sz E hs hE).R e w base ok v xs := R_imp (d' := fix F sz E hs hE) (hs n) (fun w base ok x cs hp => (⟨n, hp⟩ : ∃ n, (upto F sz E n).M w base ok x cs)) h
end
end Kd
namespace Kd
section
variable {w W : World} {A : Option Addr} {n : Nat}
theorem at_bool {xs : List Bool} (h : Kd.bool.C w A n xs) (i : Int) (h0 : 0 ≤ i) (h1 : i < n) : ∃ ad, A = some ad ∧ w.cell? (ad.add i.toNat) = some (.bool (rdOf false xs i)) :=
  ReadsOf.at_ (reads_of_C (enc := Value.bool) (d := false) (h1 := fun _ => rfl) h) i h0 h1
variable {α : Type} {enc : α → Value} {h1 : ∀ x, (enc x).oneCell' = true} {e base g cap : Nat} {ok : Nat → Prop} {xs : List α}
end
end Kd
section
variable {w w1 : World} {base n size : Nat} {e : TypeId} {v : Value} {xs : List Value}
theorem add_at (g o j : Nat) : (⟨g, o, none⟩ : Addr).add j = ⟨g, o + j, none⟩ := by unfold Addr.add; split <;> simp_all
end
theorem add_add (a : Addr) (i j : Nat) : (a.add i).add j = a.add (i + j) := by
  unfold Addr.add
  by_cases h1 : i = 0 <;> by_cases h2 : j = 0 <;> simp [h1, h2, Nat.add_assoc]
end Go.Proofs.YtienoadaflmkdaaDoorW.PrintWords

end
section
namespace Go.Proofs.YtienoadaflmkdaaDoorW.PrintMore
open Go.RowKit Go.Proofs.YtienoadaflmkdaaDoorW.PrintWords
namespace Kd
open Go.Proofs.YtienoadaflmkdaaDoorW.PrintWords.Kd
/-- Element i of a row of one's own, lent: its cells and what it leads to, as the row has them. -/
theorem R_get {α : Type} {d : Kd α} {e base n cap : Nat} {ok : Nat → Prop} {W : World} {ad : Addr} {xs : List α} (h : d.R e W base ok (.slice (some ad) n cap) xs) (z : α) (i : Int) (h0 : 0 ≤ i) (h1 : i < n) :
    ∃ c, c.length = d.sz ∧ d.M W base (fun k => ok k ∧ some k ≠ (Value.slice (some ad) n cap).ownBlock) (xs.getD i.toNat z) c ∧ ∀ j u, c[j]? = some u → W.cell? (ad.add (i.toNat * d.sz + j)) = some u := by
  obtain ⟨g, hg⟩ : ∃ g, ad = ⟨g, 0, none⟩ := by
    obtain ⟨_, inner, ho, _⟩ := h
    rcases ho.2 with ⟨hv, _⟩ | ⟨g, cap', cur, hv, _⟩
    · cases hv
    · injection hv with ha _ _
      injection ha with ha
      exact ⟨g, ha⟩
  subst hg
  obtain ⟨c, hcl, hM, hcc, _⟩ := R_elem h z i h0 h1
  refine ⟨c, hcl, d.M_mono (fun k hk => ⟨hk.1, fun he => hk.2 ?_⟩) hM, fun j u hu => ?_⟩
  · rw [add_at, Nat.zero_add]
    exact hcc j u hu
  · simpa [Value.ownBlock] using he
end Kd
end Go.Proofs.YtienoadaflmkdaaDoorW.PrintMore
end
section
namespace Go.Proofs.YtienoadaflmkdaaDoor.XOpen
open Go Go.RowKit Go.Proofs.YtienoadaflmkdaaDoorW.PrintWords Go.Proofs.YtienoadaflmkdaaDoorW.PrintLast
set_option linter.unusedVariables false
set_option linter.unusedSimpArgs false
section
variable {H : Type}
mutual
def bulk : DataW H → Nat
  | .lit (.string bytes) => bytes.length + 1
  | .lit _ => 1
  | .nil => 1
  | .ptr d => bulk d + 1
  | .slice elems spare => bulkAll elems + bulkAll spare + 1
  | .agg parts => bulkAll parts + 1
  | .iface _ d => bulk d + 1
  | .map _ => 1
  | .held _ => 1
def bulkAll : List (DataW H) → Nat
  | [] => 0
  | d :: r => bulk d + bulkAll r
end
end
/-- What is read takes no more than the reach. -/
def Light {H : Type} (P : Program) (T : TypeId) (d : DataW H) : Prop := ∀ n ∈ d.weights P T, n ≤ 140737488351232
section
variable {H : Type} {enc : TypeId × Value → H} {P : Program} {W : World} {fuel : Nat} {T : TypeId} {cs : List Value} {y : DataW H × List MemPlace}
abbrev Tr (enc : TypeId × Value → H) (P : Program) (W : World) (fuel : Nat) (T : TypeId) (cs : List Value) : Option (DataW H × List MemPlace) := DataW.trod enc P W 0 (fun _ => true) true fuel T cs
theorem open_int {k : IntKind} (ht : P.underlying T = some (.int k)) (h : Tr enc P W fuel T cs = some y) : ∃ x, cs = [.int k x] ∧ (Lit.int k x).wf = true ∧ 1 ≤ bulk y.1 := by
  obtain ⟨n, rfl, rfl, hw⟩ := DataW.trod_int ht h
  exact ⟨n, rfl, hw, by simp [bulk]⟩
theorem open_bool (ht : P.underlying T = some .bool) (h : Tr enc P W fuel T cs = some y) : ∃ x, cs = [.bool x] ∧ 1 ≤ bulk y.1 := by
  obtain ⟨b, rfl, rfl⟩ := DataW.trod_bool ht h
  exact ⟨b, rfl, by simp [bulk]⟩
theorem light_all {e : TypeId} : ∀ (l : List (DataW H)), (∀ n ∈ DataW.weightsAll P e l, n ≤ 140737488351232) → ∀ d ∈ l, Light P e d
  | [], _, d, hd => by cases hd
  | x :: r, h, d, hd => by
    rw [DataW.weightsAll] at h
    rcases List.mem_cons.1 hd with rfl | hd
    · exact fun n hn => h n (List.mem_append_left _ hn)
    · exact light_all r (fun n hn => h n (List.mem_append_right _ hn)) d hd
theorem bulk_le_all {α : Type} (μ : α → Nat) : ∀ (xs : List α) (l : List (DataW H)), xs.length = l.length → (∀ (i : Nat) (x : α) (d : DataW H), xs[i]? = some x → l[i]? = some d → μ x ≤ bulk d) → (xs.map μ).sum ≤ bulkAll l
  | [], [], _, _ => by simp [bulkAll]
  | [], _ :: _, h, _ => by simp at h
  | _ :: _, [], h, _ => by simp at h
  | x :: xs, d :: l, h, hb => by
    have h1 := hb 0 x d rfl rfl
    have h2 := bulk_le_all μ xs l (by simpa using h) (fun i x' d' hx hd => hb (i + 1) x' d' (by simpa using hx) (by simpa using hd))
    simp only [List.map_cons, List.sum_cons, bulkAll]
    omega
theorem choose_all {α : Type} {Q : Nat → α → Prop} : ∀ (n : Nat), (∀ i, i < n → ∃ x, Q i x) → ∃ l : List α, l.length = n ∧ ∀ i x, l[i]? = some x → Q i x
  | 0, _ => ⟨[], rfl, fun i x h => by simp at h⟩
  | n + 1, h => by
    obtain ⟨l, hl, hq⟩ := choose_all n (fun i hi => h i (by omega))
    obtain ⟨x, hx⟩ := h n (by omega)
    refine ⟨l ++ [x], by simp [hl], fun i y hy => ?_⟩
    by_cases hi : i < l.length
    · rw [List.getElem?_append_left hi] at hy
      exact hq i y hy
    · have hlt := (List.getElem?_eq_some_iff.1 hy).1
      rw [List.length_append, List.length_singleton] at hlt
      have e : i = l.length := by omega
      subst e
      have : x = y := by simpa using hy
      rw [← this, hl]
      exact hx
/-- A slice, its elements read by a law of theirs. -/
theorem open_slice {α : Type} {d : Kd α} {wf : α → Prop} {μ : α → Nat} {e : TypeId} {b : Nat} (ht : P.underlying T = some (.slice e)) (hsz : P.cellsOf e = d.sz) (hb : P.bytesOf e = b)
    (h : Tr enc P W fuel T cs = some y) (hl : Light P T y.1)
    (he : ∀ (n : Nat) (cs' : List Value) (y' : DataW H × List MemPlace), n < fuel → Tr enc P W n e cs' = some y' → Light P e y'.1 → ∃ x, d.K W x cs' ∧ wf x ∧ μ x ≤ bulk y'.1) :
    ∃ (A : Option Addr) (c : Nat) (l : List α), cs = [.slice A l.length c] ∧ l.length ≤ c ∧ d.C W A l.length l ∧ l.length ≤ maxLen ∧ l.length * b ≤ 140737488351232 ∧ (∀ x ∈ l, wf x) ∧ (l.map μ).sum + 1 ≤ bulk y.1 := by
  rcases DataW.trod_slice ht h with ⟨rfl, rfl⟩ | ⟨a, len, cap, elems, rest, n, rfl, rfl, rfl, _, hlc, hcm, hel, hget, _, _⟩
  · exact ⟨none, 0, [], rfl, Nat.le_refl _, ⟨rfl, by simp, fun hn => absurd hn (by simp)⟩, Nat.zero_le _, by simp, fun x hx => by simp at hx, by simp [bulk]⟩
  · have hle : ∀ n' ∈ DataW.weightsAll P e (elems.map (·.1)), n' ≤ 140737488351232 := fun n' hn' => hl n' (by
      simp only [DataW.weights, ht]
      exact List.mem_cons_of_mem _ (List.mem_append_left _ hn'))
    have hwl : (elems.length + rest.length) * b ≤ 140737488351232 := by
      have := hl ((elems.length + rest.length) * P.bytesOf e) (by
        simp only [DataW.weights, ht, List.length_map]
        exact List.mem_cons_self)
      rwa [hb] at this
    have hel1 : ∀ i, i < len → ∃ x, (∃ cs' y', W.cells? 0 (a.add (i * P.cellsOf e)) (P.cellsOf e) = some cs' ∧ elems[i]? = some y' ∧ d.K W x cs' ∧ wf x ∧ μ x ≤ bulk y'.1) := by
      intro i hi
      have hg := hget i hi
      obtain ⟨y', hy'⟩ : ∃ y', elems[i]? = some y' := ⟨elems[i]'(by omega), List.getElem?_eq_getElem (by omega)⟩
      rw [hy'] at hg
      obtain ⟨cs', hc', ht'⟩ := Option.bind_eq_some_iff.1 hg
      obtain ⟨x, hk, hw, hm⟩ := he n cs' y' (by omega) ht' (light_all _ hle y'.1 (List.mem_of_getElem? (by rw [List.getElem?_map, hy']; rfl)))
      exact ⟨x, cs', y', hc', hy', hk, hw, hm⟩
    obtain ⟨l, hll, hq⟩ := choose_all len hel1
    subst hll
    refine ⟨some a, cap, l, rfl, hlc, ⟨rfl, by unfold maxLen at hcm; omega, fun _ => ⟨a, rfl, fun j p hj => ?_⟩⟩, by omega, ?_, ?_, ?_⟩
    · obtain ⟨cs', y', hc', _, hk, _, _⟩ := hq j p hj
      refine ⟨cs', d.K_len hk, hk, fun i u hu => ?_⟩
      obtain ⟨hlen, _, hcell⟩ := World.cells?_some hc'
      have hi : i < cs'.length := (List.getElem?_eq_some_iff.1 hu).1
      have := hcell i (by omega)
      rw [hsz] at this
      rw [← Addr.add_add, this, hu]
    · refine Nat.le_trans (Nat.mul_le_mul_right b ?_) hwl
      omega
    · intro x hx
      obtain ⟨i, hi⟩ := List.getElem?_of_mem hx
      obtain ⟨_, _, _, _, _, hw, _⟩ := hq i x hi
      exact hw
    · have := bulk_le_all μ l (elems.map (·.1)) (by simp [hel]) (fun i x d' hx hd => by
        obtain ⟨_, y', _, hy', _, _, hm⟩ := hq i x hx
        rw [List.getElem?_map, hy'] at hd
        obtain rfl := Option.some.inj hd
        exact hm)
      simp only [bulk]
      omega
theorem light_cons {t : TypeId} {ts : List TypeId} {d : DataW H} {ds : List (DataW H)} (h : ∀ n ∈ DataW.weightsEach P (t :: ts) (d :: ds), n ≤ 140737488351232) : Light P t d ∧ ∀ n ∈ DataW.weightsEach P ts ds, n ≤ 140737488351232 := by
  rw [DataW.weightsEach] at h
  exact ⟨fun n hn => h n (List.mem_append_left _ hn), fun n hn => h n (List.mem_append_right _ hn)⟩
theorem light_sized {ts : List TypeId} {ds : List (DataW H)} (h : (DataW.weightsEach P ts ds).all (fun n => decide (n ≤ reachBytes)) = true) : ∀ n ∈ DataW.weightsEach P ts ds, n ≤ 140737488351232 := by
  intro n hn
  have := List.all_eq_true.1 h n hn
  have h2 := of_decide_eq_true this
  simpa [reachBytes] using h2
end
end Go.Proofs.YtienoadaflmkdaaDoor.XOpen

end
section
namespace Go.Proofs.YtienoadaflmkdaaDoorW.PrintWords
open Go Go.RowKit
set_option linter.unusedVariables false
set_option linter.unusedSimpArgs false
namespace Kd
section
variable {α : Type} {F : Kd α → Kd α} {sz : Nat} {E : List Nat} {hs : ∀ n, (upto F sz E n).sz = sz} {hE : ∀ n q, q ∈ (upto F sz E n).E → q ∈ E}
theorem thr_R {β : Type} {G : Kd α → Kd β} (hG : Mono G) {n : Nat} {e : Nat} {w : World} {base : Nat} {ok : Nat → Prop} {v : Value} {xs : List β} (h : (G (upto F sz E n)).R e w base ok v xs) : (G (fix F sz E hs hE)).R e w base ok v xs :=
  R_imp (hG.sz _ (fix F sz E hs hE) (hs n)) (hG.M _ (fix F sz E hs hE) (hs n) (fun _ _ _ _ _ hp => ⟨n, hp⟩)) h
end
end Kd
end Go.Proofs.YtienoadaflmkdaaDoorW.PrintWords

end
section
namespace Go.Proofs.YtienoadaflmkdaaDoor.Q
open Go.RowKit Go.Proofs.YtienoadaflmkdaaDoorW.PrintWords Go.Proofs.YtienoadaflmkdaaDoorW.PrintLast Go.Proofs.YtienoadaflmkdaaDoorW.PrintMore
attribute [local go_sem] max2_int min2_int max_two min_two max_three min_three max_four min_four   
set_option linter.unusedVariables false
set_option linter.unusedSimpArgs false
theorem k25_openM {w : World} {base : Nat} {ok : Nat → Prop} {x : S25} {cs : List Value} (h : k25.M w base ok x cs) : ∃ v2 v3, cs = [.int .u8 x.f0, .string x.f1, v2, v3] ∧ k25.R 25 w base ok v2 x.f2 ∧ k38.R 38 w base ok v3 x.f3 := by
  obtain ⟨n, h⟩ := h
  cases n with
  | zero => exact h.elim
  | succ n =>
    obtain ⟨_, _, rfl, rfl, ⟨_, _, rfl, rfl, ⟨_, _, rfl, ⟨v2, rfl, g2⟩, ⟨v3, rfl, g3⟩⟩⟩⟩ := h
    exact ⟨v2, v3, rfl, Kd.fix_R g2, Kd.thr_R monoG38 g3⟩
theorem k38_openM {w : World} {base : Nat} {ok : Nat → Prop} {x : S38} {cs : List Value} (h : k38.M w base ok x cs) : ∃ v3 v4, cs = [.string x.f0, .int .u8 x.f1.f0, .string x.f1.f1, v3, v4] ∧ k25.R 25 w base ok v3 x.f1.f2 ∧ k38.R 38 w base ok v4 x.f1.f3 := by
  obtain ⟨_, _, rfl, rfl, s1⟩ := h
  obtain ⟨v3, v4, rfl, g3, g4⟩ := k25_openM s1
  exact ⟨v3, v4, rfl, g3, g4⟩
end Go.Proofs.YtienoadaflmkdaaDoor.Q

end
section
namespace Go.Proofs.YtienoadaflmkdaaDoor.Q
open Go.RowKit Go.Proofs.YtienoadaflmkdaaDoorW.PrintWords Go.Proofs.YtienoadaflmkdaaDoorW.PrintLast Go.Proofs.YtienoadaflmkdaaDoorW.PrintMore
attribute [local go_sem] max2_int min2_int max_two min_two max_three min_three max_four min_four   
set_option linter.unusedVariables false
set_option linter.unusedSimpArgs false
theorem putF_nil (n : ByteArray) (v : JV) : putF [] n v = [⟨n, v⟩] := rfl
end Go.Proofs.YtienoadaflmkdaaDoor.Q

end
section
namespace Go.Proofs.YtienoadaflmkdaaDoor.Q
open Go.RowKit Go.Proofs.YtienoadaflmkdaaDoorW.PrintWords Go.Proofs.YtienoadaflmkdaaDoorW.PrintLast Go.Proofs.YtienoadaflmkdaaDoorW.PrintMore
attribute [local go_sem] max2_int min2_int max_two min_two max_three min_three max_four min_four   
set_option linter.unusedVariables false
set_option linter.unusedSimpArgs false
/-- Bytes that stand in s from i on. -/
def Stands (s : ByteArray) (i : Nat) (l : List UInt8) : Prop := ∀ q (h : q < l.length), hnd s (i + q) = (l[q]).toNat
theorem Stands.app {s : ByteArray} {i : Nat} {a b : List UInt8} (h : Stands s i (a ++ b)) : Stands s i a ∧ Stands s (i + a.length) b := by
 refine ⟨fun q hq => ?_, fun q hq => ?_⟩
 ·rw [h q (by rw [List.length_append]; omega), List.getElem_append_left hq]
 ·rw [Nat.add_assoc, h (a.length + q) (by rw [List.length_append]; omega), List.getElem_append_right (by omega)]
  simp
theorem Stands.one {s : ByteArray} {i : Nat} {c : UInt8} (h : Stands s i [c]) : hnd s i = c.toNat := h 0 (by simp)
def dOp (b : Bool) : List UInt8 := if b = true then [123, 34, 97, 34, 58] else [91]
def dSh (b : Bool) : UInt8 := if b = true then 125 else 93
def dOps : List Bool → List UInt8
 | [] => []
 | b :: r => dOp b ++ dOps r
def dShs : List Bool → List UInt8
 | [] => []
 | b :: r => dShs r ++ [dSh b]
def dTxt (l : List Bool) : List UInt8 := dOps l ++ [55] ++ dShs l
def dVal : List Bool → JV
 | [] => ⟨3, ⟨#[55]⟩, [], []⟩
 | true :: r => ⟨6, ⟨#[]⟩, [], [⟨⟨#[97]⟩, dVal r⟩]⟩
 | false :: r => ⟨5, ⟨#[]⟩, [dVal r], []⟩
theorem dOps_app (a b : List Bool) : dOps (a ++ b) = dOps a ++ dOps b := by
 induction a with
 | nil => rfl
 | cons x r ih => simp [dOps, ih]
theorem dShs_snoc (a : List Bool) (b : Bool) : dShs (a ++ [b]) = dSh b :: dShs a := by
 induction a with
 | nil => rfl
 | cons x r ih => simp [dShs, ih]
theorem dTxt_cons (b : Bool) (r : List Bool) : dTxt (b :: r) = dOp b ++ (dTxt r ++ [dSh b]) := by simp [dTxt, dOps, dShs]
theorem dTxt_head (l : List Bool) : ∃ c t, dTxt l = c :: t ∧ (c = 55 ∨ c = 91 ∨ c = 123) := by
 cases l with
 | nil => exact ⟨55, [], rfl, .inl rfl⟩
 | cons b r =>
  cases b
  ·exact ⟨91, _, rfl, .inr (.inl rfl)⟩
  ·exact ⟨123, _, rfl, .inr (.inr rfl)⟩
theorem dnum {t : ByteArray} {br : Nat → Res JV} {i : Nat} (h : hnd t i = 55) (h1 : hnd t (i + 1) = 93 ∨ hnd t (i + 1) = 125 ∨ hnd t (i + 1) = 0) : flat t br i = .ok ⟨3, ⟨#[55]⟩, [], []⟩ (i + 1) := by
 have hlt := hnd_pos h (by omega)
 have hd : digits t i = .ok () (i + 1) := by
  unfold digits
  rw [h, if_pos (by decide), skip_to dig0 1 i (i + 1) (by omega) (by omega) (fun q h2 h3 => by rw [show q = i by omega, h]; decide) (by rcases h1 with h1 | h1 | h1 <;> (rw [h1]; decide))]
 have hn : number t i = .ok () (i + 1) := by
  unfold number
  rw [h, if_neg (by omega)]
  unfold nI
  rw [h, if_neg (by omega), hd]
  show nD t (i + 1) = _
  unfold nD
  rw [if_neg (by omega)]
  show nE t (i + 1) = _
  unfold nE
  rw [if_neg (by omega)]
 have hc : t.extract i (i + 1) = ⟨#[55]⟩ := by
  apply ByteArray.ext
  apply Array.toList_inj.1
  refine map_inj ?_
  rw [cut_list t 1 i (by omega)]
  simp [List.range', h]
 unfold flat
 rw [if_neg (by omega), if_neg (by omega), if_neg (by omega), if_neg (by omega), if_neg (by omega), hn]
 show Res.ok _ _ = _
 rw [hc]
theorem dkey {t : ByteArray} {p : Nat} (h0 : hnd t (p + 1) = 97) (h1 : hnd t (p + 2) = 34) : text t p = .ok [97] (p + 3) := by
 have hlt := hnd_pos h1 (by omega)
 have hn : nxt t (p + 1) = some 1 := by
  unfold nxt
  rw [dec_hnd, h0]
  have : Lib.decodeN 4 97 (hnd t (p + 1 + 1)) (hnd t (p + 1 + 2)) (hnd t (p + 1 + 3)) = (97, 1) := by unfold Lib.decodeN; rw [if_pos (by omega)]
  rw [this]
  rfl
 have hc : (t.extract (p + 1) (p + 1 + 1)).data.toList = [97] := by
  refine map_inj ?_
  rw [cut_list t 1 (p + 1) (by omega)]
  simp [List.range', h0]
 obtain ⟨f, hf⟩ : ∃ f, t.size = f + 1 := ⟨t.size - 1, by omega⟩
 unfold text
 rw [txt, h0, if_neg (by omega), if_neg (by omega), if_neg (by omega), hn]
 show txt t t.size (p + 1 + 1) ([] ++ (t.extract (p + 1) (p + 1 + 1)).data.toList) = _
 rw [hc, hf, txt, show p + 1 + 1 = p + 2 by omega, h1, if_pos rfl]
 rfl
theorem dkip {t : ByteArray} {i : Nat} (h : isBl (hnd t i) = false) : skip isBl t i = i := skip_to bl0 _ _ _ rfl (Nat.le_refl _) (fun q h1 h2 => by omega) h
/-- What a nest of brackets, d levels of which may be, is read as. -/
theorem deep_pval {s : ByteArray} : ∀ (l : List Bool) (d i : Nat), Stands s i (dTxt l) → (hnd s (i + (dTxt l).length) = 93 ∨ hnd s (i + (dTxt l).length) = 125 ∨ hnd s (i + (dTxt l).length) = 0) →
  pval s d i = if l.length ≤ d then .ok (dVal l) (i + (dTxt l).length) else .bad (i + (dOps (l.take d)).length) 31 := by
 intro l
 induction l with
 | nil =>
  intro d i h hx
  rw [if_pos (show ([] : List Bool).length ≤ d from Nat.zero_le _)]
  have h0 : hnd s i = 55 := h.one
  cases d with
  | zero => exact dnum h0 hx
  | succ d => exact dnum h0 hx
 | cons b r ih =>
  intro d i h hx
  rw [dTxt_cons] at h hx
  have h1 := h.app
  have h2 := h1.2.app
  have hc := h2.2.one
  rw [List.length_append, List.length_append] at hx
  obtain ⟨c, tl, ht, hcc⟩ := dTxt_head r
  have hfst : hnd s (i + (dOp b).length) = c.toNat := by
   have := h2.1
   rw [ht] at this
   have := this 0 (by simp)
   simpa using this
  have hbl : isBl (hnd s (i + (dOp b).length)) = false := by rw [hfst]; rcases hcc with rfl | rfl | rfl <;> decide
  have hsz : i + (dOp b).length < s.size := hnd_pos (c := c.toNat) hfst (by rcases hcc with rfl | rfl | rfl <;> decide)
  have hk : (hnd s (i + (dOp b).length + (dTxt r).length) = 93 ∨ hnd s (i + (dOp b).length + (dTxt r).length) = 125 ∨ hnd s (i + (dOp b).length + (dTxt r).length) = 0) := by
   rw [hc]; cases b
   ·exact .inl rfl
   ·exact .inr (.inl rfl)
  have hcs : i + (dOp b).length + (dTxt r).length < s.size := hnd_pos (c := (dSh b).toNat) hc (by cases b <;> decide)
  have IH := fun d => ih d (i + (dOp b).length) h2.1 hk
  have hlen : (dTxt (b :: r)).length = (dOp b).length + ((dTxt r).length + 1) := by rw [dTxt_cons]; simp
  rw [hlen]
  cases b with
  | false =>
   have hL : (dOp false).length = 1 := rfl
   rw [hL] at hfst hbl hsz hcs IH hc ⊢
   have h0 : hnd s i = 91 := h1.1.one
   cases d with
   | zero =>
    rw [if_neg (by simp)]
    show flat s (fun i => .bad i 31) i = _
    rw [flat_br (.inl h0)]
    rfl
   | succ d =>
    show flat s (brk s (pval s d)) i = _
    rw [flat_br (.inl h0)]
    unfold brk
    rw [if_pos h0, dkip hbl, lst, if_neg (by rw [hfst]; rcases hcc with rfl | rfl | rfl <;> decide), if_pos (show ([] : List JV).length = 0 from rfl)]
    show (((pval s d (i + 1)).bind fun v k => lst s (pval s d) s.size (skip isBl s k) ([] ++ [v])).bind fun l j => Res.ok (⟨5, ⟨#[]⟩, l, []⟩ : JV) j) = _
    rw [IH d]
    by_cases hd : r.length ≤ d
    ·rw [if_pos hd, if_pos (by simpa using hd)]
     obtain ⟨g, hg⟩ : ∃ g, s.size = g + 1 := ⟨s.size - 1, by omega⟩
     show ((lst s (pval s d) s.size (skip isBl s (i + 1 + (dTxt r).length)) [dVal r]).bind fun l j => Res.ok (⟨5, ⟨#[]⟩, l, []⟩ : JV) j) = _
     rw [dkip (by rw [hc]; decide), hg, lst, if_pos (by rw [hc]; rfl)]
     show Res.ok _ _ = _
     simp only [dVal, Nat.add_assoc]
    ·rw [if_neg hd, if_neg (by simpa using hd)]
     show Res.bad _ _ = _
     simp only [List.take_succ_cons, dOps, List.length_append, hL]
     congr 1
     omega
  | true =>
   have hL : (dOp true).length = 5 := rfl
   rw [hL] at hfst hbl hsz hcs IH hc ⊢
   have o := h1.1
   have h0 : hnd s i = 123 := by have := o 0 (by decide); simpa [dOp] using this
   have o1 : hnd s (i + 1) = 34 := by have := o 1 (by decide); simpa [dOp] using this
   have o2 : hnd s (i + 2) = 97 := by have := o 2 (by decide); simpa [dOp] using this
   have o3 : hnd s (i + 3) = 34 := by have := o 3 (by decide); simpa [dOp] using this
   have o4 : hnd s (i + 4) = 58 := by have := o 4 (by decide); simpa [dOp] using this
   cases d with
   | zero =>
    rw [if_neg (by simp)]
    show flat s (fun i => .bad i 31) i = _
    rw [flat_br (.inr h0)]
    rfl
   | succ d =>
    show flat s (brk s (pval s d)) i = _
    rw [flat_br (.inr h0)]
    unfold brk
    rw [if_neg (by omega), dkip (by rw [o1]; decide), obj, if_neg (by omega), if_pos rfl]
    have hk := dkey (t := s) (p := i + 1) o2 o3
    show ((if hnd s (i + 1) = 34 then (text s (i + 1)).bind fun l k => fld s (pval s d) s.size [] l k else .bad (i + 1) 30).bind fun l j => Res.ok (⟨6, ⟨#[]⟩, [], l⟩ : JV) j) = _
    rw [if_pos o1, hk]
    show ((fld s (pval s d) s.size [] [97] (i + 1 + 3)).bind fun l j => Res.ok (⟨6, ⟨#[]⟩, [], l⟩ : JV) j) = _
    unfold fld
    rw [show i + 1 + 3 = i + 4 by omega, dkip (by rw [o4]; decide), show wd s [58] (i + 4) = .ok () (i + 4 + 1) from if_pos o4]
    show (((pval s d (skip isBl s (i + 4 + 1))).bind fun v n => obj s (pval s d) s.size (skip isBl s n) false (putF [] ⟨#[97]⟩ v)).bind fun l j => Res.ok (⟨6, ⟨#[]⟩, [], l⟩ : JV) j) = _
    rw [show i + 4 + 1 = i + 5 by omega, dkip hbl, IH d]
    by_cases hd : r.length ≤ d
    ·rw [if_pos hd, if_pos (by simpa using hd)]
     obtain ⟨g, hg⟩ : ∃ g, s.size = g + 1 := ⟨s.size - 1, by omega⟩
     show ((obj s (pval s d) s.size (skip isBl s (i + 5 + (dTxt r).length)) false (putF [] ⟨#[97]⟩ (dVal r))).bind fun l j => Res.ok (⟨6, ⟨#[]⟩, [], l⟩ : JV) j) = _
     rw [dkip (by rw [hc]; decide), hg, obj, if_pos (by rw [hc]; rfl), putF_nil]
     show Res.ok _ _ = _
     simp only [dVal, Nat.add_assoc]
    ·rw [if_neg hd, if_neg (by simpa using hd)]
     show Res.bad _ _ = _
     simp only [List.take_succ_cons, dOps, List.length_append, hL]
     congr 1
     omega
theorem stands_self (l : List UInt8) : Stands ⟨l.toArray⟩ 0 l := by
 intro q hq
 unfold hnd
 rw [dif_pos (by simpa [ByteArray.size] using hq)]
 simp only [Nat.zero_add]
 rfl
theorem deep_parse (l : List Bool) : parse ⟨(dTxt l).toArray⟩ = if l.length ≤ 64 then .ok (dVal l) 0 else .bad (dOps (l.take 64)).length 31 := by
 have hs : (⟨(dTxt l).toArray⟩ : ByteArray).size = (dTxt l).length := by simp [ByteArray.size]
 have h := stands_self (dTxt l)
 obtain ⟨c, tl, ht, hcc⟩ := dTxt_head l
 have h0 : hnd ⟨(dTxt l).toArray⟩ 0 = c.toNat := by
  have := h 0 (by rw [ht]; simp)
  simpa [ht] using this
 have he : hnd ⟨(dTxt l).toArray⟩ (dTxt l).length = 0 := hnd_out (by rw [hs]; omega)
 unfold parse
 rw [dkip (by rw [h0]; rcases hcc with rfl | rfl | rfl <;> decide), deep_pval l 64 0 h (by rw [Nat.zero_add]; exact .inr (.inr he)), Nat.zero_add]
 by_cases hd : l.length ≤ 64
 ·rw [if_pos hd, if_pos hd]
  show (if _ then _ else _) = _
  rw [dkip (by rw [he]; decide), hs, if_neg (Nat.lt_irrefl _)]
 ·rw [if_neg hd, if_neg hd, Nat.zero_add]
  rfl
def glossatorlaw03_JsonDeep.f (k : Nat) (l0 : List Bool) (a1 : Int) : Option Bool := some true
theorem glossatorlaw03_JsonDeep.mono : ∀ l0 a1 k, LeO (glossatorlaw03_JsonDeep.f k l0 a1) (glossatorlaw03_JsonDeep.f (k + 1) l0 a1) := fun l0 a1 k => LeO.refl _
def dAt (l : List Bool) (i : Nat) : Bool := l.getD i false
def dPre (l : List Bool) (n : Nat) : List Bool := (List.range n).map (dAt l)
theorem dPre_succ (l : List Bool) (n : Nat) : dPre l (n + 1) = dPre l n ++ [dAt l n] := by simp [dPre, List.range_succ]
theorem dPre_len (l : List Bool) (n : Nat) : (dPre l n).length = n := by simp [dPre]
theorem dPre_take (l : List Bool) {m n : Nat} (h : m ≤ n) : (dPre l n).take m = dPre l m := by
 unfold dPre
 rw [← List.map_take, List.take_range, Nat.min_eq_left h]
theorem dOps_mono (l : List Bool) {m n : Nat} (h : m ≤ n) : (dOps (dPre l m)).length ≤ (dOps (dPre l n)).length := by
 have : dPre l n = dPre l m ++ (dPre l n).drop m := by rw [← dPre_take l h, List.take_append_drop]
 rw [this, dOps_app, List.length_append]
 omega
theorem below_p4 {m M : Nat} {W : World} (h : m ≤ M) (a b c d : Value) : Below m W ((((W.setCell ⟨M, 0, none⟩ a).setCell ⟨M, 1, none⟩ b).setCell ⟨M, 2, none⟩ c).setCell ⟨M, 3, none⟩ d) :=
 ⟨rfl, rfl, rfl, by simp [World.setCell], fun k hk => put4_far (by omega) _ _ _ _⟩
theorem R_row' {α : Type} {d : Kd α} {e : Nat} {w : World} {base : Nat} {ok : Nat → Prop} {A : Option Addr} {n c : Nat} {x : α} (h : d.R e w base ok (.slice A n c) [x]) (hd : 0 < d.sz := by decide) : ∃ g cur, A = some ⟨g, 0, none⟩ ∧ base ≤ g ∧ w.heap[g]? = some (.cells cur e (0, 0)) ∧ d.sz ≤ cur.size := by
 obtain ⟨h0, inner, ⟨hl, ho⟩, hr⟩ := h
 rcases ho with ⟨hv, hz⟩ | ⟨g', cap, cur, hv, hg, hh, hn, hc, hs, ht⟩
 ·cases hz
 ·injection hv with hv1 hv2 hv3
  refine ⟨g', cur, hv1, hg, hh, ?_⟩
  rw [hs]
  have h1 : 1 * d.sz ≤ cap * d.sz := Nat.mul_le_mul_right _ (by simpa using hn)
  omega
set_option maxRecDepth 100000 in
set_option maxHeartbeats 4000000 in
theorem glossatorlaw03_JsonDeep.calls (k : Nat) (A0 : Option Addr) (c0 : Nat) (l0 : List Bool) (a1 : Int) (r : Bool) (w : World) (hr0 : Kd.C Kd.bool w A0 l0.length l0) (hc0 : l0.length ≤ c0) (hG : GlobOk w) (h : glossatorlaw03_JsonDeep.f k l0 a1 = some r) : Calls Tryd.prog 6 #[.slice A0 l0.length c0, .int .i64 a1] w fun e w' => e = .returned (.bool r) ∧ Below w.heap.size w w' := by
 obtain rfl := Option.some.inj h
 have HG := Aside0.mk hG; have HL := Aside0.mk hr0; clear hG h hr0; go_enter Tryd.func6, Tryd.ntmps6
 go_upto_region 3 with (first | (go_at_call 10; refine (glossatorlaw03_awake.calls w HG.out).mono ?_; rintro e w0 ⟨rfl, hb⟩; have HB0 := Aside0.mk hb; clear hb))
 go_upto_region 4 with (fail)
 obtain ⟨n, hn⟩ : ∃ n : Nat, (n : Int) = (if 200 < (if a1 < 0 then 0 else a1) then 200 else if a1 < 0 then 0 else a1) := ⟨(if 200 < (if a1 < 0 then 0 else a1) then (200 : Int) else if a1 < 0 then 0 else a1).toNat, by rw [Int.toNat_of_nonneg]; repeat' split; all_goals omega⟩
 have hn200 : n ≤ 200 := by
  have : (n : Int) ≤ 200 := by rw [hn]; repeat' split; all_goals omega
  omega
 rw [← hn]
 generalize (if a1 < 0 then (0 : Int) else a1) = z17
 have HL0 := Aside0.mk (Kd.C_below HL.out HB0.out)
 clear hn HL; go_wp2
 go_loopw [5, 6, 7, 8, 9] (fun t5 t6 t7 t8 t9 w' => ∃ (j : Nat) (o s : ByteArray) (pl : Nat) (fi : Int), t5 = .string o ∧ t6 = .string s ∧ t7 = .int .i64 pl ∧ t8 = .int .i64 fi ∧ t9 = .int .i64 j ∧ j ≤ n ∧ o.size ≤ 5 * j ∧ s.size ≤ j ∧ Aside0 (o.data.toList = dOps (dPre l0 j)) ∧ Aside0 (s.data.toList = dShs (dPre l0 j)) ∧ Aside0 (64 < j → fi = ((dOps (dPre l0 64)).length : Int) ∧ (dOps (dPre l0 64)).length ≤ pl) ∧ w' = w0) (fun _ _ _ _ t9 _ => n - (intOf t9).toNat)
 case atStart => exact ⟨0, ⟨#[]⟩, ⟨#[]⟩, 0, -1, rfl, rfl, rfl, rfl, rfl, Nat.zero_le _, Nat.le_refl _, Nat.le_refl _, ⟨rfl⟩, ⟨rfl⟩, ⟨fun h => by omega⟩, rfl⟩
 case round =>
  obtain ⟨j, o, s, pl, fi, rfl, rfl, rfl, rfl, rfl, hj, hos, hss, HO, HS, HFi, hw⟩ := hrel
  rw [hw]
  clear hw; by_cases hlt : j < n
  ·have t : decide ((j : Int) < (n : Int)) = true := decide_eq_true (by omega)
   have HD := Aside0.mk (dPre_succ l0 j)
   have hoS : o.size = (dOps (dPre l0 j)).length := by rw [← HO.out]; simp
   have HFi2 : 64 < j + 1 → (if j = 64 then (o.size : Int) else fi) = ((dOps (dPre l0 64)).length : Int) ∧ (dOps (dPre l0 64)).length ≤ o.size := by
    intro h
    by_cases h64 : j = 64
    ·subst h64; rw [if_pos rfl, hoS]; exact ⟨rfl, Nat.le_refl _⟩
    ·rw [if_neg h64]
     exact ⟨(HFi.out (by omega)).1, by rw [hoS]; exact dOps_mono l0 (by omega)⟩
   have HF2 := Aside0.mk HFi2; clear HFi HFi2 hoS; have q64 : ((j : Int) == 64) = decide (j = 64) := by
    by_cases h : j = 64
    ·subst h; rfl
    ·rw [decide_eq_false h]; exact neI _ _ (by omega)
   by_cases hb : j < l0.length
   ·have tb : decide ((j : Int) < (l0.length : Int)) = true := decide_eq_true (by omega)
    obtain ⟨ad, hA, hcell⟩ := Kd.at_bool HL0.out j (by omega) (by omega)
    subst hA; rw [Int.toNat_natCast] at hcell
    have hbv : (l0.getD j false) = dAt l0 j := rfl
    cases hv : dAt l0 j with
    | true =>
     have HV := Aside0.mk hv; have hc2 : w0.cell? (ad.add j) = some (.bool true) := by rw [← hv]; exact hcell
     clear hcell hbv; clear hv; have hsa : s.size ≤ 1000 := by omega
     have hoa : o.size ≤ 1000 := by omega
     have HR := Aside0.mk (show (o ++ ⟨#[123, 34, 97, 34, 58]⟩).data.toList = dOps (dPre l0 (j + 1)) by rw [HD.out, dOps_app, HV.out, ByteArray.data_append, Array.toList_append, HO.out]; simp [dOps, dOp])
     have HR2 := Aside0.mk (show ((⟨#[125]⟩ : ByteArray) ++ s).data.toList = dShs (dPre l0 (j + 1)) by rw [HD.out, dShs_snoc, HV.out, ByteArray.data_append, Array.toList_append, HS.out]; simp [dSh])
     by_cases h64 : j = 64
     ·rw [decide_eq_true h64] at q64
      have HF3 := Aside0.mk HF2.out; have HF4 := Aside0.mk (show 64 < j + 1 → (o.size : Int) = ((dOps (dPre l0 64)).length : Int) ∧ (dOps (dPre l0 64)).length ≤ o.size by have := HF2.out; rw [if_pos h64] at this; exact this)
      clear HF2 HF3; clear h64; as_aux_lemma =>
       go_wp2
       go_roundw
       case rel => exact ⟨j + 1, _, _, o.size, _, rfl, rfl, rfl, rfl, by go_num, hlt, by rw [ByteArray.size_append]; show o.size + 5 ≤ _; omega, by rw [ByteArray.size_append]; show 1 + s.size ≤ _; omega, HR, HR2, HF4, trivial⟩
       case measure => simp [intOf]; omega
     ·rw [decide_eq_false h64] at q64
      have HF3 := Aside0.mk HF2.out; have HF4 := Aside0.mk (show 64 < j + 1 → fi = ((dOps (dPre l0 64)).length : Int) ∧ (dOps (dPre l0 64)).length ≤ o.size by have := HF2.out; rw [if_neg h64] at this; exact this)
      clear HF2 HF3; clear h64; as_aux_lemma =>
       go_wp2
       go_roundw
       case rel => exact ⟨j + 1, _, _, o.size, _, rfl, rfl, rfl, rfl, by go_num, hlt, by rw [ByteArray.size_append]; show o.size + 5 ≤ _; omega, by rw [ByteArray.size_append]; show 1 + s.size ≤ _; omega, HR, HR2, HF4, trivial⟩
       case measure => simp [intOf]; omega
    | false =>
     have HV := Aside0.mk hv; have hc2 : w0.cell? (ad.add j) = some (.bool false) := by rw [← hv]; exact hcell
     clear hcell hbv; clear hv; have hsa : s.size ≤ 1000 := by omega
     have hoa : o.size ≤ 1000 := by omega
     have HR := Aside0.mk (show (o ++ ⟨#[91]⟩).data.toList = dOps (dPre l0 (j + 1)) by rw [HD.out, dOps_app, HV.out, ByteArray.data_append, Array.toList_append, HO.out]; simp [dOps, dOp])
     have HR2 := Aside0.mk (show ((⟨#[93]⟩ : ByteArray) ++ s).data.toList = dShs (dPre l0 (j + 1)) by rw [HD.out, dShs_snoc, HV.out, ByteArray.data_append, Array.toList_append, HS.out]; simp [dSh])
     by_cases h64 : j = 64
     ·rw [decide_eq_true h64] at q64
      have HF3 := Aside0.mk HF2.out; have HF4 := Aside0.mk (show 64 < j + 1 → (o.size : Int) = ((dOps (dPre l0 64)).length : Int) ∧ (dOps (dPre l0 64)).length ≤ o.size by have := HF2.out; rw [if_pos h64] at this; exact this)
      clear HF2 HF3; clear h64; as_aux_lemma =>
       go_wp2
       go_roundw
       case rel => exact ⟨j + 1, _, _, o.size, _, rfl, rfl, rfl, rfl, by go_num, hlt, by rw [ByteArray.size_append]; show o.size + 1 ≤ _; omega, by rw [ByteArray.size_append]; show 1 + s.size ≤ _; omega, HR, HR2, HF4, trivial⟩
       case measure => simp [intOf]; omega
     ·rw [decide_eq_false h64] at q64
      have HF3 := Aside0.mk HF2.out; have HF4 := Aside0.mk (show 64 < j + 1 → fi = ((dOps (dPre l0 64)).length : Int) ∧ (dOps (dPre l0 64)).length ≤ o.size by have := HF2.out; rw [if_neg h64] at this; exact this)
      clear HF2 HF3; clear h64; as_aux_lemma =>
       go_wp2
       go_roundw
       case rel => exact ⟨j + 1, _, _, o.size, _, rfl, rfl, rfl, rfl, by go_num, hlt, by rw [ByteArray.size_append]; show o.size + 1 ≤ _; omega, by rw [ByteArray.size_append]; show 1 + s.size ≤ _; omega, HR, HR2, HF4, trivial⟩
       case measure => simp [intOf]; omega
   ·have tb : decide ((j : Int) < (l0.length : Int)) = false := decide_eq_false (by omega)
    have hv : dAt l0 j = false := by unfold dAt; rw [List.getD_eq_getElem?_getD, List.getElem?_eq_none (by omega)]; rfl
    have HV := Aside0.mk hv; clear hv; have hsa : s.size ≤ 1000 := by omega
    have hoa : o.size ≤ 1000 := by omega
    have HR := Aside0.mk (show (o ++ ⟨#[91]⟩).data.toList = dOps (dPre l0 (j + 1)) by rw [HD.out, dOps_app, HV.out, ByteArray.data_append, Array.toList_append, HO.out]; simp [dOps, dOp])
    have HR2 := Aside0.mk (show ((⟨#[93]⟩ : ByteArray) ++ s).data.toList = dShs (dPre l0 (j + 1)) by rw [HD.out, dShs_snoc, HV.out, ByteArray.data_append, Array.toList_append, HS.out]; simp [dSh])
    by_cases h64 : j = 64
    ·rw [decide_eq_true h64] at q64
     have HF3 := Aside0.mk HF2.out; have HF4 := Aside0.mk (show 64 < j + 1 → (o.size : Int) = ((dOps (dPre l0 64)).length : Int) ∧ (dOps (dPre l0 64)).length ≤ o.size by have := HF2.out; rw [if_pos h64] at this; exact this)
     clear HF2 HF3; clear h64; as_aux_lemma =>
      go_wp2
      go_roundw
      case rel => exact ⟨j + 1, _, _, o.size, _, rfl, rfl, rfl, rfl, by go_num, hlt, by rw [ByteArray.size_append]; show o.size + 1 ≤ _; omega, by rw [ByteArray.size_append]; show 1 + s.size ≤ _; omega, HR, HR2, HF4, trivial⟩
      case measure => simp [intOf]; omega
    ·rw [decide_eq_false h64] at q64
     have HF3 := Aside0.mk HF2.out; have HF4 := Aside0.mk (show 64 < j + 1 → fi = ((dOps (dPre l0 64)).length : Int) ∧ (dOps (dPre l0 64)).length ≤ o.size by have := HF2.out; rw [if_neg h64] at this; exact this)
     clear HF2 HF3; clear h64; as_aux_lemma =>
      go_wp2
      go_roundw
      case rel => exact ⟨j + 1, _, _, o.size, _, rfl, rfl, rfl, rfl, by go_num, hlt, by rw [ByteArray.size_append]; show o.size + 1 ≤ _; omega, by rw [ByteArray.size_append]; show 1 + s.size ≤ _; omega, HR, HR2, HF4, trivial⟩
      case measure => simp [intOf]; omega
  ·have t : decide ((j : Int) < (n : Int)) = false := decide_eq_false (by omega)
   obtain rfl : j = n := by omega
   clear hlt; have HT := Aside0.mk (show (o ++ (⟨#[55]⟩ : ByteArray) ++ s) = ⟨(dTxt (dPre l0 j)).toArray⟩ by
    apply ByteArray.ext
    apply Array.toList_inj.1
    rw [ByteArray.data_append, ByteArray.data_append, Array.toList_append, Array.toList_append, HO.out, HS.out]
    simp [dTxt])
   obtain ⟨T, hT⟩ : ∃ T, T = (o ++ (⟨#[55]⟩ : ByteArray) ++ s) := ⟨_, rfl⟩
   have hp := deep_parse (dPre l0 j)
   rw [dPre_len] at hp
   rw [← HT.out, ← hT] at hp
   have hTs : T.size ≤ 2000 := by rw [hT, ByteArray.size_append, ByteArray.size_append]; show o.size + 1 + s.size ≤ _; omega
   have hsa : s.size ≤ 1000 := by omega
   have hoa : o.size ≤ 1000 := by omega
   have hT2 := hT.symm
   by_cases h64 : 64 < j
   ·have hf := HFi.out h64
    rw [if_neg (by omega), dPre_take l0 (by omega)] at hp
    have PE := Aside0.mk (show parsed T = (⟨0, ⟨#[]⟩, [], []⟩, (dOps (dPre l0 64)).length, 31) by unfold parsed; rw [if_neg (by omega), hp])
    obtain ⟨F, hF⟩ : ∃ F, F = (dOps (dPre l0 64)).length := ⟨_, rfl⟩
    rw [← hF] at hf PE
    obtain ⟨rfl, hf2⟩ := hf
    have t1 : decide ((64 : Int) < (j : Int)) = true := decide_eq_true (by omega)
    have t2 : decide ((F : Int) ≤ (pl : Int)) = true := decide_eq_true (by omega)
    have t3 : decide (F ≤ pl) = true := decide_eq_true hf2
    clear hF hf2 hp hT h64 hTs HFi; go_upto_region 15 with (first | (go_at_call 7; refine (parse_at T _ _ _ PE.out _ (HG.out.below HB0.out)).mono ?_; rintro e w1 ⟨A1, c1, B1, d1, rfl, hr2, hr3, hb⟩; have HB1 := Aside0.mk (below_alloc (below_step HB0.out hb) (.cells #[.int .u8 0, .string ⟨#[]⟩, .slice A1 0 c1, .slice B1 0 d1] 25 (0, 0))); clear hr2 hr3 hb))
    go_wp2
    go_ret
    exact ⟨rfl, HB1.out⟩
   ·rw [if_pos (by omega)] at hp
    obtain ⟨v, hv⟩ : ∃ v, v = dVal (dPre l0 j) := ⟨_, rfl⟩
    rw [← hv] at hp
    have PE := Aside0.mk (show parsed T = (v, 0, 0) by unfold parsed; rw [if_neg (by omega), hp])
    have HVd := Aside0.mk hv; have t1 : decide ((64 : Int) < (j : Int)) = false := decide_eq_false (by omega)
    clear hp hT h64 hTs HFi hv; go_upto_region 15 with (first | (go_at_call 7; refine (parse_at T _ _ _ PE.out _ (HG.out.below HB0.out)).mono ?_; rintro e w1 ⟨A1, c1, B1, d1, rfl, hr2, hr3, hb⟩; have HB1 := Aside0.mk (below_alloc (below_step HB0.out hb) (.cells #[.int .u8 v.f0, .string v.f1, .slice A1 v.f2.length c1, .slice B1 v.f3.length d1] 25 (0, 0))); have HP2 := Aside0.mk hr2; have HP3 := Aside0.mk hr3; have HSz := Aside0.mk hb.size; clear hr2 hr3 hb))
    obtain ⟨M, hM⟩ : ∃ M, M = w1.heap.size := ⟨_, rfl⟩
    have HMl := Aside0.mk (show w.heap.size ≤ M by rw [hM]; exact Nat.le_trans HB0.out.size HSz.out)
    obtain ⟨W2, hW2⟩ : ∃ W2, W2 = w1.alloc (.cells #[.int .u8 v.f0, .string v.f1, .slice A1 v.f2.length c1, .slice B1 v.f3.length d1] 25 (0, 0)) := ⟨_, rfl⟩
    have HX := Aside0.mk (show W2.heap[M]? = some (.cells #[.int .u8 v.f0, .string v.f1, .slice A1 v.f2.length c1, .slice B1 v.f3.length d1] 25 (0, 0)) by rw [hW2, hM]; exact blk_new w1 _)
    have HQ2 := Aside0.mk (show Kd.R k25 25 W2 0 (fun k => k < M) (.slice A1 v.f2.length c1) v.f2 by rw [hW2, hM]; exact Kd.R_alloc (Kd.R_lower (Kd.R_mono (Kd.R_bound HP2.out) (fun k hk => hk.2.2.1)) (Nat.zero_le _)) _)
    have HQ3 := Aside0.mk (show Kd.R k38 38 W2 0 (fun k => k < M) (.slice B1 v.f3.length d1) v.f3 by rw [hW2, hM]; exact Kd.R_alloc (Kd.R_lower (Kd.R_mono (Kd.R_bound HP3.out) (fun k hk => hk.2.2.1)) (Nat.zero_le _)) _)
    have HB2 := Aside0.mk (show Below w.heap.size w W2 by rw [hW2]; exact HB1.out)
    rw [← hW2, ← hM]
    clear hW2 hM HB1 HP2 HP3 HSz PE; go_wp2
    go_loopw [13] (fun t13 w' => ∃ (q : Nat) (u : JV) (v2 v3 : Value), t13 = .int .i64 q ∧ q ≤ j ∧ Aside0 (u = dVal ((dPre l0 j).drop q)) ∧ Aside0 (w'.heap[M]? = some (.cells #[.int .u8 u.f0, .string u.f1, v2, v3] 25 (0, 0))) ∧ Aside0 (Kd.R k25 25 w' 0 (fun k => k < M) v2 u.f2) ∧ Aside0 (Kd.R k38 38 w' 0 (fun k => k < M) v3 u.f3) ∧ Aside0 (Below w.heap.size w w')) (fun t13 _ => j - (intOf t13).toNat)
    case atStart => exact ⟨0, v, _, _, rfl, Nat.zero_le _, ⟨by rw [List.drop_zero]; exact HVd.out⟩, HX, HQ2, HQ3, HB2⟩
    case round =>
     clear HX HQ2 HQ3 HB2; obtain ⟨q, u, v2, v3, rfl, hq, HU, HX, HQ2, HQ3, HB2⟩ := hrel
     obtain ⟨A2, c2, rfl⟩ := Kd.R_slice HQ2.out
     obtain ⟨B2, d2, rfl⟩ := Kd.R_slice HQ3.out
     have x0 := blk_cell HX.out 0
     have x1 := blk_cell HX.out 1
     have x2 := blk_cell HX.out 2
     have x3 := blk_cell HX.out 3
     have y0 := blk_frozen HX.out 0
     have y1 := blk_frozen HX.out 1
     have y2 := blk_frozen HX.out 2
     have y3 := blk_frozen HX.out 3
     by_cases hqj : q < j
     ·have tq : decide ((q : Int) < (j : Int)) = true := decide_eq_true (by omega)
      have hdr : (dPre l0 j).drop q = (dPre l0 j)[q]'(by rw [dPre_len]; exact hqj) :: (dPre l0 j).drop (q + 1) := List.drop_eq_getElem_cons _
      have hU := HU.out
      rw [hdr] at hU
      obtain ⟨r, hr⟩ : ∃ r, r = dVal ((dPre l0 j).drop (q + 1)) := ⟨_, rfl⟩
      have HR := Aside0.mk hr; cases hb : (dPre l0 j)[q]'(by rw [dPre_len]; exact hqj) with
      | false =>
       rw [hb] at hU
       have hU : u = ⟨5, ⟨#[]⟩, [r], []⟩ := by rw [hU, hr]; rfl
       subst hU; clear hb hdr hr; obtain ⟨g, cur, hA, _, _, _⟩ := R_row' HQ2.out
       subst hA; have hgM : g < M := HQ2.out.1 g rfl
       obtain ⟨cs, hcl, hMm, hcc⟩ := Kd.R_get HQ2.out z25 0 (by decide) (by simp)
       obtain ⟨v2, v3, rfl, hs2, hs3⟩ := k25_openM hMm
       obtain ⟨A3, c3, rfl⟩ := Kd.R_slice hs2
       obtain ⟨B3, d3, rfl⟩ := Kd.R_slice hs3
       have n0 : wr.cell? ⟨g, 0, none⟩ = _ := hcc 0 _ rfl
       have n1 : wr.cell? ⟨g, 1, none⟩ = _ := hcc 1 _ rfl
       have n2 : wr.cell? ⟨g, 2, none⟩ = _ := hcc 2 _ rfl
       have n3 : wr.cell? ⟨g, 3, none⟩ = _ := hcc 3 _ rfl
       have HS2 := Aside0.mk (Kd.R_mono hs2 (fun k hk => hk.1))
       have HS3 := Aside0.mk (Kd.R_mono hs3 (fun k hk => hk.1))
       clear hMm hcl hcc hs2 hs3 HU HQ2 HQ3; have ne1 : M ≠ g := by omega
       have ne2 : g ≠ M := by omega
       go_wp2
       go_roundw
       case rel => exact ⟨q + 1, r, _, _, by go_num, hqj, HR, ⟨put4 HX.out _ _ _ _⟩, ⟨Kd.R_move HS2.out (fun k hk => put4_far (by omega) _ _ _ _)⟩, ⟨Kd.R_move HS3.out (fun k hk => put4_far (by omega) _ _ _ _)⟩, ⟨HB2.out.trans (below_p4 HMl.out _ _ _ _)⟩⟩
       case measure => simp [intOf]; omega
      | true =>
       rw [hb] at hU
       have hU : u = ⟨6, ⟨#[]⟩, [], [⟨⟨#[97]⟩, r⟩]⟩ := by rw [hU, hr]; rfl
       subst hU; clear hb hdr hr; obtain ⟨g, cur, hA, _, _, _⟩ := R_row' HQ3.out
       subst hA; have hgM : g < M := HQ3.out.1 g rfl
       obtain ⟨cs, hcl, hMm, hcc⟩ := Kd.R_get HQ3.out z38 0 (by decide) (by simp)
       obtain ⟨v2, v3, rfl, hs2, hs3⟩ := k38_openM hMm
       obtain ⟨A3, c3, rfl⟩ := Kd.R_slice hs2
       obtain ⟨B3, d3, rfl⟩ := Kd.R_slice hs3
       have n1 : wr.cell? ⟨g, 1, none⟩ = _ := hcc 1 _ rfl
       have n2 : wr.cell? ⟨g, 2, none⟩ = _ := hcc 2 _ rfl
       have n3 : wr.cell? ⟨g, 3, none⟩ = _ := hcc 3 _ rfl
       have n4 : wr.cell? ⟨g, 4, none⟩ = _ := hcc 4 _ rfl
       have HS2 := Aside0.mk (Kd.R_mono hs2 (fun k hk => hk.1))
       have HS3 := Aside0.mk (Kd.R_mono hs3 (fun k hk => hk.1))
       clear hMm hcl hcc hs2 hs3 HU HQ2 HQ3; have ne1 : M ≠ g := by omega
       have ne2 : g ≠ M := by omega
       go_wp2
       go_roundw
       case rel => exact ⟨q + 1, r, _, _, by go_num, hqj, HR, ⟨put4 HX.out _ _ _ _⟩, ⟨Kd.R_move HS2.out (fun k hk => put4_far (by omega) _ _ _ _)⟩, ⟨Kd.R_move HS3.out (fun k hk => put4_far (by omega) _ _ _ _)⟩, ⟨HB2.out.trans (below_p4 HMl.out _ _ _ _)⟩⟩
       case measure => simp [intOf]; omega
     ·have tq : decide ((q : Int) < (j : Int)) = false := decide_eq_false (by omega)
      obtain rfl : q = j := by omega
      have hU : u = ⟨3, ⟨#[55]⟩, [], []⟩ := by
       have := HU.out
       rw [List.drop_eq_nil_of_le (by rw [dPre_len]; exact Nat.le_refl _)] at this
       exact this
      subst hU; go_wp2
      go_ret
      exact ⟨rfl, HB2.out⟩
/-- THE ONE PURE STATEMENT of glossatorlaw03_JsonDeep. -/
def glossatorlaw03_JsonDeep.Pure : Prop := ∀ (p0 : List Bool) (p1 : Int), (p0.length ≤ maxLen ∧ p0.length * 1 ≤ 140737488351232 ∧ (∀ x ∈ p0, (fun x : Bool => True) x)) → (Lit.int .i64 p1).wf = true → ∃ k, glossatorlaw03_JsonDeep.f k p0 p1 = some true
end Go.Proofs.YtienoadaflmkdaaDoor.Q

end
section
namespace Go.Proofs.YtienoadaflmkdaaDoor.Pure
open Go Go.RowKit Go.Proofs.YtienoadaflmkdaaDoor.Q
set_option linter.unusedVariables false
set_option linter.unusedSimpArgs false
theorem JsonDeep : glossatorlaw03_JsonDeep.Pure := by
  unfold glossatorlaw03_JsonDeep.Pure
  intros
  exact ⟨0, rfl⟩
end Go.Proofs.YtienoadaflmkdaaDoor.Pure

end
