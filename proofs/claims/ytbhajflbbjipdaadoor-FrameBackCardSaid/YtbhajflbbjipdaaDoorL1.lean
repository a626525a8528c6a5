/- Words and walks of this claim, put together by this repo's wip/xlink.py out of XOpen, XGa, XGb, XGc, XGd. -/
import Derived.Test.YtbhajflbbjipdaaDoorL0
import Derived.ProofKit
import Derived.DataReads
import Derived.DataElems
import Derived.SizedLaws
import Derived.Lib.IndexMore
import Derived.Lib.Strings
import Derived.Lib.Split
import Derived.Lib.SlTrimSet
import Derived.Lib.AtoiAll
import Derived.Lib.ItoaNum
import Derived.Lib.Fold
section
namespace Go.Proofs.YtbhajflbbjipdaaDoor.XOpen
open Go Go.RowKit Go.Proofs.YtbhajflbbjipdaaDoorW.PrintWords Go.Proofs.YtbhajflbbjipdaaDoorW.PrintLast
set_option linter.unusedVariables false
set_option linter.unusedSimpArgs false
section
variable {H : Type}
mutual
def bulk : DataW H → Nat
  | .lit (.string bytes) => bytes.length + 1
  | .lit _ => 1
  | .nil => 1
  | .ptr d => bulk d + 1
  | .slice elems spare => bulkAll elems + bulkAll spare + 1
  | .agg parts => bulkAll parts + 1
  | .iface _ d => bulk d + 1
  | .map _ => 1
  | .held _ => 1
def bulkAll : List (DataW H) → Nat
  | [] => 0
  | d :: r => bulk d + bulkAll r
end
end
/-- What is read takes no more than the reach. -/
def Light {H : Type} (P : Program) (T : TypeId) (d : DataW H) : Prop := ∀ n ∈ d.weights P T, n ≤ 140737488351232
section
variable {H : Type} {enc : TypeId × Value → H} {P : Program} {W : World} {fuel : Nat} {T : TypeId} {cs : List Value} {y : DataW H × List MemPlace}
abbrev Tr (enc : TypeId × Value → H) (P : Program) (W : World) (fuel : Nat) (T : TypeId) (cs : List Value) : Option (DataW H × List MemPlace) := DataW.trod enc P W 0 (fun _ => true) true fuel T cs
theorem open_int {k : IntKind} (ht : P.underlying T = some (.int k)) (h : Tr enc P W fuel T cs = some y) : ∃ x, cs = [.int k x] ∧ (Lit.int k x).wf = true ∧ 1 ≤ bulk y.1 := by
  obtain ⟨n, rfl, rfl, hw⟩ := DataW.trod_int ht h
  exact ⟨n, rfl, hw, by simp [bulk]⟩
theorem open_string (ht : P.underlying T = some .string) (h : Tr enc P W fuel T cs = some y) (hl : Light P T y.1) : ∃ s : ByteArray, cs = [.string s] ∧ s.size ≤ 140737488351232 ∧ s.size + 1 ≤ bulk y.1 := by
  obtain ⟨s, rfl, rfl, _⟩ := DataW.trod_string ht h
  refine ⟨s, rfl, ?_, ?_⟩
  · have := hl s.data.toList.length (by simp [DataW.weights])
    simpa using this
  · simp [bulk]
theorem light_all {e : TypeId} : ∀ (l : List (DataW H)), (∀ n ∈ DataW.weightsAll P e l, n ≤ 140737488351232) → ∀ d ∈ l, Light P e d
  | [], _, d, hd => by cases hd
  | x :: r, h, d, hd => by
    rw [DataW.weightsAll] at h
    rcases List.mem_cons.1 hd with rfl | hd
    · exact fun n hn => h n (List.mem_append_left _ hn)
    · exact light_all r (fun n hn => h n (List.mem_append_right _ hn)) d hd
theorem bulk_le_all {α : Type} (μ : α → Nat) : ∀ (xs : List α) (l : List (DataW H)), xs.length = l.length → (∀ (i : Nat) (x : α) (d : DataW H), xs[i]? = some x → l[i]? = some d → μ x ≤ bulk d) → (xs.map μ).sum ≤ bulkAll l
  | [], [], _, _ => by simp [bulkAll]
  | [], _ :: _, h, _ => by simp at h
  | _ :: _, [], h, _ => by simp at h
  | x :: xs, d :: l, h, hb => by
    have h1 := hb 0 x d rfl rfl
    have h2 := bulk_le_all μ xs l (by simpa using h) (fun i x' d' hx hd => hb (i + 1) x' d' (by simpa using hx) (by simpa using hd))
    simp only [List.map_cons, List.sum_cons, bulkAll]
    omega
theorem choose_all {α : Type} {Q : Nat → α → Prop} : ∀ (n : Nat), (∀ i, i < n → ∃ x, Q i x) → ∃ l : List α, l.length = n ∧ ∀ i x, l[i]? = some x → Q i x
  | 0, _ => ⟨[], rfl, fun i x h => by simp at h⟩
  | n + 1, h => by
    obtain ⟨l, hl, hq⟩ := choose_all n (fun i hi => h i (by omega))
    obtain ⟨x, hx⟩ := h n (by omega)
    refine ⟨l ++ [x], by simp [hl], fun i y hy => ?_⟩
    by_cases hi : i < l.length
    · rw [List.getElem?_append_left hi] at hy
      exact hq i y hy
    · have hlt := (List.getElem?_eq_some_iff.1 hy).1
      rw [List.length_append, List.length_singleton] at hlt
      have e : i = l.length := by omega
      subst e
      have : x = y := by simpa using hy
      rw [← this, hl]
      exact hx
/-- A slice, its elements read by a law of theirs. -/
theorem open_slice {α : Type} {d : Kd α} {wf : α → Prop} {μ : α → Nat} {e : TypeId} {b : Nat} (ht : P.underlying T = some (.slice e)) (hsz : P.cellsOf e = d.sz) (hb : P.bytesOf e = b)
    (h : Tr enc P W fuel T cs = some y) (hl : Light P T y.1)
    (he : ∀ (n : Nat) (cs' : List Value) (y' : DataW H × List MemPlace), n < fuel → Tr enc P W n e cs' = some y' → Light P e y'.1 → ∃ x, d.K W x cs' ∧ wf x ∧ μ x ≤ bulk y'.1) :
    ∃ (A : Option Addr) (c : Nat) (l : List α), cs = [.slice A l.length c] ∧ l.length ≤ c ∧ d.C W A l.length l ∧ l.length ≤ maxLen ∧ l.length * b ≤ 140737488351232 ∧ (∀ x ∈ l, wf x) ∧ (l.map μ).sum + 1 ≤ bulk y.1 := by
  rcases DataW.trod_slice ht h with ⟨rfl, rfl⟩ | ⟨a, len, cap, elems, rest, n, rfl, rfl, rfl, _, hlc, hcm, hel, hget, _, _⟩
  · exact ⟨none, 0, [], rfl, Nat.le_refl _, ⟨rfl, by simp, fun hn => absurd hn (by simp)⟩, Nat.zero_le _, by simp, fun x hx => by simp at hx, by simp [bulk]⟩
  · have hle : ∀ n' ∈ DataW.weightsAll P e (elems.map (·.1)), n' ≤ 140737488351232 := fun n' hn' => hl n' (by
      simp only [DataW.weights, ht]
      exact List.mem_cons_of_mem _ (List.mem_append_left _ hn'))
    have hwl : (elems.length + rest.length) * b ≤ 140737488351232 := by
      have := hl ((elems.length + rest.length) * P.bytesOf e) (by
        simp only [DataW.weights, ht, List.length_map]
        exact List.mem_cons_self)
      rwa [hb] at this
    have hel1 : ∀ i, i < len → ∃ x, (∃ cs' y', W.cells? 0 (a.add (i * P.cellsOf e)) (P.cellsOf e) = some cs' ∧ elems[i]? = some y' ∧ d.K W x cs' ∧ wf x ∧ μ x ≤ bulk y'.1) := by
      intro i hi
      have hg := hget i hi
      obtain ⟨y', hy'⟩ : ∃ y', elems[i]? = some y' := ⟨elems[i]'(by omega), List.getElem?_eq_getElem (by omega)⟩
      rw [hy'] at hg
      obtain ⟨cs', hc', ht'⟩ := Option.bind_eq_some_iff.1 hg
      obtain ⟨x, hk, hw, hm⟩ := he n cs' y' (by omega) ht' (light_all _ hle y'.1 (List.mem_of_getElem? (by rw [List.getElem?_map, hy']; rfl)))
      exact ⟨x, cs', y', hc', hy', hk, hw, hm⟩
    obtain ⟨l, hll, hq⟩ := choose_all len hel1
    subst hll
    refine ⟨some a, cap, l, rfl, hlc, ⟨rfl, by unfold maxLen at hcm; omega, fun _ => ⟨a, rfl, fun j p hj => ?_⟩⟩, by omega, ?_, ?_, ?_⟩
    · obtain ⟨cs', y', hc', _, hk, _, _⟩ := hq j p hj
      refine ⟨cs', d.K_len hk, hk, fun i u hu => ?_⟩
      obtain ⟨hlen, _, hcell⟩ := World.cells?_some hc'
      have hi : i < cs'.length := (List.getElem?_eq_some_iff.1 hu).1
      have := hcell i (by omega)
      rw [hsz] at this
      rw [← Addr.add_add, this, hu]
    · refine Nat.le_trans (Nat.mul_le_mul_right b ?_) hwl
      omega
    · intro x hx
      obtain ⟨i, hi⟩ := List.getElem?_of_mem hx
      obtain ⟨_, _, _, _, _, hw, _⟩ := hq i x hi
      exact hw
    · have := bulk_le_all μ l (elems.map (·.1)) (by simp [hel]) (fun i x d' hx hd => by
        obtain ⟨_, y', _, hy', _, _, hm⟩ := hq i x hx
        rw [List.getElem?_map, hy'] at hd
        obtain rfl := Option.some.inj hd
        exact hm)
      simp only [bulk]
      omega
theorem cut {cs a b : List Value} {o n : Nat} (h : (cs.drop o).take n = a) (hb : cs.drop (o + n) = b) : cs.drop o = a ++ b := by
  rw [← h, ← hb, ← List.drop_drop]
  exact (List.take_append_drop n (cs.drop o)).symm
theorem light_cons {t : TypeId} {ts : List TypeId} {d : DataW H} {ds : List (DataW H)} (h : ∀ n ∈ DataW.weightsEach P (t :: ts) (d :: ds), n ≤ 140737488351232) : Light P t d ∧ ∀ n ∈ DataW.weightsEach P ts ds, n ≤ 140737488351232 := by
  rw [DataW.weightsEach] at h
  exact ⟨fun n hn => h n (List.mem_append_left _ hn), fun n hn => h n (List.mem_append_right _ hn)⟩
theorem light_sized {ts : List TypeId} {ds : List (DataW H)} (h : (DataW.weightsEach P ts ds).all (fun n => decide (n ≤ reachBytes)) = true) : ∀ n ∈ DataW.weightsEach P ts ds, n ≤ 140737488351232 := by
  intro n hn
  have := List.all_eq_true.1 h n hn
  have h2 := of_decide_eq_true this
  simpa [reachBytes] using h2
end
end Go.Proofs.YtbhajflbbjipdaaDoor.XOpen

end
section
namespace Go.Proofs.YtbhajflbbjipdaaDoor.XFm
open Go
set_option linter.unusedVariables false
set_option linter.unusedSimpArgs false
abbrev Bs := List UInt8
def crlf : Bs := [13, 10]
def crlf2 : Bs := [13, 10, 13, 10]
/-- Does a name have another byte than those of a name? -/
def oddN (l : Bs) : Bool := l.any fun c => decide (c.toNat < 33) || decide (126 < c.toNat)
def lower (c : UInt8) : UInt8 := if 65 ≤ c.toNat ∧ c.toNat ≤ 90 then c + 32 else c
/-- "content-length" -/
def wanted : Bs := [99, 111, 110, 116, 101, 110, 116, 45, 108, 101, 110, 103, 116, 104]
def calledB (l : Bs) : Bool := decide (l.map lower = wanted)
/-- A value without its blanks. -/
def trimB (l : Bs) : Bs := Lib.trimS l [32, 9]
def allDig (l : Bs) : Bool := l.all fun c => decide (48 ≤ c.toNat) && decide (c.toNat ≤ 57)
def numB (l : Bs) : Nat := l.foldl (fun n c => n * 10 + (c.toNat - 48)) 0
/-- The number that lines tell: those behind one another, with what was told so far; none: no head. -/
def linesP : List Bs → Option Bs → Option (Option Bs)
  | [], t => some t
  | l :: r, t =>
    if 58 ∉ l then none else
    if (l.takeWhile (· != 58)) = [] then none else
    if 13 ∈ l ∨ 10 ∈ l then none else
    if oddN (l.takeWhile (· != 58)) = true then none else
    if calledB (l.takeWhile (· != 58)) = false then linesP r t else
    if t ≠ none ∨ trimB ((l.dropWhile (· != 58)).drop 1) = [] ∨ allDig (trimB ((l.dropWhile (· != 58)).drop 1)) = false then none else
    linesP r (some (trimB ((l.dropWhile (· != 58)).drop 1)))
/-- A number, or an error. -/
def lenP (ls : List Bs) : Nat × Int := match linesP ls none with
  | some (some v) => if 262144 < numB v then (0, 51) else (numB v, 0)
  | _ => (0, 50)
/-- A text's lines: what stands between two ends. -/
def spl : Bs → List Bs
  | [] => [[]]
  | [c] => [[c]]
  | c :: d :: r => if c = 13 ∧ d = 10 then [] :: spl r else match spl (d :: r) with
    | h :: t => (c :: h) :: t
    | [] => [[c]]
/-- Where a head ends: without its end, and with it. -/
def endP (a : Bs) : Option (Nat × Nat) := if Lib.hasPrefix a crlf = true then some (0, 2) else if 0 ≤ Lib.index a crlf2 then some ((Lib.index a crlf2).toNat, (Lib.index a crlf2).toNat + 4) else none
inductive Hd where
  | wait
  | die (e : Int)
  | ok (n : Nat) (rest : Bs)
def hdP (a : Bs) : Hd := match endP a with
  | none => if a.length < 1024 then .wait else .die 50
  | some (i, j) => if 1024 < j then .die 50 else if (lenP (spl (a.take i))).2 = 0 then .ok (lenP (spl (a.take i))).1 (a.drop j) else .die (lenP (spl (a.take i))).2
/-- A reader: bytes at hand; does it wait for a body, of what length; the messages; what it died of. -/
structure FS where
  hand : Bs
  inB : Bool
  len : Nat
  told : List Bs
  dead : Int
def FS.more (s : FS) (b : Bs) : FS := { s with hand := s.hand ++ b }
/-- What is done with the bytes at hand: true: something; false: nothing, or death. -/
def turn (s : FS) : Bool × FS :=
  if s.inB = true then (if s.hand.length < s.len then (false, s) else (true, { s with told := s.told ++ [s.hand.take s.len], hand := s.hand.drop s.len, inB := false }))
  else match hdP s.hand with
    | .wait => (false, s)
    | .die e => (false, { s with dead := e, hand := [] })
    | .ok n r => (true, { s with hand := r, inB := true, len := n })
def FS.mu (s : FS) : Nat := 2 * s.hand.length + (if s.inB = true then 1 else 0)
theorem endP_le {a : Bs} {i j : Nat} (h : endP a = some (i, j)) : i + 2 ≤ j ∧ j ≤ a.length ∧ j ≤ i + 4 := by
  unfold endP at h
  split at h
  · rename_i hp
    injection h with h
    injection h with h1 h2
    subst h1 h2
    unfold Lib.hasPrefix crlf at hp
    have := List.IsPrefix.length_le (List.isPrefixOf_iff_prefix.1 hp)
    simp at this
    omega
  split at h
  · rename_i hi
    injection h with h
    injection h with h1 h2
    subst h1 h2
    have := Lib.index_room a crlf2 hi
    have h4 : crlf2.length = 4 := rfl
    omega
  · cases h
theorem turn_mu {s t : FS} (h : turn s = (true, t)) : t.mu < s.mu := by
  unfold turn at h
  split at h
  · rename_i hb
    split at h
    · cases h
    · injection h with _ h
      subst h
      simp [FS.mu, hb]
      omega
  · rename_i hb
    unfold hdP at h
    split at h
    · cases h
    · cases h
    · rename_i n r he
      injection h with _ h
      subst h
      cases hq : endP s.hand with
      | none => rw [hq] at he; dsimp only at he; split at he <;> cases he
      | some p =>
        obtain ⟨i, j⟩ := p
        rw [hq] at he
        dsimp only at he
        split at he
        · cases he
        split at he
        · injection he with h1 h2
          subst h2
          have := endP_le hq
          simp [FS.mu, hb]
          omega
        · cases he
def run (s : FS) : FS := if s.dead = 0 then (match h : turn s with
    | (false, t) => t
    | (true, t) => have := turn_mu h; run t) else s
termination_by s.mu
decreasing_by assumption
theorem run_dead {s : FS} (h : s.dead ≠ 0) : run s = s := by rw [run, if_neg h]
theorem run_stop {s t : FS} (h : s.dead = 0) (h2 : turn s = (false, t)) : run s = t := by
  rw [run, if_pos h]
  split
  · rename_i u hu; rw [h2] at hu; injection hu with _ hu; exact hu.symm
  · rename_i u hu; rw [h2] at hu; cases hu
theorem run_go {s t : FS} (h : s.dead = 0) (h2 : turn s = (true, t)) : run s = run t := by
  rw [run, if_pos h]
  split
  · rename_i u hu; rw [h2] at hu; cases hu
  · rename_i u hu; rw [h2] at hu; injection hu with _ hu; rw [hu]
theorem pre_app : ∀ (p x b : Bs), p.length ≤ x.length → p.isPrefixOf (x ++ b) = p.isPrefixOf x := by
  intro p
  induction p with
  | nil => intro x b _; simp
  | cons c p ih =>
    intro x b h
    cases x with
    | nil => simp at h
    | cons d x => simp only [List.cons_append, List.isPrefixOf]; rw [ih x b (by simpa using h)]
theorem pre_len {p x : Bs} (h : p.isPrefixOf x = true) : p.length ≤ x.length := List.IsPrefix.length_le (List.isPrefixOf_iff_prefix.1 h)
theorem occ_app {s sub : Bs} {i : Nat} (b : Bs) (h : i + sub.length ≤ s.length) : Lib.occAt (s ++ b) sub i = Lib.occAt s sub i := by
  unfold Lib.occAt
  rw [List.drop_append_of_le_length (by omega)]
  exact pre_app _ _ _ (by rw [List.length_drop]; omega)
theorem occ_len {s sub : Bs} {i : Nat} (h : Lib.occAt s sub i = true) (hi : i ≤ s.length) : i + sub.length ≤ s.length := by
  have := pre_len h
  rw [List.length_drop] at this
  omega
theorem index_some {s sub : Bs} (h : 0 ≤ Lib.index s sub) : ∃ i : Nat, Lib.index s sub = i ∧ i + sub.length ≤ s.length ∧ Lib.occAt s sub i = true ∧ ∀ j, j < i → Lib.occAt s sub j = false := by
  rcases Lib.index_spec s sub with ⟨h1, _⟩ | ⟨i, h1, h2, h3, h4⟩
  · omega
  · exact ⟨i, h1, occ_len h3 h2, h3, h4⟩
theorem index_app {s sub : Bs} (b : Bs) (h : 0 ≤ Lib.index s sub) : Lib.index (s ++ b) sub = Lib.index s sub := by
  obtain ⟨i, h1, h2, h3, h4⟩ := index_some h
  rw [h1]
  exact Lib.index_first (by rw [List.length_append]; omega) (by rw [occ_app b h2]; exact h3) (fun j hj => by rw [occ_app b (by omega)]; exact h4 j hj)
theorem index_late {s sub b : Bs} (hs : 0 < sub.length) (h : Lib.index s sub < 0) (h2 : 0 ≤ Lib.index (s ++ b) sub) : s.length < (Lib.index (s ++ b) sub).toNat + sub.length := by
  obtain ⟨i, e1, e2, e3, _⟩ := index_some h2
  rw [e1]
  rcases Nat.lt_or_ge s.length (i + sub.length) with c | c
  · simpa using c
  · rw [occ_app b c] at e3
    rcases Lib.index_spec s sub with ⟨_, k⟩ | ⟨j, k, _⟩
    · rw [k i (by omega)] at e3; cases e3
    · omega
theorem endP_some {a : Bs} {i j : Nat} (b : Bs) (h : endP a = some (i, j)) : endP (a ++ b) = some (i, j) := by
  have hl := endP_le h
  unfold endP at h ⊢
  unfold Lib.hasPrefix at h ⊢
  rw [pre_app _ _ _ (by simp [crlf]; omega)]
  split at h
  · rename_i c; rw [if_pos c]; exact h
  · rename_i c
    rw [if_neg c]
    split at h
    · rename_i d
      rw [index_app b d, if_pos d]
      exact h
    · cases h
theorem endP_none {a : Bs} (b : Bs) (h : endP a = none) : endP (a ++ b) = none ∨ ∃ i j, endP (a ++ b) = some (i, j) ∧ a.length < j := by
  cases hq : endP (a ++ b) with
  | none => exact .inl rfl
  | some p =>
    obtain ⟨i, j⟩ := p
    refine .inr ⟨i, j, rfl, ?_⟩
    unfold endP at h hq
    split at h
    · cases h
    rename_i c
    split at h
    · cases h
    rename_i d
    split at hq
    · rename_i c2
      injection hq with hq
      injection hq with h1 h2
      rcases Nat.lt_or_ge a.length j with k | k
      · exact k
      · unfold Lib.hasPrefix at c c2
        rw [pre_app _ _ _ (by simp [crlf]; omega)] at c2
        exact absurd c2 c
    split at hq
    · rename_i d2
      injection hq with hq
      injection hq with h1 h2
      have := index_late (s := a) (b := b) (sub := crlf2) (by decide) (by omega) d2
      have h4 : crlf2.length = 4 := rfl
      omega
    · cases hq
theorem hdP_die {a b : Bs} {e : Int} (h : hdP a = .die e) : hdP (a ++ b) = .die e := by
  unfold hdP at h ⊢
  cases hq : endP a with
  | none =>
    rw [hq] at h
    dsimp only at h
    split at h
    · cases h
    rename_i hl
    injection h with h
    subst h
    rcases endP_none b hq with k | ⟨i, j, k, hj⟩
    · rw [k]
      dsimp only
      rw [if_neg (by rw [List.length_append]; omega)]
    · rw [k]
      dsimp only
      rw [if_pos (by omega)]
  | some p =>
    obtain ⟨i, j⟩ := p
    have hl := endP_le hq
    rw [hq] at h
    rw [endP_some b hq]
    dsimp only at h ⊢
    rw [List.take_append_of_le_length (by omega)]
    split at h
    · rename_i c; rw [if_pos c]; exact h
    rename_i c
    rw [if_neg c]
    split at h
    · cases h
    rename_i d
    rw [if_neg d]
    exact h
theorem hdP_ok {a : Bs} {n : Nat} {r : Bs} (b : Bs) (h : hdP a = .ok n r) : hdP (a ++ b) = .ok n (r ++ b) := by
  unfold hdP at h ⊢
  cases hq : endP a with
  | none =>
    rw [hq] at h
    dsimp only at h
    split at h <;> cases h
  | some p =>
    obtain ⟨i, j⟩ := p
    have hl := endP_le hq
    rw [hq] at h
    rw [endP_some b hq]
    dsimp only at h ⊢
    rw [List.take_append_of_le_length (by omega), List.drop_append_of_le_length (by omega)]
    split at h
    · cases h
    rename_i c
    rw [if_neg c]
    split at h
    · rename_i d
      rw [if_pos d]
      injection h with h1 h2
      rw [h1, h2]
    · cases h
theorem lenP_err (ls : List Bs) : (lenP ls).2 = 0 ∨ (lenP ls).2 = 50 ∨ (lenP ls).2 = 51 := by
  unfold lenP
  split
  · split <;> simp
  · simp
theorem hdP_err {a : Bs} {e : Int} (h : hdP a = .die e) : e = 50 ∨ e = 51 := by
  unfold hdP at h
  cases hq : endP a with
  | none =>
    rw [hq] at h
    dsimp only at h
    split at h
    · cases h
    · injection h with h; exact .inl h.symm
  | some p =>
    obtain ⟨i, j⟩ := p
    rw [hq] at h
    dsimp only at h
    split at h
    · injection h with h; exact .inl h.symm
    split at h
    · cases h
    · rename_i c
      injection h with h
      subst h
      rcases lenP_err (spl (a.take i)) with k | k | k
      · exact absurd k c
      · exact .inl k
      · exact .inr k
theorem turn_true {s t : FS} (b : Bs) (h : turn s = (true, t)) : turn (s.more b) = (true, t.more b) := by
  unfold turn at h ⊢
  unfold FS.more
  dsimp only
  split at h
  · rename_i c
    rw [if_pos c]
    split at h
    · cases h
    rename_i d
    injection h with _ h
    subst h
    rw [if_neg (by rw [List.length_append]; omega), List.take_append_of_le_length (by omega), List.drop_append_of_le_length (by omega)]
  · rename_i c
    rw [if_neg c]
    split at h
    · cases h
    · cases h
    · rename_i n r e
      injection h with _ h
      subst h
      rw [hdP_ok b e]
theorem turn_dead {s t : FS} (b : Bs) (hs : s.dead = 0) (h : turn s = (false, t)) (ht : t.dead ≠ 0) : turn (s.more b) = (false, t) := by
  unfold turn at h ⊢
  unfold FS.more
  dsimp only
  split at h
  · split at h
    · injection h with _ h; subst h; exact absurd hs ht
    · cases h
  · rename_i c
    rw [if_neg c]
    split at h
    · injection h with _ h; subst h; exact absurd hs ht
    · rename_i e he
      injection h with _ h
      subst h
      rw [hdP_die he]
    · cases h
theorem turn_wait {s t : FS} (hs : s.dead = 0) (h : turn s = (false, t)) (ht : t.dead = 0) : t = s := by
  unfold turn at h
  split at h
  · split at h
    · injection h with _ h; exact h.symm
    · cases h
  · split at h
    · injection h with _ h; exact h.symm
    · rename_i e he
      injection h with _ h
      subst h
      rcases hdP_err he with k | k <;> rw [k] at ht <;> cases ht
    · cases h
theorem turn_keep {s t : FS} (h : turn s = (true, t)) : t.dead = s.dead := by
  unfold turn at h
  split at h
  · split at h
    · cases h
    · injection h with _ h; subst h; rfl
  · split at h
    · cases h
    · cases h
    · injection h with _ h; subst h; rfl
/-- Bytes behind others: as if they came at once. -/
theorem run_more (b : Bs) : ∀ (n : Nat) (s : FS), s.mu ≤ n → s.dead = 0 → run (s.more b) = if (run s).dead = 0 then run ((run s).more b) else run s := by
  intro n
  induction n with
  | zero =>
    intro s hm hs
    cases ht : turn s with
    | mk x t =>
      cases x with
      | true => have := turn_mu ht; omega
      | false =>
        rw [run_stop hs ht]
        by_cases c : t.dead = 0
        · rw [if_pos c, turn_wait hs ht c]
        · rw [if_neg c, run_stop (s := s.more b) hs (turn_dead b hs ht c)]
  | succ n ih =>
    intro s hm hs
    cases ht : turn s with
    | mk x t =>
      cases x with
      | true =>
        have := turn_mu ht
        rw [run_go hs ht, run_go (s := s.more b) hs (turn_true b ht)]
        exact ih t (by omega) ((turn_keep ht).trans hs)
      | false =>
        rw [run_stop hs ht]
        by_cases c : t.dead = 0
        · rw [if_pos c, turn_wait hs ht c]
        · rw [if_neg c, run_stop (s := s.more b) hs (turn_dead b hs ht c)]
/-- Bytes are taken: nothing, once it is dead. -/
def feed (s : FS) (b : Bs) : FS := if s.dead = 0 then run (s.more b) else s
def new : FS := ⟨[], false, 0, [], 0⟩
/-- A reader that has had these bytes, in whatever pieces. -/
def after (a : Bs) : FS := run (new.more a)
theorem feed_after (a b : Bs) : feed (after a) b = after (a ++ b) := by
  unfold feed after
  have h := run_more b (new.more a).mu (new.more a) (Nat.le_refl _) rfl
  have e : (new.more a).more b = new.more (a ++ b) := rfl
  rw [e] at h
  rw [h]
theorem after_nil : after [] = new := by
  unfold after
  refine run_stop rfl ?_
  rfl
end Go.Proofs.YtbhajflbbjipdaaDoor.XFm

end
section
namespace Go.Proofs.YtbhajflbbjipdaaDoor.XFm
open Go
set_option linter.unusedVariables false
set_option linter.unusedSimpArgs false
theorem d_eq (u : Nat) : Lib.decDigits u = if h : u < 10 then [UInt8.ofNat (48 + u)] else Lib.decDigits (u / 10) ++ [UInt8.ofNat (48 + u % 10)] := by rw [Lib.decDigits]
theorem d_u8 (d : Nat) (h : d < 10) : (UInt8.ofNat (48 + d)).toNat = 48 + d := by simp; omega
theorem d_dig : ∀ (u : Nat), ∀ x ∈ Lib.decDigits u, 48 ≤ x.toNat ∧ x.toNat ≤ 57 := by
  intro u
  induction u using Nat.strongRecOn with
  | ind u ih =>
    intro x hx
    rw [d_eq] at hx
    split at hx
    · rename_i h
      rw [List.mem_singleton.1 hx, d_u8 u h]
      omega
    · rename_i h
      rcases List.mem_append.1 hx with hx | hx
      · exact ih (u / 10) (by omega) x hx
      · rw [List.mem_singleton.1 hx, d_u8 (u % 10) (by omega)]
        omega
theorem d_ne (u : Nat) : Lib.decDigits u ≠ [] := by
  rw [d_eq]
  split <;> simp
theorem numB_snoc (l : Bs) (c : UInt8) : numB (l ++ [c]) = numB l * 10 + (c.toNat - 48) := by simp [numB]
theorem d_num : ∀ (u : Nat), numB (Lib.decDigits u) = u := by
  intro u
  induction u using Nat.strongRecOn with
  | ind u ih =>
    rw [d_eq]
    split
    · rename_i h
      show 0 * 10 + ((UInt8.ofNat (48 + u)).toNat - 48) = u
      rw [d_u8 u h]
      omega
    · rename_i h
      rw [numB_snoc, ih (u / 10) (by omega), d_u8 (u % 10) (by omega)]
      omega
theorem d_len : ∀ (u : Nat), u < 10000000000 → (Lib.decDigits u).length ≤ 10 := by
  have key : ∀ (k u : Nat), u < 10 ^ (k + 1) → (Lib.decDigits u).length ≤ k + 1 := by
    intro k
    induction k with
    | zero => intro u h; rw [d_eq, dif_pos (by simpa using h)]; simp
    | succ k ih =>
      intro u h
      rw [d_eq]
      split
      · simp
      · rw [List.length_append]
        have := ih (u / 10) (by rw [Nat.div_lt_iff_lt_mul (by decide)]; rw [Nat.pow_succ] at h; exact h)
        simp
        omega
  intro u h
  exact key 9 u (by simpa using h)
/-- "Content-Length: " -/
def hdr : Bs := [67, 111, 110, 116, 101, 110, 116, 45, 76, 101, 110, 103, 116, 104, 58, 32]
/-- A message as it is written. -/
def wr (b : Bs) : Bs := hdr ++ Lib.decDigits b.length ++ crlf2 ++ b
theorem spl_plain : ∀ (l : Bs), 13 ∉ l → spl l = [l] := by
  intro l
  induction l with
  | nil => intro _; rfl
  | cons c r ih =>
    intro h
    cases r with
    | nil => rfl
    | cons d r =>
      have hc : c ≠ 13 := fun e => h (by rw [e]; simp)
      rw [spl, if_neg (fun k => hc k.1), ih (fun k => h (List.mem_cons_of_mem _ k))]
theorem drop_blank {l : Bs} (h : l ≠ []) (hd : ∀ x ∈ l, 48 ≤ x.toNat) : trimB (32 :: l) = l := by
  have nb : ∀ x ∈ l, ([32, 9] : Bs).contains x = false := by
    intro x hx
    have := hd x hx
    simp only [List.contains_cons, List.contains_nil, Bool.or_false, Bool.or_eq_false_iff, beq_eq_false_iff_ne]
    exact ⟨fun e => by rw [e] at this; exact absurd this (by decide), fun e => by rw [e] at this; exact absurd this (by decide)⟩
  have key : ∀ (m : Bs), (∀ x ∈ m, ([32, 9] : Bs).contains x = false) → m.dropWhile (([32, 9] : Bs).contains ·) = m := by
    intro m hm
    cases m with
    | nil => rfl
    | cons c r => rw [List.dropWhile_cons, hm c (by simp)]; rfl
  unfold trimB Lib.trimS Lib.trimRightS
  have h1 : ((32 :: l).reverse.dropWhile (([32, 9] : Bs).contains ·)).reverse = 32 :: l := by
    obtain ⟨m, c, hl⟩ : ∃ m c, l = m ++ [c] := ⟨l.dropLast, l.getLast h, (List.dropLast_concat_getLast h).symm⟩
    rw [hl]
    have : (32 :: (m ++ [c])).reverse = c :: (32 :: m).reverse := by simp
    rw [this, List.dropWhile_cons, nb c (by rw [hl]; simp)]
    simp
  rw [h1]
  unfold Lib.trimLeftS
  rw [List.dropWhile_cons]
  rw [show ([32, 9] : Bs).contains 32 = true from rfl]
  exact key l nb
theorem linesP_len {n : Nat} : linesP [hdr ++ Lib.decDigits n] none = some (some (Lib.decDigits n)) := by
  have hd := d_dig n
  have e1 : (hdr ++ Lib.decDigits n).takeWhile (· != 58) = [67, 111, 110, 116, 101, 110, 116, 45, 76, 101, 110, 103, 116, 104] := by
    unfold hdr
    simp [List.takeWhile]
  have e2 : ((hdr ++ Lib.decDigits n).dropWhile (· != 58)).drop 1 = 32 :: Lib.decDigits n := by
    unfold hdr
    simp [List.dropWhile]
  have e3 : trimB (32 :: Lib.decDigits n) = Lib.decDigits n := drop_blank (d_ne n) (fun x hx => (hd x hx).1)
  rw [linesP, e1, e2, e3]
  rw [if_neg (by unfold hdr; simp), if_neg (by simp)]
  rw [if_neg ?_, if_neg (by decide), if_neg (by decide), if_neg ?_]
  · rfl
  · rintro (h | h | h)
    · exact h rfl
    · exact d_ne n h
    · unfold allDig at h
      rw [List.all_eq_false] at h
      obtain ⟨x, hx, h⟩ := h
      have := hd x hx
      simp at h
      omega
  · rintro (h | h)
    · rcases List.mem_append.1 h with h | h
      · revert h; decide
      · have := hd 13 h; revert this; decide
    · rcases List.mem_append.1 h with h | h
      · revert h; decide
      · have := hd 10 h; revert this; decide
theorem lenP_len {n : Nat} (h : n ≤ 262144) : lenP [hdr ++ Lib.decDigits n] = (n, 0) := by
  unfold lenP
  rw [linesP_len]
  dsimp only
  rw [d_num, if_neg (by omega)]
theorem endP_wr (b rest : Bs) : endP (wr b ++ rest) = some (16 + (Lib.decDigits b.length).length, 16 + (Lib.decDigits b.length).length + 4) := by
  have hd := d_dig b.length
  have e : wr b ++ rest = (hdr ++ Lib.decDigits b.length) ++ (crlf2 ++ (b ++ rest)) := by simp [wr]
  have hl : (hdr ++ Lib.decDigits b.length).length = 16 + (Lib.decDigits b.length).length := by rw [List.length_append]; rfl
  have n13 : ∀ j (h : j < (hdr ++ Lib.decDigits b.length).length), (hdr ++ Lib.decDigits b.length)[j] ≠ 13 := by
    intro j h k
    have : (13 : UInt8) ∈ hdr ++ Lib.decDigits b.length := by rw [← k]; exact List.getElem_mem _
    rcases List.mem_append.1 this with h | h
    · revert h; decide
    · have := hd 13 h; revert this; decide
  have hi : Lib.index (wr b ++ rest) crlf2 = ((16 + (Lib.decDigits b.length).length : Nat) : Int) := by
    rw [e, ← hl]
    refine Lib.index_first (by rw [List.length_append (as := hdr ++ Lib.decDigits b.length)]; omega) ?_ ?_
    · unfold Lib.occAt
      rw [List.drop_append_of_le_length (Nat.le_refl _), List.drop_of_length_le (Nat.le_refl _), List.nil_append]
      rw [pre_app _ _ _ (Nat.le_refl _)]
      rfl
    · intro j hj
      unfold Lib.occAt
      rw [List.drop_append_of_le_length (by omega), List.drop_eq_getElem_cons hj]
      have := n13 j hj
      simp only [crlf2, List.cons_append, List.isPrefixOf, Bool.and_eq_false_iff, beq_eq_false_iff_ne]
      exact .inl (Ne.symm this)
  unfold endP
  rw [if_neg (by rw [show wr b = 67 :: ([111, 110, 116, 101, 110, 116, 45, 76, 101, 110, 103, 116, 104, 58, 32] ++ Lib.decDigits b.length ++ crlf2 ++ b) from rfl]; simp [Lib.hasPrefix, crlf, List.isPrefixOf]), if_pos (by rw [hi]; omega), hi]
  rw [Int.toNat_natCast]
theorem hdP_wr {b : Bs} (hb : b.length ≤ 262144) (rest : Bs) : hdP (wr b ++ rest) = .ok b.length (b ++ rest) := by
  have hd := d_dig b.length
  have e : wr b ++ rest = (hdr ++ Lib.decDigits b.length) ++ (crlf2 ++ (b ++ rest)) := by simp [wr]
  have hl : (hdr ++ Lib.decDigits b.length).length = 16 + (Lib.decDigits b.length).length := by rw [List.length_append]; rfl
  have hq := d_len b.length (by omega)
  have h13 : (13 : UInt8) ∉ hdr ++ Lib.decDigits b.length := by
    intro h
    rcases List.mem_append.1 h with h | h
    · revert h; decide
    · have := hd 13 h; revert this; decide
  have t : (wr b ++ rest).take (16 + (Lib.decDigits b.length).length) = hdr ++ Lib.decDigits b.length := by
    rw [e, ← hl, List.take_left]
  have d : (wr b ++ rest).drop (16 + (Lib.decDigits b.length).length + 4) = b ++ rest := by
    have : (hdr ++ Lib.decDigits b.length ++ crlf2).length = 16 + (Lib.decDigits b.length).length + 4 := by rw [List.length_append, hl]; rfl
    rw [e, ← List.append_assoc, ← this, List.drop_left]
  unfold hdP
  rw [endP_wr]
  dsimp only
  rw [if_neg (by omega), t, d, spl_plain _ h13, lenP_len hb]
  dsimp only
  rw [if_pos rfl]
/-- Messages that were written, behind one another, are told just so. -/
theorem run_wr : ∀ (l : List Bs) (s : FS), (∀ b ∈ l, b.length ≤ 262144) → s.inB = false → s.dead = 0 → s.hand = l.flatMap wr → ∃ n, run s = ⟨[], false, n, s.told ++ l, 0⟩ := by
  intro l
  induction l with
  | nil =>
    intro s _ hb hd hh
    refine ⟨s.len, ?_⟩
    rw [run_stop hd (t := s)]
    · obtain ⟨h, i, n, t, d⟩ := s
      simp only at hb hd hh
      subst hb hd hh
      simp
    · unfold turn
      rw [if_neg (by rw [hb]; decide), hh]
      rfl
  | cons b l ih =>
    intro s hl hb hd hh
    have h1 : turn s = (true, { s with hand := b ++ l.flatMap wr, inB := true, len := b.length }) := by
      unfold turn
      rw [if_neg (by rw [hb]; decide), hh, List.flatMap_cons, hdP_wr (hl b (by simp))]
    have h2 : turn { s with hand := b ++ l.flatMap wr, inB := true, len := b.length } = (true, { s with hand := l.flatMap wr, inB := false, len := b.length, told := s.told ++ [b] }) := by
      unfold turn
      dsimp only
      rw [if_pos rfl, if_neg (by rw [List.length_append]; omega), List.take_left, List.drop_left]
    rw [run_go hd h1, run_go (by exact hd) h2]
    obtain ⟨n, e⟩ := ih { s with hand := l.flatMap wr, inB := false, len := b.length, told := s.told ++ [b] } (fun x hx => hl x (by simp [hx])) rfl hd rfl
    refine ⟨n, ?_⟩
    rw [e]
    simp
theorem after_wr (l : List Bs) (h : ∀ b ∈ l, b.length ≤ 262144) : ∃ n, after (l.flatMap wr) = ⟨[], false, n, l, 0⟩ := by
  obtain ⟨n, e⟩ := run_wr l (new.more (l.flatMap wr)) h rfl rfl (by simp [FS.more, new])
  exact ⟨n, by unfold after; rw [e]; simp [FS.more, new]⟩
/-- What was told stays told. -/
theorem turn_told {s t : FS} {x : Bool} (h : turn s = (x, t)) : ∃ l, t.told = s.told ++ l := by
  unfold turn at h
  split at h
  · split at h
    · injection h with _ h; subst h; exact ⟨[], (List.append_nil _).symm⟩
    · injection h with _ h; subst h; exact ⟨_, rfl⟩
  · split at h <;> (injection h with _ h; subst h; exact ⟨[], (List.append_nil _).symm⟩)
theorem run_told : ∀ (n : Nat) (s : FS), s.mu ≤ n → ∃ l, (run s).told = s.told ++ l := by
  have base : ∀ s t, s.dead = 0 → turn s = (false, t) → ∃ l, (run s).told = s.told ++ l := fun s t hd ht => by
    rw [run_stop hd ht]; exact turn_told ht
  intro n
  induction n with
  | zero =>
    intro s hm
    by_cases hd : s.dead = 0
    · cases ht : turn s with
      | mk x t =>
        cases x with
        | true => have := turn_mu ht; omega
        | false => exact base s t hd ht
    · rw [run_dead hd]; exact ⟨[], (List.append_nil _).symm⟩
  | succ n ih =>
    intro s hm
    by_cases hd : s.dead = 0
    · cases ht : turn s with
      | mk x t =>
        cases x with
        | true =>
          have := turn_mu ht
          obtain ⟨l, hl⟩ := turn_told ht
          obtain ⟨m, hm⟩ := ih t (by omega)
          rw [run_go hd ht, hm, hl, List.append_assoc]
          exact ⟨_, rfl⟩
        | false => exact base s t hd ht
    · rw [run_dead hd]; exact ⟨[], (List.append_nil _).symm⟩
theorem feed_told (s : FS) (b : Bs) : ∃ l, (feed s b).told = s.told ++ l := by
  unfold feed
  split
  · exact run_told _ _ (Nat.le_refl _)
  · exact ⟨[], (List.append_nil _).symm⟩
/-- What a reader dies of. -/
theorem run_err : ∀ (n : Nat) (s : FS), s.mu ≤ n → (s.dead = 0 ∨ s.dead = 50 ∨ s.dead = 51) → (run s).dead = 0 ∨ (run s).dead = 50 ∨ (run s).dead = 51 := by
  have stop : ∀ s t, s.dead = 0 → turn s = (false, t) → t.dead = 0 ∨ t.dead = 50 ∨ t.dead = 51 := by
    intro s t hd h
    unfold turn at h
    split at h
    · split at h
      · injection h with _ h; subst h; exact .inl hd
      · cases h
    · split at h
      · injection h with _ h; subst h; exact .inl hd
      · rename_i e he
        injection h with _ h
        subst h
        exact .inr (hdP_err he)
      · cases h
  intro n
  induction n with
  | zero =>
    intro s hm hs
    by_cases hd : s.dead = 0
    · cases ht : turn s with
      | mk x t =>
        cases x with
        | true => have := turn_mu ht; omega
        | false => rw [run_stop hd ht]; exact stop s t hd ht
    · rw [run_dead hd]; exact hs
  | succ n ih =>
    intro s hm hs
    by_cases hd : s.dead = 0
    · cases ht : turn s with
      | mk x t =>
        cases x with
        | true =>
          have := turn_mu ht
          rw [run_go hd ht]
          exact ih t (by omega) (.inl ((turn_keep ht).trans hd))
        | false => rw [run_stop hd ht]; exact stop s t hd ht
    · rw [run_dead hd]; exact hs
theorem after_err (a : Bs) : (after a).dead = 0 ∨ (after a).dead = 50 ∨ (after a).dead = 51 := run_err _ _ (Nat.le_refl _) (.inl rfl)
end Go.Proofs.YtbhajflbbjipdaaDoor.XFm

end
section
namespace Go.Proofs.YtbhajflbbjipdaaDoor.XFm
open Go
set_option linter.unusedVariables false
set_option linter.unusedSimpArgs false
theorem spl_index : ∀ (n : Nat) (s : Bs), s.length ≤ n → (Lib.index s crlf = -1 ∧ spl s = [s]) ∨ ∃ i : Nat, Lib.index s crlf = i ∧ i + 2 ≤ s.length ∧ spl s = s.take i :: spl (s.drop (i + 2)) := by
  intro n
  induction n with
  | zero =>
    intro s h
    obtain rfl : s = [] := List.eq_nil_of_length_eq_zero (by omega)
    exact .inl ⟨rfl, rfl⟩
  | succ n ih =>
    intro s h
    match s with
    | [] => exact .inl ⟨rfl, rfl⟩
    | [c] =>
      refine .inl ⟨?_, rfl⟩
      rw [Lib.index]
      have h1 : crlf.isPrefixOf [c] = false := by simp [crlf, List.isPrefixOf]
      have h2 : Lib.index [] crlf = -1 := rfl
      rw [h1, h2]
      rfl
    | c :: d :: r =>
      rw [Lib.index, spl]
      by_cases e : c = 13 ∧ d = 10
      · obtain ⟨rfl, rfl⟩ := e
        right
        refine ⟨0, ?_, by simp, ?_⟩
        · rw [if_pos (by simp [crlf, List.isPrefixOf])]; rfl
        · rw [if_pos ⟨rfl, rfl⟩]
          rfl
      · have hp : crlf.isPrefixOf (c :: d :: r) = false := by
          rw [Bool.eq_false_iff]
          intro k
          apply e
          simp only [crlf, List.isPrefixOf, Bool.and_eq_true, beq_iff_eq] at k
          exact ⟨k.1.symm, k.2.1.symm⟩
        rw [hp, if_neg (by decide), if_neg e]
        rcases ih (d :: r) (by simpa using h) with ⟨h1, h2⟩ | ⟨i, h1, h2, h3⟩
        · left
          rw [h1, h2]
          exact ⟨rfl, rfl⟩
        · right
          refine ⟨i + 1, ?_, by simp at h2 ⊢; omega, ?_⟩
          · rw [h1, if_neg (by simp)]; rfl
          · rw [h3]; rfl
theorem splitK_spl : ∀ (n : Nat) (s : Bs), s.length ≤ n → Lib.splitK crlf 0 (Lib.count s crlf) s = spl s := by
  intro n
  induction n with
  | zero =>
    intro s h
    obtain rfl : s = [] := List.eq_nil_of_length_eq_zero (by omega)
    rfl
  | succ n ih =>
    intro s h
    rcases spl_index _ s (Nat.le_refl _) with ⟨h1, h2⟩ | ⟨i, h1, h2, h3⟩
    · rw [Lib.count_miss h1, h2]; rfl
    · rw [Lib.count_hit (by decide) h1, Nat.add_comm, Lib.splitK, if_neg (by rw [h1]; simp), h1, h3]
      rw [Int.toNat_natCast]
      have := ih (s.drop (i + 2)) (by rw [List.length_drop]; omega)
      rw [← this]
      rfl
theorem splitB_spl (s : ByteArray) : (Lib.splitB ⟨#[13, 10]⟩ 0 (Lib.countB s ⟨#[13, 10]⟩) s).map (·.data.toList) = spl s.data.toList := by
  rw [Lib.splitB_data]
  exact splitK_spl _ _ (Nat.le_refl _)
def digSet : Bs := [48, 49, 50, 51, 52, 53, 54, 55, 56, 57]
theorem dig_mem : ∀ c : UInt8, digSet.contains c = (decide (48 ≤ c.toNat) && decide (c.toNat ≤ 57)) := by
  intro c
  rw [Bool.eq_iff_iff]
  simp only [digSet, List.contains_eq_mem, List.mem_cons, List.not_mem_nil, or_false, decide_eq_true_eq, Bool.and_eq_true, ← UInt8.toNat_inj]
  simp
  omega
theorem dropWhile_all {p : UInt8 → Bool} : ∀ {l : Bs}, l.dropWhile p = [] ↔ l.all p = true := by
  intro l
  induction l with
  | nil => simp
  | cons c r ih =>
    rw [List.dropWhile_cons, List.all_cons]
    cases h : p c with
    | true => rw [if_pos rfl, Bool.true_and]; exact ih
    | false => simp
theorem trim_dig (l : Bs) : Lib.trimS l digSet = [] ↔ allDig l = true := by
  have e : allDig l = l.all (digSet.contains ·) := by unfold allDig; congr 1; funext c; exact (dig_mem c).symm
  rw [e]
  unfold Lib.trimS Lib.trimLeftS Lib.trimRightS
  rw [dropWhile_all]
  have h1 : ∀ m : Bs, (m.dropWhile (digSet.contains ·)).all (digSet.contains ·) = true ↔ m.all (digSet.contains ·) = true := by
    intro m
    induction m with
    | nil => exact Iff.rfl
    | cons c r ih =>
      rw [List.dropWhile_cons, List.all_cons]
      cases h : digSet.contains c with
      | true => rw [if_pos rfl, Bool.true_and]; exact ih
      | false => rw [if_neg (by decide), List.all_cons, h]
  have h2 := h1 l.reverse
  rw [List.all_reverse] at h2
  rw [List.all_reverse]
  exact h2
theorem foldl_ge : ∀ (r : Bs) (a : Nat), a ≤ r.foldl (fun n c => n * 10 + (c.toNat - 48)) a := by
  intro r
  induction r with
  | nil => intro a; exact Nat.le_refl _
  | cons c r ih =>
    intro a
    rw [List.foldl_cons]
    have := ih (a * 10 + (c.toNat - 48))
    omega
theorem parse_dig : ∀ (r : Bs) (a : Nat), a < 18446744073709551616 → allDig r = true → Lib.parseUint10 a r = if r.foldl (fun n c => n * 10 + (c.toNat - 48)) a < 18446744073709551616 then .ok (r.foldl (fun n c => n * 10 + (c.toNat - 48)) a) else .range := by
  intro r
  induction r with
  | nil => intro a ha _; rw [Lib.parseUint10, List.foldl_nil, if_pos ha]
  | cons c r ih =>
    intro a ha h
    unfold allDig at h
    rw [List.all_cons, Bool.and_eq_true, Bool.and_eq_true, decide_eq_true_eq, decide_eq_true_eq] at h
    have g := foldl_ge r (a * 10 + (c.toNat - 48))
    rw [Lib.parseUint10, if_pos h.1, List.foldl_cons]
    split
    · rw [if_neg (by omega)]
    split
    · rw [if_neg (by omega)]
    · exact ih _ (by omega) h.2
theorem dig_first {v : Bs} (h : allDig v = true) (hne : v ≠ []) : ∃ c r, v = c :: r ∧ c.toNat ≠ 43 ∧ c.toNat ≠ 45 := by
  cases v with
  | nil => exact absurd rfl hne
  | cons c r =>
    unfold allDig at h
    rw [List.all_cons, Bool.and_eq_true, Bool.and_eq_true, decide_eq_true_eq, decide_eq_true_eq] at h
    exact ⟨c, r, rfl, by omega, by omega⟩
theorem lower_fold : ∀ (x y : UInt8), (97 ≤ y.toNat ∧ y.toNat ≤ 122 ∨ y.toNat = 45) → Lib.foldEq x y = decide (lower x = y) := by
  intro x y h
  unfold Lib.foldEq lower
  rw [decide_eq_decide]
  split
  · rename_i c
    rw [← UInt8.toNat_inj, UInt8.toNat_add]
    have : (32 : UInt8).toNat = 32 := rfl
    omega
  · rw [← UInt8.toNat_inj]
    omega
end Go.Proofs.YtbhajflbbjipdaaDoor.XFm

end
section
namespace Go.Proofs.YtbhajflbbjipdaaDoor.XFm
open Go
set_option linter.unusedVariables false
set_option linter.unusedSimpArgs false
/-- A head line by line: its lines, and where it ends. -/
def hl : Nat → Bs → Nat → List Bs → Option (List Bs × Nat)
  | 0, _, _, _ => none
  | f + 1, rest, pos, l => if Lib.index rest crlf < 0 then none else if Lib.index rest crlf = 0 then some (l, pos + 2) else
    hl f (rest.drop ((Lib.index rest crlf).toNat + 2)) (pos + (Lib.index rest crlf).toNat + 2) (l ++ [rest.take (Lib.index rest crlf).toNat])
end Go.Proofs.YtbhajflbbjipdaaDoor.XFm

end
