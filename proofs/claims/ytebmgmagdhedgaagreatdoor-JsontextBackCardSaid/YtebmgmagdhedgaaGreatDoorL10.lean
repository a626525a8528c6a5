/- Words and walks of this claim, put together by this repo's wip/xlink.py out of Q4, Q5. -/
import Derived.Test.YtebmgmagdhedgaaGreatDoorL8
import Derived.Test.YtebmgmagdhedgaaGreatDoorL9
section
namespace Go.Proofs.YtebmgmagdhedgaaGreatDoor.Q
open Go.RowKit Go.Proofs.YtebmgmagdhedgaaGreatDoorW.PrintWords Go.Proofs.YtebmgmagdhedgaaGreatDoorW.PrintLast Go.Proofs.YtebmgmagdhedgaaGreatDoorW.PrintMore
attribute [local go_sem] max2_int min2_int max_two min_two max_three min_three max_four min_four   
set_option linter.unusedVariables false
set_option linter.unusedSimpArgs false
/-- The number of the field of a name. -/
def idxF (l : List JF) (name : ByteArray) : Option Nat := l.findIdx? (fun f => decide (f.f0 = name))
def putF (l : List JF) (name : ByteArray) (v : JV) : List JF := match idxF l name with
 | some k => l.set k ⟨name, v⟩
 | none => l ++ [⟨name, v⟩]
/-- The fields of an object, behind those that were read. -/
def obj (s : ByteArray) (pv : Nat → Res JV) : Nat → Nat → Bool → List JF → Res (List JF)
 | 0, i, _, _ => .bad i 0
 | f + 1, i, first, acc => if hnd s i = 125 then .ok acc (i + 1) else
  (if first = true then .ok () i else (wd s [44] i).bind fun _ j => .ok () (skip isBl s j)).bind fun _ j =>
  if hnd s j = 34 then (text s j).bind fun l k => (wd s [58] (skip isBl s k)).bind fun _ m => (pv (skip isBl s m)).bind fun v n => obj s pv f (skip isBl s n) false (putF acc ⟨l.toArray⟩ v) else .bad j 30
/-- What the map of the names tells. -/
def kLit (name : ByteArray) : Lit := .string name.data.toList
def MapOk (D : DataW Unit) (l : List JF) : Prop := Maps.IsMap D ∧ ∀ name : ByteArray, name.size ≤ maxLen → match idxF l name with
 | some k => Maps.has D (kLit name) = true ∧ ∀ z, D.atKey (kLit name) z = .lit (.int .i64 k)
 | none => Maps.has D (kLit name) = false
theorem idxF_lt {l : List JF} {name : ByteArray} {k : Nat} (h : idxF l name = some k) : k < l.length := by
 unfold idxF at h
 have := List.findIdx?_eq_some_iff_findIdx_eq.1 h
 exact this.1
theorem idxF_set {l : List JF} {name : ByteArray} {k : Nat} (h : idxF l name = some k) (v : JV) (x : ByteArray) : idxF (l.set k ⟨name, v⟩) x = idxF l x := by
 unfold idxF at h ⊢
 induction l generalizing k with
 | nil => cases h
 | cons f r ih =>
  rw [List.findIdx?_cons] at h
  by_cases hf : f.f0 = name
  ·rw [if_pos (by simpa using hf)] at h
   injection h with h
   subst h; rw [List.set_cons_zero, List.findIdx?_cons, List.findIdx?_cons]
   simp only [hf]
  ·rw [if_neg (by simpa using hf)] at h
   cases hr : r.findIdx? (fun f => decide (f.f0 = name)) with
   | none => rw [hr] at h; cases h
   | some m =>
    rw [hr] at h
    injection h with h
    subst h; rw [List.set_cons_succ, List.findIdx?_cons, List.findIdx?_cons, ih hr]
theorem idxF_snoc {l : List JF} {name : ByteArray} (h : idxF l name = none) (v : JV) (x : ByteArray) : idxF (l ++ [⟨name, v⟩]) x = if x = name then some l.length else idxF l x := by
 unfold idxF at h ⊢
 rw [List.findIdx?_append]
 by_cases hx : x = name
 ·subst hx; rw [h, if_pos rfl]
  simp [List.findIdx?_cons]
 ·rw [if_neg hx]
  cases l.findIdx? (fun f => decide (f.f0 = x)) with
  | some m => rfl
  | none => simp [List.findIdx?_cons, Ne.symm hx]
theorem kLit_ne {a b : ByteArray} (h : a ≠ b) : kLit a ≠ kLit b := by
 intro e
 apply h
 unfold kLit at e
 injection e with e
 exact ByteArray.ext (Array.toList_inj.1 e)
theorem kLit_key (a : ByteArray) : WideAt.IsKeyLit (kLit a) := by unfold kLit; trivial
theorem MapOk.nil : MapOk (.map []) [] := ⟨Maps.isMap_empty, fun name _ => rfl⟩
theorem MapOk.put {D : DataW Unit} {l : List JF} (h : MapOk D l) {name : ByteArray} (hn : idxF l name = none) (v : JV) : MapOk (D.put (kLit name) (.lit (.int .i64 l.length))) (l ++ [⟨name, v⟩]) := by
 refine ⟨?_, fun x hx => ?_⟩
 ·exact h.1.put _ _
 ·rw [idxF_snoc hn]
  by_cases e : x = name
  ·subst e; rw [if_pos rfl]
   exact ⟨Maps.has_put_same h.1 (kLit_key _) _, fun z => Maps.atKey_put_same h.1 (kLit_key _) _ z⟩
  ·rw [if_neg e]
   have h1 := h.2 x hx
   rw [Maps.has_put_other (kLit_ne e)]
   cases hi : idxF l x with
   | none => rw [hi] at h1; exact h1
   | some k => rw [hi] at h1; exact ⟨h1.1, fun z => (Maps.atKey_put_other (kLit_ne e) _ z).trans (h1.2 z)⟩
theorem MapOk.set {D : DataW Unit} {l : List JF} (h : MapOk D l) {name : ByteArray} {k : Nat} (hn : idxF l name = some k) (v : JV) : MapOk D (l.set k ⟨name, v⟩) := ⟨h.1, fun x hx => by rw [idxF_set hn]; exact h.2 x hx⟩
/-- Five cells written over. -/
def upd5 {α : Type} (l : List α) (p : Nat) (c0 c1 c2 c3 c4 : α) : List α := ((((l.set p c0).set (p + 1) c1).set (p + 2) c2).set (p + 3) c3).set (p + 4) c4
theorem upd5_length {α : Type} (l : List α) (p : Nat) (c0 c1 c2 c3 c4 : α) : (upd5 l p c0 c1 c2 c3 c4).length = l.length := by simp [upd5]
theorem upd5_far {α : Type} (l : List α) (p q : Nat) (c0 c1 c2 c3 c4 : α) (h : q < p ∨ p + 5 ≤ q) : (upd5 l p c0 c1 c2 c3 c4)[q]? = l[q]? := by
 unfold upd5
 rw [List.getElem?_set_ne (by omega), List.getElem?_set_ne (by omega), List.getElem?_set_ne (by omega), List.getElem?_set_ne (by omega), List.getElem?_set_ne (by omega)]
theorem upd5_at {α : Type} (l : List α) (p i : Nat) (c0 c1 c2 c3 c4 : α) (h : p + 5 ≤ l.length) (hi : i < 5) : (upd5 l p c0 c1 c2 c3 c4)[p + i]? = [c0, c1, c2, c3, c4][i]? := by
 have h5 : i = 0 ∨ i = 1 ∨ i = 2 ∨ i = 3 ∨ i = 4 := by omega
 unfold upd5
 rcases h5 with rfl | rfl | rfl | rfl | rfl
 ·rw [List.getElem?_set_ne (by omega), List.getElem?_set_ne (by omega), List.getElem?_set_ne (by omega), List.getElem?_set_ne (by omega), Nat.add_zero, List.getElem?_set_self (by omega)]; rfl
 ·rw [List.getElem?_set_ne (by omega), List.getElem?_set_ne (by omega), List.getElem?_set_ne (by omega), List.getElem?_set_self (by rw [List.length_set]; omega)]; rfl
 ·rw [List.getElem?_set_ne (by omega), List.getElem?_set_ne (by omega), List.getElem?_set_self (by simp only [List.length_set]; omega)]; rfl
 ·rw [List.getElem?_set_ne (by omega), List.getElem?_set_self (by simp only [List.length_set]; omega)]; rfl
 ·rw [List.getElem?_set_self (by simp only [List.length_set]; omega)]; rfl
theorem upd5_take {α : Type} (l : List α) (p m : Nat) (c0 c1 c2 c3 c4 : α) (h : p + 5 ≤ m) : (upd5 l p c0 c1 c2 c3 c4).take m = upd5 (l.take m) p c0 c1 c2 c3 c4 := by
 simp only [upd5, List.take_set]
theorem reps_upd5 {α : Type} {R : α → List Value → Prop} {ps : List α} {cs : List Value} {k : Nat} (h : Reps R 5 ps cs) (hk : k < ps.length) (p : α) (c0 c1 c2 c3 c4 : Value) (hp : R p [c0, c1, c2, c3, c4]) : Reps R 5 (ps.set k p) (upd5 cs (k * 5) c0 c1 c2 c3 c4) := by
 refine ⟨by rw [upd5_length, List.length_set]; exact h.1, fun j q hq => ?_⟩
 have hl := h.1
 by_cases hj : j = k
 ·subst hj; rw [List.getElem?_set_self hk] at hq
  injection hq with hq
  subst hq; have : ((upd5 cs (j * 5) c0 c1 c2 c3 c4).drop (j * 5)).take 5 = [c0, c1, c2, c3, c4] := by
   apply List.ext_getElem?
   intro i
   rw [List.getElem?_take]
   by_cases hi : i < 5
   ·rw [if_pos hi, List.getElem?_drop, upd5_at cs (j * 5) i c0 c1 c2 c3 c4 (by omega) hi]
   ·rw [if_neg hi, List.getElem?_eq_none (by simp; omega)]
  rw [this]
  exact hp
 ·rw [List.getElem?_set_ne (Ne.symm hj)] at hq
  have h1 := h.2 j q hq
  have : ((upd5 cs (k * 5) c0 c1 c2 c3 c4).drop (j * 5)).take 5 = (cs.drop (j * 5)).take 5 := by
   apply List.ext_getElem?
   intro i
   rw [List.getElem?_take, List.getElem?_take]
   by_cases hi : i < 5
   ·rw [if_pos hi, if_pos hi, List.getElem?_drop, List.getElem?_drop, upd5_far cs (k * 5) (j * 5 + i) c0 c1 c2 c3 c4 (by omega)]
   ·rw [if_neg hi, if_neg hi]
  rw [this]
  exact h1
theorem blk_put5 {w : World} {g p : Nat} {T : TypeId} {cs : Array Value} (h : w.heap[g]? = some (.cells cs T (0, 0))) (c0 c1 c2 c3 c4 : Value) : ∃ cs' : Array Value, cs'.toList = upd5 cs.toList p c0 c1 c2 c3 c4 ∧ (((((w.setCell ⟨g, p, none⟩ c0).setCell ⟨g, p + 1, none⟩ c1).setCell ⟨g, p + 2, none⟩ c2).setCell ⟨g, p + 3, none⟩ c3).setCell ⟨g, p + 4, none⟩ c4).heap[g]? = some (.cells cs' T (0, 0)) :=
 ⟨_, by simp only [Array.toList_setIfInBounds]; rfl, blk_set (blk_set (blk_set (blk_set (blk_set h p c0) (p + 1) c1) (p + 2) c2) (p + 3) c3) (p + 4) c4⟩
theorem put5_far {w : World} {N k p : Nat} (h : k ≠ N) (c0 c1 c2 c3 c4 : Value) : (((((w.setCell ⟨N, p, none⟩ c0).setCell ⟨N, p + 1, none⟩ c1).setCell ⟨N, p + 2, none⟩ c2).setCell ⟨N, p + 3, none⟩ c3).setCell ⟨N, p + 4, none⟩ c4).heap[k]? = w.heap[k]? := by
 rw [Below.heap_setCell _ _ _ _ h, Below.heap_setCell _ _ _ _ h, Below.heap_setCell _ _ _ _ h, Below.heap_setCell _ _ _ _ h, Below.heap_setCell _ _ _ _ h]
theorem R_store5 {α : Type} {d : Kd α} {e : Nat} {w : World} {base : Nat} {g n c : Nat} {xs : List α} (hd : d.sz = 5) (h : d.R e w base (fun _ => True) (.slice (some ⟨g, 0, none⟩) n c) xs) {k : Nat} (hk : k < xs.length) {p : α} {okp : Nat → Prop} {c0 c1 c2 c3 c4 : Value} (hp : d.M w base okp p [c0, c1, c2, c3, c4]) (hokp : ∀ q, okp q → q ≠ g) :
  d.R e (((((w.setCell ⟨g, k * 5, none⟩ c0).setCell ⟨g, k * 5 + 1, none⟩ c1).setCell ⟨g, k * 5 + 2, none⟩ c2).setCell ⟨g, k * 5 + 3, none⟩ c3).setCell ⟨g, k * 5 + 4, none⟩ c4) base (fun _ => True) (.slice (some ⟨g, 0, none⟩) n c) (xs.set k p) := by
 obtain ⟨h0, inner, ⟨hl, ho⟩, hr⟩ := h
 rcases ho with ⟨hv, hz⟩ | ⟨g', cap, cur, hv, hg, hh, hn, hc, hs, ht⟩
 ·omega
 ·injection hv with hv1 hv2 hv3
  injection hv1 with hv1
  injection hv1 with hv1
  subst hv1 hv3
  obtain ⟨cs', hcs, hb⟩ := blk_put5 (p := k * 5) hh c0 c1 c2 c3 c4
  have hsz : cs'.size = cur.size := by rw [← Array.length_toList, hcs, upd5_length, Array.length_toList]
  have move : ∀ {q : α} {cc : List Value} {o : Nat → Prop}, d.M w base o q cc → (∀ k, o k → k ≠ g) → d.M _ base (fun k => True ∧ some k ≠ (Value.slice (some ⟨g, 0, none⟩) n c).ownBlock) q cc := fun {q cc o} hq hne =>
   d.M_mono (fun k hk => ⟨trivial, by simp [Value.ownBlock]; exact hne k hk⟩) (d.M_move (w1 := (((((w.setCell ⟨g, k * 5, none⟩ c0).setCell ⟨g, k * 5 + 1, none⟩ c1).setCell ⟨g, k * 5 + 2, none⟩ c2).setCell ⟨g, k * 5 + 3, none⟩ c3).setCell ⟨g, k * 5 + 4, none⟩ c4)) (fun k hk => put5_far (hne k hk) _ _ _ _ _) hq)
  refine ⟨fun _ _ => trivial, upd5 inner (k * 5) c0 c1 c2 c3 c4, ⟨by rw [upd5_length, List.length_set]; exact hl, .inr ⟨g, c, cs', by rw [List.length_set, hv2], hg, hb, by rw [List.length_set]; exact hn, hc, by rw [hsz]; exact hs, ?_⟩⟩, ?_⟩
  ·rw [List.length_set, hcs, hd, upd5_take _ _ _ _ _ _ _ _ (by omega), ← hd, ht]
  ·rw [hd] at hr ⊢
   refine reps_upd5 (hr.imp_ (fun q cc hq => move hq (fun k hk => by have := hk.2; simp [Value.ownBlock] at this; exact this))) hk p c0 c1 c2 c3 c4 (move hp hokp)
theorem jstr : Maps.Keyed Tryz.prog 9 := Maps.string_keyed Tryz.underlying9
theorem jzero (w : World) : (zeroValue 3).run Tryz.prog w = .ok (.int .i64 0) w := by kernel_rfl
def OBox (N : Nat) (v : Value) (w : World) : Prop := w.heap[N]? = some (.cells #[.int .u8 0, .string ⟨#[]⟩, .slice none 0 0, .slice none 0 0] 25 (0, 0)) ∧ w.heap[N + 1]? = some (.cells #[.int .u8 6, .string ⟨#[]⟩, .slice none 0 0, v] 25 (0, 0))
def OMap (N : Nat) (D : DataW Unit) (n : Nat) (w : World) : Prop := w.ownsMap Tryz.prog 9 (plainElem Tryz.prog 3) (N + 1 + 1) n D
theorem OBox.kept {N : Nat} {v : Value} {w w' : World} (h : OBox N v w) (hk : w'.heap[N]? = w.heap[N]? ∧ w'.heap[N + 1]? = w.heap[N + 1]?) : OBox N v w' := ⟨hk.1.trans h.1, hk.2.trans h.2⟩
theorem OMap.kept {N n : Nat} {D : DataW Unit} {w w' : World} (h : OMap N D n w) (hk : w'.heap[N + 1 + 1]? = w.heap[N + 1 + 1]?) : OMap N D n w' := by
 obtain ⟨es, clock, h1, h2⟩ := h
 exact ⟨es, clock, hk.trans h1, h2⟩
theorem OBox.kp {B N : Nat} {v : Value} {w w' : World} (h : OBox N v w) (hk : Kp B w w') (hB : B < N) : OBox N v w' := h.kept ⟨hk.block N (blk_lt h.1) (by omega), hk.block (N + 1) (blk_lt h.2) (by omega)⟩
theorem OMap.kp {B N n : Nat} {D : DataW Unit} {w w' : World} (h : OMap N D n w) (hk : Kp B w w') (hB : B < N) : OMap N D n w' := h.kept (hk.block _ (World.ownsMap.lt h) (by omega))
theorem rkp {α : Type} {d : Kd α} {e : Nat} {w w' : World} {B base : Nat} {v : Value} {xs : List α} (h : d.R e w base (fun _ => True) v xs) (hk : Kp B w w') (hB : B < base) : d.R e w' base (fun _ => True) v xs := rk h (fun k h1 h2 => hk.block k h2 (by omega))
theorem nxt_le {s : ByteArray} {i z : Nat} (h : nxt s i = some z) : (s.extract i (i + z)).data.toList.length ≤ z := by
 have : (s.extract i (i + z)).data.toList.length = (s.extract i (i + z)).size := rfl
 rw [this, ByteArray.size_extract]
 omega
theorem txt_len {s : ByteArray} : ∀ {f i : Nat} {acc l : List UInt8} {j : Nat}, txt s f i acc = .ok l j → l.length + i + 1 ≤ acc.length + j ∧ i < j := by
 intro f
 induction f with
 | zero => intro i acc l j h; cases h
 | succ f ih =>
  intro i acc l j h
  rw [txt] at h
  split at h
  ·injection h with h1 h2; subst h1 h2; exact ⟨by omega, by omega⟩
  ·split at h
   ·cases h
   ·split at h
    ·cases he : escape s (i + 1) with
     | bad k c => rw [he] at h; cases h
     | ok r k =>
      rw [he] at h
      have h1 := escape_ok he
      have h2 := ih (show txt s f k (acc ++ Lib.encodeRune r) = .ok l j from h)
      rw [List.length_append] at h2
      omega
    ·cases hn : nxt s i with
     | none => rw [hn] at h; cases h
     | some z =>
      rw [hn] at h
      have h1 := nxt_le hn
      have h2 := ih (show txt s f (i + z) (acc ++ (s.extract i (i + z)).data.toList) = .ok l j from h)
      rw [List.length_append] at h2
      omega
theorem text_len {s : ByteArray} {i j : Nat} {l : List UInt8} (h : text s i = .ok l j) : l.length ≤ j ∧ i < j := by
 have := txt_len h
 simp at this
 omega
theorem R_row {α : Type} {d : Kd α} {e : Nat} {w : World} {base : Nat} {A : Option Addr} {n c : Nat} {xs : List α} (hd : 0 < d.sz) (h : d.R e w base (fun _ => True) (.slice A n c) xs) {k : Nat} (hk : k < xs.length) : ∃ g cur, A = some ⟨g, 0, none⟩ ∧ base ≤ g ∧ w.heap[g]? = some (.cells cur e (0, 0)) ∧ k * d.sz + d.sz ≤ cur.size := by
 obtain ⟨h0, inner, ⟨hl, ho⟩, hr⟩ := h
 rcases ho with ⟨hv, hz⟩ | ⟨g', cap, cur, hv, hg, hh, hn, hc, hs, ht⟩
 ·have : inner.length = 0 := by omega
  omega
 ·injection hv with hv1 hv2 hv3
  refine ⟨g', cur, hv1, hg, hh, ?_⟩
  rw [hs]
  have h1 : (k + 1) * d.sz ≤ cap * d.sz := Nat.mul_le_mul_right _ (by omega)
  rw [Nat.succ_mul] at h1
  exact h1
theorem alloc_far {w : World} {o : Obj} {k : Nat} (h : k < w.heap.size) : (w.alloc o).heap[k]? = w.heap[k]? := (below_alloc (Below.refl w.heap.size w) o).block k h
theorem Rdr.far1 {B N : Nat} {s : ByteArray} {i : Nat} {w : World} (h : Rdr B s i w) (hB : B < N) {u : Value} : Rdr B s i (w.setCell ⟨N + 1, 3, none⟩ u) := (Below.heap_setCell _ _ _ _ (show B ≠ N + 1 by omega)).trans h
theorem jkey {name : ByteArray} (h : name.size ≤ maxLen) : keyOf Tryz.prog 9 (.string name) = some (kLit name) := by
 simp [keyOf, mapKey, Tryz.underlying9, h, kLit]
set_option maxRecDepth 100000 in
set_option maxHeartbeats 4000000 in
theorem json_reader_object.calls (B : Nat) (s : ByteArray) (i : Nat) (pv : Nat → Res JV) (deep : Int) (hd : 0 ≤ deep ∧ deep ≤ 64) (w : World) (hR : Rdr B s i w) (hs : s.size ≤ 262144) (hi : i < s.size) (hG : GlobOk w) (hF : GFree B) (hV : ValOk s pv (deep + 1)) (hp : ∀ i v j, pv i = .ok v j → i < j) :
  Calls Tryz.prog 55 #[.pointer (some ⟨B, 0, none⟩), .int .i64 deep] w (Out B s (VV w.heap.size) w ((obj s pv (s.size + 1) (skip isBl s (i + 1)) true []).bind fun l j => .ok ⟨6, ⟨#[]⟩, [], l⟩ j)) := by
 obtain ⟨N, hN⟩ : ∃ N, N = w.heap.size := ⟨_, rfl⟩
 have hBN : B < N := by rw [hN]; exact hR.lt
 obtain ⟨W1, hW1⟩ : ∃ W1, W1 = ((w.alloc (.cells #[.int .u8 0, .string ⟨#[]⟩, .slice none 0 0, .slice none 0 0] 25 (0, 0))).alloc (.cells #[.int .u8 6, .string ⟨#[]⟩, .slice none 0 0, .slice none 0 0] 25 (0, 0))).alloc (.map #[] 0) := ⟨_, rfl⟩
 have hR1 : Rdr B s i W1 := by rw [hW1]; exact ((hR.alloc _).alloc _).alloc _
 have hb1 : Below w.heap.size w W1 := by rw [hW1]; exact below_alloc (below_alloc (below_alloc (Below.refl _ _) _) _) _
 have hx : OBox N (.slice none 0 0) W1 := by
  rw [hW1, hN]
  refine ⟨blk_alloc (blk_alloc (blk_new w _) _) _, ?_⟩
  have h := blk_alloc (blk_new (w.alloc (.cells #[.int .u8 0, .string ⟨#[]⟩, .slice none 0 0, .slice none 0 0] 25 (0, 0))) (.cells #[.int .u8 6, .string ⟨#[]⟩, .slice none 0 0, .slice none 0 0] 25 (0, 0))) (.map #[] 0)
  simpa using h
 have hm : OMap N (.map []) 0 W1 := by
  rw [hW1, hN]
  have h := World.ownsMap_made (H := Unit) ((w.alloc (.cells #[.int .u8 0, .string ⟨#[]⟩, .slice none 0 0, .slice none 0 0] 25 (0, 0))).alloc (.cells #[.int .u8 6, .string ⟨#[]⟩, .slice none 0 0, .slice none 0 0] 25 (0, 0))) Tryz.prog 9 (plainElem Tryz.prog 3)
  unfold OMap
  simpa using h
 obtain ⟨R, hRes⟩ : ∃ R, R = obj s pv (s.size + 1) (skip isBl s (i + 1)) true [] := ⟨_, rfl⟩
 have HRes := Aside0.mk hRes; have HV := Aside0.mk hV; have HP := Aside0.mk hp; have HG := Aside0.mk hG; have HF := Aside0.mk hF; have hsz : s.size ≤ 140737488351232 := by omega
 have hmm := @Go.RowKit.run_makeMap Tryz.prog
 rw [← hRes, ← hN]
 clear hV hp hG hF; go_enter Tryz.func55, Tryz.ntmps55
 go_upto_region 3 with (fail)
 rw [← hW1, ← hN]
 clear hmm; have HNw := Aside0.mk hN; have HBn := Aside0.mk hBN; have c1 := hR1.c1
 have fr := hR1.fr
 have HB := Aside0.mk (json_reader_blanks.calls B s (i + 1) _ (Rdr.set1 hR1) hsz hi)
 have HK0 : Kp B W1 (W1.setCell ⟨B, 1, none⟩ (.int .i64 ((i : Int) + 1))) := (Kp.refl B W1).set 1 _
 have HK := Aside0.mk ((Kp.of_below (B := B) hb1).trans HK0)
 have HX := Aside0.mk (hx.kp HK0 hBN)
 have HM := Aside0.mk (hm.kp HK0 hBN)
 clear hW1 hN hR hR1 hb1 hx hm hRes HK0; go_wp2_with (go_at_call 29; refine HB.out.mono ?_; rintro e W2 ⟨rfl, hr, hk⟩; have HR2 := Aside0.mk hr; have HK2 := Aside0.mk (HK.out.trans hk); have HX2 := Aside0.mk (HX.out.kp hk HBn.out); have HM2 := Aside0.mk (HM.out.kp hk HBn.out); clear hr hk)
 clear HX HM HK HB c1 fr; go_loopg [7] (s.size + 1) (fun kq v7 w' => ∃ (fl : Bool) (j : Nat) (acc : List JF) (v3 : Value) (D : DataW Unit) (n : Nat), v7 = .bool fl ∧ j ≤ s.size ∧ s.size < j + kq ∧ Aside0 (acc.length ≤ j) ∧ Aside0 (n ≤ acc.length) ∧ Aside0 (obj s pv kq j fl acc = R) ∧ Aside0 (MapOk D acc) ∧ Aside0 (Rdr B s j w') ∧ Aside0 (OBox N v3 w') ∧ Aside0 (Kd.R k45 45 w' (N + 3) (fun _ => True) v3 acc) ∧ Aside0 (OMap N D n w') ∧ Aside0 (Kp B w w'))
 case atStart => exact ⟨true, skip isBl s (i + 1), [], .slice none 0 0, .map [], 0, rfl, skip_in hi, by have := skip_ge (p := isBl) s (i + 1); omega, ⟨by simp⟩, ⟨by simp⟩, ⟨HRes.out.symm⟩, ⟨MapOk.nil⟩, HR2, HX2, ⟨Kd.R_nil _ _ _ _ _⟩, HM2, HK2⟩
 case round =>
  clear HR2 HX2 HM2 HK2 HRes; obtain ⟨fl, j, acc, v3, D, n, rfl, hj, hk, HA, Hn, HX, HD, HR, HY, HRow, HM, HK⟩ := hrel
  obtain ⟨f, rfl⟩ : ∃ f, gk = f + 1 := ⟨gk - 1, by omega⟩
  have hX := HX.out
  rw [obj] at hX
  have HH := Aside0.mk (json_reader_hand.calls B s j wr HR.out hsz)
  obtain ⟨A3, c3, rfl⟩ := Kd.R_slice HRow.out
  by_cases h125 : hnd s j = 125
  ·rw [if_pos h125] at hX
   have HX1 := Aside0.mk hX; have hlt := hnd_pos h125 (by omega)
   have t1 : (((hnd s j : Nat) : Int) != 125) = false := by rw [h125]; rfl
   have c1 := HR.out.c1
   have fr := HR.out.fr
   have d0 := blk_cell HY.out.2 0
   have d1 := blk_cell HY.out.2 1
   have d2 := blk_cell HY.out.2 2
   have d3 := blk_cell HY.out.2 3
   have e0 := blk_cell HY.out.1 0
   have e1 := blk_cell HY.out.1 1
   have e2 := blk_cell HY.out.1 2
   have e3 := blk_cell HY.out.1 3
   have f0 := blk_frozen HY.out.1 0
   have f1 := blk_frozen HY.out.1 1
   have f2 := blk_frozen HY.out.1 2
   have f3 := blk_frozen HY.out.1 3
   have ne1 : B ≠ N := by omega
   have ne2 : N ≠ B := by omega
   have ne3 : B ≠ N + 1 := by omega
   have ne4 : N + 1 ≠ B := by omega
   clear hX h125; go_wp2_with (go_at_call 51; refine HH.out.mono ?_; rintro e w' ⟨rfl, n1, rfl⟩)
   have hw := put4 (blk_far (p := ⟨B, 1, none⟩) (show (wr.drewN n1).heap[N]? = _ from HY.out.1) ne2 (.int .i64 ((j : Int) + 1))) (.int .u8 6) (.string ⟨#[]⟩) (.slice none 0 0) (.slice A3 acc.length c3)
   have hr3 := (put4_far (show B ≠ N by omega) (.int .u8 6) (.string ⟨#[]⟩) (.slice none 0 0) (.slice A3 acc.length c3)).trans (Rdr.set1 (i := j) (HR.out.drewN n1))
   have hk3 := ((HK.out.drewN n1).set 1 (.int .i64 ((j : Int) + 1))).put4 (N := N) (by rw [HNw.out]; exact Nat.le_refl _) (.int .u8 6) (.string ⟨#[]⟩) (.slice none 0 0) (.slice A3 acc.length c3)
   have hv3 : Kd.R k45 45 _ N (fun _ => True) (.slice A3 acc.length c3) acc := Kd.R_lower (rk HRow.out (w' := (((((wr.drewN n1).setCell ⟨B, 1, none⟩ (.int .i64 ((j : Int) + 1))).setCell ⟨N, 0, none⟩ (.int .u8 6)).setCell ⟨N, 1, none⟩ (.string ⟨#[]⟩)).setCell ⟨N, 2, none⟩ (.slice none 0 0)).setCell ⟨N, 3, none⟩ (.slice A3 acc.length c3)) (fun k hk _ => by rw [put4_far (by omega)]; exact Below.heap_setCell _ _ _ _ (show k ≠ B by omega))) (by omega)
   generalize (((((wr.drewN n1).setCell ⟨B, 1, none⟩ (.int .i64 ((j : Int) + 1))).setCell ⟨N, 0, none⟩ (.int .u8 6)).setCell ⟨N, 1, none⟩ (.string ⟨#[]⟩)).setCell ⟨N, 2, none⟩ (.slice none 0 0)).setCell ⟨N, 3, none⟩ (.slice A3 acc.length c3) = Wf at hw hr3 hk3 hv3 ⊢
   have g0 := blk_cell hw 0
   have g1 := blk_cell hw 1
   have g2 := blk_cell hw 2
   have g3 := blk_cell hw 3
   refine bodyPost_ret (v := .agg #[.int .u8 6, .string ⟨#[]⟩, .slice none 0 0, .slice A3 acc.length c3]) (by simp [results, Tryz.results55, go_sem, g0, g1, g2, g3]) rfl ?_
   rw [← HX1.out]
   exact ⟨_, rfl, ⟨_, _, rfl, Kd.R_nil _ _ _ _ _, hv3⟩, hlt, hr3, hk3⟩
  ·rw [if_neg h125] at hX
   have t1 : (((hnd s j : Nat) : Int) != 125) = true := bne_iff_ne.mpr (by omega)
   have HX1 := Aside0.mk hX; clear hX h125; go_upto_if 27 with (go_at_call 51; refine HH.out.mono ?_; rintro e w' ⟨rfl, n1, rfl⟩)
   clear HH t1; go_cut [] (fun wc => ∃ j1 : Nat, j ≤ j1 ∧ j1 ≤ s.size ∧ Aside0 ((if hnd s j1 = 34 then (text s j1).bind fun l k => (wd s [58] (skip isBl s k)).bind fun _ m => (pv (skip isBl s m)).bind fun v n => obj s pv f (skip isBl s n) false (putF acc ⟨l.toArray⟩ v) else .bad j1 30) = R) ∧ Aside0 (Rdr B s j1 wc) ∧ Aside0 (OBox N (.slice A3 acc.length c3) wc) ∧ Aside0 (Kd.R k45 45 wc (N + 3) (fun _ => True) (.slice A3 acc.length c3) acc) ∧ Aside0 (OMap N D n wc) ∧ Aside0 (Kp B w wc))
   case first =>
    cases fl with
    | true =>
     go_wp2
     go_meet
     exact ⟨j, Nat.le_refl _, hj, HX1, ⟨HR.out.drewN _⟩, HY, ⟨Kd.R_drewN HRow.out _⟩, HM, ⟨HK.out.drewN _⟩⟩
    | false =>
     have HW := Aside0.mk (fun n => json_reader_word.calls B s j [44] (wr.drewN n) (HR.out.drewN n) hsz hj (by decide) (by decide))
     by_cases h44 : hnd s j = 44
     ·have hwd : wd s ([44].map UInt8.toNat) j = .ok () (j + 1) := if_pos h44
      have HX2 : Aside0 ((if hnd s (skip isBl s (j + 1)) = 34 then (text s (skip isBl s (j + 1))).bind fun l k => (wd s [58] (skip isBl s k)).bind fun _ m => (pv (skip isBl s m)).bind fun v n => obj s pv f (skip isBl s n) false (putF acc ⟨l.toArray⟩ v) else .bad (skip isBl s (j + 1)) 30) = R) := ⟨by rw [← HX1.out, if_neg (by decide : ¬ (false = true)), show wd s [44] j = .ok () (j + 1) from hwd]; rfl⟩
      have HWD := Aside0.mk hwd; have hlt := hnd_pos h44 (by omega)
      clear h44 hwd HX1; go_wp2_with (first | (go_at_call 52; refine (HW.out _).mono ?_; intro e w1 ho; rw [HWD.out] at ho; obtain ⟨x, rfl, rfl, hj1, hr, hk⟩ := ho.ok_; have HR1 := Aside0.mk hr; have HK1 := Aside0.mk hk; clear ho hr hk) | (go_at_call 29; refine (json_reader_blanks.calls B s (j + 1) _ HR1.out hsz hj1).mono ?_; rintro e w2 ⟨rfl, hr, hk⟩; have HR2 := Aside0.mk hr; have HK2 := Aside0.mk (HK1.out.trans hk); clear hr hk))
      go_meet
      exact ⟨skip isBl s (j + 1), by have := skip_ge (p := isBl) s (j + 1); omega, skip_in hj1, HX2, HR2, ⟨(show OBox N _ (wr.drewN _) from HY.out).kp HK2.out HBn.out⟩, ⟨rkp (Kd.R_drewN HRow.out _) HK2.out (by have := HBn.out; omega)⟩, ⟨(show OMap N D n (wr.drewN _) from HM.out).kp HK2.out HBn.out⟩, ⟨(HK.out.drewN _).trans HK2.out⟩⟩
     ·have hwd : wd s ([44].map UInt8.toNat) j = .bad j 30 := if_neg h44
      have HX2 : Aside0 (Res.bad j 30 = R) := ⟨by rw [← HX1.out, if_neg (by decide : ¬ (false = true)), show wd s [44] j = .bad j 30 from hwd]; rfl⟩
      have HWD := Aside0.mk hwd; clear h44 hwd HX1; go_wp2_with (go_at_call 52; refine (HW.out _).mono ?_; intro e w1 ho; rw [HWD.out] at ho; obtain ⟨rfl, hk⟩ := ho.bad_; have HK1 := Aside0.mk hk; clear ho hk)
      exact ⟨rfl, by rw [← HX2.out]; exact ⟨rfl, (HK.out.drewN _).trans HK1.out⟩⟩
   case rest =>
    obtain ⟨j1, hj1, hj2, HX2, HR1, HY1, HRow1, HM1, HK1⟩ := hcut
    clear HX1 HR HY HRow HM HK HX; have HH := Aside0.mk (json_reader_hand.calls B s j1 wc HR1.out hsz)
    by_cases h34 : hnd s j1 = 34
    case neg =>
     have t1 : (((hnd s j1 : Nat) : Int) != 34) = true := bne_iff_ne.mpr (by omega)
     have HX3 := Aside0.mk (show Res.bad j1 30 = R by rw [← HX2.out, if_neg h34])
     clear h34 HX2; go_wp2_with (first | (go_at_call 51; refine HH.out.mono ?_; rintro e w' ⟨rfl, n1, rfl⟩) | (go_at_call 31; refine (json_reader_stop.calls B s j1 _ (HR1.out.drewN _)).mono ?_; rintro e w' ⟨rfl, rfl⟩))
     exact ⟨rfl, by rw [← HX3.out]; exact ⟨rfl, HK1.out.drewN _⟩⟩
    case pos =>
     have t1 : (((hnd s j1 : Nat) : Int) != 34) = false := by rw [h34]; rfl
     have HX3 : Aside0 (((text s j1).bind fun l k => (wd s [58] (skip isBl s k)).bind fun _ m => (pv (skip isBl s m)).bind fun v n => obj s pv f (skip isBl s n) false (putF acc ⟨l.toArray⟩ v)) = R) := ⟨by rw [← HX2.out, if_pos h34]⟩
     have hlt1 := hnd_pos h34 (by omega)
     have HGC : ∀ w', Kp B wc w' → GlobOk w' := fun w' hk => HG.out.kept HF.out (HK1.out.trans hk).block
     have HGC := Aside0.mk HGC; have HT := Aside0.mk (fun n => json_reader_text.calls B s j1 (wc.drewN n) (HR1.out.drewN n) hsz hlt1 (HGC.out _ ((Kp.refl B wc).drewN n)) HF.out)
     clear h34 HX2; cases ht : text s j1 with
     | bad k c =>
      have HX4 : Aside0 (Res.bad k c = R) := ⟨by rw [← HX3.out, ht]; rfl⟩
      have HT := Aside0.mk (fun n => (HT.out n).mono (fun e w' ho => Out.bad_ (by rw [ht] at ho; exact ho)))
      clear ht HX3; go_wp2_with (first | (go_at_call 51; refine HH.out.mono ?_; rintro e w' ⟨rfl, n1, rfl⟩) | (go_at_call 53; refine (HT.out _).mono ?_; rintro e w1 ⟨rfl, hk⟩; have HK2 := Aside0.mk hk; clear hk))
      exact ⟨rfl, by rw [← HX4.out]; exact ⟨rfl, (HK1.out.drewN _).trans HK2.out⟩⟩
     | ok l k =>
      have HX4 : Aside0 (((wd s [58] (skip isBl s k)).bind fun _ m => (pv (skip isBl s m)).bind fun v n => obj s pv f (skip isBl s n) false (putF acc ⟨l.toArray⟩ v)) = R) := ⟨by rw [← HX3.out, ht]; rfl⟩
      have HT := Aside0.mk (fun n => (HT.out n).mono (fun e w' ho => Out.ok_ (by rw [ht] at ho; exact ho)))
      have hlen := text_len ht
      have hj1k := hlen.2
      have HL := Aside0.mk hlen.1; clear ht HX3 hlen; have hsk := skip_ge (p := isBl) s k
      by_cases h58 : hnd s (skip isBl s k) = 58
      case neg =>
       have hwd : wd s ([58].map UInt8.toNat) (skip isBl s k) = .bad (skip isBl s k) 30 := if_neg h58
       have HX5 : Aside0 (Res.bad (skip isBl s k) 30 = R) := ⟨by rw [← HX4.out, show wd s [58] (skip isBl s k) = _ from hwd]; rfl⟩
       have HWD := Aside0.mk hwd; clear h58 hwd HX4; go_wp2_with (first | (go_at_call 51; refine HH.out.mono ?_; rintro e w' ⟨rfl, n1, rfl⟩) | ((go_at_call 53; refine (HT.out _).mono ?_; rintro e w1 ⟨x, rfl, rfl, hk1, hr, hk⟩; have HR2 := Aside0.mk hr; have HK2 := Aside0.mk hk; clear hr hk); have hks := hk1) | (go_at_call 29; refine (json_reader_blanks.calls B s k w1 HR2.out hsz hks).mono ?_; rintro e w2 ⟨rfl, hr, hk⟩; have HR3 := Aside0.mk hr; have HK3 := Aside0.mk (HK2.out.trans hk); clear hr hk) | (go_at_call 52; refine (json_reader_word.calls B s (skip isBl s k) [58] w2 HR3.out hsz (skip_in hks) (by decide) (by decide)).mono ?_; intro e w3 ho; rw [HWD.out] at ho; obtain ⟨rfl, hk⟩ := ho.bad_; have HK4 := Aside0.mk (HK3.out.trans hk); clear ho hk))
       exact ⟨rfl, by rw [← HX5.out]; exact ⟨rfl, (HK1.out.drewN _).trans HK4.out⟩⟩
      case pos =>
       have hwd : wd s ([58].map UInt8.toNat) (skip isBl s k) = .ok () (skip isBl s k + 1) := if_pos h58
       have HX5 : Aside0 (((pv (skip isBl s (skip isBl s k + 1))).bind fun v n => obj s pv f (skip isBl s n) false (putF acc ⟨l.toArray⟩ v)) = R) := ⟨by rw [← HX4.out, show wd s [58] (skip isBl s k) = _ from hwd]; rfl⟩
       have HWD := Aside0.mk hwd; have hlt3 := hnd_pos h58 (by omega)
       clear h58 hwd HX4; obtain ⟨m, hm⟩ : ∃ m, m = skip isBl s (skip isBl s k + 1) := ⟨_, rfl⟩
       have hms : m ≤ s.size := by rw [hm]; exact skip_in hlt3
       have hkm : k < m := by have := skip_ge (p := isBl) s (skip isBl s k + 1); omega
       have b1 := hd.1
       have b2 := hd.2
       have wd1 : IntKind.i64.wrap (deep + 1) = deep + 1 := IntWalk.i64_in _ (by omega)
       rw [← hm] at HX5
       have HMm := Aside0.mk hm; clear hm; have HVC := Aside0.mk (fun (n : Nat) (w' : World) (hr : Rdr B s (skip isBl s (skip isBl s k + 1)) w') (hk' : Kp B (wc.drewN n) w') => HV.out B m w' (HMm.out ▸ hr) hms (HGC.out w' (((Kp.refl B wc).drewN n).trans hk')) HF.out)
       cases hv : pv m with
       | bad nn c =>
        have HX6 : Aside0 (Res.bad nn c = R) := ⟨by rw [← HX5.out, hv]; rfl⟩
        have HPV := Aside0.mk hv; clear hv HX5; go_wp2_with (first | (go_at_call 51; refine HH.out.mono ?_; rintro e w' ⟨rfl, n1, rfl⟩) | ((go_at_call 53; refine (HT.out _).mono ?_; rintro e w1 ⟨x, rfl, rfl, hk1, hr, hk⟩; have HR2 := Aside0.mk hr; have HK2 := Aside0.mk hk; clear hr hk); have hks := hk1) | (go_at_call 29; refine (json_reader_blanks.calls B s k w1 HR2.out hsz hks).mono ?_; rintro e w2 ⟨rfl, hr, hk⟩; have HR3 := Aside0.mk hr; have HK3 := Aside0.mk (HK2.out.trans hk); clear hr hk) | (go_at_call 52; refine (json_reader_word.calls B s (skip isBl s k) [58] w2 HR3.out hsz (skip_in hks) (by decide) (by decide)).mono ?_; intro e w3 ho; rw [HWD.out] at ho; obtain ⟨x, rfl, rfl, hj3, hr, hk⟩ := ho.ok_; have HR4 := Aside0.mk hr; have HK4 := Aside0.mk (HK3.out.trans hk); clear ho hr hk) | (go_at_call 29; refine (json_reader_blanks.calls B s (skip isBl s k + 1) w3 HR4.out hsz hj3).mono ?_; rintro e w4 ⟨rfl, hr, hk⟩; have HR5 := Aside0.mk hr; have HK5 := Aside0.mk (HK4.out.trans hk); clear hr hk) | (go_at_call 30; refine (HVC.out _ w4 HR5.out HK5.out).mono ?_; intro e w5 ho; rw [HPV.out] at ho; obtain ⟨rfl, hk⟩ := ho.bad_; have HK6 := Aside0.mk (HK5.out.trans hk); clear ho hk))
        exact ⟨rfl, by rw [← HX6.out]; exact ⟨rfl, (HK1.out.drewN _).trans HK6.out⟩⟩
       | ok v nn =>
        have HX6 : Aside0 (obj s pv f (skip isBl s nn) false (putF acc ⟨l.toArray⟩ v) = R) := ⟨by rw [← HX5.out, hv]; rfl⟩
        have hmn := HP.out _ _ _ hv
        have HPV := Aside0.mk hv; clear hv HX5; have hnsz : (⟨l.toArray⟩ : ByteArray).size ≤ maxLen := by
         have h1 : (⟨l.toArray⟩ : ByteArray).size = l.length := rfl
         have := HL.out
         simp only [maxLen]
         omega
        have hkey := jkey hnsz
        have HDN := Aside0.mk (HD.out.2 ⟨l.toArray⟩ hnsz)
        clear hnsz; cases hi : idxF acc ⟨l.toArray⟩ with
        | some q =>
         have HDN := Aside0.mk (by have h := HDN.out; rw [hi] at h; exact h)
         have HI := Aside0.mk hi; have hh := HDN.out.1
         have hq := idxF_lt hi
         clear hi; go_upto_if 57 with (first | (at_lookup; refine wpList_lookup_own_ok_int _ rfl _ _ 107 rfl 9 3 .i64 jstr Tryz.underlying107 Tryz.underlying3 (jzero _) (N + 1 + 1) n D rfl (World.ownsMap.alloc HM6.out _) _ _ rfl hkey ?_; intro c hat hwc; rw [hh]; have hc := (HDN.out.2 _).symm.trans hat; injection hc with hc; injection hc with _ hc; subst hc; clear hat hwc) | (go_at_call 51; refine HH.out.mono ?_; rintro e w' ⟨rfl, n1, rfl⟩) | ((go_at_call 53; refine (HT.out _).mono ?_; rintro e w1 ⟨x, rfl, rfl, hk1, hr, hk⟩; have HR2 := Aside0.mk hr; have HK2 := Aside0.mk hk; clear hr hk); have hks := hk1) | (go_at_call 29; refine (json_reader_blanks.calls B s k w1 HR2.out hsz hks).mono ?_; rintro e w2 ⟨rfl, hr, hk⟩; have HR3 := Aside0.mk hr; have HK3 := Aside0.mk (HK2.out.trans hk); clear hr hk) | (go_at_call 52; refine (json_reader_word.calls B s (skip isBl s k) [58] w2 HR3.out hsz (skip_in hks) (by decide) (by decide)).mono ?_; intro e w3 ho; rw [HWD.out] at ho; obtain ⟨x, rfl, rfl, hj3, hr, hk⟩ := ho.ok_; have HR4 := Aside0.mk hr; have HK4 := Aside0.mk (HK3.out.trans hk); clear ho hr hk) | (go_at_call 29; refine (json_reader_blanks.calls B s (skip isBl s k + 1) w3 HR4.out hsz hj3).mono ?_; rintro e w4 ⟨rfl, hr, hk⟩; have HR5 := Aside0.mk hr; have HK5 := Aside0.mk (HK4.out.trans hk); clear hr hk) | (go_at_call 30; refine (HVC.out _ w4 HR5.out HK5.out).mono ?_; intro e w5 ho; rw [HPV.out] at ho; obtain ⟨x, rfl, ⟨v2, v3, rfl, hr2, hr3⟩, hns, hr, hk⟩ := ho.ok_; have HR6 := Aside0.mk hr; have HK6 := Aside0.mk (HK5.out.trans hk); have HV2 := Aside0.mk hr2; have HV3 := Aside0.mk hr3; obtain ⟨A4, c4, rfl⟩ := Kd.R_slice hr2; obtain ⟨A5, c5, rfl⟩ := Kd.R_slice hr3; have HM6 := Aside0.mk ((show OMap N D n (wc.drewN _) from HM1.out).kp HK6.out HBn.out); have HS6 := Aside0.mk (show wc.heap.size ≤ w4.heap.size from HK5.out.size); clear ho hr hk hr2 hr3))
         have HKw := Aside0.mk ((HK1.out.drewN n1).trans HK6.out)
         have HY6 := Aside0.mk ((show OBox N _ (wc.drewN n1) from HY1.out).kp HK6.out HBn.out)
         have HRow6 := Aside0.mk (rkp (Kd.R_drewN HRow1.out n1) HK6.out (by have := HBn.out; omega))
         have hbF := blk_new w5 (.cells #[.string ⟨l.toArray⟩, .int .u8 v.f0, .string v.f1, .slice A4 v.f2.length c4, .slice A5 v.f3.length c5] 45 (0, 0))
         have hNc : N + 1 + 1 < wc.heap.size := World.ownsMap.lt HM1.out
         have hS6 := HS6.out
         have hS65 : wc.heap.size ≤ w5.heap.size := HK6.out.size
         have HMf := Aside0.mk (k45.M_lower (base' := N + 3) (by omega) (k45.M_mono (ok' := fun k => wc.heap.size ≤ k ∧ k < w5.heap.size) (fun k hk => ⟨by have := hk.2.1; omega, hk.2.2.1⟩) (k45.M_move (w1 := w5.alloc (.cells #[.string ⟨l.toArray⟩, .int .u8 v.f0, .string v.f1, .slice A4 v.f2.length c4, .slice A5 v.f3.length c5] 45 (0, 0))) (fun k hk => alloc_far hk.2.2.1) (k45.M_bound (k45_mkM w5 w4.heap.size (fun _ => True) ⟨⟨l.toArray⟩, v⟩ HV2.out HV3.out)))))
         have HY7 := Aside0.mk (show OBox N (.slice A3 acc.length c3) (w5.alloc (.cells #[.string ⟨l.toArray⟩, .int .u8 v.f0, .string v.f1, .slice A4 v.f2.length c4, .slice A5 v.f3.length c5] 45 (0, 0))) from ⟨blk_alloc HY6.out.1 _, blk_alloc HY6.out.2 _⟩)
         have HM7 := Aside0.mk (show OMap N D n (w5.alloc (.cells #[.string ⟨l.toArray⟩, .int .u8 v.f0, .string v.f1, .slice A4 v.f2.length c4, .slice A5 v.f3.length c5] 45 (0, 0))) from World.ownsMap.alloc HM6.out _)
         have HRow7 := Aside0.mk (rk (w' := w5.alloc (.cells #[.string ⟨l.toArray⟩, .int .u8 v.f0, .string v.f1, .slice A4 v.f2.length c4, .slice A5 v.f3.length c5] 45 (0, 0))) HRow6.out (fun k h1 h2 => alloc_far h2))
         have HR7 := Aside0.mk (HR6.out.alloc (.cells #[.string ⟨l.toArray⟩, .int .u8 v.f0, .string v.f1, .slice A4 v.f2.length c4, .slice A5 v.f3.length c5] 45 (0, 0)))
         have HK7 := Aside0.mk (HKw.out.alloc (.cells #[.string ⟨l.toArray⟩, .int .u8 v.f0, .string v.f1, .slice A4 v.f2.length c4, .slice A5 v.f3.length c5] 45 (0, 0)))
         have hS7 : w5.heap.size < (w5.alloc (.cells #[.string ⟨l.toArray⟩, .int .u8 v.f0, .string v.f1, .slice A4 v.f2.length c4, .slice A5 v.f3.length c5] 45 (0, 0))).heap.size := blk_lt hbF
         generalize hw6 : w5.alloc (.cells #[.string ⟨l.toArray⟩, .int .u8 v.f0, .string v.f1, .slice A4 v.f2.length c4, .slice A5 v.f3.length c5] 45 (0, 0)) = w6 at hbF HMf HY7 HM7 HRow7 HR7 HK7 hS7 ⊢
         generalize hFb : w5.heap.size = Fb at hbF HMf hS7 hS65 ⊢
         obtain ⟨g, cur, hA, hg, hb, hcs⟩ := R_row (d := k45) (by decide) HRow7.out hq
         subst hA; change q * 5 + 5 ≤ cur.size at hcs
         have e3 := (blk_cell HY7.out.2 3).trans rfl
         have b0 := blk_cell hbF 0
         have b1' := blk_cell hbF 1
         have b2' := blk_cell hbF 2
         have b3 := blk_cell hbF 3
         have b4 := blk_cell hbF 4
         have x0 := (blk_cell hb (q * 5)).trans (Array.getElem?_eq_getElem (by omega))
         have x1 := (blk_cell hb (q * 5 + 1)).trans (Array.getElem?_eq_getElem (by omega))
         have x2 := (blk_cell hb (q * 5 + 2)).trans (Array.getElem?_eq_getElem (by omega))
         have x3 := (blk_cell hb (q * 5 + 3)).trans (Array.getElem?_eq_getElem (by omega))
         have x4 := (blk_cell hb (q * 5 + 4)).trans (Array.getElem?_eq_getElem (by omega))
         have y0 := blk_frozen hb (q * 5)
         have y1 := blk_frozen hb (q * 5 + 1)
         have y2 := blk_frozen hb (q * 5 + 2)
         have y3 := blk_frozen hb (q * 5 + 3)
         have y4 := blk_frozen hb (q * 5 + 4)
         have q0 : ((0 : Int) ≤ (q : Int)) = True := eq_true (by omega)
         have q1 : ((q : Int) < (acc.length : Int)) = True := eq_true (by omega)
         have hBx := HBn.out
         have hgl : g < wc.heap.size := by
          have hh := Kd.R_lt HRow1.out g rfl
          exact hh
         have hfar : ∀ p, p < N + 3 → ((((((w6.setCell ⟨g, q * 5, none⟩ (.string ⟨l.toArray⟩)).setCell ⟨g, q * 5 + 1, none⟩ (.int .u8 v.f0)).setCell ⟨g, q * 5 + 2, none⟩ (.string v.f1)).setCell ⟨g, q * 5 + 3, none⟩ (.slice A4 v.f2.length c4)).setCell ⟨g, q * 5 + 4, none⟩ (.slice A5 v.f3.length c5))).heap[p]? = w6.heap[p]? := fun p hp => put5_far (by omega) _ _ _ _ _
         have HRz := Aside0.mk (show Rdr B s nn ((((((w6.setCell ⟨g, q * 5, none⟩ (.string ⟨l.toArray⟩)).setCell ⟨g, q * 5 + 1, none⟩ (.int .u8 v.f0)).setCell ⟨g, q * 5 + 2, none⟩ (.string v.f1)).setCell ⟨g, q * 5 + 3, none⟩ (.slice A4 v.f2.length c4)).setCell ⟨g, q * 5 + 4, none⟩ (.slice A5 v.f3.length c5))) from (hfar B (by omega)).trans HR7.out)
         have HYz := Aside0.mk (HY7.out.kept (w' := (((((w6.setCell ⟨g, q * 5, none⟩ (.string ⟨l.toArray⟩)).setCell ⟨g, q * 5 + 1, none⟩ (.int .u8 v.f0)).setCell ⟨g, q * 5 + 2, none⟩ (.string v.f1)).setCell ⟨g, q * 5 + 3, none⟩ (.slice A4 v.f2.length c4)).setCell ⟨g, q * 5 + 4, none⟩ (.slice A5 v.f3.length c5))) ⟨hfar N (by omega), hfar (N + 1) (by omega)⟩)
         have HMz := Aside0.mk (HM7.out.kept (w' := (((((w6.setCell ⟨g, q * 5, none⟩ (.string ⟨l.toArray⟩)).setCell ⟨g, q * 5 + 1, none⟩ (.int .u8 v.f0)).setCell ⟨g, q * 5 + 2, none⟩ (.string v.f1)).setCell ⟨g, q * 5 + 3, none⟩ (.slice A4 v.f2.length c4)).setCell ⟨g, q * 5 + 4, none⟩ (.slice A5 v.f3.length c5))) (hfar (N + 1 + 1) (by omega)))
         have hNg : w.heap.size ≤ g := by have := HNw.out; omega
         have HKz := Aside0.mk (show Kp B w ((((((w6.setCell ⟨g, q * 5, none⟩ (.string ⟨l.toArray⟩)).setCell ⟨g, q * 5 + 1, none⟩ (.int .u8 v.f0)).setCell ⟨g, q * 5 + 2, none⟩ (.string v.f1)).setCell ⟨g, q * 5 + 3, none⟩ (.slice A4 v.f2.length c4)).setCell ⟨g, q * 5 + 4, none⟩ (.slice A5 v.f3.length c5))) from ((((HK7.out.setN (p := ⟨g, q * 5, none⟩) hNg _).setN (p := ⟨g, q * 5 + 1, none⟩) hNg _).setN (p := ⟨g, q * 5 + 2, none⟩) hNg _).setN (p := ⟨g, q * 5 + 3, none⟩) hNg _).setN (p := ⟨g, q * 5 + 4, none⟩) hNg _)
         have HRowz := Aside0.mk (show k45.R 45 ((((((w6.setCell ⟨g, q * 5, none⟩ (.string ⟨l.toArray⟩)).setCell ⟨g, q * 5 + 1, none⟩ (.int .u8 v.f0)).setCell ⟨g, q * 5 + 2, none⟩ (.string v.f1)).setCell ⟨g, q * 5 + 3, none⟩ (.slice A4 v.f2.length c4)).setCell ⟨g, q * 5 + 4, none⟩ (.slice A5 v.f3.length c5))) (N + 3) (fun _ => True) (.slice (some ⟨g, 0, none⟩) acc.length c3) (acc.set q ⟨⟨l.toArray⟩, v⟩) from R_store5 rfl HRow7.out hq HMf.out (fun p hp => by have := hp.1; omega))
         have HPF := Aside0.mk (show putF acc ⟨l.toArray⟩ v = acc.set q ⟨⟨l.toArray⟩, v⟩ by unfold putF; rw [HI.out])
         have HDz := Aside0.mk (show MapOk D (acc.set q ⟨⟨l.toArray⟩, v⟩) from HD.out.set HI.out v)
         clear hfar hNg hgl hBx; go_wp2_with (go_at_call 29; refine (json_reader_blanks.calls B s nn _ HRz.out hsz hns).mono ?_; rintro e w8 ⟨rfl, hr, hk⟩; have HR8 := Aside0.mk hr; have HK8 := Aside0.mk hk; clear hr hk)
         go_roundg f
         case measure => omega
         case rel =>
          have hskn := skip_ge (p := isBl) s nn
          have hA := HA.out
          have hlen : (acc.set q (⟨⟨l.toArray⟩, v⟩ : JF)).length = acc.length := List.length_set
          exact ⟨false, skip isBl s nn, acc.set q ⟨⟨l.toArray⟩, v⟩, .slice (some ⟨g, 0, none⟩) acc.length c3, D, n, rfl, skip_in hns, by omega, ⟨by rw [hlen]; omega⟩, ⟨by rw [hlen]; exact Hn.out⟩, ⟨by rw [← HPF.out]; exact HX6.out⟩, HDz, HR8, ⟨HYz.out.kp HK8.out HBn.out⟩, ⟨rkp HRowz.out HK8.out (by have := HBn.out; omega)⟩, ⟨HMz.out.kp HK8.out HBn.out⟩, ⟨HKz.out.trans HK8.out⟩⟩
        | none =>
         have HDN := Aside0.mk (by have h := HDN.out; rw [hi] at h; exact h)
         have HI := Aside0.mk hi; have hh := HDN.out
         clear hi; go_upto_if 57 with (first | (at_lookup; refine wpList_lookup_own_ok_int _ rfl _ _ 107 rfl 9 3 .i64 jstr Tryz.underlying107 Tryz.underlying3 (jzero _) (N + 1 + 1) n D rfl (World.ownsMap.alloc HM6.out _) _ _ rfl hkey ?_; intro c hat hwc; rw [hh]; clear hat hwc) | (go_at_call 51; refine HH.out.mono ?_; rintro e w' ⟨rfl, n1, rfl⟩) | ((go_at_call 53; refine (HT.out _).mono ?_; rintro e w1 ⟨x, rfl, rfl, hk1, hr, hk⟩; have HR2 := Aside0.mk hr; have HK2 := Aside0.mk hk; clear hr hk); have hks := hk1) | (go_at_call 29; refine (json_reader_blanks.calls B s k w1 HR2.out hsz hks).mono ?_; rintro e w2 ⟨rfl, hr, hk⟩; have HR3 := Aside0.mk hr; have HK3 := Aside0.mk (HK2.out.trans hk); clear hr hk) | (go_at_call 52; refine (json_reader_word.calls B s (skip isBl s k) [58] w2 HR3.out hsz (skip_in hks) (by decide) (by decide)).mono ?_; intro e w3 ho; rw [HWD.out] at ho; obtain ⟨x, rfl, rfl, hj3, hr, hk⟩ := ho.ok_; have HR4 := Aside0.mk hr; have HK4 := Aside0.mk (HK3.out.trans hk); clear ho hr hk) | (go_at_call 29; refine (json_reader_blanks.calls B s (skip isBl s k + 1) w3 HR4.out hsz hj3).mono ?_; rintro e w4 ⟨rfl, hr, hk⟩; have HR5 := Aside0.mk hr; have HK5 := Aside0.mk (HK4.out.trans hk); clear hr hk) | (go_at_call 30; refine (HVC.out _ w4 HR5.out HK5.out).mono ?_; intro e w5 ho; rw [HPV.out] at ho; obtain ⟨x, rfl, ⟨v2, v3, rfl, hr2, hr3⟩, hns, hr, hk⟩ := ho.ok_; have HR6 := Aside0.mk hr; have HK6 := Aside0.mk (HK5.out.trans hk); have HV2 := Aside0.mk hr2; have HV3 := Aside0.mk hr3; obtain ⟨A4, c4, rfl⟩ := Kd.R_slice hr2; obtain ⟨A5, c5, rfl⟩ := Kd.R_slice hr3; have HM6 := Aside0.mk ((show OMap N D n (wc.drewN _) from HM1.out).kp HK6.out HBn.out); have HS6 := Aside0.mk (show wc.heap.size ≤ w4.heap.size from HK5.out.size); clear ho hr hk hr2 hr3))
         have HKw := Aside0.mk ((HK1.out.drewN n1).trans HK6.out)
         have HY6 := Aside0.mk ((show OBox N _ (wc.drewN n1) from HY1.out).kp HK6.out HBn.out)
         have HRow6 := Aside0.mk (rkp (Kd.R_drewN HRow1.out n1) HK6.out (by have := HBn.out; omega))
         have hbF := blk_new w5 (.cells #[.string ⟨l.toArray⟩, .int .u8 v.f0, .string v.f1, .slice A4 v.f2.length c4, .slice A5 v.f3.length c5] 45 (0, 0))
         have hNc : N + 1 + 1 < wc.heap.size := World.ownsMap.lt HM1.out
         have hS6 := HS6.out
         have hS65 : wc.heap.size ≤ w5.heap.size := HK6.out.size
         have HMf := Aside0.mk (k45.M_lower (base' := N + 3) (by omega) (k45.M_mono (ok' := fun k => wc.heap.size ≤ k ∧ k < w5.heap.size) (fun k hk => ⟨by have := hk.2.1; omega, hk.2.2.1⟩) (k45.M_move (w1 := w5.alloc (.cells #[.string ⟨l.toArray⟩, .int .u8 v.f0, .string v.f1, .slice A4 v.f2.length c4, .slice A5 v.f3.length c5] 45 (0, 0))) (fun k hk => alloc_far hk.2.2.1) (k45.M_bound (k45_mkM w5 w4.heap.size (fun _ => True) ⟨⟨l.toArray⟩, v⟩ HV2.out HV3.out)))))
         have HY7 := Aside0.mk (show OBox N (.slice A3 acc.length c3) (w5.alloc (.cells #[.string ⟨l.toArray⟩, .int .u8 v.f0, .string v.f1, .slice A4 v.f2.length c4, .slice A5 v.f3.length c5] 45 (0, 0))) from ⟨blk_alloc HY6.out.1 _, blk_alloc HY6.out.2 _⟩)
         have HM7 := Aside0.mk (show OMap N D n (w5.alloc (.cells #[.string ⟨l.toArray⟩, .int .u8 v.f0, .string v.f1, .slice A4 v.f2.length c4, .slice A5 v.f3.length c5] 45 (0, 0))) from World.ownsMap.alloc HM6.out _)
         have HRow7 := Aside0.mk (rk (w' := w5.alloc (.cells #[.string ⟨l.toArray⟩, .int .u8 v.f0, .string v.f1, .slice A4 v.f2.length c4, .slice A5 v.f3.length c5] 45 (0, 0))) HRow6.out (fun k h1 h2 => alloc_far h2))
         have HR7 := Aside0.mk (HR6.out.alloc (.cells #[.string ⟨l.toArray⟩, .int .u8 v.f0, .string v.f1, .slice A4 v.f2.length c4, .slice A5 v.f3.length c5] 45 (0, 0)))
         have HK7 := Aside0.mk (HKw.out.alloc (.cells #[.string ⟨l.toArray⟩, .int .u8 v.f0, .string v.f1, .slice A4 v.f2.length c4, .slice A5 v.f3.length c5] 45 (0, 0)))
         have hS7 : w5.heap.size < (w5.alloc (.cells #[.string ⟨l.toArray⟩, .int .u8 v.f0, .string v.f1, .slice A4 v.f2.length c4, .slice A5 v.f3.length c5] 45 (0, 0))).heap.size := blk_lt hbF
         generalize hw6 : w5.alloc (.cells #[.string ⟨l.toArray⟩, .int .u8 v.f0, .string v.f1, .slice A4 v.f2.length c4, .slice A5 v.f3.length c5] 45 (0, 0)) = w6 at hbF HMf HY7 HM7 HRow7 HR7 HK7 hS7 ⊢
         generalize hFb : w5.heap.size = Fb at hbF HMf hS7 hS65 ⊢
         have e3 := (blk_cell HY7.out.2 3).trans rfl
         have b0 := blk_cell hbF 0
         have b1' := blk_cell hbF 1
         have b2' := blk_cell hbF 2
         have b3 := blk_cell hbF 3
         have b4 := blk_cell hbF 4
         have hBx := HBn.out
         have hA' := HA.out
         have hnm : n < maxLen := by
          have := Hn.out
          simp only [maxLen]
          omega
         have wl : (Lit.int .i64 (acc.length : Int)).wf = true := by
          simp only [Lit.wf, IntKind.min, IntKind.max]
          simp [IntKind.bits, IntKind.signed]
          omega
         have hown3 : ∀ k, (Value.slice A3 acc.length c3).ownBlock = some k → N + 3 ≤ k ∧ k < wc.heap.size := fun k hk => ⟨Kd.R_base HRow1.out k hk, Kd.R_lt HRow1.out k hk⟩
         have HPF := Aside0.mk (show putF acc ⟨l.toArray⟩ v = acc ++ [⟨⟨l.toArray⟩, v⟩] by unfold putF; rw [HI.out])
         have HDz := Aside0.mk (HD.out.put HI.out v)
         go_wp2_with (first | (at_mapUpdate; refine wpList_mapUpdate_own _ rfl _ _ _ 107 rfl 9 3 jstr Tryz.underlying107 _ (N + 1 + 1) n D rfl HM7.out hnm _ _ _ rfl rfl hkey _ [] (plainElem_int Tryz.underlying3 wl) ?_; intro w7 hown hgr; have HGr := Aside0.mk hgr; have HM8 := Aside0.mk (show OMap N _ _ w7 from hown); clear hown hgr; have HY8 := Aside0.mk (HY7.out.kept ⟨HGr.out.block N (by omega) (by simp; omega), HGr.out.block (N + 1) (by omega) (by simp)⟩); have HRow8 := Aside0.mk (rk HRow7.out (fun k h1 h2 => HGr.out.block k h2 (by simp; omega))); have HMf8 := Aside0.mk (k45.M_move (fun k hk => HGr.out.block k (by have := hk.2; omega) (by simp; have := hk.1; omega)) HMf.out); have hbF8 := (HGr.out.block Fb (by omega) (by simp; omega)).trans hbF; have HR8 := Aside0.mk ((HGr.out.block B (by omega) (by simp; omega)).trans HR7.out); have HK8 := Aside0.mk (HK7.out.thenB ⟨HGr.out.os, HGr.out.tape, HGr.out.output, HGr.out.size, fun q hq => HGr.out.block q (by omega) (by simp; omega)⟩ (show w.heap.size ≤ N by rw [HNw.out]; exact Nat.le_refl _)); have hS8 := HGr.out.size; have e3 := (blk_cell HY8.out.2 3).trans rfl; have b0 := blk_cell hbF8 0; have b1' := blk_cell hbF8 1; have b2' := blk_cell hbF8 2; have b3 := blk_cell hbF8 3; have b4 := blk_cell hbF8 4) | ((with_reducible refine gate_builtin (b := .append) (xs := #[.tmp 69, .tmp 71]) rfl ?_); at_builtin; refine Kd.R_append k45 (w0 := w7) (N + 3) rfl (.tmp 69) (.tmp 71) 23 45 (.agg #[(.string ⟨#[]⟩), (.int .u8 0), (.string ⟨#[]⟩), (.slice none 0 0), (.slice none 0 0)]) 88 rfl Tryz.underlying23 jinfoF rfl (by decide) (by omega) (.slice A3 acc.length c3) acc ⟨⟨l.toArray⟩, v⟩ [.string ⟨l.toArray⟩, .int .u8 v.f0, .string v.f1, .slice A4 v.f2.length c4, .slice A5 v.f3.length c5] (fun _ => True) (fun k => wc.heap.size ≤ k ∧ k < Fb) rfl rfl HMf8.out ?aO (fun _ _ => trivial) HRow8.out (Below.refl _ _) ?aB ?aL ?_; (case aO => exact fun k hk => ⟨trivial, fun he => by have h1 := hown3 k he.symm; have := hk.1; omega⟩); (case aB => omega); (case aL => omega); intro v1 w8 hrow _ hgr hat; obtain ⟨A6, c6, rfl⟩ := Kd.R_slice hrow; have HRow9 := Aside0.mk hrow; have hfar : ∀ q, q < w7.heap.size → q < N + 3 → w8.heap[q]? = w7.heap[q]? := (fun q h1 h2 => hgr.block q h1 (fun he => by have := (hown3 q he.symm).1; omega)); have HY9 := Aside0.mk (HY8.out.kept ⟨hfar N (by omega) (by omega), hfar (N + 1) (by omega) (by omega)⟩); have HM9 := Aside0.mk (HM8.out.kept (hfar (N + 1 + 1) (by omega) (by omega))); have HR9 := Aside0.mk ((hfar B (by omega) (by omega)).trans HR8.out); have HK9 := Aside0.mk (HK8.out.thenB ⟨hgr.os, hgr.tape, hgr.output, hgr.size, fun q hq => hfar q (by omega) (by omega)⟩ (show w.heap.size ≤ N by rw [HNw.out]; exact Nat.le_refl _)); clear hrow hgr hat hfar; have e3 := (blk_cell HY9.out.2 3).trans rfl; have g3 := blk_frozen HY9.out.2 3) | (go_at_call 29; refine (json_reader_blanks.calls B s nn _ (Rdr.far1 HR9.out hBN) hsz hns).mono ?_; rintro e w9 ⟨rfl, hr, hk⟩; have HR10 := Aside0.mk hr; have HK10 := Aside0.mk hk; clear hr hk))
         go_roundg f
         case measure => omega
         case rel =>
          have hskn := skip_ge (p := isBl) s nn
          have hlen : (acc ++ [(⟨⟨l.toArray⟩, v⟩ : JF)]).length = acc.length + 1 := by simp
          have HKf : Kp B w8 (w8.setCell ⟨N + 1, 3, none⟩ (.slice A6 (acc ++ [(⟨⟨l.toArray⟩, v⟩ : JF)]).length c6)) ∨ True := .inr trivial
          have hN1 : w.heap.size ≤ N + 1 := by have := HNw.out; omega
          refine ⟨false, skip isBl s nn, acc ++ [⟨⟨l.toArray⟩, v⟩], .slice A6 (acc ++ [(⟨⟨l.toArray⟩, v⟩ : JF)]).length c6, _, n + 1, rfl, skip_in hns, by omega, ⟨by rw [hlen]; omega⟩, ⟨by rw [hlen]; have := Hn.out; omega⟩, ⟨by rw [← HPF.out]; exact HX6.out⟩, HDz, HR10, ⟨?_⟩, ⟨?_⟩, ⟨?_⟩, ⟨(HK9.out.setN (p := ⟨N + 1, 3, none⟩) hN1 _).trans HK10.out⟩⟩
          ·refine OBox.kp (⟨?_, ?_⟩ : OBox N (.slice A6 (acc ++ [(⟨⟨l.toArray⟩, v⟩ : JF)]).length c6) _) HK10.out HBn.out
           ·exact (Below.heap_setCell _ _ _ _ (show N ≠ N + 1 by omega)).trans HY9.out.1
           ·rw [hlen]; exact blk_put HY9.out.2 3 _ rfl
          ·exact rkp (rk HRow9.out (fun q hq hlt => Below.heap_setCell _ _ _ _ (show q ≠ N + 1 by omega))) HK10.out (by omega)
          ·exact (HM9.out.kept (Below.heap_setCell _ _ _ _ (show N + 1 + 1 ≠ N + 1 by omega))).kp HK10.out HBn.out
end Go.Proofs.YtebmgmagdhedgaaGreatDoor.Q

end
section
namespace Go.Proofs.YtebmgmagdhedgaaGreatDoor.Q
open Go.RowKit Go.Proofs.YtebmgmagdhedgaaGreatDoorW.PrintWords Go.Proofs.YtebmgmagdhedgaaGreatDoorW.PrintLast Go.Proofs.YtebmgmagdhedgaaGreatDoorW.PrintMore
attribute [local go_sem] max2_int min2_int max_two min_two max_three min_three max_four min_four   
set_option linter.unusedVariables false
set_option linter.unusedSimpArgs false
/-- What begins at a place, the bracketed apart. -/
def flat (s : ByteArray) (br : Nat → Res JV) (i : Nat) : Res JV :=
 if hnd s i = 110 then (wd s [110, 117, 108, 108] i).bind fun _ j => .ok ⟨0, ⟨#[]⟩, [], []⟩ j
 else if hnd s i = 116 then (wd s [116, 114, 117, 101] i).bind fun _ j => .ok ⟨2, ⟨#[]⟩, [], []⟩ j
 else if hnd s i = 102 then (wd s [102, 97, 108, 115, 101] i).bind fun _ j => .ok ⟨1, ⟨#[]⟩, [], []⟩ j
 else if hnd s i = 34 then (text s i).bind fun l j => .ok ⟨4, ⟨l.toArray⟩, [], []⟩ j
 else if hnd s i = 91 ∨ hnd s i = 123 then br i
 else (number s i).bind fun _ j => .ok ⟨3, s.extract i j, [], []⟩ j
def brk (s : ByteArray) (pv : Nat → Res JV) (i : Nat) : Res JV :=
 if hnd s i = 91 then (lst s pv (s.size + 1) (skip isBl s (i + 1)) []).bind fun l j => .ok ⟨5, ⟨#[]⟩, l, []⟩ j
 else (obj s pv (s.size + 1) (skip isBl s (i + 1)) true []).bind fun l j => .ok ⟨6, ⟨#[]⟩, [], l⟩ j
/-- A value at a place; d: how many levels more there may be. -/
def pval (s : ByteArray) : Nat → Nat → Res JV
 | 0 => flat s (fun i => .bad i 31)
 | d + 1 => flat s (brk s (pval s d))
theorem wd_lt {s : ByteArray} : ∀ {l : List Nat} {i j : Nat}, wd s l i = .ok () j → j = i + l.length := by
 intro l
 induction l with
 | nil => intro i j h; injection h with _ h; subst h; rfl
 | cons c r ih =>
  intro i j h
  rw [wd_cons] at h
  split at h
  ·have := ih h; rw [List.length_cons]; omega
  ·cases h
theorem lst_lt {s : ByteArray} {pv : Nat → Res JV} (hp : ∀ i v j, pv i = .ok v j → i < j) : ∀ {f i : Nat} {acc l : List JV} {j : Nat}, lst s pv f i acc = .ok l j → i < j := by
 intro f
 induction f with
 | zero => intro i acc l j h; cases h
 | succ f ih =>
  intro i acc l j h
  rw [lst] at h
  split at h
  ·injection h with _ h; omega
  ·have key : ∀ m, i ≤ m → ((pv m).bind fun v k => lst s pv f (skip isBl s k) (acc ++ [v])) = .ok l j → i < j := by
    intro m hm h
    cases hv : pv m with
    | bad k c => rw [hv] at h; cases h
    | ok v k =>
     rw [hv] at h
     have h1 := hp _ _ _ hv
     have h2 := ih (show lst s pv f (skip isBl s k) (acc ++ [v]) = .ok l j from h)
     have h3 := skip_ge (p := isBl) s k
     omega
   split at h
   ·exact key i (Nat.le_refl _) h
   ·cases hw : wd s [44] i with
    | bad k c => rw [hw] at h; cases h
    | ok u k =>
     rw [hw] at h
     have h1 := wd_lt (show wd s [44] i = .ok () k from hw)
     have h3 := skip_ge (p := isBl) s k
     exact key (skip isBl s k) (by simp at h1; omega) h
theorem obj_lt {s : ByteArray} {pv : Nat → Res JV} (hp : ∀ i v j, pv i = .ok v j → i < j) : ∀ {f i : Nat} {fl : Bool} {acc l : List JF} {j : Nat}, obj s pv f i fl acc = .ok l j → i < j := by
 intro f
 induction f with
 | zero => intro i fl acc l j h; cases h
 | succ f ih =>
  intro i fl acc l j h
  rw [obj] at h
  split at h
  ·injection h with _ h; omega
  ·have key : ∀ m, i ≤ m → (if hnd s m = 34 then (text s m).bind fun l k => (wd s [58] (skip isBl s k)).bind fun _ m => (pv (skip isBl s m)).bind fun v n => obj s pv f (skip isBl s n) false (putF acc ⟨l.toArray⟩ v) else .bad m 30) = .ok l j → i < j := by
    intro m hm h
    split at h
    ·cases ht : text s m with
     | bad k c => rw [ht] at h; cases h
     | ok tx k =>
      rw [ht] at h
      have h1 := text_len ht
      cases hw : wd s [58] (skip isBl s k) with
      | bad k2 c => rw [show ((Res.ok tx k : Res (List UInt8)).bind fun l k => (wd s [58] (skip isBl s k)).bind fun _ m => (pv (skip isBl s m)).bind fun v n => obj s pv f (skip isBl s n) false (putF acc ⟨l.toArray⟩ v)) = (wd s [58] (skip isBl s k)).bind fun _ m => (pv (skip isBl s m)).bind fun v n => obj s pv f (skip isBl s n) false (putF acc ⟨tx.toArray⟩ v) from rfl, hw] at h; cases h
      | ok u m2 =>
       rw [show ((Res.ok tx k : Res (List UInt8)).bind fun l k => (wd s [58] (skip isBl s k)).bind fun _ m => (pv (skip isBl s m)).bind fun v n => obj s pv f (skip isBl s n) false (putF acc ⟨l.toArray⟩ v)) = (wd s [58] (skip isBl s k)).bind fun _ m => (pv (skip isBl s m)).bind fun v n => obj s pv f (skip isBl s n) false (putF acc ⟨tx.toArray⟩ v) from rfl, hw] at h
       have h2 := wd_lt (show wd s [58] (skip isBl s k) = .ok () m2 from hw)
       have h3 := skip_ge (p := isBl) s k
       have h4 := skip_ge (p := isBl) s m2
       change ((pv (skip isBl s m2)).bind fun v n => obj s pv f (skip isBl s n) false (putF acc ⟨tx.toArray⟩ v)) = .ok l j at h
       cases hv : pv (skip isBl s m2) with
       | bad k c => rw [hv] at h; cases h
       | ok v n =>
        rw [hv] at h
        have h5 := hp _ _ _ hv
        have h6 := ih (show obj s pv f (skip isBl s n) false (putF acc ⟨tx.toArray⟩ v) = .ok l j from h)
        have h7 := skip_ge (p := isBl) s n
        simp at h2
        omega
    ·cases h
   split at h
   ·exact key i (Nat.le_refl _) h
   ·cases hw : wd s [44] i with
    | bad k c => rw [hw] at h; cases h
    | ok u k =>
     rw [hw] at h
     have h1 := wd_lt (show wd s [44] i = .ok () k from hw)
     have h3 := skip_ge (p := isBl) s k
     exact key (skip isBl s k) (by simp at h1; omega) h
theorem skip_lt {p : Nat → Bool} {s : ByteArray} {i : Nat} (h : i < s.size ∧ p (hnd s i) = true) : i < skip p s i := by
 rw [skip_yes h.1 h.2]
 have := skip_ge (p := p) s (i + 1)
 omega
theorem digits_lt {s : ByteArray} {i j : Nat} (h : digits s i = .ok () j) : i < j := by
 unfold digits at h
 split at h
 ·rename_i hd
  injection h with _ h
  subst h; refine skip_lt ⟨?_, hd⟩
  refine hnd_pos (c := hnd s i) rfl (fun h0 => ?_)
  rw [h0] at hd
  exact absurd hd (by decide)
 ·cases h
theorem nE_le {s : ByteArray} {i j : Nat} (h : nE s i = .ok () j) : i ≤ j := by
 unfold nE at h
 split at h
 ·have := digits_lt h
  split at this <;> omega
 ·injection h with _ h; omega
theorem nD_le {s : ByteArray} {i j : Nat} (h : nD s i = .ok () j) : i ≤ j := by
 unfold nD at h
 split at h
 ·cases hd : digits s (i + 1) with
  | bad k c => rw [hd] at h; cases h
  | ok u k => rw [hd] at h; have h1 := digits_lt (show digits s (i + 1) = .ok () k from hd); have h2 := nE_le (show nE s k = .ok () j from h); omega
 ·exact nE_le h
theorem number_lt {s : ByteArray} {i j : Nat} (h : number s i = .ok () j) : i < j := by
 have key : ∀ m, nI s m = .ok () j → m < j := by
  intro m h
  unfold nI at h
  split at h
  ·have h2 := nD_le (show nD s (m + 1) = .ok () j from h); omega
  ·cases hd : digits s m with
   | bad k c => rw [hd] at h; cases h
   | ok u k => rw [hd] at h; have h1 := digits_lt (show digits s m = .ok () k from hd); have h2 := nD_le (show nD s k = .ok () j from h); omega
 have := key _ h
 split at this <;> omega
theorem flat_lt {s : ByteArray} {br : Nat → Res JV} (hb : ∀ i v j, br i = .ok v j → i < j) {i j : Nat} {v : JV} (h : flat s br i = .ok v j) : i < j := by
 have kw : ∀ (l : List Nat) (v0 : JV), 0 < l.length → ((wd s l i).bind fun _ j => Res.ok v0 j) = .ok v j → i < j := by
  intro l v0 hl h
  cases hw : wd s l i with
  | bad k c => rw [hw] at h; cases h
  | ok u k => rw [hw] at h; have h1 := wd_lt (show wd s l i = .ok () k from hw); injection h with _ h; omega
 unfold flat at h
 split at h
 ·exact kw _ _ (by decide) h
 ·split at h
  ·exact kw _ _ (by decide) h
  ·split at h
   ·exact kw _ _ (by decide) h
   ·split at h
    ·cases ht : text s i with
     | bad k c => rw [ht] at h; cases h
     | ok l k => rw [ht] at h; have h1 := (text_len ht).2; injection h with _ h; omega
    ·split at h
     ·exact hb _ _ _ h
     ·cases hn : number s i with
      | bad k c => rw [hn] at h; cases h
      | ok u k => rw [hn] at h; have h1 := number_lt (show number s i = .ok () k from hn); injection h with _ h; omega
theorem brk_lt {s : ByteArray} {pv : Nat → Res JV} (hp : ∀ i v j, pv i = .ok v j → i < j) (i : Nat) (v : JV) (j : Nat) (h : brk s pv i = .ok v j) : i < j := by
 have h3 := skip_ge (p := isBl) s (i + 1)
 unfold brk at h
 split at h
 ·cases hl : lst s pv (s.size + 1) (skip isBl s (i + 1)) [] with
  | bad k c => rw [hl] at h; cases h
  | ok l k => rw [hl] at h; have h1 := lst_lt hp hl; injection h with _ h; omega
 ·cases hl : obj s pv (s.size + 1) (skip isBl s (i + 1)) true [] with
  | bad k c => rw [hl] at h; cases h
  | ok l k => rw [hl] at h; have h1 := obj_lt hp hl; injection h with _ h; omega
theorem pval_lt {s : ByteArray} : ∀ (d : Nat) (i : Nat) (v : JV) (j : Nat), pval s d i = .ok v j → i < j := by
 intro d
 induction d with
 | zero => intro i v j h; exact flat_lt (fun i v j h => by cases h) h
 | succ d ih => intro i v j h; exact flat_lt (brk_lt ih) h
set_option maxRecDepth 100000 in
set_option maxHeartbeats 4000000 in
theorem json_reader_value.walk (s : ByteArray) (br : Nat → Res JV) (deep : Int) (hs : s.size ≤ 262144) (hbr : (64 < deep ∧ ∀ i, br i = .bad i 31) ∨ (0 ≤ deep ∧ deep ≤ 64) ∧ ∃ pv, ValOk s pv (deep + 1) ∧ (∀ i v j, pv i = .ok v j → i < j) ∧ ∀ i, br i = brk s pv i) : ValOk s (flat s br) deep := by
 intro B i w hR hi hG hF
 obtain ⟨N, hN⟩ : ∃ N, N = w.heap.size := ⟨_, rfl⟩
 have hBN : B < N := by rw [hN]; exact hR.lt
 obtain ⟨W1, hW1⟩ : ∃ W1, W1 = w.alloc (.cells #[.int .u8 0, .string ⟨#[]⟩, .slice none 0 0, .slice none 0 0] 25 (0, 0)) := ⟨_, rfl⟩
 have hR1 : Rdr B s i W1 := by rw [hW1]; exact hR.alloc _
 have hb1 : Below w.heap.size w W1 := by rw [hW1]; exact below_alloc (Below.refl _ _) _
 have hx1 : W1.heap[N]? = some (.cells #[.int .u8 0, .string ⟨#[]⟩, .slice none 0 0, .slice none 0 0] 25 (0, 0)) := by rw [hW1, hN]; exact blk_new w _
 obtain ⟨R, hRes⟩ : ∃ R, R = flat s br i := ⟨_, rfl⟩
 have HBR := Aside0.mk hbr; have HG := Aside0.mk hG; have HF := Aside0.mk hF; have hsz : s.size ≤ 140737488351232 := by omega
 rw [← hRes, ← hN]
 unfold flat at hRes
 have HQ0 := Aside0.mk hRes.symm; clear hG hF hbr hRes; have HR0 := Aside0.mk hR1; have HX0 := Aside0.mk hx1; have HK0 := Aside0.mk (Kp.of_below (B := B) hb1)
 have HNw := Aside0.mk hN; have HBn := Aside0.mk hBN; have HH := Aside0.mk (json_reader_hand.calls B s i W1 hR1 hsz)
 have HGC := Aside0.mk (fun w' (hk : Kp B W1 w') => HG.out.kept HF.out ((Kp.of_below (B := B) hb1).trans hk).block)
 have hB1 : B < W1.heap.size := hR1.lt
 go_enter Tryz.func30, Tryz.ntmps30
 go_upto_region 1 with (fail)
 rw [← hW1, ← hN]
 clear hR hR1 hb1 hx1 hW1 hN; by_cases h110 : hnd s i = 110
 ·have t110 := eqI (hnd s i) 110 (by omega)
  have HQ1 := Aside0.mk (by have h := HQ0.out; rw [if_pos h110] at h; exact h)
  have HWC := Aside0.mk (fun n => json_reader_word.calls B s i [110, 117, 108, 108] (W1.drewN n) (HR0.out.drewN n) hsz hi (by decide) (by decide))
  clear h110 HQ0; cases hw : wd s ([110, 117, 108, 108].map UInt8.toNat) i with
  | bad k c =>
   have HQ1 := Aside0.mk (show Res.bad k c = R by rw [← HQ1.out, show wd s [110, 117, 108, 108] i = _ from hw]; rfl)
   have HW := Aside0.mk hw; clear hw; go_wp2_with (first | (go_at_call 51; refine HH.out.mono ?_; rintro e w0 ⟨rfl, n1, rfl⟩) | (go_at_call 52; refine (HWC.out _).mono ?_; intro e w1 ho; have ho := Out.bad_ (by rw [HW.out] at ho; exact ho); obtain ⟨rfl, hk⟩ := ho; have HK1 := Aside0.mk ((HK0.out.drewN _).trans hk); clear hk))
   exact ⟨rfl, by rw [← HQ1.out]; exact ⟨rfl, HK1.out⟩⟩
  | ok u k =>
   have HQ1 := Aside0.mk (show Res.ok (⟨0, ⟨#[]⟩, [], []⟩ : JV) k = R by rw [← HQ1.out, show wd s [110, 117, 108, 108] i = _ from hw]; rfl)
   have HW := Aside0.mk hw; clear hw; go_wp2_with (first | (go_at_call 51; refine HH.out.mono ?_; rintro e w0 ⟨rfl, n1, rfl⟩) | (go_at_call 52; refine (HWC.out _).mono ?_; intro e w1 ho; have ho := Out.ok_ (by rw [HW.out] at ho; exact ho); obtain ⟨x, rfl, rfl, hj1, hr, hk⟩ := ho; have HX1 := Aside0.mk ((hk.block N (blk_lt HX0.out) (by have := HBn.out; omega)).trans HX0.out); have HR1 := Aside0.mk hr; have HK1 := Aside0.mk ((HK0.out.drewN _).trans hk); clear hr hk; have e0 := blk_cell HX1.out 0; have e1 := blk_cell HX1.out 1; have e2 := blk_cell HX1.out 2; have e3 := blk_cell HX1.out 3; have f0 := blk_frozen HX1.out 0; have f1 := blk_frozen HX1.out 1; have f2 := blk_frozen HX1.out 2; have f3 := blk_frozen HX1.out 3))
   have hw := put4 HX1.out (.int .u8 0) (.string ⟨#[]⟩) (.slice none 0 0) (.slice none 0 0)
   have hr3 := (put4_far (show B ≠ N by have := HBn.out; omega) (.int .u8 0) (.string ⟨#[]⟩) (.slice none 0 0) (.slice none 0 0)).trans HR1.out
   have hk3 := HK1.out.put4 (N := N) (by rw [HNw.out]; exact Nat.le_refl _) (.int .u8 0) (.string ⟨#[]⟩) (.slice none 0 0) (.slice none 0 0)
   generalize ((((w1.setCell ⟨N, 0, none⟩ (.int .u8 0)).setCell ⟨N, 1, none⟩ (.string ⟨#[]⟩)).setCell ⟨N, 2, none⟩ (.slice none 0 0)).setCell ⟨N, 3, none⟩ (.slice none 0 0)) = Wf at hw hr3 hk3 ⊢
   have g0 := blk_cell hw 0
   have g1 := blk_cell hw 1
   have g2 := blk_cell hw 2
   have g3 := blk_cell hw 3
   refine bodyPost_ret (v := .agg #[.int .u8 0, .string ⟨#[]⟩, .slice none 0 0, .slice none 0 0]) (by simp [results, Tryz.results30, go_sem, g0, g1, g2, g3]) rfl ?_
   rw [← HQ1.out]
   exact ⟨_, rfl, ⟨_, _, rfl, Kd.R_nil _ _ _ _ _, Kd.R_nil _ _ _ _ _⟩, hj1, hr3, hk3⟩
 by_cases h116 : hnd s i = 116
 ·have t116 := eqI (hnd s i) 116 (by omega)
  have t110 := neI (hnd s i) 110 (by omega)
  have HQ1 := Aside0.mk (by have h := HQ0.out; rw [if_neg h110, if_pos h116] at h; exact h)
  have HWC := Aside0.mk (fun n => json_reader_word.calls B s i [116, 114, 117, 101] (W1.drewN n) (HR0.out.drewN n) hsz hi (by decide) (by decide))
  clear h116 HQ0; cases hw : wd s ([116, 114, 117, 101].map UInt8.toNat) i with
  | bad k c =>
   have HQ1 := Aside0.mk (show Res.bad k c = R by rw [← HQ1.out, show wd s [116, 114, 117, 101] i = _ from hw]; rfl)
   have HW := Aside0.mk hw; clear hw; go_wp2_with (first | (go_at_call 51; refine HH.out.mono ?_; rintro e w0 ⟨rfl, n1, rfl⟩) | (go_at_call 52; refine (HWC.out _).mono ?_; intro e w1 ho; have ho := Out.bad_ (by rw [HW.out] at ho; exact ho); obtain ⟨rfl, hk⟩ := ho; have HK1 := Aside0.mk ((HK0.out.drewN _).trans hk); clear hk))
   exact ⟨rfl, by rw [← HQ1.out]; exact ⟨rfl, HK1.out⟩⟩
  | ok u k =>
   have HQ1 := Aside0.mk (show Res.ok (⟨2, ⟨#[]⟩, [], []⟩ : JV) k = R by rw [← HQ1.out, show wd s [116, 114, 117, 101] i = _ from hw]; rfl)
   have HW := Aside0.mk hw; clear hw; go_wp2_with (first | (go_at_call 51; refine HH.out.mono ?_; rintro e w0 ⟨rfl, n1, rfl⟩) | (go_at_call 52; refine (HWC.out _).mono ?_; intro e w1 ho; have ho := Out.ok_ (by rw [HW.out] at ho; exact ho); obtain ⟨x, rfl, rfl, hj1, hr, hk⟩ := ho; have HX1 := Aside0.mk ((hk.block N (blk_lt HX0.out) (by have := HBn.out; omega)).trans HX0.out); have HR1 := Aside0.mk hr; have HK1 := Aside0.mk ((HK0.out.drewN _).trans hk); clear hr hk; have e0 := blk_cell HX1.out 0; have e1 := blk_cell HX1.out 1; have e2 := blk_cell HX1.out 2; have e3 := blk_cell HX1.out 3; have f0 := blk_frozen HX1.out 0; have f1 := blk_frozen HX1.out 1; have f2 := blk_frozen HX1.out 2; have f3 := blk_frozen HX1.out 3))
   have hw := put4 HX1.out (.int .u8 2) (.string ⟨#[]⟩) (.slice none 0 0) (.slice none 0 0)
   have hr3 := (put4_far (show B ≠ N by have := HBn.out; omega) (.int .u8 2) (.string ⟨#[]⟩) (.slice none 0 0) (.slice none 0 0)).trans HR1.out
   have hk3 := HK1.out.put4 (N := N) (by rw [HNw.out]; exact Nat.le_refl _) (.int .u8 2) (.string ⟨#[]⟩) (.slice none 0 0) (.slice none 0 0)
   generalize ((((w1.setCell ⟨N, 0, none⟩ (.int .u8 2)).setCell ⟨N, 1, none⟩ (.string ⟨#[]⟩)).setCell ⟨N, 2, none⟩ (.slice none 0 0)).setCell ⟨N, 3, none⟩ (.slice none 0 0)) = Wf at hw hr3 hk3 ⊢
   have g0 := blk_cell hw 0
   have g1 := blk_cell hw 1
   have g2 := blk_cell hw 2
   have g3 := blk_cell hw 3
   refine bodyPost_ret (v := .agg #[.int .u8 2, .string ⟨#[]⟩, .slice none 0 0, .slice none 0 0]) (by simp [results, Tryz.results30, go_sem, g0, g1, g2, g3]) rfl ?_
   rw [← HQ1.out]
   exact ⟨_, rfl, ⟨_, _, rfl, Kd.R_nil _ _ _ _ _, Kd.R_nil _ _ _ _ _⟩, hj1, hr3, hk3⟩
 by_cases h102 : hnd s i = 102
 ·have t102 := eqI (hnd s i) 102 (by omega)
  have t110 := neI (hnd s i) 110 (by omega)
  have t116 := neI (hnd s i) 116 (by omega)
  have HQ1 := Aside0.mk (by have h := HQ0.out; rw [if_neg h110, if_neg h116, if_pos h102] at h; exact h)
  have HWC := Aside0.mk (fun n => json_reader_word.calls B s i [102, 97, 108, 115, 101] (W1.drewN n) (HR0.out.drewN n) hsz hi (by decide) (by decide))
  clear h102 HQ0; cases hw : wd s ([102, 97, 108, 115, 101].map UInt8.toNat) i with
  | bad k c =>
   have HQ1 := Aside0.mk (show Res.bad k c = R by rw [← HQ1.out, show wd s [102, 97, 108, 115, 101] i = _ from hw]; rfl)
   have HW := Aside0.mk hw; clear hw; go_wp2_with (first | (go_at_call 51; refine HH.out.mono ?_; rintro e w0 ⟨rfl, n1, rfl⟩) | (go_at_call 52; refine (HWC.out _).mono ?_; intro e w1 ho; have ho := Out.bad_ (by rw [HW.out] at ho; exact ho); obtain ⟨rfl, hk⟩ := ho; have HK1 := Aside0.mk ((HK0.out.drewN _).trans hk); clear hk))
   exact ⟨rfl, by rw [← HQ1.out]; exact ⟨rfl, HK1.out⟩⟩
  | ok u k =>
   have HQ1 := Aside0.mk (show Res.ok (⟨1, ⟨#[]⟩, [], []⟩ : JV) k = R by rw [← HQ1.out, show wd s [102, 97, 108, 115, 101] i = _ from hw]; rfl)
   have HW := Aside0.mk hw; clear hw; go_wp2_with (first | (go_at_call 51; refine HH.out.mono ?_; rintro e w0 ⟨rfl, n1, rfl⟩) | (go_at_call 52; refine (HWC.out _).mono ?_; intro e w1 ho; have ho := Out.ok_ (by rw [HW.out] at ho; exact ho); obtain ⟨x, rfl, rfl, hj1, hr, hk⟩ := ho; have HX1 := Aside0.mk ((hk.block N (blk_lt HX0.out) (by have := HBn.out; omega)).trans HX0.out); have HR1 := Aside0.mk hr; have HK1 := Aside0.mk ((HK0.out.drewN _).trans hk); clear hr hk; have e0 := blk_cell HX1.out 0; have e1 := blk_cell HX1.out 1; have e2 := blk_cell HX1.out 2; have e3 := blk_cell HX1.out 3; have f0 := blk_frozen HX1.out 0; have f1 := blk_frozen HX1.out 1; have f2 := blk_frozen HX1.out 2; have f3 := blk_frozen HX1.out 3))
   have hw := put4 HX1.out (.int .u8 1) (.string ⟨#[]⟩) (.slice none 0 0) (.slice none 0 0)
   have hr3 := (put4_far (show B ≠ N by have := HBn.out; omega) (.int .u8 1) (.string ⟨#[]⟩) (.slice none 0 0) (.slice none 0 0)).trans HR1.out
   have hk3 := HK1.out.put4 (N := N) (by rw [HNw.out]; exact Nat.le_refl _) (.int .u8 1) (.string ⟨#[]⟩) (.slice none 0 0) (.slice none 0 0)
   generalize ((((w1.setCell ⟨N, 0, none⟩ (.int .u8 1)).setCell ⟨N, 1, none⟩ (.string ⟨#[]⟩)).setCell ⟨N, 2, none⟩ (.slice none 0 0)).setCell ⟨N, 3, none⟩ (.slice none 0 0)) = Wf at hw hr3 hk3 ⊢
   have g0 := blk_cell hw 0
   have g1 := blk_cell hw 1
   have g2 := blk_cell hw 2
   have g3 := blk_cell hw 3
   refine bodyPost_ret (v := .agg #[.int .u8 1, .string ⟨#[]⟩, .slice none 0 0, .slice none 0 0]) (by simp [results, Tryz.results30, go_sem, g0, g1, g2, g3]) rfl ?_
   rw [← HQ1.out]
   exact ⟨_, rfl, ⟨_, _, rfl, Kd.R_nil _ _ _ _ _, Kd.R_nil _ _ _ _ _⟩, hj1, hr3, hk3⟩
 by_cases h34 : hnd s i = 34
 ·have t34 := eqI (hnd s i) 34 (by omega)
  have t110 := neI (hnd s i) 110 (by omega)
  have t116 := neI (hnd s i) 116 (by omega)
  have t102 := neI (hnd s i) 102 (by omega)
  have HQ1 := Aside0.mk (by have h := HQ0.out; rw [if_neg h110, if_neg h116, if_neg h102, if_pos h34] at h; exact h)
  have hlt := hnd_pos h34 (by omega)
  have HWC := Aside0.mk (fun n => json_reader_text.calls B s i (W1.drewN n) (HR0.out.drewN n) hsz hlt (HGC.out _ ((Kp.refl B W1).drewN n)) HF.out)
  clear h34 h110 h116 h102 HQ0; cases hw : text s i with
  | bad k c =>
   have HQ1 := Aside0.mk (show Res.bad k c = R by rw [← HQ1.out, hw]; rfl)
   have HW := Aside0.mk hw; clear hw; go_wp2_with (first | (go_at_call 51; refine HH.out.mono ?_; rintro e w0 ⟨rfl, n1, rfl⟩) | (go_at_call 53; refine (HWC.out _).mono ?_; intro e w1 ho; have ho := Out.bad_ (by rw [HW.out] at ho; exact ho); obtain ⟨rfl, hk⟩ := ho; have HK1 := Aside0.mk ((HK0.out.drewN _).trans hk); clear hk))
   exact ⟨rfl, by rw [← HQ1.out]; exact ⟨rfl, HK1.out⟩⟩
  | ok l k =>
   have HQ1 := Aside0.mk (show Res.ok (⟨4, ⟨l.toArray⟩, [], []⟩ : JV) k = R by rw [← HQ1.out, hw]; rfl)
   have HW := Aside0.mk hw; clear hw; go_wp2_with (first | (go_at_call 51; refine HH.out.mono ?_; rintro e w0 ⟨rfl, n1, rfl⟩) | (go_at_call 53; refine (HWC.out _).mono ?_; intro e w1 ho; have ho := Out.ok_ (by rw [HW.out] at ho; exact ho); obtain ⟨x, rfl, rfl, hj1, hr, hk⟩ := ho; have HX1 := Aside0.mk ((hk.block N (blk_lt HX0.out) (by have := HBn.out; omega)).trans HX0.out); have HR1 := Aside0.mk hr; have HK1 := Aside0.mk ((HK0.out.drewN _).trans hk); clear hr hk; have e0 := blk_cell HX1.out 0; have e1 := blk_cell HX1.out 1; have e2 := blk_cell HX1.out 2; have e3 := blk_cell HX1.out 3; have f0 := blk_frozen HX1.out 0; have f1 := blk_frozen HX1.out 1; have f2 := blk_frozen HX1.out 2; have f3 := blk_frozen HX1.out 3))
   have hw := put4 HX1.out (.int .u8 4) (.string ⟨l.toArray⟩) (.slice none 0 0) (.slice none 0 0)
   have hr3 := (put4_far (show B ≠ N by have := HBn.out; omega) (.int .u8 4) (.string ⟨l.toArray⟩) (.slice none 0 0) (.slice none 0 0)).trans HR1.out
   have hk3 := HK1.out.put4 (N := N) (by rw [HNw.out]; exact Nat.le_refl _) (.int .u8 4) (.string ⟨l.toArray⟩) (.slice none 0 0) (.slice none 0 0)
   generalize ((((w1.setCell ⟨N, 0, none⟩ (.int .u8 4)).setCell ⟨N, 1, none⟩ (.string ⟨l.toArray⟩)).setCell ⟨N, 2, none⟩ (.slice none 0 0)).setCell ⟨N, 3, none⟩ (.slice none 0 0)) = Wf at hw hr3 hk3 ⊢
   have g0 := blk_cell hw 0
   have g1 := blk_cell hw 1
   have g2 := blk_cell hw 2
   have g3 := blk_cell hw 3
   refine bodyPost_ret (v := .agg #[.int .u8 4, .string ⟨l.toArray⟩, .slice none 0 0, .slice none 0 0]) (by simp [results, Tryz.results30, go_sem, g0, g1, g2, g3]) rfl ?_
   rw [← HQ1.out]
   exact ⟨_, rfl, ⟨_, _, rfl, Kd.R_nil _ _ _ _ _, Kd.R_nil _ _ _ _ _⟩, hj1, hr3, hk3⟩
 by_cases hb : hnd s i = 91 ∨ hnd s i = 123
 ·have HQ1 := Aside0.mk (by have h := HQ0.out; rw [if_neg h110, if_neg h116, if_neg h102, if_neg h34, if_pos hb] at h; exact h)
  have t110 := neI (hnd s i) 110 (by omega)
  have t116 := neI (hnd s i) 116 (by omega)
  have t102 := neI (hnd s i) 102 (by omega)
  have t34 := neI (hnd s i) 34 (by omega)
  clear HQ0; rcases HBR.out with ⟨hdp, hbr⟩ | ⟨hd, pv, hV, hp, hbr⟩
  ·have HQ2 := Aside0.mk (show Res.bad i 31 = R by rw [← HQ1.out, hbr])
   have td : decide ((64 : Int) < deep) = true := decide_eq_true hdp
   have c1 := HR0.out.c1
   clear hbr HQ1 h110 h116 h102 h34; rcases hb with h91 | h123
   ·have t91 := eqI (hnd s i) 91 (by omega)
    go_wp2_with (first | (go_at_call 51; refine HH.out.mono ?_; rintro e w0 ⟨rfl, n1, rfl⟩))
    exact ⟨rfl, by rw [← HQ2.out]; exact ⟨rfl, HK0.out.drewN _⟩⟩
   ·have t91 := neI (hnd s i) 91 (by omega)
    have t123 := eqI (hnd s i) 123 (by omega)
    go_wp2_with (first | (go_at_call 51; refine HH.out.mono ?_; rintro e w0 ⟨rfl, n1, rfl⟩))
    exact ⟨rfl, by rw [← HQ2.out]; exact ⟨rfl, HK0.out.drewN _⟩⟩
  ·have td : decide ((64 : Int) < deep) = false := decide_eq_false (by have := hd.2; omega)
   have hlt : i < s.size := by rcases hb with h | h <;> exact hnd_pos h (by omega)
   by_cases h91 : hnd s i = 91
   ·have t91 := eqI (hnd s i) 91 (by omega)
    have HQ1 := Aside0.mk (show brk s pv i = R by rw [← HQ1.out, hbr])
    have HQ1 := Aside0.mk (by have h := HQ1.out; unfold brk at h; rw [if_pos h91] at h; exact h)
    have HWC := Aside0.mk (fun n => json_reader_list.calls B s i pv deep hd (W1.drewN n) (HR0.out.drewN n) hs hlt (HGC.out _ ((Kp.refl B W1).drewN n)) HF.out hV hp)
    clear hb h91 h110 h116 h102 h34 hbr hV hp; obtain ⟨RR, hRR⟩ : ∃ RR, RR = ((lst s pv (s.size + 1) (skip isBl s (i + 1)) []).bind fun l j => Res.ok (⟨5, ⟨#[]⟩, l, []⟩ : JV) j) := ⟨_, rfl⟩
    rw [← hRR] at HQ1 HWC
    clear hRR; cases hw : RR with
    | bad k c =>
     have HQ1 := Aside0.mk (show Res.bad k c = R by rw [← HQ1.out, hw])
     have HW := Aside0.mk hw; clear hw; go_wp2_with (first | (go_at_call 51; refine HH.out.mono ?_; rintro e w0 ⟨rfl, n1, rfl⟩) | (go_at_call 54; refine (HWC.out _).mono ?_; intro e w1 ho; have ho := Out.bad_ (by rw [HW.out] at ho; exact ho); obtain ⟨rfl, hk⟩ := ho; have HK1 := Aside0.mk ((HK0.out.drewN _).trans hk); clear hk))
     exact ⟨rfl, by rw [← HQ1.out]; exact ⟨rfl, HK1.out⟩⟩
    | ok v k =>
     have HQ1 := Aside0.mk (show Res.ok v k = R by rw [← HQ1.out, hw])
     have HW := Aside0.mk hw; clear hw; go_wp2_with (first | (go_at_call 51; refine HH.out.mono ?_; rintro e w0 ⟨rfl, n1, rfl⟩) | (go_at_call 54; refine (HWC.out _).mono ?_; intro e w1 ho; have ho := Out.ok_ (by rw [HW.out] at ho; exact ho); obtain ⟨x, rfl, ⟨v2, v3, rfl, hr2, hr3⟩, hj1, hr, hk⟩ := ho; obtain ⟨A2, c2, rfl⟩ := Kd.R_slice hr2; obtain ⟨A3, c3, rfl⟩ := Kd.R_slice hr3; have HV2 := Aside0.mk hr2; have HV3 := Aside0.mk hr3; have HX1 := Aside0.mk ((hk.block N (blk_lt HX0.out) (by have := HBn.out; omega)).trans HX0.out); have HR1 := Aside0.mk hr; have HK1 := Aside0.mk ((HK0.out.drewN _).trans hk); clear hr hk hr2 hr3; have e0 := blk_cell HX1.out 0; have e1 := blk_cell HX1.out 1; have e2 := blk_cell HX1.out 2; have e3 := blk_cell HX1.out 3; have f0 := blk_frozen HX1.out 0; have f1 := blk_frozen HX1.out 1; have f2 := blk_frozen HX1.out 2; have f3 := blk_frozen HX1.out 3))
     have hN1 : N < (W1.drewN 0).heap.size := blk_lt HX0.out
     have hv2 : Kd.R k25 25 (((((w1.setCell ⟨N, 0, none⟩ (.int .u8 v.f0)).setCell ⟨N, 1, none⟩ (.string v.f1)).setCell ⟨N, 2, none⟩ (.slice A2 v.f2.length c2)).setCell ⟨N, 3, none⟩ (.slice A3 v.f3.length c3))) N (fun _ => True) (.slice A2 v.f2.length c2) v.f2 := Kd.R_lower (rk HV2.out (fun k hk _ => put4_far (by have h1 : N < W1.heap.size := blk_lt HX0.out; have h2 : W1.heap.size ≤ k := hk; omega) _ _ _ _)) (Nat.le_of_lt hN1)
     have hv3 : Kd.R k45 45 (((((w1.setCell ⟨N, 0, none⟩ (.int .u8 v.f0)).setCell ⟨N, 1, none⟩ (.string v.f1)).setCell ⟨N, 2, none⟩ (.slice A2 v.f2.length c2)).setCell ⟨N, 3, none⟩ (.slice A3 v.f3.length c3))) N (fun _ => True) (.slice A3 v.f3.length c3) v.f3 := Kd.R_lower (rk HV3.out (fun k hk _ => put4_far (by have h1 : N < W1.heap.size := blk_lt HX0.out; have h2 : W1.heap.size ≤ k := hk; omega) _ _ _ _)) (Nat.le_of_lt hN1)
     have hw := put4 HX1.out (.int .u8 v.f0) (.string v.f1) (.slice A2 v.f2.length c2) (.slice A3 v.f3.length c3)
     have hr3 := (put4_far (show B ≠ N by have := HBn.out; omega) (.int .u8 v.f0) (.string v.f1) (.slice A2 v.f2.length c2) (.slice A3 v.f3.length c3)).trans HR1.out
     have hk3 := HK1.out.put4 (N := N) (by rw [HNw.out]; exact Nat.le_refl _) (.int .u8 v.f0) (.string v.f1) (.slice A2 v.f2.length c2) (.slice A3 v.f3.length c3)
     generalize ((((w1.setCell ⟨N, 0, none⟩ (.int .u8 v.f0)).setCell ⟨N, 1, none⟩ (.string v.f1)).setCell ⟨N, 2, none⟩ (.slice A2 v.f2.length c2)).setCell ⟨N, 3, none⟩ (.slice A3 v.f3.length c3)) = Wf at hw hr3 hk3 hv2 hv3 ⊢
     have g0 := blk_cell hw 0
     have g1 := blk_cell hw 1
     have g2 := blk_cell hw 2
     have g3 := blk_cell hw 3
     refine bodyPost_ret (v := .agg #[.int .u8 v.f0, .string v.f1, .slice A2 v.f2.length c2, .slice A3 v.f3.length c3]) (by simp [results, Tryz.results30, go_sem, g0, g1, g2, g3]) rfl ?_
     rw [← HQ1.out]
     exact ⟨_, rfl, ⟨_, _, rfl, hv2, hv3⟩, hj1, hr3, hk3⟩
   ·have t91 := neI (hnd s i) 91 (by omega)
    have h123 : hnd s i = 123 := by omega
    have t123 := eqI (hnd s i) 123 (by omega)
    have HQ1 := Aside0.mk (show brk s pv i = R by rw [← HQ1.out, hbr])
    have HQ1 := Aside0.mk (by have h := HQ1.out; unfold brk at h; rw [if_neg h91] at h; exact h)
    have HWC := Aside0.mk (fun n => json_reader_object.calls B s i pv deep hd (W1.drewN n) (HR0.out.drewN n) hs hlt (HGC.out _ ((Kp.refl B W1).drewN n)) HF.out hV hp)
    clear hb h91 h110 h116 h102 h34 h123 hbr hV hp; obtain ⟨RR, hRR⟩ : ∃ RR, RR = ((obj s pv (s.size + 1) (skip isBl s (i + 1)) true []).bind fun l j => Res.ok (⟨6, ⟨#[]⟩, [], l⟩ : JV) j) := ⟨_, rfl⟩
    rw [← hRR] at HQ1 HWC
    clear hRR; cases hw : RR with
    | bad k c =>
     have HQ1 := Aside0.mk (show Res.bad k c = R by rw [← HQ1.out, hw])
     have HW := Aside0.mk hw; clear hw; go_wp2_with (first | (go_at_call 51; refine HH.out.mono ?_; rintro e w0 ⟨rfl, n1, rfl⟩) | (go_at_call 55; refine (HWC.out _).mono ?_; intro e w1 ho; have ho := Out.bad_ (by rw [HW.out] at ho; exact ho); obtain ⟨rfl, hk⟩ := ho; have HK1 := Aside0.mk ((HK0.out.drewN _).trans hk); clear hk))
     exact ⟨rfl, by rw [← HQ1.out]; exact ⟨rfl, HK1.out⟩⟩
    | ok v k =>
     have HQ1 := Aside0.mk (show Res.ok v k = R by rw [← HQ1.out, hw])
     have HW := Aside0.mk hw; clear hw; go_wp2_with (first | (go_at_call 51; refine HH.out.mono ?_; rintro e w0 ⟨rfl, n1, rfl⟩) | (go_at_call 55; refine (HWC.out _).mono ?_; intro e w1 ho; have ho := Out.ok_ (by rw [HW.out] at ho; exact ho); obtain ⟨x, rfl, ⟨v2, v3, rfl, hr2, hr3⟩, hj1, hr, hk⟩ := ho; obtain ⟨A2, c2, rfl⟩ := Kd.R_slice hr2; obtain ⟨A3, c3, rfl⟩ := Kd.R_slice hr3; have HV2 := Aside0.mk hr2; have HV3 := Aside0.mk hr3; have HX1 := Aside0.mk ((hk.block N (blk_lt HX0.out) (by have := HBn.out; omega)).trans HX0.out); have HR1 := Aside0.mk hr; have HK1 := Aside0.mk ((HK0.out.drewN _).trans hk); clear hr hk hr2 hr3; have e0 := blk_cell HX1.out 0; have e1 := blk_cell HX1.out 1; have e2 := blk_cell HX1.out 2; have e3 := blk_cell HX1.out 3; have f0 := blk_frozen HX1.out 0; have f1 := blk_frozen HX1.out 1; have f2 := blk_frozen HX1.out 2; have f3 := blk_frozen HX1.out 3))
     have hN1 : N < (W1.drewN 0).heap.size := blk_lt HX0.out
     have hv2 : Kd.R k25 25 (((((w1.setCell ⟨N, 0, none⟩ (.int .u8 v.f0)).setCell ⟨N, 1, none⟩ (.string v.f1)).setCell ⟨N, 2, none⟩ (.slice A2 v.f2.length c2)).setCell ⟨N, 3, none⟩ (.slice A3 v.f3.length c3))) N (fun _ => True) (.slice A2 v.f2.length c2) v.f2 := Kd.R_lower (rk HV2.out (fun k hk _ => put4_far (by have h1 : N < W1.heap.size := blk_lt HX0.out; have h2 : W1.heap.size ≤ k := hk; omega) _ _ _ _)) (Nat.le_of_lt hN1)
     have hv3 : Kd.R k45 45 (((((w1.setCell ⟨N, 0, none⟩ (.int .u8 v.f0)).setCell ⟨N, 1, none⟩ (.string v.f1)).setCell ⟨N, 2, none⟩ (.slice A2 v.f2.length c2)).setCell ⟨N, 3, none⟩ (.slice A3 v.f3.length c3))) N (fun _ => True) (.slice A3 v.f3.length c3) v.f3 := Kd.R_lower (rk HV3.out (fun k hk _ => put4_far (by have h1 : N < W1.heap.size := blk_lt HX0.out; have h2 : W1.heap.size ≤ k := hk; omega) _ _ _ _)) (Nat.le_of_lt hN1)
     have hw := put4 HX1.out (.int .u8 v.f0) (.string v.f1) (.slice A2 v.f2.length c2) (.slice A3 v.f3.length c3)
     have hr3 := (put4_far (show B ≠ N by have := HBn.out; omega) (.int .u8 v.f0) (.string v.f1) (.slice A2 v.f2.length c2) (.slice A3 v.f3.length c3)).trans HR1.out
     have hk3 := HK1.out.put4 (N := N) (by rw [HNw.out]; exact Nat.le_refl _) (.int .u8 v.f0) (.string v.f1) (.slice A2 v.f2.length c2) (.slice A3 v.f3.length c3)
     generalize ((((w1.setCell ⟨N, 0, none⟩ (.int .u8 v.f0)).setCell ⟨N, 1, none⟩ (.string v.f1)).setCell ⟨N, 2, none⟩ (.slice A2 v.f2.length c2)).setCell ⟨N, 3, none⟩ (.slice A3 v.f3.length c3)) = Wf at hw hr3 hk3 hv2 hv3 ⊢
     have g0 := blk_cell hw 0
     have g1 := blk_cell hw 1
     have g2 := blk_cell hw 2
     have g3 := blk_cell hw 3
     refine bodyPost_ret (v := .agg #[.int .u8 v.f0, .string v.f1, .slice A2 v.f2.length c2, .slice A3 v.f3.length c3]) (by simp [results, Tryz.results30, go_sem, g0, g1, g2, g3]) rfl ?_
     rw [← HQ1.out]
     exact ⟨_, rfl, ⟨_, _, rfl, hv2, hv3⟩, hj1, hr3, hk3⟩
 ·have HQ1 := Aside0.mk (by have h := HQ0.out; rw [if_neg h110, if_neg h116, if_neg h102, if_neg h34, if_neg hb] at h; exact h)
  have t110 := neI (hnd s i) 110 (by omega)
  have t116 := neI (hnd s i) 116 (by omega)
  have t102 := neI (hnd s i) 102 (by omega)
  have t34 := neI (hnd s i) 34 (by omega)
  have t91 := neI (hnd s i) 91 (by omega)
  have t123 := neI (hnd s i) 123 (by omega)
  clear HQ0 h110 h116 h102 h34 hb; have HWC := Aside0.mk (fun n => json_reader_number.calls B s i (W1.drewN n) (HR0.out.drewN n) hsz hi)
  have c1 := HR0.out.c1
  cases hw : number s i with
  | bad k c =>
   have HQ1 := Aside0.mk (show Res.bad k c = R by rw [← HQ1.out, hw]; rfl)
   have HW := Aside0.mk hw; clear hw; go_wp2_with (first | (go_at_call 51; refine HH.out.mono ?_; rintro e w0 ⟨rfl, n1, rfl⟩) | (go_at_call 56; refine (HWC.out _).mono ?_; intro e w1 ho; have ho := Out.bad_ (by rw [HW.out] at ho; exact ho); obtain ⟨rfl, hk⟩ := ho; have HK1 := Aside0.mk ((HK0.out.drewN _).trans hk); clear hk))
   exact ⟨rfl, by rw [← HQ1.out]; exact ⟨rfl, HK1.out⟩⟩
  | ok u k =>
   have HQ1 := Aside0.mk (show Res.ok (⟨3, s.extract i k, [], []⟩ : JV) k = R by rw [← HQ1.out, hw]; rfl)
   have hik := number_lt (show number s i = .ok () k from hw)
   have HW := Aside0.mk hw; clear hw; go_upto_region 21 with (first | (go_at_call 51; refine HH.out.mono ?_; rintro e w0 ⟨rfl, n1, rfl⟩) | (go_at_call 56; refine (HWC.out _).mono ?_; intro e w1 ho; have ho := Out.ok_ (by rw [HW.out] at ho; exact ho); obtain ⟨x, rfl, rfl, hj1, hr, hk⟩ := ho; have HX1 := Aside0.mk ((hk.block N (blk_lt HX0.out) (by have := HBn.out; omega)).trans HX0.out); have HR1 := Aside0.mk hr; have HK1 := Aside0.mk ((HK0.out.drewN _).trans hk); clear hr hk; have e0 := blk_cell HX1.out 0; have e1 := blk_cell HX1.out 1; have e2 := blk_cell HX1.out 2; have e3 := blk_cell HX1.out 3; have f0 := blk_frozen HX1.out 0; have f1 := blk_frozen HX1.out 1; have f2 := blk_frozen HX1.out 2; have f3 := blk_frozen HX1.out 3))
   have q0 := HR1.out.c0
   have q1 := HR1.out.c1
   have p1 : (i : Int) ≤ (k : Int) := by omega
   have p2 : (k : Int) ≤ (s.size : Int) := by omega
   go_region
   go_wp2
   have hw := put4 HX1.out (.int .u8 3) (.string (s.extract i k)) (.slice none 0 0) (.slice none 0 0)
   have hr3 := (put4_far (show B ≠ N by have := HBn.out; omega) (.int .u8 3) (.string (s.extract i k)) (.slice none 0 0) (.slice none 0 0)).trans HR1.out
   have hk3 := HK1.out.put4 (N := N) (by rw [HNw.out]; exact Nat.le_refl _) (.int .u8 3) (.string (s.extract i k)) (.slice none 0 0) (.slice none 0 0)
   generalize ((((w1.setCell ⟨N, 0, none⟩ (.int .u8 3)).setCell ⟨N, 1, none⟩ (.string (s.extract i k))).setCell ⟨N, 2, none⟩ (.slice none 0 0)).setCell ⟨N, 3, none⟩ (.slice none 0 0)) = Wf at hw hr3 hk3 ⊢
   have g0 := blk_cell hw 0
   have g1 := blk_cell hw 1
   have g2 := blk_cell hw 2
   have g3 := blk_cell hw 3
   refine bodyPost_ret (v := .agg #[.int .u8 3, .string (s.extract i k), .slice none 0 0, .slice none 0 0]) (by simp [results, Tryz.results30, go_sem, g0, g1, g2, g3]) rfl ?_
   rw [← HQ1.out]
   exact ⟨_, rfl, ⟨_, _, rfl, Kd.R_nil _ _ _ _ _, Kd.R_nil _ _ _ _ _⟩, hj1, hr3, hk3.drew⟩
/-- A value at a place, as the program reads it. -/
theorem json_reader_value.ok (s : ByteArray) (hs : s.size ≤ 262144) : ∀ d : Nat, d ≤ 64 → ValOk s (pval s d) (65 - (d : Int)) := by
 intro d
 induction d with
 | zero => intro _; exact json_reader_value.walk s _ _ hs (.inl ⟨by omega, fun i => rfl⟩)
 | succ d ih =>
  intro hd
  refine json_reader_value.walk s _ _ hs (.inr ⟨⟨by omega, by omega⟩, pval s d, ?_, pval_lt d, fun i => rfl⟩)
  have h := ih (by omega)
  rw [show (65 - ((d + 1 : Nat) : Int) + 1) = 65 - (d : Int) by omega]
  exact h
end Go.Proofs.YtebmgmagdhedgaaGreatDoor.Q

end
