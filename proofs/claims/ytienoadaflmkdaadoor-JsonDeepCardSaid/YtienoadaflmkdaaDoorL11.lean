/- Words and walks of this claim, put together by this repo's wip/xlink.py out of Q11, Q12. -/
import Derived.Test.YtienoadaflmkdaaDoorL5
import Derived.Test.YtienoadaflmkdaaDoorL6
import Derived.Test.YtienoadaflmkdaaDoorL7
import Derived.Test.YtienoadaflmkdaaDoorL8
import Derived.Test.YtienoadaflmkdaaDoorL9
import Derived.Test.YtienoadaflmkdaaDoorL10
section
namespace Go.Proofs.YtienoadaflmkdaaDoor.Q
open Go.RowKit Go.Proofs.YtienoadaflmkdaaDoorW.PrintWords Go.Proofs.YtienoadaflmkdaaDoorW.PrintLast Go.Proofs.YtienoadaflmkdaaDoorW.PrintMore
attribute [local go_sem] max2_int min2_int max_two min_two max_three min_three max_four min_four   
set_option linter.unusedVariables false
set_option linter.unusedSimpArgs false
def Less (pv pw : Nat → Res JV) : Prop := ∀ i v j, pv i = .ok v j → pw i = .ok v j ∨ ∃ k, pw i = .bad k 31
theorem lst_less {s : ByteArray} {pv pw : Nat → Res JV} (H : Less pv pw) : ∀ (f i j : Nat) (acc l : List JV), lst s pv f i acc = .ok l j → lst s pw f i acc = .ok l j ∨ ∃ k, lst s pw f i acc = .bad k 31 := by
 intro f
 induction f with
 | zero => intro i j acc l h; cases h
 | succ f ih =>
  intro i j acc l h
  rw [lst] at h ⊢
  split at h
  ·rename_i c; rw [if_pos c]; exact .inl h
  ·rename_i c
   rw [if_neg c]
   cases hx : (if acc.length = 0 then Res.ok () i else (wd s [44] i).bind fun _ j => .ok () (skip isBl s j)) with
   | bad q e => rw [hx] at h; cases h
   | ok u m =>
    rw [hx] at h
    show ((pw m).bind fun v k => lst s pw f (skip isBl s k) (acc ++ [v])) = _ ∨ ∃ k, ((pw m).bind fun v k => lst s pw f (skip isBl s k) (acc ++ [v])) = _
    change ((pv m).bind fun v k => lst s pv f (skip isBl s k) (acc ++ [v])) = .ok l j at h
    cases hv : pv m with
    | bad q e => rw [hv] at h; cases h
    | ok v q =>
     rw [hv] at h
     rcases H _ _ _ hv with hw | ⟨k, hw⟩
     ·rw [hw]; exact ih _ _ _ _ h
     ·rw [hw]; exact .inr ⟨k, rfl⟩
theorem obj_less {s : ByteArray} {pv pw : Nat → Res JV} (H : Less pv pw) : ∀ (f i j : Nat) (fl : Bool) (acc l : List JF), obj s pv f i fl acc = .ok l j → obj s pw f i fl acc = .ok l j ∨ ∃ k, obj s pw f i fl acc = .bad k 31 := by
 intro f
 induction f with
 | zero => intro i j fl acc l h; cases h
 | succ f ih =>
  intro i j fl acc l h
  rw [obj] at h ⊢
  split at h
  ·rename_i c; rw [if_pos c]; exact .inl h
  ·rename_i c
   rw [if_neg c]
   cases hx : (if fl = true then Res.ok () i else (wd s [44] i).bind fun _ j => .ok () (skip isBl s j)) with
   | bad q e => rw [hx] at h; cases h
   | ok u m =>
    rw [hx] at h
    change (if hnd s m = 34 then (text s m).bind fun l k => fld s pv f acc l k else .bad m 30) = .ok l j at h
    show (if hnd s m = 34 then (text s m).bind fun l k => fld s pw f acc l k else .bad m 30) = _ ∨ ∃ k, (if hnd s m = 34 then (text s m).bind fun l k => fld s pw f acc l k else .bad m 30) = _
    split at h
    ·rename_i c2
     rw [if_pos c2]
     cases ht : text s m with
     | bad q e => rw [ht] at h; cases h
     | ok tx q =>
      rw [ht] at h
      show fld s pw f acc tx q = _ ∨ ∃ k, fld s pw f acc tx q = _
      change fld s pv f acc tx q = _ at h
      unfold fld at h ⊢
      cases hw : wd s [58] (skip isBl s q) with
      | bad q e => rw [hw] at h; cases h
      | ok u n =>
       rw [hw] at h
       show ((pw (skip isBl s n)).bind fun v n => obj s pw f (skip isBl s n) false (putF acc ⟨tx.toArray⟩ v)) = _ ∨ ∃ k, ((pw (skip isBl s n)).bind fun v n => obj s pw f (skip isBl s n) false (putF acc ⟨tx.toArray⟩ v)) = _
       change ((pv (skip isBl s n)).bind fun v n => obj s pv f (skip isBl s n) false (putF acc ⟨tx.toArray⟩ v)) = .ok l j at h
       cases hv : pv (skip isBl s n) with
       | bad q e => rw [hv] at h; cases h
       | ok v q =>
        rw [hv] at h
        rcases H _ _ _ hv with hw | ⟨k, hw⟩
        ·rw [hw]; exact ih _ _ _ _ _ h
        ·rw [hw]; exact .inr ⟨k, rfl⟩
    ·cases h
theorem flat_less {s : ByteArray} {br bq : Nat → Res JV} (H : ∀ i v j, (hnd s i = 91 ∨ hnd s i = 123) → br i = .ok v j → bq i = .ok v j ∨ ∃ k, bq i = .bad k 31) : Less (flat s br) (flat s bq) := by
 intro i v j h
 unfold flat at h ⊢
 split at h
 ·rename_i c; rw [if_pos c]; exact .inl h
 rename_i c; rw [if_neg c]
 split at h
 ·rename_i c; rw [if_pos c]; exact .inl h
 rename_i c; rw [if_neg c]
 split at h
 ·rename_i c; rw [if_pos c]; exact .inl h
 rename_i c; rw [if_neg c]
 split at h
 ·rename_i c; rw [if_pos c]; exact .inl h
 rename_i c; rw [if_neg c]
 split at h
 ·rename_i c; rw [if_pos c]; exact H i v j c h
 rename_i c; rw [if_neg c]
 exact .inl h
theorem brk_less {s : ByteArray} {pv pw : Nat → Res JV} (H : Less pv pw) (i : Nat) (v : JV) (j : Nat) (h : brk s pv i = .ok v j) : brk s pw i = .ok v j ∨ ∃ k, brk s pw i = .bad k 31 := by
 unfold brk at h ⊢
 split at h
 ·rename_i c
  rw [if_pos c]
  cases hl : lst s pv (s.size + 1) (skip isBl s (i + 1)) [] with
  | bad q e => rw [hl] at h; cases h
  | ok l q =>
   rw [hl] at h
   rcases lst_less H _ _ _ _ _ hl with hw | ⟨k, hw⟩
   ·rw [hw]; exact .inl h
   ·rw [hw]; exact .inr ⟨k, rfl⟩
 ·rename_i c
  rw [if_neg c]
  cases hl : obj s pv (s.size + 1) (skip isBl s (i + 1)) true [] with
  | bad q e => rw [hl] at h; cases h
  | ok l q =>
   rw [hl] at h
   rcases obj_less H _ _ _ _ _ _ hl with hw | ⟨k, hw⟩
   ·rw [hw]; exact .inl h
   ·rw [hw]; exact .inr ⟨k, rfl⟩
theorem pval_less (s : ByteArray) : ∀ d, Less (pval s (d + 1)) (pval s d) := by
 intro d
 induction d with
 | zero => exact flat_less (fun i v j _ _ => .inr ⟨i, rfl⟩)
 | succ d ih => exact flat_less (fun i v j _ h => brk_less ih i v j h)
theorem wd_last {s : ByteArray} : ∀ {l : List Nat} {i j : Nat}, l ≠ [] → wd s l i = .ok () j → ∃ x, l.getLast? = some x ∧ hnd s (j - 1) = x := by
 intro l
 induction l with
 | nil => intro i j h; exact absurd rfl h
 | cons c r ih =>
  intro i j _ h
  rw [wd_cons] at h
  split at h
  ·rename_i hc
   cases r with
   | nil =>
    injection h with _ h
    subst h; exact ⟨c, rfl, hc⟩
   | cons d q =>
    obtain ⟨x, h1, h2⟩ := ih (by simp) h
    exact ⟨x, by rw [List.getLast?_cons_cons]; exact h1, h2⟩
  ·cases h
theorem digits_last {s : ByteArray} {i j : Nat} (h : digits s i = .ok () j) : isDig (hnd s (j - 1)) = true := by
 have hlt := digits_lt h
 unfold digits at h
 split at h
 ·injection h with _ h
  have := (skip_spec isDig s _ i rfl).1 (j - 1) (by omega) (by omega)
  exact this
 ·cases h
theorem nE_last {s : ByteArray} {i j : Nat} (h0 : isDig (hnd s (i - 1)) = true) (h : nE s i = .ok () j) : isDig (hnd s (j - 1)) = true := by
 unfold nE at h
 split at h
 ·exact digits_last h
 ·injection h with _ h; subst h; exact h0
theorem nD_last {s : ByteArray} {i j : Nat} (h0 : isDig (hnd s (i - 1)) = true) (h : nD s i = .ok () j) : isDig (hnd s (j - 1)) = true := by
 unfold nD at h
 split at h
 ·cases hd : digits s (i + 1) with
  | bad k c => rw [hd] at h; cases h
  | ok u k => rw [hd] at h; exact nE_last (digits_last hd) h
 ·exact nE_last h0 h
theorem nI_last {s : ByteArray} {i j : Nat} (h : nI s i = .ok () j) : isDig (hnd s (j - 1)) = true := by
 unfold nI at h
 split at h
 ·rename_i c
  refine nD_last (i := i + 1) ?_ h
  rw [Nat.add_sub_cancel, c]
  decide
 ·cases hd : digits s i with
  | bad k c => rw [hd] at h; cases h
  | ok u k => rw [hd] at h; exact nD_last (digits_last hd) h
theorem number_last {s : ByteArray} {i j : Nat} (h : number s i = .ok () j) : isDig (hnd s (j - 1)) = true := by
 unfold number at h
 exact nI_last h
theorem txt_last {s : ByteArray} : ∀ {f i : Nat} {acc l : List UInt8} {j : Nat}, txt s f i acc = .ok l j → hnd s (j - 1) = 34 := by
 intro f
 induction f with
 | zero => intro i acc l j h; cases h
 | succ f ih =>
  intro i acc l j h
  rw [txt] at h
  split at h
  ·rename_i c; injection h with h1 h2; subst h2; exact c
  ·split at h
   ·cases h
   ·split at h
    ·cases he : escape s (i + 1) with
     | bad k c => rw [he] at h; cases h
     | ok r k => rw [he] at h; exact ih h
    ·cases hn : nxt s i with
     | none => rw [hn] at h; cases h
     | some z => rw [hn] at h; exact ih h
theorem lst_last {s : ByteArray} {pv : Nat → Res JV} : ∀ {f i : Nat} {acc l : List JV} {j : Nat}, lst s pv f i acc = .ok l j → hnd s (j - 1) = 93 := by
 intro f
 induction f with
 | zero => intro i acc l j h; cases h
 | succ f ih =>
  intro i acc l j h
  rw [lst] at h
  split at h
  ·rename_i c; injection h with h1 h2; subst h2; exact c
  ·cases hx : (if acc.length = 0 then Res.ok () i else (wd s [44] i).bind fun _ j => .ok () (skip isBl s j)) with
   | bad q e => rw [hx] at h; cases h
   | ok u m =>
    rw [hx] at h
    change ((pv m).bind fun v k => lst s pv f (skip isBl s k) (acc ++ [v])) = .ok l j at h
    cases hv : pv m with
    | bad q e => rw [hv] at h; cases h
    | ok v q => rw [hv] at h; exact ih h
theorem obj_last {s : ByteArray} {pv : Nat → Res JV} : ∀ {f i : Nat} {fl : Bool} {acc l : List JF} {j : Nat}, obj s pv f i fl acc = .ok l j → hnd s (j - 1) = 125 := by
 intro f
 induction f with
 | zero => intro i fl acc l j h; cases h
 | succ f ih =>
  intro i fl acc l j h
  rw [obj] at h
  split at h
  ·rename_i c; injection h with h1 h2; subst h2; exact c
  ·cases hx : (if fl = true then Res.ok () i else (wd s [44] i).bind fun _ j => .ok () (skip isBl s j)) with
   | bad q e => rw [hx] at h; cases h
   | ok u m =>
    rw [hx] at h
    change (if hnd s m = 34 then (text s m).bind fun l k => fld s pv f acc l k else .bad m 30) = .ok l j at h
    split at h
    ·cases ht : text s m with
     | bad q e => rw [ht] at h; cases h
     | ok tx q =>
      rw [ht] at h
      change fld s pv f acc tx q = _ at h
      unfold fld at h
      cases hw : wd s [58] (skip isBl s q) with
      | bad q e => rw [hw] at h; cases h
      | ok u n =>
       rw [hw] at h
       change ((pv (skip isBl s n)).bind fun v n => obj s pv f (skip isBl s n) false (putF acc ⟨tx.toArray⟩ v)) = .ok l j at h
       cases hv : pv (skip isBl s n) with
       | bad q e => rw [hv] at h; cases h
       | ok v q => rw [hv] at h; exact ih h
    ·cases h
theorem flat_last {s : ByteArray} {br : Nat → Res JV} (hb : ∀ i v j, br i = .ok v j → isBl (hnd s (j - 1)) = false) {i j : Nat} {v : JV} (h : flat s br i = .ok v j) : isBl (hnd s (j - 1)) = false := by
 have kw : ∀ (l : List Nat) (v0 : JV), l ≠ [] → (∀ x, l.getLast? = some x → isBl x = false) → ((wd s l i).bind fun _ j => Res.ok v0 j) = .ok v j → isBl (hnd s (j - 1)) = false := by
  intro l v0 hl hx h
  cases hw : wd s l i with
  | bad k c => rw [hw] at h; cases h
  | ok u k =>
   rw [hw] at h
   injection h with _ h
   subst h; obtain ⟨x, h1, h2⟩ := wd_last hl hw
   rw [h2]
   exact hx x h1
 have dig : ∀ x, isDig x = true → isBl x = false := by
  intro x h
  unfold isDig at h
  unfold isBl
  simp at h ⊢
  omega
 unfold flat at h
 split at h
 ·exact kw _ _ (by simp) (by intro x hx; injection hx with hx; subst hx; decide) h
 split at h
 ·exact kw _ _ (by simp) (by intro x hx; injection hx with hx; subst hx; decide) h
 split at h
 ·exact kw _ _ (by simp) (by intro x hx; injection hx with hx; subst hx; decide) h
 split at h
 ·cases ht : text s i with
  | bad k c => rw [ht] at h; cases h
  | ok l k =>
   rw [ht] at h
   injection h with _ h
   subst h; rw [txt_last ht]
   decide
 split at h
 ·exact hb _ _ _ h
 ·cases hn : number s i with
  | bad k c => rw [hn] at h; cases h
  | ok u k =>
   rw [hn] at h
   injection h with _ h
   subst h; exact dig _ (number_last hn)
theorem pval_last {s : ByteArray} (d i : Nat) (v : JV) (j : Nat) (h : pval s d i = .ok v j) : isBl (hnd s (j - 1)) = false := by
 cases d with
 | zero => exact flat_last (fun i v j h => by cases h) h
 | succ d =>
  refine flat_last (fun i v j h => ?_) h
  unfold brk at h
  split at h
  ·cases hl : lst s (pval s d) (s.size + 1) (skip isBl s (i + 1)) [] with
   | bad q e => rw [hl] at h; cases h
   | ok l q => rw [hl] at h; injection h with _ h; subst h; rw [lst_last hl]; decide
  ·cases hl : obj s (pval s d) (s.size + 1) (skip isBl s (i + 1)) true [] with
   | bad q e => rw [hl] at h; cases h
   | ok l q => rw [hl] at h; injection h with _ h; subst h; rw [obj_last hl]; decide
theorem hnd_app (a b : ByteArray) (i : Nat) : hnd (a ++ b) i = if i < a.size then hnd a i else hnd b (i - a.size) := by
 unfold hnd
 by_cases h : i < a.size
 ·rw [if_pos h, dif_pos (by rw [ByteArray.size_append]; omega), dif_pos h, ByteArray.getElem_append_left h]
 ·rw [if_neg h]
  by_cases h2 : i - a.size < b.size
  ·rw [dif_pos (by rw [ByteArray.size_append]; omega), dif_pos h2, ByteArray.getElem_append_right (by omega)]
  ·rw [dif_neg (by rw [ByteArray.size_append]; omega), dif_neg h2]
/-- s stands in t from o on, and a byte that ends a number behind it. -/
theorem sub_in {s t : ByteArray} {o : Nat} (h : ∀ q, q < s.size → hnd t (o + q) = hnd s q) (hf : o + s.size ≤ t.size) (hx : NumStop (hnd t (o + s.size))) : Sub s t 0 o s.size :=
 ⟨fun q hq => by rw [Nat.zero_add]; exact h q hq, by omega, hf, hx⟩
theorem sub_out {s t : ByteArray} {o : Nat} (h : ∀ q, q < s.size → hnd t (o + q) = hnd s q) (hf : o + s.size ≤ t.size) : Sub t s o 0 s.size :=
 ⟨fun q hq => by rw [Nat.zero_add]; exact (h q hq).symm, hf, by omega, by rw [Nat.zero_add, hnd_out (Nat.lt_irrefl _)]; exact numStop0⟩
/-- What is known of a text that is read. -/
theorem parse_ok {s : ByteArray} {v : JV} (h : parse s = .ok v 0) : ∃ j, pval s 64 (skip isBl s 0) = .ok v j ∧ j ≤ s.size ∧ skip isBl s 0 < j ∧ skip isBl s j = s.size := by
 unfold parse at h
 have hs := pval_sn 64 _ (skip_in (p := isBl) (Nat.zero_le s.size))
 cases hv : pval s 64 (skip isBl s 0) with
 | bad k c => rw [hv] at h; cases h
 | ok w j =>
  rw [hv] at h hs
  change (if skip isBl s j < s.size then Res.bad (skip isBl s j) 30 else Res.ok w 0) = .ok v 0 at h
  split at h
  ·cases h
  ·rename_i hn
   injection h with h1 _
   subst h1; have := skip_in (p := isBl) hs.2
   exact ⟨j, rfl, hs.2, pval_lt _ _ _ _ hv, by omega⟩
theorem ok_parse {s : ByteArray} {v : JV} {i j : Nat} (h0 : skip isBl s 0 = i) (h : pval s 64 i = .ok v j) (he : skip isBl s j = s.size) : parse s = .ok v 0 := by
 unfold parse
 rw [h0, h]
 show (if skip isBl s j < s.size then Res.bad (skip isBl s j) 30 else Res.ok v 0) = _
 rw [he, if_neg (Nat.lt_irrefl _)]
/-- The blanks of s, where it stands in t. -/
theorem lead_in {s t : ByteArray} {o : Nat} (hS : Sub s t 0 o s.size) (h : skip isBl s 0 < s.size) : skip isBl t o = o + skip isBl s 0 := by
 have := skip_sub (p := isBl) (i := 0) (m := skip isBl s 0) bl0 hS (by simp) (.inl h)
 rwa [Nat.add_zero] at this
theorem tail_in {s t : ByteArray} {o j : Nat} (hS : Sub s t 0 o s.size) (h : skip isBl s j = s.size) (hx : isBl (hnd t (o + s.size)) = false) : skip isBl t (o + j) = o + s.size :=
 skip_sub (p := isBl) (i := j) (m := s.size) bl0 hS (by rw [Nat.zero_add, Nat.zero_add]; exact h) (.inr ⟨rfl, hx⟩)
/-- Blanks around. -/
theorem around_ok {s t : ByteArray} {v : JV} {e : Nat} (hb : ∀ q, q < 3 → isBl (hnd t q) = true) (h : ∀ q, q < s.size → hnd t (3 + q) = hnd s q) (hz : t.size = 3 + s.size + e) (ht : ∀ q, q < e → isBl (hnd t (3 + s.size + q)) = true) (he : 0 < e) (hp : parse s = .ok v 0) : parse t = .ok v 0 := by
 obtain ⟨j, h1, h2, h3, h4⟩ := parse_ok hp
 have hx : NumStop (hnd t (3 + s.size)) := by
  have hbl := ht 0 he
  rw [Nat.add_zero] at hbl
  revert hbl
  generalize hnd t (3 + s.size) = x
  intro hbl
  unfold isBl at hbl
  simp at hbl
  rcases hbl with ((rfl | rfl) | rfl) | rfl <;> exact ⟨by decide, by decide, by decide, by decide, by decide, by decide, by decide⟩
 have hS := sub_in h (by omega) hx
 have g1 : skip isBl t 0 = 3 + skip isBl s 0 := by
  refine skip_to bl0 _ _ _ rfl (Nat.zero_le _) (fun q _ hq => ?_) ?_
  ·by_cases c : q < 3
   ·exact hb q c
   ·obtain ⟨q', rfl⟩ : ∃ q', q = 3 + q' := ⟨q - 3, by omega⟩
    rw [h q' (by omega)]
    exact (skip_spec isBl s _ 0 rfl).1 q' (Nat.zero_le _) (by omega)
  ·rw [h _ (by omega)]
   exact skip_end bl0 s 0
 have g2 := pval_sub hS 64 (skip isBl s 0) v j (by rw [Nat.zero_add, Nat.zero_add]; exact h1) h2
 refine ok_parse g1 g2 ?_
 refine skip_to bl0 _ _ _ rfl (by omega) (fun q hq1 hq2 => ?_) ?_
 ·by_cases c : q < 3 + s.size
  ·obtain ⟨q', rfl⟩ : ∃ q', q = 3 + q' := ⟨q - 3, by omega⟩
   rw [h q' (by omega)]
   exact (skip_spec isBl s _ j rfl).1 q' (by omega) (by omega)
  ·obtain ⟨q', rfl⟩ : ∃ q', q = 3 + s.size + q' := ⟨q - (3 + s.size), by omega⟩
   exact ht q' (by omega)
 ·rw [hnd_out (Nat.lt_irrefl _)]; rfl
theorem around_back {s t : ByteArray} {v : JV} {e : Nat} (hb : ∀ q, q < 3 → isBl (hnd t q) = true) (h : ∀ q, q < s.size → hnd t (3 + q) = hnd s q) (hz : t.size = 3 + s.size + e) (ht : ∀ q, q < e → isBl (hnd t (3 + s.size + q)) = true) (hp : parse t = .ok v 0) : parse s = .ok v 0 := by
 obtain ⟨j, h1, h2, h3, h4⟩ := parse_ok hp
 have hS := sub_out h (by omega)
 have hl := pval_last _ _ _ _ h1
 have hj : j ≤ 3 + s.size := by
  by_cases c : j ≤ 3 + s.size
  ·exact c
  ·obtain ⟨q, hq⟩ : ∃ q, j - 1 = 3 + s.size + q := ⟨j - 1 - (3 + s.size), by omega⟩
   rw [hq, ht q (by omega)] at hl
   cases hl
 have h30 : 3 ≤ skip isBl t 0 := by
  have hen := skip_end bl0 t 0
  by_cases c : 3 ≤ skip isBl t 0
  ·exact c
  ·rw [hb _ (by omega)] at hen; cases hen
 obtain ⟨m, hm⟩ : ∃ m, skip isBl t 0 = 3 + m := ⟨skip isBl t 0 - 3, by omega⟩
 obtain ⟨j', rfl⟩ : ∃ j', j = 3 + j' := ⟨j - 3, by omega⟩
 rw [hm] at h1 h3
 have g1 : skip isBl s 0 = m := by
  refine skip_to bl0 _ _ _ rfl (Nat.zero_le _) (fun q _ hq => ?_) ?_
  ·rw [← h q (by omega)]
   exact (skip_spec isBl t _ 0 rfl).1 (3 + q) (Nat.zero_le _) (by omega)
  ·rw [← h m (by omega), ← hm]
   exact skip_end bl0 t 0
 have g2 := pval_sub hS 64 m v j' h1 (by omega)
 rw [Nat.zero_add, Nat.zero_add] at g2
 refine ok_parse g1 g2 ?_
 refine skip_to bl0 _ _ _ rfl (by omega) (fun q hq1 hq2 => ?_) ?_
 ·rw [← h q hq2]
  exact (skip_spec isBl t _ (3 + j') rfl).1 (3 + q) (by omega) (by omega)
 ·rw [hnd_out (Nat.lt_irrefl _)]; rfl
/-- A value within a text, one level down. -/
theorem down {s t : ByteArray} {o j : Nat} {v : JV} (hS : Sub s t 0 o s.size) (h : pval s 64 (skip isBl s 0) = .ok v j) (hj : j ≤ s.size) : pval t 63 (o + skip isBl s 0) = .ok v (o + j) ∨ ∃ k, pval t 63 (o + skip isBl s 0) = .bad k 31 :=
 pval_less t 63 _ _ _ (pval_sub hS 64 (skip isBl s 0) v j (by rw [Nat.zero_add, Nat.zero_add]; exact h) hj)
theorem key_text {t : ByteArray} {p : Nat} (h0 : hnd t (p + 1) = 107) (h1 : hnd t (p + 2) = 34) : text t p = .ok [107] (p + 3) := by
 have hlt := hnd_pos h1 (by omega)
 have hn : nxt t (p + 1) = some 1 := by
  unfold nxt
  rw [dec_hnd, h0]
  have : Lib.decodeN 4 107 (hnd t (p + 1 + 1)) (hnd t (p + 1 + 2)) (hnd t (p + 1 + 3)) = (107, 1) := by unfold Lib.decodeN; rw [if_pos (by omega)]
  rw [this]
  rfl
 have hc : (t.extract (p + 1) (p + 1 + 1)).data.toList = [107] := by
  refine map_inj ?_
  rw [cut_list t 1 (p + 1) (by omega)]
  simp [List.range', h0]
 obtain ⟨f, hf⟩ : ∃ f, t.size = f + 1 := ⟨t.size - 1, by omega⟩
 unfold text
 rw [txt, h0, if_neg (by omega), if_neg (by omega), if_neg (by omega), hn]
 show txt t t.size (p + 1 + 1) ([] ++ (t.extract (p + 1) (p + 1 + 1)).data.toList) = _
 rw [hc, hf, txt, show p + 1 + 1 = p + 2 by omega, h1, if_pos rfl]
 rfl
theorem flat_br {t : ByteArray} {br : Nat → Res JV} {i : Nat} (h : hnd t i = 91 ∨ hnd t i = 123) : flat t br i = br i := by
 unfold flat
 rw [if_neg (by omega), if_neg (by omega), if_neg (by omega), if_neg (by omega), if_pos h]
theorem one_num {t : ByteArray} {br : Nat → Res JV} {i : Nat} (h : hnd t i = 49) (h1 : hnd t (i + 1) = 32) : flat t br i = .ok ⟨3, ⟨#[49]⟩, [], []⟩ (i + 1) := by
 have hlt := hnd_pos h (by omega)
 have hd : digits t i = .ok () (i + 1) := by
  unfold digits
  rw [h, if_pos (by decide), skip_to dig0 1 i (i + 1) (by omega) (by omega) (fun q h2 h3 => by rw [show q = i by omega, h]; decide) (by rw [h1]; decide)]
 have hn : number t i = .ok () (i + 1) := by
  unfold number
  rw [h, if_neg (by omega)]
  unfold nI
  rw [h, if_neg (by omega), hd]
  show nD t (i + 1) = _
  unfold nD
  rw [h1, if_neg (by omega)]
  show nE t (i + 1) = _
  unfold nE
  rw [h1, if_neg (by omega)]
 have hc : t.extract i (i + 1) = ⟨#[49]⟩ := by
  apply ByteArray.ext
  apply Array.toList_inj.1
  refine map_inj ?_
  rw [cut_list t 1 i (by omega)]
  simp [List.range', h]
 unfold flat
 rw [if_neg (by omega), if_neg (by omega), if_neg (by omega), if_neg (by omega), if_neg (by omega), hn]
 show Res.ok _ _ = _
 rw [hc]
theorem skip_at {t : ByteArray} {i : Nat} (h : isBl (hnd t i) = false) : skip isBl t i = i := skip_to bl0 _ _ _ rfl (Nat.le_refl _) (fun q h1 h2 => by omega) h
theorem skip_one {t : ByteArray} {i : Nat} (h0 : hnd t i = 32) (h : isBl (hnd t (i + 1)) = false) : skip isBl t i = i + 1 := skip_to bl0 1 i (i + 1) (by omega) (by omega) (fun q h1 h2 => by rw [show q = i by omega, h0]; decide) h
theorem wd_one {t : ByteArray} {c i : Nat} (h : hnd t i = c) : wd t [c] i = .ok () (i + 1) := by rw [wd_cons, if_pos h]; rfl
theorem stop_of {x : Nat} (h : x = 93 ∨ x = 44 ∨ x = 125) : NumStop x := by rcases h with rfl | rfl | rfl <;> exact ⟨by decide, by decide, by decide, by decide, by decide, by decide, by decide⟩
/-- In brackets. -/
theorem in_list {s t : ByteArray} {v : JV} {j : Nat} (b0 : hnd t 0 = 91) (b1 : hnd t 1 = 32) (b2 : hnd t 2 = 49) (b3 : hnd t 3 = 32) (b4 : hnd t 4 = 44) (h : ∀ q, q < s.size → hnd t (5 + q) = hnd s q) (b5 : hnd t (5 + s.size) = 93) (hz : t.size = 6 + s.size)
  (h1 : pval s 64 (skip isBl s 0) = .ok v j) (h2 : j ≤ s.size) (h3 : skip isBl s 0 < j) (h4 : skip isBl s j = s.size) :
  (pval t 63 (5 + skip isBl s 0) = .ok v (5 + j) ∧ parse t = .ok ⟨5, ⟨#[]⟩, [⟨3, ⟨#[49]⟩, [], []⟩, v], []⟩ 0) ∨ ∃ k, pval t 63 (5 + skip isBl s 0) = .bad k 31 ∧ parse t = .bad k 31 := by
 have hS : Sub s t 0 5 s.size := sub_in h (by omega) (by rw [b5]; exact stop_of (.inl rfl))
 have e0 : skip isBl t 0 = 0 := skip_at (by rw [b0]; decide)
 have e1 : skip isBl t 1 = 2 := skip_one b1 (by rw [b2]; decide)
 have e3 : skip isBl t 3 = 4 := skip_one b3 (by rw [b4]; decide)
 have e5 : skip isBl t 5 = 5 + skip isBl s 0 := lead_in hS (by omega)
 have ee : skip isBl t (5 + j) = 5 + s.size := tail_in hS h4 (by rw [b5]; decide)
 have ez : skip isBl t (6 + s.size) = t.size := by rw [skip_at (by rw [hnd_out (by omega)]; decide), hz]
 obtain ⟨f, hf⟩ : ∃ f, t.size = f + 2 := ⟨t.size - 2, by omega⟩
 have hone : pval t 63 2 = .ok ⟨3, ⟨#[49]⟩, [], []⟩ 3 := one_num b2 b3
 have hl : lst t (pval t 63) (t.size + 1) 2 [] = (pval t 63 (5 + skip isBl s 0)).bind fun v k => lst t (pval t 63) (f + 1) (skip isBl t k) [⟨3, ⟨#[49]⟩, [], []⟩, v] := by
  rw [hf, lst, b2, if_neg (by omega), if_pos (show ([] : List JV).length = 0 from rfl)]
  show ((pval t 63 2).bind fun v k => lst t (pval t 63) (f + 2) (skip isBl t k) ([] ++ [v])) = _
  rw [hone]
  show lst t (pval t 63) (f + 2) (skip isBl t 3) [⟨3, ⟨#[49]⟩, [], []⟩] = _
  rw [e3, lst, b4, if_neg (by omega), if_neg (by simp), wd_one b4]
  show ((pval t 63 (skip isBl t 5)).bind fun v k => lst t (pval t 63) (f + 1) (skip isBl t k) ([⟨3, ⟨#[49]⟩, [], []⟩] ++ [v])) = _
  rw [e5]
  rfl
 have hp : pval t 64 0 = (lst t (pval t 63) (t.size + 1) 2 []).bind fun l j => .ok ⟨5, ⟨#[]⟩, l, []⟩ j := by
  show flat t (brk t (pval t 63)) 0 = _
  rw [flat_br (.inl b0)]
  unfold brk
  rw [if_pos b0, show (0 : Nat) + 1 = 1 from rfl, e1]
 rcases down hS h1 h2 with hd | ⟨k, hd⟩
 ·refine .inl ⟨hd, ?_⟩
  refine ok_parse e0 (j := 6 + s.size) ?_ ez
  rw [hp, hl, hd]
  show (lst t (pval t 63) (f + 1) (skip isBl t (5 + j)) [⟨3, ⟨#[49]⟩, [], []⟩, v]).bind _ = _
  rw [ee, lst, if_pos b5]
  show Res.ok _ _ = _
  congr 1
  omega
 ·refine .inr ⟨k, hd, ?_⟩
  unfold parse
  rw [e0, hp, hl, hd]
  rfl
/-- In braces, twice. -/
theorem in_obj {s t : ByteArray} {v : JV} {j : Nat} (b0 : hnd t 0 = 123) (b1 : hnd t 1 = 34) (b2 : hnd t 2 = 107) (b3 : hnd t 3 = 34) (b4 : hnd t 4 = 32) (b5 : hnd t 5 = 58) (h : ∀ q, q < s.size → hnd t (6 + q) = hnd s q)
  (d0 : hnd t (6 + s.size) = 44) (d1 : hnd t (7 + s.size) = 32) (d2 : hnd t (8 + s.size) = 34) (d3 : hnd t (9 + s.size) = 107) (d4 : hnd t (10 + s.size) = 34) (d5 : hnd t (11 + s.size) = 58) (h' : ∀ q, q < s.size → hnd t (12 + s.size + q) = hnd s q) (d6 : hnd t (12 + s.size + s.size) = 125) (hz : t.size = 13 + s.size + s.size)
  (h1 : pval s 64 (skip isBl s 0) = .ok v j) (h2 : j ≤ s.size) (h3 : skip isBl s 0 < j) (h4 : skip isBl s j = s.size) :
  (pval t 63 (6 + skip isBl s 0) = .ok v (6 + j) ∧ parse t = .ok ⟨6, ⟨#[]⟩, [], [⟨⟨#[107]⟩, v⟩]⟩ 0) ∨ ∃ k, pval t 63 (6 + skip isBl s 0) = .bad k 31 ∧ parse t = .bad k 31 := by
 have hS : Sub s t 0 6 s.size := sub_in h (by omega) (by rw [d0]; exact stop_of (.inr (.inl rfl)))
 have hS' : Sub s t 0 (12 + s.size) s.size := sub_in h' (by omega) (by rw [d6]; exact stop_of (.inr (.inr rfl)))
 have e0 : skip isBl t 0 = 0 := skip_at (by rw [b0]; decide)
 have e1 : skip isBl t 1 = 1 := skip_at (by rw [b1]; decide)
 have e4 : skip isBl t 4 = 5 := skip_one b4 (by rw [b5]; decide)
 have e6 : skip isBl t 6 = 6 + skip isBl s 0 := lead_in hS (by omega)
 have ee : skip isBl t (6 + j) = 6 + s.size := tail_in hS h4 (by rw [d0]; decide)
 have e7 : skip isBl t (7 + s.size) = 8 + s.size := (skip_one d1 (by rw [show 7 + s.size + 1 = 8 + s.size by omega, d2]; decide)).trans (by omega)
 have e11 : skip isBl t (11 + s.size) = 11 + s.size := skip_at (by rw [d5]; decide)
 have e12 : skip isBl t (12 + s.size) = 12 + s.size + skip isBl s 0 := lead_in hS' (by omega)
 have ee' : skip isBl t (12 + s.size + j) = 12 + s.size + s.size := tail_in hS' h4 (by rw [d6]; decide)
 have ez : skip isBl t (13 + s.size + s.size) = t.size := by rw [skip_at (by rw [hnd_out (by omega)]; decide), hz]
 have k1 : text t 1 = .ok [107] 4 := key_text b2 b3
 have k2 : text t (8 + s.size) = .ok [107] (11 + s.size) := by
  have := key_text (t := t) (p := 8 + s.size) (by rw [show 8 + s.size + 1 = 9 + s.size by omega]; exact d3) (by rw [show 8 + s.size + 2 = 10 + s.size by omega]; exact d4)
  rw [this]
  congr 1
  omega
 obtain ⟨f, hf⟩ : ∃ f, t.size = f + 2 := ⟨t.size - 2, by omega⟩
 have hl : obj t (pval t 63) (t.size + 1) 1 true [] = (pval t 63 (6 + skip isBl s 0)).bind fun v n => obj t (pval t 63) (f + 2) (skip isBl t n) false [⟨⟨#[107]⟩, v⟩] := by
  rw [hf, obj, b1, if_neg (by omega), if_pos rfl]
  show (if hnd t 1 = 34 then (text t 1).bind fun l k => fld t (pval t 63) (f + 2) [] l k else .bad 1 30) = _
  rw [if_pos b1, k1]
  show fld t (pval t 63) (f + 2) [] [107] 4 = _
  unfold fld
  rw [e4, wd_one b5]
  show ((pval t 63 (skip isBl t 6)).bind fun v n => obj t (pval t 63) (f + 2) (skip isBl t n) false (putF [] ⟨[107].toArray⟩ v)) = _
  rw [e6]
  rfl
 have hl2 : obj t (pval t 63) (f + 2) (6 + s.size) false [⟨⟨#[107]⟩, v⟩] = (pval t 63 (12 + s.size + skip isBl s 0)).bind fun w n => obj t (pval t 63) (f + 1) (skip isBl t n) false [⟨⟨#[107]⟩, w⟩] := by
  rw [obj, d0, if_neg (by omega), if_neg (by decide), wd_one d0]
  show (if hnd t (skip isBl t (6 + s.size + 1)) = 34 then (text t (skip isBl t (6 + s.size + 1))).bind fun l k => fld t (pval t 63) (f + 1) [⟨⟨#[107]⟩, v⟩] l k else .bad (skip isBl t (6 + s.size + 1)) 30) = _
  rw [show 6 + s.size + 1 = 7 + s.size by omega, e7, if_pos d2, k2]
  show fld t (pval t 63) (f + 1) [⟨⟨#[107]⟩, v⟩] [107] (11 + s.size) = _
  unfold fld
  rw [e11, wd_one d5]
  show ((pval t 63 (skip isBl t (11 + s.size + 1))).bind fun w n => obj t (pval t 63) (f + 1) (skip isBl t n) false (putF [⟨⟨#[107]⟩, v⟩] ⟨#[107]⟩ w)) = _
  rw [show 11 + s.size + 1 = 12 + s.size by omega, e12]
  congr 1
 have hp : pval t 64 0 = (obj t (pval t 63) (t.size + 1) 1 true []).bind fun l j => .ok ⟨6, ⟨#[]⟩, [], l⟩ j := by
  show flat t (brk t (pval t 63)) 0 = _
  rw [flat_br (.inr b0)]
  unfold brk
  rw [if_neg (by omega), show (0 : Nat) + 1 = 1 from rfl, e1]
 rcases down hS h1 h2 with hd | ⟨k, hd⟩
 ·refine .inl ⟨hd, ?_⟩
  have hT : Sub t t 6 (12 + s.size) s.size := ⟨fun q hq => (h' q hq).trans (h q hq).symm, by omega, by omega, by rw [d6]; exact stop_of (.inr (.inr rfl))⟩
  have hd' := pval_sub hT 63 (skip isBl s 0) v j hd h2
  refine ok_parse e0 (j := 13 + s.size + s.size) ?_ ez
  rw [hp, hl, hd]
  show (obj t (pval t 63) (f + 2) (skip isBl t (6 + j)) false [⟨⟨#[107]⟩, v⟩]).bind _ = _
  rw [ee, hl2, hd']
  show (obj t (pval t 63) (f + 1) (skip isBl t (12 + s.size + j)) false [⟨⟨#[107]⟩, v⟩]).bind _ = _
  rw [ee', obj, if_pos d6]
  show Res.ok _ _ = _
  congr 1
  omega
 ·refine .inr ⟨k, hd, ?_⟩
  unfold parse
  rw [e0, hp, hl, hd]
  rfl
/-- The four texts of the law. -/
def tAround (s : ByteArray) : ByteArray := (⟨#[10, 32, 9]⟩ : ByteArray) ++ s ++ (⟨#[13, 32]⟩ : ByteArray)
def tList (s : ByteArray) : ByteArray := (⟨#[91, 32, 49, 32, 44]⟩ : ByteArray) ++ s ++ (⟨#[93]⟩ : ByteArray)
def tObj (s : ByteArray) : ByteArray := (⟨#[123, 34, 107, 34, 32, 58]⟩ : ByteArray) ++ s ++ (⟨#[44, 32, 34, 107, 34, 58]⟩ : ByteArray) ++ s ++ (⟨#[125]⟩ : ByteArray)
theorem around_iff (s : ByteArray) : (∃ v, parse s = .ok v 0 ∧ parse (tAround s) = .ok v 0) ∨ ∃ k c k' c', parse s = .bad k c ∧ parse (tAround s) = .bad k' c' ∧ c ≠ 0 ∧ c' ≠ 0 := by
 have hsz : (tAround s).size = 3 + s.size + 2 := by unfold tAround; rw [ByteArray.size_append, ByteArray.size_append]; rfl
 have hh : ∀ i, hnd (tAround s) i = if i < 3 + s.size then (if i < 3 then hnd ⟨#[10, 32, 9]⟩ i else hnd s (i - 3)) else hnd ⟨#[13, 32]⟩ (i - (3 + s.size)) := by
  intro i
  unfold tAround
  rw [hnd_app, hnd_app, ByteArray.size_append]
  rfl
 have hb : ∀ q, q < 3 → isBl (hnd (tAround s) q) = true := by
  intro q hq
  rw [hh, if_pos (by omega), if_pos hq]
  have : ∀ q, q < 3 → isBl (hnd ⟨#[10, 32, 9]⟩ q) = true := by decide
  exact this q hq
 have h : ∀ q, q < s.size → hnd (tAround s) (3 + q) = hnd s q := by
  intro q hq
  rw [hh, if_pos (by omega), if_neg (by omega), Nat.add_sub_cancel_left]
 have ht : ∀ q, q < 2 → isBl (hnd (tAround s) (3 + s.size + q)) = true := by
  intro q hq
  rw [hh, if_neg (by omega), Nat.add_sub_cancel_left]
  have : ∀ q, q < 2 → isBl (hnd ⟨#[13, 32]⟩ q) = true := by decide
  exact this q hq
 rcases parse_sn s with ⟨v, hv⟩ | ⟨k, c, hb1, _, hc⟩
 ·exact .inl ⟨v, hv, around_ok hb h hsz ht (by omega) hv⟩
 ·rcases parse_sn (tAround s) with ⟨v, hv⟩ | ⟨k', c', hb2, _, hc'⟩
  ·rw [around_back hb h hsz ht hv] at hb1
   cases hb1
  ·exact .inr ⟨k, c, k', c', hb1, hb2, by rcases hc with rfl | rfl <;> decide, by rcases hc' with rfl | rfl <;> decide⟩
theorem within_ok {s : ByteArray} {v : JV} (hp : parse s = .ok v 0) : (parse (tList s) = .ok ⟨5, ⟨#[]⟩, [⟨3, ⟨#[49]⟩, [], []⟩, v], []⟩ 0 ∧ parse (tObj s) = .ok ⟨6, ⟨#[]⟩, [], [⟨⟨#[107]⟩, v⟩]⟩ 0) ∨ (∃ k, parse (tList s) = .bad k 31) ∧ ∃ k, parse (tObj s) = .bad k 31 := by
 obtain ⟨j, h1, h2, h3, h4⟩ := parse_ok hp
 have lz : (tList s).size = 6 + s.size := by unfold tList; rw [ByteArray.size_append, ByteArray.size_append]; show 5 + s.size + 1 = _; omega
 have lh : ∀ i, hnd (tList s) i = if i < 5 + s.size then (if i < 5 then hnd ⟨#[91, 32, 49, 32, 44]⟩ i else hnd s (i - 5)) else hnd ⟨#[93]⟩ (i - (5 + s.size)) := by
  intro i
  unfold tList
  rw [hnd_app, hnd_app, ByteArray.size_append]
  rfl
 have lin : ∀ q, q < s.size → hnd (tList s) (5 + q) = hnd s q := by
  intro q hq
  rw [lh, if_pos (by omega), if_neg (by omega), Nat.add_sub_cancel_left]
 have oz : (tObj s).size = 13 + s.size + s.size := by unfold tObj; rw [ByteArray.size_append, ByteArray.size_append, ByteArray.size_append, ByteArray.size_append]; show 6 + s.size + 6 + s.size + 1 = _; omega
 have oh : ∀ i, hnd (tObj s) i = if i < 6 + s.size + 6 + s.size then (if i < 6 + s.size + 6 then (if i < 6 + s.size then (if i < 6 then hnd ⟨#[123, 34, 107, 34, 32, 58]⟩ i else hnd s (i - 6)) else hnd ⟨#[44, 32, 34, 107, 34, 58]⟩ (i - (6 + s.size))) else hnd s (i - (6 + s.size + 6))) else hnd ⟨#[125]⟩ (i - (6 + s.size + 6 + s.size)) := by
  intro i
  unfold tObj
  rw [hnd_app, hnd_app, hnd_app, hnd_app, ByteArray.size_append, ByteArray.size_append, ByteArray.size_append]
  rfl
 have o1 : ∀ q, q < s.size → hnd (tObj s) (6 + q) = hnd s q := by
  intro q hq
  rw [oh, if_pos (by omega), if_pos (by omega), if_pos (by omega), if_neg (by omega), Nat.add_sub_cancel_left]
 have o2 : ∀ q, q < s.size → hnd (tObj s) (12 + s.size + q) = hnd s q := by
  intro q hq
  rw [oh, if_pos (by omega), if_neg (by omega), show 12 + s.size + q - (6 + s.size + 6) = q by omega]
 have om : ∀ q, q < 6 → hnd (tObj s) (6 + s.size + q) = hnd ⟨#[44, 32, 34, 107, 34, 58]⟩ q := by
  intro q hq
  rw [oh, if_pos (by omega), if_pos (by omega), if_neg (by omega), Nat.add_sub_cancel_left]
 have oe : hnd (tObj s) (12 + s.size + s.size) = 125 := by
  rw [oh, if_neg (by omega), show 12 + s.size + s.size - (6 + s.size + 6 + s.size) = 0 by omega]
  rfl
 have l0 : ∀ q, q < 5 → hnd (tList s) q = hnd ⟨#[91, 32, 49, 32, 44]⟩ q := by
  intro q hq
  rw [lh, if_pos (by omega), if_pos hq]
 have le : hnd (tList s) (5 + s.size) = 93 := by
  rw [lh, if_neg (by omega), Nat.sub_self]
  rfl
 have o0 : ∀ q, q < 6 → hnd (tObj s) q = hnd ⟨#[123, 34, 107, 34, 32, 58]⟩ q := by
  intro q hq
  rw [oh, if_pos (by omega), if_pos (by omega), if_pos (by omega), if_pos hq]
 have L := in_list (l0 0 (by omega)) (l0 1 (by omega)) (l0 2 (by omega)) (l0 3 (by omega)) (l0 4 (by omega)) lin le lz h1 h2 h3 h4
 have O := in_obj (o0 0 (by omega)) (o0 1 (by omega)) (o0 2 (by omega)) (o0 3 (by omega)) (o0 4 (by omega)) (o0 5 (by omega)) o1 (om 0 (by omega)) (by rw [show 7 + s.size = 6 + s.size + 1 by omega]; exact om 1 (by omega)) (by rw [show 8 + s.size = 6 + s.size + 2 by omega]; exact om 2 (by omega)) (by rw [show 9 + s.size = 6 + s.size + 3 by omega]; exact om 3 (by omega)) (by rw [show 10 + s.size = 6 + s.size + 4 by omega]; exact om 4 (by omega)) (by rw [show 11 + s.size = 6 + s.size + 5 by omega]; exact om 5 (by omega)) o2 oe oz h1 h2 h3 h4
 have hLO : Sub (tList s) (tObj s) 5 6 s.size := ⟨fun q hq => (o1 q hq).trans (lin q hq).symm, by omega, by omega, by have := om 0 (by omega); rw [Nat.add_zero] at this; rw [this]; exact stop_of (.inr (.inl rfl))⟩
 have hOL : Sub (tObj s) (tList s) 6 5 s.size := ⟨fun q hq => (lin q hq).trans (o1 q hq).symm, by omega, by omega, by rw [le]; exact stop_of (.inl rfl)⟩
 rcases L with ⟨pl, L⟩ | ⟨k, pl, L⟩
 ·rcases O with ⟨_, O⟩ | ⟨k, po, O⟩
  ·exact .inl ⟨L, O⟩
  ·rw [pval_sub hLO 63 _ _ _ pl h2] at po
   cases po
 ·rcases O with ⟨po, O⟩ | ⟨k', po, O⟩
  ·rw [pval_sub hOL 63 _ _ _ po h2] at pl
   cases pl
  ·exact .inr ⟨⟨k, L⟩, ⟨k', O⟩⟩
/-- All lists within a value are at most so long. -/
inductive Fit (N : Nat) : JV → Prop
 | mk (v : JV) (h2 : v.f2.length ≤ N) (h3 : v.f3.length ≤ N) (k2 : ∀ x ∈ v.f2, Fit N x) (k3 : ∀ y ∈ v.f3, Fit N y.f1) : Fit N v
theorem Fit.flat {N : Nat} (k : Int) (t : ByteArray) : Fit N ⟨k, t, [], []⟩ := .mk _ (Nat.zero_le _) (Nat.zero_le _) (fun x h => by cases h) (fun x h => by cases h)
theorem lst_fit {s : ByteArray} {N : Nat} {pv : Nat → Res JV} (hp : ∀ i v j, pv i = .ok v j → i < j) (hv : ∀ i v j, pv i = .ok v j → Fit N v) : ∀ (f i j : Nat) (acc l : List JV), acc.length ≤ i → (∀ x ∈ acc, Fit N x) → lst s pv f i acc = .ok l j → l.length ≤ j ∧ ∀ x ∈ l, Fit N x := by
 intro f
 induction f with
 | zero => intro i j acc l _ _ h; cases h
 | succ f ih =>
  intro i j acc l ha hf h
  rw [lst] at h
  split at h
  ·injection h with h1 h2; subst h1 h2; exact ⟨by omega, hf⟩
  ·have key : ∀ m, i ≤ m → ((pv m).bind fun v q => lst s pv f (skip isBl s q) (acc ++ [v])) = .ok l j → l.length ≤ j ∧ ∀ x ∈ l, Fit N x := by
    intro m hm h
    cases hw : pv m with
    | bad q e => rw [hw] at h; cases h
    | ok v q =>
     rw [hw] at h
     have h1 := hp _ _ _ hw
     have h2 := skip_ge (p := isBl) s q
     refine ih (skip isBl s q) j (acc ++ [v]) l (by rw [List.length_append, List.length_singleton]; omega) (fun x hx => ?_) h
     rcases List.mem_append.1 hx with hx | hx
     ·exact hf x hx
     ·rw [List.mem_singleton.1 hx]; exact hv _ _ _ hw
   split at h
   ·exact key i (Nat.le_refl _) h
   ·cases hw : wd s [44] i with
    | bad q e => rw [hw] at h; cases h
    | ok u q =>
     rw [hw] at h
     have h1 := wd_lt (show wd s [44] i = .ok () q from hw)
     have h2 := skip_ge (p := isBl) s q
     exact key (skip isBl s q) (by rw [List.length_singleton] at h1; omega) h
theorem putF_fit {N : Nat} {l : List JF} {n : ByteArray} {v : JV} (h : ∀ y ∈ l, Fit N y.f1) (hv : Fit N v) : (putF l n v).length ≤ l.length + 1 ∧ ∀ y ∈ putF l n v, Fit N y.f1 := by
 unfold putF
 split
 ·refine ⟨by rw [List.length_set]; omega, fun y hy => ?_⟩
  rcases List.mem_or_eq_of_mem_set hy with hy | rfl
  ·exact h y hy
  ·exact hv
 ·refine ⟨by simp, fun y hy => ?_⟩
  rcases List.mem_append.1 hy with hy | hy
  ·exact h y hy
  ·rw [List.mem_singleton.1 hy]; exact hv
theorem obj_fit {s : ByteArray} {N : Nat} {pv : Nat → Res JV} (hp : ∀ i v j, pv i = .ok v j → i < j) (hv : ∀ i v j, pv i = .ok v j → Fit N v) : ∀ (f i j : Nat) (fl : Bool) (acc l : List JF), acc.length ≤ i → (∀ x ∈ acc, Fit N x.f1) → obj s pv f i fl acc = .ok l j → l.length ≤ j ∧ ∀ x ∈ l, Fit N x.f1 := by
 intro f
 induction f with
 | zero => intro i j fl acc l _ _ h; cases h
 | succ f ih =>
  intro i j fl acc l ha hf h
  rw [obj] at h
  split at h
  ·injection h with h1 h2; subst h1 h2; exact ⟨by omega, hf⟩
  ·have key : ∀ m, i ≤ m → (if hnd s m = 34 then (text s m).bind fun l k => fld s pv f acc l k else .bad m 30) = .ok l j → l.length ≤ j ∧ ∀ x ∈ l, Fit N x.f1 := by
    intro m hm h
    split at h
    ·cases ht : text s m with
     | bad q e => rw [ht] at h; cases h
     | ok tx q =>
      rw [ht] at h
      have k1 := (text_len ht).2
      change fld s pv f acc tx q = _ at h
      unfold fld at h
      have k2 := skip_ge (p := isBl) s q
      cases hw : wd s [58] (skip isBl s q) with
      | bad q e => rw [hw] at h; cases h
      | ok u n =>
       rw [hw] at h
       have k3 := wd_lt (show wd s [58] (skip isBl s q) = .ok () n from hw)
       have k4 := skip_ge (p := isBl) s n
       change ((pv (skip isBl s n)).bind fun v n => obj s pv f (skip isBl s n) false (putF acc ⟨tx.toArray⟩ v)) = .ok l j at h
       cases hw2 : pv (skip isBl s n) with
       | bad q e => rw [hw2] at h; cases h
       | ok v q2 =>
        rw [hw2] at h
        have k5 := hp _ _ _ hw2
        have k6 := skip_ge (p := isBl) s q2
        have k7 := putF_fit (n := ⟨tx.toArray⟩) hf (hv _ _ _ hw2)
        exact ih (skip isBl s q2) j false _ l (by omega) k7.2 h
    ·cases h
   split at h
   ·exact key i (Nat.le_refl _) h
   ·cases hw : wd s [44] i with
    | bad q e => rw [hw] at h; cases h
    | ok u q =>
     rw [hw] at h
     have h1 := wd_lt (show wd s [44] i = .ok () q from hw)
     have h2 := skip_ge (p := isBl) s q
     exact key (skip isBl s q) (by rw [List.length_singleton] at h1; omega) h
theorem flat_fit {s : ByteArray} {N : Nat} {br : Nat → Res JV} {i j : Nat} {v : JV} (hb : br i = .ok v j → Fit N v) (h : flat s br i = .ok v j) : Fit N v := by
 have kw : ∀ (l : List Nat) (k : Int), ((wd s l i).bind fun _ j => Res.ok (⟨k, ⟨#[]⟩, [], []⟩ : JV) j) = .ok v j → Fit N v := by
  intro l k h
  cases hw : wd s l i with
  | bad k c => rw [hw] at h; cases h
  | ok u q => rw [hw] at h; injection h with h _; subst h; exact Fit.flat _ _
 unfold flat at h
 split at h
 ·exact kw _ _ h
 split at h
 ·exact kw _ _ h
 split at h
 ·exact kw _ _ h
 split at h
 ·cases ht : text s i with
  | bad k c => rw [ht] at h; cases h
  | ok l q => rw [ht] at h; injection h with h _; subst h; exact Fit.flat _ _
 split at h
 ·exact hb h
 ·cases hn : number s i with
  | bad k c => rw [hn] at h; cases h
  | ok u q => rw [hn] at h; injection h with h _; subst h; exact Fit.flat _ _
theorem flat_in {s : ByteArray} {br : Nat → Res JV} {i j : Nat} {v : JV} (h : flat s br i = .ok v j) : i < s.size := by
 by_cases c : i < s.size
 ·exact c
 ·have hl := hnd_out c
  unfold flat at h
  rw [hl, if_neg (by decide), if_neg (by decide), if_neg (by decide), if_neg (by decide), if_neg (by decide)] at h
  have : number s i = .bad i 30 := by
   unfold number
   rw [hl, if_neg (by decide)]
   unfold nI
   rw [hl, if_neg (by decide)]
   unfold digits
   rw [hl, if_neg (by decide)]
   rfl
  rw [this] at h
  cases h
theorem pval_in {s : ByteArray} {d i j : Nat} {v : JV} (h : pval s d i = .ok v j) : i < s.size := by
 cases d with
 | zero => exact flat_in h
 | succ d => exact flat_in h
theorem pval_fit {s : ByteArray} : ∀ (d i : Nat) (v : JV) (j : Nat), pval s d i = .ok v j → Fit s.size v := by
 intro d
 induction d with
 | zero => intro i v j h; exact flat_fit (fun h => by cases h) h
 | succ d ih =>
  intro i v j h
  have hsn := pval_sn (d + 1) i (Nat.le_of_lt (pval_in h))
  rw [h] at hsn
  have hj : j ≤ s.size := hsn.2
  refine flat_fit (br := brk s (pval s d)) (fun h => ?_) h
  unfold brk at h
  split at h
  ·cases hl : lst s (pval s d) (s.size + 1) (skip isBl s (i + 1)) [] with
   | bad q e => rw [hl] at h; cases h
   | ok l q =>
    rw [hl] at h
    injection h with h1 h2
    subst h1 h2
    have := lst_fit (pval_lt d) ih _ _ _ _ _ (Nat.zero_le _) (fun x hx => by cases hx) hl
    exact .mk _ (Nat.le_trans this.1 hj) (Nat.zero_le _) this.2 (fun x hx => by cases hx)
  ·cases hl : obj s (pval s d) (s.size + 1) (skip isBl s (i + 1)) true [] with
   | bad q e => rw [hl] at h; cases h
   | ok l q =>
    rw [hl] at h
    injection h with h1 h2
    subst h1 h2
    have := obj_fit (pval_lt d) ih _ _ _ _ _ _ (Nat.zero_le _) (fun x hx => by cases hx) hl
    exact .mk _ (Nat.zero_le _) (Nat.le_trans this.1 hj) (fun x hx => by cases hx) this.2
theorem jup {α : Type} {g : Nat → Option α} {r : α} (h : Ev (fun k => g (k + 1)) r) : Ev g r := Ev.step (fun _ => rfl) h
theorem jnow {α : Type} {g : Nat → Option α} {r : α} (h : ∀ k, g k = some r) : Ev g r := ⟨0, fun k _ => h k⟩
theorem jbind {α β : Type} {g : Nat → Option α} {f : Nat → α → Option β} {a : α} {r : β} (h : Ev g a) (k : Ev (fun n => f n a) r) : Ev (fun n => (g n).bind (f n)) r := Ev.bind h k
theorem jneg {α : Type} {c : Prop} [Decidable c] {g f : Nat → Option α} {r : α} (h : ¬ c) (k : Ev f r) : Ev (fun n => if c then g n else f n) r := by
 simpa only [if_neg h] using k
theorem jw1 (j : Nat) (h : j < 9223372036854775807) : wrap64 ((j : Int) + 1) = ((j + 1 : Nat) : Int) := by unfold wrap64; omega
/-- Twice the same value is the same. -/
theorem same_refl {N : Nat} (hN : N ≤ 1000000) {v : JV} (h : Fit N v) : Ev (fun k => glossatorref03_Same.f k v.f0 v.f1 v.f2 v.f3 v.f0 v.f1 v.f2 v.f3) true := by
 induction h with
 | mk v h2 h3 k2 k3 ih2 ih3 =>
  have L1 : ∀ n (m : Nat), v.f3.length = m + n → Ev (fun k => glossatorref03_Same.l1 k (m : Int) v.f0 v.f1 v.f2 v.f3 v.f0 v.f1 v.f2 v.f3) true := by
   intro n
   induction n with
   | zero =>
    intro m hm
    refine jup ?_
    simp only [glossatorref03_Same.l1]
    exact jnow fun _ => if_neg (by omega)
   | succ n ihn =>
    intro m hm
    refine jup ?_
    have c0 : (m : Int) < (v.f3.length : Int) := by omega
    have c1 : (0 : Int) ≤ (m : Int) := by omega
    have hr : rd_T38 v.f3 (m : Int) = v.f3[m]'(by omega) := by unfold rd_T38; rw [Int.toNat_natCast, List.getD_eq_getElem?_getD, List.getElem?_eq_getElem (by omega)]; rfl
    simp only [glossatorref03_Same.l1, if_pos c0, if_pos c1, if_true, hr]
    refine jbind (ih3 (v.f3[m]'(by omega)) (List.getElem_mem _)) ?_
    simp only [if_true]
    rw [jw1 m (by omega)]
    exact ihn (m + 1) (by omega)
  have L0 : ∀ n (m : Nat), v.f2.length = m + n → Ev (fun k => glossatorref03_Same.l0 k (m : Int) v.f0 v.f1 v.f2 v.f3 v.f0 v.f1 v.f2 v.f3) true := by
   intro n
   induction n with
   | zero =>
    intro m hm
    refine jup ?_
    simp only [glossatorref03_Same.l0]
    refine jneg (by omega) ?_
    exact L1 v.f3.length 0 (by omega)
   | succ n ihn =>
    intro m hm
    refine jup ?_
    have c0 : (m : Int) < (v.f2.length : Int) := by omega
    have c1 : (0 : Int) ≤ (m : Int) := by omega
    have hr : rd_T25 v.f2 (m : Int) = v.f2[m]'(by omega) := by unfold rd_T25; rw [Int.toNat_natCast, List.getD_eq_getElem?_getD, List.getElem?_eq_getElem (by omega)]; rfl
    simp only [glossatorref03_Same.l0, if_pos c0, if_pos c1, hr]
    refine jbind (ih2 (v.f2[m]'(by omega)) (List.getElem_mem _)) ?_
    simp only [if_true]
    rw [jw1 m (by omega)]
    exact ihn (m + 1) (by omega)
  refine jup ?_
  simp only [glossatorref03_Same.f, if_true]
  refine jup ?_
  have c : ((v.f3.length : Int) != (v.f3.length : Int)) = false := by simp
  simp only [glossatorref03_Same.j0, c, Bool.false_eq_true, if_false]
  exact L0 v.f2.length 0 (by omega)
theorem jv_eta (v : JV) : (⟨v.f0, v.f1, v.f2, v.f3⟩ : JV) = v := by cases v; rfl
theorem jf_eta (y : JF) : (⟨y.f0, ⟨y.f1.f0, y.f1.f1, y.f1.f2, y.f1.f3⟩⟩ : JF) = y := by
 cases y with
 | mk a b => show (⟨a, ⟨b.f0, b.f1, b.f2, b.f3⟩⟩ : JF) = ⟨a, b⟩; rw [jv_eta]
/-- A twin is the same value. -/
theorem twin_self {N : Nat} (hN : N ≤ 1000000) {v : JV} (h : Fit N v) : Ev (fun k => json_twin.f k v.f0 v.f1 v.f2 v.f3) (v.f0, v.f1, v.f2, v.f3) := by
 induction h with
 | mk v h2 h3 k2 k3 ih2 ih3 =>
  have L1 : ∀ n (m : Nat) (X : List JF), v.f3.length = m + n → X.length = v.f3.length → (∀ q, q < m → X[q]? = v.f3[q]?) → Ev (fun k => json_twin.l1 k X v.f3 (v.f3.length : Int) (m : Int) v.f0 v.f1 v.f2 v.f3) (v.f0, v.f1, v.f2, v.f3) := by
   intro n
   induction n with
   | zero =>
    intro m X hm hX hq
    obtain rfl : X = v.f3 := List.ext_getElem? (fun q => by
     by_cases c : q < m
     ·exact hq q c
     ·rw [List.getElem?_eq_none (by omega), List.getElem?_eq_none (by omega)])
    refine jup ?_
    simp only [json_twin.l1]
    exact jnow fun _ => if_neg (by omega)
   | succ n ihn =>
    intro m X hm hX hq
    refine jup ?_
    have c0 : (m : Int) < (v.f3.length : Int) := by omega
    have c1 : (0 : Int) ≤ (m : Int) := by omega
    have c2 : (m : Int) < (X.length : Int) := by omega
    have hr : rd_T38 v.f3 (m : Int) = v.f3[m]'(by omega) := by unfold rd_T38; rw [Int.toNat_natCast, List.getD_eq_getElem?_getD, List.getElem?_eq_getElem (by omega)]; rfl
    simp only [json_twin.l1, if_pos c0, if_pos c1, if_pos c2, hr]
    refine jbind (ih3 (v.f3[m]'(by omega)) (List.getElem_mem _)) ?_
    rw [jw1 m (by omega), Int.toNat_natCast]
    refine ihn (m + 1) _ (by omega) (by rw [List.length_set]; exact hX) (fun q hq' => ?_)
    by_cases c : q = m
    ·subst c; rw [List.getElem?_set_self (by omega), List.getElem?_eq_getElem (by omega)]
     exact congrArg some (jf_eta _)
    ·rw [List.getElem?_set_ne (Ne.symm c)]
     exact hq q (by omega)
  have J1 : Ev (fun k => json_twin.j1 k v.f0 v.f1 v.f2 v.f3) (v.f0, v.f1, v.f2, v.f3) := by
   refine jup ?_
   simp only [json_twin.j1]
   by_cases c : (v.f3.length : Int) > 0
   ·have c1 : (0 : Int) ≤ (v.f3.length : Int) := by omega
    have c2 : (v.f3.length : Int).toNat ≤ 3198579280802 := by rw [Int.toNat_natCast]; omega
    simp only [if_pos c, if_pos c1, if_pos c2]
    exact L1 v.f3.length 0 _ (by omega) (by rw [List.length_replicate, Int.toNat_natCast]) (fun q hq => by omega)
   ·simp only [if_neg c]
    exact jnow fun _ => rfl
  have L0 : ∀ n (m : Nat) (X : List JV), v.f2.length = m + n → X.length = v.f2.length → (∀ q, q < m → X[q]? = v.f2[q]?) → Ev (fun k => json_twin.l0 k X v.f2 (v.f2.length : Int) (m : Int) v.f0 v.f1 v.f2 v.f3) (v.f0, v.f1, v.f2, v.f3) := by
   intro n
   induction n with
   | zero =>
    intro m X hm hX hq
    obtain rfl : X = v.f2 := List.ext_getElem? (fun q => by
     by_cases c : q < m
     ·exact hq q c
     ·rw [List.getElem?_eq_none (by omega), List.getElem?_eq_none (by omega)])
    refine jup ?_
    simp only [json_twin.l0]
    refine jneg (by omega) ?_
    exact J1
   | succ n ihn =>
    intro m X hm hX hq
    refine jup ?_
    have c0 : (m : Int) < (v.f2.length : Int) := by omega
    have c1 : (0 : Int) ≤ (m : Int) := by omega
    have c2 : (m : Int) < (X.length : Int) := by omega
    have hr : rd_T25 v.f2 (m : Int) = v.f2[m]'(by omega) := by unfold rd_T25; rw [Int.toNat_natCast, List.getD_eq_getElem?_getD, List.getElem?_eq_getElem (by omega)]; rfl
    simp only [json_twin.l0, if_pos c0, if_pos c1, if_pos c2, hr]
    refine jbind (ih2 (v.f2[m]'(by omega)) (List.getElem_mem _)) ?_
    rw [jw1 m (by omega), Int.toNat_natCast]
    refine ihn (m + 1) _ (by omega) (by rw [List.length_set]; exact hX) (fun q hq' => ?_)
    by_cases c : q = m
    ·subst c; rw [List.getElem?_set_self (by omega), List.getElem?_eq_getElem (by omega)]
     exact congrArg some (jv_eta _)
    ·rw [List.getElem?_set_ne (Ne.symm c)]
     exact hq q (by omega)
  refine jup ?_
  simp only [json_twin.f]
  by_cases c : (v.f2.length : Int) > 0
  ·have c1 : (0 : Int) ≤ (v.f2.length : Int) := by omega
   have c2 : (v.f2.length : Int).toNat ≤ 3909374676536 := by rw [Int.toNat_natCast]; omega
   simp only [if_pos c, if_pos c1, if_pos c2]
   exact L0 v.f2.length 0 _ (by omega) (by rw [List.length_replicate, Int.toNat_natCast]) (fun q hq => by omega)
  ·simp only [if_neg c]
   exact J1
def glossatorlaw03_JsonAround.f (k : Nat) (a0 : ByteArray) : Option Bool := some true
theorem glossatorlaw03_JsonAround.mono : ∀ a0 k, LeO (glossatorlaw03_JsonAround.f k a0) (glossatorlaw03_JsonAround.f (k + 1) a0) := fun a0 k => LeO.refl _
theorem get_one {k : Nat} {v : JV} (h : json_twin.f k v.f0 v.f1 v.f2 v.f3 = some (v.f0, v.f1, v.f2, v.f3)) : json_Get.f (k + 1) 6 ⟨#[]⟩ [] [⟨⟨#[107]⟩, v⟩] ⟨#[107]⟩ = some (v.f0, v.f1, v.f2, v.f3, true) := by
 have hr : rd_T38 [⟨⟨#[107]⟩, v⟩] 0 = ⟨⟨#[107]⟩, v⟩ := rfl
 have c0 : (0 : Int) < ((([⟨⟨#[107]⟩, v⟩] : List JF).length : Nat) : Int) := by simp
 have c1 : (0 : Int) ≤ 0 := by omega
 simp only [json_Get.f, if_true, json_Get.l0, if_pos c0, if_pos c1, hr, h]
 rfl
theorem parsed_ok' {s : ByteArray} {v : JV} (hs : s.size ≤ 100000) (h : parse s = .ok v 0) : parsed s = (v, 0, 0) := by unfold parsed; rw [if_neg (by omega), h]
theorem parsed_bad' {s : ByteArray} {i : Nat} {c : Int} (hs : s.size ≤ 100000) (h : parse s = .bad i c) : parsed s = (⟨0, ⟨#[]⟩, [], []⟩, i, c) := by unfold parsed; rw [if_neg (by omega), h]
set_option maxRecDepth 100000 in
set_option maxHeartbeats 2000000 in
theorem glossatorlaw03_JsonAround.calls (k : Nat) (a0 : ByteArray) (r : Bool) (w : World) (hG : GlobOk w) (h : glossatorlaw03_JsonAround.f k a0 = some r) : Calls Tryd.prog 5 #[.string a0] w fun e w' => e = .returned (.bool r) ∧ Below w.heap.size w w' := by
 obtain rfl := Option.some.inj h
 have HG := Aside0.mk hG; clear hG h; by_cases hs : 20000 < a0.size
 ·have t1 : decide ((20000 : Int) < (a0.size : Int)) = true := decide_eq_true (by omega)
  clear hs; go_enter Tryd.func5, Tryd.ntmps5
  go_wp2_with (first | (go_at_call 10; refine (glossatorlaw03_awake.calls w HG.out).mono ?_; rintro e w0 ⟨rfl, hb⟩; have HB0 := Aside0.mk hb; clear hb))
  go_ret
  exact ⟨rfl, HB0.out⟩
 have t1 : decide ((20000 : Int) < (a0.size : Int)) = false := decide_eq_false (by omega)
 have z1 : (tAround a0).size ≤ 100000 := by unfold tAround; rw [ByteArray.size_append, ByteArray.size_append]; show 3 + a0.size + 2 ≤ _; omega
 have z2 : (tList a0).size ≤ 100000 := by unfold tList; rw [ByteArray.size_append, ByteArray.size_append]; show 5 + a0.size + 1 ≤ _; omega
 have z3 : (tObj a0).size ≤ 100000 := by unfold tObj; rw [ByteArray.size_append, ByteArray.size_append, ByteArray.size_append, ByteArray.size_append]; show 6 + a0.size + 6 + a0.size + 1 ≤ _; omega
 have sa0 : (9223372036854775807 < 3 + a0.size) = False := eq_false (by omega)
 have sb0 : ((9223372036854775807 : Int) < 3 + (a0.size : Int)) = False := eq_false (by omega)
 have sc0 : (3 + a0.size ≤ 9223372036854775807) = True := eq_true (by omega)
 have sd0 : (3 + (a0.size : Int) ≤ (9223372036854775807 : Int)) = True := eq_true (by omega)
 have sa1 : (9223372036854775807 < 3 + a0.size + 2) = False := eq_false (by omega)
 have sb1 : ((9223372036854775807 : Int) < 3 + (a0.size : Int) + 2) = False := eq_false (by omega)
 have sc1 : (3 + a0.size + 2 ≤ 9223372036854775807) = True := eq_true (by omega)
 have sd1 : (3 + (a0.size : Int) + 2 ≤ (9223372036854775807 : Int)) = True := eq_true (by omega)
 have sa2 : (9223372036854775807 < 5 + a0.size) = False := eq_false (by omega)
 have sb2 : ((9223372036854775807 : Int) < 5 + (a0.size : Int)) = False := eq_false (by omega)
 have sc2 : (5 + a0.size ≤ 9223372036854775807) = True := eq_true (by omega)
 have sd2 : (5 + (a0.size : Int) ≤ (9223372036854775807 : Int)) = True := eq_true (by omega)
 have sa3 : (9223372036854775807 < 5 + a0.size + 1) = False := eq_false (by omega)
 have sb3 : ((9223372036854775807 : Int) < 5 + (a0.size : Int) + 1) = False := eq_false (by omega)
 have sc3 : (5 + a0.size + 1 ≤ 9223372036854775807) = True := eq_true (by omega)
 have sd3 : (5 + (a0.size : Int) + 1 ≤ (9223372036854775807 : Int)) = True := eq_true (by omega)
 have sa4 : (9223372036854775807 < 6 + a0.size) = False := eq_false (by omega)
 have sb4 : ((9223372036854775807 : Int) < 6 + (a0.size : Int)) = False := eq_false (by omega)
 have sc4 : (6 + a0.size ≤ 9223372036854775807) = True := eq_true (by omega)
 have sd4 : (6 + (a0.size : Int) ≤ (9223372036854775807 : Int)) = True := eq_true (by omega)
 have sa5 : (9223372036854775807 < 6 + a0.size + 6) = False := eq_false (by omega)
 have sb5 : ((9223372036854775807 : Int) < 6 + (a0.size : Int) + 6) = False := eq_false (by omega)
 have sc5 : (6 + a0.size + 6 ≤ 9223372036854775807) = True := eq_true (by omega)
 have sd5 : (6 + (a0.size : Int) + 6 ≤ (9223372036854775807 : Int)) = True := eq_true (by omega)
 have sa6 : (9223372036854775807 < 6 + a0.size + 6 + a0.size) = False := eq_false (by omega)
 have sb6 : ((9223372036854775807 : Int) < 6 + (a0.size : Int) + 6 + (a0.size : Int)) = False := eq_false (by omega)
 have sc6 : (6 + a0.size + 6 + a0.size ≤ 9223372036854775807) = True := eq_true (by omega)
 have sd6 : (6 + (a0.size : Int) + 6 + (a0.size : Int) ≤ (9223372036854775807 : Int)) = True := eq_true (by omega)
 have sa7 : (9223372036854775807 < 6 + a0.size + 6 + a0.size + 1) = False := eq_false (by omega)
 have sb7 : ((9223372036854775807 : Int) < 6 + (a0.size : Int) + 6 + (a0.size : Int) + 1) = False := eq_false (by omega)
 have sc7 : (6 + a0.size + 6 + a0.size + 1 ≤ 9223372036854775807) = True := eq_true (by omega)
 have sd7 : (6 + (a0.size : Int) + 6 + (a0.size : Int) + 1 ≤ (9223372036854775807 : Int)) = True := eq_true (by omega)
 rcases around_iff a0 with ⟨v, h1, h2⟩ | ⟨q, c, q', c', h1, h2, h3, h4⟩
 ·have PE1 := Aside0.mk (parsed_ok' (by omega) h1)
  have PE2 := Aside0.mk (parsed_ok' z1 h2)
  obtain ⟨jj, hpv, _, _, _⟩ := parse_ok h1
  have HFit := Aside0.mk (pval_fit 64 _ _ _ hpv)
  have hsm : a0.size ≤ 1000000 := by omega
  obtain ⟨ks, hks⟩ := same_refl hsm HFit.out
  have HSame := Aside0.mk (hks ks (Nat.le_refl _))
  have HIn := Aside0.mk (within_ok h1)
  have Z2 := Aside0.mk z2; have Z3 := Aside0.mk z3; clear h1 h2 hs hks hpv z1 z2 z3; go_enter Tryd.func5, Tryd.ntmps5
  go_upto_region 3 with (first | (go_at_call 10; refine (glossatorlaw03_awake.calls w HG.out).mono ?_; rintro e w0 ⟨rfl, hb⟩; have HB0 := Aside0.mk hb; clear hb))
  go_upto_region 6 with (first | (go_at_call 7; refine (parse_at (a0) _ _ _ PE1.out _ (HG.out.below HB0.out)).mono ?_; rintro e w1 ⟨A1, c1, B1, d1, rfl, hr2, hr3, hb⟩; have HB1 := Aside0.mk (below_alloc (below_step HB0.out hb) (.cells #[.int .u8 v.f0, .string v.f1, .slice A1 v.f2.length c1, .slice B1 v.f3.length d1] 25 (0, 0))); have HM1 := Aside0.mk (blk_new w1 (.cells #[.int .u8 v.f0, .string v.f1, .slice A1 v.f2.length c1, .slice B1 v.f3.length d1] 25 (0, 0))); have HV1 := Aside0.mk (Kd.R_V (base' := 0) (Kd.R_alloc hr2 (.cells #[.int .u8 v.f0, .string v.f1, .slice A1 v.f2.length c1, .slice B1 v.f3.length d1] 25 (0, 0)))); have HW1 := Aside0.mk (Kd.R_V (base' := 0) (Kd.R_alloc hr3 (.cells #[.int .u8 v.f0, .string v.f1, .slice A1 v.f2.length c1, .slice B1 v.f3.length d1] 25 (0, 0)))); clear hr2 hr3 hb))
  clear PE1; go_upto_region 7 with (first | (go_at_call 7; refine (parse_at (tAround a0) _ _ _ PE2.out _ (HG.out.below HB1.out)).mono ?_; rintro e w2 ⟨A2, c2, B2, d2, rfl, hr2, hr3, hb⟩; have HM1b := Aside0.mk (blk_alloc (blk_below HM1.out hb) (.cells #[.int .u8 v.f0, .string v.f1, .slice A2 v.f2.length c2, .slice B2 v.f3.length d2] 25 (0, 0))); have HV1b := Aside0.mk (Kd.V_alloc (Kd.V_below HV1.out hb) (.cells #[.int .u8 v.f0, .string v.f1, .slice A2 v.f2.length c2, .slice B2 v.f3.length d2] 25 (0, 0))); have HW1b := Aside0.mk (Kd.V_alloc (Kd.V_below HW1.out hb) (.cells #[.int .u8 v.f0, .string v.f1, .slice A2 v.f2.length c2, .slice B2 v.f3.length d2] 25 (0, 0))); have HB2 := Aside0.mk (below_alloc (below_step HB1.out hb) (.cells #[.int .u8 v.f0, .string v.f1, .slice A2 v.f2.length c2, .slice B2 v.f3.length d2] 25 (0, 0))); have HM2 := Aside0.mk (blk_new w2 (.cells #[.int .u8 v.f0, .string v.f1, .slice A2 v.f2.length c2, .slice B2 v.f3.length d2] 25 (0, 0))); have HV2 := Aside0.mk (Kd.R_V (base' := 0) (Kd.R_alloc hr2 (.cells #[.int .u8 v.f0, .string v.f1, .slice A2 v.f2.length c2, .slice B2 v.f3.length d2] 25 (0, 0)))); have HW2 := Aside0.mk (Kd.R_V (base' := 0) (Kd.R_alloc hr3 (.cells #[.int .u8 v.f0, .string v.f1, .slice A2 v.f2.length c2, .slice B2 v.f3.length d2] 25 (0, 0)))); clear hr2 hr3 hb))
  clear PE2; have r12 := Kd.V_reads' HV1b.out
  have r13 := Kd.V_reads' HW1b.out
  have r22 := Kd.V_reads' HV2.out
  have r23 := Kd.V_reads' HW2.out
  have HSC := Aside0.mk (glossatorref03_Same.calls ks v.f0 v.f1 A1 c1 v.f2 B1 d1 v.f3 v.f0 v.f1 A2 c2 v.f2 B2 d2 v.f3 true _ r12.2.2 r12.2.1 r13.2.2 r13.2.1 r22.2.2 r22.2.1 r23.2.2 r23.2.1 HSame.out)
  clear r12 r13 r22 r23; have m10 := blk_cell HM1b.out 0
  have m11 := blk_cell HM1b.out 1
  have m12 := blk_cell HM1b.out 2
  have m13 := blk_cell HM1b.out 3
  have m20 := blk_cell HM2.out 0
  have m21 := blk_cell HM2.out 1
  have m22 := blk_cell HM2.out 2
  have m23 := blk_cell HM2.out 3
  go_upto_region 11 with (first | (go_at_call 9; refine HSC.out.mono ?_; rintro e w8 ⟨rfl, hb⟩; have HB8 := Aside0.mk (below_step HB2.out hb); have HM1c := Aside0.mk (blk_below HM1b.out hb); have HV1c := Aside0.mk (Kd.V_below HV1b.out hb); have HW1c := Aside0.mk (Kd.V_below HW1b.out hb); clear hb))
  clear m10 m11 m12 m13 m20 m21 m22 m23 HSC; rcases HIn.out with ⟨hl, ho⟩ | ⟨⟨q, hl⟩, ⟨q', ho⟩⟩
  ·have PE3 := Aside0.mk (parsed_ok' Z2.out hl)
   have PE4 := Aside0.mk (parsed_ok' Z3.out ho)
   clear hl ho; obtain ⟨kt, hkt⟩ := twin_self hsm HFit.out
   have HGT := Aside0.mk (get_one (hkt kt (Nat.le_refl _)))
   clear hkt; go_upto_region 12 with (first | (go_at_call 7; refine (parse_at (tList a0) _ _ _ PE3.out _ (HG.out.below HB8.out)).mono ?_; rintro e w3 ⟨A3, c3, B3, d3, rfl, hr2, hr3, hb⟩; have HM1d := Aside0.mk (blk_alloc (blk_below HM1c.out hb) (.cells #[.int .u8 5, .string ⟨#[]⟩, .slice A3 2 c3, .slice B3 0 d3] 25 (0, 0))); have HV1d := Aside0.mk (Kd.V_alloc (Kd.V_below HV1c.out hb) (.cells #[.int .u8 5, .string ⟨#[]⟩, .slice A3 2 c3, .slice B3 0 d3] 25 (0, 0))); have HW1d := Aside0.mk (Kd.V_alloc (Kd.V_below HW1c.out hb) (.cells #[.int .u8 5, .string ⟨#[]⟩, .slice A3 2 c3, .slice B3 0 d3] 25 (0, 0))); have HB3 := Aside0.mk (below_alloc (below_step HB8.out hb) (.cells #[.int .u8 5, .string ⟨#[]⟩, .slice A3 2 c3, .slice B3 0 d3] 25 (0, 0))); have HM3 := Aside0.mk (blk_new w3 (.cells #[.int .u8 5, .string ⟨#[]⟩, .slice A3 2 c3, .slice B3 0 d3] 25 (0, 0))); have HV3 := Aside0.mk (Kd.R_V (base' := 0) (Kd.R_alloc hr2 (.cells #[.int .u8 5, .string ⟨#[]⟩, .slice A3 2 c3, .slice B3 0 d3] 25 (0, 0)))); have HW3 := Aside0.mk (Kd.R_V (base' := 0) (Kd.R_alloc hr3 (.cells #[.int .u8 5, .string ⟨#[]⟩, .slice A3 2 c3, .slice B3 0 d3] 25 (0, 0)))); clear hr2 hr3 hb))
   clear PE3; go_upto_region 13 with (first | (go_at_call 7; refine (parse_at (tObj a0) _ _ _ PE4.out _ (HG.out.below HB3.out)).mono ?_; rintro e w4 ⟨A4, c4, B4, d4, rfl, hr2, hr3, hb⟩; have HM1e := Aside0.mk (blk_alloc (blk_below HM1d.out hb) (.cells #[.int .u8 6, .string ⟨#[]⟩, .slice A4 0 c4, .slice B4 1 d4] 25 (0, 0))); have HV1e := Aside0.mk (Kd.V_alloc (Kd.V_below HV1d.out hb) (.cells #[.int .u8 6, .string ⟨#[]⟩, .slice A4 0 c4, .slice B4 1 d4] 25 (0, 0))); have HW1e := Aside0.mk (Kd.V_alloc (Kd.V_below HW1d.out hb) (.cells #[.int .u8 6, .string ⟨#[]⟩, .slice A4 0 c4, .slice B4 1 d4] 25 (0, 0))); have HM3b := Aside0.mk (blk_alloc (blk_below HM3.out hb) (.cells #[.int .u8 6, .string ⟨#[]⟩, .slice A4 0 c4, .slice B4 1 d4] 25 (0, 0))); have HV3b := Aside0.mk (Kd.V_alloc (Kd.V_below HV3.out hb) (.cells #[.int .u8 6, .string ⟨#[]⟩, .slice A4 0 c4, .slice B4 1 d4] 25 (0, 0))); have HW3b := Aside0.mk (Kd.V_alloc (Kd.V_below HW3.out hb) (.cells #[.int .u8 6, .string ⟨#[]⟩, .slice A4 0 c4, .slice B4 1 d4] 25 (0, 0))); have HR4x := Aside0.mk (Kd.R_alloc hr3 (.cells #[.int .u8 6, .string ⟨#[]⟩, .slice A4 0 c4, .slice B4 1 d4] 25 (0, 0))); have HB4 := Aside0.mk (below_alloc (below_step HB3.out hb) (.cells #[.int .u8 6, .string ⟨#[]⟩, .slice A4 0 c4, .slice B4 1 d4] 25 (0, 0))); have HM4 := Aside0.mk (blk_new w4 (.cells #[.int .u8 6, .string ⟨#[]⟩, .slice A4 0 c4, .slice B4 1 d4] 25 (0, 0))); have HV4 := Aside0.mk (Kd.R_V (base' := 0) (Kd.R_alloc hr2 (.cells #[.int .u8 6, .string ⟨#[]⟩, .slice A4 0 c4, .slice B4 1 d4] 25 (0, 0)))); have HW4 := Aside0.mk (Kd.R_V (base' := 0) (Kd.R_alloc hr3 (.cells #[.int .u8 6, .string ⟨#[]⟩, .slice A4 0 c4, .slice B4 1 d4] 25 (0, 0)))); clear hr2 hr3 hb))
   clear PE4; have m30 := blk_cell HM3b.out 0
   have m32 := blk_cell HM3b.out 2
   have m40 := blk_cell HM4.out 0
   have m41 := blk_cell HM4.out 1
   have m42 := blk_cell HM4.out 2
   have m43 := blk_cell HM4.out 3
   have r42 := Kd.V_reads' HV4.out
   have HW4' := Aside0.mk (Kd.R_V (base' := (w4.alloc (.cells #[.int .u8 6, .string ⟨#[]⟩, .slice A4 0 c4, .slice B4 1 d4] 25 (0, 0))).heap.size) HR4x.out)
   go_upto_region 18 with (first | (go_at_call 11; refine (json_Get.calls (kt + 1) 6 ⟨#[]⟩ A4 c4 [] (fun _ => True) B4 d4 [⟨⟨#[107]⟩, v⟩] ⟨#[107]⟩ v.f0 v.f1 v.f2 v.f3 true (w4.alloc (.cells #[.int .u8 6, .string ⟨#[]⟩, .slice A4 0 c4, .slice B4 1 d4] 25 (0, 0))) r42.2.2 r42.2.1 HW4'.out HGT.out).mono ?_; rintro e w9 ⟨x2, x3, rfl, hx2, hx3, hb⟩; obtain ⟨A9, c9, rfl⟩ := Kd.V_slice hx2; obtain ⟨B9, d9, rfl⟩ := Kd.V_slice hx3; have HB9 := Aside0.mk (below_alloc (below_step HB4.out hb) (.cells #[.int .u8 v.f0, .string v.f1, .slice A9 v.f2.length c9, .slice B9 v.f3.length d9] 25 (0, 0))); have HM9 := Aside0.mk (blk_new w9 (.cells #[.int .u8 v.f0, .string v.f1, .slice A9 v.f2.length c9, .slice B9 v.f3.length d9] 25 (0, 0))); have HM1f := Aside0.mk (blk_alloc (blk_below HM1e.out hb) (.cells #[.int .u8 v.f0, .string v.f1, .slice A9 v.f2.length c9, .slice B9 v.f3.length d9] 25 (0, 0))); have HV1f := Aside0.mk (Kd.V_alloc (Kd.V_below HV1e.out hb) (.cells #[.int .u8 v.f0, .string v.f1, .slice A9 v.f2.length c9, .slice B9 v.f3.length d9] 25 (0, 0))); have HW1f := Aside0.mk (Kd.V_alloc (Kd.V_below HW1e.out hb) (.cells #[.int .u8 v.f0, .string v.f1, .slice A9 v.f2.length c9, .slice B9 v.f3.length d9] 25 (0, 0))); have HM3c := Aside0.mk (blk_alloc (blk_below HM3b.out hb) (.cells #[.int .u8 v.f0, .string v.f1, .slice A9 v.f2.length c9, .slice B9 v.f3.length d9] 25 (0, 0))); have HV3c := Aside0.mk (Kd.V_alloc (Kd.V_below HV3b.out hb) (.cells #[.int .u8 v.f0, .string v.f1, .slice A9 v.f2.length c9, .slice B9 v.f3.length d9] 25 (0, 0))); have HW3c := Aside0.mk (Kd.V_alloc (Kd.V_below HW3b.out hb) (.cells #[.int .u8 v.f0, .string v.f1, .slice A9 v.f2.length c9, .slice B9 v.f3.length d9] 25 (0, 0))); have HV9 := Aside0.mk (Kd.V_alloc hx2 (.cells #[.int .u8 v.f0, .string v.f1, .slice A9 v.f2.length c9, .slice B9 v.f3.length d9] 25 (0, 0))); have HW9 := Aside0.mk (Kd.V_alloc hx3 (.cells #[.int .u8 v.f0, .string v.f1, .slice A9 v.f2.length c9, .slice B9 v.f3.length d9] 25 (0, 0))); clear hx2 hx3 hb))
   have q3 := Kd.V_reads' HV3c.out
   obtain ⟨ad, E2, f2, E3, f3, rfl, n0, n1, n2, n3, l2, K2, l3, K3⟩ := at_T25 q3.2.2 1 (by decide) (by simp)
   have hrd : rd_T25 [⟨3, ⟨#[49]⟩, [], []⟩, v] 1 = v := rfl
   rw [hrd] at n0 n1 n2 n3 l2 K2 l3 K3
   have hz4 : (1 : Int).toNat * 4 = 4 := rfl
   rw [hz4] at n0 n1 n2 n3
   have n0' : (w9.alloc (.cells #[.int .u8 v.f0, .string v.f1, .slice A9 v.f2.length c9, .slice B9 v.f3.length d9] 25 (0, 0))).cell? ⟨ad.block, ad.off + 4, none⟩ = _ := n0
   have n1' : (w9.alloc (.cells #[.int .u8 v.f0, .string v.f1, .slice A9 v.f2.length c9, .slice B9 v.f3.length d9] 25 (0, 0))).cell? ⟨ad.block, ad.off + 4 + 1, none⟩ = _ := n1
   have n2' : (w9.alloc (.cells #[.int .u8 v.f0, .string v.f1, .slice A9 v.f2.length c9, .slice B9 v.f3.length d9] 25 (0, 0))).cell? ⟨ad.block, ad.off + 4 + 2, none⟩ = _ := n2
   have n3' : (w9.alloc (.cells #[.int .u8 v.f0, .string v.f1, .slice A9 v.f2.length c9, .slice B9 v.f3.length d9] 25 (0, 0))).cell? ⟨ad.block, ad.off + 4 + 3, none⟩ = _ := n3
   have n1'' : (w9.alloc (.cells #[.int .u8 v.f0, .string v.f1, .slice A9 v.f2.length c9, .slice B9 v.f3.length d9] 25 (0, 0))).cell? ⟨ad.block, ad.off + 5, none⟩ = _ := n1
   have n2'' : (w9.alloc (.cells #[.int .u8 v.f0, .string v.f1, .slice A9 v.f2.length c9, .slice B9 v.f3.length d9] 25 (0, 0))).cell? ⟨ad.block, ad.off + 6, none⟩ = _ := n2
   have n3'' : (w9.alloc (.cells #[.int .u8 v.f0, .string v.f1, .slice A9 v.f2.length c9, .slice B9 v.f3.length d9] 25 (0, 0))).cell? ⟨ad.block, ad.off + 7, none⟩ = _ := n3
   have a12 := Kd.V_reads' HV1f.out
   have a13 := Kd.V_reads' HW1f.out
   have a92 := Kd.V_reads' HV9.out
   have a93 := Kd.V_reads' HW9.out
   have dd := Kd.C_drewN (m := 1) K2
   have HC1 := Aside0.mk (glossatorref03_Same.calls ks v.f0 v.f1 E2 f2 v.f2 E3 f3 v.f3 v.f0 v.f1 A1 c1 v.f2 B1 d1 v.f3 true ((w9.alloc (.cells #[.int .u8 v.f0, .string v.f1, .slice A9 v.f2.length c9, .slice B9 v.f3.length d9] 25 (0, 0))).drew) (Kd.C_below K2 (Below.refl _ _).drew) l2 (Kd.C_below K3 (Below.refl _ _).drew) l3 (Kd.C_below a12.2.2 (Below.refl _ _).drew) a12.2.1 (Kd.C_below a13.2.2 (Below.refl _ _).drew) a13.2.1 HSame.out)
   have HA12 := Aside0.mk a12; have HA13 := Aside0.mk a13; have HA92 := Aside0.mk a92; have HA93 := Aside0.mk a93; clear dd; have m32 := blk_cell HM3c.out 2
   have m10 := blk_cell HM1f.out 0
   have m11 := blk_cell HM1f.out 1
   have m12 := blk_cell HM1f.out 2
   have m13 := blk_cell HM1f.out 3
   have m90 := blk_cell HM9.out 0
   have m91 := blk_cell HM9.out 1
   have m92 := blk_cell HM9.out 2
   have m93 := blk_cell HM9.out 3
   clear q3 K2 K3 a12 a13 a92 a93 hrd hz4; go_region_with (first | (go_at_call 9; refine HC2.out.mono ?_; rintro e w11 ⟨rfl, hb⟩; have HB11 := Aside0.mk (below_step HB10.out hb); clear hb) | (go_at_call 9; refine HC1.out.mono ?_; rintro e w10 ⟨rfl, hb⟩; have HC2 := Aside0.mk (glossatorref03_Same.calls ks v.f0 v.f1 A9 c9 v.f2 B9 d9 v.f3 v.f0 v.f1 A1 c1 v.f2 B1 d1 v.f3 true w10 (Kd.C_below (Kd.C_below HA92.out.2.2 (Below.refl _ _).drew) hb) HA92.out.2.1 (Kd.C_below (Kd.C_below HA93.out.2.2 (Below.refl _ _).drew) hb) HA93.out.2.1 (Kd.C_below (Kd.C_below HA12.out.2.2 (Below.refl _ _).drew) hb) HA12.out.2.1 (Kd.C_below (Kd.C_below HA13.out.2.2 (Below.refl _ _).drew) hb) HA13.out.2.1 HSame.out); have HB10 := Aside0.mk (below_step HB9.out.drew hb); have hm1 := blk_below (show ((w9.alloc (.cells #[.int .u8 v.f0, .string v.f1, .slice A9 v.f2.length c9, .slice B9 v.f3.length d9] 25 (0, 0))).drew).heap[w1.heap.size]? = _ from HM1f.out) hb; have hm9 := blk_below (show ((w9.alloc (.cells #[.int .u8 v.f0, .string v.f1, .slice A9 v.f2.length c9, .slice B9 v.f3.length d9] 25 (0, 0))).drew).heap[w9.heap.size]? = _ from HM9.out) hb; have p10 := blk_cell hm1 0; have p11 := blk_cell hm1 1; have p12 := blk_cell hm1 2; have p13 := blk_cell hm1 3; have p90 := blk_cell hm9 0; have p91 := blk_cell hm9 1; have p92 := blk_cell hm9 2; have p93 := blk_cell hm9 3; clear hb hm1 hm9))
   all_goals (first | go_wp2 | (simp only [Exit.then]; go_wp2) | (simp only [Exit.then, Act.put]; go_wp2))
   all_goals (go_ret; exact ⟨rfl, HB11.out⟩)
  ·have PE3 := Aside0.mk (parsed_bad' Z2.out hl)
   have PE4 := Aside0.mk (parsed_bad' Z3.out ho)
   clear hl ho; go_upto_region 12 with (first | (go_at_call 7; refine (parse_at (tList a0) _ _ _ PE3.out _ (HG.out.below HB8.out)).mono ?_; rintro e w3 ⟨A3, c3, B3, d3, rfl, hr2, hr3, hb⟩; have HB3 := Aside0.mk (below_alloc (below_step HB8.out hb) (.cells #[.int .u8 0, .string ⟨#[]⟩, .slice A3 0 c3, .slice B3 0 d3] 25 (0, 0))); have HM3 := Aside0.mk (blk_new w3 (.cells #[.int .u8 0, .string ⟨#[]⟩, .slice A3 0 c3, .slice B3 0 d3] 25 (0, 0))); have HV3 := Aside0.mk (Kd.R_V (base' := 0) (Kd.R_alloc hr2 (.cells #[.int .u8 0, .string ⟨#[]⟩, .slice A3 0 c3, .slice B3 0 d3] 25 (0, 0)))); have HW3 := Aside0.mk (Kd.R_V (base' := 0) (Kd.R_alloc hr3 (.cells #[.int .u8 0, .string ⟨#[]⟩, .slice A3 0 c3, .slice B3 0 d3] 25 (0, 0)))); clear hr2 hr3 hb))
   clear PE3; go_wp2_with (first | (go_at_call 7; refine (parse_at (tObj a0) _ _ _ PE4.out _ (HG.out.below HB3.out)).mono ?_; rintro e w4 ⟨A4, c4, B4, d4, rfl, hr2, hr3, hb⟩; have HB4 := Aside0.mk (below_alloc (below_step HB3.out hb) (.cells #[.int .u8 0, .string ⟨#[]⟩, .slice A4 0 c4, .slice B4 0 d4] 25 (0, 0))); have HM4 := Aside0.mk (blk_new w4 (.cells #[.int .u8 0, .string ⟨#[]⟩, .slice A4 0 c4, .slice B4 0 d4] 25 (0, 0))); have HV4 := Aside0.mk (Kd.R_V (base' := 0) (Kd.R_alloc hr2 (.cells #[.int .u8 0, .string ⟨#[]⟩, .slice A4 0 c4, .slice B4 0 d4] 25 (0, 0)))); have HW4 := Aside0.mk (Kd.R_V (base' := 0) (Kd.R_alloc hr3 (.cells #[.int .u8 0, .string ⟨#[]⟩, .slice A4 0 c4, .slice B4 0 d4] 25 (0, 0)))); clear hr2 hr3 hb))
   go_ret
   exact ⟨rfl, HB4.out⟩
 ·have PE1 := Aside0.mk (parsed_bad' (by omega) h1)
  have PE2 := Aside0.mk (parsed_bad' z1 h2)
  have t2 : (c == 0) = false := by simpa using h3
  have t3 : (c' == 0) = false := by simpa using h4
  have t4 : (c != 0) = true := by simpa using h3
  clear h1 h2 h3 h4 hs z1 z2 z3; go_enter Tryd.func5, Tryd.ntmps5
  go_upto_region 3 with (first | (go_at_call 10; refine (glossatorlaw03_awake.calls w HG.out).mono ?_; rintro e w0 ⟨rfl, hb⟩; have HB0 := Aside0.mk hb; clear hb))
  go_upto_region 6 with (first | (go_at_call 7; refine (parse_at (a0) _ _ _ PE1.out _ (HG.out.below HB0.out)).mono ?_; rintro e w1 ⟨A1, c1, B1, d1, rfl, hr2, hr3, hb⟩; have HB1 := Aside0.mk (below_alloc (below_step HB0.out hb) (.cells #[.int .u8 0, .string ⟨#[]⟩, .slice A1 0 c1, .slice B1 0 d1] 25 (0, 0))); have HM1 := Aside0.mk (blk_new w1 (.cells #[.int .u8 0, .string ⟨#[]⟩, .slice A1 0 c1, .slice B1 0 d1] 25 (0, 0))); have HV1 := Aside0.mk (Kd.R_V (base' := 0) (Kd.R_alloc hr2 (.cells #[.int .u8 0, .string ⟨#[]⟩, .slice A1 0 c1, .slice B1 0 d1] 25 (0, 0)))); have HW1 := Aside0.mk (Kd.R_V (base' := 0) (Kd.R_alloc hr3 (.cells #[.int .u8 0, .string ⟨#[]⟩, .slice A1 0 c1, .slice B1 0 d1] 25 (0, 0)))); clear hr2 hr3 hb))
  clear PE1; go_wp2_with (first | (go_at_call 7; refine (parse_at (tAround a0) _ _ _ PE2.out _ (HG.out.below HB1.out)).mono ?_; rintro e w2 ⟨A2, c2, B2, d2, rfl, hr2, hr3, hb⟩; have HB2 := Aside0.mk (below_alloc (below_step HB1.out hb) (.cells #[.int .u8 0, .string ⟨#[]⟩, .slice A2 0 c2, .slice B2 0 d2] 25 (0, 0))); have HM2 := Aside0.mk (blk_new w2 (.cells #[.int .u8 0, .string ⟨#[]⟩, .slice A2 0 c2, .slice B2 0 d2] 25 (0, 0))); have HV2 := Aside0.mk (Kd.R_V (base' := 0) (Kd.R_alloc hr2 (.cells #[.int .u8 0, .string ⟨#[]⟩, .slice A2 0 c2, .slice B2 0 d2] 25 (0, 0)))); have HW2 := Aside0.mk (Kd.R_V (base' := 0) (Kd.R_alloc hr3 (.cells #[.int .u8 0, .string ⟨#[]⟩, .slice A2 0 c2, .slice B2 0 d2] 25 (0, 0)))); clear hr2 hr3 hb))
  go_ret
  exact ⟨rfl, HB2.out⟩
/-- THE ONE PURE STATEMENT of glossatorlaw03_JsonAround. -/
def glossatorlaw03_JsonAround.Pure : Prop := ∀ (p0 : ByteArray), p0.size ≤ 140737488351232 → ∃ k, glossatorlaw03_JsonAround.f k p0 = some true
end Go.Proofs.YtienoadaflmkdaaDoor.Q

end
section
namespace Go.Proofs.YtienoadaflmkdaaDoor.Q
open Go.RowKit Go.Proofs.YtienoadaflmkdaaDoorW.PrintWords Go.Proofs.YtienoadaflmkdaaDoorW.PrintLast Go.Proofs.YtienoadaflmkdaaDoorW.PrintMore
attribute [local go_sem] max2_int min2_int max_two min_two max_three min_three max_four min_four   
set_option linter.unusedVariables false
set_option linter.unusedSimpArgs false
/-- The reference's state at block B: its text, its place, its error. -/
def RSt (B : Nat) (s : ByteArray) (i : Nat) (e : Int) (w : World) : Prop := w.heap[B]? = some (.cells #[.string s, .int .i64 i, .int .i64 e] 49 (0, 0))
theorem RSt.c0 {B : Nat} {s : ByteArray} {i : Nat} {e : Int} {w : World} (h : RSt B s i e w) : w.cell? ⟨B, 0, none⟩ = some (.string s) := (blk_cell h 0).trans rfl
theorem RSt.c1 {B : Nat} {s : ByteArray} {i : Nat} {e : Int} {w : World} (h : RSt B s i e w) : w.cell? ⟨B, 1, none⟩ = some (.int .i64 i) := (blk_cell h 1).trans rfl
theorem RSt.c2 {B : Nat} {s : ByteArray} {i : Nat} {e : Int} {w : World} (h : RSt B s i e w) : w.cell? ⟨B, 2, none⟩ = some (.int .i64 e) := (blk_cell h 2).trans rfl
theorem RSt.fr1 {B : Nat} {s : ByteArray} {i : Nat} {e : Int} {w : World} (h : RSt B s i e w) : w.frozen? ⟨B, 1, none⟩ = false := blk_frozen h 1
theorem RSt.fr2 {B : Nat} {s : ByteArray} {i : Nat} {e : Int} {w : World} (h : RSt B s i e w) : w.frozen? ⟨B, 2, none⟩ = false := blk_frozen h 2
theorem RSt.set1 {B : Nat} {s : ByteArray} {i : Nat} {e : Int} {w : World} (h : RSt B s i e w) : RSt B s (i + 1) e (w.setCell ⟨B, 1, none⟩ (.int .i64 ((i : Int) + 1))) := blk_put h 1 _ rfl
theorem RSt.setE {B : Nat} {s : ByteArray} {i : Nat} {e : Int} {w : World} (h : RSt B s i e w) (f : Int) : RSt B s i f (w.setCell ⟨B, 2, none⟩ (.int .i64 f)) := blk_put h 2 _ rfl
theorem RSt.drewN {B : Nat} {s : ByteArray} {i : Nat} {e : Int} {w : World} (h : RSt B s i e w) (n : Nat) : RSt B s i e (w.drewN n) := h
theorem RSt.below {B : Nat} {s : ByteArray} {i : Nat} {e : Int} {w w' : World} (h : RSt B s i e w) (hb : Below w.heap.size w w') : RSt B s i e w' := blk_below h hb
theorem RSt.alloc {B : Nat} {s : ByteArray} {i : Nat} {e : Int} {w : World} (h : RSt B s i e w) (o : Obj) : RSt B s i e (w.alloc o) := blk_alloc h o
theorem RSt.lt {B : Nat} {s : ByteArray} {i : Nat} {e : Int} {w : World} (h : RSt B s i e w) : B < w.heap.size := blk_lt h
/-- What a reading of the reference's comes to: a value, or a place and an error in the state. -/
def RO {α : Type} (B : Nat) (s : ByteArray) (V : α → Value → World → Prop) (VA : Value → World → Prop) (w : World) (r : Res α) (e : Ending) (w' : World) : Prop :=
 match r with
 | .ok a i => ∃ x, e = .returned x ∧ V a x w' ∧ i ≤ s.size ∧ RSt B s i 0 w' ∧ Kp B w w'
 | .bad i c => ∃ x, e = .returned x ∧ VA x w' ∧ c ≠ 0 ∧ RSt B s i c w' ∧ Kp B w w'
theorem RO.ok_ {α : Type} {B : Nat} {s : ByteArray} {V : α → Value → World → Prop} {VA : Value → World → Prop} {w w' : World} {a : α} {i : Nat} {e : Ending} (h : RO B s V VA w (.ok a i) e w') : ∃ x, e = .returned x ∧ V a x w' ∧ i ≤ s.size ∧ RSt B s i 0 w' ∧ Kp B w w' := h
theorem RO.bad_ {α : Type} {B : Nat} {s : ByteArray} {V : α → Value → World → Prop} {VA : Value → World → Prop} {w w' : World} {i : Nat} {c : Int} {e : Ending} (h : RO B s V VA w (.bad i c : Res α) e w') : ∃ x, e = .returned x ∧ VA x w' ∧ c ≠ 0 ∧ RSt B s i c w' ∧ Kp B w w' := h
def VA0 (x : Value) (_ : World) : Prop := x = .tuple #[]
def isB (s : ByteArray) (i : Nat) (e : Int) (c : Int) : Bool := decide (e = 0 ∧ (hnd s i : Int) = c)
theorem isB_bad {s : ByteArray} {i : Nat} {e : Int} (c : Int) (h : e ≠ 0) : isB s i e c = false := decide_eq_false (fun k => h k.1)
theorem isB_yes {s : ByteArray} {i : Nat} {c : Int} (h : (hnd s i : Int) = c) : isB s i 0 c = true := decide_eq_true ⟨rfl, h⟩
theorem isB_no {s : ByteArray} {i : Nat} {c : Int} (h : ¬ (hnd s i : Int) = c) : isB s i 0 c = false := decide_eq_false (fun k => h k.2)
set_option maxRecDepth 100000 in
theorem glossatorref03_state_is.calls (B : Nat) (s : ByteArray) (i : Nat) (er : Int) (c : Int) (hc0 : c ≠ 0) (w : World) (hR : RSt B s i er w) (hs : s.size ≤ 140737488351232) : Calls Tryd.prog 26 #[.pointer (some ⟨B, 0, none⟩), .int .u8 c] w fun e w' => e = .returned (.bool (isB s i er c)) ∧ ∃ n, w' = w.drewN n := by
 have c0 := hR.c0
 have c1 := hR.c1
 have c2 := hR.c2
 clear hR; by_cases he : er = 0
 ·subst he; by_cases hi : i < s.size
  ·have t : decide ((i : Int) < (s.size : Int)) = true := decide_eq_true (by omega)
   have hE : hnd s i = s[i].toNat := by simp [hnd, hi]
   by_cases h : (hnd s i : Int) = c
   ·have HQ := Aside0.mk (isB_yes h)
    have t2 : ((s[i].toNat : Int) == c) = true := by rw [← hE, h]; simp
    clear hE h; go_enter Tryd.func26, Tryd.ntmps26
    go_wp2
    go_quiet (fail)
    go_wp2
    go_ret
    exact ⟨by rw [HQ.out]; rfl, _, rfl⟩
   ·have HQ := Aside0.mk (isB_no h)
    have t2 : ((s[i].toNat : Int) == c) = false := by rw [← hE]; exact neI _ _ h
    clear hE h; go_enter Tryd.func26, Tryd.ntmps26
    go_wp2
    go_quiet (fail)
    go_wp2
    go_ret
    exact ⟨by rw [HQ.out]; rfl, _, rfl⟩
  ·have t : decide ((i : Int) < (s.size : Int)) = false := decide_eq_false (by omega)
   have HQ := Aside0.mk (isB_no (s := s) (i := i) (c := c) (by simp [hnd, hi]; omega))
   go_enter Tryd.func26, Tryd.ntmps26
   go_wp2
   go_quiet (fail)
   go_wp2
   go_ret
   exact ⟨by rw [HQ.out]; rfl, _, rfl⟩
 ·have HQ := Aside0.mk (isB_bad (s := s) (i := i) c he)
  have t : (er == 0) = false := by simpa using he
  clear he; go_enter Tryd.func26, Tryd.ntmps26
  go_wp2
  go_quiet (fail)
  go_wp2
  go_ret
  exact ⟨by rw [HQ.out]; rfl, _, rfl⟩
theorem glossatorref03_state_take.calls (B : Nat) (s : ByteArray) (i : Nat) (c : Nat) (hc0 : c ≠ 0) (w : World) (hR : RSt B s i 0 w) (hs : s.size ≤ 140737488351232) (hi : i ≤ s.size) : Calls Tryd.prog 39 #[.pointer (some ⟨B, 0, none⟩), .int .u8 c] w (RO B s VU VA0 w (wd s [c] i)) := by
 have c1 := hR.c1
 have c2 := hR.c2
 have f1 := hR.fr1
 have f2 := hR.fr2
 have HR := Aside0.mk hR; have HI := Aside0.mk (glossatorref03_state_is.calls B s i 0 c (by omega) w hR hs)
 clear hR; by_cases h : hnd s i = c
 ·have q := isB_yes (s := s) (i := i) (c := (c : Int)) (by omega)
  have HW := Aside0.mk (show wd s [c] i = .ok () (i + 1) by rw [wd_cons, if_pos h]; rfl)
  have hl := hnd_pos h hc0
  clear h; go_enter Tryd.func39, Tryd.ntmps39
  go_wp2_with (go_at_call 26; refine HI.out.mono ?_; rintro e w' ⟨rfl, n1, rfl⟩)
  go_end0
  rw [HW.out]
  exact ⟨_, rfl, rfl, hl, RSt.set1 (i := i) (HR.out.drewN _), ((Kp.refl _ _).drewN _).set _ _⟩
 ·have q := isB_no (s := s) (i := i) (c := (c : Int)) (by omega)
  have HW := Aside0.mk (show wd s [c] i = .bad i 30 by rw [wd_cons, if_neg h])
  clear h; go_enter Tryd.func39, Tryd.ntmps39
  go_wp2_with (go_at_call 26; refine HI.out.mono ?_; rintro e w' ⟨rfl, n1, rfl⟩)
  go_end0
  rw [HW.out]
  exact ⟨_, rfl, rfl, by decide, (HR.out.drewN _).setE 30, ((Kp.refl _ _).drewN _).set _ _⟩
theorem glossatorref03_state_take.off (B : Nat) (s : ByteArray) (i : Nat) (er : Int) (he : er ≠ 0) (c : Nat) (w : World) (hR : RSt B s i er w) : Calls Tryd.prog 39 #[.pointer (some ⟨B, 0, none⟩), .int .u8 c] w fun e w' => e = .returned (.tuple #[]) ∧ w' = w := by
 have c2 := hR.c2
 have t : (er != 0) = true := by simpa using he
 clear hR he; go_enter Tryd.func39, Tryd.ntmps39
 go_wp2
 (try simp only [Exit.inBlock, Exit.then])
 refine bodyPost_ret (results_none rfl _ _ _) rfl ?_
 exact ⟨rfl, rfl⟩
theorem wd_split {s : ByteArray} {c : Nat} {r : List Nat} {i : Nat} : wd s (c :: r) i = (wd s [c] i).bind fun _ j => wd s r j := by
 rw [wd_cons, wd_cons]
 split <;> rfl
set_option maxRecDepth 100000 in
theorem glossatorref03_state_all.calls (B : Nat) (s : ByteArray) (i : Nat) (l : List UInt8) (w : World) (hR : RSt B s i 0 w) (hs : s.size ≤ 140737488351232) (hi : i ≤ s.size) (hl : l.length ≤ 1000) (h0 : ∀ c ∈ l, c.toNat ≠ 0) :
  Calls Tryd.prog 27 #[.pointer (some ⟨B, 0, none⟩), .string ⟨l.toArray⟩] w (RO B s VU VA0 w (wd s (l.map UInt8.toNat) i)) := by
 have hsz : (⟨l.toArray⟩ : ByteArray).size = l.length := by simp [ByteArray.size]
 have HR := Aside0.mk hR; have HZ := Aside0.mk hsz; have H0 := Aside0.mk h0; obtain ⟨R, hRes⟩ : ∃ R, R = wd s (l.map UInt8.toNat) i := ⟨_, rfl⟩
 rw [← hRes]
 have HRes := Aside0.mk hRes; clear hR hsz hRes h0; go_enter Tryd.func27, Tryd.ntmps27
 go_wp2
 go_loopw [4] (fun t4 w' => ∃ (j q : Nat) (er : Int), j ≤ l.length ∧ t4 = .int .i64 j ∧ Aside0 ((er = 0 ∧ q ≤ s.size ∧ wd s ((l.map UInt8.toNat).drop j) q = R) ∨ (er ≠ 0 ∧ R = .bad q er)) ∧ Aside0 (RSt B s q er w') ∧ Aside0 (Kp B w w')) (fun t4 _ => l.length - (intOf t4).toNat)
 case atStart => exact ⟨0, i, 0, Nat.zero_le _, rfl, ⟨.inl ⟨rfl, hi, HRes.out.symm⟩⟩, HR, ⟨Kp.refl _ _⟩⟩
 case round =>
  obtain ⟨j, q, er, hj, rfl, HW, HR', HK⟩ := hrel
  by_cases hlt : j < l.length
  ·have t : decide ((j : Int) < ((⟨l.toArray⟩ : ByteArray).size : Int)) = true := decide_eq_true (by rw [HZ.out]; omega)
   have hsz2 : j < (⟨l.toArray⟩ : ByteArray).size := by rw [HZ.out]; exact hlt
   have hcl : ((⟨l.toArray⟩ : ByteArray)[j]'hsz2).toNat = l[j].toNat := rfl
   have hc0 : l[j].toNat ≠ 0 := H0.out _ (List.getElem_mem _)
   have HC := Aside0.mk hcl; have HD := Aside0.mk (show (l.map UInt8.toNat).drop j = l[j].toNat :: (l.map UInt8.toNat).drop (j + 1) by
    rw [List.drop_eq_getElem_cons (by simpa using hlt)]; simp)
   clear hcl; rcases HW.out with ⟨rfl, hq, hW⟩ | ⟨he, hW⟩
   ·rw [HD.out, wd_split] at hW
    have HT := Aside0.mk (glossatorref03_state_take.calls B s q l[j].toNat hc0 wr HR'.out hs hq)
    cases hx : wd s [l[j].toNat] q with
    | ok u m =>
     rw [hx] at hW
     have HX := Aside0.mk hx; have HW2 := Aside0.mk (show wd s ((l.map UInt8.toNat).drop (j + 1)) m = R from hW)
     clear hW hx hc0; go_wp2_with (go_at_call 39; refine HT.out.mono ?_; intro e w' ho; rw [HX.out] at ho; obtain ⟨x, rfl, rfl, hm, hr, hk⟩ := ho.ok_; have n1_ := Aside0.mk hr; have n2_ := Aside0.mk (HK.out.trans hk); clear ho hr hk)
     go_roundw
     case rel => exact ⟨j + 1, m, 0, hlt, by go_num, ⟨.inl ⟨rfl, hm, HW2.out⟩⟩, n1_, n2_⟩
     case measure => simp [intOf]; omega
    | bad m c =>
     rw [hx] at hW
     have HX := Aside0.mk hx; have HW2 := Aside0.mk (show Res.bad m c = R from hW)
     clear hW hx hc0; go_wp2_with (go_at_call 39; refine HT.out.mono ?_; intro e w' ho; rw [HX.out] at ho; obtain ⟨x, rfl, rfl, hm, hr, hk⟩ := ho.bad_; have n0_ := Aside0.mk hm; have n1_ := Aside0.mk hr; have n2_ := Aside0.mk (HK.out.trans hk); clear ho hr hk hm)
     go_roundw
     case rel => exact ⟨j + 1, m, c, hlt, by go_num, ⟨.inr ⟨n0_.out, HW2.out.symm⟩⟩, n1_, n2_⟩
     case measure => simp [intOf]; omega
   ·have HT := Aside0.mk (glossatorref03_state_take.off B s q er he l[j].toNat wr HR'.out)
    have HE := Aside0.mk he; have HW2 := Aside0.mk hW; clear he hW hc0; go_wp2_with (go_at_call 39; refine HT.out.mono ?_; rintro e w' ⟨rfl, rfl⟩)
    go_roundw
    case rel => exact ⟨j + 1, q, er, hlt, by go_num, ⟨.inr ⟨HE.out, HW2.out⟩⟩, HR', HK⟩
    case measure => simp [intOf]; omega
  ·have t : decide ((j : Int) < ((⟨l.toArray⟩ : ByteArray).size : Int)) = false := decide_eq_false (by rw [HZ.out]; omega)
   obtain rfl : j = l.length := by omega
   rcases HW.out with ⟨rfl, hq, hW⟩ | ⟨he, hW⟩
   ·rw [List.drop_eq_nil_of_le (by simp)] at hW
    have HW2 := Aside0.mk hW; have HQ := Aside0.mk hq; clear hW hq; go_wp2
    go_end0
    rw [← HW2.out]
    exact ⟨_, rfl, rfl, HQ.out, HR'.out, HK.out⟩
   ·have HE := Aside0.mk he; have HW2 := Aside0.mk hW; clear he hW; go_wp2
    go_end0
    rw [HW2.out]
    exact ⟨_, rfl, rfl, HE.out, HR'.out, HK.out⟩
theorem isBl_iff (b : Nat) : isBl b = true ↔ b = 32 ∨ b = 9 ∨ b = 10 ∨ b = 13 := by
 unfold isBl
 simp [or_assoc]
set_option maxRecDepth 100000 in
theorem glossatorref03_state_blanks.off (B : Nat) (s : ByteArray) (i : Nat) (er : Int) (he : er ≠ 0) (w : World) (hR : RSt B s i er w) (hs : s.size ≤ 140737488351232) : Calls Tryd.prog 16 #[.pointer (some ⟨B, 0, none⟩)] w fun e w' => e = .returned (.tuple #[]) ∧ ∃ n, w' = w.drewN n := by
 have HI := Aside0.mk (fun (c : Int) (hc : c ≠ 0) (w' : World) (h : RSt B s i er w') => glossatorref03_state_is.calls B s i er c hc w' h hs)
 have HR := Aside0.mk hR; have q1 := isB_bad (s := s) (i := i) 32 he
 have q2 := isB_bad (s := s) (i := i) 9 he
 have q3 := isB_bad (s := s) (i := i) 10 he
 have q4 := isB_bad (s := s) (i := i) 13 he
 clear hR he; go_enter Tryd.func16, Tryd.ntmps16
 go_wp2
 go_loopg [] 1 (fun _ w' => w' = w)
 case atStart => rfl
 case round =>
  subst hrel; go_wp2_with (go_at_call 26; refine (HI.out _ (by decide) _ (by exact HR.out)).mono ?_; rintro e w' ⟨rfl, n1, rfl⟩)
  go_end0
  exact ⟨rfl, _, rfl⟩
set_option maxRecDepth 100000 in
set_option maxHeartbeats 1000000 in
theorem glossatorref03_state_blanks.calls (B : Nat) (s : ByteArray) (i : Nat) (w : World) (hR : RSt B s i 0 w) (hs : s.size ≤ 140737488351232) (hi : i ≤ s.size) : Calls Tryd.prog 16 #[.pointer (some ⟨B, 0, none⟩)] w fun e w' => e = .returned (.tuple #[]) ∧ RSt B s (skip isBl s i) 0 w' ∧ Kp B w w' := by
 have HR := Aside0.mk hR; clear hR; go_enter Tryd.func16, Tryd.ntmps16
 go_wp2
 go_loopg [] (s.size - i) (fun kq w' => ∃ j : Nat, j ≤ s.size ∧ kq = s.size - j ∧ Aside0 (skip isBl s j = skip isBl s i) ∧ Aside0 (RSt B s j 0 w') ∧ Aside0 (Kp B w w'))
 case atStart => exact ⟨i, hi, rfl, ⟨rfl⟩, HR, ⟨Kp.refl _ _⟩⟩
 case round =>
  obtain ⟨j, hj, rfl, hsk, HR', HK⟩ := hrel
  have c1 := HR'.out.c1
  have f1 := HR'.out.fr1
  have HI := Aside0.mk (fun (c : Int) (hc : c ≠ 0) (w' : World) (h : RSt B s j 0 w') => glossatorref03_state_is.calls B s j 0 c hc w' h hs)
  by_cases hb : isBl (hnd s j) = true
  ·have hq := (isBl_iff _).1 hb
   have hlt : j < s.size := hnd_pos (c := hnd s j) rfl (by omega)
   have HN := Aside0.mk (skip_yes (p := isBl) hlt hb)
   clear hb; rcases hq with h | h | h | h <;> (
    have q1 : isB s j 0 32 = decide (hnd s j = 32) := by unfold isB; rw [h]; decide
    have q2 : isB s j 0 9 = decide (hnd s j = 9) := by unfold isB; rw [h]; decide
    have q3 : isB s j 0 10 = decide (hnd s j = 10) := by unfold isB; rw [h]; decide
    have q4 : isB s j 0 13 = decide (hnd s j = 13) := by unfold isB; rw [h]; decide
    rw [h] at q1 q2 q3 q4
    clear h; simp only [Nat.reduceEqDiff, decide_true, decide_false] at q1 q2 q3 q4
    go_wp2_with (go_at_call 26; refine (HI.out _ (by decide) _ (by exact HR'.out)).mono ?_; rintro e w' ⟨rfl, n1, rfl⟩)
    go_roundg (s.size - (j + 1))
    case measure => omega
    case rel => exact ⟨j + 1, hlt, rfl, ⟨by rw [← hsk.out, HN.out]⟩, ⟨RSt.set1 (i := j) HR'.out⟩, ⟨(HK.out.drewN _).set _ _⟩⟩)
  ·have HN := Aside0.mk (skip_no (p := isBl) (s := s) (i := j) (fun h => hb h.2))
   have hq := fun h => hb ((isBl_iff _).2 h)
   have q1 : isB s j 0 32 = false := isB_no (fun h => hq (.inl (by omega)))
   have q2 : isB s j 0 9 = false := isB_no (fun h => hq (.inr (.inl (by omega))))
   have q3 : isB s j 0 10 = false := isB_no (fun h => hq (.inr (.inr (.inl (by omega)))))
   have q4 : isB s j 0 13 = false := isB_no (fun h => hq (.inr (.inr (.inr (by omega)))))
   clear hb hq; go_wp2_with (go_at_call 26; refine (HI.out _ (by decide) _ (by exact HR'.out)).mono ?_; rintro e w' ⟨rfl, n1, rfl⟩)
   go_end0
   exact ⟨rfl, by rw [← hsk.out, HN.out]; exact HR'.out, HK.out.drewN _⟩
set_option maxRecDepth 100000 in
set_option maxHeartbeats 1000000 in
theorem glossatorref03_state_digits.calls (B : Nat) (s : ByteArray) (i : Nat) (w : World) (hR : RSt B s i 0 w) (hs : s.size ≤ 140737488351232) (hi : i ≤ s.size) : Calls Tryd.prog 43 #[.pointer (some ⟨B, 0, none⟩)] w (RO B s VU VA0 w (digits s i)) := by
 have HR := Aside0.mk hR; clear hR; obtain ⟨R, hRes⟩ : ∃ R, R = digits s i := ⟨_, rfl⟩
 rw [← hRes]
 have HRes := Aside0.mk hRes; clear hRes; go_enter Tryd.func43, Tryd.ntmps43
 go_wp2
 go_loopw [2] (fun t2 w' => ∃ j : Nat, i ≤ j ∧ j ≤ s.size ∧ t2 = .int .i64 ((j : Int) - i) ∧ Aside0 (skip isDig s j = skip isDig s i) ∧ Aside0 (RSt B s j 0 w') ∧ Aside0 (Kp B w w')) (fun t2 _ => s.size - (intOf t2).toNat)
 case atStart => exact ⟨i, Nat.le_refl _, hi, by go_num, ⟨rfl⟩, HR, ⟨Kp.refl _ _⟩⟩
 case round =>
  obtain ⟨j, hij, hj, rfl, hsk, HR', HK⟩ := hrel
  have c0 := HR'.out.c0
  have c1 := HR'.out.c1
  have c2 := HR'.out.c2
  have f1 := HR'.out.fr1
  have f2 := HR'.out.fr2
  have fin : isDig (hnd s j) = false → ∀ n, (j = i → RO B s VU VA0 w R (.returned (.tuple #[])) ((wr.drewN n).setCell ⟨B, 2, none⟩ (.int .i64 30))) ∧ (j ≠ i → RO B s VU VA0 w R (.returned (.tuple #[])) (wr.drewN n)) := by
   intro hd n
   have hx := skip_no (p := isDig) (s := s) (i := j) (fun h => by rw [hd] at h; exact absurd h.2 (by decide))
   refine ⟨fun h => ?_, fun h => ?_⟩
   ·subst h; rw [HRes.out]
    unfold digits
    rw [hd, if_neg (by decide)]
    exact ⟨_, rfl, rfl, by decide, HR'.out.setE 30, (HK.out.drewN _).set _ _⟩
   ·have hi2 : isDig (hnd s i) = true := by
     cases c : isDig (hnd s i) with
     | true => rfl
     | false =>
      have := skip_no (p := isDig) (s := s) (i := i) (fun h => by rw [c] at h; exact absurd h.2 (by decide))
      have h2 := hsk.out
      rw [hx, this] at h2
      exact absurd h2 h
    rw [HRes.out]
    unfold digits
    rw [if_pos hi2, ← hsk.out, hx]
    exact ⟨_, rfl, rfl, hj, HR'.out, HK.out.drewN _⟩
  by_cases hlt : j < s.size
  ·have t : decide ((j : Int) < (s.size : Int)) = true := decide_eq_true (by omega)
   have hE : hnd s j = s[j].toNat := by simp [hnd, hlt]
   have hD := isDig_b (hnd s j)
   by_cases h1 : 48 ≤ hnd s j
   ·have t1 : decide ((48 : Int) ≤ (s[j].toNat : Int)) = true := by rw [← hE]; exact decide_eq_true (by omega)
    by_cases h2 : hnd s j ≤ 57
    ·have t2 : decide ((s[j].toNat : Int) ≤ 57) = true := by rw [← hE]; exact decide_eq_true (by omega)
     have HN := Aside0.mk (skip_yes (p := isDig) hlt (by rw [hD, hE, t1, t2]; rfl))
     clear hE hD h1 h2 fin; go_wp2
     go_quiet (fail)
     go_wp2
     go_roundw
     case rel => exact ⟨j + 1, by omega, hlt, by go_num, ⟨by rw [← hsk.out, HN.out]⟩, ⟨RSt.set1 (i := j) HR'.out⟩, ⟨(HK.out.drewN _).set _ _⟩⟩
     case measure => simp [intOf]; omega
    ·have t2 : decide ((s[j].toNat : Int) ≤ 57) = false := by rw [← hE]; exact decide_eq_false (by omega)
     have HF := Aside0.mk (fin (by rw [hD, hE, t1, t2]; rfl))
     clear hE hD h1 h2 fin; by_cases hji : j = i
     ·have e1 : ((j : Int) - i == 0) = true := by simp; omega
      have HF2 := Aside0.mk (fun n => (HF.out n).1 hji)
      clear HF hji; go_wp2
      go_quiet (fail)
      go_wp2
      go_end0
      exact HF2.out _
     ·have e1 : ((j : Int) - i == 0) = false := by simp; omega
      have HF2 := Aside0.mk (fun n => (HF.out n).2 hji)
      clear HF hji; go_wp2
      go_quiet (fail)
      go_wp2
      go_end0
      exact HF2.out _
   ·have t1 : decide ((48 : Int) ≤ (s[j].toNat : Int)) = false := by rw [← hE]; exact decide_eq_false (by omega)
    have HF := Aside0.mk (fin (by rw [hD, hE, t1]; rfl))
    clear hE hD h1 fin; by_cases hji : j = i
    ·have e1 : ((j : Int) - i == 0) = true := by simp; omega
     have HF2 := Aside0.mk (fun n => (HF.out n).1 hji)
     clear HF hji; go_wp2
     go_quiet (fail)
     go_wp2
     go_end0
     exact HF2.out _
    ·have e1 : ((j : Int) - i == 0) = false := by simp; omega
     have HF2 := Aside0.mk (fun n => (HF.out n).2 hji)
     clear HF hji; go_wp2
     go_quiet (fail)
     go_wp2
     go_end0
     exact HF2.out _
  ·have t : decide ((j : Int) < (s.size : Int)) = false := decide_eq_false (by omega)
   have HF := Aside0.mk (fin (by unfold hnd; rw [dif_neg hlt]; rfl))
   clear fin; by_cases hji : j = i
   ·have e1 : ((j : Int) - i == 0) = true := by simp; omega
    have HF2 := Aside0.mk (fun n => (HF.out n).1 hji)
    clear HF hji; go_wp2
    go_quiet (fail)
    go_wp2
    go_end0
    exact HF2.out _
   ·have e1 : ((j : Int) - i == 0) = false := by simp; omega
    have HF2 := Aside0.mk (fun n => (HF.out n).2 hji)
    clear HF hji; go_wp2
    go_quiet (fail)
    go_wp2
    go_end0
    exact HF2.out _
set_option maxRecDepth 100000 in
set_option maxHeartbeats 2000000 in
theorem glossatorref03_state_number.calls (B : Nat) (s : ByteArray) (i : Nat) (w : World) (hR : RSt B s i 0 w) (hs : s.size ≤ 140737488351232) (hi : i ≤ s.size) :
  Calls Tryd.prog 31 #[.pointer (some ⟨B, 0, none⟩)] w (RO B s VU VA0 w (number s i)) := by
 have HI := Aside0.mk (fun (c : Int) (hc : c ≠ 0) (j : Nat) (er : Int) (w' : World) (h : RSt B s j er w') => glossatorref03_state_is.calls B s j er c hc w' h hs)
 have HG := Aside0.mk (fun (j : Nat) (w' : World) (h : RSt B s j 0 w') (hj : j ≤ s.size) => glossatorref03_state_digits.calls B s j w' h hs hj)
 have HR := Aside0.mk hR; obtain ⟨j0, hj0⟩ : ∃ j0, j0 = if hnd s i = 45 then i + 1 else i := ⟨_, rfl⟩
 obtain ⟨R, hRes⟩ : ∃ R, R = number s i := ⟨_, rfl⟩
 rw [← hRes]
 have H0 := Aside0.mk (show nI s j0 = R by rw [hRes, hj0]; rfl)
 clear hR hRes; go_enter Tryd.func31, Tryd.ntmps31
 go_upto_if 3 with (go_at_call 26; refine (HI.out _ (by decide) _ _ _ (by exact HR.out)).mono ?_; rintro e w' ⟨rfl, n1, rfl⟩)
 go_cut [] (fun wc => j0 ≤ s.size ∧ Aside0 (RSt B s j0 0 wc) ∧ Aside0 (Kp B w wc))
 case first =>
  have c1 := HR.out.c1
  have fr := HR.out.fr1
  by_cases h : hnd s i = 45
  ·have t := isB_yes (s := s) (i := i) (c := 45) (by omega)
   have hlt := hnd_pos h (by omega)
   have H := Aside0.mk hj0; clear hj0; have H2 := Aside0.mk h; clear h; rw [t]
   go_wp2
   go_meet
   rw [H.out, if_pos H2.out]
   exact ⟨hlt, ⟨RSt.set1 (i := i) (HR.out.drewN _)⟩, ⟨((Kp.refl _ _).drewN _).set _ _⟩⟩
  ·have t := isB_no (s := s) (i := i) (c := 45) (by omega)
   have H := Aside0.mk hj0; clear hj0; have H2 := Aside0.mk h; clear h; rw [t]
   go_wp2
   go_meet
   rw [H.out, if_neg H2.out]
   exact ⟨hi, ⟨HR.out.drewN _⟩, ⟨(Kp.refl _ _).drewN _⟩⟩
 case rest =>
  obtain ⟨hj, HR1, HK1⟩ := hcut
  clear hj0; go_upto_if 12 with (go_at_call 26; refine (HI.out _ (by decide) _ _ _ (by exact HR1.out)).mono ?_; rintro e w' ⟨rfl, n1, rfl⟩)
  have c1 := HR1.out.c1
  have fr := HR1.out.fr1
  by_cases h48 : ¬ hnd s j0 = 48 ∧ ∃ jb c, digits s j0 = .bad jb c
  ·obtain ⟨h, jb, c, hd⟩ := h48
   have t := isB_no (s := s) (i := j0) (c := 48) (by omega)
   have H1 := Aside0.mk (show Res.bad jb c = R by rw [← H0.out]; unfold nI; rw [if_neg h, hd]; rfl)
   have HD := Aside0.mk hd; clear h hd; rw [t]
   go_wp2_with (first | (go_at_call 43; refine (HG.out _ _ (by exact HR1.out) hj).mono ?_; intro e w' ho; rw [HD.out] at ho; obtain ⟨x, rfl, rfl, hc0, hr, hk⟩ := ho.bad_; have n0_ := Aside0.mk hc0; have n1_ := Aside0.mk hr; have n2_ := Aside0.mk ((HK1.out.drewN _).trans hk); have q46 := isB_bad (s := s) (i := jb) 46 hc0; have q101 := isB_bad (s := s) (i := jb) 101 hc0; have q69 := isB_bad (s := s) (i := jb) 69 hc0; clear ho hr hk hc0) | (go_at_call 26; refine (HI.out _ (by decide) _ _ _ (by exact n1_.out)).mono ?_; rintro e w' ⟨rfl, n1, rfl⟩))
   go_end0
   rw [← H1.out]
   exact ⟨_, rfl, rfl, n0_.out, n1_.out, n2_.out.drewN _⟩
  go_cut [] (fun wd => ∃ j1 : Nat, j1 ≤ s.size ∧ Aside0 (nD s j1 = R) ∧ Aside0 (RSt B s j1 0 wd) ∧ Aside0 (Kp B w wd))
  case first =>
   by_cases h : hnd s j0 = 48
   ·have t := isB_yes (s := s) (i := j0) (c := 48) (by omega)
    have hlt := hnd_pos h (by omega)
    have H1 := Aside0.mk (show nD s (j0 + 1) = R by rw [← H0.out]; unfold nI; rw [if_pos h]; rfl)
    clear h h48; rw [t]
    go_wp2
    go_meet
    exact ⟨j0 + 1, hlt, H1, ⟨RSt.set1 (i := j0) (HR1.out.drewN _)⟩, ⟨(HK1.out.drewN _).set _ _⟩⟩
   ·have t := isB_no (s := s) (i := j0) (c := 48) (by omega)
    cases hd : digits s j0 with
    | bad jb c => exact absurd ⟨h, jb, c, hd⟩ h48
    | ok u j1 =>
     have H1 := Aside0.mk (show nD s j1 = R by rw [← H0.out]; unfold nI; rw [if_neg h, hd]; rfl)
     have HD := Aside0.mk hd; clear h hd h48; rw [t]
     go_wp2_with (go_at_call 43; refine (HG.out _ _ (by exact HR1.out) hj).mono ?_; intro e w' ho; rw [HD.out] at ho; obtain ⟨x, rfl, rfl, hj1, hr, hk⟩ := ho.ok_; have n1_ := Aside0.mk hr; have n2_ := Aside0.mk ((HK1.out.drewN _).trans hk); clear ho hr hk)
     go_meet
     exact ⟨j1, hj1, H1, n1_, n2_⟩
  case rest =>
   clear c1 fr h48 hj H0 HR1 HK1; obtain ⟨j1, hj1, H1, HR2, HK2⟩ := hcut
   go_upto_if 23 with (go_at_call 26; refine (HI.out _ (by decide) _ _ _ (by exact HR2.out)).mono ?_; rintro e w' ⟨rfl, n1, rfl⟩)
   have c1 := HR2.out.c1
   have fr := HR2.out.fr1
   by_cases h46 : hnd s j1 = 46 ∧ ∃ jb c, digits s (j1 + 1) = .bad jb c
   ·obtain ⟨h, jb, c, hd⟩ := h46
    have t := isB_yes (s := s) (i := j1) (c := 46) (by omega)
    have hlt := hnd_pos h (by omega)
    have H2 := Aside0.mk (show Res.bad jb c = R by rw [← H1.out]; unfold nD; rw [if_pos h, hd]; rfl)
    have HD := Aside0.mk hd; clear h hd; rw [t]
    go_wp2_with (first | (go_at_call 43; refine (HG.out _ _ (by exact RSt.set1 (i := j1) (HR2.out.drewN _)) hlt).mono ?_; intro e w' ho; rw [HD.out] at ho; obtain ⟨x, rfl, rfl, hc0, hr, hk⟩ := ho.bad_; have n0_ := Aside0.mk hc0; have n1_ := Aside0.mk hr; have n2_ := Aside0.mk (((HK2.out.drewN _).set _ _).trans hk); have q46 := isB_bad (s := s) (i := jb) 46 hc0; have q101 := isB_bad (s := s) (i := jb) 101 hc0; have q69 := isB_bad (s := s) (i := jb) 69 hc0; clear ho hr hk hc0) | (go_at_call 26; refine (HI.out _ (by decide) _ _ _ (by exact n1_.out)).mono ?_; rintro e w' ⟨rfl, n1, rfl⟩))
    go_end0
    rw [← H2.out]
    exact ⟨_, rfl, rfl, n0_.out, n1_.out, n2_.out.drewN _⟩
   go_cut [] (fun wd => ∃ j2 : Nat, j2 ≤ s.size ∧ Aside0 (nE s j2 = R) ∧ Aside0 (RSt B s j2 0 wd) ∧ Aside0 (Kp B w wd))
   case first =>
    by_cases h : hnd s j1 = 46
    ·have t := isB_yes (s := s) (i := j1) (c := 46) (by omega)
     have hlt := hnd_pos h (by omega)
     cases hd : digits s (j1 + 1) with
     | bad jb c => exact absurd ⟨h, jb, c, hd⟩ h46
     | ok u j2 =>
      have H2 := Aside0.mk (show nE s j2 = R by rw [← H1.out]; unfold nD; rw [if_pos h, hd]; rfl)
      have HD := Aside0.mk hd; clear h hd h46; rw [t]
      go_wp2_with (go_at_call 43; refine (HG.out _ _ (by exact RSt.set1 (i := j1) (HR2.out.drewN _)) hlt).mono ?_; intro e w' ho; rw [HD.out] at ho; obtain ⟨x, rfl, rfl, hj1, hr, hk⟩ := ho.ok_; have n1_ := Aside0.mk hr; have n2_ := Aside0.mk (((HK2.out.drewN _).set _ _).trans hk); clear ho hr hk)
      go_meet
      exact ⟨j2, by assumption, H2, n1_, n2_⟩
    ·have t := isB_no (s := s) (i := j1) (c := 46) (by omega)
     have H2 := Aside0.mk (show nE s j1 = R by rw [← H1.out]; unfold nD; rw [if_neg h]; rfl)
     clear h h46; rw [t]
     go_wp2
     go_meet
     exact ⟨j1, hj1, H2, ⟨HR2.out.drewN _⟩, ⟨HK2.out.drewN _⟩⟩
   case rest =>
    clear c1 fr h46 hj1 H1 HR2 HK2; obtain ⟨j2, hj2, H2, HR3, HK3⟩ := hcut
    have c1 := HR3.out.c1
    have fr := HR3.out.fr1
    by_cases hE : hnd s j2 = 101 ∨ hnd s j2 = 69
    ·have hlt : j2 < s.size := hnd_pos (c := hnd s j2) rfl (by omega)
     obtain ⟨j3, hj3⟩ : ∃ j3, j3 = if hnd s (j2 + 1) = 43 ∨ hnd s (j2 + 1) = 45 then j2 + 2 else j2 + 1 := ⟨_, rfl⟩
     have H3 := Aside0.mk (show digits s j3 = R by rw [← H2.out, hj3]; unfold nE; rw [if_pos hE])
     have q1 : isB s j2 0 101 = decide (hnd s j2 = 101) := by unfold isB; apply decide_eq_decide.mpr; omega
     have q2 : isB s j2 0 69 = decide (hnd s j2 = 69) := by unfold isB; apply decide_eq_decide.mpr; omega
     have q3 : isB s (j2 + 1) 0 43 = decide (hnd s (j2 + 1) = 43) := by unfold isB; apply decide_eq_decide.mpr; omega
     have q4 : isB s (j2 + 1) 0 45 = decide (hnd s (j2 + 1) = 45) := by unfold isB; apply decide_eq_decide.mpr; omega
     have HX : ∀ (wz : World), RSt B s j3 0 wz → Kp B w wz → Calls Tryd.prog 43 #[.pointer (some ⟨B, 0, none⟩)] wz (fun e w' => RO B s VU VA0 w R e w' ∧ e = .returned (.tuple #[])) := by
      intro wz hr hk
      have hj3s : j3 ≤ s.size := by
       rw [hj3]
       split
       ·rename_i c
        have := hnd_pos (s := s) (i := j2 + 1) (c := hnd s (j2 + 1)) rfl (by omega)
        omega
       ·omega
      refine (HG.out j3 wz hr hj3s).mono ?_
      intro e w' ho
      rw [H3.out] at ho
      cases R with
      | ok u j =>
       obtain ⟨x, rfl, rfl, h1, h2, h3⟩ := ho.ok_
       exact ⟨⟨_, rfl, rfl, h1, h2, hk.trans h3⟩, rfl⟩
      | bad j c =>
       obtain ⟨x, rfl, rfl, h1, h2, h3⟩ := ho.bad_
       exact ⟨⟨_, rfl, rfl, h1, h2, hk.trans h3⟩, rfl⟩
     have HXX := Aside0.mk HX; have HJ3 := Aside0.mk hj3; clear HX hj3; rcases hE with h | h
     ·rw [h] at q1 q2
      simp only [Nat.reduceEqDiff, decide_true, decide_false] at q1 q2
      by_cases k1 : hnd s (j2 + 1) = 43
      ·rw [k1] at q3 q4
       simp only [Nat.reduceEqDiff, decide_true, decide_false] at q3 q4
       have e3 := Aside0.mk (HJ3.out.trans (if_pos (.inl k1)))
       clear k1 h; go_wp2_with (first | (go_at_call 26; refine (HI.out _ (by decide) _ _ _ (by exact HR3.out)).mono ?_; rintro e w' ⟨rfl, n1, rfl⟩) | (go_at_call 26; refine (HI.out _ (by decide) _ _ _ (by exact RSt.set1 (i := j2) (HR3.out.drewN _))).mono ?_; rintro e w' ⟨rfl, n1, rfl⟩) | (go_at_call 43; refine (HXX.out _ (by rw [e3.out]; exact RSt.set1 (i := j2 + 1) ((RSt.set1 (i := j2) (HR3.out.drewN _)).drewN _)) (by exact (((HK3.out.drewN _).set _ _).drewN _).set _ _)).mono ?_; rintro e w' ⟨ho, rfl⟩; have HO := Aside0.mk ho; clear ho))
       go_end0
       exact HO.out
      ·by_cases k2 : hnd s (j2 + 1) = 45
       ·rw [k2] at q3 q4
        simp only [Nat.reduceEqDiff, decide_true, decide_false] at q3 q4
        have e3 := Aside0.mk (HJ3.out.trans (if_pos (.inr k2)))
        clear k1 k2 h; go_wp2_with (first | (go_at_call 26; refine (HI.out _ (by decide) _ _ _ (by exact HR3.out)).mono ?_; rintro e w' ⟨rfl, n1, rfl⟩) | (go_at_call 26; refine (HI.out _ (by decide) _ _ _ (by exact RSt.set1 (i := j2) (HR3.out.drewN _))).mono ?_; rintro e w' ⟨rfl, n1, rfl⟩) | (go_at_call 43; refine (HXX.out _ (by rw [e3.out]; exact RSt.set1 (i := j2 + 1) ((RSt.set1 (i := j2) (HR3.out.drewN _)).drewN _)) (by exact (((HK3.out.drewN _).set _ _).drewN _).set _ _)).mono ?_; rintro e w' ⟨ho, rfl⟩; have HO := Aside0.mk ho; clear ho))
        go_end0
        exact HO.out
       ·rw [decide_eq_false k1] at q3
        rw [decide_eq_false k2] at q4
        have e3 := Aside0.mk (HJ3.out.trans (if_neg (fun e => e.elim k1 k2)))
        clear k1 k2 h; go_wp2_with (first | (go_at_call 26; refine (HI.out _ (by decide) _ _ _ (by exact HR3.out)).mono ?_; rintro e w' ⟨rfl, n1, rfl⟩) | (go_at_call 26; refine (HI.out _ (by decide) _ _ _ (by exact RSt.set1 (i := j2) (HR3.out.drewN _))).mono ?_; rintro e w' ⟨rfl, n1, rfl⟩) | (go_at_call 43; refine (HXX.out _ (by rw [e3.out]; exact (RSt.set1 (i := j2) (HR3.out.drewN _)).drewN _) (by exact ((HK3.out.drewN _).set _ _).drewN _)).mono ?_; rintro e w' ⟨ho, rfl⟩; have HO := Aside0.mk ho; clear ho))
        go_end0
        exact HO.out
     ·rw [h] at q1 q2
      simp only [Nat.reduceEqDiff, decide_true, decide_false] at q1 q2
      by_cases k1 : hnd s (j2 + 1) = 43
      ·rw [k1] at q3 q4
       simp only [Nat.reduceEqDiff, decide_true, decide_false] at q3 q4
       have e3 := Aside0.mk (HJ3.out.trans (if_pos (.inl k1)))
       clear k1 h; go_wp2_with (first | (go_at_call 26; refine (HI.out _ (by decide) _ _ _ (by exact HR3.out)).mono ?_; rintro e w' ⟨rfl, n1, rfl⟩) | (go_at_call 26; refine (HI.out _ (by decide) _ _ _ (by exact RSt.set1 (i := j2) (HR3.out.drewN _))).mono ?_; rintro e w' ⟨rfl, n1, rfl⟩) | (go_at_call 43; refine (HXX.out _ (by rw [e3.out]; exact RSt.set1 (i := j2 + 1) ((RSt.set1 (i := j2) (HR3.out.drewN _)).drewN _)) (by exact (((HK3.out.drewN _).set _ _).drewN _).set _ _)).mono ?_; rintro e w' ⟨ho, rfl⟩; have HO := Aside0.mk ho; clear ho))
       go_end0
       exact HO.out
      ·by_cases k2 : hnd s (j2 + 1) = 45
       ·rw [k2] at q3 q4
        simp only [Nat.reduceEqDiff, decide_true, decide_false] at q3 q4
        have e3 := Aside0.mk (HJ3.out.trans (if_pos (.inr k2)))
        clear k1 k2 h; go_wp2_with (first | (go_at_call 26; refine (HI.out _ (by decide) _ _ _ (by exact HR3.out)).mono ?_; rintro e w' ⟨rfl, n1, rfl⟩) | (go_at_call 26; refine (HI.out _ (by decide) _ _ _ (by exact RSt.set1 (i := j2) (HR3.out.drewN _))).mono ?_; rintro e w' ⟨rfl, n1, rfl⟩) | (go_at_call 43; refine (HXX.out _ (by rw [e3.out]; exact RSt.set1 (i := j2 + 1) ((RSt.set1 (i := j2) (HR3.out.drewN _)).drewN _)) (by exact (((HK3.out.drewN _).set _ _).drewN _).set _ _)).mono ?_; rintro e w' ⟨ho, rfl⟩; have HO := Aside0.mk ho; clear ho))
        go_end0
        exact HO.out
       ·rw [decide_eq_false k1] at q3
        rw [decide_eq_false k2] at q4
        have e3 := Aside0.mk (HJ3.out.trans (if_neg (fun e => e.elim k1 k2)))
        clear k1 k2 h; go_wp2_with (first | (go_at_call 26; refine (HI.out _ (by decide) _ _ _ (by exact HR3.out)).mono ?_; rintro e w' ⟨rfl, n1, rfl⟩) | (go_at_call 26; refine (HI.out _ (by decide) _ _ _ (by exact RSt.set1 (i := j2) (HR3.out.drewN _))).mono ?_; rintro e w' ⟨rfl, n1, rfl⟩) | (go_at_call 43; refine (HXX.out _ (by rw [e3.out]; exact (RSt.set1 (i := j2) (HR3.out.drewN _)).drewN _) (by exact ((HK3.out.drewN _).set _ _).drewN _)).mono ?_; rintro e w' ⟨ho, rfl⟩; have HO := Aside0.mk ho; clear ho))
        go_end0
        exact HO.out
    ·have q1 : isB s j2 0 101 = false := isB_no (fun h => hE (.inl (by omega)))
     have q2 : isB s j2 0 69 = false := isB_no (fun h => hE (.inr (by omega)))
     have H3 := Aside0.mk (show Res.ok () j2 = R by rw [← H2.out]; unfold nE; rw [if_neg hE])
     clear hE; go_wp2_with (go_at_call 26; refine (HI.out _ (by decide) _ _ _ (by exact HR3.out)).mono ?_; rintro e w' ⟨rfl, n1, rfl⟩)
     go_end0
     rw [← H3.out]
     exact ⟨_, rfl, rfl, hj2, HR3.out.drewN _, HK3.out.drewN _⟩
def digV (c : Nat) : Int := match hexv c with | some d => (d : Int) | none => -1
theorem glossatorref03_digit.calls (c : Nat) (w : World) : Calls Tryd.prog 52 #[.int .u8 c] w fun e w' => e = .returned (.int .i64 (digV c)) ∧ w' = w := by
 by_cases a1 : 48 ≤ c <;> by_cases a2 : c ≤ 57 <;> by_cases a3 : 97 ≤ c <;> by_cases a4 : c ≤ 102 <;> by_cases a5 : 65 ≤ c <;> by_cases a6 : c ≤ 70 <;> first | (exfalso; omega) | skip
 all_goals
  have HD : digV c = if 48 ≤ c ∧ c ≤ 57 then (c : Int) - 48 else if 97 ≤ c ∧ c ≤ 102 then (c : Int) - 87 else if 65 ≤ c ∧ c ≤ 70 then (c : Int) - 55 else -1 := by
   unfold digV hexv
   by_cases g1 : 48 ≤ c ∧ c ≤ 57
   ·rw [if_pos g1, if_pos g1]; show ((c - 48 : Nat) : Int) = _; omega
   rw [if_neg g1, if_neg g1]
   by_cases g2 : 97 ≤ c ∧ c ≤ 102
   ·rw [if_pos g2, if_pos g2]; show ((c - 87 : Nat) : Int) = _; omega
   rw [if_neg g2, if_neg g2]
   by_cases g3 : 65 ≤ c ∧ c ≤ 70
   ·rw [if_pos g3, if_pos g3]; show ((c - 55 : Nat) : Int) = _; omega
   rw [if_neg g3, if_neg g3]
  have b1 : decide ((48 : Int) ≤ (c : Int)) = decide (48 ≤ c) := by apply decide_eq_decide.mpr; omega
  have b2 : decide ((c : Int) ≤ 57) = decide (c ≤ 57) := by apply decide_eq_decide.mpr; omega
  have b3 : decide ((97 : Int) ≤ (c : Int)) = decide (97 ≤ c) := by apply decide_eq_decide.mpr; omega
  have b4 : decide ((c : Int) ≤ 102) = decide (c ≤ 102) := by apply decide_eq_decide.mpr; omega
  have b5 : decide ((65 : Int) ≤ (c : Int)) = decide (65 ≤ c) := by apply decide_eq_decide.mpr; omega
  have b6 : decide ((c : Int) ≤ 70) = decide (c ≤ 70) := by apply decide_eq_decide.mpr; omega
  simp only [a1, a2, a3, a4, a5, a6, decide_true, decide_false, true_and, and_true, false_and, and_false, if_true, if_false] at b1 b2 b3 b4 b5 b6 HD
  have HE := Aside0.mk HD; clear HD; go_enter Tryd.func52, Tryd.ntmps52
  go_wp2
  go_ret
  exact ⟨by rw [HE.out]; rfl, rfl⟩
def sgs : List Nat := [34, 92, 47, 98, 102, 110, 114, 116]
def uns : List Nat := [34, 92, 47, 8, 12, 10, 13, 9]
theorem escV_at : ∀ j, j < 8 → escV (sgs.getD j 0) = some (uns.getD j 0) := by decide
theorem escV_not {c : Nat} (h : ∀ j, j < 8 → c ≠ sgs.getD j 0) : escV c = none := by
 have h0 := h 0 (by decide); have h1 := h 1 (by decide); have h2 := h 2 (by decide); have h3 := h 3 (by decide)
 have h4 := h 4 (by decide); have h5 := h 5 (by decide); have h6 := h 6 (by decide); have h7 := h 7 (by decide)
 simp only [sgs, List.getD_cons_zero, List.getD_cons_succ] at h0 h1 h2 h3 h4 h5 h6 h7
 unfold escV
 rw [if_neg h0, if_neg h1, if_neg h2, if_neg h3, if_neg h4, if_neg h5, if_neg h6, if_neg h7]
/-- What stands behind a backslash, as a unit. -/
def escR (s : ByteArray) (i : Nat) : Res Nat := match escV (hnd s i) with | some v => .ok v (i + 1) | none => unit s i
def VN (n : Nat) (x : Value) (_ : World) : Prop := x = .int .i64 n
def VN0 (x : Value) (_ : World) : Prop := x = .int .i64 0
def sgO : Obj := .cells #[.int .u8 34, .int .u8 92, .int .u8 47, .int .u8 98, .int .u8 102, .int .u8 110, .int .u8 114, .int .u8 116] 5
def unO : Obj := .cells #[.int .i64 34, .int .i64 92, .int .i64 47, .int .i64 8, .int .i64 12, .int .i64 10, .int .i64 13, .int .i64 9] 3
theorem sg_cell {w : World} {N : Nat} (h : w.heap[N]? = some sgO) : ∀ j, j < 8 → w.cell? ⟨N, j, none⟩ = some (.int .u8 ((sgs.getD j 0 : Nat) : Int))
 | 0, _ => (blk_cell h 0).trans rfl
 | 1, _ => (blk_cell h 1).trans rfl
 | 2, _ => (blk_cell h 2).trans rfl
 | 3, _ => (blk_cell h 3).trans rfl
 | 4, _ => (blk_cell h 4).trans rfl
 | 5, _ => (blk_cell h 5).trans rfl
 | 6, _ => (blk_cell h 6).trans rfl
 | 7, _ => (blk_cell h 7).trans rfl
 | n + 8, h => by omega
theorem un_cell {w : World} {N : Nat} (h : w.heap[N]? = some unO) : ∀ j, j < 8 → w.cell? ⟨N, j, none⟩ = some (.int .i64 ((uns.getD j 0 : Nat) : Int))
 | 0, _ => (blk_cell h 0).trans rfl
 | 1, _ => (blk_cell h 1).trans rfl
 | 2, _ => (blk_cell h 2).trans rfl
 | 3, _ => (blk_cell h 3).trans rfl
 | 4, _ => (blk_cell h 4).trans rfl
 | 5, _ => (blk_cell h 5).trans rfl
 | 6, _ => (blk_cell h 6).trans rfl
 | 7, _ => (blk_cell h 7).trans rfl
 | n + 8, h => by omega
theorem sg_pos : ∀ j, j < 8 → ((sgs.getD j 0 : Nat) : Int) ≠ 0 := by decide
set_option maxRecDepth 100000 in
set_option maxHeartbeats 2000000 in
theorem glossatorref03_state_escape.calls (B : Nat) (s : ByteArray) (i : Nat) (w : World) (hR : RSt B s i 0 w) (hs : s.size ≤ 140737488351232) (hi : i ≤ s.size) :
  Calls Tryd.prog 40 #[.pointer (some ⟨B, 0, none⟩)] w (RO B s VN VN0 w (escR s i)) := by
 obtain ⟨N, hN⟩ : ∃ N, N = w.heap.size := ⟨_, rfl⟩
 have hBN : B < N := by rw [hN]; exact hR.lt
 obtain ⟨W1, hW1⟩ : ∃ W1, W1 = (w.alloc sgO).alloc unO := ⟨_, rfl⟩
 have hR1 : RSt B s i 0 W1 := by rw [hW1]; exact (hR.alloc _).alloc _
 have hb1 : Below w.heap.size w W1 := by rw [hW1]; exact below_alloc (below_alloc (Below.refl _ _) _) _
 have hx1 : W1.heap[N]? = some sgO := by rw [hW1, hN]; exact blk_alloc (blk_new w _) _
 have hx2 : W1.heap[N + 1]? = some unO := by rw [hW1, hN]; have h := blk_new (w.alloc sgO) unO; simpa using h
 obtain ⟨R, hRes⟩ : ∃ R, R = escR s i := ⟨_, rfl⟩
 have HRes := Aside0.mk hRes; have HI := Aside0.mk (fun (c : Int) (hc : c ≠ 0) (j : Nat) (er : Int) (w' : World) (h : RSt B s j er w') => glossatorref03_state_is.calls B s j er c hc w' h hs)
 have HT := Aside0.mk (fun (w' : World) (h : RSt B s i 0 w') => glossatorref03_state_take.calls B s i 117 (by decide) w' h hs hi)
 have HK0 := Aside0.mk (Kp.of_below (B := B) hb1)
 rw [← hRes]
 go_enter Tryd.func40, Tryd.ntmps40
 go_upto_region 3 with (fail)
 change Code.wp _ _ _ _ ((w.alloc sgO).alloc unO)
 rw [← hW1, ← hN]
 have HNw := Aside0.mk hN; have HX1 := Aside0.mk hx1; have HX2 := Aside0.mk hx2; have HR1 := Aside0.mk hR1; clear hW1 hR hR1 hb1 hx1 hx2 hRes hN; go_wp2
 go_loopw [5] (fun t5 w' => ∃ j : Nat, j ≤ 8 ∧ t5 = .int .i64 j ∧ Aside0 (∀ k, k < j → hnd s i ≠ sgs.getD k 0) ∧ Aside0 (RSt B s i 0 w') ∧ Aside0 (w'.heap[N]? = some sgO ∧ w'.heap[N + 1]? = some unO) ∧ Aside0 (Kp B w w')) (fun t5 _ => 8 - (intOf t5).toNat)
 case atStart => exact ⟨0, by omega, rfl, ⟨fun k h => by omega⟩, HR1, ⟨HX1.out, HX2.out⟩, HK0⟩
 case round =>
  obtain ⟨j, hj, rfl, HS, HR2, HX, HK⟩ := hrel
  have c1 := HR2.out.c1
  have f1 := HR2.out.fr1
  have c2 := HR2.out.c2
  by_cases hlt : j < 8
  ·have t : decide ((j : Int) < 8) = true := decide_eq_true (by omega)
   have d1 := sg_cell HX.out.1 j hlt
   have d2 := un_cell HX.out.2 j hlt
   have hp := sg_pos j hlt
   have hev := escV_at j hlt
   obtain ⟨g, hg⟩ : ∃ g, g = sgs.getD j 0 := ⟨_, rfl⟩
   obtain ⟨u, hu⟩ : ∃ u, u = uns.getD j 0 := ⟨_, rfl⟩
   rw [← hg] at d1 hp hev
   rw [← hu] at d2 hev
   have HP := Aside0.mk hp; have HGE := Aside0.mk hg; clear hp hg hu; by_cases h : hnd s i = g
   ·have q := isB_yes (s := s) (i := i) (c := (g : Int)) (by omega)
    have hl : i < s.size := hnd_pos h (by have := HP.out; omega)
    have H1 := Aside0.mk (show Res.ok u (i + 1) = R by rw [HRes.out]; unfold escR; rw [h, hev])
    clear h hev; go_wp2_with (go_at_call 26; refine (HI.out _ HP.out _ _ _ (by exact HR2.out)).mono ?_; rintro e w' ⟨rfl, n1, rfl⟩)
    go_ret
    rw [← H1.out]
    exact ⟨_, rfl, rfl, hl, RSt.set1 (i := i) (HR2.out.drewN _), (HK.out.drewN _).set _ _⟩
   ·have q := isB_no (s := s) (i := i) (c := (g : Int)) (by omega)
    have HH := Aside0.mk h; clear h hev; go_wp2_with (go_at_call 26; refine (HI.out _ HP.out _ _ _ (by exact HR2.out)).mono ?_; rintro e w' ⟨rfl, n1, rfl⟩)
    go_roundw
    case rel => exact ⟨j + 1, by omega, by go_num, ⟨fun k hk => by rcases Nat.lt_or_ge k j with h | h; exact HS.out k h; rw [show k = j by omega, ← HGE.out]; exact HH.out⟩, ⟨HR2.out.drewN _⟩, ⟨HX.out⟩, ⟨HK.out.drewN _⟩⟩
    case measure => simp [intOf]; omega
  ·have t : decide ((j : Int) < 8) = false := decide_eq_false (by omega)
   obtain rfl : j = 8 := by omega
   have H1 := Aside0.mk (show unit s i = R by rw [HRes.out]; unfold escR; rw [escV_not HS.out])
   clear hlt; have hwd : wd s [117] i = if hnd s i = 117 then .ok () (i + 1) else .bad i 30 := rfl
   have HL : ∀ (er : Int) (j : Nat) (wz : World), RSt B s j er wz → Kp B w wz → ((er = 0 ∧ j ≤ s.size ∧ hexN s 4 j 0 = R) ∨ (er ≠ 0 ∧ R = .bad j er)) → ((0 : Nat) < 16 ^ 0) := fun _ _ _ _ _ _ => by decide
   clear HL; by_cases h : hnd s i = 117
   ·rw [if_pos h] at hwd
    have HW := Aside0.mk hwd; have H2 := Aside0.mk (show hexN s 4 (i + 1) 0 = R by rw [← H1.out]; unfold unit; rw [if_pos h])
    clear hwd h; go_wp2_with (go_at_call 39; refine (HT.out _ (by exact HR2.out)).mono ?_; intro e w' ho; rw [HW.out] at ho; obtain ⟨x, rfl, rfl, hm, hr, hk⟩ := ho.ok_; have n1_ := Aside0.mk hr; have n2_ := Aside0.mk (HK.out.trans hk); clear ho hr hk)
    clear c1 f1 c2; go_loopw [6, 7] (fun t6 t7 w' => ∃ (n q j : Nat) (er : Int), t6 = .int .i64 n ∧ t7 = .int .i64 q ∧ q ≤ 4 ∧ Aside0 ((er = 0 ∧ n < 16 ^ q ∧ j ≤ s.size ∧ hexN s (4 - q) j n = R) ∨ (er ≠ 0 ∧ n = 0 ∧ R = .bad j er)) ∧ Aside0 (RSt B s j er w') ∧ Aside0 (Kp B w w')) (fun _ t7 _ => 4 - (intOf t7).toNat)
    case atStart => exact ⟨0, 0, i + 1, 0, rfl, rfl, by omega, ⟨.inl ⟨rfl, by decide, hm, H2.out⟩⟩, n1_, n2_⟩
    case round =>
     obtain ⟨n, q, j, er, rfl, rfl, hq, HW3, HR3, HK3⟩ := hrel
     have c0 := HR3.out.c0
     have c1 := HR3.out.c1
     have c2 := HR3.out.c2
     have f1 := HR3.out.fr1
     have f2 := HR3.out.fr2
     rcases HW3.out with ⟨rfl, hn, hjs, hX⟩ | ⟨he, rfl, hX⟩
     ·by_cases hlt : q < 4
      ·have tq : decide ((q : Int) < 4) = true := decide_eq_true (by omega)
       obtain ⟨p, hp⟩ : ∃ p, p = 4 - (q + 1) := ⟨_, rfl⟩
       rw [show 4 - q = p + 1 by omega, hexN] at hX
       have HP' := Aside0.mk hp; have hn3 : n < 4096 := by
        have h2 : 16 ^ q ≤ 16 ^ 3 := Nat.pow_le_pow_right (by omega) (by omega)
        omega
       have HN := Aside0.mk hn; clear hp hn; by_cases hl2 : j < s.size
       ·have t2 : decide ((j : Int) < (s.size : Int)) = true := decide_eq_true (by omega)
        have hE : hnd s j = s[j].toNat := by simp [hnd, hl2]
        have HDG := Aside0.mk (fun w => glossatorref03_digit.calls s[j].toNat w)
        cases hv : hexv (hnd s j) with
        | none =>
         rw [hv] at hX
         have H3 := Aside0.mk (show Res.bad j 30 = R from hX)
         have hdig : digV s[j].toNat = -1 := by unfold digV; rw [← hE, hv]
         clear hX hv hE; go_wp2
         go_quiet (fail)
         go_wp2
         go_quiet ((go_at_call 52; refine (HDG.out _).mono ?_; rintro e w2 ⟨rfl, rfl⟩; exact ⟨rfl, _, rfl⟩))
         rw [hdig]
         go_wp2
         go_ret
         rw [← H3.out]
         exact ⟨_, rfl, rfl, by decide, (HR3.out.drewN _).setE 30, (HK3.out.drewN _).set _ _⟩
        | some d =>
         have hd := hexv_lt hv
         rw [hv] at hX
         have H3 := Aside0.mk (show hexN s p (j + 1) (n * 16 + d) = R from hX)
         have hdig : digV s[j].toNat = (d : Int) := by unfold digV; rw [← hE, hv]
         have t3 : decide ((d : Int) < 0) = false := decide_eq_false (by omega)
         clear hX hv hE; go_wp2
         go_quiet (fail)
         go_wp2
         go_quiet ((go_at_call 52; refine (HDG.out _).mono ?_; rintro e w2 ⟨rfl, rfl⟩; exact ⟨rfl, _, rfl⟩))
         rw [hdig]
         go_wp2
         go_roundw
         case rel => exact ⟨n * 16 + d, q + 1, j + 1, 0, by go_num, by go_num, hlt, ⟨.inl ⟨rfl, by have := HN.out; rw [Nat.pow_succ]; omega, hl2, by rw [← H3.out, HP'.out]⟩⟩, ⟨RSt.set1 (i := j) (HR3.out.drewN _)⟩, ⟨(HK3.out.drewN _).set _ _⟩⟩
         case measure => simp [intOf]; omega
       ·have t2 : decide ((j : Int) < (s.size : Int)) = false := decide_eq_false (by omega)
        have hv : hexv (hnd s j) = none := by
         unfold hnd
         rw [dif_neg hl2]
         rfl
        rw [hv] at hX
        have H3 := Aside0.mk (show Res.bad j 30 = R from hX)
        clear hX hv; go_wp2
        go_quiet (fail)
        go_wp2
        go_ret
        rw [← H3.out]
        exact ⟨_, rfl, rfl, by decide, (HR3.out.drewN _).setE 30, (HK3.out.drewN _).set _ _⟩
      ·have tq : decide ((q : Int) < 4) = false := decide_eq_false (by omega)
       obtain rfl : q = 4 := by omega
       have H3 := Aside0.mk (show Res.ok n j = R from hX)
       have HJ := Aside0.mk hjs; clear hX hn hjs; go_wp2
       go_ret
       rw [← H3.out]
       exact ⟨_, rfl, rfl, HJ.out, HR3.out, HK3.out⟩
     ·have te : (er == 0) = false := by simpa using he
      have H3 := Aside0.mk hX; have HE := Aside0.mk he; clear hX he; by_cases hlt : q < 4
      ·have tq : decide ((q : Int) < 4) = true := decide_eq_true (by omega)
       go_wp2
       go_ret
       rw [H3.out]
       exact ⟨_, rfl, rfl, HE.out, HR3.out, HK3.out⟩
      ·have tq : decide ((q : Int) < 4) = false := decide_eq_false (by omega)
       go_wp2
       go_ret
       rw [H3.out]
       exact ⟨_, rfl, rfl, HE.out, HR3.out, HK3.out⟩
   ·rw [if_neg h] at hwd
    have HW := Aside0.mk hwd; have H2 := Aside0.mk (show Res.bad i 30 = R by rw [← H1.out]; unfold unit; rw [if_neg h])
    clear hwd h; go_wp2_with (go_at_call 39; refine (HT.out _ (by exact HR2.out)).mono ?_; intro e w' ho; rw [HW.out] at ho; obtain ⟨x, rfl, rfl, hm, hr, hk⟩ := ho.bad_; have n1_ := Aside0.mk hr; have n2_ := Aside0.mk (HK.out.trans hk); clear ho hr hk hm)
    clear c1 f1 c2 ; go_loopw [6, 7] (fun t6 t7 w' => ∃ (n q j : Nat) (er : Int), t6 = .int .i64 n ∧ t7 = .int .i64 q ∧ q ≤ 4 ∧ Aside0 ((er = 0 ∧ n < 16 ^ q ∧ j ≤ s.size ∧ hexN s (4 - q) j n = R) ∨ (er ≠ 0 ∧ n = 0 ∧ R = .bad j er)) ∧ Aside0 (RSt B s j er w') ∧ Aside0 (Kp B w w')) (fun _ t7 _ => 4 - (intOf t7).toNat)
    case atStart => exact ⟨0, 0, i, 30, rfl, rfl, by omega, ⟨.inr ⟨by decide, rfl, H2.out.symm⟩⟩, n1_, n2_⟩
    case round =>
     obtain ⟨n, q, j, er, rfl, rfl, hq, HW3, HR3, HK3⟩ := hrel
     have c0 := HR3.out.c0
     have c1 := HR3.out.c1
     have c2 := HR3.out.c2
     have f1 := HR3.out.fr1
     have f2 := HR3.out.fr2
     rcases HW3.out with ⟨rfl, hn, hjs, hX⟩ | ⟨he, rfl, hX⟩
     ·by_cases hlt : q < 4
      ·have tq : decide ((q : Int) < 4) = true := decide_eq_true (by omega)
       obtain ⟨p, hp⟩ : ∃ p, p = 4 - (q + 1) := ⟨_, rfl⟩
       rw [show 4 - q = p + 1 by omega, hexN] at hX
       have HP' := Aside0.mk hp; have hn3 : n < 4096 := by
        have h2 : 16 ^ q ≤ 16 ^ 3 := Nat.pow_le_pow_right (by omega) (by omega)
        omega
       have HN := Aside0.mk hn; clear hp hn; by_cases hl2 : j < s.size
       ·have t2 : decide ((j : Int) < (s.size : Int)) = true := decide_eq_true (by omega)
        have hE : hnd s j = s[j].toNat := by simp [hnd, hl2]
        have HDG := Aside0.mk (fun w => glossatorref03_digit.calls s[j].toNat w)
        cases hv : hexv (hnd s j) with
        | none =>
         rw [hv] at hX
         have H3 := Aside0.mk (show Res.bad j 30 = R from hX)
         have hdig : digV s[j].toNat = -1 := by unfold digV; rw [← hE, hv]
         clear hX hv hE; go_wp2
         go_quiet (fail)
         go_wp2
         go_quiet ((go_at_call 52; refine (HDG.out _).mono ?_; rintro e w2 ⟨rfl, rfl⟩; exact ⟨rfl, _, rfl⟩))
         rw [hdig]
         go_wp2
         go_ret
         rw [← H3.out]
         exact ⟨_, rfl, rfl, by decide, (HR3.out.drewN _).setE 30, (HK3.out.drewN _).set _ _⟩
        | some d =>
         have hd := hexv_lt hv
         rw [hv] at hX
         have H3 := Aside0.mk (show hexN s p (j + 1) (n * 16 + d) = R from hX)
         have hdig : digV s[j].toNat = (d : Int) := by unfold digV; rw [← hE, hv]
         have t3 : decide ((d : Int) < 0) = false := decide_eq_false (by omega)
         clear hX hv hE; go_wp2
         go_quiet (fail)
         go_wp2
         go_quiet ((go_at_call 52; refine (HDG.out _).mono ?_; rintro e w2 ⟨rfl, rfl⟩; exact ⟨rfl, _, rfl⟩))
         rw [hdig]
         go_wp2
         go_roundw
         case rel => exact ⟨n * 16 + d, q + 1, j + 1, 0, by go_num, by go_num, hlt, ⟨.inl ⟨rfl, by have := HN.out; rw [Nat.pow_succ]; omega, hl2, by rw [← H3.out, HP'.out]⟩⟩, ⟨RSt.set1 (i := j) (HR3.out.drewN _)⟩, ⟨(HK3.out.drewN _).set _ _⟩⟩
         case measure => simp [intOf]; omega
       ·have t2 : decide ((j : Int) < (s.size : Int)) = false := decide_eq_false (by omega)
        have hv : hexv (hnd s j) = none := by
         unfold hnd
         rw [dif_neg hl2]
         rfl
        rw [hv] at hX
        have H3 := Aside0.mk (show Res.bad j 30 = R from hX)
        clear hX hv; go_wp2
        go_quiet (fail)
        go_wp2
        go_ret
        rw [← H3.out]
        exact ⟨_, rfl, rfl, by decide, (HR3.out.drewN _).setE 30, (HK3.out.drewN _).set _ _⟩
      ·have tq : decide ((q : Int) < 4) = false := decide_eq_false (by omega)
       obtain rfl : q = 4 := by omega
       have H3 := Aside0.mk (show Res.ok n j = R from hX)
       have HJ := Aside0.mk hjs; clear hX hn hjs; go_wp2
       go_ret
       rw [← H3.out]
       exact ⟨_, rfl, rfl, HJ.out, HR3.out, HK3.out⟩
     ·have te : (er == 0) = false := by simpa using he
      have H3 := Aside0.mk hX; have HE := Aside0.mk he; clear hX he; by_cases hlt : q < 4
      ·have tq : decide ((q : Int) < 4) = true := decide_eq_true (by omega)
       go_wp2
       go_ret
       rw [H3.out]
       exact ⟨_, rfl, rfl, HE.out, HR3.out, HK3.out⟩
      ·have tq : decide ((q : Int) < 4) = false := decide_eq_false (by omega)
       go_wp2
       go_ret
       rw [H3.out]
       exact ⟨_, rfl, rfl, HE.out, HR3.out, HK3.out⟩
end Go.Proofs.YtienoadaflmkdaaDoor.Q

end
