/-
  Characters behind one another: what stands in a piece of a string, and behind another string, is decoded as in the whole; the places where characters begin, with the units ahead of them. No program in sight.
-/
import Derived.Test.YtbjhmknahldhaaaDoorXUtfT
import Derived.Lib.MapLaws
import Derived.Lib.TrimUEq
namespace Go.Proofs.YtbjhmknahldhaaaDoor.XWchars
open Go Go.RowKit Go.Proofs.YtbjhmknahldhaaaDoor.XEv Go.Proofs.YtbjhmknahldhaaaDoor.XRef01 Go.Proofs.YtbjhmknahldhaaaDoor.XUtfT
set_option linter.unusedVariables false
set_option linter.unusedSimpArgs false

theorem decodeN_local (n m b0 b1 b2 b3 c1 c2 c3 : Nat) (hg : ¬ ((Lib.decodeN n b0 b1 b2 b3).1 = 65533 ∧ (Lib.decodeN n b0 b1 b2 b3).2 = 1)) (hz : (Lib.decodeN n b0 b1 b2 b3).2 ≤ m)
    (h1 : 2 ≤ (Lib.decodeN n b0 b1 b2 b3).2 → c1 = b1) (h2 : 3 ≤ (Lib.decodeN n b0 b1 b2 b3).2 → c2 = b2) (h3 : 4 ≤ (Lib.decodeN n b0 b1 b2 b3).2 → c3 = b3) :
    Lib.decodeN m b0 c1 c2 c3 = Lib.decodeN n b0 b1 b2 b3 := by
  rcases Lib.decodeN_shape n b0 b1 b2 b3 with ⟨c, e⟩ | ⟨a1, a2, a3, av, e⟩ | ⟨a1, a2, a3, a4, av, aw, e⟩ | ⟨a1, a2, a3, a4, a5, av, aw, e⟩ | e
  · rw [e]; unfold Lib.decodeN; rw [if_pos c]
  · rw [e] at hz h1 h2 h3 ⊢
    obtain rfl := h1 (Nat.le_refl _)
    simp only at hz
    unfold Lib.decodeN
    rw [if_neg (by omega), if_pos ⟨a1, by omega, a3⟩, if_pos av]
  · rw [e] at hz h1 h2 h3 ⊢
    obtain rfl := h1 (by simp)
    obtain rfl := h2 (Nat.le_refl _)
    simp only at hz
    unfold Lib.decodeN
    rw [if_neg (by omega), if_neg (by omega), if_pos ⟨a1, ⟨by omega, a3⟩, by omega, a4⟩, if_pos ⟨av, by omega⟩]
  · rw [e] at hz h1 h2 h3 ⊢
    obtain rfl := h1 (by simp)
    obtain rfl := h2 (by simp)
    obtain rfl := h3 (Nat.le_refl _)
    simp only at hz
    unfold Lib.decodeN
    rw [if_neg (by omega), if_neg (by omega), if_neg (by omega), if_pos ⟨a1, ⟨by omega, a3⟩, ⟨by omega, a4⟩, by omega, a5⟩, if_pos ⟨av, by omega⟩]
  · exact absurd (by rw [e]; exact ⟨rfl, rfl⟩) hg
/-- The same bytes are the same character. -/
theorem dec_same (s t : ByteArray) (p q : Nat) (hg : ¬ bad s p) (hz : q + XUtf.width s p ≤ t.size) (he : ∀ j, j < XUtf.width s p → t.get! (q + j) = s.get! (p + j)) : Utf8.decode t q = Utf8.decode s p := by
  unfold bad at hg
  unfold XUtf.width at hz he
  have hw := XUtf.width_range s p
  unfold XUtf.width at hw
  have e0 := he 0 (by omega)
  rw [Nat.add_zero, Nat.add_zero] at e0
  rw [Lib.decode_at t q, e0]
  rw [Lib.decode_at s p] at hg hz he hw ⊢
  refine decodeN_local _ _ _ _ _ _ _ _ _ hg (by omega) (fun h => ?_) (fun h => ?_) (fun h => ?_)
  · rw [he 1 (by omega)]
  · rw [he 2 (by omega)]
  · rw [he 3 (by omega)]
theorem sub_l (s : ByteArray) (a b : Nat) : (s.extract a b).data.toList = (s.data.toList.drop a).take (b - a) := by
  simp only [ByteArray.data_extract, Array.toList_extract, List.extract_eq_take_drop]
theorem get_ext (s : ByteArray) (a b j : Nat) (h : a + j < b) (hb : b ≤ s.size) : (s.extract a b).get! j = s.get! (a + j) := by
  rw [← Lib.getD_get!', ← Lib.getD_get!', sub_l s a b, List.getD_eq_getElem?_getD, List.getD_eq_getElem?_getD, List.getElem?_take_of_lt (by omega), List.getElem?_drop]
theorem size_ext (s : ByteArray) (a b : Nat) (hb : b ≤ s.size) : (s.extract a b).size = b - a := by rw [ByteArray.size_extract]; omega
theorem width_bad (s : ByteArray) (p : Nat) (h : bad s p) : XUtf.width s p = 1 := h.2
theorem dec_bad (s : ByteArray) (p : Nat) (h : bad s p) : Utf8.decode s p = (65533, 1) := Prod.ext h.1 h.2
/-- What stands whole in a piece is decoded there as in the string. -/
theorem dec_ext (s : ByteArray) (a b q : Nat) (h : a + q + XUtf.width s (a + q) ≤ b) (hb : b ≤ s.size) : Utf8.decode (s.extract a b) q = Utf8.decode s (a + q) := by
  have hw := XUtf.width_range s (a + q)
  have hz := size_ext s a b hb
  by_cases hg : bad s (a + q)
  · by_cases hx : bad (s.extract a b) q
    · rw [dec_bad _ _ hg, dec_bad _ _ hx]
    · have hf := XUtf.width_fit (s.extract a b) q (by omega)
      have := dec_same (s.extract a b) s q (a + q) hx (by omega) (fun j hj => by rw [get_ext s a b (q + j) (by omega) hb, Nat.add_assoc])
      rw [this]
  · exact dec_same s (s.extract a b) (a + q) q hg (by omega) (fun j hj => by rw [get_ext s a b (q + j) (by omega) hb, Nat.add_assoc])
theorem get_app1 (s t : ByteArray) (j : Nat) (h : j < s.size) : (s ++ t).get! j = s.get! j := by
  rw [← Lib.getD_get!', ← Lib.getD_get!', ByteArray.data_append, Array.toList_append, List.getD_eq_getElem?_getD, List.getD_eq_getElem?_getD, List.getElem?_append_left (by rw [← Lib.size_eq]; exact h)]
theorem get_app2 (s t : ByteArray) (j : Nat) : (s ++ t).get! (s.size + j) = t.get! j := by
  rw [← Lib.getD_get!', ← Lib.getD_get!', ByteArray.data_append, Array.toList_append, List.getD_eq_getElem?_getD, List.getD_eq_getElem?_getD, List.getElem?_append_right (by rw [← Lib.size_eq]; omega), ← Lib.size_eq, Nat.add_sub_cancel_left]
theorem dec_app1 (s t : ByteArray) (q : Nat) (h : q < s.size) (hg : ¬ bad s q) : Utf8.decode (s ++ t) q = Utf8.decode s q := by
  have hf := XUtf.width_fit s q h
  exact dec_same s (s ++ t) q q hg (by rw [ByteArray.size_append]; omega) (fun j hj => get_app1 s t _ (by omega))
theorem dec_app2 (s t : ByteArray) (q : Nat) : Utf8.decode (s ++ t) (s.size + q) = Utf8.decode t q := by
  rw [Lib.decode_at, Lib.decode_at, ByteArray.size_append, show s.size + t.size - (s.size + q) = t.size - q by omega, get_app2]
  rw [Nat.add_assoc s.size q 1, Nat.add_assoc s.size q 2, Nat.add_assoc s.size q 3, get_app2, get_app2, get_app2]

/-! ### places where characters begin, and the units ahead of them -/
inductive Ch (s : ByteArray) : Nat → Int → Prop
  | zero : Ch s 0 0
  | next {p : Nat} {u : Int} : Ch s p u → p < s.size → Ch s (p + XUtf.width s p) (u + XUtf.uni s p)
theorem Ch.bnd {s : ByteArray} {p : Nat} {u : Int} (h : Ch s p u) : Bnd s p := by
  induction h with
  | zero => exact .zero
  | next _ hlt ih => exact .next ih hlt
theorem Ch.of {s : ByteArray} {p : Nat} (h : Bnd s p) : ∃ u, Ch s p u := by
  induction h with
  | zero => exact ⟨0, .zero⟩
  | next _ hlt ih => obtain ⟨u, hu⟩ := ih; exact ⟨_, .next hu hlt⟩
theorem Ch.range {s : ByteArray} {p : Nat} {u : Int} (h : Ch s p u) : 0 ≤ u ∧ u ≤ p := by
  induction h with
  | zero => omega
  | next _ hlt ih => rename_i p u _; have := XUtf.uni_range s p; have := XUtf.uni_le s p; omega
theorem Ch.le {s : ByteArray} {p : Nat} {u : Int} (h : Ch s p u) : p ≤ s.size := bnd_le h.bnd
/-- Of two places the one ahead has no more units ahead of it. -/
theorem Ch.mono {s : ByteArray} {p q : Nat} {u v : Int} (hp : Ch s p u) (hq : Ch s q v) : (p ≤ q → u ≤ v) ∧ (p = q → u = v) ∧ (p < q → u + XUtf.uni s p ≤ v) := by
  induction hq generalizing p u with
  | zero =>
    cases hp with
    | zero => exact ⟨fun _ => Int.le_refl _, fun _ => rfl, fun h => absurd h (by omega)⟩
    | next hp' hlt => rename_i p' u'; have := XUtf.width_range s p'; exact ⟨fun h => by omega, fun h => by omega, fun h => by omega⟩
  | next hq' hlt ih =>
    rename_i q' v'
    have hr := XUtf.uni_range s q'
    have heq : p = q' + XUtf.width s q' → u = v' + XUtf.uni s q' := by
      intro e
      cases hp with
      | zero => have := XUtf.width_range s q'; omega
      | next hp' hlt' =>
        rename_i p' u'
        have w1 := XUtf.width_range s p'
        have w2 := XUtf.width_range s q'
        rcases Nat.lt_trichotomy p' q' with h | h | h
        · have := bnd_apart hp'.bnd hq'.bnd h; omega
        · subst h; have := (ih hp').2.1 rfl; omega
        · have := bnd_apart hq'.bnd hp'.bnd h; omega
    have hlt3 : p < q' + XUtf.width s q' → u + XUtf.uni s p ≤ v' + XUtf.uni s q' := by
      intro h
      rcases Nat.lt_trichotomy p q' with h2 | h2 | h2
      · have := (ih hp).2.2 h2; omega
      · subst h2; have := (ih hp).2.1 rfl; omega
      · have := bnd_apart hq'.bnd hp.bnd h2; omega
    refine ⟨fun h => ?_, heq, hlt3⟩
    rcases Nat.lt_or_eq_of_le h with h2 | h2
    · have := hlt3 h2; have := XUtf.uni_range s p; omega
    · have := heq h2; omega
theorem Ch.uniq {s : ByteArray} {p : Nat} {u v : Int} (hp : Ch s p u) (hq : Ch s p v) : u = v := (hp.mono hq).2.1 rfl
/-- The units of all. -/
theorem Ch.units {s : ByteArray} : ∀ (b p : Nat) (u : Int), Ch s p u → s.size ≤ p + b → Ch s s.size (XUtf.units s b p u) := by
  intro b
  induction b with
  | zero => intro p u h hb; have := h.le; rw [XUtf.units]; rw [show s.size = p by omega]; exact h
  | succ b ih =>
    intro p u h hb
    rw [XUtf.units]
    by_cases hp : p < s.size
    · rw [if_pos hp]; have := XUtf.width_range s p; exact ih _ _ (.next h hp) (by unfold XUtf.width at this; omega)
    · rw [if_neg hp]; have := h.le; rw [show s.size = p by omega]; exact h
def U (s : ByteArray) : Int := XUtf.units s s.size 0 0
theorem Ch.all (s : ByteArray) : Ch s s.size (U s) := Ch.units s.size 0 0 .zero (by omega)
theorem U_range (s : ByteArray) : 0 ≤ U s ∧ U s ≤ s.size := (Ch.all s).range
/-- Where cutting ends. -/
theorem Ch.cut {s : ByteArray} (n : Int) : ∀ (b p : Nat) (u : Int), Ch s p u → s.size ≤ p + b → u ≤ n → ∃ v, Ch s (XUtf.cutAt s b p (n - u)) v ∧ v ≤ n ∧ (XUtf.cutAt s b p (n - u) < s.size → n < v + XUtf.uni s (XUtf.cutAt s b p (n - u))) := by
  intro b
  induction b with
  | zero => intro p u h hb hu; have := h.le; rw [XUtf.cutAt]; exact ⟨u, by rw [show s.size = p by omega]; exact h, hu, fun h => by omega⟩
  | succ b ih =>
    intro p u h hb hu
    rw [XUtf.cutAt]
    by_cases hp : p < s.size
    · rw [if_pos hp]
      have := XUtf.width_range s p
      by_cases hc : n - u - XUtf.uOf (Utf8.decode s p).1 < 0
      · rw [if_pos hc]; exact ⟨u, h, hu, fun _ => by unfold XUtf.uni; omega⟩
      · rw [if_neg hc]
        have := ih (p + XUtf.width s p) (u + XUtf.uni s p) (.next h hp) (by omega) (by unfold XUtf.uni; omega)
        rw [show n - (u + XUtf.uni s p) = n - u - XUtf.uOf (Utf8.decode s p).1 by unfold XUtf.uni; omega] at this
        exact this
    · rw [if_neg hp]; have := h.le; exact ⟨u, by rw [show s.size = p by omega]; exact h, hu, fun h => by omega⟩
def C (s : ByteArray) (n : Int) : Nat := XUtf.cutAt s s.size 0 n
theorem C_neg (s : ByteArray) (n : Int) (h : n < 0) : C s n = 0 := by
  unfold C
  by_cases hs : 0 < s.size
  · exact XUtf.cutAt_hit s s.size 0 n hs (by omega) (by have := XUtf.uOf_range (Utf8.decode s 0).1; omega)
  · rw [XUtf.cutAt_done s s.size 0 n hs]; omega
theorem C_spec (s : ByteArray) (n : Int) (h : 0 ≤ n) : ∃ v, Ch s (C s n) v ∧ v ≤ n ∧ (C s n < s.size → n < v + XUtf.uni s (C s n)) := by
  have := Ch.cut (s := s) n s.size 0 0 .zero (by omega) h
  rw [Int.sub_zero] at this
  exact this
theorem C_bnd (s : ByteArray) (n : Int) : Bnd s (C s n) := by
  by_cases h : n < 0
  · rw [C_neg s n h]; exact .zero
  · obtain ⟨v, hv, _⟩ := C_spec s n (by omega); exact hv.bnd
/-- A place's units lead back to it. -/
theorem C_of (s : ByteArray) (p : Nat) (u : Int) (h : Ch s p u) : C s u = p := by
  obtain ⟨v, hv, hle, hlt⟩ := C_spec s u h.range.1
  rcases Nat.lt_trichotomy (C s u) p with h2 | h2 | h2
  · have := (hv.mono h).2.2 h2; have := hlt (by have := h.le; omega); omega
  · exact h2
  · have := (h.mono hv).2.2 h2; have := XUtf.uni_range s p; omega
/-- Where a place's character begins: at it, if one begins there. -/
theorem beg_bnd (s : ByteArray) (p : Nat) (h : Bnd s p) : beg s p = p := by
  have hl := bnd_le h
  unfold beg
  rw [if_neg (by omega)]
  by_cases hs : (s.size : Int) ≤ (p : Int)
  · rw [if_pos hs]; omega
  · rw [if_neg hs]
    obtain ⟨h1, h2, h3⟩ := begF_bnd s p (by omega) (p + 1) 0 (by omega) (by omega) .zero
    show begF s p (p + 1) 0 = p
    rcases Nat.lt_or_eq_of_le h2 with h4 | h4
    · have := bnd_apart h1 h h4; omega
    · exact h4
theorem bnd_beg (s : ByteArray) (a : Int) : Bnd s (beg s a) := by
  unfold beg
  split
  · exact .zero
  · split
    · exact (Ch.all s).bnd
    · exact (begF_bnd s a.toNat (by omega) (a.toNat + 1) 0 (by omega) (by omega) .zero).1
theorem beg_le' (s : ByteArray) (a : Int) (h : 0 ≤ a) : (beg s a : Int) ≤ a := by
  unfold beg
  rw [if_neg (by omega)]
  split
  · omega
  · have := (begF_bnd s a.toNat (by omega) (a.toNat + 1) 0 (by omega) (by omega) .zero).2.1; omega
/-- The last boundary at or ahead of a place. -/
theorem beg_last (s : ByteArray) (a : Int) (p : Nat) (h : Bnd s p) (hp : (p : Int) ≤ a) : p ≤ beg s a := by
  unfold beg
  rw [if_neg (by omega)]
  split
  · exact bnd_le h
  · obtain ⟨h1, h2, h3⟩ := begF_bnd s a.toNat (by omega) (a.toNat + 1) 0 (by omega) (by omega) .zero
    rcases Nat.lt_or_ge (begF s a.toNat (a.toNat + 1) 0) p with h4 | h4
    · have := bnd_apart h1 h h4; omega
    · exact h4
/-! ### pieces -/
theorem Ch.into {s : ByteArray} {a b : Nat} {ua : Int} (ha : Ch s a ua) (hb : b ≤ s.size) {p : Nat} {u : Int} (h : Ch s p u) : a ≤ p → p ≤ b → Ch (s.extract a b) (p - a) (u - ua) := by
  induction h with
  | zero =>
    intro h1 h2
    have : a = 0 := by omega
    subst this
    have := ha.uniq .zero
    subst this
    exact .zero
  | next hq hlt ih =>
    rename_i q v
    intro h1 h2
    have hw := XUtf.width_range s q
    by_cases he : a = q + XUtf.width s q
    · have := ha.uniq (he ▸ Ch.next hq hlt)
      rw [this, he, Nat.sub_self, Int.sub_self]; exact .zero
    · have haq : a ≤ q := by
        rcases Nat.lt_or_ge q a with h3 | h3
        · have := bnd_apart hq.bnd ha.bnd h3; omega
        · exact h3
      have hi := ih haq (by omega)
      have hz := size_ext s a b hb
      have hd := dec_ext s a b (q - a) (by rw [show a + (q - a) = q by omega]; omega) hb
      rw [show a + (q - a) = q by omega] at hd
      have := Ch.next hi (by omega)
      unfold XUtf.width XUtf.uni at this
      rw [hd] at this
      rw [show q + XUtf.width s q - a = q - a + (Utf8.decode s q).2 by unfold XUtf.width; omega, show v + XUtf.uni s q - ua = v - ua + XUtf.uOf (Utf8.decode s q).1 by unfold XUtf.uni; omega]
      exact this
theorem Ch.back {s : ByteArray} {a b : Nat} {ua ub : Int} (ha : Ch s a ua) (hb : Ch s b ub) {q : Nat} {v : Int} (h : Ch (s.extract a b) q v) : Ch s (a + q) (ua + v) := by
  induction h with
  | zero => rw [Nat.add_zero, Int.add_zero]; exact ha
  | next hq hlt ih =>
    rename_i q v
    have hz := size_ext s a b hb.le
    have hl : a + q + XUtf.width s (a + q) ≤ b := bnd_apart ih.bnd hb.bnd (by omega)
    have hd := dec_ext s a b q hl hb.le
    have := Ch.next ih (by have := hb.le; omega)
    unfold XUtf.width XUtf.uni at this ⊢
    rw [hd, ← Nat.add_assoc, ← Int.add_assoc]
    exact this
/-- The units of a piece between two characters' begins. -/
theorem U_ext {s : ByteArray} {a b : Nat} {ua ub : Int} (ha : Ch s a ua) (hb : Ch s b ub) (h : a ≤ b) : U (s.extract a b) = ub - ua := by
  have h1 := Ch.into ha hb.le hb h (Nat.le_refl _)
  have h2 := Ch.all (s.extract a b)
  rw [size_ext s a b hb.le] at h2
  exact h2.uniq h1
/-! ### behind one another -/
theorem Ch.app1 {s t : ByteArray} (hv : ∀ p, Bnd s p → p < s.size → ¬ bad s p) {p : Nat} {u : Int} (h : Ch s p u) : Ch (s ++ t) p u := by
  induction h with
  | zero => exact .zero
  | next hq hlt ih =>
    rename_i q v
    have hd := dec_app1 s t q hlt (hv q hq.bnd hlt)
    have := Ch.next ih (by rw [ByteArray.size_append]; omega)
    unfold XUtf.width XUtf.uni at this ⊢
    rw [hd] at this
    exact this
theorem Ch.app2 {s t : ByteArray} {us : Int} (hs : Ch (s ++ t) s.size us) {p : Nat} {u : Int} (h : Ch t p u) : Ch (s ++ t) (s.size + p) (us + u) := by
  induction h with
  | zero => rw [Nat.add_zero, Int.add_zero]; exact hs
  | next hq hlt ih =>
    rename_i q v
    have hd := dec_app2 s t q
    have := Ch.next ih (by rw [ByteArray.size_append]; omega)
    unfold XUtf.width XUtf.uni at this ⊢
    rw [hd] at this
    rw [← Nat.add_assoc, ← Int.add_assoc]
    exact this
theorem U_app (s t : ByteArray) (hv : ∀ p, Bnd s p → p < s.size → ¬ bad s p) : U (s ++ t) = U s + U t := by
  have h1 := Ch.app2 (Ch.app1 (t := t) hv (Ch.all s)) (Ch.all t)
  have h2 := Ch.all (s ++ t)
  rw [ByteArray.size_append] at h2
  exact h2.uniq h1
theorem okF_good (s : ByteArray) : ∀ (b p : Nat), s.size ≤ p + b → okF s b p = true → Bnd s p → ∀ q, Bnd s q → p ≤ q → q < s.size → ¬ bad s q := by
  intro b
  induction b with
  | zero => intro p hb _ _ q _ h1 h2; omega
  | succ b ih =>
    intro p hb ho hp q hq h1 h2
    rw [okF, if_pos (by omega)] at ho
    by_cases hbad : bad s p
    · rw [if_pos hbad] at ho; cases ho
    · rw [if_neg hbad] at ho
      have := XUtf.width_range s p
      by_cases he : p = q
      · subst he; exact hbad
      · exact ih _ (by omega) ho (.next hp (by omega)) q hq (bnd_apart hp hq (by omega)) h2
theorem good_okF (s : ByteArray) (hv : ∀ q, Bnd s q → q < s.size → ¬ bad s q) : ∀ (b p : Nat), Bnd s p → okF s b p = true := by
  intro b
  induction b with
  | zero => intro p _; rfl
  | succ b ih =>
    intro p hp
    rw [okF]
    by_cases h : p < s.size
    · rw [if_pos h, if_neg (hv p hp h)]; exact ih _ (.next hp h)
    · rw [if_neg h]
end Go.Proofs.YtbjhmknahldhaaaDoor.XWchars
