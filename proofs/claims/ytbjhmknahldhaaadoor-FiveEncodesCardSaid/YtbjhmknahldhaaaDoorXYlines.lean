/-
  The lines of a string, one behind the other: where each begins and ends, and that characters begin there. No program in sight.
-/
import Derived.Test.YtbjhmknahldhaaaDoorXWchars
import Derived.Test.YtbjhmknahldhaaaDoorXLines
namespace Go.Proofs.YtbjhmknahldhaaaDoor.XYlines
open Go Go.RowKit Go.Proofs.YtbjhmknahldhaaaDoor.Q Go.Proofs.YtbjhmknahldhaaaDoorW.PrintWords Go.Proofs.YtbjhmknahldhaaaDoorW.PrintLast Go.Proofs.YtbjhmknahldhaaaDoorW.PrintMore Go.Proofs.YtbjhmknahldhaaaDoor.XEv Go.Proofs.YtbjhmknahldhaaaDoor.XRef01 Go.Proofs.YtbjhmknahldhaaaDoor.XUtfT Go.Proofs.YtbjhmknahldhaaaDoor.XWchars Go.Proofs.YtbjhmknahldhaaaDoor.XLines
set_option linter.unusedVariables false
set_option linter.unusedSimpArgs false

/-- A byte below 128 is a character. -/
theorem bnd_ascii (s : ByteArray) (i : Nat) (h : i < s.size) (h2 : B s i < 128) : Bnd s i ∧ XUtf.width s i = 1 := by
  obtain ⟨h1, h3, h4⟩ := begF_bnd s i h (i + 1) 0 (by omega) (by omega) .zero
  have he : begF s i (i + 1) 0 = i := by
    rcases Nat.lt_or_eq_of_le h3 with h5 | h5
    · have := dec_in s (begF s i (i + 1) 0) (i - begF s i (i + 1) 0) (by omega) (by unfold XUtf.width at h4; omega)
      rw [show begF s i (i + 1) 0 + (i - begF s i (i + 1) 0) = i by omega] at this
      omega
    · exact h5
  rw [he] at h1
  refine ⟨h1, ?_⟩
  have hw := XUtf.width_range s i
  rcases Nat.lt_or_ge (XUtf.width s i) 2 with h6 | h6
  · omega
  · have := dec_lead s i h6; omega
theorem bnd_isB (s : ByteArray) (i : Nat) (h : isB s i) : Bnd s i ∧ Bnd s (i + 1) := by
  obtain ⟨h1, h2⟩ := bnd_ascii s i h.1 (by have := h.2; omega)
  refine ⟨h1, ?_⟩
  have := Bnd.next h1 h.1
  rw [h2] at this
  exact this
theorem crlf_isB (s : ByteArray) (i : Nat) (h : crlf s i = true) : isB s i ∧ isB s (i + 1) := by
  have := (crlf_iff s i).1 h
  exact ⟨⟨by omega, by omega⟩, ⟨by omega, by omega⟩⟩
theorem bnd_nxt (s : ByteArray) (i : Nat) (h : isB s i) : Bnd s (nxt s i) := by
  unfold nxt
  by_cases hc : crlf s i = true
  · rw [if_pos hc]; exact (bnd_isB s (i + 1) (crlf_isB s i hc).2).2
  · rw [if_neg hc]; exact (bnd_isB s i h).2
theorem bnd_size (s : ByteArray) : Bnd s s.size := (Ch.all s).bnd
theorem brk_spec (s : ByteArray) : ∀ (m a : Nat), s.size - a ≤ m → a ≤ s.size → a ≤ brk s a ∧ brk s a ≤ s.size ∧ (∀ j, a ≤ j → j < brk s a → ¬ isB s j) ∧ (brk s a < s.size → isB s (brk s a)) := by
  intro m
  induction m with
  | zero =>
    intro a hm ha
    rw [brk_end s a (by omega)]
    exact ⟨ha, Nat.le_refl _, fun j h1 h2 => by omega, fun h => by omega⟩
  | succ m ih =>
    intro a hm ha
    by_cases h : a < s.size
    · by_cases hb : isB s a
      · rw [brk_hit s a hb]
        exact ⟨Nat.le_refl _, ha, fun j h1 h2 => by omega, fun _ => hb⟩
      · rw [brk_skip s a h hb]
        obtain ⟨h1, h2, h3, h4⟩ := ih (a + 1) (by omega) (by omega)
        refine ⟨by omega, h2, fun j h5 h6 => ?_, h4⟩
        by_cases hj : j = a
        · subst hj; exact hb
        · exact h3 j (by omega) h6
    · rw [brk_end s a (by omega)]
      exact ⟨ha, Nat.le_refl _, fun j h1 h2 => by omega, fun h => by omega⟩
theorem kf_brk (s : ByteArray) (a : Nat) (ha : a ≤ s.size) : (kf s a < 0 → brk s a = s.size ∧ ∀ j, a ≤ j → ¬ isB s j) ∧ (¬ kf s a < 0 → a + (kf s a).toNat = brk s a ∧ isB s (brk s a)) := by
  obtain ⟨h1, h2, h3, h4⟩ := brk_spec s s.size a (by omega) ha
  refine ⟨fun h => ?_, fun h => ?_⟩
  · have e : brk s a = s.size := if_pos h
    refine ⟨e, fun j hj hb => ?_⟩
    exact h3 j hj (by rw [e]; exact hb.1) hb
  · have e : brk s a = a + (kf s a).toNat := if_neg h
    have := hit_lt s a ha h
    exact ⟨e.symm, h4 (by omega)⟩
/-- What stands behind a line: the string's end, or a break and the next line. -/
theorem lnsFrom_next (s : ByteArray) : ∀ (f n a i : Nat) (x : Ln s), s.size ≤ a + f → a ≤ s.size → n ≤ a → Bnd s a → (lnsFrom s f n a)[i]? = some x →
    Bnd s x.1.2.1 ∧ a ≤ x.1.2.1 ∧ ((x.1.2.2 = s.size ∧ (∀ j, x.1.2.1 ≤ j → ¬ isB s j) ∧ (lnsFrom s f n a).length = i + 1) ∨ (isB s x.1.2.2 ∧ ∃ y, (lnsFrom s f n a)[i + 1]? = some y ∧ y.1.2.1 = nxt s x.1.2.2)) := by
  intro f
  induction f with
  | zero =>
    intro n a i x hf ha hn hB hx
    rw [lnsFrom_eq s _ n a hf ha, if_pos (kf_end s a (by omega))] at hx ⊢
    cases i with
    | zero =>
      obtain rfl := Option.some.inj hx
      rw [mkLn_beg s n a _ ha (Nat.le_refl _), mkLn_end s n a _ (Nat.le_refl _)]
      exact ⟨hB, Nat.le_refl _, .inl ⟨rfl, fun j h1 h2 => by have := h2.1; omega, rfl⟩⟩
    | succ i => simp at hx
  | succ f ih =>
    intro n a i x hf ha hn hB hx
    have hkb := kf_brk s a ha
    rw [lnsFrom_eq s _ n a hf ha] at hx ⊢
    by_cases hk : kf s a < 0
    · rw [if_pos hk] at hx ⊢
      cases i with
      | zero =>
        obtain rfl := Option.some.inj hx
        rw [mkLn_beg s n a _ ha (Nat.le_refl _), mkLn_end s n a _ (Nat.le_refl _)]
        exact ⟨hB, Nat.le_refl _, .inl ⟨rfl, (hkb.1 hk).2, rfl⟩⟩
      | succ i => simp at hx
    · rw [if_neg hk] at hx ⊢
      have hl := hit_lt s a ha hk
      have h1 := nxt_gt s (a + (kf s a).toNat)
      have h2 := nxt_le s (a + (kf s a).toNat) hl
      have hi := (hkb.2 hk).2
      rw [← (hkb.2 hk).1] at hi
      have hbn := bnd_nxt s _ hi
      cases i with
      | zero =>
        obtain rfl := Option.some.inj hx
        rw [mkLn_beg s n a _ (by omega) (by omega), mkLn_end s n a _ (by omega)]
        refine ⟨hB, Nat.le_refl _, .inr ⟨hi, ?_⟩⟩
        have hb := begs_eq s f (n + 1) (nxt s (a + (kf s a).toNat)) (by omega) h2
        show ∃ y, (lnsFrom s f (n + 1) (nxt s (a + (kf s a).toNat)))[0]? = some y ∧ _
        match hm : lnsFrom s f (n + 1) (nxt s (a + (kf s a).toNat)) with
        | [] => rw [hm] at hb; cases hb
        | y :: l =>
          rw [hm] at hb
          have h9 : (y.1.2.1 : Int) = (nxt s (a + (kf s a).toNat) : Nat) := (List.cons.inj hb).1
          exact ⟨y, rfl, by omega⟩
      | succ i =>
        rw [List.getElem?_cons_succ] at hx
        obtain ⟨g1, g2, g3⟩ := ih (n + 1) _ i x (by omega) h2 (by omega) hbn hx
        refine ⟨g1, by omega, ?_⟩
        rcases g3 with ⟨g3, g4, g5⟩ | ⟨g3, y, g4, g5⟩
        · exact .inl ⟨g3, g4, by rw [List.length_cons, Nat.add_sub_cancel, g5]⟩
        · exact .inr ⟨g3, y, by rw [List.getElem?_cons_succ]; exact g4, g5⟩
/-- ALL OF A LINE. -/
theorem ln (s : ByteArray) (i : Nat) (x : Ln s) (h : (lns s)[i]? = some x) :
    Bnd s x.1.2.1 ∧ Bnd s x.1.2.2 ∧ x.1.1 = i ∧ x.1.2.1 ≤ x.1.2.2 ∧ x.1.2.2 ≤ s.size ∧ (∀ j, x.1.2.1 ≤ j → j < x.1.2.2 → ¬ isB s j) ∧
    ((x.1.2.2 = s.size ∧ (lns s).length = i + 1) ∨ (isB s x.1.2.2 ∧ ∃ y, (lns s)[i + 1]? = some y ∧ y.1.2.1 = nxt s x.1.2.2)) := by
  obtain ⟨h1, h2⟩ := lns_at s i x h
  obtain ⟨g1, _, g3⟩ := lnsFrom_next s s.size 0 0 i x (by omega) (by omega) (Nat.le_refl _) .zero h
  have hx := x.2
  have hb := brk_spec s s.size x.1.2.1 (by omega) (by omega)
  rw [← h2] at hb
  refine ⟨g1, ?_, h1, hx.2.1, hx.2.2, hb.2.2.1, ?_⟩
  · rcases g3 with ⟨g3, _⟩ | ⟨g3, _⟩
    · rw [g3]; exact bnd_size s
    · exact (bnd_isB s _ g3).1
  · rcases g3 with ⟨g3, _, g4⟩ | g3
    · exact .inl ⟨g3, g4⟩
    · exact .inr g3
theorem ln_first (s : ByteArray) : ∃ x, (lns s)[0]? = some x ∧ x.1.2.1 = 0 := by
  obtain ⟨x, hx⟩ : ∃ x, (lns s)[0]? = some x := ⟨_, List.getElem?_eq_getElem (List.length_pos_iff.2 (lns_ne s))⟩
  refine ⟨x, hx, ?_⟩
  have h1 := begs_at s 0 x hx
  rw [begs_lns] at h1
  simp at h1
  omega
/-- Lines rise. -/
theorem ln_rise (s : ByteArray) (i : Nat) (x : Ln s) (h : (lns s)[i]? = some x) : ∀ (d : Nat) (y : Ln s), (lns s)[i + d + 1]? = some y → x.1.2.2 < y.1.2.1 := by
  intro d
  induction d with
  | zero =>
    intro y hy
    obtain ⟨_, _, _, _, _, _, ⟨_, hl⟩ | ⟨_, z, hz, he⟩⟩ := ln s i x h
    · have := (List.getElem?_eq_some_iff.1 hy).1; omega
    · rw [Nat.add_zero, hz] at hy
      obtain rfl := Option.some.inj hy
      have := nxt_gt s x.1.2.2
      omega
  | succ d ih =>
    intro y hy
    obtain ⟨z, hz⟩ : ∃ z, (lns s)[i + d + 1]? = some z := ⟨_, List.getElem?_eq_getElem (by have := (List.getElem?_eq_some_iff.1 hy).1; omega)⟩
    have h1 := ih z hz
    have hz2 := z.2
    obtain ⟨_, _, _, _, _, _, ⟨_, hl⟩ | ⟨_, z', hz', he⟩⟩ := ln s _ z hz
    · have := (List.getElem?_eq_some_iff.1 hy).1; omega
    · rw [show i + d + 1 + 1 = i + (d + 1) + 1 by omega] at hz'
      rw [hz'] at hy
      obtain rfl := Option.some.inj hy
      have := nxt_gt s z.1.2.2
      omega
end Go.Proofs.YtbjhmknahldhaaaDoor.XYlines
