/-
  The lines of a string, byte by byte. No program in sight.
-/
import Derived.Test.YtbjhmknahldhaaaDoorXEv
import Derived.Test.YtbjhmknahldhaaaDoorQ0
import Derived.Test.YtbjhmknahldhaaaDoorQ8
namespace Go.Proofs.YtbjhmknahldhaaaDoor.XLines
open Go Go.RowKit Go.Proofs.YtbjhmknahldhaaaDoor.Q Go.Proofs.YtbjhmknahldhaaaDoorW.PrintWords Go.Proofs.YtbjhmknahldhaaaDoorW.PrintLast Go.Proofs.YtbjhmknahldhaaaDoorW.PrintMore Go.Proofs.YtbjhmknahldhaaaDoor.XEv
set_option linter.unusedVariables false
set_option linter.unusedSimpArgs false

/-- A break's byte stands there. -/
def isB (s : ByteArray) (i : Nat) : Prop := i < s.size ∧ (B s i = 10 ∨ B s i = 13)
instance (s : ByteArray) (i : Nat) : Decidable (isB s i) := by unfold isB; exact inferInstance
theorem ext_cons (s : ByteArray) (a : Nat) (h : a < s.size) : (s.extract a s.size).data.toList = s[a]'h :: (s.extract (a + 1) s.size).data.toList := by
  have hs : s.size = s.data.size := rfl
  simp only [ByteArray.data_extract, Array.toList_extract, List.extract_eq_take_drop]
  have e1 : s.data.toList.drop a = s[a]'h :: s.data.toList.drop (a + 1) := by
    rw [List.drop_eq_getElem_cons (by rw [Array.length_toList]; exact h)]
    rfl
  rw [e1, show s.size - a = (s.size - (a + 1)) + 1 by omega, List.take_succ_cons]
theorem ext_nil (s : ByteArray) (a : Nat) (h : s.size ≤ a) : (s.extract a s.size).data.toList = [] := by
  have : (s.extract a s.size).size = 0 := by rw [ByteArray.size_extract]; omega
  have h2 := Lib.size_eq (s.extract a s.size)
  exact List.eq_nil_of_length_eq_zero (by omega)
theorem B_get (s : ByteArray) (a : Nat) (h : a < s.size) : B s a = (s[a]'h).toNat := by unfold B; rw [get!_in s a h]
theorem kf_cons (s : ByteArray) (a : Nat) (h : a < s.size) : kf s a = if B s a = 10 ∨ B s a = 13 then 0 else if kf s (a + 1) = -1 then -1 else kf s (a + 1) + 1 := by
  unfold kf
  rw [ext_cons s a h, Lib.indexAny, B_get s a h]
  have hc : (([10, 13] : List UInt8).contains (s[a]'h) = true) ↔ ((s[a]'h).toNat = 10 ∨ (s[a]'h).toNat = 13) := by
    simp only [List.contains_eq_mem, List.mem_cons, List.not_mem_nil, or_false, decide_eq_true_eq]
    constructor
    · rintro (e | e) <;> rw [e] <;> decide
    · rintro (e | e)
      · exact .inl (UInt8.toNat_inj.1 e)
      · exact .inr (UInt8.toNat_inj.1 e)
  by_cases hb : (s[a]'h).toNat = 10 ∨ (s[a]'h).toNat = 13
  · rw [if_pos hb, if_pos (hc.2 hb)]
  · rw [if_neg hb, if_neg (fun e => hb (hc.1 e))]
    simp only [beq_iff_eq]
theorem kf_ge (s : ByteArray) (a : Nat) : -1 ≤ kf s a := Lib.indexAny_ge _ _
theorem crlf_iff (s : ByteArray) (a : Nat) : crlf s a = true ↔ (a + 1 < s.size ∧ B s a = 13 ∧ B s (a + 1) = 10) := by
  by_cases h : a + 1 < s.size
  · have h0 : a < s.size := by omega
    unfold crlf Lib.hasPrefix
    rw [ext_cons s a h0, ext_cons s (a + 1) h, B_get s a h0, B_get s (a + 1) h]
    simp only [List.isPrefixOf, Bool.and_true, Bool.and_eq_true, beq_iff_eq]
    constructor
    · rintro ⟨e1, e2⟩; exact ⟨h, by rw [← e1]; rfl, by rw [← e2]; rfl⟩
    · rintro ⟨_, e1, e2⟩; exact ⟨(UInt8.toNat_inj.1 e1).symm, (UInt8.toNat_inj.1 e2).symm⟩
  · constructor
    · intro e; have := crlf_room s a e; omega
    · rintro ⟨e, _⟩; omega
/-- The first break from a place on, or the string's end. -/
def brk (s : ByteArray) (a : Nat) : Nat := if kf s a < 0 then s.size else a + (kf s a).toNat
theorem kf_hit (s : ByteArray) (a : Nat) (h : isB s a) : kf s a = 0 := by rw [kf_cons s a h.1, if_pos h.2]
theorem kf_skip (s : ByteArray) (a : Nat) (h0 : a < s.size) (h : ¬ isB s a) : kf s a = if kf s (a + 1) = -1 then -1 else kf s (a + 1) + 1 := by
  rw [kf_cons s a h0, if_neg (fun e => h ⟨h0, e⟩)]
theorem brk_hit (s : ByteArray) (a : Nat) (h : isB s a) : brk s a = a := by unfold brk; rw [kf_hit s a h]; rfl
theorem brk_skip (s : ByteArray) (a : Nat) (h0 : a < s.size) (h : ¬ isB s a) : brk s a = brk s (a + 1) := by
  have h1 := kf_ge s (a + 1)
  unfold brk
  rw [kf_skip s a h0 h]
  by_cases e : kf s (a + 1) = -1
  · rw [if_pos e, if_pos (by omega), if_pos (by omega)]
  · rw [if_neg e, if_neg (by omega), if_neg (by omega)]; omega
theorem brk_end (s : ByteArray) (a : Nat) (h : s.size ≤ a) : brk s a = s.size := if_pos (kf_end s a h)
/-- Where lines begin, behind a place. -/
def sts (s : ByteArray) : Nat → Nat → List Int
  | 0, _ => []
  | b + 1, a => if a < s.size then (if isB s a then (nxt s a : Int) :: sts s b (nxt s a) else sts s b (a + 1)) else []
def tl (s : ByteArray) (f n a : Nat) : List Int := if kf s a < 0 then [] else begs (lnsFrom s (f - 1) (n + 1) (nxt s (a + (kf s a).toNat)))
theorem mkLn_beg (s : ByteArray) (n a b : Nat) (ha : a ≤ b) (hb : b ≤ s.size) : (mkLn s n a b).1.2.1 = a := by
  show min a (min b s.size) = a
  omega
theorem mkLn_end (s : ByteArray) (n a b : Nat) (hb : b ≤ s.size) : (mkLn s n a b).1.2.2 = b := by
  show min b s.size = b
  omega
theorem mkLn_num (s : ByteArray) (n a b : Nat) (hb : n ≤ s.size) : (mkLn s n a b).1.1 = n := by
  show min n s.size = n
  omega
theorem hit_lt (s : ByteArray) (a : Nat) (ha : a ≤ s.size) (hk : ¬ kf s a < 0) : a + (kf s a).toNat < s.size := by
  have := (kf_range s a ha).2
  rw [if_neg hk] at this
  omega
theorem begs_eq (s : ByteArray) (f n a : Nat) (hf : s.size ≤ a + f) (ha : a ≤ s.size) : begs (lnsFrom s f n a) = (a : Int) :: tl s f n a := by
  rw [lnsFrom_eq s f n a hf ha]
  unfold tl
  by_cases hk : kf s a < 0
  · rw [if_pos hk, if_pos hk]
    simp only [begs, List.map_cons, List.map_nil, mkLn_beg s n a _ ha (Nat.le_refl _)]
  · rw [if_neg hk, if_neg hk]
    have := hit_lt s a ha hk
    simp only [begs, List.map_cons, mkLn_beg s n a (a + (kf s a).toNat) (by omega) (by omega)]
theorem tl_sts (s : ByteArray) : ∀ (m a f n b : Nat), s.size - a ≤ m → a ≤ s.size → s.size ≤ a + f → s.size ≤ a + b → tl s f n a = sts s b a := by
  intro m
  induction m with
  | zero =>
    intro a f n b hm ha hf hb
    have : a = s.size := by omega
    subst this
    unfold tl
    rw [if_pos (kf_end s _ (Nat.le_refl _))]
    cases b with
    | zero => rfl
    | succ b => rw [sts, if_neg (by omega)]
  | succ m ih =>
    intro a f n b hm ha hf hb
    by_cases h : a < s.size
    · obtain ⟨b, rfl⟩ : ∃ c, b = c + 1 := ⟨b - 1, by omega⟩
      rw [sts, if_pos h]
      by_cases hB : isB s a
      · rw [if_pos hB]
        unfold tl
        rw [kf_hit s a hB, if_neg (by omega)]
        have h1 := nxt_gt s a
        have h2 := nxt_le s a h
        show begs (lnsFrom s (f - 1) (n + 1) (nxt s a)) = _
        rw [begs_eq s _ _ _ (by omega) h2, ih (nxt s a) (f - 1) (n + 1) b (by omega) h2 (by omega) (by omega)]
      · rw [if_neg hB, ← ih (a + 1) f n b (by omega) (by omega) (by omega) (by omega)]
        unfold tl
        have h1 := kf_ge s (a + 1)
        rw [kf_skip s a h hB]
        by_cases e : kf s (a + 1) = -1
        · rw [if_pos e, if_pos (by omega), if_pos (by omega)]
        · rw [if_neg e, if_neg (by omega), if_neg (by omega)]
          rw [show a + (kf s (a + 1) + 1).toNat = a + 1 + (kf s (a + 1)).toNat by omega]
    · have : a = s.size := by omega
      subst this
      unfold tl
      rw [if_pos (kf_end s _ (Nat.le_refl _))]
      cases b with
      | zero => rfl
      | succ b => rw [sts, if_neg (by omega)]
theorem begs_lns (s : ByteArray) : begs (lns s) = 0 :: sts s s.size 0 := by
  unfold lns
  rw [begs_eq s s.size 0 0 (by omega) (by omega), tl_sts s s.size 0 s.size 0 s.size (by omega) (by omega) (by omega) (by omega)]
  rfl
/-- The i-th line: its number; its end. -/
theorem lns_num (s : ByteArray) : ∀ (f n a i : Nat) (x : Ln s), s.size ≤ a + f → a ≤ s.size → n ≤ a → (lnsFrom s f n a)[i]? = some x → x.1.1 = n + i ∧ x.1.2.2 = brk s x.1.2.1 := by
  intro f
  induction f with
  | zero =>
    intro n a i x hf ha hn hx
    rw [lnsFrom_eq s _ n a hf ha, if_pos (kf_end s a (by omega))] at hx
    cases i with
    | zero =>
      obtain rfl := Option.some.inj hx
      rw [mkLn_num s n a _ (by omega), mkLn_beg s n a _ ha (Nat.le_refl _), mkLn_end s n a _ (Nat.le_refl _), brk_end s a (by omega)]
      exact ⟨rfl, rfl⟩
    | succ i => simp at hx
  | succ f ih =>
    intro n a i x hf ha hn hx
    rw [lnsFrom_eq s _ n a hf ha] at hx
    by_cases hk : kf s a < 0
    · rw [if_pos hk] at hx
      cases i with
      | zero =>
        obtain rfl := Option.some.inj hx
        rw [mkLn_num s n a _ (by omega), mkLn_beg s n a _ ha (Nat.le_refl _), mkLn_end s n a _ (Nat.le_refl _)]
        exact ⟨rfl, (if_pos hk).symm⟩
      | succ i => simp at hx
    · rw [if_neg hk] at hx
      have hl := hit_lt s a ha hk
      have h1 := nxt_gt s (a + (kf s a).toNat)
      have h2 := nxt_le s (a + (kf s a).toNat) hl
      cases i with
      | zero =>
        obtain rfl := Option.some.inj hx
        rw [mkLn_num s n a _ (by omega), mkLn_beg s n a _ (by omega) (by omega), mkLn_end s n a _ (by omega)]
        exact ⟨rfl, (if_neg hk).symm⟩
      | succ i =>
        rw [List.getElem?_cons_succ] at hx
        have := ih (n + 1) _ i x (by omega) h2 (by omega) hx
        exact ⟨by omega, this.2⟩
theorem lns_at (s : ByteArray) (i : Nat) (x : Ln s) (h : (lns s)[i]? = some x) : x.1.1 = i ∧ x.1.2.2 = brk s x.1.2.1 := by
  have := lns_num s s.size 0 0 i x (by omega) (by omega) (Nat.le_refl _) h
  exact ⟨by omega, this.2⟩
theorem begs_at (s : ByteArray) (i : Nat) (x : Ln s) (h : (lns s)[i]? = some x) : (begs (lns s))[i]? = some (x.1.2.1 : Int) := by
  unfold begs; rw [List.getElem?_map, h]; rfl
theorem rd_of {L : List Int} {n : Nat} {v : Int} (h : L[n]? = some v) : rd L (n : Int) = v := by
  have : L.getD n 0 = v := by rw [List.getD_eq_getElem?_getD, h]; rfl
  exact this
theorem lns_ne (s : ByteArray) : lns s ≠ [] := by
  intro h
  have := begs_lns s
  rw [h] at this
  cases this
end Go.Proofs.YtbjhmknahldhaaaDoor.XLines
