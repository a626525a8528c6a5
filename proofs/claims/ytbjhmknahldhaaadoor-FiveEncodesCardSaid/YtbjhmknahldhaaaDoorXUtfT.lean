/-
  Characters in a string: where one begins, whether all are there. The functions of layer 1.
-/
import Derived.Test.YtbjhmknahldhaaaDoorXAchr
import Derived.Lib.ValidLaws
import Derived.Lib.RuneCountTail
import Derived.Test.YtbjhmknahldhaaaDoorQ8
namespace Go.Proofs.YtbjhmknahldhaaaDoor.XUtfT
open Go Go.RowKit Go.Proofs.YtbjhmknahldhaaaDoor.Q Go.Proofs.YtbjhmknahldhaaaDoorW.PrintWords Go.Proofs.YtbjhmknahldhaaaDoorW.PrintLast Go.Proofs.YtbjhmknahldhaaaDoorW.PrintMore Go.Proofs.YtbjhmknahldhaaaDoor.XEv Go.Proofs.YtbjhmknahldhaaaDoor.XRef01
set_option linter.unusedVariables false
set_option linter.unusedSimpArgs false

theorem dec_lead (s : ByteArray) (p : Nat) (h : 2 ≤ (Utf8.decode s p).2) : 192 ≤ B s p := by
  show 192 ≤ (s.get! (p + 0)).toNat
  revert h
  simp only [Utf8.decode]
  repeat' split
  all_goals intro h
  all_goals simp only [Bool.and_eq_true, decide_eq_true_eq, beq_iff_eq] at *
  all_goals omega
theorem dec_in (s : ByteArray) (p j : Nat) (h1 : 1 ≤ j) (h2 : j < (Utf8.decode s p).2) : p + j < s.size ∧ 128 ≤ B s (p + j) ∧ B s (p + j) < 192 := by
  show p + j < s.size ∧ 128 ≤ (s.get! (p + j)).toNat ∧ (s.get! (p + j)).toNat < 192
  revert h2
  simp only [Utf8.decode]
  repeat' split
  all_goals intro h2
  all_goals simp only [Bool.and_eq_true, decide_eq_true_eq, beq_iff_eq] at *
  all_goals (try omega)
  all_goals obtain rfl | rfl | rfl : j = 1 ∨ j = 2 ∨ j = 3 := by omega
  all_goals (first | omega | skip)
theorem dec_cont (s : ByteArray) (p : Nat) (h1 : 128 ≤ B s p) (h2 : B s p < 192) : Utf8.decode s p = (65533, 1) := by
  have h1' : 128 ≤ (s.get! (p + 0)).toNat := h1
  have h2' : (s.get! (p + 0)).toNat < 192 := h2
  simp only [Utf8.decode]
  repeat' split
  all_goals (try simp only [Bool.and_eq_true, decide_eq_true_eq, beq_iff_eq] at *)
  all_goals (first | omega | rfl)
theorem bad_of_cont (s : ByteArray) (p : Nat) (h1 : 128 ≤ B s p) (h2 : B s p < 192) : bad s p := by
  unfold bad; rw [dec_cont s p h1 h2]; exact ⟨rfl, rfl⟩
theorem good_of_wide (s : ByteArray) (p : Nat) (h : 2 ≤ XUtf.width s p) : ¬ bad s p := fun hb => by have := hb.2; unfold XUtf.width at h; omega

theorem go_tail (s : ByteArray) (pos : Nat) (h : pos < s.size) : Lib.decodeGo (s.extract pos s.size) = Utf8.decode s pos := by
  unfold Lib.decodeGo
  rw [if_neg (by rw [Lib.tail_size]; omega), Lib.tail_decode, Nat.add_zero]
theorem utf_next (s : ByteArray) (p : Nat) (hp : p < s.size) : Ev (fun k => utf_Next.f k s p) (nx s p) := by
  have e0 : ¬ (p : Int) < 0 := by omega
  have e1 : decide ((p : Int) ≥ (s.size : Int)) = false := decide_eq_false (by omega)
  have c0 : (0 : Int) ≤ (p : Int) := by omega
  have c1 : (p : Int) ≤ (s.size : Int) := by omega
  simp only [utf_Next.f, if_neg e0, e1]
  refine up ?_
  simp only [utf_Next.j0, Bool.false_eq_true, if_false, if_pos c0, if_pos c1]
  have hd : utf8_DecodeRuneInString.f (s.extract ((p : Int)).toNat s.size) = some (((Utf8.decode s p).1 : Int), ((Utf8.decode s p).2 : Int)) := by
    unfold utf8_DecodeRuneInString.f
    rw [show ((p : Int)).toNat = p from rfl, go_tail s p hp]
  refine cbind hd (now fun _ => ?_)
  unfold nx nxN
  by_cases h1 : (Utf8.decode s p).1 = 65533
  · by_cases h2 : (Utf8.decode s p).2 = 1
    · rw [if_pos (by omega), if_pos (by omega), if_pos ⟨h1, h2⟩]
    · rw [if_pos (by omega), if_neg (by omega), if_neg (fun h => h2 h.2)]
  · rw [if_neg (by omega), if_neg (fun h => h1 h.1)]
theorem utf_next_out (s : ByteArray) (a : Int) (h : a < 0 ∨ (s.size : Int) ≤ a) : Ev (fun k => utf_Next.f k s a) (0, 0, false) := by
  simp only [utf_Next.f]
  by_cases h0 : a < 0
  · simp only [if_pos h0]
    refine up ?_
    simp only [utf_Next.j0, if_true]
    exact now fun _ => rfl
  · have h1 : a ≥ (s.size : Int) := by omega
    simp only [if_neg h0, decide_eq_true h1]
    refine up ?_
    simp only [utf_Next.j0, if_true]
    exact now fun _ => rfl

/-- Are all characters there, from a place on? -/
def okF (s : ByteArray) : Nat → Nat → Bool
  | 0, _ => true
  | b + 1, p => if p < s.size then (if bad s p then false else okF s b (p + XUtf.width s p)) else true
theorem drop_extract (s : ByteArray) (p : Nat) : (⟨(s.data.toList.drop p).toArray⟩ : ByteArray) = s.extract p s.size := by
  apply ByteArray.ext
  apply Array.ext'
  show s.data.toList.drop p = (s.extract p s.size).data.toList
  simp only [ByteArray.data_extract, Array.toList_extract, List.extract_eq_take_drop]
  rw [List.take_of_length_le]
  rw [List.length_drop, Array.length_toList]
  exact Nat.le_refl _
theorem decodeL_drop (s : ByteArray) (p : Nat) : Lib.decodeL (s.data.toList.drop p) = Utf8.decode s p := by
  unfold Lib.decodeL
  rw [drop_extract, Lib.tail_decode, Nat.add_zero]
theorem valid_ok (s : ByteArray) : ∀ (b p : Nat), s.size ≤ p + b → Lib.validD (s.data.toList.drop p) = okF s b p := by
  intro b
  induction b with
  | zero =>
    intro p hb
    rw [List.drop_eq_nil_of_le (by rw [Array.length_toList]; exact hb)]
    rfl
  | succ b ih =>
    intro p hb
    rw [okF]
    by_cases h : p < s.size
    · have hne : s.data.toList.drop p ≠ [] := by
        intro e
        have := congrArg List.length e
        rw [List.length_drop, Array.length_toList] at this
        have h' : p < s.data.size := h
        simp at this
        omega
      have hw := XUtf.width_range s p
      rw [if_pos h, Lib.validD_step _ hne, decodeL_drop s p, List.drop_drop, ih (p + (Utf8.decode s p).2) (by unfold XUtf.width at hw; omega)]
      rfl
    · rw [if_neg h, List.drop_eq_nil_of_le (by rw [Array.length_toList]; exact Nat.le_of_not_lt h)]
      rfl
/-- A place where a character begins, gone through from the string's begin. -/
inductive Bnd (s : ByteArray) : Nat → Prop
  | zero : Bnd s 0
  | next {p : Nat} : Bnd s p → p < s.size → Bnd s (p + XUtf.width s p)
/-- Where a place's character begins: the reference's walk. -/
def begF (s : ByteArray) (at' : Nat) : Nat → Nat → Nat
  | 0, p => p
  | b + 1, p => if at' < p + XUtf.width s p then p else begF s at' b (p + XUtf.width s p)
theorem begF_bnd (s : ByteArray) (a : Nat) (ha : a < s.size) : ∀ (b p : Nat), a < p + b → p ≤ a → Bnd s p → Bnd s (begF s a b p) ∧ begF s a b p ≤ a ∧ a < begF s a b p + XUtf.width s (begF s a b p) := by
  intro b
  induction b with
  | zero => intro p h1 h2; omega
  | succ b ih =>
    intro p h1 h2 hp
    rw [begF]
    have hw := XUtf.width_range s p
    split
    · rename_i h; exact ⟨hp, h2, h⟩
    · rename_i h; exact ih _ (by omega) (by omega) (.next hp (by omega))
def chain (s : ByteArray) : Nat → Nat
  | 0 => 0
  | n + 1 => if chain s n < s.size then chain s n + XUtf.width s (chain s n) else chain s n
theorem chain_mono (s : ByteArray) (m : Nat) : ∀ d, chain s m ≤ chain s (m + d)
  | 0 => Nat.le_refl _
  | d + 1 => by
    have h := chain_mono s m d
    show chain s m ≤ chain s (m + d + 1)
    rw [chain]
    split <;> omega
theorem bnd_chain {s : ByteArray} {p : Nat} (h : Bnd s p) : ∃ n, p = chain s n := by
  induction h with
  | zero => exact ⟨0, rfl⟩
  | next _ hlt ih =>
    obtain ⟨n, rfl⟩ := ih
    exact ⟨n + 1, by rw [chain, if_pos hlt]⟩
/-- Boundaries lie one behind the other. -/
theorem bnd_apart {s : ByteArray} {p q : Nat} (hp : Bnd s p) (hq : Bnd s q) (h1 : p < q) : p + XUtf.width s p ≤ q := by
  obtain ⟨m, rfl⟩ := bnd_chain hp
  obtain ⟨n, rfl⟩ := bnd_chain hq
  have hmn : m < n := by
    rcases Nat.lt_or_ge m n with h | h
    · exact h
    · have := chain_mono s n (m - n)
      rw [show n + (m - n) = m by omega] at this
      omega
  have h2 := chain_mono s (m + 1) (n - (m + 1))
  rw [show m + 1 + (n - (m + 1)) = n by omega, chain] at h2
  split at h2
  · exact h2
  · rename_i hge
    -- nothing follows behind the end
    exfalso
    have stay : ∀ d, chain s (m + d) = chain s m := by
      intro d
      induction d with
      | zero => rfl
      | succ d ih => show chain s (m + d + 1) = _; rw [chain, ih, if_neg hge]
    have := stay (n - m)
    rw [show m + (n - m) = n by omega] at this
    omega
theorem bnd_le {s : ByteArray} {p : Nat} (h : Bnd s p) : p ≤ s.size := by
  cases h with
  | zero => exact Nat.zero_le _
  | next _ hlt => exact XUtf.width_fit s _ hlt
/-- Where a wide character stands, a character begins. -/
theorem bnd_wide (s : ByteArray) (q : Nat) (hq : q < s.size) (hw : 2 ≤ XUtf.width s q) : Bnd s q := by
  obtain ⟨h1, h2, h3⟩ := begF_bnd s q hq (q + 1) 0 (by omega) (by omega) .zero
  by_cases he : begF s q (q + 1) 0 = q
  · rw [he] at h1; exact h1
  · exfalso
    have hin := dec_in s (begF s q (q + 1) 0) (q - begF s q (q + 1) 0) (by omega) (by unfold XUtf.width at h3; omega)
    rw [show begF s q (q + 1) 0 + (q - begF s q (q + 1) 0) = q by omega] at hin
    have := dec_lead s q hw
    omega
/-- Going back at most three bytes finds where the character begins. -/
def backF (s : ByteArray) (a : Nat) : Nat → Nat → Nat
  | 0, _ => a
  | f + 1, k => if k < 4 ∧ k ≤ a then (if k < XUtf.width s (a - k) then a - k else backF s a f (k + 1)) else a
theorem backF_eq (s : ByteArray) (a : Nat) (ha : a < s.size) : ∀ (f k : Nat), 4 ≤ k + f → 1 ≤ k → (∀ j, 1 ≤ j → j < k → j ≤ a → ¬ j < XUtf.width s (a - j)) → backF s a f k = begF s a (a + 1) 0 := by
  obtain ⟨h1, h2, h3⟩ := begF_bnd s a ha (a + 1) 0 (by omega) (by omega) .zero
  obtain ⟨p, hp⟩ : ∃ p, begF s a (a + 1) 0 = p := ⟨_, rfl⟩
  rw [hp] at h1 h2 h3 ⊢
  have hwr := XUtf.width_range s p
  intro f
  induction f with
  | zero =>
    intro k hk h0 hn
    rw [backF]
    by_cases he : p = a
    · exact he.symm
    · exact absurd (show a - p < XUtf.width s (a - (a - p)) by rw [show a - (a - p) = p by omega]; omega) (hn (a - p) (by omega) (by omega) (by omega))
  | succ f ih =>
    intro k hk h0 hn
    rw [backF]
    by_cases c : k < 4 ∧ k ≤ a
    · rw [if_pos c]
      by_cases d : k < XUtf.width s (a - k)
      · rw [if_pos d]
        have hb := bnd_wide s (a - k) (by omega) (by omega)
        rcases Nat.lt_trichotomy p (a - k) with h | h | h
        · have := bnd_apart h1 hb h; omega
        · exact h.symm
        · have := bnd_apart hb h1 h; omega
      · rw [if_neg d]
        exact ih (k + 1) (by omega) (by omega) (fun j hj1 hj2 hj3 => by
          by_cases e : j = k
          · subst e; exact d
          · exact hn j hj1 (by omega) hj3)
    · rw [if_neg c]
      by_cases he : p = a
      · exact he.symm
      · exact absurd (show a - p < XUtf.width s (a - (a - p)) by rw [show a - (a - p) = p by omega]; omega) (hn (a - p) (by omega) (by omega) (by omega))
theorem begin_back (s : ByteArray) (hs : s.size ≤ 140737488351232) (a : Nat) (ha : a < s.size) : ∀ (f k : Nat), 4 ≤ k + f → 1 ≤ k → Ev (fun n => utf_Begin.l0 n s a k) (backF s a f k : Int) := by
  intro f
  induction f with
  | zero =>
    intro k hk h0
    refine up ?_
    have c : ¬ (k : Int) < 4 := by omega
    simp only [utf_Begin.l0, if_neg c]
    refine up ?_
    simp only [utf_Begin.j1, Bool.false_eq_true, if_false]
    exact now fun _ => rfl
  | succ f ih =>
    intro k hk h0
    refine up ?_
    rw [backF]
    by_cases c4 : k < 4
    · have c : (k : Int) < 4 := by omega
      simp only [utf_Begin.l0, if_pos c]
      refine up ?_
      by_cases ca : k ≤ a
      · have cd : decide ((k : Int) ≤ (a : Int)) = true := decide_eq_true (by omega)
        have e1 : wrap64 ((a : Int) - (k : Int)) = ((a - k : Nat) : Int) := by rw [w64 (by omega) (by omega)]; omega
        have e2 : wrap64 ((k : Int) + 1) = ((k + 1 : Nat) : Int) := by rw [w64 (by omega) (by omega)]; rfl
        simp only [utf_Begin.j1, cd, if_true, e1, e2]
        refine bind (utf_next s (a - k) (by omega)) ?_
        rw [if_pos ⟨c4, ca⟩]
        by_cases hb : bad s (a - k)
        · rw [nx_bad s _ hb]
          have : ¬ k < XUtf.width s (a - k) := by have := hb.2; unfold XUtf.width; omega
          rw [if_neg this]
          simp only [Bool.false_eq_true, if_false]
          exact ih (k + 1) (by omega) (by omega)
        · rw [nx_good s _ hb]
          simp only [if_true]
          by_cases d : k < XUtf.width s (a - k)
          · have d' : ((Utf8.decode s (a - k)).2 : Int) > (k : Int) := by unfold XUtf.width at d; omega
            rw [if_pos d]
            simp only [if_pos d']
            exact now fun _ => rfl
          · have d' : ¬ ((Utf8.decode s (a - k)).2 : Int) > (k : Int) := by unfold XUtf.width at d; omega
            rw [if_neg d]
            simp only [if_neg d']
            exact ih (k + 1) (by omega) (by omega)
      · have cd : decide ((k : Int) ≤ (a : Int)) = false := decide_eq_false (by omega)
        rw [if_neg (fun h => ca h.2)]
        simp only [utf_Begin.j1, cd, Bool.false_eq_true, if_false]
        exact now fun _ => rfl
    · have c : ¬ (k : Int) < 4 := by omega
      rw [if_neg (fun h => c4 h.1)]
      simp only [utf_Begin.l0, if_neg c]
      refine up ?_
      simp only [utf_Begin.j1, Bool.false_eq_true, if_false]
      exact now fun _ => rfl
/-- Where the character of any place begins. -/
def beg (s : ByteArray) (a : Int) : Nat := if a < 0 then 0 else if (s.size : Int) ≤ a then s.size else begF s a.toNat (a.toNat + 1) 0
theorem utf_begin (s : ByteArray) (hs : s.size ≤ 140737488351232) (a : Int) : Ev (fun k => utf_Begin.f k s a) (beg s a : Int) := by
  unfold beg
  simp only [utf_Begin.f]
  by_cases h0 : a < 0
  · rw [if_pos h0]; simp only [if_pos h0]; exact now fun _ => rfl
  · by_cases h1 : (s.size : Int) ≤ a
    · have h1' : a ≥ (s.size : Int) := h1
      rw [if_neg h0, if_pos h1]; simp only [if_neg h0, if_pos h1']; exact now fun _ => rfl
    · have h1' : ¬ a ≥ (s.size : Int) := h1
      obtain ⟨n, rfl⟩ : ∃ n : Nat, a = n := ⟨a.toNat, by omega⟩
      rw [if_neg h0, if_neg h1]
      simp only [if_neg h0, if_neg h1']
      have hn : n < s.size := by omega
      have := begin_back s hs n hn 3 1 (by omega) (by omega)
      rw [backF_eq s n hn 3 1 (by omega) (by omega) (fun j h1 h2 => by omega)] at this
      exact this
end Go.Proofs.YtbjhmknahldhaaaDoor.XUtfT
