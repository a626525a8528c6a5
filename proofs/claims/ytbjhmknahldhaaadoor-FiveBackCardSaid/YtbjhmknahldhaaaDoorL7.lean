/- Words and walks of this claim, put together by this repo's wip/xlink.py out of XEv, XAchr, XUtfT, XWchars, XLines, XYlines, XFa, XFp, XFq, XFd, XFe, XFs. -/
import Derived.Test.YtbjhmknahldhaaaDoorL0
import Derived.Test.YtbjhmknahldhaaaDoorL1
import Derived.Lib.ValidLaws
import Derived.Lib.RuneCountTail
import Derived.Lib.MapLaws
import Derived.Lib.TrimUEq
import Derived.Test.YtbjhmknahldhaaaDoorL6
import Derived.Test.YtbjhmknahldhaaaDoorL2
import Derived.Test.YtbjhmknahldhaaaDoorL3
import Derived.Test.YtbjhmknahldhaaaDoorL4
section
namespace Go.Proofs.YtbjhmknahldhaaaDoor.XEv
open Go Go.RowKit Go.Proofs.YtbjhmknahldhaaaDoorW.PrintWords Go.Proofs.YtbjhmknahldhaaaDoorW.PrintLast
set_option linter.unusedVariables false
set_option linter.unusedSimpArgs false
theorem up {α : Type} {g : Nat → Option α} {r : α} (h : Ev (fun k => g (k + 1)) r) : Ev g r := Ev.step (fun _ => rfl) h
theorem now {α : Type} {g : Nat → Option α} {r : α} (h : ∀ k, g k = some r) : Ev g r := ⟨0, fun k _ => h k⟩
theorem congr {α : Type} {g f : Nat → Option α} {r : α} (h : ∀ k, g k = f k) (k : Ev f r) : Ev g r := Ev.congr h k
theorem bind {α β : Type} {g : Nat → Option α} {f : Nat → α → Option β} {a : α} {r : β} (h : Ev g a) (k : Ev (fun n => f n a) r) : Ev (fun n => (g n).bind (f n)) r := Ev.bind h k
theorem cbind {α β : Type} {o : Option α} {f : Nat → α → Option β} {a : α} {r : β} (h : o = some a) (k : Ev (fun n => f n a) r) : Ev (fun n => o.bind (f n)) r := by
  subst h; exact k
theorem pos {α : Type} {c : Prop} [Decidable c] {g f : Nat → Option α} {r : α} (h : c) (k : Ev g r) : Ev (fun n => if c then g n else f n) r := by
  simpa only [if_pos h] using k
theorem neg {α : Type} {c : Prop} [Decidable c] {g f : Nat → Option α} {r : α} (h : ¬ c) (k : Ev f r) : Ev (fun n => if c then g n else f n) r := by
  simpa only [if_neg h] using k
theorem ite {α : Type} {c : Prop} [Decidable c] {g f : Nat → Option α} {r s : α} (h : c → Ev g r) (k : ¬ c → Ev f s) : Ev (fun n => if c then g n else f n) (if c then r else s) := by
  by_cases hc : c
  · simpa only [if_pos hc] using h hc
  · simpa only [if_neg hc] using k hc
/-- a choice that comes to one answer on either side -/
theorem both {α : Type} {c : Prop} [Decidable c] {g f : Nat → Option α} {r : α} (h : c → Ev g r) (k : ¬ c → Ev f r) : Ev (fun n => if c then g n else f n) r := by
  by_cases hc : c
  · simpa only [if_pos hc] using h hc
  · simpa only [if_neg hc] using k hc
theorem w64 {x : Int} (h0 : -9223372036854775808 ≤ x) (h1 : x ≤ 9223372036854775807) : wrap64 x = x := by unfold wrap64; omega
theorem w32 {x : Int} (h0 : -2147483648 ≤ x) (h1 : x ≤ 2147483647) : wrap32 x = x := by unfold wrap32; omega
theorem w1 (j : Nat) (h : j < 9223372036854775807) : wrap64 ((j : Int) + 1) = ((j + 1 : Nat) : Int) := by unfold wrap64; omega
theorem wsub1 (j : Nat) (h0 : 0 < j) (h : j < 9223372036854775807) : wrap64 ((j : Int) - 1) = ((j - 1 : Nat) : Int) := by unfold wrap64; omega
theorem wadd (i j : Nat) (h : i + j < 9223372036854775807) : wrap64 ((i : Int) + (j : Int)) = ((i + j : Nat) : Int) := by unfold wrap64; omega
/-- A byte of a string, outside of it 0. -/
def B (s : ByteArray) (i : Nat) : Nat := (s.get! i).toNat
theorem B_lt (s : ByteArray) (i : Nat) : B s i < 256 := UInt8.toNat_lt _
theorem get!_in (s : ByteArray) (i : Nat) (h : i < s.size) : s.get! i = s[i]'h := by
  show s.get! i = _
  simp [ByteArray.get!, getElem!_pos, h]
  rfl
theorem get!_out (s : ByteArray) (i : Nat) (h : ¬ i < s.size) : s.get! i = 0 := by
  have h2 : ¬ i < s.data.size := h
  simp only [ByteArray.get!]
  rw [getElem!_neg s.data i h2]
  rfl
theorem bt_B (s : ByteArray) (i : Int) : bt s i = (B s i.toNat : Int) := by
  unfold bt B
  split
  · rename_i h1
    rw [get!_in s _ h1]
  · rename_i h1
    rw [get!_out s _ h1]
    rfl
theorem bt_nat (s : ByteArray) (i : Nat) : bt s (i : Int) = (B s i : Int) := bt_B s i
end Go.Proofs.YtbjhmknahldhaaaDoor.XEv

end
section
namespace Go.Proofs.YtbjhmknahldhaaaDoor.XRef01
open Go Go.RowKit Go.Proofs.YtbjhmknahldhaaaDoor.XEv
set_option linter.unusedVariables false
set_option linter.unusedSimpArgs false
/-- No character is encoded there. -/
def bad (s : ByteArray) (p : Nat) : Prop := (Utf8.decode s p).1 = 65533 ∧ (Utf8.decode s p).2 = 1
instance (s : ByteArray) (p : Nat) : Decidable (bad s p) := by unfold bad; infer_instance
def nxN (d : Nat × Nat) : Int × Int × Bool := if d.1 = 65533 ∧ d.2 = 1 then (0, 0, false) else ((d.1 : Int), (d.2 : Int), true)
def nx (s : ByteArray) (p : Nat) : Int × Int × Bool := nxN (Utf8.decode s p)
theorem nx_bad (s : ByteArray) (p : Nat) (h : bad s p) : nx s p = (0, 0, false) := if_pos h
theorem nx_good (s : ByteArray) (p : Nat) (h : ¬ bad s p) : nx s p = (((Utf8.decode s p).1 : Int), ((Utf8.decode s p).2 : Int), true) := if_neg h
end Go.Proofs.YtbjhmknahldhaaaDoor.XRef01

end
section
namespace Go.Proofs.YtbjhmknahldhaaaDoor.XUtfT
open Go Go.RowKit Go.Proofs.YtbjhmknahldhaaaDoor.Q Go.Proofs.YtbjhmknahldhaaaDoorW.PrintWords Go.Proofs.YtbjhmknahldhaaaDoorW.PrintLast Go.Proofs.YtbjhmknahldhaaaDoorW.PrintMore Go.Proofs.YtbjhmknahldhaaaDoor.XEv Go.Proofs.YtbjhmknahldhaaaDoor.XRef01
set_option linter.unusedVariables false
set_option linter.unusedSimpArgs false
theorem dec_lead (s : ByteArray) (p : Nat) (h : 2 ≤ (Utf8.decode s p).2) : 192 ≤ B s p := by
  show 192 ≤ (s.get! (p + 0)).toNat
  revert h
  simp only [Utf8.decode]
  repeat' split
  all_goals intro h
  all_goals simp only [Bool.and_eq_true, decide_eq_true_eq, beq_iff_eq] at *
  all_goals omega
theorem dec_in (s : ByteArray) (p j : Nat) (h1 : 1 ≤ j) (h2 : j < (Utf8.decode s p).2) : p + j < s.size ∧ 128 ≤ B s (p + j) ∧ B s (p + j) < 192 := by
  show p + j < s.size ∧ 128 ≤ (s.get! (p + j)).toNat ∧ (s.get! (p + j)).toNat < 192
  revert h2
  simp only [Utf8.decode]
  repeat' split
  all_goals intro h2
  all_goals simp only [Bool.and_eq_true, decide_eq_true_eq, beq_iff_eq] at *
  all_goals (try omega)
  all_goals obtain rfl | rfl | rfl : j = 1 ∨ j = 2 ∨ j = 3 := by omega
  all_goals (first | omega | skip)
theorem go_tail (s : ByteArray) (pos : Nat) (h : pos < s.size) : Lib.decodeGo (s.extract pos s.size) = Utf8.decode s pos := by
  unfold Lib.decodeGo
  rw [if_neg (by rw [Lib.tail_size]; omega), Lib.tail_decode, Nat.add_zero]
theorem utf_next (s : ByteArray) (p : Nat) (hp : p < s.size) : Ev (fun k => utf_Next.f k s p) (nx s p) := by
  have e0 : ¬ (p : Int) < 0 := by omega
  have e1 : decide ((p : Int) ≥ (s.size : Int)) = false := decide_eq_false (by omega)
  have c0 : (0 : Int) ≤ (p : Int) := by omega
  have c1 : (p : Int) ≤ (s.size : Int) := by omega
  simp only [utf_Next.f, if_neg e0, e1]
  refine up ?_
  simp only [utf_Next.j0, Bool.false_eq_true, if_false, if_pos c0, if_pos c1]
  have hd : utf8_DecodeRuneInString.f (s.extract ((p : Int)).toNat s.size) = some (((Utf8.decode s p).1 : Int), ((Utf8.decode s p).2 : Int)) := by
    unfold utf8_DecodeRuneInString.f
    rw [show ((p : Int)).toNat = p from rfl, go_tail s p hp]
  refine cbind hd (now fun _ => ?_)
  unfold nx nxN
  by_cases h1 : (Utf8.decode s p).1 = 65533
  · by_cases h2 : (Utf8.decode s p).2 = 1
    · rw [if_pos (by omega), if_pos (by omega), if_pos ⟨h1, h2⟩]
    · rw [if_pos (by omega), if_neg (by omega), if_neg (fun h => h2 h.2)]
  · rw [if_neg (by omega), if_neg (fun h => h1 h.1)]
/-- A place where a character begins, gone through from the string's begin. -/
inductive Bnd (s : ByteArray) : Nat → Prop
  | zero : Bnd s 0
  | next {p : Nat} : Bnd s p → p < s.size → Bnd s (p + XUtf.width s p)
/-- Where a place's character begins: the reference's walk. -/
def begF (s : ByteArray) (at' : Nat) : Nat → Nat → Nat
  | 0, p => p
  | b + 1, p => if at' < p + XUtf.width s p then p else begF s at' b (p + XUtf.width s p)
theorem begF_bnd (s : ByteArray) (a : Nat) (ha : a < s.size) : ∀ (b p : Nat), a < p + b → p ≤ a → Bnd s p → Bnd s (begF s a b p) ∧ begF s a b p ≤ a ∧ a < begF s a b p + XUtf.width s (begF s a b p) := by
  intro b
  induction b with
  | zero => intro p h1 h2; omega
  | succ b ih =>
    intro p h1 h2 hp
    rw [begF]
    have hw := XUtf.width_range s p
    split
    · rename_i h; exact ⟨hp, h2, h⟩
    · rename_i h; exact ih _ (by omega) (by omega) (.next hp (by omega))
def chain (s : ByteArray) : Nat → Nat
  | 0 => 0
  | n + 1 => if chain s n < s.size then chain s n + XUtf.width s (chain s n) else chain s n
theorem chain_mono (s : ByteArray) (m : Nat) : ∀ d, chain s m ≤ chain s (m + d)
  | 0 => Nat.le_refl _
  | d + 1 => by
    have h := chain_mono s m d
    show chain s m ≤ chain s (m + d + 1)
    rw [chain]
    split <;> omega
theorem bnd_chain {s : ByteArray} {p : Nat} (h : Bnd s p) : ∃ n, p = chain s n := by
  induction h with
  | zero => exact ⟨0, rfl⟩
  | next _ hlt ih =>
    obtain ⟨n, rfl⟩ := ih
    exact ⟨n + 1, by rw [chain, if_pos hlt]⟩
/-- Boundaries lie one behind the other. -/
theorem bnd_apart {s : ByteArray} {p q : Nat} (hp : Bnd s p) (hq : Bnd s q) (h1 : p < q) : p + XUtf.width s p ≤ q := by
  obtain ⟨m, rfl⟩ := bnd_chain hp
  obtain ⟨n, rfl⟩ := bnd_chain hq
  have hmn : m < n := by
    rcases Nat.lt_or_ge m n with h | h
    · exact h
    · have := chain_mono s n (m - n)
      rw [show n + (m - n) = m by omega] at this
      omega
  have h2 := chain_mono s (m + 1) (n - (m + 1))
  rw [show m + 1 + (n - (m + 1)) = n by omega, chain] at h2
  split at h2
  · exact h2
  · rename_i hge
    exfalso
    have stay : ∀ d, chain s (m + d) = chain s m := by
      intro d
      induction d with
      | zero => rfl
      | succ d ih => show chain s (m + d + 1) = _; rw [chain, ih, if_neg hge]
    have := stay (n - m)
    rw [show m + (n - m) = n by omega] at this
    omega
theorem bnd_le {s : ByteArray} {p : Nat} (h : Bnd s p) : p ≤ s.size := by
  cases h with
  | zero => exact Nat.zero_le _
  | next _ hlt => exact XUtf.width_fit s _ hlt
/-- Where a wide character stands, a character begins. -/
theorem bnd_wide (s : ByteArray) (q : Nat) (hq : q < s.size) (hw : 2 ≤ XUtf.width s q) : Bnd s q := by
  obtain ⟨h1, h2, h3⟩ := begF_bnd s q hq (q + 1) 0 (by omega) (by omega) .zero
  by_cases he : begF s q (q + 1) 0 = q
  · rw [he] at h1; exact h1
  · exfalso
    have hin := dec_in s (begF s q (q + 1) 0) (q - begF s q (q + 1) 0) (by omega) (by unfold XUtf.width at h3; omega)
    rw [show begF s q (q + 1) 0 + (q - begF s q (q + 1) 0) = q by omega] at hin
    have := dec_lead s q hw
    omega
/-- Going back at most three bytes finds where the character begins. -/
def backF (s : ByteArray) (a : Nat) : Nat → Nat → Nat
  | 0, _ => a
  | f + 1, k => if k < 4 ∧ k ≤ a then (if k < XUtf.width s (a - k) then a - k else backF s a f (k + 1)) else a
theorem backF_eq (s : ByteArray) (a : Nat) (ha : a < s.size) : ∀ (f k : Nat), 4 ≤ k + f → 1 ≤ k → (∀ j, 1 ≤ j → j < k → j ≤ a → ¬ j < XUtf.width s (a - j)) → backF s a f k = begF s a (a + 1) 0 := by
  obtain ⟨h1, h2, h3⟩ := begF_bnd s a ha (a + 1) 0 (by omega) (by omega) .zero
  obtain ⟨p, hp⟩ : ∃ p, begF s a (a + 1) 0 = p := ⟨_, rfl⟩
  rw [hp] at h1 h2 h3 ⊢
  have hwr := XUtf.width_range s p
  intro f
  induction f with
  | zero =>
    intro k hk h0 hn
    rw [backF]
    by_cases he : p = a
    · exact he.symm
    · exact absurd (show a - p < XUtf.width s (a - (a - p)) by rw [show a - (a - p) = p by omega]; omega) (hn (a - p) (by omega) (by omega) (by omega))
  | succ f ih =>
    intro k hk h0 hn
    rw [backF]
    by_cases c : k < 4 ∧ k ≤ a
    · rw [if_pos c]
      by_cases d : k < XUtf.width s (a - k)
      · rw [if_pos d]
        have hb := bnd_wide s (a - k) (by omega) (by omega)
        rcases Nat.lt_trichotomy p (a - k) with h | h | h
        · have := bnd_apart h1 hb h; omega
        · exact h.symm
        · have := bnd_apart hb h1 h; omega
      · rw [if_neg d]
        exact ih (k + 1) (by omega) (by omega) (fun j hj1 hj2 hj3 => by
          by_cases e : j = k
          · subst e; exact d
          · exact hn j hj1 (by omega) hj3)
    · rw [if_neg c]
      by_cases he : p = a
      · exact he.symm
      · exact absurd (show a - p < XUtf.width s (a - (a - p)) by rw [show a - (a - p) = p by omega]; omega) (hn (a - p) (by omega) (by omega) (by omega))
theorem begin_back (s : ByteArray) (hs : s.size ≤ 140737488351232) (a : Nat) (ha : a < s.size) : ∀ (f k : Nat), 4 ≤ k + f → 1 ≤ k → Ev (fun n => utf_Begin.l0 n s a k) (backF s a f k : Int) := by
  intro f
  induction f with
  | zero =>
    intro k hk h0
    refine up ?_
    have c : ¬ (k : Int) < 4 := by omega
    simp only [utf_Begin.l0, if_neg c]
    refine up ?_
    simp only [utf_Begin.j1, Bool.false_eq_true, if_false]
    exact now fun _ => rfl
  | succ f ih =>
    intro k hk h0
    refine up ?_
    rw [backF]
    by_cases c4 : k < 4
    · have c : (k : Int) < 4 := by omega
      simp only [utf_Begin.l0, if_pos c]
      refine up ?_
      by_cases ca : k ≤ a
      · have cd : decide ((k : Int) ≤ (a : Int)) = true := decide_eq_true (by omega)
        have e1 : wrap64 ((a : Int) - (k : Int)) = ((a - k : Nat) : Int) := by rw [w64 (by omega) (by omega)]; omega
        have e2 : wrap64 ((k : Int) + 1) = ((k + 1 : Nat) : Int) := by rw [w64 (by omega) (by omega)]; rfl
        simp only [utf_Begin.j1, cd, if_true, e1, e2]
        refine bind (utf_next s (a - k) (by omega)) ?_
        rw [if_pos ⟨c4, ca⟩]
        by_cases hb : bad s (a - k)
        · rw [nx_bad s _ hb]
          have : ¬ k < XUtf.width s (a - k) := by have := hb.2; unfold XUtf.width; omega
          rw [if_neg this]
          simp only [Bool.false_eq_true, if_false]
          exact ih (k + 1) (by omega) (by omega)
        · rw [nx_good s _ hb]
          simp only [if_true]
          by_cases d : k < XUtf.width s (a - k)
          · have d' : ((Utf8.decode s (a - k)).2 : Int) > (k : Int) := by unfold XUtf.width at d; omega
            rw [if_pos d]
            simp only [if_pos d']
            exact now fun _ => rfl
          · have d' : ¬ ((Utf8.decode s (a - k)).2 : Int) > (k : Int) := by unfold XUtf.width at d; omega
            rw [if_neg d]
            simp only [if_neg d']
            exact ih (k + 1) (by omega) (by omega)
      · have cd : decide ((k : Int) ≤ (a : Int)) = false := decide_eq_false (by omega)
        rw [if_neg (fun h => ca h.2)]
        simp only [utf_Begin.j1, cd, Bool.false_eq_true, if_false]
        exact now fun _ => rfl
    · have c : ¬ (k : Int) < 4 := by omega
      rw [if_neg (fun h => c4 h.1)]
      simp only [utf_Begin.l0, if_neg c]
      refine up ?_
      simp only [utf_Begin.j1, Bool.false_eq_true, if_false]
      exact now fun _ => rfl
/-- Where the character of any place begins. -/
def beg (s : ByteArray) (a : Int) : Nat := if a < 0 then 0 else if (s.size : Int) ≤ a then s.size else begF s a.toNat (a.toNat + 1) 0
theorem utf_begin (s : ByteArray) (hs : s.size ≤ 140737488351232) (a : Int) : Ev (fun k => utf_Begin.f k s a) (beg s a : Int) := by
  unfold beg
  simp only [utf_Begin.f]
  by_cases h0 : a < 0
  · rw [if_pos h0]; simp only [if_pos h0]; exact now fun _ => rfl
  · by_cases h1 : (s.size : Int) ≤ a
    · have h1' : a ≥ (s.size : Int) := h1
      rw [if_neg h0, if_pos h1]; simp only [if_neg h0, if_pos h1']; exact now fun _ => rfl
    · have h1' : ¬ a ≥ (s.size : Int) := h1
      obtain ⟨n, rfl⟩ : ∃ n : Nat, a = n := ⟨a.toNat, by omega⟩
      rw [if_neg h0, if_neg h1]
      simp only [if_neg h0, if_neg h1']
      have hn : n < s.size := by omega
      have := begin_back s hs n hn 3 1 (by omega) (by omega)
      rw [backF_eq s n hn 3 1 (by omega) (by omega) (fun j h1 h2 => by omega)] at this
      exact this
end Go.Proofs.YtbjhmknahldhaaaDoor.XUtfT

end
section
namespace Go.Proofs.YtbjhmknahldhaaaDoor.XWchars
open Go Go.RowKit Go.Proofs.YtbjhmknahldhaaaDoor.XEv Go.Proofs.YtbjhmknahldhaaaDoor.XRef01 Go.Proofs.YtbjhmknahldhaaaDoor.XUtfT
set_option linter.unusedVariables false
set_option linter.unusedSimpArgs false
theorem decodeN_local (n m b0 b1 b2 b3 c1 c2 c3 : Nat) (hg : ¬ ((Lib.decodeN n b0 b1 b2 b3).1 = 65533 ∧ (Lib.decodeN n b0 b1 b2 b3).2 = 1)) (hz : (Lib.decodeN n b0 b1 b2 b3).2 ≤ m)
    (h1 : 2 ≤ (Lib.decodeN n b0 b1 b2 b3).2 → c1 = b1) (h2 : 3 ≤ (Lib.decodeN n b0 b1 b2 b3).2 → c2 = b2) (h3 : 4 ≤ (Lib.decodeN n b0 b1 b2 b3).2 → c3 = b3) :
    Lib.decodeN m b0 c1 c2 c3 = Lib.decodeN n b0 b1 b2 b3 := by
  rcases Lib.decodeN_shape n b0 b1 b2 b3 with ⟨c, e⟩ | ⟨a1, a2, a3, av, e⟩ | ⟨a1, a2, a3, a4, av, aw, e⟩ | ⟨a1, a2, a3, a4, a5, av, aw, e⟩ | e
  · rw [e]; unfold Lib.decodeN; rw [if_pos c]
  · rw [e] at hz h1 h2 h3 ⊢
    obtain rfl := h1 (Nat.le_refl _)
    simp only at hz
    unfold Lib.decodeN
    rw [if_neg (by omega), if_pos ⟨a1, by omega, a3⟩, if_pos av]
  · rw [e] at hz h1 h2 h3 ⊢
    obtain rfl := h1 (by simp)
    obtain rfl := h2 (Nat.le_refl _)
    simp only at hz
    unfold Lib.decodeN
    rw [if_neg (by omega), if_neg (by omega), if_pos ⟨a1, ⟨by omega, a3⟩, by omega, a4⟩, if_pos ⟨av, by omega⟩]
  · rw [e] at hz h1 h2 h3 ⊢
    obtain rfl := h1 (by simp)
    obtain rfl := h2 (by simp)
    obtain rfl := h3 (Nat.le_refl _)
    simp only at hz
    unfold Lib.decodeN
    rw [if_neg (by omega), if_neg (by omega), if_neg (by omega), if_pos ⟨a1, ⟨by omega, a3⟩, ⟨by omega, a4⟩, by omega, a5⟩, if_pos ⟨av, by omega⟩]
  · exact absurd (by rw [e]; exact ⟨rfl, rfl⟩) hg
/-- The same bytes are the same character. -/
theorem dec_same (s t : ByteArray) (p q : Nat) (hg : ¬ bad s p) (hz : q + XUtf.width s p ≤ t.size) (he : ∀ j, j < XUtf.width s p → t.get! (q + j) = s.get! (p + j)) : Utf8.decode t q = Utf8.decode s p := by
  unfold bad at hg
  unfold XUtf.width at hz he
  have hw := XUtf.width_range s p
  unfold XUtf.width at hw
  have e0 := he 0 (by omega)
  rw [Nat.add_zero, Nat.add_zero] at e0
  rw [Lib.decode_at t q, e0]
  rw [Lib.decode_at s p] at hg hz he hw ⊢
  refine decodeN_local _ _ _ _ _ _ _ _ _ hg (by omega) (fun h => ?_) (fun h => ?_) (fun h => ?_)
  · rw [he 1 (by omega)]
  · rw [he 2 (by omega)]
  · rw [he 3 (by omega)]
theorem sub_l (s : ByteArray) (a b : Nat) : (s.extract a b).data.toList = (s.data.toList.drop a).take (b - a) := by
  simp only [ByteArray.data_extract, Array.toList_extract, List.extract_eq_take_drop]
theorem get_ext (s : ByteArray) (a b j : Nat) (h : a + j < b) (hb : b ≤ s.size) : (s.extract a b).get! j = s.get! (a + j) := by
  rw [← Lib.getD_get!', ← Lib.getD_get!', sub_l s a b, List.getD_eq_getElem?_getD, List.getD_eq_getElem?_getD, List.getElem?_take_of_lt (by omega), List.getElem?_drop]
theorem size_ext (s : ByteArray) (a b : Nat) (hb : b ≤ s.size) : (s.extract a b).size = b - a := by rw [ByteArray.size_extract]; omega
theorem dec_bad (s : ByteArray) (p : Nat) (h : bad s p) : Utf8.decode s p = (65533, 1) := Prod.ext h.1 h.2
/-- What stands whole in a piece is decoded there as in the string. -/
theorem dec_ext (s : ByteArray) (a b q : Nat) (h : a + q + XUtf.width s (a + q) ≤ b) (hb : b ≤ s.size) : Utf8.decode (s.extract a b) q = Utf8.decode s (a + q) := by
  have hw := XUtf.width_range s (a + q)
  have hz := size_ext s a b hb
  by_cases hg : bad s (a + q)
  · by_cases hx : bad (s.extract a b) q
    · rw [dec_bad _ _ hg, dec_bad _ _ hx]
    · have hf := XUtf.width_fit (s.extract a b) q (by omega)
      have := dec_same (s.extract a b) s q (a + q) hx (by omega) (fun j hj => by rw [get_ext s a b (q + j) (by omega) hb, Nat.add_assoc])
      rw [this]
  · exact dec_same s (s.extract a b) (a + q) q hg (by omega) (fun j hj => by rw [get_ext s a b (q + j) (by omega) hb, Nat.add_assoc])
inductive Ch (s : ByteArray) : Nat → Int → Prop
  | zero : Ch s 0 0
  | next {p : Nat} {u : Int} : Ch s p u → p < s.size → Ch s (p + XUtf.width s p) (u + XUtf.uni s p)
theorem Ch.bnd {s : ByteArray} {p : Nat} {u : Int} (h : Ch s p u) : Bnd s p := by
  induction h with
  | zero => exact .zero
  | next _ hlt ih => exact .next ih hlt
theorem Ch.of {s : ByteArray} {p : Nat} (h : Bnd s p) : ∃ u, Ch s p u := by
  induction h with
  | zero => exact ⟨0, .zero⟩
  | next _ hlt ih => obtain ⟨u, hu⟩ := ih; exact ⟨_, .next hu hlt⟩
theorem Ch.range {s : ByteArray} {p : Nat} {u : Int} (h : Ch s p u) : 0 ≤ u ∧ u ≤ p := by
  induction h with
  | zero => omega
  | next _ hlt ih => rename_i p u _; have := XUtf.uni_range s p; have := XUtf.uni_le s p; omega
theorem Ch.le {s : ByteArray} {p : Nat} {u : Int} (h : Ch s p u) : p ≤ s.size := bnd_le h.bnd
/-- Of two places the one ahead has no more units ahead of it. -/
theorem Ch.mono {s : ByteArray} {p q : Nat} {u v : Int} (hp : Ch s p u) (hq : Ch s q v) : (p ≤ q → u ≤ v) ∧ (p = q → u = v) ∧ (p < q → u + XUtf.uni s p ≤ v) := by
  induction hq generalizing p u with
  | zero =>
    cases hp with
    | zero => exact ⟨fun _ => Int.le_refl _, fun _ => rfl, fun h => absurd h (by omega)⟩
    | next hp' hlt => rename_i p' u'; have := XUtf.width_range s p'; exact ⟨fun h => by omega, fun h => by omega, fun h => by omega⟩
  | next hq' hlt ih =>
    rename_i q' v'
    have hr := XUtf.uni_range s q'
    have heq : p = q' + XUtf.width s q' → u = v' + XUtf.uni s q' := by
      intro e
      cases hp with
      | zero => have := XUtf.width_range s q'; omega
      | next hp' hlt' =>
        rename_i p' u'
        have w1 := XUtf.width_range s p'
        have w2 := XUtf.width_range s q'
        rcases Nat.lt_trichotomy p' q' with h | h | h
        · have := bnd_apart hp'.bnd hq'.bnd h; omega
        · subst h; have := (ih hp').2.1 rfl; omega
        · have := bnd_apart hq'.bnd hp'.bnd h; omega
    have hlt3 : p < q' + XUtf.width s q' → u + XUtf.uni s p ≤ v' + XUtf.uni s q' := by
      intro h
      rcases Nat.lt_trichotomy p q' with h2 | h2 | h2
      · have := (ih hp).2.2 h2; omega
      · subst h2; have := (ih hp).2.1 rfl; omega
      · have := bnd_apart hq'.bnd hp.bnd h2; omega
    refine ⟨fun h => ?_, heq, hlt3⟩
    rcases Nat.lt_or_eq_of_le h with h2 | h2
    · have := hlt3 h2; have := XUtf.uni_range s p; omega
    · have := heq h2; omega
theorem Ch.uniq {s : ByteArray} {p : Nat} {u v : Int} (hp : Ch s p u) (hq : Ch s p v) : u = v := (hp.mono hq).2.1 rfl
/-- The units of all. -/
theorem Ch.units {s : ByteArray} : ∀ (b p : Nat) (u : Int), Ch s p u → s.size ≤ p + b → Ch s s.size (XUtf.units s b p u) := by
  intro b
  induction b with
  | zero => intro p u h hb; have := h.le; rw [XUtf.units]; rw [show s.size = p by omega]; exact h
  | succ b ih =>
    intro p u h hb
    rw [XUtf.units]
    by_cases hp : p < s.size
    · rw [if_pos hp]; have := XUtf.width_range s p; exact ih _ _ (.next h hp) (by unfold XUtf.width at this; omega)
    · rw [if_neg hp]; have := h.le; rw [show s.size = p by omega]; exact h
def U (s : ByteArray) : Int := XUtf.units s s.size 0 0
theorem Ch.all (s : ByteArray) : Ch s s.size (U s) := Ch.units s.size 0 0 .zero (by omega)
theorem U_range (s : ByteArray) : 0 ≤ U s ∧ U s ≤ s.size := (Ch.all s).range
/-- Where cutting ends. -/
theorem Ch.cut {s : ByteArray} (n : Int) : ∀ (b p : Nat) (u : Int), Ch s p u → s.size ≤ p + b → u ≤ n → ∃ v, Ch s (XUtf.cutAt s b p (n - u)) v ∧ v ≤ n ∧ (XUtf.cutAt s b p (n - u) < s.size → n < v + XUtf.uni s (XUtf.cutAt s b p (n - u))) := by
  intro b
  induction b with
  | zero => intro p u h hb hu; have := h.le; rw [XUtf.cutAt]; exact ⟨u, by rw [show s.size = p by omega]; exact h, hu, fun h => by omega⟩
  | succ b ih =>
    intro p u h hb hu
    rw [XUtf.cutAt]
    by_cases hp : p < s.size
    · rw [if_pos hp]
      have := XUtf.width_range s p
      by_cases hc : n - u - XUtf.uOf (Utf8.decode s p).1 < 0
      · rw [if_pos hc]; exact ⟨u, h, hu, fun _ => by unfold XUtf.uni; omega⟩
      · rw [if_neg hc]
        have := ih (p + XUtf.width s p) (u + XUtf.uni s p) (.next h hp) (by omega) (by unfold XUtf.uni; omega)
        rw [show n - (u + XUtf.uni s p) = n - u - XUtf.uOf (Utf8.decode s p).1 by unfold XUtf.uni; omega] at this
        exact this
    · rw [if_neg hp]; have := h.le; exact ⟨u, by rw [show s.size = p by omega]; exact h, hu, fun h => by omega⟩
def C (s : ByteArray) (n : Int) : Nat := XUtf.cutAt s s.size 0 n
theorem C_neg (s : ByteArray) (n : Int) (h : n < 0) : C s n = 0 := by
  unfold C
  by_cases hs : 0 < s.size
  · exact XUtf.cutAt_hit s s.size 0 n hs (by omega) (by have := XUtf.uOf_range (Utf8.decode s 0).1; omega)
  · rw [XUtf.cutAt_done s s.size 0 n hs]; omega
theorem C_spec (s : ByteArray) (n : Int) (h : 0 ≤ n) : ∃ v, Ch s (C s n) v ∧ v ≤ n ∧ (C s n < s.size → n < v + XUtf.uni s (C s n)) := by
  have := Ch.cut (s := s) n s.size 0 0 .zero (by omega) h
  rw [Int.sub_zero] at this
  exact this
theorem C_bnd (s : ByteArray) (n : Int) : Bnd s (C s n) := by
  by_cases h : n < 0
  · rw [C_neg s n h]; exact .zero
  · obtain ⟨v, hv, _⟩ := C_spec s n (by omega); exact hv.bnd
/-- A place's units lead back to it. -/
theorem C_of (s : ByteArray) (p : Nat) (u : Int) (h : Ch s p u) : C s u = p := by
  obtain ⟨v, hv, hle, hlt⟩ := C_spec s u h.range.1
  rcases Nat.lt_trichotomy (C s u) p with h2 | h2 | h2
  · have := (hv.mono h).2.2 h2; have := hlt (by have := h.le; omega); omega
  · exact h2
  · have := (h.mono hv).2.2 h2; have := XUtf.uni_range s p; omega
/-- Where a place's character begins: at it, if one begins there. -/
theorem beg_bnd (s : ByteArray) (p : Nat) (h : Bnd s p) : beg s p = p := by
  have hl := bnd_le h
  unfold beg
  rw [if_neg (by omega)]
  by_cases hs : (s.size : Int) ≤ (p : Int)
  · rw [if_pos hs]; omega
  · rw [if_neg hs]
    obtain ⟨h1, h2, h3⟩ := begF_bnd s p (by omega) (p + 1) 0 (by omega) (by omega) .zero
    show begF s p (p + 1) 0 = p
    rcases Nat.lt_or_eq_of_le h2 with h4 | h4
    · have := bnd_apart h1 h h4; omega
    · exact h4
theorem bnd_beg (s : ByteArray) (a : Int) : Bnd s (beg s a) := by
  unfold beg
  split
  · exact .zero
  · split
    · exact (Ch.all s).bnd
    · exact (begF_bnd s a.toNat (by omega) (a.toNat + 1) 0 (by omega) (by omega) .zero).1
theorem Ch.into {s : ByteArray} {a b : Nat} {ua : Int} (ha : Ch s a ua) (hb : b ≤ s.size) {p : Nat} {u : Int} (h : Ch s p u) : a ≤ p → p ≤ b → Ch (s.extract a b) (p - a) (u - ua) := by
  induction h with
  | zero =>
    intro h1 h2
    have : a = 0 := by omega
    subst this
    have := ha.uniq .zero
    subst this
    exact .zero
  | next hq hlt ih =>
    rename_i q v
    intro h1 h2
    have hw := XUtf.width_range s q
    by_cases he : a = q + XUtf.width s q
    · have := ha.uniq (he ▸ Ch.next hq hlt)
      rw [this, he, Nat.sub_self, Int.sub_self]; exact .zero
    · have haq : a ≤ q := by
        rcases Nat.lt_or_ge q a with h3 | h3
        · have := bnd_apart hq.bnd ha.bnd h3; omega
        · exact h3
      have hi := ih haq (by omega)
      have hz := size_ext s a b hb
      have hd := dec_ext s a b (q - a) (by rw [show a + (q - a) = q by omega]; omega) hb
      rw [show a + (q - a) = q by omega] at hd
      have := Ch.next hi (by omega)
      unfold XUtf.width XUtf.uni at this
      rw [hd] at this
      rw [show q + XUtf.width s q - a = q - a + (Utf8.decode s q).2 by unfold XUtf.width; omega, show v + XUtf.uni s q - ua = v - ua + XUtf.uOf (Utf8.decode s q).1 by unfold XUtf.uni; omega]
      exact this
theorem Ch.back {s : ByteArray} {a b : Nat} {ua ub : Int} (ha : Ch s a ua) (hb : Ch s b ub) {q : Nat} {v : Int} (h : Ch (s.extract a b) q v) : Ch s (a + q) (ua + v) := by
  induction h with
  | zero => rw [Nat.add_zero, Int.add_zero]; exact ha
  | next hq hlt ih =>
    rename_i q v
    have hz := size_ext s a b hb.le
    have hl : a + q + XUtf.width s (a + q) ≤ b := bnd_apart ih.bnd hb.bnd (by omega)
    have hd := dec_ext s a b q hl hb.le
    have := Ch.next ih (by have := hb.le; omega)
    unfold XUtf.width XUtf.uni at this ⊢
    rw [hd, ← Nat.add_assoc, ← Int.add_assoc]
    exact this
/-- The units of a piece between two characters' begins. -/
theorem U_ext {s : ByteArray} {a b : Nat} {ua ub : Int} (ha : Ch s a ua) (hb : Ch s b ub) (h : a ≤ b) : U (s.extract a b) = ub - ua := by
  have h1 := Ch.into ha hb.le hb h (Nat.le_refl _)
  have h2 := Ch.all (s.extract a b)
  rw [size_ext s a b hb.le] at h2
  exact h2.uniq h1
end Go.Proofs.YtbjhmknahldhaaaDoor.XWchars

end
section
namespace Go.Proofs.YtbjhmknahldhaaaDoor.XLines
open Go Go.RowKit Go.Proofs.YtbjhmknahldhaaaDoor.Q Go.Proofs.YtbjhmknahldhaaaDoorW.PrintWords Go.Proofs.YtbjhmknahldhaaaDoorW.PrintLast Go.Proofs.YtbjhmknahldhaaaDoorW.PrintMore Go.Proofs.YtbjhmknahldhaaaDoor.XEv
set_option linter.unusedVariables false
set_option linter.unusedSimpArgs false
/-- A break's byte stands there. -/
def isB (s : ByteArray) (i : Nat) : Prop := i < s.size ∧ (B s i = 10 ∨ B s i = 13)
instance (s : ByteArray) (i : Nat) : Decidable (isB s i) := by unfold isB; exact inferInstance
theorem ext_cons (s : ByteArray) (a : Nat) (h : a < s.size) : (s.extract a s.size).data.toList = s[a]'h :: (s.extract (a + 1) s.size).data.toList := by
  have hs : s.size = s.data.size := rfl
  simp only [ByteArray.data_extract, Array.toList_extract, List.extract_eq_take_drop]
  have e1 : s.data.toList.drop a = s[a]'h :: s.data.toList.drop (a + 1) := by
    rw [List.drop_eq_getElem_cons (by rw [Array.length_toList]; exact h)]
    rfl
  rw [e1, show s.size - a = (s.size - (a + 1)) + 1 by omega, List.take_succ_cons]
theorem B_get (s : ByteArray) (a : Nat) (h : a < s.size) : B s a = (s[a]'h).toNat := by unfold B; rw [get!_in s a h]
theorem kf_cons (s : ByteArray) (a : Nat) (h : a < s.size) : kf s a = if B s a = 10 ∨ B s a = 13 then 0 else if kf s (a + 1) = -1 then -1 else kf s (a + 1) + 1 := by
  unfold kf
  rw [ext_cons s a h, Lib.indexAny, B_get s a h]
  have hc : (([10, 13] : List UInt8).contains (s[a]'h) = true) ↔ ((s[a]'h).toNat = 10 ∨ (s[a]'h).toNat = 13) := by
    simp only [List.contains_eq_mem, List.mem_cons, List.not_mem_nil, or_false, decide_eq_true_eq]
    constructor
    · rintro (e | e) <;> rw [e] <;> decide
    · rintro (e | e)
      · exact .inl (UInt8.toNat_inj.1 e)
      · exact .inr (UInt8.toNat_inj.1 e)
  by_cases hb : (s[a]'h).toNat = 10 ∨ (s[a]'h).toNat = 13
  · rw [if_pos hb, if_pos (hc.2 hb)]
  · rw [if_neg hb, if_neg (fun e => hb (hc.1 e))]
    simp only [beq_iff_eq]
theorem kf_ge (s : ByteArray) (a : Nat) : -1 ≤ kf s a := Lib.indexAny_ge _ _
theorem crlf_iff (s : ByteArray) (a : Nat) : crlf s a = true ↔ (a + 1 < s.size ∧ B s a = 13 ∧ B s (a + 1) = 10) := by
  by_cases h : a + 1 < s.size
  · have h0 : a < s.size := by omega
    unfold crlf Lib.hasPrefix
    rw [ext_cons s a h0, ext_cons s (a + 1) h, B_get s a h0, B_get s (a + 1) h]
    simp only [List.isPrefixOf, Bool.and_true, Bool.and_eq_true, beq_iff_eq]
    constructor
    · rintro ⟨e1, e2⟩; exact ⟨h, by rw [← e1]; rfl, by rw [← e2]; rfl⟩
    · rintro ⟨_, e1, e2⟩; exact ⟨(UInt8.toNat_inj.1 e1).symm, (UInt8.toNat_inj.1 e2).symm⟩
  · constructor
    · intro e; have := crlf_room s a e; omega
    · rintro ⟨e, _⟩; omega
/-- The first break from a place on, or the string's end. -/
def brk (s : ByteArray) (a : Nat) : Nat := if kf s a < 0 then s.size else a + (kf s a).toNat
theorem kf_hit (s : ByteArray) (a : Nat) (h : isB s a) : kf s a = 0 := by rw [kf_cons s a h.1, if_pos h.2]
theorem kf_skip (s : ByteArray) (a : Nat) (h0 : a < s.size) (h : ¬ isB s a) : kf s a = if kf s (a + 1) = -1 then -1 else kf s (a + 1) + 1 := by
  rw [kf_cons s a h0, if_neg (fun e => h ⟨h0, e⟩)]
theorem brk_hit (s : ByteArray) (a : Nat) (h : isB s a) : brk s a = a := by unfold brk; rw [kf_hit s a h]; rfl
theorem brk_skip (s : ByteArray) (a : Nat) (h0 : a < s.size) (h : ¬ isB s a) : brk s a = brk s (a + 1) := by
  have h1 := kf_ge s (a + 1)
  unfold brk
  rw [kf_skip s a h0 h]
  by_cases e : kf s (a + 1) = -1
  · rw [if_pos e, if_pos (by omega), if_pos (by omega)]
  · rw [if_neg e, if_neg (by omega), if_neg (by omega)]; omega
theorem brk_end (s : ByteArray) (a : Nat) (h : s.size ≤ a) : brk s a = s.size := if_pos (kf_end s a h)
/-- Where lines begin, behind a place. -/
def sts (s : ByteArray) : Nat → Nat → List Int
  | 0, _ => []
  | b + 1, a => if a < s.size then (if isB s a then (nxt s a : Int) :: sts s b (nxt s a) else sts s b (a + 1)) else []
def tl (s : ByteArray) (f n a : Nat) : List Int := if kf s a < 0 then [] else begs (lnsFrom s (f - 1) (n + 1) (nxt s (a + (kf s a).toNat)))
theorem mkLn_beg (s : ByteArray) (n a b : Nat) (ha : a ≤ b) (hb : b ≤ s.size) : (mkLn s n a b).1.2.1 = a := by
  show min a (min b s.size) = a
  omega
theorem mkLn_end (s : ByteArray) (n a b : Nat) (hb : b ≤ s.size) : (mkLn s n a b).1.2.2 = b := by
  show min b s.size = b
  omega
theorem mkLn_num (s : ByteArray) (n a b : Nat) (hb : n ≤ s.size) : (mkLn s n a b).1.1 = n := by
  show min n s.size = n
  omega
theorem hit_lt (s : ByteArray) (a : Nat) (ha : a ≤ s.size) (hk : ¬ kf s a < 0) : a + (kf s a).toNat < s.size := by
  have := (kf_range s a ha).2
  rw [if_neg hk] at this
  omega
theorem begs_eq (s : ByteArray) (f n a : Nat) (hf : s.size ≤ a + f) (ha : a ≤ s.size) : begs (lnsFrom s f n a) = (a : Int) :: tl s f n a := by
  rw [lnsFrom_eq s f n a hf ha]
  unfold tl
  by_cases hk : kf s a < 0
  · rw [if_pos hk, if_pos hk]
    simp only [begs, List.map_cons, List.map_nil, mkLn_beg s n a _ ha (Nat.le_refl _)]
  · rw [if_neg hk, if_neg hk]
    have := hit_lt s a ha hk
    simp only [begs, List.map_cons, mkLn_beg s n a (a + (kf s a).toNat) (by omega) (by omega)]
theorem tl_sts (s : ByteArray) : ∀ (m a f n b : Nat), s.size - a ≤ m → a ≤ s.size → s.size ≤ a + f → s.size ≤ a + b → tl s f n a = sts s b a := by
  intro m
  induction m with
  | zero =>
    intro a f n b hm ha hf hb
    have : a = s.size := by omega
    subst this
    unfold tl
    rw [if_pos (kf_end s _ (Nat.le_refl _))]
    cases b with
    | zero => rfl
    | succ b => rw [sts, if_neg (by omega)]
  | succ m ih =>
    intro a f n b hm ha hf hb
    by_cases h : a < s.size
    · obtain ⟨b, rfl⟩ : ∃ c, b = c + 1 := ⟨b - 1, by omega⟩
      rw [sts, if_pos h]
      by_cases hB : isB s a
      · rw [if_pos hB]
        unfold tl
        rw [kf_hit s a hB, if_neg (by omega)]
        have h1 := nxt_gt s a
        have h2 := nxt_le s a h
        show begs (lnsFrom s (f - 1) (n + 1) (nxt s a)) = _
        rw [begs_eq s _ _ _ (by omega) h2, ih (nxt s a) (f - 1) (n + 1) b (by omega) h2 (by omega) (by omega)]
      · rw [if_neg hB, ← ih (a + 1) f n b (by omega) (by omega) (by omega) (by omega)]
        unfold tl
        have h1 := kf_ge s (a + 1)
        rw [kf_skip s a h hB]
        by_cases e : kf s (a + 1) = -1
        · rw [if_pos e, if_pos (by omega), if_pos (by omega)]
        · rw [if_neg e, if_neg (by omega), if_neg (by omega)]
          rw [show a + (kf s (a + 1) + 1).toNat = a + 1 + (kf s (a + 1)).toNat by omega]
    · have : a = s.size := by omega
      subst this
      unfold tl
      rw [if_pos (kf_end s _ (Nat.le_refl _))]
      cases b with
      | zero => rfl
      | succ b => rw [sts, if_neg (by omega)]
theorem begs_lns (s : ByteArray) : begs (lns s) = 0 :: sts s s.size 0 := by
  unfold lns
  rw [begs_eq s s.size 0 0 (by omega) (by omega), tl_sts s s.size 0 s.size 0 s.size (by omega) (by omega) (by omega) (by omega)]
  rfl
/-- The i-th line: its number; its end. -/
theorem lns_num (s : ByteArray) : ∀ (f n a i : Nat) (x : Ln s), s.size ≤ a + f → a ≤ s.size → n ≤ a → (lnsFrom s f n a)[i]? = some x → x.1.1 = n + i ∧ x.1.2.2 = brk s x.1.2.1 := by
  intro f
  induction f with
  | zero =>
    intro n a i x hf ha hn hx
    rw [lnsFrom_eq s _ n a hf ha, if_pos (kf_end s a (by omega))] at hx
    cases i with
    | zero =>
      obtain rfl := Option.some.inj hx
      rw [mkLn_num s n a _ (by omega), mkLn_beg s n a _ ha (Nat.le_refl _), mkLn_end s n a _ (Nat.le_refl _), brk_end s a (by omega)]
      exact ⟨rfl, rfl⟩
    | succ i => simp at hx
  | succ f ih =>
    intro n a i x hf ha hn hx
    rw [lnsFrom_eq s _ n a hf ha] at hx
    by_cases hk : kf s a < 0
    · rw [if_pos hk] at hx
      cases i with
      | zero =>
        obtain rfl := Option.some.inj hx
        rw [mkLn_num s n a _ (by omega), mkLn_beg s n a _ ha (Nat.le_refl _), mkLn_end s n a _ (Nat.le_refl _)]
        exact ⟨rfl, (if_pos hk).symm⟩
      | succ i => simp at hx
    · rw [if_neg hk] at hx
      have hl := hit_lt s a ha hk
      have h1 := nxt_gt s (a + (kf s a).toNat)
      have h2 := nxt_le s (a + (kf s a).toNat) hl
      cases i with
      | zero =>
        obtain rfl := Option.some.inj hx
        rw [mkLn_num s n a _ (by omega), mkLn_beg s n a _ (by omega) (by omega), mkLn_end s n a _ (by omega)]
        exact ⟨rfl, (if_neg hk).symm⟩
      | succ i =>
        rw [List.getElem?_cons_succ] at hx
        have := ih (n + 1) _ i x (by omega) h2 (by omega) hx
        exact ⟨by omega, this.2⟩
theorem lns_at (s : ByteArray) (i : Nat) (x : Ln s) (h : (lns s)[i]? = some x) : x.1.1 = i ∧ x.1.2.2 = brk s x.1.2.1 := by
  have := lns_num s s.size 0 0 i x (by omega) (by omega) (Nat.le_refl _) h
  exact ⟨by omega, this.2⟩
theorem begs_at (s : ByteArray) (i : Nat) (x : Ln s) (h : (lns s)[i]? = some x) : (begs (lns s))[i]? = some (x.1.2.1 : Int) := by
  unfold begs; rw [List.getElem?_map, h]; rfl
theorem rd_of {L : List Int} {n : Nat} {v : Int} (h : L[n]? = some v) : rd L (n : Int) = v := by
  have : L.getD n 0 = v := by rw [List.getD_eq_getElem?_getD, h]; rfl
  exact this
theorem lns_ne (s : ByteArray) : lns s ≠ [] := by
  intro h
  have := begs_lns s
  rw [h] at this
  cases this
end Go.Proofs.YtbjhmknahldhaaaDoor.XLines

end
section
namespace Go.Proofs.YtbjhmknahldhaaaDoor.XYlines
open Go Go.RowKit Go.Proofs.YtbjhmknahldhaaaDoor.Q Go.Proofs.YtbjhmknahldhaaaDoorW.PrintWords Go.Proofs.YtbjhmknahldhaaaDoorW.PrintLast Go.Proofs.YtbjhmknahldhaaaDoorW.PrintMore Go.Proofs.YtbjhmknahldhaaaDoor.XEv Go.Proofs.YtbjhmknahldhaaaDoor.XRef01 Go.Proofs.YtbjhmknahldhaaaDoor.XUtfT Go.Proofs.YtbjhmknahldhaaaDoor.XWchars Go.Proofs.YtbjhmknahldhaaaDoor.XLines
set_option linter.unusedVariables false
set_option linter.unusedSimpArgs false
/-- A byte below 128 is a character. -/
theorem bnd_ascii (s : ByteArray) (i : Nat) (h : i < s.size) (h2 : B s i < 128) : Bnd s i ∧ XUtf.width s i = 1 := by
  obtain ⟨h1, h3, h4⟩ := begF_bnd s i h (i + 1) 0 (by omega) (by omega) .zero
  have he : begF s i (i + 1) 0 = i := by
    rcases Nat.lt_or_eq_of_le h3 with h5 | h5
    · have := dec_in s (begF s i (i + 1) 0) (i - begF s i (i + 1) 0) (by omega) (by unfold XUtf.width at h4; omega)
      rw [show begF s i (i + 1) 0 + (i - begF s i (i + 1) 0) = i by omega] at this
      omega
    · exact h5
  rw [he] at h1
  refine ⟨h1, ?_⟩
  have hw := XUtf.width_range s i
  rcases Nat.lt_or_ge (XUtf.width s i) 2 with h6 | h6
  · omega
  · have := dec_lead s i h6; omega
theorem bnd_isB (s : ByteArray) (i : Nat) (h : isB s i) : Bnd s i ∧ Bnd s (i + 1) := by
  obtain ⟨h1, h2⟩ := bnd_ascii s i h.1 (by have := h.2; omega)
  refine ⟨h1, ?_⟩
  have := Bnd.next h1 h.1
  rw [h2] at this
  exact this
theorem crlf_isB (s : ByteArray) (i : Nat) (h : crlf s i = true) : isB s i ∧ isB s (i + 1) := by
  have := (crlf_iff s i).1 h
  exact ⟨⟨by omega, by omega⟩, ⟨by omega, by omega⟩⟩
theorem bnd_nxt (s : ByteArray) (i : Nat) (h : isB s i) : Bnd s (nxt s i) := by
  unfold nxt
  by_cases hc : crlf s i = true
  · rw [if_pos hc]; exact (bnd_isB s (i + 1) (crlf_isB s i hc).2).2
  · rw [if_neg hc]; exact (bnd_isB s i h).2
theorem bnd_size (s : ByteArray) : Bnd s s.size := (Ch.all s).bnd
theorem brk_spec (s : ByteArray) : ∀ (m a : Nat), s.size - a ≤ m → a ≤ s.size → a ≤ brk s a ∧ brk s a ≤ s.size ∧ (∀ j, a ≤ j → j < brk s a → ¬ isB s j) ∧ (brk s a < s.size → isB s (brk s a)) := by
  intro m
  induction m with
  | zero =>
    intro a hm ha
    rw [brk_end s a (by omega)]
    exact ⟨ha, Nat.le_refl _, fun j h1 h2 => by omega, fun h => by omega⟩
  | succ m ih =>
    intro a hm ha
    by_cases h : a < s.size
    · by_cases hb : isB s a
      · rw [brk_hit s a hb]
        exact ⟨Nat.le_refl _, ha, fun j h1 h2 => by omega, fun _ => hb⟩
      · rw [brk_skip s a h hb]
        obtain ⟨h1, h2, h3, h4⟩ := ih (a + 1) (by omega) (by omega)
        refine ⟨by omega, h2, fun j h5 h6 => ?_, h4⟩
        by_cases hj : j = a
        · subst hj; exact hb
        · exact h3 j (by omega) h6
    · rw [brk_end s a (by omega)]
      exact ⟨ha, Nat.le_refl _, fun j h1 h2 => by omega, fun h => by omega⟩
theorem kf_brk (s : ByteArray) (a : Nat) (ha : a ≤ s.size) : (kf s a < 0 → brk s a = s.size ∧ ∀ j, a ≤ j → ¬ isB s j) ∧ (¬ kf s a < 0 → a + (kf s a).toNat = brk s a ∧ isB s (brk s a)) := by
  obtain ⟨h1, h2, h3, h4⟩ := brk_spec s s.size a (by omega) ha
  refine ⟨fun h => ?_, fun h => ?_⟩
  · have e : brk s a = s.size := if_pos h
    refine ⟨e, fun j hj hb => ?_⟩
    exact h3 j hj (by rw [e]; exact hb.1) hb
  · have e : brk s a = a + (kf s a).toNat := if_neg h
    have := hit_lt s a ha h
    exact ⟨e.symm, h4 (by omega)⟩
/-- What stands behind a line: the string's end, or a break and the next line. -/
theorem lnsFrom_next (s : ByteArray) : ∀ (f n a i : Nat) (x : Ln s), s.size ≤ a + f → a ≤ s.size → n ≤ a → Bnd s a → (lnsFrom s f n a)[i]? = some x →
    Bnd s x.1.2.1 ∧ a ≤ x.1.2.1 ∧ ((x.1.2.2 = s.size ∧ (∀ j, x.1.2.1 ≤ j → ¬ isB s j) ∧ (lnsFrom s f n a).length = i + 1) ∨ (isB s x.1.2.2 ∧ ∃ y, (lnsFrom s f n a)[i + 1]? = some y ∧ y.1.2.1 = nxt s x.1.2.2)) := by
  intro f
  induction f with
  | zero =>
    intro n a i x hf ha hn hB hx
    rw [lnsFrom_eq s _ n a hf ha, if_pos (kf_end s a (by omega))] at hx ⊢
    cases i with
    | zero =>
      obtain rfl := Option.some.inj hx
      rw [mkLn_beg s n a _ ha (Nat.le_refl _), mkLn_end s n a _ (Nat.le_refl _)]
      exact ⟨hB, Nat.le_refl _, .inl ⟨rfl, fun j h1 h2 => by have := h2.1; omega, rfl⟩⟩
    | succ i => simp at hx
  | succ f ih =>
    intro n a i x hf ha hn hB hx
    have hkb := kf_brk s a ha
    rw [lnsFrom_eq s _ n a hf ha] at hx ⊢
    by_cases hk : kf s a < 0
    · rw [if_pos hk] at hx ⊢
      cases i with
      | zero =>
        obtain rfl := Option.some.inj hx
        rw [mkLn_beg s n a _ ha (Nat.le_refl _), mkLn_end s n a _ (Nat.le_refl _)]
        exact ⟨hB, Nat.le_refl _, .inl ⟨rfl, (hkb.1 hk).2, rfl⟩⟩
      | succ i => simp at hx
    · rw [if_neg hk] at hx ⊢
      have hl := hit_lt s a ha hk
      have h1 := nxt_gt s (a + (kf s a).toNat)
      have h2 := nxt_le s (a + (kf s a).toNat) hl
      have hi := (hkb.2 hk).2
      rw [← (hkb.2 hk).1] at hi
      have hbn := bnd_nxt s _ hi
      cases i with
      | zero =>
        obtain rfl := Option.some.inj hx
        rw [mkLn_beg s n a _ (by omega) (by omega), mkLn_end s n a _ (by omega)]
        refine ⟨hB, Nat.le_refl _, .inr ⟨hi, ?_⟩⟩
        have hb := begs_eq s f (n + 1) (nxt s (a + (kf s a).toNat)) (by omega) h2
        show ∃ y, (lnsFrom s f (n + 1) (nxt s (a + (kf s a).toNat)))[0]? = some y ∧ _
        match hm : lnsFrom s f (n + 1) (nxt s (a + (kf s a).toNat)) with
        | [] => rw [hm] at hb; cases hb
        | y :: l =>
          rw [hm] at hb
          have h9 : (y.1.2.1 : Int) = (nxt s (a + (kf s a).toNat) : Nat) := (List.cons.inj hb).1
          exact ⟨y, rfl, by omega⟩
      | succ i =>
        rw [List.getElem?_cons_succ] at hx
        obtain ⟨g1, g2, g3⟩ := ih (n + 1) _ i x (by omega) h2 (by omega) hbn hx
        refine ⟨g1, by omega, ?_⟩
        rcases g3 with ⟨g3, g4, g5⟩ | ⟨g3, y, g4, g5⟩
        · exact .inl ⟨g3, g4, by rw [List.length_cons, Nat.add_sub_cancel, g5]⟩
        · exact .inr ⟨g3, y, by rw [List.getElem?_cons_succ]; exact g4, g5⟩
/-- ALL OF A LINE. -/
theorem ln (s : ByteArray) (i : Nat) (x : Ln s) (h : (lns s)[i]? = some x) :
    Bnd s x.1.2.1 ∧ Bnd s x.1.2.2 ∧ x.1.1 = i ∧ x.1.2.1 ≤ x.1.2.2 ∧ x.1.2.2 ≤ s.size ∧ (∀ j, x.1.2.1 ≤ j → j < x.1.2.2 → ¬ isB s j) ∧
    ((x.1.2.2 = s.size ∧ (lns s).length = i + 1) ∨ (isB s x.1.2.2 ∧ ∃ y, (lns s)[i + 1]? = some y ∧ y.1.2.1 = nxt s x.1.2.2)) := by
  obtain ⟨h1, h2⟩ := lns_at s i x h
  obtain ⟨g1, _, g3⟩ := lnsFrom_next s s.size 0 0 i x (by omega) (by omega) (Nat.le_refl _) .zero h
  have hx := x.2
  have hb := brk_spec s s.size x.1.2.1 (by omega) (by omega)
  rw [← h2] at hb
  refine ⟨g1, ?_, h1, hx.2.1, hx.2.2, hb.2.2.1, ?_⟩
  · rcases g3 with ⟨g3, _⟩ | ⟨g3, _⟩
    · rw [g3]; exact bnd_size s
    · exact (bnd_isB s _ g3).1
  · rcases g3 with ⟨g3, _, g4⟩ | g3
    · exact .inl ⟨g3, g4⟩
    · exact .inr g3
theorem ln_first (s : ByteArray) : ∃ x, (lns s)[0]? = some x ∧ x.1.2.1 = 0 := by
  obtain ⟨x, hx⟩ : ∃ x, (lns s)[0]? = some x := ⟨_, List.getElem?_eq_getElem (List.length_pos_iff.2 (lns_ne s))⟩
  refine ⟨x, hx, ?_⟩
  have h1 := begs_at s 0 x hx
  rw [begs_lns] at h1
  simp at h1
  omega
/-- Lines rise. -/
theorem ln_rise (s : ByteArray) (i : Nat) (x : Ln s) (h : (lns s)[i]? = some x) : ∀ (d : Nat) (y : Ln s), (lns s)[i + d + 1]? = some y → x.1.2.2 < y.1.2.1 := by
  intro d
  induction d with
  | zero =>
    intro y hy
    obtain ⟨_, _, _, _, _, _, ⟨_, hl⟩ | ⟨_, z, hz, he⟩⟩ := ln s i x h
    · have := (List.getElem?_eq_some_iff.1 hy).1; omega
    · rw [Nat.add_zero, hz] at hy
      obtain rfl := Option.some.inj hy
      have := nxt_gt s x.1.2.2
      omega
  | succ d ih =>
    intro y hy
    obtain ⟨z, hz⟩ : ∃ z, (lns s)[i + d + 1]? = some z := ⟨_, List.getElem?_eq_getElem (by have := (List.getElem?_eq_some_iff.1 hy).1; omega)⟩
    have h1 := ih z hz
    have hz2 := z.2
    obtain ⟨_, _, _, _, _, _, ⟨_, hl⟩ | ⟨_, z', hz', he⟩⟩ := ln s _ z hz
    · have := (List.getElem?_eq_some_iff.1 hy).1; omega
    · rw [show i + d + 1 + 1 = i + (d + 1) + 1 by omega] at hz'
      rw [hz'] at hy
      obtain rfl := Option.some.inj hy
      have := nxt_gt s z.1.2.2
      omega
end Go.Proofs.YtbjhmknahldhaaaDoor.XYlines

end
section
namespace Go.Proofs.YtbjhmknahldhaaaDoor.XFive
open Go Go.RowKit Go.Proofs.YtbjhmknahldhaaaDoor.Q Go.Proofs.YtbjhmknahldhaaaDoorW.PrintWords Go.Proofs.YtbjhmknahldhaaaDoorW.PrintLast Go.Proofs.YtbjhmknahldhaaaDoorW.PrintMore Go.Proofs.YtbjhmknahldhaaaDoor.XEv Go.Proofs.YtbjhmknahldhaaaDoor.XUtfT Go.Proofs.YtbjhmknahldhaaaDoor.XWchars Go.Proofs.YtbjhmknahldhaaaDoor.XLines Go.Proofs.YtbjhmknahldhaaaDoor.XYlines
set_option linter.unusedVariables false
set_option linter.unusedSimpArgs false
abbrev Mk := S38
/-- Are marks right, from a place on? -/
def rgt (s : ByteArray) : Int → List Mk → Bool
  | _, [] => true
  | a, m :: r => if m.f0.f0 < a then false else if m.f0.f1 < m.f0.f0 then false else if (s.size : Int) < m.f0.f1 then false else if m.f1 < 0 then false else if m.f2 < 0 then false else
      if (beg s m.f0.f0 : Int) = m.f0.f0 then if (beg s m.f0.f1 : Int) = m.f0.f1 then rgt s m.f0.f1 r else false else false
/-- A right mark. -/
structure Ok (s : ByteArray) (m : Mk) : Prop where
  h0 : 0 ≤ m.f0.f0
  h1 : m.f0.f0 ≤ m.f0.f1
  h2 : m.f0.f1 ≤ s.size
  h3 : 0 ≤ m.f1
  h4 : 0 ≤ m.f2
  b0 : Bnd s m.f0.f0.toNat
  b1 : Bnd s m.f0.f1.toNat
/-- Marks one behind the other, none ahead of a place. -/
inductive Row (s : ByteArray) : Int → List Mk → Prop
  | nil (a : Int) : Row s a []
  | cons {a : Int} {m : Mk} {r : List Mk} (h : a ≤ m.f0.f0) (o : Ok s m) (t : Row s m.f0.f1 r) : Row s a (m :: r)
theorem bnd_of_beg {s : ByteArray} {x : Int} (h : (beg s x : Int) = x) : Bnd s x.toNat := by
  have := bnd_beg s x
  rwa [show beg s x = x.toNat by omega] at this
theorem beg_of_bnd {s : ByteArray} {x : Int} (h0 : 0 ≤ x) (h : Bnd s x.toNat) : (beg s x : Int) = x := by
  have := beg_bnd s x.toNat h
  rw [show ((x.toNat : Nat) : Int) = x by omega] at this
  omega
theorem row_of_rgt (s : ByteArray) : ∀ (l : List Mk) (a : Int), 0 ≤ a → rgt s a l = true → Row s a l
  | [], a, _, _ => .nil a
  | m :: r, a, ha, h => by
    unfold rgt at h
    split at h; · cases h
    split at h; · cases h
    split at h; · cases h
    split at h; · cases h
    split at h; · cases h
    split at h
    · split at h
      · rename_i g1 g2 g3 g4 g5 g6 g7
        exact .cons (by omega) ⟨by omega, by omega, by omega, by omega, by omega, bnd_of_beg g6, bnd_of_beg g7⟩ (row_of_rgt s r _ (by omega) h)
      · cases h
    · cases h
theorem rgt_of_row {s : ByteArray} : ∀ {l : List Mk} {a : Int}, Row s a l → rgt s a l = true
  | [], _, _ => rfl
  | m :: r, a, h => by
    cases h with
    | cons h o t =>
      have := o.h0; have := o.h1; have := o.h2; have := o.h3; have := o.h4
      unfold rgt
      rw [if_neg (by omega), if_neg (by omega), if_neg (by omega), if_neg (by omega), if_neg (by omega), if_pos (beg_of_bnd o.h0 o.b0), if_pos (beg_of_bnd (by omega) o.b1)]
      exact rgt_of_row t
theorem Row.le {s : ByteArray} {l : List Mk} {a b : Int} (h : Row s b l) (hab : a ≤ b) : Row s a l := by
  cases h with
  | nil => exact .nil a
  | cons h o t => exact .cons (by omega) o t
theorem Row.ok {s : ByteArray} {l : List Mk} {a : Int} (h : Row s a l) : ∀ m ∈ l, Ok s m ∧ a ≤ m.f0.f0 := by
  induction h with
  | nil => intro m hm; cases hm
  | cons h o t ih =>
    intro m hm
    rcases List.mem_cons.1 hm with rfl | hm
    · exact ⟨o, h⟩
    · have h1 := ih m hm; have h2 := o.h1; exact ⟨h1.1, by omega⟩
/-- What a mark has of a line. -/
def pc (s : ByteArray) (m : Mk) (x : Ln s) : Option Mk :=
  if mx m.f0.f0 (x.1.2.1 : Int) < mn m.f0.f1 (x.1.2.2 : Int) then some ⟨⟨mx m.f0.f0 (x.1.2.1 : Int), mn m.f0.f1 (x.1.2.2 : Int)⟩, m.f1, m.f2⟩ else none
/-- The pieces of a mark; of marks. -/
def pcs1 (s : ByteArray) (m : Mk) : List Mk := (lns s).filterMap (pc s m)
def pcs (s : ByteArray) (l : List Mk) : List Mk := l.flatMap (pcs1 s)
theorem mx_le (a b : Int) : a ≤ mx a b ∧ b ≤ mx a b ∧ (mx a b = a ∨ mx a b = b) := by unfold mx; split <;> omega
theorem mn_le (a b : Int) : mn a b ≤ a ∧ mn a b ≤ b ∧ (mn a b = a ∨ mn a b = b) := by unfold mn; split <;> omega
theorem pc_none {s : ByteArray} {m : Mk} {x : Ln s} (h : m.f0.f1 ≤ (x.1.2.1 : Int) ∨ (x.1.2.2 : Int) ≤ m.f0.f0) : pc s m x = none := by
  have h1 := mx_le m.f0.f0 (x.1.2.1 : Int)
  have h2 := mn_le m.f0.f1 (x.1.2.2 : Int)
  exact if_neg (by omega)
theorem pcs1_len (s : ByteArray) (m : Mk) : (pcs1 s m).length ≤ (lns s).length := List.length_filterMap_le _ _
theorem pcs_len (s : ByteArray) (l : List Mk) : (pcs s l).length ≤ l.length * (lns s).length := by
  induction l with
  | nil => simp [pcs]
  | cons m r ih =>
    have := pcs1_len s m
    unfold pcs at ih ⊢
    rw [List.flatMap_cons, List.length_append, List.length_cons, Nat.succ_mul]
    omega
theorem lns_len (s : ByteArray) : (lns s).length ≤ s.size + 1 := lnsFrom_len _ _ _
/-- A piece of a mark lies in a line. -/
structure InLn (s : ByteArray) (p : Mk) (n : Nat) (x : Ln s) : Prop where
  at_ : (lns s)[n]? = some x
  lo : (x.1.2.1 : Int) ≤ p.f0.f0
  lt : p.f0.f0 < p.f0.f1
  hi : p.f0.f1 ≤ (x.1.2.2 : Int)
theorem pc_in {s : ByteArray} {m p : Mk} {n : Nat} {x : Ln s} (hx : (lns s)[n]? = some x) (o : Ok s m) (h : pc s m x = some p) : InLn s p n x ∧ Ok s p ∧ m.f0.f0 ≤ p.f0.f0 ∧ p.f0.f1 ≤ m.f0.f1 ∧ p.f1 = m.f1 ∧ p.f2 = m.f2 := by
  unfold pc at h
  split at h
  · rename_i hlt
    obtain rfl := Option.some.inj h
    have h1 := mx_le m.f0.f0 (x.1.2.1 : Int)
    have h2 := mn_le m.f0.f1 (x.1.2.2 : Int)
    obtain ⟨l0, l1, _, l3, l4, _, _⟩ := ln s n x hx
    have := o.h0; have := o.h1; have := o.h2
    refine ⟨⟨hx, h1.2.1, hlt, h2.2.1⟩, ⟨by show (0 : Int) ≤ mx _ _; omega, by show mx _ _ ≤ mn _ _; omega, by show mn _ _ ≤ _; omega, o.h3, o.h4, ?_, ?_⟩, h1.1, h2.1, rfl, rfl⟩
    · show Bnd s (mx m.f0.f0 (x.1.2.1 : Int)).toNat
      rcases h1.2.2 with e | e <;> rw [e]
      · exact o.b0
      · exact l0
    · show Bnd s (mn m.f0.f1 (x.1.2.2 : Int)).toNat
      rcases h2.2.2 with e | e <;> rw [e]
      · exact o.b1
      · exact l1
  · cases h
/-- Pieces, one behind the other, each in a line. -/
inductive PRow (s : ByteArray) : Int → List Mk → Prop
  | nil (a : Int) : PRow s a []
  | cons {a : Int} {p : Mk} {r : List Mk} {n : Nat} {x : Ln s} (h : a ≤ p.f0.f0) (o : Ok s p) (i : InLn s p n x) (t : PRow s p.f0.f1 r) : PRow s a (p :: r)
theorem PRow.le {s : ByteArray} {l : List Mk} {a b : Int} (h : PRow s b l) (hab : a ≤ b) : PRow s a l := by
  cases h with
  | nil => exact .nil a
  | cons h o i t => exact .cons (by omega) o i t
theorem PRow.row {s : ByteArray} {l : List Mk} {a : Int} (h : PRow s a l) : Row s a l := by
  induction h with
  | nil => exact .nil _
  | cons h o i t ih => exact .cons h o ih
/-- Pieces of a stretch of lines, ahead of others. -/
theorem pcs1_row {s : ByteArray} {m : Mk} (o : Ok s m) {q : List Mk} (hq : PRow s m.f0.f1 q) : ∀ (d n : Nat) (a : Int), (lns s).length ≤ n + d → (∀ x, (lns s)[n]? = some x → a ≤ mx m.f0.f0 (x.1.2.1 : Int)) → a ≤ m.f0.f1 →
    PRow s a (((lns s).drop n).filterMap (pc s m) ++ q) := by
  intro d
  induction d with
  | zero =>
    intro n a hd _ ha
    rw [List.drop_eq_nil_of_le (by omega)]
    exact hq.le ha
  | succ d ih =>
    intro n a hd hn ha
    by_cases hlt : n < (lns s).length
    · obtain ⟨x, hx⟩ : ∃ x, (lns s)[n]? = some x := ⟨_, List.getElem?_eq_getElem hlt⟩
      rw [List.drop_eq_getElem_cons hlt, show (lns s)[n] = x from Option.some.inj ((List.getElem?_eq_getElem hlt).symm.trans hx)]
      cases hp : pc s m x with
      | none =>
        rw [List.filterMap_cons_none hp]
        refine ih (n + 1) a (by omega) (fun y hy => ?_) ha
        have h1 := hn x hx
        have h2 := ln_rise s n x hx 0 y hy
        have h3 := x.2
        have := mx_le m.f0.f0 (x.1.2.1 : Int)
        have := mx_le m.f0.f0 (y.1.2.1 : Int)
        omega
      | some p =>
        rw [List.filterMap_cons_some hp, List.cons_append]
        obtain ⟨hi, ho, h1, h2, _, _⟩ := pc_in hx o hp
        have hpx : p.f0.f0 = mx m.f0.f0 (x.1.2.1 : Int) := by
          unfold pc at hp; split at hp
          · obtain rfl := Option.some.inj hp; rfl
          · cases hp
        refine .cons (by rw [hpx]; exact hn x hx) ho hi (ih (n + 1) _ (by omega) (fun y hy => ?_) h2)
        have h3 := ln_rise s n x hx 0 y hy
        have := mx_le m.f0.f0 (y.1.2.1 : Int)
        have := hi.hi
        omega
    · rw [List.drop_eq_nil_of_le (by omega)]
      exact hq.le ha
theorem pcs_row {s : ByteArray} {l : List Mk} {a : Int} (h : Row s a l) : PRow s a (pcs s l) := by
  induction h with
  | nil => exact .nil _
  | @cons a m r h o t ih =>
    unfold pcs at ih ⊢
    rw [List.flatMap_cons]
    have := pcs1_row o ih (lns s).length 0 a (by omega) (fun x _ => by have := mx_le m.f0.f0 (x.1.2.1 : Int); omega) (by have := o.h1; omega)
    rwa [List.drop_zero] at this
/-- The line of a place. -/
def lno (s : ByteArray) (f : Nat) : Nat := ((lns s).takeWhile fun x => decide (x.1.2.1 ≤ f)).length - 1
def lbeg (s : ByteArray) (f : Nat) : Nat := ((lns s)[lno s f]?).elim 0 fun x => x.1.2.1
/-- That a line is a place's. -/
structure Here (s : ByteArray) (f n : Nat) (x : Ln s) : Prop where
  at_ : (lns s)[n]? = some x
  lo : x.1.2.1 ≤ f
  hi : ∀ y, (lns s)[n + 1]? = some y → f < y.1.2.1
theorem takeWhile_all {α : Type} (p : α → Bool) : ∀ (l : List α) (n : Nat), n ≤ l.length → (∀ i x, i < n → l[i]? = some x → p x = true) → (∀ x, l[n]? = some x → p x = false) → (l.takeWhile p).length = n
  | [], n, h, _, _ => by simp at h ⊢; omega
  | a :: l, 0, _, _, h2 => by
    have := h2 a rfl
    simp [List.takeWhile_cons, this]
  | a :: l, n + 1, h, h1, h2 => by
    have ha := h1 0 a (by omega) rfl
    rw [List.takeWhile_cons_of_pos ha, List.length_cons]
    rw [takeWhile_all p l n (by simpa using h) (fun i x hi hx => h1 (i + 1) x (by omega) (by simpa using hx)) (fun x hx => h2 x (by simpa using hx))]
theorem beg_mono (s : ByteArray) {i j : Nat} {x y : Ln s} (hx : (lns s)[i]? = some x) (hy : (lns s)[j]? = some y) (h : i ≤ j) : x.1.2.1 ≤ y.1.2.1 := by
  rcases Nat.lt_or_ge i j with hlt | hge
  · obtain ⟨d, rfl⟩ : ∃ d, j = i + d + 1 := ⟨j - i - 1, by omega⟩
    have := ln_rise s i x hx d y hy
    have := x.2
    omega
  · obtain rfl : i = j := by omega
    rw [hx] at hy
    obtain rfl := Option.some.inj hy
    exact Nat.le_refl _
theorem Here.lno {s : ByteArray} {f n : Nat} {x : Ln s} (h : Here s f n x) : lno s f = n ∧ lbeg s f = x.1.2.1 := by
  have hn := (List.getElem?_eq_some_iff.1 h.at_).1
  have e : XFive.lno s f = n := by
    unfold XFive.lno
    rw [takeWhile_all _ _ (n + 1) (by omega) (fun i y hi hy => ?_) (fun y hy => ?_)]
    · omega
    · have := beg_mono s hy h.at_ (by omega)
      have := h.lo
      exact decide_eq_true (by omega)
    · have := h.hi y hy
      exact decide_eq_false (by omega)
  refine ⟨e, ?_⟩
  unfold lbeg
  rw [e, h.at_]
  rfl
theorem InLn.here {s : ByteArray} {p : Mk} {n : Nat} {x : Ln s} (h : InLn s p n x) : Here s p.f0.f0.toNat n x := by
  have h1 := h.lo; have h2 := h.hi; have h3 := h.lt
  refine ⟨h.at_, by omega, fun y hy => ?_⟩
  have := ln_rise s n x h.at_ 0 y hy
  omega
theorem Here.mono {s : ByteArray} {f g n m : Nat} {x y : Ln s} (h : Here s f n x) (h' : Here s g m y) (hfg : f ≤ g) : n ≤ m := by
  refine Nat.le_of_not_lt fun hlt => ?_
  obtain ⟨z, hz⟩ : ∃ z, (lns s)[m + 1]? = some z := ⟨_, List.getElem?_eq_getElem (by have := (List.getElem?_eq_some_iff.1 h.at_).1; omega)⟩
  have h1 := h'.hi z hz
  have h2 := beg_mono s hz h.at_ (by omega)
  have := h.lo
  omega
/-- How many units of its line stand ahead of a place; of a stretch. -/
def char (s : ByteArray) (f : Nat) : Int := U (s.extract (lbeg s f) f)
def span (s : ByteArray) (p : Mk) : Int := U (s.extract p.f0.f0.toNat p.f0.f1.toNat)
/-- The five numbers of pieces, behind a line and units in it. -/
def fvs (s : ByteArray) : Int → Int → List Mk → List S60
  | _, _, [] => []
  | n, c, p :: r => ⟨(lno s p.f0.f0.toNat : Int) - n, if n < (lno s p.f0.f0.toNat : Int) then char s p.f0.f0.toNat else char s p.f0.f0.toNat - c, span s p, p.f1, p.f2⟩ :: fvs s (lno s p.f0.f0.toNat) (char s p.f0.f0.toNat) r
theorem fvs_len (s : ByteArray) : ∀ (l : List Mk) (n c : Int), (fvs s n c l).length = l.length
  | [], _, _ => rfl
  | _ :: r, _, _ => by simp only [fvs, List.length_cons, fvs_len s r]
theorem char_range (s : ByteArray) (f : Nat) : 0 ≤ char s f ∧ char s f ≤ s.size := by
  have := U_range (s.extract (lbeg s f) f)
  rw [ByteArray.size_extract] at this
  unfold char
  omega
end Go.Proofs.YtbjhmknahldhaaaDoor.XFive

end
section
namespace Go.Proofs.YtbjhmknahldhaaaDoor.XFive
open Go Go.RowKit Go.Proofs.YtbjhmknahldhaaaDoor.Q Go.Proofs.YtbjhmknahldhaaaDoorW.PrintWords Go.Proofs.YtbjhmknahldhaaaDoorW.PrintLast Go.Proofs.YtbjhmknahldhaaaDoorW.PrintMore Go.Proofs.YtbjhmknahldhaaaDoor.XEv Go.Proofs.YtbjhmknahldhaaaDoor.XUtfT Go.Proofs.YtbjhmknahldhaaaDoor.XWchars Go.Proofs.YtbjhmknahldhaaaDoor.XLines Go.Proofs.YtbjhmknahldhaaaDoor.XYlines
set_option linter.unusedVariables false
set_option linter.unusedSimpArgs false
theorem rightE (s : ByteArray) (hs : s.size ≤ 1000000) : ∀ (l : List Mk) (a : Int), Ev (fun k => rightF k s a l) (rgt s a l)
  | [], a => now fun _ => rfl
  | m :: r, a => by
    simp only [rightF, rgt]
    by_cases c1 : m.f0.f0 < a
    · simp only [if_pos c1]; exact now fun _ => rfl
    simp only [if_neg c1]
    by_cases c2 : m.f0.f1 < m.f0.f0
    · simp only [if_pos c2]; exact now fun _ => rfl
    simp only [if_neg c2]
    by_cases c3 : (s.size : Int) < m.f0.f1
    · simp only [if_pos c3]; exact now fun _ => rfl
    simp only [if_neg c3]
    by_cases c4 : m.f1 < 0
    · simp only [if_pos c4]; exact now fun _ => rfl
    simp only [if_neg c4]
    by_cases c5 : m.f2 < 0
    · simp only [if_pos c5]; exact now fun _ => rfl
    simp only [if_neg c5]
    refine bind (utf_begin s (by omega) _) ?_
    by_cases c6 : (beg s m.f0.f0 : Int) = m.f0.f0
    · simp only [if_pos c6]
      refine bind (utf_begin s (by omega) _) ?_
      by_cases c7 : (beg s m.f0.f1 : Int) = m.f0.f1
      · simp only [if_pos c7]; exact rightE s hs r _
      · simp only [if_neg c7]; exact now fun _ => rfl
    · simp only [if_neg c6]; exact now fun _ => rfl
theorem right (s : ByteArray) (hs : s.size ≤ 1000000) (l : List Mk) (hl : l.length ≤ 1000000) : Ev (fun k => five_right.f k s l) (rgt s 0 l) := by
  simp only [five_right.f]
  refine Go.Proofs.YtbjhmknahldhaaaDoor.XEv.pos (by omega) (rightE s hs l 0)
/-- Where lines begin, and the end. -/
def st (s : ByteArray) : List Int := begs (lns s) ++ [((s.size + 1 : Nat) : Int)]
theorem begs_len (s : ByteArray) : (begs (lns s)).length = (lns s).length := by unfold begs; rw [List.length_map]
theorem st_len (s : ByteArray) : (st s).length = (lns s).length + 1 := by unfold st; rw [List.length_append, begs_len]; rfl
theorem ends (s : ByteArray) (hs : s.size ≤ 1000000) : five_ends.f s = some (st s) := by
  have h1 : lines_Starts.f s = some (begs (lns s)) := by unfold lines_Starts.f; rw [if_pos (by omega)]
  have h2 := lns_len s
  unfold five_ends.f
  rw [h1, Option.bind_some, if_pos (by rw [begs_len]; omega), w64 (by omega) (by omega)]
  rfl
theorem st_beg (s : ByteArray) (n : Nat) (x : Ln s) (h : (lns s)[n]? = some x) : rd (st s) (n : Int) = (x.1.2.1 : Int) := by
  refine rd_of ?_
  unfold st
  rw [List.getElem?_append_left (by rw [begs_len]; exact (List.getElem?_eq_some_iff.1 h).1)]
  exact begs_at s n x h
theorem st_last (s : ByteArray) : rd (st s) ((lns s).length : Int) = ((s.size + 1 : Nat) : Int) := by
  refine rd_of ?_
  unfold st
  rw [List.getElem?_append_right (by rw [begs_len]; omega), begs_len, Nat.sub_self]
  rfl
/-- Where the next line begins, or all ends. -/
theorem st_next (s : ByteArray) (n : Nat) (x : Ln s) (h : (lns s)[n]? = some x) : ∃ e : Nat, rd (st s) ((n : Int) + 1) = (e : Int) ∧ (∀ f : Nat, f ≤ s.size → f < e → ∀ y, (lns s)[n + 1]? = some y → f < y.1.2.1) ∧ x.1.2.2 < e ∧
    (∀ y, (lns s)[n + 1]? = some y → e = y.1.2.1) ∧ ((lns s)[n + 1]? = none → e = s.size + 1) ∧ (∀ j, x.1.2.2 ≤ j → j < min e s.size → isB s j) := by
  obtain ⟨_, _, _, _, l4, _, hl⟩ := ln s n x h
  rcases hl with ⟨h1, h2⟩ | ⟨h1, y, hy, h2⟩
  · have hn : (lns s)[n + 1]? = none := List.getElem?_eq_none (by omega)
    refine ⟨s.size + 1, by rw [← st_last, h2]; rfl, fun f hf _ y hy => by (rw [hn] at hy; cases hy), by omega, fun y hy => by (rw [hn] at hy; cases hy), fun _ => rfl, fun j h3 h4 => by omega⟩
  · refine ⟨y.1.2.1, by rw [show ((n : Int) + 1) = ((n + 1 : Nat) : Int) by omega]; exact st_beg s (n + 1) y hy, fun f _ hf z hz => ?_, ?_, fun z hz => ?_, fun hz => by (rw [hy] at hz; cases hz), fun j h3 h4 => ?_⟩
    · rw [hy] at hz; obtain rfl := Option.some.inj hz; exact hf
    · have := nxt_gt s x.1.2.2; omega
    · rw [hy] at hz; obtain rfl := Option.some.inj hz; rfl
    · rw [h2] at h4
      unfold nxt at h4
      split at h4
      · rename_i hc
        have := crlf_isB s _ hc
        rcases Nat.lt_or_ge x.1.2.2 j with h5 | h5
        · rw [show j = x.1.2.2 + 1 by omega]; exact this.2
        · rw [show j = x.1.2.2 by omega]; exact this.1
      · rw [show j = x.1.2.2 by omega]; exact h1
/-- Lines ahead of a mark's have nothing of it. -/
theorem pcs1_from (s : ByteArray) {n : Nat} {x : Ln s} {m : Mk} (hx : (lns s)[n]? = some x) (hxle : (x.1.2.1 : Int) ≤ m.f0.f0) : pcs1 s m = ((lns s).drop n).filterMap (pc s m) := by
  have hn := (List.getElem?_eq_some_iff.1 hx).1
  have e : (lns s).filterMap (pc s m) = ((lns s).take n ++ (lns s).drop n).filterMap (pc s m) := by rw [List.take_append_drop]
  unfold pcs1
  rw [e, List.filterMap_append, List.filterMap_eq_nil_iff.2, List.nil_append]
  intro y hy
  obtain ⟨q, hq, hq2⟩ := List.getElem_of_mem hy
  rw [List.getElem_take] at hq2
  have hq3 : q < n := by rw [List.length_take] at hq; omega
  have hy2 : (lns s)[q]? = some y := by rw [← hq2]; exact List.getElem?_eq_getElem _
  refine pc_none (.inr ?_)
  obtain ⟨dd, hdd⟩ : ∃ dd, n = q + dd + 1 := ⟨n - q - 1, by omega⟩
  have := ln_rise s q y hy2 dd x (by rw [← hdd]; exact hx)
  omega
section
variable (s : ByteArray) (hs : s.size ≤ 1000000) (L : List Mk)
include hs
/-- The end of a line is passed back over. -/
theorem p3 {n j i : Nat} {x : Ln s} {m : Mk} {acc : List Mk} {f0 f1 f2 f3 : Int} {r : List Mk × Int} (hx : (lns s)[j]? = some x) (hm : m = ⟨⟨f0, f1⟩, f2, f3⟩) (hacc : acc.length < 4000000000000)
    (h : Ev (fun k => five_Pieces.l2 k s (acc ++ (pc s m x).toList) (st s) (n : Int) ((j + 1 : Nat) : Int) L (L.length : Int) (i : Int) f0 f1 f2 f3) r) :
    ∀ (d q : Nat), q = x.1.2.2 + d → q ≤ s.size → (∀ b, x.1.2.2 ≤ b → b < q → isB s b) → Ev (fun k => five_Pieces.l3 k s acc (st s) (n : Int) (j : Int) (q : Int) L (L.length : Int) (i : Int) f0 f1 f2 f3) r := by
  have hj := (List.getElem?_eq_some_iff.1 hx).1
  have hln := lns_len s
  obtain ⟨_, _, _, l3, l4, l5, _⟩ := ln s j x hx
  have e1 : wrap64 ((j : Int) + 1) = ((j + 1 : Nat) : Int) := w1 j (by omega)
  have c1 : (0 : Int) ≤ (j : Int) := by omega
  have c2 : (j : Int) < ((st s).length : Int) := by rw [st_len]; omega
  have hfin : Ev (fun k => if (mx f0 (x.1.2.1 : Int)) < (mn f1 (x.1.2.2 : Int)) then (if acc.length < 4398046511104 then (five_Pieces.l2 k s (acc ++ [(⟨(⟨mx f0 (x.1.2.1 : Int), mn f1 (x.1.2.2 : Int)⟩ : S36), f2, f3⟩ : Mk)]) (st s) (n : Int) (wrap64 ((j : Int) + 1)) L (L.length : Int) (i : Int) f0 f1 f2 f3) else none) else (five_Pieces.l2 k s acc (st s) (n : Int) (wrap64 ((j : Int) + 1)) L (L.length : Int) (i : Int) f0 f1 f2 f3)) r := by
    subst hm
    unfold pc at h
    by_cases c : mx f0 (x.1.2.1 : Int) < mn f1 (x.1.2.2 : Int)
    · rw [if_pos c] at h
      simp only [if_pos c, e1]
      exact XEv.pos (by omega) h
    · rw [if_neg c, Option.toList_none, List.append_nil] at h
      simp only [if_neg c, e1]
      exact h
  intro d
  induction d with
  | zero =>
    intro q hto hle hb
    refine up ?_
    simp only [five_Pieces.l3, if_pos c1, if_pos c2, st_beg s j x hx]
    rw [show q = x.1.2.2 by omega]
    by_cases c : (x.1.2.2 : Int) > (x.1.2.1 : Int)
    · have hb := l5 (x.1.2.2 - 1) (by omega) (by omega)
      have hn : ¬ (B s (x.1.2.2 - 1) = 10 ∨ B s (x.1.2.2 - 1) = 13) := fun h => hb ⟨by omega, h⟩
      have e2 := wsub1 x.1.2.2 (by omega) (by omega)
      have c3 : (0 : Int) ≤ ((x.1.2.2 - 1 : Nat) : Int) := by omega
      have c4 : ((x.1.2.2 - 1 : Nat) : Int) < (s.size : Int) := by omega
      have c5 : ¬ ((B s (x.1.2.2 - 1) : Int) = 10) := by omega
      have c6 : ¬ ((B s (x.1.2.2 - 1) : Int) = 13) := by omega
      simp only [if_pos c, e2, if_pos c3, if_pos c4, bt_nat, if_neg c5, if_neg c6]
      exact hfin
    · simp only [if_neg c]
      exact hfin
  | succ d ih =>
    intro q hto hle hb
    refine up ?_
    simp only [five_Pieces.l3, if_pos c1, if_pos c2, st_beg s j x hx]
    have c : (q : Int) > (x.1.2.1 : Int) := by omega
    have hB := (hb (q - 1) (by omega) (by omega)).2
    have e2 := wsub1 q (by omega) (by omega)
    have c3 : (0 : Int) ≤ ((q - 1 : Nat) : Int) := by omega
    have c4 : ((q - 1 : Nat) : Int) < (s.size : Int) := by omega
    have hr := ih (q - 1) (by omega) (by omega) (fun b h1 h2 => hb b h1 (by omega))
    simp only [if_pos c, e2, if_pos c3, if_pos c4, bt_nat]
    by_cases c5 : (B s (q - 1) : Int) = 10
    · simp only [if_pos c5]; exact hr
    · have c6 : (B s (q - 1) : Int) = 13 := by omega
      simp only [if_neg c5, if_pos c6]; exact hr
/-- The lines of one mark. -/
theorem p2 {n i : Nat} {m : Mk} {f0 f1 f2 f3 : Int} {r : List Mk × Int} (hm : m = ⟨⟨f0, f1⟩, f2, f3⟩) :
    ∀ (d j : Nat) (acc : List Mk), (lns s).length = j + d → acc.length + d < 4000000000000 →
    Ev (fun k => five_Pieces.l0 k s (acc ++ ((lns s).drop j).filterMap (pc s m)) (st s) (n : Int) L (L.length : Int) (wrap64 ((i : Int) + 1))) r →
    Ev (fun k => five_Pieces.l2 k s acc (st s) (n : Int) (j : Int) L (L.length : Int) (i : Int) f0 f1 f2 f3) r := by
  have hln := lns_len s
  intro d
  induction d with
  | zero =>
    intro j acc hd _ h
    rw [List.drop_eq_nil_of_le (by omega), List.filterMap_nil, List.append_nil] at h
    have e1 : wrap64 ((j : Int) + 1) = ((j + 1 : Nat) : Int) := w1 j (by omega)
    have c1 : ¬ (((j + 1 : Nat) : Int) < ((st s).length : Int)) := by rw [st_len]; omega
    refine up ?_
    simp only [five_Pieces.l2, e1, if_neg c1]
    refine up ?_
    simp only [five_Pieces.j3, Bool.false_eq_true, if_false]
    exact h
  | succ d ih =>
    intro j acc hd hacc h
    obtain ⟨x, hx⟩ : ∃ x, (lns s)[j]? = some x := ⟨_, List.getElem?_eq_getElem (by omega)⟩
    have hj : j < (lns s).length := by omega
    have e1 : wrap64 ((j : Int) + 1) = ((j + 1 : Nat) : Int) := w1 j (by omega)
    have c1 : ((j + 1 : Nat) : Int) < ((st s).length : Int) := by rw [st_len]; omega
    have c2 : (0 : Int) ≤ (j : Int) := by omega
    have c3 : (j : Int) < ((st s).length : Int) := by rw [st_len]; omega
    have c4 : (0 : Int) ≤ ((j + 1 : Nat) : Int) := by omega
    refine up ?_
    simp only [five_Pieces.l2, e1, if_pos c1, if_pos c2, if_pos c3, st_beg s j x hx]
    refine up ?_
    rw [List.drop_eq_getElem_cons hj, show (lns s)[j] = x from Option.some.inj ((List.getElem?_eq_getElem hj).symm.trans hx)] at h
    by_cases c : (x.1.2.1 : Int) < f1
    · obtain ⟨e, he, _, h3, _, _, h6⟩ := st_next s j x hx
      have hx2 := x.2
      have hmn : mn (rd (st s) ((j + 1 : Nat) : Int)) (s.size : Int) = ((min e s.size : Nat) : Int) := by
        rw [show ((j + 1 : Nat) : Int) = (j : Int) + 1 by omega, he]
        unfold mn; split <;> omega
      simp only [five_Pieces.j3, decide_eq_true c, if_true, e1, if_pos c1, if_pos c4, hmn]
      refine p3 s hs L hx hm (by omega) ?_ (min e s.size - x.1.2.2) (min e s.size) (by omega) (by omega) h6
      refine ih (j + 1) _ (by omega) ?_ ?_
      · rw [List.length_append]
        have : (pc s m x).toList.length ≤ 1 := by cases pc s m x <;> simp
        omega
      · rw [List.append_assoc]
        cases hp : pc s m x with
        | none => rw [List.filterMap_cons_none hp] at h; exact h
        | some p => rw [List.filterMap_cons_some hp] at h; exact h
    · simp only [five_Pieces.j3, decide_eq_false c, Bool.false_eq_true, if_false]
      have hno : ∀ y ∈ x :: (lns s).drop (j + 1), pc s m y = none := by
        intro y hy
        refine pc_none (.inl ?_)
        obtain ⟨q, hq, hq2⟩ := List.getElem_of_mem hy
        have hy2 : (lns s)[j + q]? = some y := by
          rw [← hq2]
          cases q with
          | zero => exact hx
          | succ q => simp only [List.getElem_cons_succ, List.getElem_drop]; rw [show j + (q + 1) = j + 1 + q by omega]; exact List.getElem?_eq_getElem _
        have := beg_mono s hx hy2 (by omega)
        subst hm
        show f1 ≤ _
        omega
      rw [List.filterMap_eq_nil_iff.2 hno, List.append_nil] at h
      exact h
/-- The line of a mark's begin is looked for. -/
theorem p1 {i : Nat} {acc : List Mk} {m : Mk} {r : List Mk × Int} (o : Ok s m) (hi : i < 1000000000) (hacc : acc.length < 3000000000000)
    (h : ∀ (n : Nat) (x : Ln s), (lns s)[n]? = some x → (x.1.2.1 : Int) ≤ m.f0.f0 → Ev (fun k => five_Pieces.l0 k s (acc ++ pcs1 s m) (st s) (n : Int) L (L.length : Int) ((i + 1 : Nat) : Int)) r) :
    ∀ (e n : Nat) (x : Ln s), (lns s).length = n + e → (lns s)[n]? = some x → (x.1.2.1 : Int) ≤ m.f0.f0 →
      Ev (fun k => five_Pieces.l1 k s acc (st s) (n : Int) L (L.length : Int) (i : Int) m.f0.f0 m.f0.f1 m.f1 m.f2) r := by
  have hln := lns_len s
  have o1 := o.h1
  have o2 := o.h2
  intro e
  induction e with
  | zero => intro n x he hx _; have := (List.getElem?_eq_some_iff.1 hx).1; omega
  | succ e ihe =>
    intro n x he hx hxle
    have e1 : wrap64 ((n : Int) + 1) = ((n + 1 : Nat) : Int) := w1 n (by omega)
    have c4 : (0 : Int) ≤ ((n + 1 : Nat) : Int) := by omega
    have c5 : ((n + 1 : Nat) : Int) < ((st s).length : Int) := by rw [st_len]; omega
    obtain ⟨g, hg, _, h3, h4, h5, _⟩ := st_next s n x hx
    have hg' : rd (st s) ((n + 1 : Nat) : Int) = (g : Int) := by rw [show ((n + 1 : Nat) : Int) = (n : Int) + 1 by omega]; exact hg
    refine up ?_
    simp only [five_Pieces.l1, e1, if_pos c4, if_pos c5, hg']
    by_cases c : (g : Int) ≤ m.f0.f0
    · simp only [if_pos c]
      cases hy : (lns s)[n + 1]? with
      | none => have := h5 hy; omega
      | some y => exact ihe (n + 1) y (by omega) hy (by have := h4 y hy; omega)
    · simp only [if_neg c]
      refine p2 s hs L (m := m) (by cases m with | mk f a b => cases f; rfl) e.succ n acc (by omega) (by omega) ?_
      rw [w1 i (by omega), ← pcs1_from s hx hxle]
      exact h n x hx hxle
/-- The marks. -/
theorem p0 (hL : L.length < 1000000000) (r : List Mk × Int) : ∀ (d i n : Nat) (acc : List Mk) (a : Int) (x : Ln s), L.length = i + d → Row s a (L.drop i) → (lns s)[n]? = some x → (x.1.2.1 : Int) ≤ a → acc.length + d * (s.size + 1) < 2000000000000 →
    r = (acc ++ pcs s (L.drop i), 0) → Ev (fun k => five_Pieces.l0 k s acc (st s) (n : Int) L (L.length : Int) (i : Int)) r := by
  have hln := lns_len s
  intro d
  induction d with
  | zero =>
    intro i n acc a x hd _ _ _ _ hr
    have c : ¬ (i : Int) < (L.length : Int) := by omega
    refine up ?_
    simp only [five_Pieces.l0, if_neg c]
    rw [List.drop_eq_nil_of_le (by omega)] at hr
    subst hr
    refine now fun _ => ?_
    simp [pcs]
  | succ d ih =>
    intro i n acc a x hd hrow hx hle hb hr
    rw [Nat.succ_mul] at hb
    obtain ⟨D, hD⟩ : ∃ D, d * (s.size + 1) = D := ⟨_, rfl⟩
    rw [hD] at hb ih
    clear hD
    have hi : i < L.length := by omega
    have c1 : (i : Int) < (L.length : Int) := by omega
    have c2 : (0 : Int) ≤ (i : Int) := by omega
    obtain ⟨m, hm⟩ : ∃ m, L[i]? = some m := ⟨_, List.getElem?_eq_getElem hi⟩
    have hrd : rd_T38 L (i : Int) = m := by
      unfold rd_T38
      rw [List.getD_eq_getElem?_getD, show ((i : Int)).toNat = i from rfl, hm]; rfl
    rw [List.drop_eq_getElem_cons hi, show L[i] = m from Option.some.inj ((List.getElem?_eq_getElem hi).symm.trans hm)] at hrow hr
    cases hrow with
    | cons h o t =>
      have o1 := o.h1
      refine up ?_
      simp only [five_Pieces.l0, if_pos c1, if_pos c2, hrd]
      refine p1 s hs L o (by omega) (by omega) (fun n' x' hx' hle' => ?_) ((lns s).length - n) n x (by have := (List.getElem?_eq_some_iff.1 hx).1; omega) hx (by omega)
      refine ih (i + 1) n' _ m.f0.f1 x' (by omega) t hx' (by omega) ?_ ?_
      · have := pcs1_len s m
        rw [List.length_append]; omega
      · rw [hr]; unfold pcs; rw [List.flatMap_cons, List.append_assoc]
end
theorem pieces (s : ByteArray) (hs : s.size ≤ 10000) (l : List Mk) (hl : l.length ≤ 100000) : Ev (fun k => five_Pieces.f k s l) (if rgt s 0 l = true then (pcs s l, 0) else ([], 230)) := by
  simp only [five_Pieces.f]
  refine bind (right s (by omega) l (by omega)) ?_
  by_cases h : rgt s 0 l = true
  · simp only [if_pos h]
    refine cbind (ends s (by omega)) ?_
    obtain ⟨x, hx, hx0⟩ := ln_first s
    have hrow := row_of_rgt s l 0 (by omega) h
    refine p0 s (by omega) l (by omega) _ l.length 0 0 [] 0 x (by omega) (by rw [List.drop_zero]; exact hrow) hx (by omega) ?_ (by rw [List.drop_zero, List.nil_append])
    have : l.length * (s.size + 1) ≤ 100000 * 10001 := Nat.mul_le_mul hl (by omega)
    simp only [List.length_nil]; omega
  · simp only [if_neg h]; exact now fun _ => rfl
end Go.Proofs.YtbjhmknahldhaaaDoor.XFive

end
section
namespace Go.Proofs.YtbjhmknahldhaaaDoor.XFive
open Go Go.RowKit Go.Proofs.YtbjhmknahldhaaaDoor.Q Go.Proofs.YtbjhmknahldhaaaDoorW.PrintWords Go.Proofs.YtbjhmknahldhaaaDoorW.PrintLast Go.Proofs.YtbjhmknahldhaaaDoorW.PrintMore Go.Proofs.YtbjhmknahldhaaaDoor.XEv Go.Proofs.YtbjhmknahldhaaaDoor.XUtfT Go.Proofs.YtbjhmknahldhaaaDoor.XWchars Go.Proofs.YtbjhmknahldhaaaDoor.XLines Go.Proofs.YtbjhmknahldhaaaDoor.XYlines
set_option linter.unusedVariables false
set_option linter.unusedSimpArgs false
theorem unitsE (s : ByteArray) (h : s.size ≤ 1000000) : utf_Units.f s = some (U s) := by
  unfold utf_Units.f
  rw [if_pos (by omega)]
  rfl
theorem ext_size (s : ByteArray) (a b : Nat) : (s.extract a b).size ≤ s.size := by rw [ByteArray.size_extract]; omega
section
variable (s : ByteArray) (hs : s.size ≤ 1000000) (L : List Mk)
include hs
theorem f1 {i N : Nat} {X : Ln s} {acc : List S60} {p : Mk} {r : List S60} {line : Nat} {c : Int} (o : Ok s p) (hin : InLn s p N X) (hline : line ≤ 2000000) (hc : 0 ≤ c ∧ c ≤ s.size) (hacc : acc.length < 3000000000000)
    (h : Ev (fun k => five_fives.l0 k s (acc ++ [⟨(N : Int) - line, if (line : Int) < (N : Int) then char s p.f0.f0.toNat else char s p.f0.f0.toNat - c, span s p, p.f1, p.f2⟩]) (st s) (N : Int) (N : Int) (char s p.f0.f0.toNat) L (L.length : Int) (wrap64 ((i : Int) + 1))) r) :
    ∀ (e n : Nat) (x : Ln s), N = n + e → (lns s)[n]? = some x → (x.1.2.1 : Int) ≤ p.f0.f0 →
      Ev (fun k => five_fives.l1 k s acc (st s) (n : Int) (line : Int) c L (L.length : Int) (i : Int) p.f0.f0 p.f0.f1 p.f1 p.f2) r := by
  have hln := lns_len s
  have o0 := o.h0
  have o1 := o.h1
  have o2 := o.h2
  have hN := (List.getElem?_eq_some_iff.1 hin.at_).1
  have hh := hin.here
  intro e
  induction e with
  | zero =>
    intro n x he hx hxle
    obtain rfl : n = N := by omega
    obtain rfl : x = X := by have := hin.at_; rw [hx] at this; exact Option.some.inj this
    have hn9 : n < 9223372036854775807 := by omega
    have c4 : (0 : Int) ≤ ((n + 1 : Nat) : Int) := by omega
    have c5 : ((n + 1 : Nat) : Int) < ((st s).length : Int) := by rw [st_len]; omega
    obtain ⟨g, hg, _, h3, h4, h5, _⟩ := st_next s n x hx
    have hg' : rd (st s) ((n + 1 : Nat) : Int) = (g : Int) := by rw [show ((n + 1 : Nat) : Int) = (n : Int) + 1 by omega]; exact hg
    have cg : ¬ (g : Int) ≤ p.f0.f0 := by
      cases hy : (lns s)[n + 1]? with
      | none => have := h5 hy; omega
      | some y => have := h4 y hy; have := hh.hi y hy; omega
    have d1 : (0 : Int) ≤ (n : Int) := by omega
    have d2 : (n : Int) < ((st s).length : Int) := by rw [st_len]; omega
    have d3 : (0 : Int) ≤ (x.1.2.1 : Int) := by omega
    have hu1 : utf_Units.f (s.extract ((x.1.2.1 : Int)).toNat p.f0.f0.toNat) = some (char s p.f0.f0.toNat) := by
      rw [unitsE _ (by have := ext_size s ((x.1.2.1 : Int)).toNat p.f0.f0.toNat; omega)]
      unfold char
      rw [hh.lno.2]; rfl
    have hu2 : utf_Units.f (s.extract p.f0.f0.toNat p.f0.f1.toNat) = some (span s p) := by
      rw [unitsE _ (by have := ext_size s p.f0.f0.toNat p.f0.f1.toNat; omega)]
      rfl
    have hcr := char_range s p.f0.f0.toNat
    have d4 : acc.length < 3518437208883 := by omega
    have d5 : p.f0.f0 ≤ (s.size : Int) := by omega
    have hw1 : wrap64 ((n : Int) - (line : Int)) = (n : Int) - line := w64 (by omega) (by omega)
    have hw2 : wrap64 (char s p.f0.f0.toNat) = char s p.f0.f0.toNat := w64 (by omega) (by omega)
    have hw3 : wrap64 (char s p.f0.f0.toNat - c) = char s p.f0.f0.toNat - c := w64 (by omega) (by omega)
    refine up ?_
    simp only [five_fives.l1, w1 n hn9, if_pos c4, if_pos c5, hg', if_neg cg]
    by_cases cl : (n : Int) > (line : Int)
    · simp only [if_pos cl, if_pos d1, if_pos d2, st_beg s n x hx, if_pos d3, if_pos hxle, if_pos d5, hu1, Option.bind_some, if_pos o0, if_pos o1, if_pos o2, hu2, if_pos d4, hw1, hw2]
      rw [if_pos (show (line : Int) < (n : Int) by omega)] at h
      exact h
    · simp only [if_neg cl, if_pos d1, if_pos d2, st_beg s n x hx, if_pos d3, if_pos hxle, if_pos d5, hu1, Option.bind_some, if_pos o0, if_pos o1, if_pos o2, hu2, if_pos d4, hw1, hw3]
      rw [if_neg (show ¬ (line : Int) < (n : Int) by omega)] at h
      exact h
  | succ e ihe =>
    intro n x he hx hxle
    have hn9 : n < 9223372036854775807 := by omega
    have c4 : (0 : Int) ≤ ((n + 1 : Nat) : Int) := by omega
    have c5 : ((n + 1 : Nat) : Int) < ((st s).length : Int) := by rw [st_len]; omega
    obtain ⟨y, hy⟩ : ∃ y, (lns s)[n + 1]? = some y := ⟨_, List.getElem?_eq_getElem (by omega)⟩
    have hyX := beg_mono s hy hin.at_ (by omega)
    have hlo := hin.lo
    have cg : (y.1.2.1 : Int) ≤ p.f0.f0 := by omega
    refine up ?_
    simp only [five_fives.l1, w1 n hn9, if_pos c4, if_pos c5, st_beg s (n + 1) y hy, if_pos cg]
    exact ihe (n + 1) y (by omega) hy cg
theorem f0 (hL : L.length < 1000000000000) (r : List S60) : ∀ (d i n : Nat) (acc : List S60) (a c : Int) (x : Ln s), L.length = i + d → PRow s a (L.drop i) → (lns s)[n]? = some x → (x.1.2.1 : Int) ≤ a → 0 ≤ c ∧ c ≤ s.size → acc.length + d < 2000000000000 →
    r = acc ++ fvs s n c (L.drop i) → Ev (fun k => five_fives.l0 k s acc (st s) (n : Int) (n : Int) c L (L.length : Int) (i : Int)) r := by
  have hln := lns_len s
  intro d
  induction d with
  | zero =>
    intro i n acc a c x hd _ _ _ _ _ hr
    have c1 : ¬ (i : Int) < (L.length : Int) := by omega
    refine up ?_
    simp only [five_fives.l0, if_neg c1]
    rw [List.drop_eq_nil_of_le (by omega)] at hr
    subst hr
    refine now fun _ => ?_
    simp [fvs]
  | succ d ih =>
    intro i n acc a c x hd hrow hx hle hc hb hr
    have hi : i < L.length := by omega
    have c1 : (i : Int) < (L.length : Int) := by omega
    have c2 : (0 : Int) ≤ (i : Int) := by omega
    obtain ⟨m, hm⟩ : ∃ m, L[i]? = some m := ⟨_, List.getElem?_eq_getElem hi⟩
    have hrd : rd_T38 L (i : Int) = m := by
      unfold rd_T38
      rw [List.getD_eq_getElem?_getD, show ((i : Int)).toNat = i from rfl, hm]; rfl
    rw [List.drop_eq_getElem_cons hi, show L[i] = m from Option.some.inj ((List.getElem?_eq_getElem hi).symm.trans hm)] at hrow hr
    cases hrow with
    | @cons _ _ _ N X h o hin t =>
      have hh := hin.here
      have hN := (List.getElem?_eq_some_iff.1 hin.at_).1
      have hn := (List.getElem?_eq_some_iff.1 hx).1
      have o1 := o.h1
      have hnN : n ≤ N := by
        refine Nat.le_of_not_lt fun hlt => ?_
        obtain ⟨y, hy⟩ : ∃ y, (lns s)[N + 1]? = some y := ⟨_, List.getElem?_eq_getElem (by omega)⟩
        have h1 := hh.hi y hy
        have h2 := beg_mono s hy hx (by omega)
        omega
      refine up ?_
      simp only [five_fives.l0, if_pos c1, if_pos c2, hrd]
      refine f1 s hs L o hin (by omega) hc (by omega) ?_ (N - n) n x (by omega) hx (by omega)
      rw [w1 i (by omega)]
      have hlo := hin.lo
      refine ih (i + 1) N _ m.f0.f1 _ X (by omega) t hin.at_ (by omega) (char_range s _) (by rw [List.length_append]; simp; omega) ?_
      rw [hr]
      simp only [fvs, hh.lno.1, List.append_assoc, List.singleton_append]
end
theorem fives (s : ByteArray) (hs : s.size ≤ 10000) (P : List Mk) (hP : P.length < 1000000000000) (h : PRow s 0 P) : Ev (fun k => five_fives.f k s P) (fvs s 0 0 P) := by
  simp only [five_fives.f]
  refine cbind (ends s (by omega)) ?_
  obtain ⟨x, hx, hx0⟩ := ln_first s
  exact f0 s (by omega) P hP _ P.length 0 0 [] 0 0 x (by omega) (by rw [List.drop_zero]; exact h) hx (by omega) (by omega) (by simp only [List.length_nil]; omega) (by rw [List.drop_zero, List.nil_append]; rfl)
/-- The numbers of marks. -/
def enc (s : ByteArray) (l : List Mk) : List Int := (fvs s 0 0 (pcs s l)).flatMap fiveOf
theorem encode (s : ByteArray) (hs : s.size ≤ 10000) (l : List Mk) (hl : l.length ≤ 100000) : Ev (fun k => five_Encode.f k s l) (if rgt s 0 l = true then (enc s l, 0) else ([], 230)) := by
  simp only [five_Encode.f]
  refine bind (pieces s hs l hl) ?_
  by_cases h : rgt s 0 l = true
  · simp only [if_pos h, if_true]
    have h1 := pcs_len s l
    have h2 := lns_len s
    have h3 : l.length * (lns s).length ≤ 100000 * 10001 := Nat.mul_le_mul hl (by omega)
    have hrow := pcs_row (row_of_rgt s l 0 (by omega) h)
    refine bind (fives s hs (pcs s l) (by omega) hrow) ?_
    have hr : five_row.f (fvs s 0 0 (pcs s l)) = some (enc s l) := by
      unfold five_row.f
      rw [if_pos (by rw [fvs_len]; omega)]
      rfl
    exact cbind hr (now fun _ => rfl)
  · simp only [if_neg h]
    have c : ¬ ((230 : Int) = 0) := by omega
    simp only [if_neg c]
    exact now fun _ => rfl
end Go.Proofs.YtbjhmknahldhaaaDoor.XFive

end
section
namespace Go.Proofs.YtbjhmknahldhaaaDoor.XFive
open Go Go.RowKit Go.Proofs.YtbjhmknahldhaaaDoor.Q Go.Proofs.YtbjhmknahldhaaaDoorW.PrintWords Go.Proofs.YtbjhmknahldhaaaDoorW.PrintLast Go.Proofs.YtbjhmknahldhaaaDoorW.PrintMore Go.Proofs.YtbjhmknahldhaaaDoor.XEv Go.Proofs.YtbjhmknahldhaaaDoor.XUtfT Go.Proofs.YtbjhmknahldhaaaDoor.XWchars Go.Proofs.YtbjhmknahldhaaaDoor.XLines Go.Proofs.YtbjhmknahldhaaaDoor.XYlines
set_option linter.unusedVariables false
set_option linter.unusedSimpArgs false
/-- A piece has itself alone. -/
theorem pcs1_self {s : ByteArray} {p : Mk} {n : Nat} {x : Ln s} (h : InLn s p n x) : pcs1 s p = [p] := by
  have hn := (List.getElem?_eq_some_iff.1 h.at_).1
  have hp : pc s p x = some p := by
    have e1 : mx p.f0.f0 (x.1.2.1 : Int) = p.f0.f0 := by have := h.lo; unfold mx; split <;> omega
    have e2 : mn p.f0.f1 (x.1.2.2 : Int) = p.f0.f1 := by have := h.hi; unfold mn; split <;> omega
    unfold pc
    rw [e1, e2]
    exact if_pos h.lt
  rw [pcs1_from s h.at_ h.lo, List.drop_eq_getElem_cons hn, show (lns s)[n] = x from Option.some.inj ((List.getElem?_eq_getElem hn).symm.trans h.at_), List.filterMap_cons_some hp, List.filterMap_eq_nil_iff.2]
  intro y hy
  obtain ⟨q, hq, hq2⟩ := List.getElem_of_mem hy
  rw [List.getElem_drop] at hq2
  have hy2 : (lns s)[n + 1 + q]? = some y := by rw [← hq2]; exact List.getElem?_eq_getElem _
  refine pc_none (.inl ?_)
  have := ln_rise s n x h.at_ q y (by rw [show n + q + 1 = n + 1 + q by omega]; exact hy2)
  have := h.hi
  omega
theorem pcs_self {s : ByteArray} {l : List Mk} {a : Int} (h : PRow s a l) : pcs s l = l := by
  induction h with
  | nil => rfl
  | cons h o i t ih => unfold pcs at ih ⊢; rw [List.flatMap_cons, pcs1_self i, ih]; rfl
/-- No more pieces than bytes. -/
theorem PRow.len {s : ByteArray} {l : List Mk} {a : Int} (h : PRow s a l) : a ≤ (s.size : Int) → (l.length : Int) ≤ (s.size : Int) - a := by
  induction h with
  | nil => intro h; simp only [List.length_nil]; omega
  | cons h o i t ih =>
    intro _
    have h1 := o.h2
    have h2 := ih h1
    have h3 := i.lt
    rw [List.length_cons]
    omega
/-- A line and units in it, of a place not behind another. -/
def At (s : ByteArray) (n : Nat) (c a : Int) : Prop := ∃ (q : Nat) (X : Ln s), Here s q n X ∧ Bnd s q ∧ c = char s q ∧ (q : Int) ≤ a
theorem char_ch {s : ByteArray} {q n : Nat} {X : Ln s} (h : Here s q n X) {ux uq : Int} (hx : Ch s X.1.2.1 ux) (hq : Ch s q uq) : char s q = uq - ux := by
  unfold char
  rw [h.lno.2]
  exact U_ext hx hq h.lo
theorem span_ch {s : ByteArray} {p : Mk} {u v : Int} (h0 : Ch s p.f0.f0.toNat u) (h1 : Ch s p.f0.f1.toNat v) (h : p.f0.f0 ≤ p.f0.f1) : span s p = v - u := U_ext h0 h1 (by omega)
theorem piece_at {s : ByteArray} {p : Mk} {N : Nat} {X : Ln s} (o : Ok s p) (i : InLn s p N X) {b : Nat} (hb : Bnd s b) (hpb : p.f0.f1 ≤ (b : Int)) :
    (X.1.2.1 : Int) + (C (s.extract X.1.2.1 b) (char s p.f0.f0.toNat) : Nat) = p.f0.f0 ∧ (X.1.2.1 : Int) + (C (s.extract X.1.2.1 b) (char s p.f0.f0.toNat + span s p) : Nat) = p.f0.f1 ∧ 0 ≤ char s p.f0.f0.toNat ∧ 1 ≤ span s p ∧
    char s p.f0.f0.toNat + span s p ≤ ((s.extract X.1.2.1 b).size : Int) ∧ U ((s.extract X.1.2.1 b).extract 0 (p.f0.f0.toNat - X.1.2.1)) = char s p.f0.f0.toNat ∧ U ((s.extract X.1.2.1 b).extract 0 (p.f0.f1.toNat - X.1.2.1)) = char s p.f0.f0.toNat + span s p := by
  have o0 := o.h0
  have lo := i.lo
  have lt := i.lt
  obtain ⟨ux, hux⟩ := Ch.of (ln s N X i.at_).1
  obtain ⟨u0, hu0⟩ := Ch.of o.b0
  obtain ⟨u1, hu1⟩ := Ch.of o.b1
  have e0 := char_ch i.here hux hu0
  have e1 := span_ch hu0 hu1 (by omega)
  have i0 := Ch.into hux (bnd_le hb) hu0 (by omega) (by omega)
  have i1 := Ch.into hux (bnd_le hb) hu1 (by omega) (by omega)
  have c0 := C_of _ _ _ i0
  have c1 := C_of _ _ _ i1
  have r0 := i0.range
  have r1 := i1.range
  have l1 := i1.le
  have m := (hu0.mono hu1).2.2 (by omega)
  have mu := XUtf.uni_range s p.f0.f0.toNat
  have x0 : (s.extract X.1.2.1 b).extract 0 (p.f0.f0.toNat - X.1.2.1) = s.extract X.1.2.1 p.f0.f0.toNat := by
    rw [ByteArray.extract_extract]; congr 1; omega
  have x1 : (s.extract X.1.2.1 b).extract 0 (p.f0.f1.toNat - X.1.2.1) = s.extract X.1.2.1 p.f0.f1.toNat := by
    rw [ByteArray.extract_extract]; congr 1; omega
  rw [x0, x1, U_ext hux hu0 (by omega), U_ext hux hu1 (by omega), e0, e1, c0, show u0 - ux + (u1 - u0) = u1 - ux by omega, c1]
  refine ⟨by omega, by omega, by omega, by omega, by omega, rfl, rfl⟩
/-- On the same line a place behind has no fewer units. -/
theorem At.le {s : ByteArray} {n N : Nat} {c a : Int} {p : Mk} {X : Ln s} (h : At s n c a) (o : Ok s p) (i : InLn s p N X) (ha : a ≤ p.f0.f0) : n ≤ N ∧ 0 ≤ c ∧ (n = N → c ≤ char s p.f0.f0.toNat) := by
  obtain ⟨q, Y, hq, hb, rfl, hqa⟩ := h
  refine ⟨hq.mono i.here (by omega), (char_range s q).1, fun e => ?_⟩
  subst e
  have hY := hq.at_
  rw [i.at_] at hY
  obtain rfl := Option.some.inj hY
  obtain ⟨ux, hux⟩ := Ch.of (ln s n X i.at_).1
  obtain ⟨u0, hu0⟩ := Ch.of o.b0
  obtain ⟨uq, huq⟩ := Ch.of hb
  rw [char_ch i.here hux hu0, char_ch hq hux huq]
  have := (huq.mono hu0).1 (by omega)
  omega
theorem At.next {s : ByteArray} {p : Mk} {N : Nat} {X : Ln s} (o : Ok s p) (i : InLn s p N X) : At s N (char s p.f0.f0.toNat) p.f0.f1 :=
  ⟨p.f0.f0.toNat, X, i.here, o.b0, rfl, by have := o.h0; have := o.h1; omega⟩
theorem At.first (s : ByteArray) : At s 0 0 0 := by
  obtain ⟨x, hx, hx0⟩ := ln_first s
  have hh : Here s 0 0 x := ⟨hx, by omega, fun y hy => by have := ln_rise s 0 x hx 0 y hy; omega⟩
  refine ⟨0, x, hh, .zero, ?_, Int.le_refl _⟩
  rw [char_ch hh (hx0 ▸ Ch.zero) Ch.zero]
  rfl
theorem dline_at {s : ByteArray} {n : Nat} {x : Ln s} (hx : (lns s)[n]? = some x) : ∃ b : Nat, dline s (st s) n = s.extract x.1.2.1 b ∧ Bnd s b ∧ x.1.2.2 ≤ b := by
  obtain ⟨e, he, _, h3, h4, h5, _⟩ := st_next s n x hx
  have hx2 := x.2
  refine ⟨min e s.size, ?_, ?_, by omega⟩
  · unfold dline
    have hmn : mn (rd (st s) ((n + 1 : Nat) : Int)) (s.size : Int) = ((min e s.size : Nat) : Int) := by
      rw [show ((n + 1 : Nat) : Int) = (n : Int) + 1 by omega, he]
      unfold mn; split <;> omega
    rw [st_beg s n x hx, hmn]
    rfl
  · cases hy : (lns s)[n + 1]? with
    | none => rw [h5 hy, show min (s.size + 1) s.size = s.size by omega]; exact bnd_size s
    | some y =>
      obtain ⟨b1, _⟩ := ln s (n + 1) y hy
      have := bnd_le b1
      rw [h4 y hy, show min y.1.2.1 s.size = y.1.2.1 by omega]; exact b1
theorem dstep_piece {s : ByteArray} {p : Mk} {N : Nat} {X : Ln s} {a : Int} {D : List Int} {τ : DS} {x : Nat} (o : Ok s p) (i : InLn s p N X) (hAt : At s τ.ln τ.ch a) (ha : a ≤ p.f0.f0)
    (d0 : dn D x 0 = (N : Int) - τ.ln) (d1 : dn D x 1 = if (τ.ln : Int) < N then char s p.f0.f0.toNat else char s p.f0.f0.toNat - τ.ch) (d2 : dn D x 2 = span s p) (d3 : dn D x 3 = p.f1) (d4 : dn D x 4 = p.f2) :
    ∃ σ, dstep s (st s) D τ x = some σ ∧ σ.l = τ.l ++ [p] ∧ σ.al = τ.al ++ [⟨(N : Int) - τ.ln, if (τ.ln : Int) < N then char s p.f0.f0.toNat else char s p.f0.f0.toNat - τ.ch, span s p, p.f1, p.f2⟩] ∧ σ.ln = N ∧ (σ.ch : Int) = char s p.f0.f0.toNat := by
  obtain ⟨hN, hc0, hc⟩ := hAt.le o i ha
  obtain ⟨b, hb, hbb, hbX⟩ := dline_at i.at_
  have hhi := i.hi
  obtain ⟨p0, p1, q0, q1, q2, _, _⟩ := piece_at o i hbb (by omega)
  have hNl := (List.getElem?_eq_some_iff.1 i.at_).1
  have o3 := o.h3
  have o4 := o.h4
  have e1 : 0 ≤ dn D x 1 := by
    rw [d1]
    split
    · omega
    · rename_i hlt
      have := hc (by omega)
      omega
  have hln : dln D τ x = N := by unfold dln; rw [d0]; omega
  have hch : ((dch D τ x : Nat) : Int) + dn D x 1 = char s p.f0.f0.toNat := by
    unfold dch
    rw [d0, d1]
    by_cases hlt : (τ.ln : Int) < N
    · rw [if_pos hlt, if_pos (by omega)]; omega
    · rw [if_neg hlt, if_neg (by omega)]; omega
  have nb : ¬ dbad (st s) D τ x := by
    unfold dbad
    rw [d0, d2, d3, d4, st_len]
    omega
  have nf : ¬ dfar s (st s) D τ x := by
    unfold dfar
    rw [hln, hb, d2]
    omega
  refine ⟨⟨τ.l ++ [dmark s (st s) D (dln D τ x) (dch D τ x) x], τ.al ++ [⟨dn D x 0, dn D x 1, dn D x 2, dn D x 3, dn D x 4⟩], dln D τ x, dch D τ x + (dn D x 1).toNat⟩, ?_, ?_, ?_, ?_, ?_⟩
  · unfold dstep
    rw [if_neg nb, if_neg nf]
  · show τ.l ++ [_] = _
    congr 2
    unfold dmark
    rw [hln, hch, d2, d3, d4, st_beg s N X i.at_, hb]
    unfold C at p0 p1
    rw [p0, p1]
  · show τ.al ++ [_] = _
    rw [d0, d1, d2, d3, d4]
  · exact hln
  · show ((dch D τ x + (dn D x 1).toNat : Nat) : Int) = _
    omega
theorem dn_drop {D r : List Int} {j : Nat} {f : S60} (h : D.drop (5 * j) = fiveOf f ++ r) : dn D j 0 = f.f0 ∧ dn D j 1 = f.f1 ∧ dn D j 2 = f.f2 ∧ dn D j 3 = f.f3 ∧ dn D j 4 = f.f4 ∧ D.drop (5 * (j + 1)) = r := by
  have hg : ∀ i, i < 5 → D[5 * j + i]? = (fiveOf f ++ r)[i]? := fun i _ => by rw [← h, List.getElem?_drop]
  refine ⟨rd_of (hg 0 (by omega)), rd_of (hg 1 (by omega)), rd_of (hg 2 (by omega)), rd_of (hg 3 (by omega)), rd_of (hg 4 (by omega)), ?_⟩
  rw [show 5 * (j + 1) = 5 * j + 5 by omega, ← List.drop_drop, h]
  rfl
theorem fin_drop (M j : Nat) (h : j < M) : (List.finRange M).drop j = ⟨j, h⟩ :: (List.finRange M).drop (j + 1) := by
  rw [List.drop_eq_getElem_cons (by rw [List.length_finRange]; exact h), List.getElem_finRange]
  rfl
/-- Marks that the numbers are those of come out. -/
theorem dall_of {s : ByteArray} {D : List Int} {l : List Mk} {a : Int} (h : PRow s a l) : ∀ (τ : DS) (j M : Nat), At s τ.ln τ.ch a → M = j + l.length → D.drop (5 * j) = (fvs s τ.ln τ.ch l).flatMap fiveOf →
    ∃ σ, ((List.finRange M).drop j).foldl (fun o x => o.bind fun σ => dstep s (st s) D σ x.1) (some τ) = some σ ∧ σ.l = τ.l ++ l ∧ σ.al = τ.al ++ fvs s τ.ln τ.ch l := by
  induction h with
  | nil =>
    intro τ j M hA hM hD
    rw [List.drop_eq_nil_of_le (by rw [List.length_finRange, hM]; simp)]
    exact ⟨τ, rfl, by simp, by simp [fvs]⟩
  | @cons a p r N X h o i t ih =>
    intro τ j M hA hM hD
    rw [List.length_cons] at hM
    have hh := i.here.lno.1
    simp only [fvs, hh, List.flatMap_cons] at hD
    obtain ⟨d0, d1, d2, d3, d4, dr⟩ := dn_drop hD
    obtain ⟨σ, s0, s1, s2, s3, s4⟩ := dstep_piece o i hA h d0 d1 d2 d3 d4
    rw [fin_drop M j (by omega), List.foldl_cons, Option.bind_some, s0]
    obtain ⟨ρ, r0, r1, r2⟩ := ih σ (j + 1) M (by rw [s3, s4]; exact At.next o i) (by omega) (by rw [s3, s4]; exact dr)
    refine ⟨ρ, r0, by rw [r1, s1, List.append_assoc]; rfl, ?_⟩
    rw [r2, s2, s3, s4, List.append_assoc]
    simp only [fvs, hh]
    rfl
theorem dn_cons {D : List Int} {j : Nat} (h : 5 * j + 5 ≤ D.length) : D.drop (5 * j) = [dn D j 0, dn D j 1, dn D j 2, dn D j 3, dn D j 4] ++ D.drop (5 * (j + 1)) := by
  have hg : ∀ i (hi : 5 * j + i < D.length), D[5 * j + i] = dn D j i := fun i hi => (rd_of (List.getElem?_eq_getElem hi)).symm
  rw [List.drop_eq_getElem_cons (by omega), List.drop_eq_getElem_cons (by omega), List.drop_eq_getElem_cons (by omega), List.drop_eq_getElem_cons (by omega), List.drop_eq_getElem_cons (by omega)]
  have := hg 0 (by omega)
  have := hg 1 (by omega)
  have := hg 2 (by omega)
  have := hg 3 (by omega)
  have := hg 4 (by omega)
  simp_all only [Nat.add_assoc, Nat.add_zero, Nat.reduceAdd, List.cons_append, List.nil_append]
  rfl
/-- The numbers gone through are the numbers. -/
theorem dall_back {s : ByteArray} {D : List Int} {M : Nat} (hD : D.length = 5 * M) : ∀ (d j : Nat) (τ σ : DS), M = j + d → ((List.finRange M).drop j).foldl (fun o x => o.bind fun σ => dstep s (st s) D σ x.1) (some τ) = some σ →
    σ.al.flatMap fiveOf = τ.al.flatMap fiveOf ++ D.drop (5 * j) := by
  intro d
  induction d with
  | zero =>
    intro j τ σ hj h
    rw [List.drop_eq_nil_of_le (by rw [List.length_finRange]; omega)] at h
    obtain rfl := Option.some.inj h
    rw [List.drop_eq_nil_of_le (by omega), List.append_nil]
  | succ d ih =>
    intro j τ σ hj h
    rw [fin_drop M j (by omega), List.foldl_cons, Option.bind_some] at h
    cases hs : dstep s (st s) D τ j with
    | none => rw [hs, dfold_none] at h; cases h
    | some ρ =>
      rw [hs] at h
      rw [ih (j + 1) ρ σ (by omega) h]
      unfold dstep at hs
      split at hs; · cases hs
      split at hs; · cases hs
      obtain rfl := Option.some.inj hs
      rw [dn_cons (D := D) (j := j) (by omega), List.flatMap_append, List.append_assoc]
      rfl
theorem sok_st (s : ByteArray) (hs : s.size ≤ 100000) : sok s (st s) := by
  have hl := lns_len s
  have hp := List.length_pos_iff.2 (lns_ne s)
  refine ⟨by rw [st_len]; omega, by rw [st_len]; omega, fun i hi => ?_⟩
  rw [st_len] at hi
  obtain ⟨x, hx⟩ : ∃ x, (lns s)[i]? = some x := ⟨_, List.getElem?_eq_getElem (by omega)⟩
  obtain ⟨e, he, _, h3, h4, h5, _⟩ := st_next s i x hx
  have hx2 := x.2
  have hee : e ≤ s.size + 1 := by
    cases hy : (lns s)[i + 1]? with
    | none => rw [h5 hy]; omega
    | some y => have := y.2; rw [h4 y hy]; omega
  have hmn := mn_le (e : Int) (s.size : Int)
  rw [st_beg s i x hx, show ((i + 1 : Nat) : Int) = (i : Int) + 1 by omega, he]
  omega
theorem sameMark_eq {a b : Mk} (h : sameMark a b = true) : a = b := by
  unfold sameMark at h
  simp only [Bool.and_eq_true, beq_iff_eq] at h
  obtain ⟨⟨h0, h1⟩, h2, h3⟩ := h
  cases a with | mk f a2 a3 => cases b with | mk g b2 b3 => cases f; cases g; simp only at h0 h1 h2 h3; subst h0 h1 h2 h3; rfl
theorem sameMarks_eq : ∀ {a b : List Mk}, sameMarks a b = true → a = b
  | [], [], _ => rfl
  | [], _ :: _, h => by cases h
  | _ :: _, [], h => by cases h
  | a :: r, b :: q, h => by
    simp only [sameMarks, Bool.and_eq_true] at h
    rw [sameMark_eq h.1, sameMarks_eq h.2]
theorem sameMarks_refl : ∀ (a : List Mk), sameMarks a a = true
  | [] => rfl
  | a :: r => by simp [sameMarks, sameMark, sameMarks_refl r]
theorem sameFive_eq {a b : S60} (h : sameFive a b = true) : a = b := by
  unfold sameFive at h
  simp only [Bool.and_eq_true, beq_iff_eq] at h
  obtain ⟨h0, h1, h2, h3, h4⟩ := h
  cases a; cases b; simp only at h0 h1 h2 h3 h4; subst h0 h1 h2 h3 h4; rfl
theorem sameFives_eq : ∀ {a b : List S60}, sameFives a b = true → a = b
  | [], [], _ => rfl
  | [], _ :: _, h => by cases h
  | _ :: _, [], h => by cases h
  | a :: r, b :: q, h => by
    simp only [sameFives, Bool.and_eq_true] at h
    rw [sameFive_eq h.1, sameFives_eq h.2]
theorem sameFives_refl : ∀ (a : List S60), sameFives a a = true
  | [] => rfl
  | a :: r => by simp [sameFives, sameFive, sameFives_refl r]
/-- Numbers are those of marks that are their own pieces. -/
structure Dc (s : ByteArray) (D : List Int) (l : List Mk) : Prop where
  row : PRow s 0 l
  nums : (fvs s 0 0 l).flatMap fiveOf = D
theorem Dc.len {s : ByteArray} {D : List Int} {l : List Mk} (h : Dc s D l) : D.length = 5 * l.length := by rw [← h.nums, flat_len, fvs_len]
theorem Dc.all {s : ByteArray} {D : List Int} {l : List Mk} (h : Dc s D l) : ∃ σ, dall s (st s) D (List.finRange (D.length / 5)) = some σ ∧ σ.l = l ∧ σ.al = fvs s 0 0 l := by
  have hl := h.len
  obtain ⟨σ, h0, h1, h2⟩ := dall_of (D := D) h.row ⟨[], [], 0, 0⟩ 0 (D.length / 5) (At.first s) (by omega) (by rw [Nat.mul_zero, List.drop_zero]; exact h.nums.symm)
  exact ⟨σ, h0, h1, h2⟩
theorem Dc.uniq {s : ByteArray} {D : List Int} {l m : List Mk} (h : Dc s D l) (k : Dc s D m) : l = m := by
  obtain ⟨σ, h0, h1, _⟩ := h.all
  obtain ⟨ρ, k0, k1, _⟩ := k.all
  rw [h0] at k0
  obtain rfl := Option.some.inj k0
  rw [← h1, ← k1]
theorem decode_some (s : ByteArray) (hs : s.size ≤ 10000) (D : List Int) (hD : D.length ≤ 100000) (l : List Mk) (h : Dc s D l) : Ev (fun k => five_Decode.f k s D) (l, 0) := by
  have hl := h.len
  obtain ⟨σ, h0, h1, h2⟩ := h.all
  have c1 : s.size ≤ 100000 ∧ D.length ≤ 1000000 := by omega
  have c2 : D.length % 5 = 0 := by omega
  simp only [five_Decode.f, if_pos c1, if_pos c2]
  refine cbind (ends s (by omega)) ?_
  simp only [if_pos (sok_st s (by omega)), h0]
  rw [h1]
  refine bind (pieces s hs l (by omega)) ?_
  rw [if_pos (rgt_of_row h.row.row), pcs_self h.row]
  simp only [if_true, sameMarks_refl]
  refine bind (fives s hs l (by omega) h.row) ?_
  rw [h2]
  simp only [sameFives_refl, if_true]
  exact now fun _ => rfl
theorem decode_none (s : ByteArray) (hs : s.size ≤ 10000) (D : List Int) (hD : D.length ≤ 100000) (h : ¬ ∃ l, Dc s D l) : Ev (fun k => five_Decode.f k s D) ([], 230) := by
  have c1 : s.size ≤ 100000 ∧ D.length ≤ 1000000 := by omega
  simp only [five_Decode.f, if_pos c1]
  by_cases c2 : D.length % 5 = 0
  case neg => simp only [if_neg c2]; exact now fun _ => rfl
  simp only [if_pos c2]
  refine cbind (ends s (by omega)) ?_
  simp only [if_pos (sok_st s (by omega))]
  cases hd : dall s (st s) D (List.finRange (D.length / 5)) with
  | none => exact now fun _ => rfl
  | some σ =>
    obtain ⟨_, _, g3, _⟩ := dall_ok s (st s) D (sok_st s (by omega)) _ σ hd
    rw [List.length_finRange] at g3
    simp only
    refine bind (pieces s hs σ.l (by omega)) ?_
    by_cases hr : rgt s 0 σ.l = true
    case neg =>
      have c : ¬ (230 : Int) = 0 := by omega
      simp only [if_neg hr, if_neg c]; exact now fun _ => rfl
    have hrow := pcs_row (row_of_rgt s σ.l 0 (by omega) hr)
    have hlen := hrow.len (by omega)
    simp only [if_pos hr, if_true]
    by_cases hm : sameMarks (pcs s σ.l) σ.l = true
    case neg => simp only [if_neg hm]; exact now fun _ => rfl
    simp only [if_pos hm]
    refine bind (fives s hs (pcs s σ.l) (by omega) hrow) ?_
    by_cases hf : sameFives (fvs s 0 0 (pcs s σ.l)) σ.al = true
    case neg => simp only [if_neg hf]; exact now fun _ => rfl
    exfalso
    have e1 := sameMarks_eq hm
    have e2 := sameFives_eq hf
    rw [e1] at e2 hrow
    refine h ⟨σ.l, hrow, ?_⟩
    have hb := dall_back (s := s) (D := D) (M := D.length / 5) (by omega) (D.length / 5) 0 ⟨[], [], 0, 0⟩ σ (by omega) (by rw [List.drop_zero]; exact hd)
    rw [Nat.mul_zero, List.drop_zero] at hb
    rw [e2, hb]
    rfl
end Go.Proofs.YtbjhmknahldhaaaDoor.XFive

end
section
namespace Go.Proofs.YtbjhmknahldhaaaDoor.XFive
open Go Go.RowKit Go.Proofs.YtbjhmknahldhaaaDoor.Q Go.Proofs.YtbjhmknahldhaaaDoorW.PrintWords Go.Proofs.YtbjhmknahldhaaaDoorW.PrintLast Go.Proofs.YtbjhmknahldhaaaDoorW.PrintMore Go.Proofs.YtbjhmknahldhaaaDoor.XEv Go.Proofs.YtbjhmknahldhaaaDoor.XUtfT Go.Proofs.YtbjhmknahldhaaaDoor.XWchars Go.Proofs.YtbjhmknahldhaaaDoor.XLines Go.Proofs.YtbjhmknahldhaaaDoor.XYlines
set_option linter.unusedVariables false
set_option linter.unusedSimpArgs false
abbrev Fv := S60
def rbad (s : ByteArray) (f : Fv) : Prop := f.f0 < 0 ∨ (s.size : Int) + 1 < f.f0 ∨ f.f1 < 0 ∨ (s.size : Int) + 1 < f.f1 ∨ f.f2 < 0 ∨ (s.size : Int) + 1 < f.f2 ∨ f.f3 < 0 ∨ f.f4 < 0
instance (s : ByteArray) (f : Fv) : Decidable (rbad s f) := by unfold rbad; exact inferInstance
/-- The units ahead of a stretch. -/
def rch (c : Int) (f : Fv) : Int := (if 0 < f.f0 then 0 else c) + f.f1
def rmk (x : Nat) (t : ByteArray) (c : Int) (f : Fv) : Mk := ⟨⟨(x : Int) + (C t c : Nat), (x : Int) + (C t (c + f.f2) : Nat)⟩, f.f3, f.f4⟩
def rdec (s : ByteArray) : Nat → Int → List Fv → Option (List Mk)
  | _, _, [] => some []
  | n, c, f :: r =>
    if rbad s f then none else
    match (lns s)[n + f.f0.toNat]? with
    | none => none
    | some x =>
      if f.f2 = 0 then none else
      if U ((s.extract x.1.2.1 x.1.2.2).extract 0 (C (s.extract x.1.2.1 x.1.2.2) (rch c f))) = rch c f then
        if U ((s.extract x.1.2.1 x.1.2.2).extract 0 (C (s.extract x.1.2.1 x.1.2.2) (rch c f + f.f2))) = rch c f + f.f2 then
          (rdec s (n + f.f0.toNat) (rch c f) r).map (rmk x.1.2.1 (s.extract x.1.2.1 x.1.2.2) (rch c f) f :: ·)
        else none
      else none
theorem nat_sub (n N : Nat) (x : Int) (h : n + x.toNat = N) (h0 : 0 ≤ x) : (N : Int) - n = x := by omega
theorem rdec_of {s : ByteArray} {l : List Mk} {a : Int} (h : PRow s a l) : ∀ (n : Nat) (c : Int), At s n c a → rdec s n c (fvs s n c l) = some l := by
  induction h with
  | nil => intro n c _; rfl
  | @cons a p r N X h o i t ih =>
    intro n c hA
    obtain ⟨hN, hc0, hc⟩ := hA.le o i h
    obtain ⟨p0, p1, q0, q1, q2, u0, u1⟩ := piece_at o i (ln s N X i.at_).2.1 i.hi
    have hh := i.here.lno.1
    have hNl := (List.getElem?_eq_some_iff.1 i.at_).1
    have hll := lns_len s
    have o3 := o.h3
    have o4 := o.h4
    have hX := X.2
    have hz := size_ext s X.1.2.1 X.1.2.2 hX.2.2
    have hlo := i.lo
    simp only [fvs, hh]
    have e1 : (n : Int) + ((N : Int) - n) = N := by omega
    have f1 : 0 ≤ (if (n : Int) < N then char s p.f0.f0.toNat else char s p.f0.f0.toNat - c) ∧ (if (n : Int) < N then char s p.f0.f0.toNat else char s p.f0.f0.toNat - c) ≤ (s.size : Int) := by
      split
      · omega
      · rename_i hlt
        have := hc (by omega)
        omega
    have hch : ∀ x1 x2 x3, rch c ⟨(N : Int) - n, if (n : Int) < N then char s p.f0.f0.toNat else char s p.f0.f0.toNat - c, x1, x2, x3⟩ = char s p.f0.f0.toNat := by
      intro x1 x2 x3
      unfold rch
      by_cases hlt : (n : Int) < N
      · simp only [if_pos hlt, if_pos (show 0 < (N : Int) - n by omega)]; omega
      · simp only [if_neg hlt, if_neg (show ¬ 0 < (N : Int) - n by omega)]; omega
    have hto : n + ((N : Int) - n).toNat = N := by omega
    have hnb : ∀ x, x = (if (n : Int) < N then char s p.f0.f0.toNat else char s p.f0.f0.toNat - c) → ¬ rbad s ⟨(N : Int) - n, x, span s p, p.f1, p.f2⟩ := by
      intro x hx
      rw [← hx] at f1
      unfold rbad
      simp only
      omega
    rw [rdec, if_neg (hnb _ rfl)]
    simp only [hto, i.at_, hch]
    have w0 : C (s.extract X.1.2.1 X.1.2.2) (char s p.f0.f0.toNat) = p.f0.f0.toNat - X.1.2.1 := by omega
    have w1 : C (s.extract X.1.2.1 X.1.2.2) (char s p.f0.f0.toNat + span s p) = p.f0.f1.toNat - X.1.2.1 := by omega
    rw [if_neg (by omega), w0, if_pos u0, w1, if_pos u1, ih N _ (At.next o i), Option.map_some]
    congr 2
    unfold rmk
    simp only
    rw [p0, p1]
/-- What comes out has the numbers that went in. -/
theorem rdec_back {s : ByteArray} : ∀ (fs : List Fv) (n : Nat) (c : Int) (l : List Mk), 0 ≤ c → rdec s n c fs = some l → fvs s n c l = fs ∧ ∀ m ∈ l, ∃ N X, InLn s m N X
  | [], n, c, l, _, h => by
    obtain rfl := Option.some.inj h
    exact ⟨rfl, fun m hm => by cases hm⟩
  | f :: r, n, c, l, hc, h => by
    rw [rdec] at h
    split at h; · cases h
    rename_i hb
    split at h; · cases h
    rename_i x hx
    split at h; · cases h
    rename_i h2
    split at h
    · rename_i g0
      split at h
      · rename_i g1
        cases hr : rdec s (n + f.f0.toNat) (rch c f) r with
        | none => rw [hr] at h; cases h
        | some q =>
          rw [hr, Option.map_some] at h
          obtain rfl := Option.some.inj h
          unfold rbad at hb
          obtain ⟨hx0, hx1, _, hx3, hx4, _, _⟩ := ln s _ x hx
          obtain ⟨T, hT⟩ : ∃ T, s.extract x.1.2.1 x.1.2.2 = T := ⟨_, rfl⟩
          have hz := size_ext s x.1.2.1 x.1.2.2 hx4
          rw [hT] at hz g0 g1
          have hch0 : 0 ≤ rch c f := by unfold rch; split <;> omega
          obtain ⟨v0, hv0⟩ := Ch.of (C_bnd T (rch c f))
          obtain ⟨v1, hv1⟩ := Ch.of (C_bnd T (rch c f + f.f2))
          have k0 := U_ext Ch.zero hv0 (Nat.zero_le _)
          have k1 := U_ext Ch.zero hv1 (Nat.zero_le _)
          rw [g0, Int.sub_zero] at k0
          rw [g1, Int.sub_zero] at k1
          subst k0 k1
          have hlt : C T (rch c f) < C T (rch c f + f.f2) := by
            refine Nat.lt_of_not_le fun hle => ?_
            have := (hv1.mono hv0).1 hle
            omega
          have hle := hv1.le
          obtain ⟨N, hN⟩ : ∃ N, n + f.f0.toNat = N := ⟨_, rfl⟩
          have e0 : (N : Int) - n = f.f0 := nat_sub n N f.f0 hN (Int.not_lt.1 fun h => hb (.inl h))
          rw [hN] at hx hr
          have hin : InLn s (rmk x.1.2.1 T (rch c f) f) N x := by
            refine ⟨hx, ?_, ?_, ?_⟩
            · show (x.1.2.1 : Int) ≤ (x.1.2.1 : Int) + (C T (rch c f) : Nat); omega
            · show (x.1.2.1 : Int) + (C T (rch c f) : Nat) < (x.1.2.1 : Int) + (C T (rch c f + f.f2) : Nat); omega
            · show (x.1.2.1 : Int) + (C T (rch c f + f.f2) : Nat) ≤ _; omega
          obtain ⟨ux, hux⟩ := Ch.of hx0
          obtain ⟨uy, huy⟩ := Ch.of hx1
          have b0 : Ch s (x.1.2.1 + C T (rch c f)) (ux + rch c f) := Ch.back hux huy (by rw [hT]; exact hv0)
          have b1 : Ch s (x.1.2.1 + C T (rch c f + f.f2)) (ux + (rch c f + f.f2)) := Ch.back hux huy (by rw [hT]; exact hv1)
          have t0 : (rmk x.1.2.1 T (rch c f) f).f0.f0.toNat = x.1.2.1 + C T (rch c f) := by show ((x.1.2.1 : Int) + (C T (rch c f) : Nat)).toNat = _; omega
          have t1 : (rmk x.1.2.1 T (rch c f) f).f0.f1.toNat = x.1.2.1 + C T (rch c f + f.f2) := by show ((x.1.2.1 : Int) + (C T (rch c f + f.f2) : Nat)).toNat = _; omega
          have hc1 : char s (rmk x.1.2.1 T (rch c f) f).f0.f0.toNat = rch c f := by
            rw [char_ch hin.here hux (by rw [t0]; exact b0)]; omega
          have hs1 : span s (rmk x.1.2.1 T (rch c f) f) = f.f2 := by
            rw [span_ch (u := ux + rch c f) (v := ux + (rch c f + f.f2)) (by rw [t0]; exact b0) (by rw [t1]; exact b1) (by have := hin.lt; omega)]; omega
          obtain ⟨r1, r2⟩ := rdec_back r N (rch c f) q hch0 hr
          rw [hT]
          refine ⟨?_, fun m hm => ?_⟩
          · simp only [fvs, hin.here.lno.1, hc1, hs1]
            rw [r1]
            congr 1
            have e1 : (if (n : Int) < N then rch c f else rch c f - c) = f.f1 := by
              unfold rch
              by_cases hlt : (n : Int) < N
              · rw [if_pos hlt, if_pos (by omega)]; omega
              · rw [if_neg hlt, if_neg (by omega)]; omega
            rw [e0, e1]
            rfl
          · rcases List.mem_cons.1 hm with rfl | hm
            · exact ⟨N, x, hin⟩
            · exact r2 m hm
      · cases h
    · cases h
theorem prow_of {s : ByteArray} {l : List Mk} {a : Int} (h : Row s a l) : (∀ m ∈ l, ∃ N X, InLn s m N X) → PRow s a l := by
  induction h with
  | nil => intro _; exact .nil _
  | @cons a m r h o t ih =>
    intro hm
    obtain ⟨N, X, hi⟩ := hm m (List.mem_cons_self ..)
    exact .cons h o hi (ih fun q hq => hm q (List.mem_cons_of_mem _ hq))
/-- What the reference answers. -/
theorem rdec_dc {s : ByteArray} {fs : List Fv} {l : List Mk} (h : rdec s 0 0 fs = some l) (hr : rgt s 0 l = true) : Dc s (fs.flatMap fiveOf) l := by
  obtain ⟨h1, h2⟩ := rdec_back fs 0 0 l (Int.le_refl _) h
  exact ⟨prow_of (row_of_rgt s l 0 (Int.le_refl _) hr) h2, congrArg (List.flatMap fiveOf) h1⟩
theorem flat_inj : ∀ {a b : List Fv}, a.flatMap fiveOf = b.flatMap fiveOf → a = b
  | [], [], _ => rfl
  | [], _ :: _, h => by simp [fiveOf] at h
  | _ :: _, [], h => by simp [fiveOf] at h
  | a :: r, b :: q, h => by
    rw [List.flatMap_cons, List.flatMap_cons] at h
    cases a; cases b
    simp only [fiveOf, List.cons_append, List.nil_append, List.cons.injEq] at h
    obtain ⟨h0, h1, h2, h3, h4, h5⟩ := h
    subst h0 h1 h2 h3 h4
    rw [flat_inj h5]
theorem dc_rdec {s : ByteArray} {fs : List Fv} {l : List Mk} (h : Dc s (fs.flatMap fiveOf) l) : rdec s 0 0 fs = some l := by
  rw [← flat_inj h.nums]
  exact rdec_of h.row 0 0 (At.first s)
/-- Numbers, five at a time. -/
theorem five_of (D : List Int) (h : D.length % 5 = 0) : ∃ fs : List Fv, fs.flatMap fiveOf = D ∧ D.length = 5 * fs.length := by
  have : ∀ (m : Nat) (D : List Int), D.length = 5 * m → ∃ fs : List Fv, fs.flatMap fiveOf = D ∧ D.length = 5 * fs.length := by
    intro m
    induction m with
    | zero =>
      intro D hD
      have h0 : D = [] := List.length_eq_zero_iff.1 (by omega)
      subst h0
      exact ⟨[], rfl, rfl⟩
    | succ m ih =>
      intro D hD
      match D, hD with
      | a :: b :: c :: d :: e :: r, hD =>
        simp only [List.length_cons] at hD
        obtain ⟨fs, h1, h2⟩ := ih r (by omega)
        refine ⟨⟨a, b, c, d, e⟩ :: fs, by rw [List.flatMap_cons, h1]; rfl, by simp only [List.length_cons]; omega⟩
  exact this (D.length / 5) D (by omega)
end Go.Proofs.YtbjhmknahldhaaaDoor.XFive

end
section
namespace Go.Proofs.YtbjhmknahldhaaaDoor.XFive
open Go Go.RowKit Go.Proofs.YtbjhmknahldhaaaDoor.Q Go.Proofs.YtbjhmknahldhaaaDoorW.PrintWords Go.Proofs.YtbjhmknahldhaaaDoorW.PrintLast Go.Proofs.YtbjhmknahldhaaaDoorW.PrintMore Go.Proofs.YtbjhmknahldhaaaDoor.XEv
set_option linter.unusedVariables false
set_option linter.unusedSimpArgs false
theorem same23 (l : List Int) (hl : l.length ≤ 1000000000000000) : Ev (fun k => glossatorref23_Same.f k l l) true := by
  have h : ∀ (d i : Nat), l.length = i + d → Ev (fun k => glossatorref23_Same.l0 k l l (i : Int)) true := by
    intro d
    induction d with
    | zero =>
      intro i hd
      have c : ¬ (i : Int) < (l.length : Int) := by omega
      refine up ?_
      simp only [glossatorref23_Same.l0, if_neg c]
      exact now fun _ => rfl
    | succ d ih =>
      intro i hd
      have c : (i : Int) < (l.length : Int) := by omega
      have c2 : (0 : Int) ≤ (i : Int) := by omega
      have hi9 : i < 9223372036854775807 := by omega
      refine up ?_
      simp only [glossatorref23_Same.l0, if_pos c, if_pos c2, if_true, w1 i hi9]
      exact ih (i + 1) (by omega)
  simp only [glossatorref23_Same.f, if_true]
  exact h l.length 0 (by omega)
theorem same22 (l : List Mk) (hl : l.length ≤ 1000000000000000) : Ev (fun k => glossatorref22_Same.f k l l) true := by
  have h : ∀ (d i : Nat), l.length = i + d → Ev (fun k => glossatorref22_Same.l0 k l l (i : Int)) true := by
    intro d
    induction d with
    | zero =>
      intro i hd
      have c : ¬ (i : Int) < (l.length : Int) := by omega
      refine up ?_
      simp only [glossatorref22_Same.l0, if_neg c]
      exact now fun _ => rfl
    | succ d ih =>
      intro i hd
      have c : (i : Int) < (l.length : Int) := by omega
      have c2 : (0 : Int) ≤ (i : Int) := by omega
      have hi9 : i < 9223372036854775807 := by omega
      refine up ?_
      simp only [glossatorref22_Same.l0, if_pos c, if_pos c2, beq_self_eq_true, Bool.not_true, Bool.or_self, Bool.false_eq_true, if_false, w1 i hi9]
      exact ih (i + 1) (by omega)
  simp only [glossatorref22_Same.f, if_true]
  exact h l.length 0 (by omega)
end Go.Proofs.YtbjhmknahldhaaaDoor.XFive

end
