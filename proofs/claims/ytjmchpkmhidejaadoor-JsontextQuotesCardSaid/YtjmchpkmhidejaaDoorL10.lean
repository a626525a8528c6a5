/- Words and walks of this claim, put together by this repo's wip/xlink.py out of XAchr, XUtfA, XUtfV, XRef01, XUtfX, XQuote, XItoa, PureJsontextQuotes. -/
import Derived.Test.YtjmchpkmhidejaaDoorL4
import Derived.Test.YtjmchpkmhidejaaDoorL9
import Derived.Lib.ValidLaws
import Derived.Lib.RuneCountTail
import Derived.Test.YtjmchpkmhidejaaDoorL8
import Derived.Test.YtjmchpkmhidejaaDoorL5
import Derived.Lib.MapLaws
import Derived.Test.YtjmchpkmhidejaaDoorL6
import Derived.Lib.ItoaLen
import Derived.Lib.ItoaMem
import Derived.Lib.Strings
import Derived.Test.YtjmchpkmhidejaaDoorL7
section
namespace Go.Proofs.YtjmchpkmhidejaaDoor.XRef01
open Go Go.RowKit Go.Proofs.YtjmchpkmhidejaaDoor.XEv
set_option linter.unusedVariables false
set_option linter.unusedSimpArgs false
/-- No character is encoded there. -/
def bad (s : ByteArray) (p : Nat) : Prop := (Utf8.decode s p).1 = 65533 ∧ (Utf8.decode s p).2 = 1
instance (s : ByteArray) (p : Nat) : Decidable (bad s p) := by unfold bad; infer_instance
def nxN (d : Nat × Nat) : Int × Int × Bool := if d.1 = 65533 ∧ d.2 = 1 then (0, 0, false) else ((d.1 : Int), (d.2 : Int), true)
def nx (s : ByteArray) (p : Nat) : Int × Int × Bool := nxN (Utf8.decode s p)
theorem nx_bad (s : ByteArray) (p : Nat) (h : bad s p) : nx s p = (0, 0, false) := if_pos h
theorem nx_good (s : ByteArray) (p : Nat) (h : ¬ bad s p) : nx s p = (((Utf8.decode s p).1 : Int), ((Utf8.decode s p).2 : Int), true) := if_neg h
end Go.Proofs.YtjmchpkmhidejaaDoor.XRef01

end
section
namespace Go.Proofs.YtjmchpkmhidejaaDoor.XUtfT
open Go Go.RowKit Go.Proofs.YtjmchpkmhidejaaDoorW.PrintWords Go.Proofs.YtjmchpkmhidejaaDoorW.PrintLast Go.Proofs.YtjmchpkmhidejaaDoorW.PrintMore Go.Proofs.YtjmchpkmhidejaaDoor.XEv Go.Proofs.YtjmchpkmhidejaaDoor.XRef01
set_option linter.unusedVariables false
set_option linter.unusedSimpArgs false
/-- Are all characters there, from a place on? -/
def okF (s : ByteArray) : Nat → Nat → Bool
  | 0, _ => true
  | b + 1, p => if p < s.size then (if bad s p then false else okF s b (p + XUtf.width s p)) else true
theorem drop_extract (s : ByteArray) (p : Nat) : (⟨(s.data.toList.drop p).toArray⟩ : ByteArray) = s.extract p s.size := by
  apply ByteArray.ext
  apply Array.ext'
  show s.data.toList.drop p = (s.extract p s.size).data.toList
  simp only [ByteArray.data_extract, Array.toList_extract, List.extract_eq_take_drop]
  rw [List.take_of_length_le]
  rw [List.length_drop, Array.length_toList]
  exact Nat.le_refl _
theorem decodeL_drop (s : ByteArray) (p : Nat) : Lib.decodeL (s.data.toList.drop p) = Utf8.decode s p := by
  unfold Lib.decodeL
  rw [drop_extract, Lib.tail_decode, Nat.add_zero]
theorem valid_ok (s : ByteArray) : ∀ (b p : Nat), s.size ≤ p + b → Lib.validD (s.data.toList.drop p) = okF s b p := by
  intro b
  induction b with
  | zero =>
    intro p hb
    rw [List.drop_eq_nil_of_le (by rw [Array.length_toList]; exact hb)]
    rfl
  | succ b ih =>
    intro p hb
    rw [okF]
    by_cases h : p < s.size
    · have hne : s.data.toList.drop p ≠ [] := by
        intro e
        have := congrArg List.length e
        rw [List.length_drop, Array.length_toList] at this
        have h' : p < s.data.size := h
        simp at this
        omega
      have hw := XUtf.width_range s p
      rw [if_pos h, Lib.validD_step _ hne, decodeL_drop s p, List.drop_drop, ih (p + (Utf8.decode s p).2) (by unfold XUtf.width at hw; omega)]
      rfl
    · rw [if_neg h, List.drop_eq_nil_of_le (by rw [Array.length_toList]; exact Nat.le_of_not_lt h)]
      rfl
/-- A place where a character begins, gone through from the string's begin. -/
inductive Bnd (s : ByteArray) : Nat → Prop
  | zero : Bnd s 0
  | next {p : Nat} : Bnd s p → p < s.size → Bnd s (p + XUtf.width s p)
end Go.Proofs.YtjmchpkmhidejaaDoor.XUtfT

end
section
namespace Go.Proofs.YtjmchpkmhidejaaDoor.XUtfT
open Go Go.RowKit Go.Proofs.YtjmchpkmhidejaaDoor.Q Go.Proofs.YtjmchpkmhidejaaDoorW.PrintWords Go.Proofs.YtjmchpkmhidejaaDoorW.PrintLast Go.Proofs.YtjmchpkmhidejaaDoorW.PrintMore Go.Proofs.YtjmchpkmhidejaaDoor.XEv Go.Proofs.YtjmchpkmhidejaaDoor.XRef01
set_option linter.unusedVariables false
set_option linter.unusedSimpArgs false
theorem utf_valid (s : ByteArray) (hs : s.size ≤ 140737488351232) : utf_Valid.f s = some (okF s s.size 0) := by
  have h : utf8_ValidString.f s = some (okF s s.size 0) := by
    unfold utf8_ValidString.f
    rw [if_pos hs, ← valid_ok s s.size 0 (by omega), List.drop_zero]
  simp only [utf_Valid.f, h, Option.bind_some]
end Go.Proofs.YtjmchpkmhidejaaDoor.XUtfT

end
section
namespace Go.Proofs.YtjmchpkmhidejaaDoor.XRef01
open Go Go.RowKit Go.Proofs.YtjmchpkmhidejaaDoor.Q Go.Proofs.YtjmchpkmhidejaaDoorW.PrintWords Go.Proofs.YtjmchpkmhidejaaDoorW.PrintLast Go.Proofs.YtjmchpkmhidejaaDoorW.PrintMore Go.Proofs.YtjmchpkmhidejaaDoor.XEv
set_option linter.unusedVariables false
set_option linter.unusedSimpArgs false
/-- The reference's arithmetic on four bytes, n of which are there. -/
def fin (z v : Int) : Int × Int × Bool :=
  if v < (if z = 2 then 128 else if z = 3 then 2048 else 65536) then (0, 0, false) else if v > 1114111 then (0, 0, false) else if v ≥ 55296 then (if v < 57344 then (0, 0, false) else (v, z, true)) else (v, z, true)
theorem l0_fin (s : ByteArray) (p z v i : Int) (hz : z = 2 ∨ z = 3 ∨ z = 4) (hi : ¬ i < z) (h0 : -2147483648 ≤ v) (h1 : v ≤ 2147483647) : Ev (fun k => glossatorref01_Next.l0 k s p z v i) (fin z v) := by
  refine up ?_
  simp only [glossatorref01_Next.l0, if_neg hi, Option.bind_some]
  have e1 : (0 : Int) ≤ z := by omega
  have e2 : z < (([0, 0, 128, 2048, 65536] : List Int).length : Int) := by simp; omega
  have e3 : rd ([0, 0, 128, 2048, 65536] : List Int) z = if z = 2 then 128 else if z = 3 then 2048 else 65536 := by rcases hz with rfl | rfl | rfl <;> rfl
  simp only [if_pos e1, if_pos e2, e3]
  refine now (fun k => ?_)
  unfold fin
  rw [w32 h0 h1]
  repeat' split
  all_goals first | rfl | (exfalso; omega)
theorem l0_step (s : ByteArray) (p i : Nat) (z v : Int) (r : Int × Int × Bool) (hp : p + i < s.size) (hsz : s.size ≤ 140737488351232) (hi : (i : Int) < z) (h0 : 0 ≤ v) (h1 : v ≤ 16777216) (hz : z ≤ 4)
    (hr : 128 ≤ B s (p + i) → B s (p + i) < 192 → Ev (fun k => glossatorref01_Next.l0 k s p z (v * 64 + B s (p + i) - 128) ((i + 1 : Nat) : Int)) r) :
    Ev (fun k => glossatorref01_Next.l0 k s p z v i) (if 128 ≤ B s (p + i) ∧ B s (p + i) < 192 then r else (0, 0, false)) := by
  refine up ?_
  have hB := B_lt s (p + i)
  have e0 : wrap64 ((p : Int) + i) = ((p + i : Nat) : Int) := by rw [w64 (by omega) (by omega)]; omega
  have e1 : (0 : Int) ≤ ((p + i : Nat) : Int) := by omega
  have e2 : ((p + i : Nat) : Int) < (s.size : Int) := by omega
  simp only [glossatorref01_Next.l0, if_pos hi, e0, if_pos e1, if_pos e2, bt_nat, w64 (show (-9223372036854775808 : Int) ≤ (B s (p + i) : Int) by omega) (by omega)]
  by_cases c1 : (B s (p + i) : Int) < 128
  · rw [if_neg (by omega)]
    simp only [if_pos c1]
    exact now fun _ => rfl
  · by_cases c2 : (B s (p + i) : Int) ≥ 192
    · rw [if_neg (by omega)]
      simp only [if_neg c1, if_pos c2]
      exact now fun _ => rfl
    · rw [if_pos (by omega)]
      have e3 : wrap64 (v * 64) = v * 64 := w64 (by omega) (by omega)
      have e4 : wrap64 (v * 64 + (B s (p + i) : Int)) = v * 64 + (B s (p + i) : Int) := w64 (by omega) (by omega)
      have e5 : wrap64 (v * 64 + (B s (p + i) : Int) - 128) = v * 64 + (B s (p + i) : Int) - 128 := w64 (by omega) (by omega)
      have e6 : wrap64 ((i : Int) + 1) = ((i + 1 : Nat) : Int) := by rw [w64 (by omega) (by omega)]; omega
      simp only [if_neg c1, if_neg c2, e3, e4, e5, e6]
      exact hr (by omega) (by omega)
def cont (b : Nat) : Prop := 128 ≤ b ∧ b < 192
instance (b : Nat) : Decidable (cont b) := by unfold cont; infer_instance
/-- What the reference comes to for a lead byte's size and bits. -/
def tail (s : ByteArray) (p z : Nat) (v : Int) : Int × Int × Bool :=
  if p + z > s.size then (0, 0, false)
  else if z = 2 then (if cont (B s (p + 1)) then fin 2 (v * 64 + B s (p + 1) - 128) else (0, 0, false))
  else if z = 3 then (if cont (B s (p + 1)) then (if cont (B s (p + 2)) then fin 3 ((v * 64 + B s (p + 1) - 128) * 64 + B s (p + 2) - 128) else (0, 0, false)) else (0, 0, false))
  else (if cont (B s (p + 1)) then (if cont (B s (p + 2)) then (if cont (B s (p + 3)) then fin 4 (((v * 64 + B s (p + 1) - 128) * 64 + B s (p + 2) - 128) * 64 + B s (p + 3) - 128) else (0, 0, false)) else (0, 0, false)) else (0, 0, false))
theorem j3_tail (s : ByteArray) (p z : Nat) (v : Int) (hz : z = 2 ∨ z = 3 ∨ z = 4) (hp : p < s.size) (hsz : s.size ≤ 140737488351232) (h0 : 0 ≤ v) (h1 : v ≤ 31) : Ev (fun k => glossatorref01_Next.j3 k s p z v) (tail s p z v) := by
  refine up ?_
  have e0 : wrap64 ((p : Int) + z) = ((p + z : Nat) : Int) := by rw [w64 (by omega) (by omega)]; omega
  simp only [glossatorref01_Next.j3, e0]
  unfold tail
  by_cases c : p + z > s.size
  · rw [if_pos c]
    have c' : ((p + z : Nat) : Int) > (s.size : Int) := by omega
    simp only [if_pos c']
    exact now fun _ => rfl
  · rw [if_neg c]
    have c' : ¬ ((p + z : Nat) : Int) > (s.size : Int) := by omega
    simp only [if_neg c']
    have b1 := B_lt s (p + 1); have b2 := B_lt s (p + 2); have b3 := B_lt s (p + 3)
    rcases hz with rfl | rfl | rfl
    · rw [if_pos rfl]
      exact l0_step s p 1 _ v _ (by omega) hsz (by omega) (by omega) (by omega) (by omega) fun ha hb => l0_fin s p _ _ _ (by omega) (by omega) (by omega) (by omega)
    · rw [if_neg (by omega), if_pos rfl]
      exact l0_step s p 1 _ v _ (by omega) hsz (by omega) (by omega) (by omega) (by omega) fun ha hb => l0_step s p 2 _ _ _ (by omega) hsz (by omega) (by omega) (by omega) (by omega) fun hc hd => l0_fin s p _ _ _ (by omega) (by omega) (by omega) (by omega)
    · rw [if_neg (by omega), if_neg (by omega)]
      exact l0_step s p 1 _ v _ (by omega) hsz (by omega) (by omega) (by omega) (by omega) fun ha hb => l0_step s p 2 _ _ _ (by omega) hsz (by omega) (by omega) (by omega) (by omega) fun hc hd => l0_step s p 3 _ _ _ (by omega) hsz (by omega) (by omega) (by omega) (by omega) fun he hf => l0_fin s p _ _ _ (by omega) (by omega) (by omega) (by omega)
def whole (s : ByteArray) (p : Nat) : Int × Int × Bool :=
  if B s p < 128 then ((B s p : Int), 1, true) else if 192 ≤ B s p ∧ B s p < 224 then tail s p 2 (B s p - 192) else if 224 ≤ B s p ∧ B s p < 240 then tail s p 3 (B s p - 224) else if 240 ≤ B s p ∧ B s p < 248 then tail s p 4 (B s p - 240) else (0, 0, false)
theorem next_whole (s : ByteArray) (p : Nat) (hp : p < s.size) (hsz : s.size ≤ 140737488351232) : Ev (fun k => glossatorref01_Next.f k s p) (whole s p) := by
  have hB := B_lt s p
  have e0 : ¬ (p : Int) < 0 := by omega
  have e1 : decide ((p : Int) ≥ (s.size : Int)) = false := decide_eq_false (by omega)
  have e2 : (0 : Int) ≤ p := by omega
  have e3 : (p : Int) < (s.size : Int) := by omega
  have eb : wrap64 (B s p : Int) = (B s p : Int) := w64 (by omega) (by omega)
  simp only [glossatorref01_Next.f, if_neg e0, e1]
  refine up ?_
  simp only [glossatorref01_Next.j0, Bool.false_eq_true, if_false, if_pos e2, if_pos e3, bt_nat, eb]
  unfold whole
  by_cases c0 : B s p < 128
  · have c0' : (B s p : Int) < 128 := by omega
    rw [if_pos c0]
    simp only [if_pos c0']
    exact now fun _ => by rw [w32 (by omega) (by omega)]
  have c0' : ¬ (B s p : Int) < 128 := by omega
  rw [if_neg c0]
  simp only [if_neg c0']
  by_cases c1 : 192 ≤ B s p ∧ B s p < 224
  · have d1 : (B s p : Int) ≥ 192 := by omega
    have d2 : decide ((B s p : Int) < 224) = true := decide_eq_true (by omega)
    have d3 : wrap64 ((B s p : Int) - 192) = (B s p : Int) - 192 := w64 (by omega) (by omega)
    rw [if_pos c1]
    simp only [if_pos d1, d2]
    refine up ?_
    simp only [glossatorref01_Next.j1, if_true, d3]
    exact j3_tail s p 2 _ (by omega) hp hsz (by omega) (by omega)
  rw [if_neg c1]
  have J1 : ∀ {r}, Ev (fun k => glossatorref01_Next.j1 k s p (B s p) false) r → Ev (fun k => if (B s p : Int) ≥ 192 then glossatorref01_Next.j1 k s p (B s p) (decide ((B s p : Int) < 224)) else glossatorref01_Next.j1 k s p (B s p) false) r := by
    intro r h
    refine both (fun hc => ?_) (fun _ => h)
    have : decide ((B s p : Int) < 224) = false := decide_eq_false (by omega)
    simp only [this]
    exact h
  refine J1 ?_
  clear J1
  by_cases c2 : 224 ≤ B s p ∧ B s p < 240
  · have d1 : (B s p : Int) ≥ 224 := by omega
    have d2 : decide ((B s p : Int) < 240) = true := decide_eq_true (by omega)
    have d3 : wrap64 ((B s p : Int) - 224) = (B s p : Int) - 224 := w64 (by omega) (by omega)
    rw [if_pos c2]
    refine up ?_
    simp only [glossatorref01_Next.j1, Bool.false_eq_true, if_false, if_pos d1, d2]
    refine up ?_
    simp only [glossatorref01_Next.j2, if_true, d3]
    exact j3_tail s p 3 _ (by omega) hp hsz (by omega) (by omega)
  rw [if_neg c2]
  refine up ?_
  simp only [glossatorref01_Next.j1, Bool.false_eq_true, if_false]
  have J2 : ∀ {r}, Ev (fun k => glossatorref01_Next.j2 k s p (B s p) false) r → Ev (fun k => if (B s p : Int) ≥ 224 then glossatorref01_Next.j2 k s p (B s p) (decide ((B s p : Int) < 240)) else glossatorref01_Next.j2 k s p (B s p) false) r := by
    intro r h
    refine both (fun hc => ?_) (fun _ => h)
    have : decide ((B s p : Int) < 240) = false := decide_eq_false (by omega)
    simp only [this]
    exact h
  refine J2 ?_
  refine up ?_
  simp only [glossatorref01_Next.j2, Bool.false_eq_true, if_false]
  by_cases c3 : 240 ≤ B s p ∧ B s p < 248
  · have d1 : (B s p : Int) ≥ 240 := by omega
    have d2 : (B s p : Int) < 248 := by omega
    have d3 : wrap64 ((B s p : Int) - 240) = (B s p : Int) - 240 := w64 (by omega) (by omega)
    rw [if_pos c3]
    simp only [if_pos d1, if_pos d2, d3]
    exact j3_tail s p 4 _ (by omega) hp hsz (by omega) (by omega)
  · rw [if_neg c3]
    refine both (fun hc => ?_) (fun _ => now fun _ => rfl)
    have d2 : ¬ (B s p : Int) < 248 := by omega
    simp only [if_neg d2]
    exact now fun _ => rfl
def tailN (n z x1 x2 x3 : Nat) (v : Int) : Int × Int × Bool :=
  if z > n then (0, 0, false)
  else if z = 2 then (if cont x1 then fin 2 (v * 64 + x1 - 128) else (0, 0, false))
  else if z = 3 then (if cont x1 then (if cont x2 then fin 3 ((v * 64 + x1 - 128) * 64 + x2 - 128) else (0, 0, false)) else (0, 0, false))
  else (if cont x1 then (if cont x2 then (if cont x3 then fin 4 (((v * 64 + x1 - 128) * 64 + x2 - 128) * 64 + x3 - 128) else (0, 0, false)) else (0, 0, false)) else (0, 0, false))
theorem tail_N (s : ByteArray) (p z : Nat) (v : Int) (hp : p < s.size) : tail s p z v = tailN (s.size - p) z (B s (p + 1)) (B s (p + 2)) (B s (p + 3)) v := by
  unfold tail tailN
  by_cases h : p + z > s.size
  · rw [if_pos h, if_pos (show z > s.size - p by omega)]
  · rw [if_neg h, if_neg (show ¬ z > s.size - p by omega)]
theorem fin_bad2 (v : Int) (h : v < 128) : fin 2 v = (0, 0, false) := by unfold fin; rw [if_pos]; simpa using h
theorem fin_good2 (v : Int) (h : 128 ≤ v) (h2 : v < 55296) : fin 2 v = (v, 2, true) := by
  unfold fin; rw [if_neg (by rw [if_pos rfl]; omega), if_neg (by omega), if_neg (by omega)]
theorem fin_bad3 (v : Int) (h : v < 2048 ∨ (55296 ≤ v ∧ v < 57344) ∨ 1114111 < v) : fin 3 v = (0, 0, false) := by
  unfold fin
  have e : (if (3 : Int) = 2 then (128 : Int) else if (3 : Int) = 3 then 2048 else 65536) = 2048 := rfl
  rw [e]
  repeat' split
  all_goals first | rfl | (exfalso; omega)
theorem fin_good3 (v : Int) (h : 2048 ≤ v) (h2 : v < 55296 ∨ 57344 ≤ v) (h3 : v ≤ 1114111) : fin 3 v = (v, 3, true) := by
  unfold fin
  have e : (if (3 : Int) = 2 then (128 : Int) else if (3 : Int) = 3 then 2048 else 65536) = 2048 := rfl
  rw [e]
  repeat' split
  all_goals first | rfl | (exfalso; omega)
theorem fin_bad4 (v : Int) (h : v < 65536 ∨ 1114111 < v) : fin 4 v = (0, 0, false) := by
  unfold fin
  have e : (if (4 : Int) = 2 then (128 : Int) else if (4 : Int) = 3 then 2048 else 65536) = 65536 := rfl
  rw [e]
  repeat' split
  all_goals first | rfl | (exfalso; omega)
theorem fin_good4 (v : Int) (h : 65536 ≤ v) (h3 : v ≤ 1114111) : fin 4 v = (v, 4, true) := by
  unfold fin
  have e : (if (4 : Int) = 2 then (128 : Int) else if (4 : Int) = 3 then 2048 else 65536) = 65536 := rfl
  rw [e]
  repeat' split
  all_goals first | rfl | (exfalso; omega)
theorem nxN_bad : nxN (65533, 1) = (0, 0, false) := rfl
theorem nxN_good (a b : Nat) (h : b ≠ 1) : nxN (a, b) = ((a : Int), (b : Int), true) := by unfold nxN; rw [if_neg (fun hc => h hc.2)]
theorem arith2 (n x0 x1 x2 x3 : Nat) (h0 : 192 ≤ x0 ∧ x0 < 224) (h1 : x1 < 256) : tailN n 2 x1 x2 x3 ((x0 : Int) - 192) = nxN (Lib.decodeN n x0 x1 x2 x3) := by
  unfold tailN Lib.decodeN
  rw [if_neg (show ¬ x0 < 128 by omega), if_pos rfl]
  by_cases c : 2 ≤ n ∧ 128 ≤ x1 ∧ x1 < 192
  · rw [if_neg (show ¬ 2 > n by omega), if_pos (show cont x1 from c.2), if_pos (show x0 / 32 = 6 ∧ 1 < n ∧ x1 / 64 = 2 by omega)]
    by_cases d : x0 % 32 * 64 + x1 % 64 ≥ 128
    · rw [if_pos d, fin_good2 _ (by omega) (by omega), nxN_good _ _ (by omega)]
      congr 1; omega
    · rw [if_neg d, fin_bad2 _ (by omega), nxN_bad]
  · rw [if_neg (show ¬ (x0 / 32 = 6 ∧ 1 < n ∧ x1 / 64 = 2) by omega), if_neg (show ¬ (x0 / 16 = 14 ∧ (1 < n ∧ x1 / 64 = 2) ∧ (2 < n ∧ x2 / 64 = 2)) by omega), if_neg (show ¬ (x0 / 8 = 30 ∧ (1 < n ∧ x1 / 64 = 2) ∧ (2 < n ∧ x2 / 64 = 2) ∧ (3 < n ∧ x3 / 64 = 2)) by omega), nxN_bad]
    by_cases e : 2 > n
    · rw [if_pos e]
    · rw [if_neg e, if_neg (show ¬ cont x1 from fun h => by unfold cont at h; omega)]
theorem arith3 (n x0 x1 x2 x3 : Nat) (h0 : 224 ≤ x0 ∧ x0 < 240) (h1 : x1 < 256) (h2 : x2 < 256) : tailN n 3 x1 x2 x3 ((x0 : Int) - 224) = nxN (Lib.decodeN n x0 x1 x2 x3) := by
  unfold tailN Lib.decodeN
  rw [if_neg (show ¬ x0 < 128 by omega), if_neg (show ¬ (3 : Nat) = 2 by omega), if_pos rfl, if_neg (show ¬ (x0 / 32 = 6 ∧ 1 < n ∧ x1 / 64 = 2) by omega)]
  by_cases c : 3 ≤ n ∧ (128 ≤ x1 ∧ x1 < 192) ∧ (128 ≤ x2 ∧ x2 < 192)
  · rw [if_neg (show ¬ 3 > n by omega), if_pos (show cont x1 from c.2.1), if_pos (show cont x2 from c.2.2), if_pos (show x0 / 16 = 14 ∧ (1 < n ∧ x1 / 64 = 2) ∧ (2 < n ∧ x2 / 64 = 2) by omega)]
    by_cases d : x0 % 16 * 4096 + x1 % 64 * 64 + x2 % 64 ≥ 2048 ∧ (x0 % 16 * 4096 + x1 % 64 * 64 + x2 % 64 < 55296 ∨ (57344 ≤ x0 % 16 * 4096 + x1 % 64 * 64 + x2 % 64 ∧ x0 % 16 * 4096 + x1 % 64 * 64 + x2 % 64 ≤ 1114111))
    · rw [if_pos d, fin_good3 _ (by omega) (by omega) (by omega), nxN_good _ _ (by omega)]
      congr 1; omega
    · rw [if_neg d, fin_bad3 _ (by omega), nxN_bad]
  · rw [if_neg (show ¬ (x0 / 16 = 14 ∧ (1 < n ∧ x1 / 64 = 2) ∧ (2 < n ∧ x2 / 64 = 2)) by omega), if_neg (show ¬ (x0 / 8 = 30 ∧ (1 < n ∧ x1 / 64 = 2) ∧ (2 < n ∧ x2 / 64 = 2) ∧ (3 < n ∧ x3 / 64 = 2)) by omega), nxN_bad]
    by_cases e : 3 > n
    · rw [if_pos e]
    · rw [if_neg e]
      repeat' split
      all_goals first | rfl | (unfold cont at *; exfalso; omega)
theorem arith4 (n x0 x1 x2 x3 : Nat) (h0 : 240 ≤ x0 ∧ x0 < 248) (h1 : x1 < 256) (h2 : x2 < 256) (h3 : x3 < 256) : tailN n 4 x1 x2 x3 ((x0 : Int) - 240) = nxN (Lib.decodeN n x0 x1 x2 x3) := by
  unfold tailN Lib.decodeN
  rw [if_neg (show ¬ x0 < 128 by omega), if_neg (show ¬ (4 : Nat) = 2 by omega), if_neg (show ¬ (4 : Nat) = 3 by omega), if_neg (show ¬ (x0 / 32 = 6 ∧ 1 < n ∧ x1 / 64 = 2) by omega), if_neg (show ¬ (x0 / 16 = 14 ∧ (1 < n ∧ x1 / 64 = 2) ∧ (2 < n ∧ x2 / 64 = 2)) by omega)]
  by_cases c : 4 ≤ n ∧ (128 ≤ x1 ∧ x1 < 192) ∧ (128 ≤ x2 ∧ x2 < 192) ∧ (128 ≤ x3 ∧ x3 < 192)
  · rw [if_neg (show ¬ 4 > n by omega), if_pos (show cont x1 from c.2.1), if_pos (show cont x2 from c.2.2.1), if_pos (show cont x3 from c.2.2.2), if_pos (show x0 / 8 = 30 ∧ (1 < n ∧ x1 / 64 = 2) ∧ (2 < n ∧ x2 / 64 = 2) ∧ (3 < n ∧ x3 / 64 = 2) by omega)]
    by_cases d : x0 % 8 * 262144 + x1 % 64 * 4096 + x2 % 64 * 64 + x3 % 64 ≥ 65536 ∧ (x0 % 8 * 262144 + x1 % 64 * 4096 + x2 % 64 * 64 + x3 % 64 < 55296 ∨ (57344 ≤ x0 % 8 * 262144 + x1 % 64 * 4096 + x2 % 64 * 64 + x3 % 64 ∧ x0 % 8 * 262144 + x1 % 64 * 4096 + x2 % 64 * 64 + x3 % 64 ≤ 1114111))
    · rw [if_pos d, fin_good4 _ (by omega) (by omega), nxN_good _ _ (by omega)]
      congr 1; omega
    · rw [if_neg d, fin_bad4 _ (by omega), nxN_bad]
  · rw [if_neg (show ¬ (x0 / 8 = 30 ∧ (1 < n ∧ x1 / 64 = 2) ∧ (2 < n ∧ x2 / 64 = 2) ∧ (3 < n ∧ x3 / 64 = 2)) by omega), nxN_bad]
    by_cases e : 4 > n
    · rw [if_pos e]
    · rw [if_neg e]
      repeat' split
      all_goals first | rfl | (unfold cont at *; exfalso; omega)
theorem whole_nx (s : ByteArray) (p : Nat) (hp : p < s.size) : whole s p = nx s p := by
  have b0 := B_lt s p; have b1 := B_lt s (p + 1); have b2 := B_lt s (p + 2); have b3 := B_lt s (p + 3)
  have hd : nx s p = nxN (Lib.decodeN (s.size - p) (B s p) (B s (p + 1)) (B s (p + 2)) (B s (p + 3))) := congrArg nxN (Lib.decode_at s p)
  rw [hd]
  unfold whole
  by_cases c0 : B s p < 128
  · rw [if_pos c0]
    unfold Lib.decodeN
    rw [if_pos c0]
    unfold nxN
    rw [if_neg (by simp only; omega)]
    rfl
  rw [if_neg c0]
  by_cases c1 : 192 ≤ B s p ∧ B s p < 224
  · rw [if_pos c1, tail_N s p 2 _ hp, arith2 _ _ _ _ _ c1 b1]
  rw [if_neg c1]
  by_cases c2 : 224 ≤ B s p ∧ B s p < 240
  · rw [if_pos c2, tail_N s p 3 _ hp, arith3 _ _ _ _ _ c2 b1 b2]
  rw [if_neg c2]
  by_cases c3 : 240 ≤ B s p ∧ B s p < 248
  · rw [if_pos c3, tail_N s p 4 _ hp, arith4 _ _ _ _ _ c3 b1 b2 b3]
  rw [if_neg c3]
  unfold Lib.decodeN
  generalize s.size - p = n
  generalize B s p = x0 at *
  rw [if_neg c0, if_neg (show ¬ (x0 / 32 = 6 ∧ _) by omega), if_neg (show ¬ (x0 / 16 = 14 ∧ _) by omega), if_neg (show ¬ (x0 / 8 = 30 ∧ _) by omega)]
  rfl
theorem next (s : ByteArray) (p : Nat) (hp : p < s.size) (hsz : s.size ≤ 140737488351232) : Ev (fun k => glossatorref01_Next.f k s p) (nx s p) := whole_nx s p hp ▸ next_whole s p hp hsz
end Go.Proofs.YtjmchpkmhidejaaDoor.XRef01

end
section
namespace Go.Proofs.YtjmchpkmhidejaaDoor.XUtfX
open Go Go.RowKit Go.Proofs.YtjmchpkmhidejaaDoor.Q Go.Proofs.YtjmchpkmhidejaaDoorW.PrintWords Go.Proofs.YtjmchpkmhidejaaDoorW.PrintLast Go.Proofs.YtjmchpkmhidejaaDoorW.PrintMore Go.Proofs.YtjmchpkmhidejaaDoor.XEv Go.Proofs.YtjmchpkmhidejaaDoor.XRef01 Go.Proofs.YtjmchpkmhidejaaDoor.XUtfT
set_option linter.unusedVariables false
set_option linter.unusedSimpArgs false
/-- The bytes of a good character are what its rune is told as. -/
theorem enc_good (s : ByteArray) (p : Nat) (h : p < s.size) (hb : ¬ bad s p) : Lib.encodeRune ((Utf8.decode s p).1 : Int) = (s.data.toList.drop p).take (Utf8.decode s p).2 := by
  have hne : s.data.toList.drop p ≠ [] := by
    intro e
    have := congrArg List.length e
    have h' : p < s.data.size := h
    simp at this
    omega
  have := Lib.encode_decode (s.data.toList.drop p) hne (by rw [decodeL_drop s p]; exact hb)
  rw [decodeL_drop s p] at this
  exact this
theorem enc_bad (s : ByteArray) (p : Nat) (hb : bad s p) : Lib.encodeRune ((Utf8.decode s p).1 : Int) = [239, 191, 189] := by
  rw [hb.1]; rfl
theorem sub_bytes (s : ByteArray) (a b : Nat) : (s.extract a b).data.toList = (s.data.toList.drop a).take (b - a) := by
  simp only [ByteArray.data_extract, Array.toList_extract, List.extract_eq_take_drop]
def nums8 (l : List UInt8) : List Int := l.map fun b => (b.toNat : Int)
theorem nums_str (l : List UInt8) : strOfNums (nums8 l) = ⟨l.toArray⟩ := by
  apply ByteArray.ext
  apply Array.ext'
  show (nums8 l).map _ = l
  unfold nums8
  rw [List.map_map]
  conv => rhs; rw [← List.map_id l]
  apply List.map_congr_left
  intro x _
  simp
theorem fixL_len (s : ByteArray) : ∀ b p, (fixL s b p).length ≤ 4 * b
  | 0, _ => Nat.le_refl _
  | b + 1, p => by
    unfold fixL
    split
    · have h4 := Lib.runeCells_le ((Utf8.decode s p).1 : Int)
      rw [Lib.runeCells_length] at h4
      have := fixL_len s b (p + (Utf8.decode s p).2)
      rw [List.length_append]; omega
    · simp
theorem fix_l0 (s : ByteArray) (hs : s.size ≤ 1048576) : ∀ (b p : Nat) (acc : List Int), s.size ≤ p + b → p ≤ s.size → acc.length ≤ 4 * p →
    Ev (fun k => glossatorref01_Fix.l0 k s acc p) (strOfNums (acc ++ nums8 (fixL s b p))) := by
  intro b
  induction b with
  | zero =>
    intro p acc hb hp hl
    refine up ?_
    have c : ¬ (p : Int) < (s.size : Int) := by omega
    simp only [glossatorref01_Fix.l0, if_neg c, fixL, nums8, List.map_nil, List.append_nil]
    exact now fun _ => rfl
  | succ b ih =>
    intro p acc hb hp hl
    refine up ?_
    by_cases h : p < s.size
    · have c : (p : Int) < (s.size : Int) := by omega
      simp only [glossatorref01_Fix.l0, if_pos c]
      refine bind (next s p h (by omega)) ?_
      rw [fixL, if_pos h]
      have hw := XUtf.width_range s p
      have hf := XUtf.width_fit s p h
      by_cases hb' : bad s p
      · rw [nx_bad s p hb', enc_bad s p hb', hb'.2]
        have e1 : wrap64 ((p : Int) + 1) = ((p + 1 : Nat) : Int) := by rw [w64 (by omega) (by omega)]; rfl
        have c2 : acc.length + ([239, 191, 189] : List Int).length < 140737488355328 := by simp; omega
        simp only [Bool.false_eq_true, if_false, Option.bind_some, if_pos c2, e1]
        have := ih (p + 1) (acc ++ [239, 191, 189]) (by omega) (by omega) (by simp; omega)
        rw [List.append_assoc] at this
        exact this
      · rw [nx_good s p hb', enc_good s p h hb']
        have e1 : wrap64 ((p : Int) + ((Utf8.decode s p).2 : Int)) = ((p + XUtf.width s p : Nat) : Int) := by
          show wrap64 ((p : Int) + (XUtf.width s p : Int)) = _
          rw [w64 (by omega) (by omega)]; omega
        have c0 : (0 : Int) ≤ (p : Int) := by omega
        have c1 : (p : Int) ≤ ((p + XUtf.width s p : Nat) : Int) := by omega
        have c2 : ((p + XUtf.width s p : Nat) : Int) ≤ (s.size : Int) := by omega
        have ez : (s.extract p (p + XUtf.width s p)).size = XUtf.width s p := by rw [ByteArray.size_extract]; omega
        have c3 : acc.length + (s.extract ((p : Int)).toNat (((p + XUtf.width s p : Nat) : Int)).toNat).size < 140737488355328 := by
          show acc.length + (s.extract p (p + XUtf.width s p)).size < _
          rw [ez]; omega
        simp only [if_true, e1, if_pos c0, if_pos c1, if_pos c2, if_pos c3]
        have hbo : bytesOf (s.extract ((p : Int)).toNat (((p + XUtf.width s p : Nat) : Int)).toNat) = nums8 ((s.data.toList.drop p).take (Utf8.decode s p).2) := by
          show bytesOf (s.extract p (p + XUtf.width s p)) = _
          unfold bytesOf nums8
          rw [sub_bytes, show p + XUtf.width s p - p = (Utf8.decode s p).2 by unfold XUtf.width; omega]
        rw [hbo]
        have := ih (p + XUtf.width s p) (acc ++ nums8 ((s.data.toList.drop p).take (Utf8.decode s p).2)) (by omega) hf (by
          rw [List.length_append]
          have : (nums8 ((s.data.toList.drop p).take (Utf8.decode s p).2)).length ≤ XUtf.width s p := by
            unfold nums8; rw [List.length_map, List.length_take]; exact Nat.min_le_left _ _
          omega)
        rw [List.append_assoc] at this
        unfold nums8 at this ⊢
        rw [List.map_append]
        exact this
    · have c : ¬ (p : Int) < (s.size : Int) := by omega
      rw [fixL, if_neg h]
      simp only [glossatorref01_Fix.l0, if_neg c, nums8, List.map_nil, List.append_nil]
      exact now fun _ => rfl
/-- The string with characters in the place of what is none. -/
def fixed (s : ByteArray) : ByteArray := ⟨(fixL s s.size 0).toArray⟩
theorem ref_fix (s : ByteArray) (hs : s.size ≤ 1048576) : Ev (fun k => glossatorref01_Fix.f k s) (fixed s) := by
  simp only [glossatorref01_Fix.f]
  have := fix_l0 s hs s.size 0 [] (by omega) (by omega) (by simp)
  rw [List.nil_append, nums_str] at this
  exact this
theorem fixL_ok (s : ByteArray) : ∀ (b p : Nat), s.size ≤ p + b → okF s b p = true → fixL s b p = s.data.toList.drop p := by
  intro b
  induction b with
  | zero =>
    intro p hb _
    rw [fixL, List.drop_eq_nil_of_le (by rw [Array.length_toList]; exact hb)]
  | succ b ih =>
    intro p hb ho
    rw [okF] at ho
    rw [fixL]
    by_cases h : p < s.size
    · rw [if_pos h] at ho ⊢
      by_cases hb' : bad s p
      · rw [if_pos hb'] at ho; cases ho
      · rw [if_neg hb'] at ho
        have hw := XUtf.width_range s p
        rw [enc_good s p h hb', ih (p + (Utf8.decode s p).2) (by unfold XUtf.width at hw; omega) ho, ← List.drop_drop, List.take_append_drop]
    · rw [if_neg h, List.drop_eq_nil_of_le (by rw [Array.length_toList]; exact Nat.le_of_not_lt h)]
theorem utf_fix (s : ByteArray) (hs : s.size ≤ 1048576) : utf_Fix.f s = some (fixed s) := by
  simp only [utf_Fix.f, utf_valid s (by omega), Option.bind_some]
  by_cases h : okF s s.size 0 = true
  · rw [if_pos h]
    unfold fixed
    rw [fixL_ok s s.size 0 (by omega) h, List.drop_zero]
  · rw [if_neg h, if_pos (by omega)]
    rfl
end Go.Proofs.YtjmchpkmhidejaaDoor.XUtfX

end
section
namespace Go.Proofs.YtjmchpkmhidejaaDoor.XQuote
open Go Go.RowKit Go.Proofs.YtjmchpkmhidejaaDoor.Q Go.Proofs.YtjmchpkmhidejaaDoorW.PrintWords Go.Proofs.YtjmchpkmhidejaaDoorW.PrintLast Go.Proofs.YtjmchpkmhidejaaDoorW.PrintMore Go.Proofs.YtjmchpkmhidejaaDoor.XEv Go.Proofs.YtjmchpkmhidejaaDoor.XRef01 Go.Proofs.YtjmchpkmhidejaaDoor.XUtfT Go.Proofs.YtjmchpkmhidejaaDoor.XUtfX
set_option linter.unusedVariables false
set_option linter.unusedSimpArgs false
/-- What is written for a byte. -/
def qby (b : UInt8) : List UInt8 := if b.toNat < 128 then qb b.toNat else [b]
theorem enc_ascii (d : Nat) (h : d < 128) : Lib.encodeRune (d : Int) = [UInt8.ofNat d] := by
  unfold Lib.encodeRune
  rw [Lib.encodeRuneZ_one (by omega) (by omega)]
  simp
theorem enc_high (d : Nat) (h : 128 ≤ d) : ∀ x ∈ Lib.encodeRune (d : Int), 128 ≤ x.toNat := by
  have key : ∀ z ∈ Lib.encodeRuneZ (d : Int), 128 ≤ z ∧ z < 256 := by
    intro z hz
    refine ⟨?_, (Lib.encodeRuneZ_byte _ z hz).2⟩
    unfold Lib.encodeRuneZ at hz
    rw [if_neg (by omega)] at hz
    split at hz
    · rcases List.mem_cons.1 hz with rfl | hz
      · omega
      · rcases List.mem_cons.1 hz with rfl | hz
        · omega
        · cases hz
    · split at hz
      · rcases List.mem_cons.1 hz with rfl | hz
        · omega
        · rcases List.mem_cons.1 hz with rfl | hz
          · omega
          · rcases List.mem_cons.1 hz with rfl | hz
            · omega
            · cases hz
      · split at hz
        · rcases List.mem_cons.1 hz with rfl | hz
          · omega
          · rcases List.mem_cons.1 hz with rfl | hz
            · omega
            · rcases List.mem_cons.1 hz with rfl | hz
              · omega
              · rcases List.mem_cons.1 hz with rfl | hz
                · omega
                · cases hz
        · rcases List.mem_cons.1 hz with rfl | hz
          · omega
          · rcases List.mem_cons.1 hz with rfl | hz
            · omega
            · rcases List.mem_cons.1 hz with rfl | hz
              · omega
              · cases hz
  intro x hx
  unfold Lib.encodeRune at hx
  obtain ⟨z, hz, rfl⟩ := List.mem_map.1 hx
  have := key z hz
  have : (z.toNat.toUInt8).toNat = z.toNat := by simp; omega
  omega
theorem flat_high : ∀ (l : List UInt8), (∀ x ∈ l, 128 ≤ x.toNat) → l.flatMap qby = l
  | [], _ => rfl
  | b :: l, h => by
    have hb := h b (List.mem_cons_self ..)
    rw [List.flatMap_cons, flat_high l (fun x hx => h x (List.mem_cons_of_mem _ hx))]
    unfold qby
    rw [if_neg (by omega)]
    rfl
theorem qb_flat (d : Nat) : qb d = (Lib.encodeRune (d : Int)).flatMap qby := by
  by_cases h : d < 128
  · rw [enc_ascii d h, List.flatMap_cons, List.flatMap_nil, List.append_nil]
    unfold qby
    have : (UInt8.ofNat d).toNat = d := by simp; omega
    rw [this, if_pos h]
  · rw [flat_high _ (enc_high d (by omega))]
    unfold qb
    rw [if_neg (by unfold qset; omega), if_neg (by omega)]
theorem quote_fix (s : ByteArray) : ∀ (b p : Nat), quoteL s b p = (fixL s b p).flatMap qby
  | 0, _ => rfl
  | b + 1, p => by
    rw [quoteL, fixL]
    by_cases h : p < s.size
    · rw [if_pos h, if_pos h, List.flatMap_append, quote_fix s b, qb_flat]
    · rw [if_neg h, if_neg h]; rfl
def hexS : ByteArray := ⟨#[48, 49, 50, 51, 52, 53, 54, 55, 56, 57, 97, 98, 99, 100, 101, 102]⟩
theorem hex_hi : ∀ c : Nat, c < 32 → bt hexS ((Int.tdiv (c : Int) 16) % 256) = ((UInt8.ofNat (48 + c / 16)).toNat : Int) ∧ (Int.tdiv (c : Int) 16) % 256 < 16 ∧ 0 ≤ (Int.tdiv (c : Int) 16) % 256 := by decide +kernel
theorem hex_lo : ∀ c : Nat, c < 32 → bt hexS (Int.tmod (c : Int) 16) = ((qhex (c % 16)).toNat : Int) ∧ Int.tmod (c : Int) 16 < 16 ∧ 0 ≤ Int.tmod (c : Int) 16 := by decide +kernel
theorem qby_len (b : UInt8) : (qby b).length ≤ 6 := by
  unfold qby
  split
  · exact qb_len _
  · simp
theorem qby_set (b : UInt8) (h : qset b.toNat) : qby b = [92, qesc b.toNat] := by
  unfold qby qb
  rw [if_pos (by unfold qset at h; omega), if_pos h]
theorem qby_low (b : UInt8) (h : ¬ qset b.toNat) (h2 : b.toNat < 32) : qby b = [92, 117, 48, 48, UInt8.ofNat (48 + b.toNat / 16), qhex (b.toNat % 16)] := by
  unfold qby qb
  rw [if_pos (by omega), if_neg h, if_pos h2]
theorem qby_else (b : UInt8) (h : ¬ qset b.toNat) (h2 : ¬ b.toNat < 32) : qby b = [b] := by
  unfold qby
  split
  · rename_i h3
    unfold qb
    rw [if_neg h, if_neg h2, enc_ascii _ h3]
    congr 1
    exact UInt8.toNat_inj.1 (by simp)
  · rfl
theorem ref_l0 (t : ByteArray) (ht : t.size ≤ 10000000) : ∀ (d i : Nat) (acc : List Int), t.size = i + d → acc.length + 6 * d ≤ 1000000000 →
    Ev (fun k => glossatorref04_Quote.l0 k t hexS acc (i : Int)) (strOfNums (acc ++ nums8 ((t.data.toList.drop i).flatMap qby) ++ [34])) := by
  intro d
  induction d with
  | zero =>
    intro i acc hd hl
    have c : ¬ (i : Int) < (t.size : Int) := by omega
    have c2 : acc.length < 140737488355328 := by omega
    have hz : t.data.toList.length = t.size := Array.length_toList
    refine up ?_
    simp only [glossatorref04_Quote.l0, if_neg c, if_pos c2]
    rw [List.drop_eq_nil_of_le (by omega), List.flatMap_nil, show nums8 [] = [] from rfl, List.append_nil]
    exact now fun _ => rfl
  | succ d ih =>
    intro i acc hd hl
    have hz : t.data.toList.length = t.size := Array.length_toList
    have hi : i < t.size := by omega
    obtain ⟨b, hb⟩ : ∃ b, t.data.toList[i]'(by omega) = b := ⟨_, rfl⟩
    have hbt : bt t (i : Int) = (b.toNat : Int) := by
      rw [bt_nat]
      unfold B
      rw [get!_in t i hi]
      rw [← hb]
      rfl
    have c : (i : Int) < (t.size : Int) := by omega
    have c0 : (0 : Int) ≤ (i : Int) := by omega
    have hi9 : i < 9223372036854775807 := by omega
    rw [List.drop_eq_getElem_cons (by omega), hb, List.flatMap_cons]
    have go : ∀ y : List Int, y = nums8 (qby b) → Ev (fun k => glossatorref04_Quote.l0 k t hexS (acc ++ y) ((i + 1 : Nat) : Int)) (strOfNums (acc ++ nums8 (qby b ++ (t.data.toList.drop (i + 1)).flatMap qby) ++ [34])) := by
      intro y hy
      have hq := qby_len b
      have := ih (i + 1) (acc ++ y) (by omega) (by rw [hy, List.length_append]; unfold nums8; rw [List.length_map]; omega)
      rw [hy] at this
      rw [hy]
      have e : nums8 (qby b ++ (t.data.toList.drop (i + 1)).flatMap qby) = nums8 (qby b) ++ nums8 ((t.data.toList.drop (i + 1)).flatMap qby) := by unfold nums8; rw [List.map_append]
      rw [e, ← List.append_assoc]
      exact this
    have l2 : acc.length + 2 < 140737488355328 := by omega
    have l6 : acc.length + 6 < 140737488355328 := by omega
    have l0 : acc.length < 140737488355328 := by omega
    have hj : Ev (fun k => glossatorref04_Quote.j1 k t hexS acc (i : Int) (b.toNat : Int) (decide (b.toNat = 34 ∨ b.toNat = 92))) (strOfNums (acc ++ nums8 (qby b ++ (t.data.toList.drop (i + 1)).flatMap qby) ++ [34])) := by
      refine up ?_
      by_cases q0 : b.toNat = 34 ∨ b.toNat = 92
      · have hs : qset b.toNat := by unfold qset; omega
        have hq := qby_set b hs
        have he : qesc b.toNat = b := by
          rcases q0 with h | h
          · rw [UInt8.toNat_inj.1 (show b.toNat = (34 : UInt8).toNat from h)]; rfl
          · rw [UInt8.toNat_inj.1 (show b.toNat = (92 : UInt8).toNat from h)]; rfl
        simp only [glossatorref04_Quote.j1, decide_eq_true q0, if_true, Option.bind_some, List.length_cons, List.length_nil, if_pos l2, w1 i hi9]
        exact go _ (by rw [hq, he]; rfl)
      simp only [glossatorref04_Quote.j1, decide_eq_false q0, Bool.false_eq_true, if_false]
      by_cases q1 : (b.toNat : Int) = 8
      · have hq := qby_set b (by unfold qset; omega)
        simp only [if_pos q1, Option.bind_some, List.length_cons, List.length_nil, if_pos l2, w1 i hi9]
        exact go _ (by rw [hq, show b.toNat = 8 by omega]; rfl)
      simp only [if_neg q1]
      by_cases q2 : (b.toNat : Int) = 9
      · have hq := qby_set b (by unfold qset; omega)
        simp only [if_pos q2, Option.bind_some, List.length_cons, List.length_nil, if_pos l2, w1 i hi9]
        exact go _ (by rw [hq, show b.toNat = 9 by omega]; rfl)
      simp only [if_neg q2]
      by_cases q3 : (b.toNat : Int) = 10
      · have hq := qby_set b (by unfold qset; omega)
        simp only [if_pos q3, Option.bind_some, List.length_cons, List.length_nil, if_pos l2, w1 i hi9]
        exact go _ (by rw [hq, show b.toNat = 10 by omega]; rfl)
      simp only [if_neg q3]
      by_cases q4 : (b.toNat : Int) = 12
      · have hq := qby_set b (by unfold qset; omega)
        simp only [if_pos q4, Option.bind_some, List.length_cons, List.length_nil, if_pos l2, w1 i hi9]
        exact go _ (by rw [hq, show b.toNat = 12 by omega]; rfl)
      simp only [if_neg q4]
      by_cases q5 : (b.toNat : Int) = 13
      · have hq := qby_set b (by unfold qset; omega)
        simp only [if_pos q5, Option.bind_some, List.length_cons, List.length_nil, if_pos l2, w1 i hi9]
        exact go _ (by rw [hq, show b.toNat = 13 by omega]; rfl)
      simp only [if_neg q5]
      have hns : ¬ qset b.toNat := by unfold qset; omega
      by_cases q6 : (b.toNat : Int) < 32
      · have h32 : b.toNat < 32 := by omega
        have hq := qby_low b hns h32
        obtain ⟨a1, a2, a3⟩ := hex_hi b.toNat h32
        obtain ⟨b1, b2, b3⟩ := hex_lo b.toNat h32
        have hsz : ((hexS.size : Nat) : Int) = 16 := rfl
        simp only [if_pos q6, hsz, if_pos a3, if_pos a2, if_pos b3, if_pos b2, Option.bind_some, List.length_cons, List.length_nil, if_pos l6, w1 i hi9, a1, b1]
        exact go _ (by rw [hq]; rfl)
      · have hq := qby_else b hns (by omega)
        simp only [if_neg q6, if_pos l0, w1 i hi9]
        exact go _ (by rw [hq]; rfl)
    refine up ?_
    simp only [glossatorref04_Quote.l0, if_pos c, if_pos c0, hbt]
    by_cases q : (b.toNat : Int) = 34
    · simp only [if_pos q]
      rw [decide_eq_true (show b.toNat = 34 ∨ b.toNat = 92 by omega)] at hj
      exact hj
    · simp only [if_neg q]
      by_cases q2 : (b.toNat : Int) = 92
      · rw [decide_eq_true (show b.toNat = 34 ∨ b.toNat = 92 by omega)] at hj
        simp only [beq_iff_eq.2 q2]
        exact hj
      · rw [decide_eq_false (show ¬ (b.toNat = 34 ∨ b.toNat = 92) by omega)] at hj
        simp only [beq_eq_false_iff_ne.2 q2]
        exact hj
theorem fix_size (s : ByteArray) : (fixed s).size ≤ 4 * s.size := fixL_len s s.size 0
/-- What is quoted. -/
def quoted (s : ByteArray) : ByteArray := ⟨([34] ++ quoteL s s.size 0 ++ [34]).toArray⟩
theorem prog (s : ByteArray) (hs : s.size ≤ 1048576) : jsontext_Quote.f s = some (quoted s) := if_pos hs
theorem ref (s : ByteArray) (hs : s.size ≤ 1048576) : Ev (fun k => glossatorref04_Quote.f k s) (quoted s) := by
  have hf := fix_size s
  simp only [glossatorref04_Quote.f]
  refine bind (ref_fix s hs) ?_
  have h := ref_l0 (fixed s) (by omega) (fixed s).size 0 [34] (by omega) (by simp only [List.length_cons, List.length_nil]; omega)
  rw [List.drop_zero] at h
  refine eq h ?_
  have e : ([34] ++ nums8 ((fixed s).data.toList.flatMap qby) ++ [34] : List Int) = nums8 ([34] ++ quoteL s s.size 0 ++ [34]) := by
    unfold nums8
    rw [List.map_append, List.map_append, quote_fix]
    rfl
  rw [e, nums_str]
  rfl
end Go.Proofs.YtjmchpkmhidejaaDoor.XQuote

end
section
namespace Go.Proofs.YtjmchpkmhidejaaDoor.XItoa
open Go Go.RowKit Go.Proofs.YtjmchpkmhidejaaDoorW.PrintWords Go.Proofs.YtjmchpkmhidejaaDoorW.PrintLast Go.Proofs.YtjmchpkmhidejaaDoorW.PrintMore Go.Proofs.YtjmchpkmhidejaaDoor.XEv
set_option linter.unusedVariables false
set_option linter.unusedSimpArgs false
theorem digit : ∀ r : Nat, r < 10 → strOfNums [(wrap64 (48 + (r : Int))) % 256] = ⟨#[UInt8.ofNat (48 + r)]⟩ := by decide +kernel
/-- Digits ahead of others. -/
def dD (u : Nat) (acc : ByteArray) : ByteArray := if u = 0 then acc else ⟨(Lib.decDigits u ++ acc.data.toList).toArray⟩
theorem dD_step (u : Nat) (hu : 0 < u) (acc : ByteArray) : dD (u / 10) ((⟨#[UInt8.ofNat (48 + u % 10)]⟩ : ByteArray) ++ acc) = dD u acc := by
  unfold dD
  rw [if_neg (show ¬ u = 0 by omega)]
  have e : Lib.decDigits u = if h : u < 10 then [UInt8.ofNat (48 + u)] else Lib.decDigits (u / 10) ++ [UInt8.ofNat (48 + u % 10)] := by rw [Lib.decDigits]
  have ha : ((⟨#[UInt8.ofNat (48 + u % 10)]⟩ : ByteArray) ++ acc).data.toList = UInt8.ofNat (48 + u % 10) :: acc.data.toList := by
    rw [ByteArray.data_append, Array.toList_append]; rfl
  by_cases h : u < 10
  · rw [if_pos (show u / 10 = 0 by omega), e, dif_pos h, show u % 10 = u by omega]
    apply ByteArray.ext
    apply Array.ext'
    rw [show u % 10 = u by omega] at ha
    rw [ha]
    rfl
  · rw [if_neg (show ¬ u / 10 = 0 by omega), e, dif_neg h, ha]
    simp
/-- How many digits there are. -/
def dL (u : Nat) : Nat := if u = 0 then 0 else (Lib.decDigits u).length
theorem dL_step (u : Nat) (hu : 0 < u) : dL (u / 10) + 1 = dL u := by
  unfold dL
  rw [if_neg (show ¬ u = 0 by omega)]
  have e : Lib.decDigits u = if h : u < 10 then [UInt8.ofNat (48 + u)] else Lib.decDigits (u / 10) ++ [UInt8.ofNat (48 + u % 10)] := by rw [Lib.decDigits]
  by_cases h : u < 10
  · rw [if_pos (show u / 10 = 0 by omega), e, dif_pos h]; rfl
  · rw [if_neg (show ¬ u / 10 = 0 by omega), e, dif_neg h, List.length_append]; rfl
theorem dL_le (u : Nat) (h : u ≤ 9223372036854775808) : dL u ≤ 21 := by
  unfold dL
  split
  · omega
  · rename_i h0
    have := Lib.itoa_length_le (-(u : Int)) (by omega) (by omega)
    rw [Lib.itoa_neg u (by omega), List.length_cons] at this
    omega
theorem size_mk (l : List UInt8) : (⟨l.toArray⟩ : ByteArray).size = l.length := rfl
end Go.Proofs.YtjmchpkmhidejaaDoor.XItoa

end
section
namespace Go.Proofs.YtjmchpkmhidejaaDoor.Pure
open Go Go.RowKit Go.Proofs.YtjmchpkmhidejaaDoor.Q Go.Proofs.YtjmchpkmhidejaaDoorW.PrintWords Go.Proofs.YtjmchpkmhidejaaDoorW.PrintLast Go.Proofs.YtjmchpkmhidejaaDoorW.PrintMore Go.Proofs.YtjmchpkmhidejaaDoor.XEv Go.Proofs.YtjmchpkmhidejaaDoor.XItoa
set_option linter.unusedVariables false
set_option linter.unusedSimpArgs false
theorem jq_same (k0 : Int) (t : ByteArray) : Ev (fun k => glossatorref03_Same.f k k0 t [] [] k0 t [] []) true := by
  refine up ?_
  have c : (((([] : List S58).length : Nat) : Int) != ((([] : List S58).length : Nat) : Int)) = false := by decide
  simp only [glossatorref03_Same.f, if_true, c]
  refine up ?_
  simp only [glossatorref03_Same.j0, Bool.false_eq_true, if_false]
  refine up ?_
  have c0 : ¬ (0 : Int) < ((([] : List S40).length : Nat) : Int) := by simp
  have c1 : ¬ (0 : Int) < ((([] : List S58).length : Nat) : Int) := by simp
  simp only [glossatorref03_Same.l0, if_neg c0]
  refine up ?_
  simp only [glossatorref03_Same.l1, if_neg c1]
  exact now fun _ => rfl
theorem jq_l0 (a : Int) (r : Int × ByteArray × List S40 × List S58) (neg : Bool) : ∀ (n u : Nat) (acc : ByteArray), u ≤ n → u ≤ 9223372036854775808 → (neg = false → u ≤ 9223372036854775807) → acc.size + dL u ≤ 1000 →
    Ev (fun k => glossatorref04_Number.l0 k a (dD u acc) 0) r → Ev (fun k => glossatorref04_Number.l0 k a acc (if neg = true then -(u : Int) else (u : Int))) r := by
  intro n
  induction n with
  | zero =>
    intro u acc hu _ _ _ h
    obtain rfl : u = 0 := by omega
    rw [show (if neg = true then -((0 : Nat) : Int) else ((0 : Nat) : Int)) = 0 by split <;> rfl]
    exact h
  | succ n ih =>
    intro u acc hu hub hup hb h
    by_cases h0 : u = 0
    · subst h0
      rw [show (if neg = true then -((0 : Nat) : Int) else ((0 : Nat) : Int)) = 0 by split <;> rfl]
      exact h
    have hst := dL_step u (by omega)
    have hs : (⟨#[UInt8.ofNat (48 + u % 10)]⟩ : ByteArray).size = 1 := rfl
    have c2 : (⟨#[UInt8.ofNat (48 + u % 10)]⟩ : ByteArray).size + acc.size ≤ 9223372036854775807 := by rw [hs]; omega
    have hnext := ih (u / 10) ((⟨#[UInt8.ofNat (48 + u % 10)]⟩ : ByteArray) ++ acc) (by omega) (by omega) (fun _ => by omega) (by rw [ByteArray.size_append, hs]; omega) (by rw [dD_step u (by omega)]; exact h)
    cases neg with
    | false =>
      have c : ¬ (u : Int) = 0 := by omega
      have et : Int.tmod (u : Int) 10 = ((u % 10 : Nat) : Int) := rfl
      have ed : Int.tdiv (u : Int) 10 = ((u / 10 : Nat) : Int) := rfl
      have c3 : ¬ ((u % 10 : Nat) : Int) < 0 := by omega
      have hw : wrap64 ((u / 10 : Nat) : Int) = ((u / 10 : Nat) : Int) := w64 (by omega) (by omega)
      refine up ?_
      simp only [Bool.false_eq_true, if_false, glossatorref04_Number.l0, if_neg c, et, ed, if_neg c3, Option.bind_some, digit (u % 10) (by omega), if_pos c2, hw]
      simp only [Bool.false_eq_true, if_false] at hnext
      exact hnext
    | true =>
      have c : ¬ (-(u : Int)) = 0 := by omega
      have et : Int.tmod (-(u : Int)) 10 = -((u % 10 : Nat) : Int) := by rw [Int.neg_tmod]; rfl
      have ed : Int.tdiv (-(u : Int)) 10 = -((u / 10 : Nat) : Int) := by rw [Int.neg_tdiv]; rfl
      have hw : wrap64 (-((u / 10 : Nat) : Int)) = -((u / 10 : Nat) : Int) := w64 (by omega) (by omega)
      have hn : wrap64 (-(-((u % 10 : Nat) : Int))) = ((u % 10 : Nat) : Int) := by rw [Int.neg_neg]; exact w64 (by omega) (by omega)
      simp only [if_true] at hnext
      refine up ?_
      by_cases c3 : (-((u % 10 : Nat) : Int)) < 0
      · simp only [if_true, glossatorref04_Number.l0, if_neg c, et, ed, if_pos c3, hn, Option.bind_some, digit (u % 10) (by omega), if_pos c2, hw]
        exact hnext
      · have hz : u % 10 = 0 := by omega
        have c4 : ¬ (-((0 : Nat) : Int)) < 0 := by omega
        have hd := digit 0 (by omega)
        rw [hz] at et c2 hnext
        have e0 : (-((0 : Nat) : Int)) = ((0 : Nat) : Int) := rfl
        simp only [if_true, glossatorref04_Number.l0, if_neg c, et, ed, if_neg c4, e0, Option.bind_some, hd, if_pos c2, hw]
        exact hnext
theorem jq_ref (a : Int) (h0 : -9223372036854775808 ≤ a) (h1 : a ≤ 9223372036854775807) : Ev (fun k => glossatorref04_Number.f k a) ((3, (⟨(Lib.itoa a).toArray⟩ : ByteArray), ([] : List S40), ([] : List S58))) := by
  simp only [glossatorref04_Number.f]
  by_cases hz : a = 0
  · subst hz
    simp only [if_true]
    refine now fun _ => ?_
    have : Lib.itoa 0 = [48] := by
      have := Lib.itoa_nonneg 0
      rw [Lib.decDigits_one (by omega)] at this
      exact this
    rw [this]
  simp only [if_neg hz]
  have hl := dL_le a.natAbs (by omega)
  have h00 : (⟨#[]⟩ : ByteArray).size = 0 := rfl
  have hnd : a.natAbs ≠ 0 := by omega
  by_cases hn : a < 0
  · have := jq_l0 a ((3, (⟨(Lib.itoa a).toArray⟩ : ByteArray), ([] : List S40), ([] : List S58))) true a.natAbs a.natAbs (⟨#[]⟩ : ByteArray) (Nat.le_refl _) (by omega) (fun h => by cases h) (by rw [h00]; omega) ?_
    · rw [if_pos rfl, show -((a.natAbs : Nat) : Int) = a by omega] at this
      exact this
    · refine up ?_
      have hit : Lib.itoa a = 45 :: Lib.decDigits a.natAbs := by unfold Lib.itoa; rw [if_pos hn]
      have e : dD a.natAbs (⟨#[]⟩ : ByteArray) = ⟨(Lib.decDigits a.natAbs).toArray⟩ := by unfold dD; rw [if_neg hnd]; simp
      unfold dL at hl
      rw [if_neg hnd] at hl
      have c : 1 + (⟨(Lib.decDigits a.natAbs).toArray⟩ : ByteArray).size ≤ 9223372036854775807 := by rw [size_mk]; omega
      simp only [glossatorref04_Number.l0, if_true, if_pos hn, e, if_pos c]
      refine now fun _ => ?_
      rw [hit]
      congr 3
  · have := jq_l0 a ((3, (⟨(Lib.itoa a).toArray⟩ : ByteArray), ([] : List S40), ([] : List S58))) false a.natAbs a.natAbs (⟨#[]⟩ : ByteArray) (Nat.le_refl _) (by omega) (fun _ => by omega) (by rw [h00]; omega) ?_
    · rw [if_neg (by decide), show ((a.natAbs : Nat) : Int) = a by omega] at this
      exact this
    · refine up ?_
      have hit : Lib.itoa a = Lib.decDigits a.natAbs := by unfold Lib.itoa; rw [if_neg hn]; congr 1; omega
      have e : dD a.natAbs (⟨#[]⟩ : ByteArray) = ⟨(Lib.decDigits a.natAbs).toArray⟩ := by unfold dD; rw [if_neg hnd]; simp
      simp only [glossatorref04_Number.l0, if_true, if_neg hn, e]
      refine now fun _ => ?_
      rw [hit]
theorem JsontextQuotes : glossatorlaw04_JsontextQuotes.Pure := by
  intro s a hsz ha
  obtain ⟨h0, h1⟩ := lit_i64 ha
  refine Ev.rounds (g := fun k => glossatorlaw04_JsontextQuotes.f k s a) ?_
  simp only [glossatorlaw04_JsontextQuotes.f]
  by_cases h : (s.size : Int) > 524288
  · simp only [if_pos h]; exact now fun _ => rfl
  simp only [if_neg h]
  have hn : jsontext_Number.f a = some (3, (⟨(Lib.itoa a).toArray⟩ : ByteArray), ([] : List S40), ([] : List S58)) := by
    unfold jsontext_Number.f strconv_Itoa.f
    rw [if_pos h0, if_pos h1]
    rfl
  refine cbind (XQuote.prog s (by omega)) (bind (XQuote.ref s (by omega)) ?_)
  simp only [if_true]
  refine cbind hn (bind (jq_ref a h0 h1) ?_)
  refine bind (jq_same _ _) ?_
  simp only [if_true]
  have ht : jsontext_Text.f s = some (4, XUtfX.fixed s, ([] : List S40), ([] : List S58)) := by
    unfold jsontext_Text.f
    rw [XUtfX.utf_fix s (by omega)]
    rfl
  have hr : Ev (fun k => glossatorref04_Text.f k s) ((4, XUtfX.fixed s, ([] : List S40), ([] : List S58))) := by
    simp only [glossatorref04_Text.f]
    exact bind (XUtfX.ref_fix s (by omega)) (now fun _ => rfl)
  refine cbind ht (bind hr ?_)
  exact bind (jq_same _ _) (now fun _ => rfl)
end Go.Proofs.YtjmchpkmhidejaaDoor.Pure

end
