/-
  The reference of layer 1, as printed, against the model's decode.
-/
import Derived.Test.YtbjhmknahldhaaaDoorXAchr
import Derived.Test.YtbjhmknahldhaaaDoorXEv
import Derived.Test.YtbjhmknahldhaaaDoorQ2
namespace Go.Proofs.YtbjhmknahldhaaaDoor.XRef01
open Go Go.RowKit Go.Proofs.YtbjhmknahldhaaaDoor.Q Go.Proofs.YtbjhmknahldhaaaDoorW.PrintWords Go.Proofs.YtbjhmknahldhaaaDoorW.PrintLast Go.Proofs.YtbjhmknahldhaaaDoorW.PrintMore Go.Proofs.YtbjhmknahldhaaaDoor.XEv
set_option linter.unusedVariables false
set_option linter.unusedSimpArgs false

/-- The reference's arithmetic on four bytes, n of which are there. -/
def fin (z v : Int) : Int × Int × Bool :=
  if v < (if z = 2 then 128 else if z = 3 then 2048 else 65536) then (0, 0, false) else if v > 1114111 then (0, 0, false) else if v ≥ 55296 then (if v < 57344 then (0, 0, false) else (v, z, true)) else (v, z, true)

theorem l0_fin (s : ByteArray) (p z v i : Int) (hz : z = 2 ∨ z = 3 ∨ z = 4) (hi : ¬ i < z) (h0 : -2147483648 ≤ v) (h1 : v ≤ 2147483647) : Ev (fun k => glossatorref01_Next.l0 k s p z v i) (fin z v) := by
  refine up ?_
  simp only [glossatorref01_Next.l0, if_neg hi, Option.bind_some]
  have e1 : (0 : Int) ≤ z := by omega
  have e2 : z < (([0, 0, 128, 2048, 65536] : List Int).length : Int) := by simp; omega
  have e3 : rd ([0, 0, 128, 2048, 65536] : List Int) z = if z = 2 then 128 else if z = 3 then 2048 else 65536 := by rcases hz with rfl | rfl | rfl <;> rfl
  simp only [if_pos e1, if_pos e2, e3]
  refine now (fun k => ?_)
  unfold fin
  rw [w32 h0 h1]
  repeat' split
  all_goals first | rfl | (exfalso; omega)

theorem l0_step (s : ByteArray) (p i : Nat) (z v : Int) (r : Int × Int × Bool) (hp : p + i < s.size) (hsz : s.size ≤ 140737488351232) (hi : (i : Int) < z) (h0 : 0 ≤ v) (h1 : v ≤ 16777216) (hz : z ≤ 4)
    (hr : 128 ≤ B s (p + i) → B s (p + i) < 192 → Ev (fun k => glossatorref01_Next.l0 k s p z (v * 64 + B s (p + i) - 128) ((i + 1 : Nat) : Int)) r) :
    Ev (fun k => glossatorref01_Next.l0 k s p z v i) (if 128 ≤ B s (p + i) ∧ B s (p + i) < 192 then r else (0, 0, false)) := by
  refine up ?_
  have hB := B_lt s (p + i)
  have e0 : wrap64 ((p : Int) + i) = ((p + i : Nat) : Int) := by rw [w64 (by omega) (by omega)]; omega
  have e1 : (0 : Int) ≤ ((p + i : Nat) : Int) := by omega
  have e2 : ((p + i : Nat) : Int) < (s.size : Int) := by omega
  simp only [glossatorref01_Next.l0, if_pos hi, e0, if_pos e1, if_pos e2, bt_nat, w64 (show (-9223372036854775808 : Int) ≤ (B s (p + i) : Int) by omega) (by omega)]
  by_cases c1 : (B s (p + i) : Int) < 128
  · rw [if_neg (by omega)]
    simp only [if_pos c1]
    exact now fun _ => rfl
  · by_cases c2 : (B s (p + i) : Int) ≥ 192
    · rw [if_neg (by omega)]
      simp only [if_neg c1, if_pos c2]
      exact now fun _ => rfl
    · rw [if_pos (by omega)]
      have e3 : wrap64 (v * 64) = v * 64 := w64 (by omega) (by omega)
      have e4 : wrap64 (v * 64 + (B s (p + i) : Int)) = v * 64 + (B s (p + i) : Int) := w64 (by omega) (by omega)
      have e5 : wrap64 (v * 64 + (B s (p + i) : Int) - 128) = v * 64 + (B s (p + i) : Int) - 128 := w64 (by omega) (by omega)
      have e6 : wrap64 ((i : Int) + 1) = ((i + 1 : Nat) : Int) := by rw [w64 (by omega) (by omega)]; omega
      simp only [if_neg c1, if_neg c2, e3, e4, e5, e6]
      exact hr (by omega) (by omega)

def cont (b : Nat) : Prop := 128 ≤ b ∧ b < 192
instance (b : Nat) : Decidable (cont b) := by unfold cont; infer_instance

/-- What the reference comes to for a lead byte's size and bits. -/
def tail (s : ByteArray) (p z : Nat) (v : Int) : Int × Int × Bool :=
  if p + z > s.size then (0, 0, false)
  else if z = 2 then (if cont (B s (p + 1)) then fin 2 (v * 64 + B s (p + 1) - 128) else (0, 0, false))
  else if z = 3 then (if cont (B s (p + 1)) then (if cont (B s (p + 2)) then fin 3 ((v * 64 + B s (p + 1) - 128) * 64 + B s (p + 2) - 128) else (0, 0, false)) else (0, 0, false))
  else (if cont (B s (p + 1)) then (if cont (B s (p + 2)) then (if cont (B s (p + 3)) then fin 4 (((v * 64 + B s (p + 1) - 128) * 64 + B s (p + 2) - 128) * 64 + B s (p + 3) - 128) else (0, 0, false)) else (0, 0, false)) else (0, 0, false))

theorem j3_tail (s : ByteArray) (p z : Nat) (v : Int) (hz : z = 2 ∨ z = 3 ∨ z = 4) (hp : p < s.size) (hsz : s.size ≤ 140737488351232) (h0 : 0 ≤ v) (h1 : v ≤ 31) : Ev (fun k => glossatorref01_Next.j3 k s p z v) (tail s p z v) := by
  refine up ?_
  have e0 : wrap64 ((p : Int) + z) = ((p + z : Nat) : Int) := by rw [w64 (by omega) (by omega)]; omega
  simp only [glossatorref01_Next.j3, e0]
  unfold tail
  by_cases c : p + z > s.size
  · rw [if_pos c]
    have c' : ((p + z : Nat) : Int) > (s.size : Int) := by omega
    simp only [if_pos c']
    exact now fun _ => rfl
  · rw [if_neg c]
    have c' : ¬ ((p + z : Nat) : Int) > (s.size : Int) := by omega
    simp only [if_neg c']
    have b1 := B_lt s (p + 1); have b2 := B_lt s (p + 2); have b3 := B_lt s (p + 3)
    rcases hz with rfl | rfl | rfl
    · rw [if_pos rfl]
      exact l0_step s p 1 _ v _ (by omega) hsz (by omega) (by omega) (by omega) (by omega) fun ha hb => l0_fin s p _ _ _ (by omega) (by omega) (by omega) (by omega)
    · rw [if_neg (by omega), if_pos rfl]
      exact l0_step s p 1 _ v _ (by omega) hsz (by omega) (by omega) (by omega) (by omega) fun ha hb => l0_step s p 2 _ _ _ (by omega) hsz (by omega) (by omega) (by omega) (by omega) fun hc hd => l0_fin s p _ _ _ (by omega) (by omega) (by omega) (by omega)
    · rw [if_neg (by omega), if_neg (by omega)]
      exact l0_step s p 1 _ v _ (by omega) hsz (by omega) (by omega) (by omega) (by omega) fun ha hb => l0_step s p 2 _ _ _ (by omega) hsz (by omega) (by omega) (by omega) (by omega) fun hc hd => l0_step s p 3 _ _ _ (by omega) hsz (by omega) (by omega) (by omega) (by omega) fun he hf => l0_fin s p _ _ _ (by omega) (by omega) (by omega) (by omega)

def whole (s : ByteArray) (p : Nat) : Int × Int × Bool :=
  if B s p < 128 then ((B s p : Int), 1, true) else if 192 ≤ B s p ∧ B s p < 224 then tail s p 2 (B s p - 192) else if 224 ≤ B s p ∧ B s p < 240 then tail s p 3 (B s p - 224) else if 240 ≤ B s p ∧ B s p < 248 then tail s p 4 (B s p - 240) else (0, 0, false)

theorem next_whole (s : ByteArray) (p : Nat) (hp : p < s.size) (hsz : s.size ≤ 140737488351232) : Ev (fun k => glossatorref01_Next.f k s p) (whole s p) := by
  have hB := B_lt s p
  have e0 : ¬ (p : Int) < 0 := by omega
  have e1 : decide ((p : Int) ≥ (s.size : Int)) = false := decide_eq_false (by omega)
  have e2 : (0 : Int) ≤ p := by omega
  have e3 : (p : Int) < (s.size : Int) := by omega
  have eb : wrap64 (B s p : Int) = (B s p : Int) := w64 (by omega) (by omega)
  simp only [glossatorref01_Next.f, if_neg e0, e1]
  refine up ?_
  simp only [glossatorref01_Next.j0, Bool.false_eq_true, if_false, if_pos e2, if_pos e3, bt_nat, eb]
  unfold whole
  by_cases c0 : B s p < 128
  · have c0' : (B s p : Int) < 128 := by omega
    rw [if_pos c0]
    simp only [if_pos c0']
    exact now fun _ => by rw [w32 (by omega) (by omega)]
  have c0' : ¬ (B s p : Int) < 128 := by omega
  rw [if_neg c0]
  simp only [if_neg c0']
  by_cases c1 : 192 ≤ B s p ∧ B s p < 224
  · have d1 : (B s p : Int) ≥ 192 := by omega
    have d2 : decide ((B s p : Int) < 224) = true := decide_eq_true (by omega)
    have d3 : wrap64 ((B s p : Int) - 192) = (B s p : Int) - 192 := w64 (by omega) (by omega)
    rw [if_pos c1]
    simp only [if_pos d1, d2]
    refine up ?_
    simp only [glossatorref01_Next.j1, if_true, d3]
    exact j3_tail s p 2 _ (by omega) hp hsz (by omega) (by omega)
  rw [if_neg c1]
  have J1 : ∀ {r}, Ev (fun k => glossatorref01_Next.j1 k s p (B s p) false) r → Ev (fun k => if (B s p : Int) ≥ 192 then glossatorref01_Next.j1 k s p (B s p) (decide ((B s p : Int) < 224)) else glossatorref01_Next.j1 k s p (B s p) false) r := by
    intro r h
    refine both (fun hc => ?_) (fun _ => h)
    have : decide ((B s p : Int) < 224) = false := decide_eq_false (by omega)
    simp only [this]
    exact h
  refine J1 ?_
  clear J1
  by_cases c2 : 224 ≤ B s p ∧ B s p < 240
  · have d1 : (B s p : Int) ≥ 224 := by omega
    have d2 : decide ((B s p : Int) < 240) = true := decide_eq_true (by omega)
    have d3 : wrap64 ((B s p : Int) - 224) = (B s p : Int) - 224 := w64 (by omega) (by omega)
    rw [if_pos c2]
    refine up ?_
    simp only [glossatorref01_Next.j1, Bool.false_eq_true, if_false, if_pos d1, d2]
    refine up ?_
    simp only [glossatorref01_Next.j2, if_true, d3]
    exact j3_tail s p 3 _ (by omega) hp hsz (by omega) (by omega)
  rw [if_neg c2]
  refine up ?_
  simp only [glossatorref01_Next.j1, Bool.false_eq_true, if_false]
  have J2 : ∀ {r}, Ev (fun k => glossatorref01_Next.j2 k s p (B s p) false) r → Ev (fun k => if (B s p : Int) ≥ 224 then glossatorref01_Next.j2 k s p (B s p) (decide ((B s p : Int) < 240)) else glossatorref01_Next.j2 k s p (B s p) false) r := by
    intro r h
    refine both (fun hc => ?_) (fun _ => h)
    have : decide ((B s p : Int) < 240) = false := decide_eq_false (by omega)
    simp only [this]
    exact h
  refine J2 ?_
  refine up ?_
  simp only [glossatorref01_Next.j2, Bool.false_eq_true, if_false]
  by_cases c3 : 240 ≤ B s p ∧ B s p < 248
  · have d1 : (B s p : Int) ≥ 240 := by omega
    have d2 : (B s p : Int) < 248 := by omega
    have d3 : wrap64 ((B s p : Int) - 240) = (B s p : Int) - 240 := w64 (by omega) (by omega)
    rw [if_pos c3]
    simp only [if_pos d1, if_pos d2, d3]
    exact j3_tail s p 4 _ (by omega) hp hsz (by omega) (by omega)
  · rw [if_neg c3]
    refine both (fun hc => ?_) (fun _ => now fun _ => rfl)
    have d2 : ¬ (B s p : Int) < 248 := by omega
    simp only [if_neg d2]
    exact now fun _ => rfl

def tailN (n z x1 x2 x3 : Nat) (v : Int) : Int × Int × Bool :=
  if z > n then (0, 0, false)
  else if z = 2 then (if cont x1 then fin 2 (v * 64 + x1 - 128) else (0, 0, false))
  else if z = 3 then (if cont x1 then (if cont x2 then fin 3 ((v * 64 + x1 - 128) * 64 + x2 - 128) else (0, 0, false)) else (0, 0, false))
  else (if cont x1 then (if cont x2 then (if cont x3 then fin 4 (((v * 64 + x1 - 128) * 64 + x2 - 128) * 64 + x3 - 128) else (0, 0, false)) else (0, 0, false)) else (0, 0, false))
theorem tail_N (s : ByteArray) (p z : Nat) (v : Int) (hp : p < s.size) : tail s p z v = tailN (s.size - p) z (B s (p + 1)) (B s (p + 2)) (B s (p + 3)) v := by
  unfold tail tailN
  by_cases h : p + z > s.size
  · rw [if_pos h, if_pos (show z > s.size - p by omega)]
  · rw [if_neg h, if_neg (show ¬ z > s.size - p by omega)]
theorem fin_bad2 (v : Int) (h : v < 128) : fin 2 v = (0, 0, false) := by unfold fin; rw [if_pos]; simpa using h
theorem fin_good2 (v : Int) (h : 128 ≤ v) (h2 : v < 55296) : fin 2 v = (v, 2, true) := by
  unfold fin; rw [if_neg (by rw [if_pos rfl]; omega), if_neg (by omega), if_neg (by omega)]
theorem fin_bad3 (v : Int) (h : v < 2048 ∨ (55296 ≤ v ∧ v < 57344) ∨ 1114111 < v) : fin 3 v = (0, 0, false) := by
  unfold fin
  have e : (if (3 : Int) = 2 then (128 : Int) else if (3 : Int) = 3 then 2048 else 65536) = 2048 := rfl
  rw [e]
  repeat' split
  all_goals first | rfl | (exfalso; omega)
theorem fin_good3 (v : Int) (h : 2048 ≤ v) (h2 : v < 55296 ∨ 57344 ≤ v) (h3 : v ≤ 1114111) : fin 3 v = (v, 3, true) := by
  unfold fin
  have e : (if (3 : Int) = 2 then (128 : Int) else if (3 : Int) = 3 then 2048 else 65536) = 2048 := rfl
  rw [e]
  repeat' split
  all_goals first | rfl | (exfalso; omega)
theorem fin_bad4 (v : Int) (h : v < 65536 ∨ 1114111 < v) : fin 4 v = (0, 0, false) := by
  unfold fin
  have e : (if (4 : Int) = 2 then (128 : Int) else if (4 : Int) = 3 then 2048 else 65536) = 65536 := rfl
  rw [e]
  repeat' split
  all_goals first | rfl | (exfalso; omega)
theorem fin_good4 (v : Int) (h : 65536 ≤ v) (h3 : v ≤ 1114111) : fin 4 v = (v, 4, true) := by
  unfold fin
  have e : (if (4 : Int) = 2 then (128 : Int) else if (4 : Int) = 3 then 2048 else 65536) = 65536 := rfl
  rw [e]
  repeat' split
  all_goals first | rfl | (exfalso; omega)
theorem nxN_bad : nxN (65533, 1) = (0, 0, false) := rfl
theorem nxN_good (a b : Nat) (h : b ≠ 1) : nxN (a, b) = ((a : Int), (b : Int), true) := by unfold nxN; rw [if_neg (fun hc => h hc.2)]
theorem arith2 (n x0 x1 x2 x3 : Nat) (h0 : 192 ≤ x0 ∧ x0 < 224) (h1 : x1 < 256) : tailN n 2 x1 x2 x3 ((x0 : Int) - 192) = nxN (Lib.decodeN n x0 x1 x2 x3) := by
  unfold tailN Lib.decodeN
  rw [if_neg (show ¬ x0 < 128 by omega), if_pos rfl]
  by_cases c : 2 ≤ n ∧ 128 ≤ x1 ∧ x1 < 192
  · rw [if_neg (show ¬ 2 > n by omega), if_pos (show cont x1 from c.2), if_pos (show x0 / 32 = 6 ∧ 1 < n ∧ x1 / 64 = 2 by omega)]
    by_cases d : x0 % 32 * 64 + x1 % 64 ≥ 128
    · rw [if_pos d, fin_good2 _ (by omega) (by omega), nxN_good _ _ (by omega)]
      congr 1; omega
    · rw [if_neg d, fin_bad2 _ (by omega), nxN_bad]
  · rw [if_neg (show ¬ (x0 / 32 = 6 ∧ 1 < n ∧ x1 / 64 = 2) by omega), if_neg (show ¬ (x0 / 16 = 14 ∧ (1 < n ∧ x1 / 64 = 2) ∧ (2 < n ∧ x2 / 64 = 2)) by omega), if_neg (show ¬ (x0 / 8 = 30 ∧ (1 < n ∧ x1 / 64 = 2) ∧ (2 < n ∧ x2 / 64 = 2) ∧ (3 < n ∧ x3 / 64 = 2)) by omega), nxN_bad]
    by_cases e : 2 > n
    · rw [if_pos e]
    · rw [if_neg e, if_neg (show ¬ cont x1 from fun h => by unfold cont at h; omega)]
theorem arith3 (n x0 x1 x2 x3 : Nat) (h0 : 224 ≤ x0 ∧ x0 < 240) (h1 : x1 < 256) (h2 : x2 < 256) : tailN n 3 x1 x2 x3 ((x0 : Int) - 224) = nxN (Lib.decodeN n x0 x1 x2 x3) := by
  unfold tailN Lib.decodeN
  rw [if_neg (show ¬ x0 < 128 by omega), if_neg (show ¬ (3 : Nat) = 2 by omega), if_pos rfl, if_neg (show ¬ (x0 / 32 = 6 ∧ 1 < n ∧ x1 / 64 = 2) by omega)]
  by_cases c : 3 ≤ n ∧ (128 ≤ x1 ∧ x1 < 192) ∧ (128 ≤ x2 ∧ x2 < 192)
  · rw [if_neg (show ¬ 3 > n by omega), if_pos (show cont x1 from c.2.1), if_pos (show cont x2 from c.2.2), if_pos (show x0 / 16 = 14 ∧ (1 < n ∧ x1 / 64 = 2) ∧ (2 < n ∧ x2 / 64 = 2) by omega)]
    by_cases d : x0 % 16 * 4096 + x1 % 64 * 64 + x2 % 64 ≥ 2048 ∧ (x0 % 16 * 4096 + x1 % 64 * 64 + x2 % 64 < 55296 ∨ (57344 ≤ x0 % 16 * 4096 + x1 % 64 * 64 + x2 % 64 ∧ x0 % 16 * 4096 + x1 % 64 * 64 + x2 % 64 ≤ 1114111))
    · rw [if_pos d, fin_good3 _ (by omega) (by omega) (by omega), nxN_good _ _ (by omega)]
      congr 1; omega
    · rw [if_neg d, fin_bad3 _ (by omega), nxN_bad]
  · rw [if_neg (show ¬ (x0 / 16 = 14 ∧ (1 < n ∧ x1 / 64 = 2) ∧ (2 < n ∧ x2 / 64 = 2)) by omega), if_neg (show ¬ (x0 / 8 = 30 ∧ (1 < n ∧ x1 / 64 = 2) ∧ (2 < n ∧ x2 / 64 = 2) ∧ (3 < n ∧ x3 / 64 = 2)) by omega), nxN_bad]
    by_cases e : 3 > n
    · rw [if_pos e]
    · rw [if_neg e]
      repeat' split
      all_goals first | rfl | (unfold cont at *; exfalso; omega)
theorem arith4 (n x0 x1 x2 x3 : Nat) (h0 : 240 ≤ x0 ∧ x0 < 248) (h1 : x1 < 256) (h2 : x2 < 256) (h3 : x3 < 256) : tailN n 4 x1 x2 x3 ((x0 : Int) - 240) = nxN (Lib.decodeN n x0 x1 x2 x3) := by
  unfold tailN Lib.decodeN
  rw [if_neg (show ¬ x0 < 128 by omega), if_neg (show ¬ (4 : Nat) = 2 by omega), if_neg (show ¬ (4 : Nat) = 3 by omega), if_neg (show ¬ (x0 / 32 = 6 ∧ 1 < n ∧ x1 / 64 = 2) by omega), if_neg (show ¬ (x0 / 16 = 14 ∧ (1 < n ∧ x1 / 64 = 2) ∧ (2 < n ∧ x2 / 64 = 2)) by omega)]
  by_cases c : 4 ≤ n ∧ (128 ≤ x1 ∧ x1 < 192) ∧ (128 ≤ x2 ∧ x2 < 192) ∧ (128 ≤ x3 ∧ x3 < 192)
  · rw [if_neg (show ¬ 4 > n by omega), if_pos (show cont x1 from c.2.1), if_pos (show cont x2 from c.2.2.1), if_pos (show cont x3 from c.2.2.2), if_pos (show x0 / 8 = 30 ∧ (1 < n ∧ x1 / 64 = 2) ∧ (2 < n ∧ x2 / 64 = 2) ∧ (3 < n ∧ x3 / 64 = 2) by omega)]
    by_cases d : x0 % 8 * 262144 + x1 % 64 * 4096 + x2 % 64 * 64 + x3 % 64 ≥ 65536 ∧ (x0 % 8 * 262144 + x1 % 64 * 4096 + x2 % 64 * 64 + x3 % 64 < 55296 ∨ (57344 ≤ x0 % 8 * 262144 + x1 % 64 * 4096 + x2 % 64 * 64 + x3 % 64 ∧ x0 % 8 * 262144 + x1 % 64 * 4096 + x2 % 64 * 64 + x3 % 64 ≤ 1114111))
    · rw [if_pos d, fin_good4 _ (by omega) (by omega), nxN_good _ _ (by omega)]
      congr 1; omega
    · rw [if_neg d, fin_bad4 _ (by omega), nxN_bad]
  · rw [if_neg (show ¬ (x0 / 8 = 30 ∧ (1 < n ∧ x1 / 64 = 2) ∧ (2 < n ∧ x2 / 64 = 2) ∧ (3 < n ∧ x3 / 64 = 2)) by omega), nxN_bad]
    by_cases e : 4 > n
    · rw [if_pos e]
    · rw [if_neg e]
      repeat' split
      all_goals first | rfl | (unfold cont at *; exfalso; omega)
theorem whole_nx (s : ByteArray) (p : Nat) (hp : p < s.size) : whole s p = nx s p := by
  have b0 := B_lt s p; have b1 := B_lt s (p + 1); have b2 := B_lt s (p + 2); have b3 := B_lt s (p + 3)
  have hd : nx s p = nxN (Lib.decodeN (s.size - p) (B s p) (B s (p + 1)) (B s (p + 2)) (B s (p + 3))) := congrArg nxN (Lib.decode_at s p)
  rw [hd]
  unfold whole
  by_cases c0 : B s p < 128
  · rw [if_pos c0]
    unfold Lib.decodeN
    rw [if_pos c0]
    unfold nxN
    rw [if_neg (by simp only; omega)]
    rfl
  rw [if_neg c0]
  by_cases c1 : 192 ≤ B s p ∧ B s p < 224
  · rw [if_pos c1, tail_N s p 2 _ hp, arith2 _ _ _ _ _ c1 b1]
  rw [if_neg c1]
  by_cases c2 : 224 ≤ B s p ∧ B s p < 240
  · rw [if_pos c2, tail_N s p 3 _ hp, arith3 _ _ _ _ _ c2 b1 b2]
  rw [if_neg c2]
  by_cases c3 : 240 ≤ B s p ∧ B s p < 248
  · rw [if_pos c3, tail_N s p 4 _ hp, arith4 _ _ _ _ _ c3 b1 b2 b3]
  rw [if_neg c3]
  unfold Lib.decodeN
  generalize s.size - p = n
  generalize B s p = x0 at *
  rw [if_neg c0, if_neg (show ¬ (x0 / 32 = 6 ∧ _) by omega), if_neg (show ¬ (x0 / 16 = 14 ∧ _) by omega), if_neg (show ¬ (x0 / 8 = 30 ∧ _) by omega)]
  rfl

theorem next (s : ByteArray) (p : Nat) (hp : p < s.size) (hsz : s.size ≤ 140737488351232) : Ev (fun k => glossatorref01_Next.f k s p) (nx s p) := whole_nx s p hp ▸ next_whole s p hp hsz
theorem next_out (s : ByteArray) (p : Int) (hp : p < 0 ∨ (s.size : Int) ≤ p) : Ev (fun k => glossatorref01_Next.f k s p) (0, 0, false) := by
  simp only [glossatorref01_Next.f]
  refine both (fun _ => ?_) (fun c => ?_)
  · refine up ?_
    simp only [glossatorref01_Next.j0, if_true]
    exact now fun _ => rfl
  · have e1 : decide (p ≥ (s.size : Int)) = true := decide_eq_true (by omega)
    simp only [e1]
    refine up ?_
    simp only [glossatorref01_Next.j0, if_true]
    exact now fun _ => rfl
theorem step (s : ByteArray) (p : Nat) (hp : p < s.size) (hsz : s.size ≤ 140737488351232) : Ev (fun k => glossatorref01_step.f k s p) ((XUtf.width s p : Int), XUtf.uni s p) := by
  simp only [glossatorref01_step.f]
  refine bind (next s p hp hsz) ?_
  by_cases hb : bad s p
  · simp only [nx_bad s p hb, Bool.false_eq_true, if_false]
    refine now fun _ => ?_
    unfold XUtf.width XUtf.uni XUtf.uOf
    rw [hb.1, hb.2]
    rfl
  · simp only [nx_good s p hb, if_true]
    refine both (fun hc => now fun _ => ?_) (fun hc => now fun _ => ?_)
    · unfold XUtf.width XUtf.uni XUtf.uOf
      rw [if_pos (by omega)]
    · unfold XUtf.width XUtf.uni XUtf.uOf
      rw [if_neg (by omega)]
end Go.Proofs.YtbjhmknahldhaaaDoor.XRef01
