/- Words and walks of this claim, put together by this repo's wip/xlink.py out of XRef02, XRef01, XRef01c, XRef01u, XUtfTr, XFrr, XFh, PureFiveDecodes. -/
import Derived.Test.YtbjhmknahldhaaaDoorL7
import Derived.Test.YtbjhmknahldhaaaDoorL5
import Derived.Test.YtbjhmknahldhaaaDoorL6
section
namespace Go.Proofs.YtbjhmknahldhaaaDoor.XRef02
open Go Go.RowKit Go.Proofs.YtbjhmknahldhaaaDoor.Q Go.Proofs.YtbjhmknahldhaaaDoorW.PrintWords Go.Proofs.YtbjhmknahldhaaaDoorW.PrintLast Go.Proofs.YtbjhmknahldhaaaDoorW.PrintMore Go.Proofs.YtbjhmknahldhaaaDoor.XEv Go.Proofs.YtbjhmknahldhaaaDoor.XLines
set_option linter.unusedVariables false
set_option linter.unusedSimpArgs false
/-- How many bytes a line's end has there. -/
def endAt (s : ByteArray) (i : Nat) : Nat := if isB s i then nxt s i - i else 0
theorem endAt_pos (s : ByteArray) (i : Nat) (h : isB s i) : endAt s i = nxt s i - i ∧ 0 < endAt s i := by
  have := nxt_gt s i
  unfold endAt; rw [if_pos h]; omega
theorem endAt_zero (s : ByteArray) (i : Nat) (h : ¬ isB s i) : endAt s i = 0 := if_neg h
theorem endE (s : ByteArray) (hs : s.size ≤ 140737488351232) (i : Nat) : Ev (fun k => glossatorref02_end.f k s (i : Int)) (endAt s i : Int) := by
  unfold glossatorref02_end.f
  by_cases h : i < s.size
  · have c1 : ¬ (i : Int) ≥ (s.size : Int) := by omega
    have c2 : (0 : Int) ≤ (i : Int) := by omega
    have c3 : (i : Int) < (s.size : Int) := by omega
    have e1 : wrap64 ((i : Int) + 1) = ((i + 1 : Nat) : Int) := by rw [w64 (by omega) (by omega)]; rfl
    simp only [if_neg c1, if_pos c2, if_pos c3, bt_nat]
    by_cases h10 : B s i = 10
    · have h10' : (B s i : Int) = 10 := by omega
      simp only [if_pos h10']
      refine up ?_
      have h13 : ¬ (B s i : Int) = 13 := by omega
      simp only [glossatorref02_end.j0, Bool.false_eq_true, if_false, if_pos c2, if_pos c3, bt_nat, if_neg h13]
      have hb : isB s i := ⟨h, .inl h10⟩
      have hc : crlf s i = false := by
        cases hc : crlf s i with
        | false => rfl
        | true => have := (crlf_iff s i).1 hc; omega
      have : endAt s i = 1 := by rw [(endAt_pos s i hb).1]; unfold nxt; rw [hc]; simp
      rw [this]
      exact now fun _ => rfl
    · have h10' : ¬ (B s i : Int) = 10 := by omega
      simp only [if_neg h10']
      refine up ?_
      by_cases h13 : B s i = 13
      · have h13' : (B s i : Int) = 13 := by omega
        have hb : isB s i := ⟨h, .inr h13⟩
        simp only [glossatorref02_end.j0, h13', bne_self_eq_false, Bool.false_eq_true, if_false, if_pos c2, if_pos c3, bt_nat, if_true, e1]
        by_cases hl : i + 1 < s.size
        · have c4 : ((i + 1 : Nat) : Int) < (s.size : Int) := by omega
          have c5 : (0 : Int) ≤ ((i + 1 : Nat) : Int) := by omega
          simp only [if_pos c4, if_pos c5]
          by_cases hn : B s (i + 1) = 10
          · have hn' : (B s (i + 1) : Int) = 10 := by omega
            have hc : crlf s i = true := (crlf_iff s i).2 ⟨hl, h13, hn⟩
            have : endAt s i = 2 := by rw [(endAt_pos s i hb).1]; unfold nxt; rw [hc]; simp
            rw [this]
            simp only [if_pos hn']
            exact now fun _ => rfl
          · have hn' : ¬ (B s (i + 1) : Int) = 10 := by omega
            have hc : crlf s i = false := by
              cases hc : crlf s i with
              | false => rfl
              | true => exact absurd ((crlf_iff s i).1 hc).2.2 hn
            have : endAt s i = 1 := by rw [(endAt_pos s i hb).1]; unfold nxt; rw [hc]; simp
            rw [this]
            simp only [if_neg hn']
            exact now fun _ => rfl
        · have c4 : ¬ ((i + 1 : Nat) : Int) < (s.size : Int) := by omega
          have hc : crlf s i = false := by
            cases hc : crlf s i with
            | false => rfl
            | true => exact absurd ((crlf_iff s i).1 hc).1 hl
          have : endAt s i = 1 := by rw [(endAt_pos s i hb).1]; unfold nxt; rw [hc]; simp
          rw [this]
          simp only [if_neg c4]
          exact now fun _ => rfl
      · have h13' : ¬ (B s i : Int) = 13 := by omega
        have e13 : ((B s i : Int) != 13) = true := by simp [h13']
        rw [endAt_zero s i (fun hb => hb.2.elim h10 h13)]
        simp only [glossatorref02_end.j0, e13, if_true]
        exact now fun _ => rfl
  · have c1 : (i : Int) ≥ (s.size : Int) := by omega
    simp only [if_pos c1]
    refine up ?_
    rw [endAt_zero s i (fun hb => h hb.1)]
    simp only [glossatorref02_end.j0, if_true]
    exact now fun _ => rfl
theorem starts_l0 (s : ByteArray) (hs : s.size ≤ 1000000000) : ∀ (b a : Nat) (acc : List Int), s.size ≤ a + b → acc.length + b ≤ 2000000000 →
    Ev (fun k => glossatorref02_Starts.l0 k s acc (a : Int)) (acc ++ sts s b a) := by
  intro b
  induction b with
  | zero =>
    intro a acc hb hl
    refine up ?_
    have c : ¬ (a : Int) < (s.size : Int) := by omega
    simp only [glossatorref02_Starts.l0, if_neg c, sts, List.append_nil]
    exact now fun _ => rfl
  | succ b ih =>
    intro a acc hb hl
    refine up ?_
    by_cases h : a < s.size
    · have c : (a : Int) < (s.size : Int) := by omega
      simp only [glossatorref02_Starts.l0, if_pos c]
      refine bind (endE s (by omega) a) ?_
      rw [sts, if_pos h]
      by_cases hB : isB s a
      · have h0 := endAt_pos s a hB
        have h1 := nxt_gt s a
        have h2 := nxt_le s a h
        have c2 : (endAt s a : Int) > 0 := by omega
        have c3 : acc.length < 17592186044416 := by omega
        have e1 : wrap64 ((a : Int) + (endAt s a : Int)) = (nxt s a : Int) := by rw [w64 (by omega) (by omega)]; omega
        simp only [if_pos c2, if_pos c3, e1, if_pos hB]
        have := ih (nxt s a) (acc ++ [(nxt s a : Int)]) (by omega) (by simp; omega)
        rw [List.append_assoc, List.singleton_append] at this
        exact this
      · have c2 : ¬ (endAt s a : Int) > 0 := by rw [endAt_zero s a hB]; omega
        have e1 : wrap64 ((a : Int) + 1) = ((a + 1 : Nat) : Int) := by rw [w64 (by omega) (by omega)]; rfl
        simp only [if_neg c2, e1, if_neg hB]
        exact ih (a + 1) acc (by omega) (by omega)
    · have c : ¬ (a : Int) < (s.size : Int) := by omega
      rw [sts, if_neg h]
      simp only [glossatorref02_Starts.l0, if_neg c, List.append_nil]
      exact now fun _ => rfl
theorem starts (s : ByteArray) (hs : s.size ≤ 1000000000) : Ev (fun k => glossatorref02_Starts.f k s) (begs (lns s)) := by
  rw [begs_lns]
  simp only [glossatorref02_Starts.f]
  exact starts_l0 s hs s.size 0 [0] (by omega) (by simp; omega)
theorem line_l0 (s : ByteArray) (hs : s.size ≤ 1000000000) (L : List Int) (n : Nat) (hn : n < L.length) : ∀ (m a : Nat), s.size - a ≤ m → a ≤ s.size →
    Ev (fun k => glossatorref02_Line.l0 k s (n : Int) L (a : Int)) (rd L (n : Int), ((brk s a : Nat) : Int), true) := by
  have c5 : (0 : Int) ≤ (n : Int) := by omega
  have c6 : (n : Int) < (L.length : Int) := by omega
  intro m
  induction m with
  | zero =>
    intro a hm ha
    refine up ?_
    have c : ¬ (a : Int) < (s.size : Int) := by omega
    simp only [glossatorref02_Line.l0, if_neg c, if_pos c5, if_pos c6]
    rw [brk_end s a (by omega)]
    have : a = s.size := by omega
    subst this
    exact now fun _ => rfl
  | succ m ih =>
    intro a hm ha
    refine up ?_
    by_cases h : a < s.size
    · have c : (a : Int) < (s.size : Int) := by omega
      simp only [glossatorref02_Line.l0, if_pos c]
      refine bind (endE s (by omega) a) ?_
      by_cases hB : isB s a
      · have h0 := endAt_pos s a hB
        have c2 : ¬ (endAt s a : Int) = 0 := by omega
        simp only [if_neg c2, if_pos c5, if_pos c6]
        rw [brk_hit s a hB]
        exact now fun _ => rfl
      · have c2 : (endAt s a : Int) = 0 := by rw [endAt_zero s a hB]; rfl
        have e1 : wrap64 ((a : Int) + 1) = ((a + 1 : Nat) : Int) := by rw [w64 (by omega) (by omega)]; rfl
        simp only [if_pos c2, e1]
        rw [brk_skip s a h hB]
        exact ih (a + 1) (by omega) (by omega)
    · have c : ¬ (a : Int) < (s.size : Int) := by omega
      simp only [glossatorref02_Line.l0, if_neg c, if_pos c5, if_pos c6]
      rw [brk_end s a (by omega)]
      have : a = s.size := by omega
      subst this
      exact now fun _ => rfl
theorem line_at (s : ByteArray) (hs : s.size ≤ 1000000000) (i : Nat) (x : Ln s) (hx : (lns s)[i]? = some x) : Ev (fun k => glossatorref02_Line.f k s (i : Int)) ((x.1.2.1 : Int), ((brk s x.1.2.1 : Nat) : Int), true) := by
  have h0 : ¬ (i : Int) < 0 := by omega
  have hl : (begs (lns s)).length = (lns s).length := by unfold begs; rw [List.length_map]
  have hi := (List.getElem?_eq_some_iff.1 hx).1
  have h1 : ¬ (i : Int) ≥ ((begs (lns s)).length : Int) := by omega
  have c5 : (0 : Int) ≤ (i : Int) := by omega
  have c6 : (i : Int) < ((begs (lns s)).length : Int) := by omega
  simp only [glossatorref02_Line.f]
  refine bind (starts s hs) ?_
  simp only [if_neg h0]
  refine up ?_
  simp only [glossatorref02_Line.j0, h1, decide_false, Bool.false_eq_true, if_false, if_pos c5, if_pos c6]
  have hr := rd_of (begs_at s i x hx)
  rw [hr]
  have := line_l0 s hs (begs (lns s)) i (by omega) s.size x.1.2.1 (by omega) (by have := x.2; omega)
  rw [hr] at this
  exact this
end Go.Proofs.YtbjhmknahldhaaaDoor.XRef02

end
section
namespace Go.Proofs.YtbjhmknahldhaaaDoor.XRef01
open Go Go.RowKit Go.Proofs.YtbjhmknahldhaaaDoor.Q Go.Proofs.YtbjhmknahldhaaaDoorW.PrintWords Go.Proofs.YtbjhmknahldhaaaDoorW.PrintLast Go.Proofs.YtbjhmknahldhaaaDoorW.PrintMore Go.Proofs.YtbjhmknahldhaaaDoor.XEv
set_option linter.unusedVariables false
set_option linter.unusedSimpArgs false
/-- The reference's arithmetic on four bytes, n of which are there. -/
def fin (z v : Int) : Int × Int × Bool :=
  if v < (if z = 2 then 128 else if z = 3 then 2048 else 65536) then (0, 0, false) else if v > 1114111 then (0, 0, false) else if v ≥ 55296 then (if v < 57344 then (0, 0, false) else (v, z, true)) else (v, z, true)
theorem l0_fin (s : ByteArray) (p z v i : Int) (hz : z = 2 ∨ z = 3 ∨ z = 4) (hi : ¬ i < z) (h0 : -2147483648 ≤ v) (h1 : v ≤ 2147483647) : Ev (fun k => glossatorref01_Next.l0 k s p z v i) (fin z v) := by
  refine up ?_
  simp only [glossatorref01_Next.l0, if_neg hi, Option.bind_some]
  have e1 : (0 : Int) ≤ z := by omega
  have e2 : z < (([0, 0, 128, 2048, 65536] : List Int).length : Int) := by simp; omega
  have e3 : rd ([0, 0, 128, 2048, 65536] : List Int) z = if z = 2 then 128 else if z = 3 then 2048 else 65536 := by rcases hz with rfl | rfl | rfl <;> rfl
  simp only [if_pos e1, if_pos e2, e3]
  refine now (fun k => ?_)
  unfold fin
  rw [w32 h0 h1]
  repeat' split
  all_goals first | rfl | (exfalso; omega)
theorem l0_step (s : ByteArray) (p i : Nat) (z v : Int) (r : Int × Int × Bool) (hp : p + i < s.size) (hsz : s.size ≤ 140737488351232) (hi : (i : Int) < z) (h0 : 0 ≤ v) (h1 : v ≤ 16777216) (hz : z ≤ 4)
    (hr : 128 ≤ B s (p + i) → B s (p + i) < 192 → Ev (fun k => glossatorref01_Next.l0 k s p z (v * 64 + B s (p + i) - 128) ((i + 1 : Nat) : Int)) r) :
    Ev (fun k => glossatorref01_Next.l0 k s p z v i) (if 128 ≤ B s (p + i) ∧ B s (p + i) < 192 then r else (0, 0, false)) := by
  refine up ?_
  have hB := B_lt s (p + i)
  have e0 : wrap64 ((p : Int) + i) = ((p + i : Nat) : Int) := by rw [w64 (by omega) (by omega)]; omega
  have e1 : (0 : Int) ≤ ((p + i : Nat) : Int) := by omega
  have e2 : ((p + i : Nat) : Int) < (s.size : Int) := by omega
  simp only [glossatorref01_Next.l0, if_pos hi, e0, if_pos e1, if_pos e2, bt_nat, w64 (show (-9223372036854775808 : Int) ≤ (B s (p + i) : Int) by omega) (by omega)]
  by_cases c1 : (B s (p + i) : Int) < 128
  · rw [if_neg (by omega)]
    simp only [if_pos c1]
    exact now fun _ => rfl
  · by_cases c2 : (B s (p + i) : Int) ≥ 192
    · rw [if_neg (by omega)]
      simp only [if_neg c1, if_pos c2]
      exact now fun _ => rfl
    · rw [if_pos (by omega)]
      have e3 : wrap64 (v * 64) = v * 64 := w64 (by omega) (by omega)
      have e4 : wrap64 (v * 64 + (B s (p + i) : Int)) = v * 64 + (B s (p + i) : Int) := w64 (by omega) (by omega)
      have e5 : wrap64 (v * 64 + (B s (p + i) : Int) - 128) = v * 64 + (B s (p + i) : Int) - 128 := w64 (by omega) (by omega)
      have e6 : wrap64 ((i : Int) + 1) = ((i + 1 : Nat) : Int) := by rw [w64 (by omega) (by omega)]; omega
      simp only [if_neg c1, if_neg c2, e3, e4, e5, e6]
      exact hr (by omega) (by omega)
def cont (b : Nat) : Prop := 128 ≤ b ∧ b < 192
instance (b : Nat) : Decidable (cont b) := by unfold cont; infer_instance
/-- What the reference comes to for a lead byte's size and bits. -/
def tail (s : ByteArray) (p z : Nat) (v : Int) : Int × Int × Bool :=
  if p + z > s.size then (0, 0, false)
  else if z = 2 then (if cont (B s (p + 1)) then fin 2 (v * 64 + B s (p + 1) - 128) else (0, 0, false))
  else if z = 3 then (if cont (B s (p + 1)) then (if cont (B s (p + 2)) then fin 3 ((v * 64 + B s (p + 1) - 128) * 64 + B s (p + 2) - 128) else (0, 0, false)) else (0, 0, false))
  else (if cont (B s (p + 1)) then (if cont (B s (p + 2)) then (if cont (B s (p + 3)) then fin 4 (((v * 64 + B s (p + 1) - 128) * 64 + B s (p + 2) - 128) * 64 + B s (p + 3) - 128) else (0, 0, false)) else (0, 0, false)) else (0, 0, false))
theorem j3_tail (s : ByteArray) (p z : Nat) (v : Int) (hz : z = 2 ∨ z = 3 ∨ z = 4) (hp : p < s.size) (hsz : s.size ≤ 140737488351232) (h0 : 0 ≤ v) (h1 : v ≤ 31) : Ev (fun k => glossatorref01_Next.j3 k s p z v) (tail s p z v) := by
  refine up ?_
  have e0 : wrap64 ((p : Int) + z) = ((p + z : Nat) : Int) := by rw [w64 (by omega) (by omega)]; omega
  simp only [glossatorref01_Next.j3, e0]
  unfold tail
  by_cases c : p + z > s.size
  · rw [if_pos c]
    have c' : ((p + z : Nat) : Int) > (s.size : Int) := by omega
    simp only [if_pos c']
    exact now fun _ => rfl
  · rw [if_neg c]
    have c' : ¬ ((p + z : Nat) : Int) > (s.size : Int) := by omega
    simp only [if_neg c']
    have b1 := B_lt s (p + 1); have b2 := B_lt s (p + 2); have b3 := B_lt s (p + 3)
    rcases hz with rfl | rfl | rfl
    · rw [if_pos rfl]
      exact l0_step s p 1 _ v _ (by omega) hsz (by omega) (by omega) (by omega) (by omega) fun ha hb => l0_fin s p _ _ _ (by omega) (by omega) (by omega) (by omega)
    · rw [if_neg (by omega), if_pos rfl]
      exact l0_step s p 1 _ v _ (by omega) hsz (by omega) (by omega) (by omega) (by omega) fun ha hb => l0_step s p 2 _ _ _ (by omega) hsz (by omega) (by omega) (by omega) (by omega) fun hc hd => l0_fin s p _ _ _ (by omega) (by omega) (by omega) (by omega)
    · rw [if_neg (by omega), if_neg (by omega)]
      exact l0_step s p 1 _ v _ (by omega) hsz (by omega) (by omega) (by omega) (by omega) fun ha hb => l0_step s p 2 _ _ _ (by omega) hsz (by omega) (by omega) (by omega) (by omega) fun hc hd => l0_step s p 3 _ _ _ (by omega) hsz (by omega) (by omega) (by omega) (by omega) fun he hf => l0_fin s p _ _ _ (by omega) (by omega) (by omega) (by omega)
def whole (s : ByteArray) (p : Nat) : Int × Int × Bool :=
  if B s p < 128 then ((B s p : Int), 1, true) else if 192 ≤ B s p ∧ B s p < 224 then tail s p 2 (B s p - 192) else if 224 ≤ B s p ∧ B s p < 240 then tail s p 3 (B s p - 224) else if 240 ≤ B s p ∧ B s p < 248 then tail s p 4 (B s p - 240) else (0, 0, false)
theorem next_whole (s : ByteArray) (p : Nat) (hp : p < s.size) (hsz : s.size ≤ 140737488351232) : Ev (fun k => glossatorref01_Next.f k s p) (whole s p) := by
  have hB := B_lt s p
  have e0 : ¬ (p : Int) < 0 := by omega
  have e1 : decide ((p : Int) ≥ (s.size : Int)) = false := decide_eq_false (by omega)
  have e2 : (0 : Int) ≤ p := by omega
  have e3 : (p : Int) < (s.size : Int) := by omega
  have eb : wrap64 (B s p : Int) = (B s p : Int) := w64 (by omega) (by omega)
  simp only [glossatorref01_Next.f, if_neg e0, e1]
  refine up ?_
  simp only [glossatorref01_Next.j0, Bool.false_eq_true, if_false, if_pos e2, if_pos e3, bt_nat, eb]
  unfold whole
  by_cases c0 : B s p < 128
  · have c0' : (B s p : Int) < 128 := by omega
    rw [if_pos c0]
    simp only [if_pos c0']
    exact now fun _ => by rw [w32 (by omega) (by omega)]
  have c0' : ¬ (B s p : Int) < 128 := by omega
  rw [if_neg c0]
  simp only [if_neg c0']
  by_cases c1 : 192 ≤ B s p ∧ B s p < 224
  · have d1 : (B s p : Int) ≥ 192 := by omega
    have d2 : decide ((B s p : Int) < 224) = true := decide_eq_true (by omega)
    have d3 : wrap64 ((B s p : Int) - 192) = (B s p : Int) - 192 := w64 (by omega) (by omega)
    rw [if_pos c1]
    simp only [if_pos d1, d2]
    refine up ?_
    simp only [glossatorref01_Next.j1, if_true, d3]
    exact j3_tail s p 2 _ (by omega) hp hsz (by omega) (by omega)
  rw [if_neg c1]
  have J1 : ∀ {r}, Ev (fun k => glossatorref01_Next.j1 k s p (B s p) false) r → Ev (fun k => if (B s p : Int) ≥ 192 then glossatorref01_Next.j1 k s p (B s p) (decide ((B s p : Int) < 224)) else glossatorref01_Next.j1 k s p (B s p) false) r := by
    intro r h
    refine both (fun hc => ?_) (fun _ => h)
    have : decide ((B s p : Int) < 224) = false := decide_eq_false (by omega)
    simp only [this]
    exact h
  refine J1 ?_
  clear J1
  by_cases c2 : 224 ≤ B s p ∧ B s p < 240
  · have d1 : (B s p : Int) ≥ 224 := by omega
    have d2 : decide ((B s p : Int) < 240) = true := decide_eq_true (by omega)
    have d3 : wrap64 ((B s p : Int) - 224) = (B s p : Int) - 224 := w64 (by omega) (by omega)
    rw [if_pos c2]
    refine up ?_
    simp only [glossatorref01_Next.j1, Bool.false_eq_true, if_false, if_pos d1, d2]
    refine up ?_
    simp only [glossatorref01_Next.j2, if_true, d3]
    exact j3_tail s p 3 _ (by omega) hp hsz (by omega) (by omega)
  rw [if_neg c2]
  refine up ?_
  simp only [glossatorref01_Next.j1, Bool.false_eq_true, if_false]
  have J2 : ∀ {r}, Ev (fun k => glossatorref01_Next.j2 k s p (B s p) false) r → Ev (fun k => if (B s p : Int) ≥ 224 then glossatorref01_Next.j2 k s p (B s p) (decide ((B s p : Int) < 240)) else glossatorref01_Next.j2 k s p (B s p) false) r := by
    intro r h
    refine both (fun hc => ?_) (fun _ => h)
    have : decide ((B s p : Int) < 240) = false := decide_eq_false (by omega)
    simp only [this]
    exact h
  refine J2 ?_
  refine up ?_
  simp only [glossatorref01_Next.j2, Bool.false_eq_true, if_false]
  by_cases c3 : 240 ≤ B s p ∧ B s p < 248
  · have d1 : (B s p : Int) ≥ 240 := by omega
    have d2 : (B s p : Int) < 248 := by omega
    have d3 : wrap64 ((B s p : Int) - 240) = (B s p : Int) - 240 := w64 (by omega) (by omega)
    rw [if_pos c3]
    simp only [if_pos d1, if_pos d2, d3]
    exact j3_tail s p 4 _ (by omega) hp hsz (by omega) (by omega)
  · rw [if_neg c3]
    refine both (fun hc => ?_) (fun _ => now fun _ => rfl)
    have d2 : ¬ (B s p : Int) < 248 := by omega
    simp only [if_neg d2]
    exact now fun _ => rfl
def tailN (n z x1 x2 x3 : Nat) (v : Int) : Int × Int × Bool :=
  if z > n then (0, 0, false)
  else if z = 2 then (if cont x1 then fin 2 (v * 64 + x1 - 128) else (0, 0, false))
  else if z = 3 then (if cont x1 then (if cont x2 then fin 3 ((v * 64 + x1 - 128) * 64 + x2 - 128) else (0, 0, false)) else (0, 0, false))
  else (if cont x1 then (if cont x2 then (if cont x3 then fin 4 (((v * 64 + x1 - 128) * 64 + x2 - 128) * 64 + x3 - 128) else (0, 0, false)) else (0, 0, false)) else (0, 0, false))
theorem tail_N (s : ByteArray) (p z : Nat) (v : Int) (hp : p < s.size) : tail s p z v = tailN (s.size - p) z (B s (p + 1)) (B s (p + 2)) (B s (p + 3)) v := by
  unfold tail tailN
  by_cases h : p + z > s.size
  · rw [if_pos h, if_pos (show z > s.size - p by omega)]
  · rw [if_neg h, if_neg (show ¬ z > s.size - p by omega)]
theorem fin_bad2 (v : Int) (h : v < 128) : fin 2 v = (0, 0, false) := by unfold fin; rw [if_pos]; simpa using h
theorem fin_good2 (v : Int) (h : 128 ≤ v) (h2 : v < 55296) : fin 2 v = (v, 2, true) := by
  unfold fin; rw [if_neg (by rw [if_pos rfl]; omega), if_neg (by omega), if_neg (by omega)]
theorem fin_bad3 (v : Int) (h : v < 2048 ∨ (55296 ≤ v ∧ v < 57344) ∨ 1114111 < v) : fin 3 v = (0, 0, false) := by
  unfold fin
  have e : (if (3 : Int) = 2 then (128 : Int) else if (3 : Int) = 3 then 2048 else 65536) = 2048 := rfl
  rw [e]
  repeat' split
  all_goals first | rfl | (exfalso; omega)
theorem fin_good3 (v : Int) (h : 2048 ≤ v) (h2 : v < 55296 ∨ 57344 ≤ v) (h3 : v ≤ 1114111) : fin 3 v = (v, 3, true) := by
  unfold fin
  have e : (if (3 : Int) = 2 then (128 : Int) else if (3 : Int) = 3 then 2048 else 65536) = 2048 := rfl
  rw [e]
  repeat' split
  all_goals first | rfl | (exfalso; omega)
theorem fin_bad4 (v : Int) (h : v < 65536 ∨ 1114111 < v) : fin 4 v = (0, 0, false) := by
  unfold fin
  have e : (if (4 : Int) = 2 then (128 : Int) else if (4 : Int) = 3 then 2048 else 65536) = 65536 := rfl
  rw [e]
  repeat' split
  all_goals first | rfl | (exfalso; omega)
theorem fin_good4 (v : Int) (h : 65536 ≤ v) (h3 : v ≤ 1114111) : fin 4 v = (v, 4, true) := by
  unfold fin
  have e : (if (4 : Int) = 2 then (128 : Int) else if (4 : Int) = 3 then 2048 else 65536) = 65536 := rfl
  rw [e]
  repeat' split
  all_goals first | rfl | (exfalso; omega)
theorem nxN_bad : nxN (65533, 1) = (0, 0, false) := rfl
theorem nxN_good (a b : Nat) (h : b ≠ 1) : nxN (a, b) = ((a : Int), (b : Int), true) := by unfold nxN; rw [if_neg (fun hc => h hc.2)]
theorem arith2 (n x0 x1 x2 x3 : Nat) (h0 : 192 ≤ x0 ∧ x0 < 224) (h1 : x1 < 256) : tailN n 2 x1 x2 x3 ((x0 : Int) - 192) = nxN (Lib.decodeN n x0 x1 x2 x3) := by
  unfold tailN Lib.decodeN
  rw [if_neg (show ¬ x0 < 128 by omega), if_pos rfl]
  by_cases c : 2 ≤ n ∧ 128 ≤ x1 ∧ x1 < 192
  · rw [if_neg (show ¬ 2 > n by omega), if_pos (show cont x1 from c.2), if_pos (show x0 / 32 = 6 ∧ 1 < n ∧ x1 / 64 = 2 by omega)]
    by_cases d : x0 % 32 * 64 + x1 % 64 ≥ 128
    · rw [if_pos d, fin_good2 _ (by omega) (by omega), nxN_good _ _ (by omega)]
      congr 1; omega
    · rw [if_neg d, fin_bad2 _ (by omega), nxN_bad]
  · rw [if_neg (show ¬ (x0 / 32 = 6 ∧ 1 < n ∧ x1 / 64 = 2) by omega), if_neg (show ¬ (x0 / 16 = 14 ∧ (1 < n ∧ x1 / 64 = 2) ∧ (2 < n ∧ x2 / 64 = 2)) by omega), if_neg (show ¬ (x0 / 8 = 30 ∧ (1 < n ∧ x1 / 64 = 2) ∧ (2 < n ∧ x2 / 64 = 2) ∧ (3 < n ∧ x3 / 64 = 2)) by omega), nxN_bad]
    by_cases e : 2 > n
    · rw [if_pos e]
    · rw [if_neg e, if_neg (show ¬ cont x1 from fun h => by unfold cont at h; omega)]
theorem arith3 (n x0 x1 x2 x3 : Nat) (h0 : 224 ≤ x0 ∧ x0 < 240) (h1 : x1 < 256) (h2 : x2 < 256) : tailN n 3 x1 x2 x3 ((x0 : Int) - 224) = nxN (Lib.decodeN n x0 x1 x2 x3) := by
  unfold tailN Lib.decodeN
  rw [if_neg (show ¬ x0 < 128 by omega), if_neg (show ¬ (3 : Nat) = 2 by omega), if_pos rfl, if_neg (show ¬ (x0 / 32 = 6 ∧ 1 < n ∧ x1 / 64 = 2) by omega)]
  by_cases c : 3 ≤ n ∧ (128 ≤ x1 ∧ x1 < 192) ∧ (128 ≤ x2 ∧ x2 < 192)
  · rw [if_neg (show ¬ 3 > n by omega), if_pos (show cont x1 from c.2.1), if_pos (show cont x2 from c.2.2), if_pos (show x0 / 16 = 14 ∧ (1 < n ∧ x1 / 64 = 2) ∧ (2 < n ∧ x2 / 64 = 2) by omega)]
    by_cases d : x0 % 16 * 4096 + x1 % 64 * 64 + x2 % 64 ≥ 2048 ∧ (x0 % 16 * 4096 + x1 % 64 * 64 + x2 % 64 < 55296 ∨ (57344 ≤ x0 % 16 * 4096 + x1 % 64 * 64 + x2 % 64 ∧ x0 % 16 * 4096 + x1 % 64 * 64 + x2 % 64 ≤ 1114111))
    · rw [if_pos d, fin_good3 _ (by omega) (by omega) (by omega), nxN_good _ _ (by omega)]
      congr 1; omega
    · rw [if_neg d, fin_bad3 _ (by omega), nxN_bad]
  · rw [if_neg (show ¬ (x0 / 16 = 14 ∧ (1 < n ∧ x1 / 64 = 2) ∧ (2 < n ∧ x2 / 64 = 2)) by omega), if_neg (show ¬ (x0 / 8 = 30 ∧ (1 < n ∧ x1 / 64 = 2) ∧ (2 < n ∧ x2 / 64 = 2) ∧ (3 < n ∧ x3 / 64 = 2)) by omega), nxN_bad]
    by_cases e : 3 > n
    · rw [if_pos e]
    · rw [if_neg e]
      repeat' split
      all_goals first | rfl | (unfold cont at *; exfalso; omega)
theorem arith4 (n x0 x1 x2 x3 : Nat) (h0 : 240 ≤ x0 ∧ x0 < 248) (h1 : x1 < 256) (h2 : x2 < 256) (h3 : x3 < 256) : tailN n 4 x1 x2 x3 ((x0 : Int) - 240) = nxN (Lib.decodeN n x0 x1 x2 x3) := by
  unfold tailN Lib.decodeN
  rw [if_neg (show ¬ x0 < 128 by omega), if_neg (show ¬ (4 : Nat) = 2 by omega), if_neg (show ¬ (4 : Nat) = 3 by omega), if_neg (show ¬ (x0 / 32 = 6 ∧ 1 < n ∧ x1 / 64 = 2) by omega), if_neg (show ¬ (x0 / 16 = 14 ∧ (1 < n ∧ x1 / 64 = 2) ∧ (2 < n ∧ x2 / 64 = 2)) by omega)]
  by_cases c : 4 ≤ n ∧ (128 ≤ x1 ∧ x1 < 192) ∧ (128 ≤ x2 ∧ x2 < 192) ∧ (128 ≤ x3 ∧ x3 < 192)
  · rw [if_neg (show ¬ 4 > n by omega), if_pos (show cont x1 from c.2.1), if_pos (show cont x2 from c.2.2.1), if_pos (show cont x3 from c.2.2.2), if_pos (show x0 / 8 = 30 ∧ (1 < n ∧ x1 / 64 = 2) ∧ (2 < n ∧ x2 / 64 = 2) ∧ (3 < n ∧ x3 / 64 = 2) by omega)]
    by_cases d : x0 % 8 * 262144 + x1 % 64 * 4096 + x2 % 64 * 64 + x3 % 64 ≥ 65536 ∧ (x0 % 8 * 262144 + x1 % 64 * 4096 + x2 % 64 * 64 + x3 % 64 < 55296 ∨ (57344 ≤ x0 % 8 * 262144 + x1 % 64 * 4096 + x2 % 64 * 64 + x3 % 64 ∧ x0 % 8 * 262144 + x1 % 64 * 4096 + x2 % 64 * 64 + x3 % 64 ≤ 1114111))
    · rw [if_pos d, fin_good4 _ (by omega) (by omega), nxN_good _ _ (by omega)]
      congr 1; omega
    · rw [if_neg d, fin_bad4 _ (by omega), nxN_bad]
  · rw [if_neg (show ¬ (x0 / 8 = 30 ∧ (1 < n ∧ x1 / 64 = 2) ∧ (2 < n ∧ x2 / 64 = 2) ∧ (3 < n ∧ x3 / 64 = 2)) by omega), nxN_bad]
    by_cases e : 4 > n
    · rw [if_pos e]
    · rw [if_neg e]
      repeat' split
      all_goals first | rfl | (unfold cont at *; exfalso; omega)
theorem whole_nx (s : ByteArray) (p : Nat) (hp : p < s.size) : whole s p = nx s p := by
  have b0 := B_lt s p; have b1 := B_lt s (p + 1); have b2 := B_lt s (p + 2); have b3 := B_lt s (p + 3)
  have hd : nx s p = nxN (Lib.decodeN (s.size - p) (B s p) (B s (p + 1)) (B s (p + 2)) (B s (p + 3))) := congrArg nxN (Lib.decode_at s p)
  rw [hd]
  unfold whole
  by_cases c0 : B s p < 128
  · rw [if_pos c0]
    unfold Lib.decodeN
    rw [if_pos c0]
    unfold nxN
    rw [if_neg (by simp only; omega)]
    rfl
  rw [if_neg c0]
  by_cases c1 : 192 ≤ B s p ∧ B s p < 224
  · rw [if_pos c1, tail_N s p 2 _ hp, arith2 _ _ _ _ _ c1 b1]
  rw [if_neg c1]
  by_cases c2 : 224 ≤ B s p ∧ B s p < 240
  · rw [if_pos c2, tail_N s p 3 _ hp, arith3 _ _ _ _ _ c2 b1 b2]
  rw [if_neg c2]
  by_cases c3 : 240 ≤ B s p ∧ B s p < 248
  · rw [if_pos c3, tail_N s p 4 _ hp, arith4 _ _ _ _ _ c3 b1 b2 b3]
  rw [if_neg c3]
  unfold Lib.decodeN
  generalize s.size - p = n
  generalize B s p = x0 at *
  rw [if_neg c0, if_neg (show ¬ (x0 / 32 = 6 ∧ _) by omega), if_neg (show ¬ (x0 / 16 = 14 ∧ _) by omega), if_neg (show ¬ (x0 / 8 = 30 ∧ _) by omega)]
  rfl
theorem next (s : ByteArray) (p : Nat) (hp : p < s.size) (hsz : s.size ≤ 140737488351232) : Ev (fun k => glossatorref01_Next.f k s p) (nx s p) := whole_nx s p hp ▸ next_whole s p hp hsz
theorem step (s : ByteArray) (p : Nat) (hp : p < s.size) (hsz : s.size ≤ 140737488351232) : Ev (fun k => glossatorref01_step.f k s p) ((XUtf.width s p : Int), XUtf.uni s p) := by
  simp only [glossatorref01_step.f]
  refine bind (next s p hp hsz) ?_
  by_cases hb : bad s p
  · simp only [nx_bad s p hb, Bool.false_eq_true, if_false]
    refine now fun _ => ?_
    unfold XUtf.width XUtf.uni XUtf.uOf
    rw [hb.1, hb.2]
    rfl
  · simp only [nx_good s p hb, if_true]
    refine both (fun hc => now fun _ => ?_) (fun hc => now fun _ => ?_)
    · unfold XUtf.width XUtf.uni XUtf.uOf
      rw [if_pos (by omega)]
    · unfold XUtf.width XUtf.uni XUtf.uOf
      rw [if_neg (by omega)]
end Go.Proofs.YtbjhmknahldhaaaDoor.XRef01

end
section
namespace Go.Proofs.YtbjhmknahldhaaaDoor.XRef01
open Go Go.RowKit Go.Proofs.YtbjhmknahldhaaaDoor.Q Go.Proofs.YtbjhmknahldhaaaDoorW.PrintWords Go.Proofs.YtbjhmknahldhaaaDoorW.PrintLast Go.Proofs.YtbjhmknahldhaaaDoorW.PrintMore Go.Proofs.YtbjhmknahldhaaaDoor.XEv
set_option linter.unusedVariables false
set_option linter.unusedSimpArgs false
theorem cut_l0 (s : ByteArray) (hsz : s.size ≤ 140737488351232) (u : Int) : ∀ (b pos : Nat) (n : Int), s.size ≤ pos + b → pos ≤ s.size → 0 ≤ n → n ≤ 2 * (pos : Int) →
    Ev (fun k => glossatorref01_Cut.l0 k s u pos n) ((XUtf.cutAt s b pos (u - n) : Nat) : Int) := by
  intro b
  induction b with
  | zero =>
    intro pos n hb hp h0 h1
    refine up ?_
    have c : ¬ (pos : Int) < (s.size : Int) := by omega
    simp only [glossatorref01_Cut.l0, if_neg c]
    exact now fun _ => rfl
  | succ b ih =>
    intro pos n hb hp h0 h1
    refine up ?_
    by_cases c : pos < s.size
    · have c' : (pos : Int) < (s.size : Int) := by omega
      simp only [glossatorref01_Cut.l0, if_pos c']
      refine bind (step s pos c hsz) ?_
      have hw := XUtf.width_range s pos
      have hf := XUtf.width_fit s pos c
      have hu := XUtf.uni_range s pos
      have hl := XUtf.uni_le s pos
      have e1 : wrap64 ((pos : Int) + (XUtf.width s pos : Int)) = ((pos + XUtf.width s pos : Nat) : Int) := by rw [w64 (by omega) (by omega)]; omega
      have e2 : wrap64 (n + XUtf.uni s pos) = n + XUtf.uni s pos := w64 (by omega) (by omega)
      simp only [e1, e2]
      rw [XUtf.cutAt, if_pos c]
      by_cases d : n + XUtf.uni s pos > u
      · rw [if_pos (show u - n - XUtf.uOf (Utf8.decode s pos).1 < 0 by have : XUtf.uOf (Utf8.decode s pos).1 = XUtf.uni s pos := rfl; omega)]
        simp only [if_pos d]
        exact now fun _ => rfl
      · rw [if_neg (show ¬ u - n - XUtf.uOf (Utf8.decode s pos).1 < 0 by have : XUtf.uOf (Utf8.decode s pos).1 = XUtf.uni s pos := rfl; omega)]
        simp only [if_neg d]
        have e3 : u - n - XUtf.uOf (Utf8.decode s pos).1 = u - (n + XUtf.uni s pos) := by have : XUtf.uOf (Utf8.decode s pos).1 = XUtf.uni s pos := rfl; omega
        rw [e3]
        exact ih _ _ (by omega) (by omega) (by omega) (by omega)
    · have c' : ¬ (pos : Int) < (s.size : Int) := by omega
      simp only [glossatorref01_Cut.l0, if_neg c']
      rw [XUtf.cutAt, if_neg c]
      exact now fun _ => rfl
theorem cut (s : ByteArray) (hsz : s.size ≤ 140737488351232) (u : Int) : Ev (fun k => glossatorref01_Cut.f k s u) ((XUtf.cutAt s s.size 0 u : Nat) : Int) := by
  simp only [glossatorref01_Cut.f]
  have := cut_l0 s hsz u s.size 0 0 (by omega) (by omega) (by omega) (by omega)
  rwa [Int.sub_zero] at this
end Go.Proofs.YtbjhmknahldhaaaDoor.XRef01

end
section
namespace Go.Proofs.YtbjhmknahldhaaaDoor.XRef01
open Go Go.RowKit Go.Proofs.YtbjhmknahldhaaaDoor.Q Go.Proofs.YtbjhmknahldhaaaDoorW.PrintWords Go.Proofs.YtbjhmknahldhaaaDoorW.PrintLast Go.Proofs.YtbjhmknahldhaaaDoorW.PrintMore Go.Proofs.YtbjhmknahldhaaaDoor.XEv
set_option linter.unusedVariables false
set_option linter.unusedSimpArgs false
theorem units_l0 (s : ByteArray) (hsz : s.size ≤ 140737488351232) : ∀ (b pos : Nat) (acc : Int), s.size ≤ pos + b → pos ≤ s.size → 0 ≤ acc → acc ≤ 2 * (pos : Int) →
    Ev (fun k => glossatorref01_Units.l0 k s pos acc) (XUtf.units s b pos acc) := by
  intro b
  induction b with
  | zero =>
    intro pos acc hb hp h0 h1
    refine up ?_
    have c : ¬ (pos : Int) < (s.size : Int) := by omega
    simp only [glossatorref01_Units.l0, if_neg c]
    exact now fun _ => rfl
  | succ b ih =>
    intro pos acc hb hp h0 h1
    refine up ?_
    by_cases c : pos < s.size
    · have c' : (pos : Int) < (s.size : Int) := by omega
      simp only [glossatorref01_Units.l0, if_pos c']
      refine bind (step s pos c hsz) ?_
      have hw := XUtf.width_range s pos
      have hf := XUtf.width_fit s pos c
      have hu := XUtf.uni_range s pos
      have hl := XUtf.uni_le s pos
      have e1 : wrap64 ((pos : Int) + (XUtf.width s pos : Int)) = ((pos + XUtf.width s pos : Nat) : Int) := by rw [w64 (by omega) (by omega)]; omega
      have e2 : wrap64 (acc + XUtf.uni s pos) = acc + XUtf.uni s pos := w64 (by omega) (by omega)
      simp only [e1, e2]
      rw [XUtf.units, if_pos c]
      exact ih _ _ (by omega) (by omega) (by omega) (by omega)
    · have c' : ¬ (pos : Int) < (s.size : Int) := by omega
      simp only [glossatorref01_Units.l0, if_neg c']
      rw [XUtf.units, if_neg c]
      exact now fun _ => rfl
theorem units (s : ByteArray) (hsz : s.size ≤ 140737488351232) : Ev (fun k => glossatorref01_Units.f k s) (XUtf.units s s.size 0 0) := by
  simp only [glossatorref01_Units.f]
  exact units_l0 s hsz s.size 0 0 (by omega) (by omega) (by omega) (by omega)
end Go.Proofs.YtbjhmknahldhaaaDoor.XRef01

end
section
namespace Go.Proofs.YtbjhmknahldhaaaDoor.XUtfT
open Go Go.RowKit Go.Proofs.YtbjhmknahldhaaaDoor.Q Go.Proofs.YtbjhmknahldhaaaDoorW.PrintWords Go.Proofs.YtbjhmknahldhaaaDoorW.PrintLast Go.Proofs.YtbjhmknahldhaaaDoorW.PrintMore Go.Proofs.YtbjhmknahldhaaaDoor.XEv Go.Proofs.YtbjhmknahldhaaaDoor.XRef01
set_option linter.unusedVariables false
set_option linter.unusedSimpArgs false
theorem begin_l0 (s : ByteArray) (hs : s.size ≤ 140737488351232) (a : Nat) (ha : a < s.size) : ∀ (b p : Nat), a < p + b → p ≤ a → Ev (fun k => glossatorref01_Begin.l0 k s a p) (begF s a b p : Int) := by
  intro b
  induction b with
  | zero => intro p h1 h2; omega
  | succ b ih =>
    intro p h1 h2
    refine up ?_
    simp only [glossatorref01_Begin.l0]
    refine bind (XRef01.step s p (by omega) hs) ?_
    have hw := XUtf.width_range s p
    have hf := XUtf.width_fit s p (by omega)
    have e1 : wrap64 ((p : Int) + (XUtf.width s p : Int)) = ((p + XUtf.width s p : Nat) : Int) := by rw [w64 (by omega) (by omega)]; omega
    simp only [e1]
    rw [begF]
    by_cases h : a < p + XUtf.width s p
    · have c : ((p + XUtf.width s p : Nat) : Int) > (a : Int) := by omega
      simp only [if_pos c, if_pos h]
      exact now fun _ => rfl
    · have c : ¬ ((p + XUtf.width s p : Nat) : Int) > (a : Int) := by omega
      simp only [if_neg c, if_neg h]
      exact ih _ (by omega) (by omega)
theorem ref_begin (s : ByteArray) (hs : s.size ≤ 140737488351232) (a : Nat) (ha : a < s.size) : Ev (fun k => glossatorref01_Begin.f k s a) (begF s a (a + 1) 0 : Int) := by
  have c0 : ¬ (a : Int) < 0 := by omega
  have c1 : ¬ (a : Int) ≥ (s.size : Int) := by omega
  simp only [glossatorref01_Begin.f, if_neg c0, if_neg c1]
  exact begin_l0 s hs a ha (a + 1) 0 (by omega) (by omega)
theorem ref_beg (s : ByteArray) (hs : s.size ≤ 140737488351232) (a : Int) : Ev (fun k => glossatorref01_Begin.f k s a) (beg s a : Int) := by
  unfold beg
  by_cases h0 : a < 0
  · rw [if_pos h0]; simp only [glossatorref01_Begin.f, if_pos h0]; exact now fun _ => rfl
  · by_cases h1 : (s.size : Int) ≤ a
    · have h1' : a ≥ (s.size : Int) := h1
      rw [if_neg h0, if_pos h1]; simp only [glossatorref01_Begin.f, if_neg h0, if_pos h1']; exact now fun _ => rfl
    · obtain ⟨n, rfl⟩ : ∃ n : Nat, a = n := ⟨a.toNat, by omega⟩
      rw [if_neg h0, if_neg h1]
      exact ref_begin s hs n (by omega)
end Go.Proofs.YtbjhmknahldhaaaDoor.XUtfT

end
section
namespace Go.Proofs.YtbjhmknahldhaaaDoor.XFiveR
open Go Go.RowKit Go.Proofs.YtbjhmknahldhaaaDoor.Q Go.Proofs.YtbjhmknahldhaaaDoorW.PrintWords Go.Proofs.YtbjhmknahldhaaaDoorW.PrintLast Go.Proofs.YtbjhmknahldhaaaDoorW.PrintMore Go.Proofs.YtbjhmknahldhaaaDoor.XEv Go.Proofs.YtbjhmknahldhaaaDoor.XUtfT Go.Proofs.YtbjhmknahldhaaaDoor.XWchars Go.Proofs.YtbjhmknahldhaaaDoor.XLines Go.Proofs.YtbjhmknahldhaaaDoor.XYlines Go.Proofs.YtbjhmknahldhaaaDoor.XFive
set_option linter.unusedVariables false
set_option linter.unusedSimpArgs false
theorem rd_at {l : List Mk} {i : Nat} {m : Mk} (h : l[i]? = some m) : rd_T38 l (i : Int) = m := by
  unfold rd_T38
  rw [List.getD_eq_getElem?_getD, show ((i : Int)).toNat = i from rfl, h]; rfl
theorem rightE (s : ByteArray) (hs : s.size ≤ 1000000) (l : List Mk) (hl : l.length ≤ 1000000) : ∀ (d i : Nat) (a : Int), l.length = i + d → Ev (fun k => glossatorref23_Right.l0 k s l a (i : Int)) (rgt s a (l.drop i)) := by
  intro d
  induction d with
  | zero =>
    intro i a hd
    have c : ¬ (i : Int) < (l.length : Int) := by omega
    rw [List.drop_eq_nil_of_le (by omega)]
    refine up ?_
    simp only [glossatorref23_Right.l0, if_neg c]
    exact now fun _ => rfl
  | succ d ih =>
    intro i a hd
    have hi : i < l.length := by omega
    have c1 : (i : Int) < (l.length : Int) := by omega
    have c2 : (0 : Int) ≤ (i : Int) := by omega
    obtain ⟨m, hm⟩ : ∃ m, l[i]? = some m := ⟨_, List.getElem?_eq_getElem hi⟩
    rw [List.drop_eq_getElem_cons hi, show l[i] = m from Option.some.inj ((List.getElem?_eq_getElem hi).symm.trans hm)]
    have ho : ∀ r, r = false → Ev (fun k => glossatorref23_Right.j1 k s l (i : Int) m.f0.f0 m.f0.f1 true) r := by
      intro r hr
      subst hr
      refine up ?_
      simp only [glossatorref23_Right.j1, if_true]
      exact now fun _ => rfl
    refine up ?_
    simp only [glossatorref23_Right.l0, if_pos c1, if_pos c2, rd_at hm]
    simp only [rgt]
    by_cases q1 : m.f0.f0 < a
    · simp only [if_pos q1]; exact ho _ rfl
    simp only [if_neg q1]
    by_cases q2 : m.f0.f1 < m.f0.f0
    · simp only [if_pos q2]; exact ho _ rfl
    simp only [if_neg q2]
    by_cases q3 : m.f0.f1 > (s.size : Int)
    · simp only [if_pos q3, if_pos (show (s.size : Int) < m.f0.f1 from q3)]; exact ho _ rfl
    simp only [if_neg q3, if_neg (show ¬ (s.size : Int) < m.f0.f1 from q3)]
    by_cases q4 : m.f1 < 0
    · simp only [if_pos q4]; exact ho _ rfl
    simp only [if_neg q4]
    by_cases q5 : m.f2 < 0
    · simp only [if_pos q5, decide_eq_true q5]; exact ho _ rfl
    simp only [if_neg q5, decide_eq_false q5]
    refine up ?_
    simp only [glossatorref23_Right.j1, Bool.false_eq_true, if_false]
    refine bind (ref_beg s (by omega) _) ?_
    by_cases q6 : (beg s m.f0.f0 : Int) = m.f0.f0
    · simp only [if_pos q6]
      refine bind (ref_beg s (by omega) _) ?_
      by_cases q7 : (beg s m.f0.f1 : Int) = m.f0.f1
      · simp only [if_pos q7, w1 i (by omega)]; exact ih (i + 1) _ (by omega)
      · simp only [if_neg q7]; exact now fun _ => rfl
    · simp only [if_neg q6]; exact now fun _ => rfl
theorem right (s : ByteArray) (hs : s.size ≤ 1000000) (l : List Mk) (hl : l.length ≤ 1000000) : Ev (fun k => glossatorref23_Right.f k s l) (rgt s 0 l) := by
  have := rightE s hs l hl l.length 0 0 (by omega)
  rw [List.drop_zero] at this
  exact this
theorem begs_len (s : ByteArray) : (begs (lns s)).length = (lns s).length := by unfold begs; rw [List.length_map]
theorem ext_size (s : ByteArray) (a b : Nat) : (s.extract a b).size ≤ s.size := by rw [ByteArray.size_extract]; omega
end Go.Proofs.YtbjhmknahldhaaaDoor.XFiveR

end
section
namespace Go.Proofs.YtbjhmknahldhaaaDoor.XFive
open Go Go.RowKit Go.Proofs.YtbjhmknahldhaaaDoor.Q Go.Proofs.YtbjhmknahldhaaaDoorW.PrintWords Go.Proofs.YtbjhmknahldhaaaDoorW.PrintLast Go.Proofs.YtbjhmknahldhaaaDoorW.PrintMore Go.Proofs.YtbjhmknahldhaaaDoor.XEv Go.Proofs.YtbjhmknahldhaaaDoor.XUtfT Go.Proofs.YtbjhmknahldhaaaDoor.XWchars Go.Proofs.YtbjhmknahldhaaaDoor.XLines Go.Proofs.YtbjhmknahldhaaaDoor.XYlines
set_option linter.unusedVariables false
set_option linter.unusedSimpArgs false
theorem line_off (s : ByteArray) (hs : s.size ≤ 1000000000) (n : Nat) (h : (lns s).length ≤ n) : Ev (fun k => glossatorref02_Line.f k s (n : Int)) (0, 0, false) := by
  have hl := XFiveR.begs_len s
  have h0 : ¬ (n : Int) < 0 := by omega
  have h1 : (n : Int) ≥ ((begs (lns s)).length : Int) := by omega
  simp only [glossatorref02_Line.f]
  refine bind (XRef02.starts s hs) ?_
  simp only [if_neg h0]
  refine up ?_
  simp only [glossatorref02_Line.j0, h1, decide_true, if_true]
  exact now fun _ => rfl
theorem wz2 (i : Nat) (h : i < 9223372036854775800) : wrap64 ((i : Int) + 2) = ((i + 2 : Nat) : Int) := by unfold wrap64; omega
theorem wz3 (i : Nat) (h : i < 9223372036854775800) : wrap64 ((i : Int) + 3) = ((i + 3 : Nat) : Int) := by unfold wrap64; omega
theorem wz4 (i : Nat) (h : i < 9223372036854775800) : wrap64 ((i : Int) + 4) = ((i + 4 : Nat) : Int) := by unfold wrap64; omega
theorem wz5 (i : Nat) (h : i < 9223372036854775800) : wrap64 ((i : Int) + 5) = ((i + 5 : Nat) : Int) := by unfold wrap64; omega
theorem drop5 {D r : List Int} {i : Nat} {f : Fv} (h : D.drop i = fiveOf f ++ r) : rd D (i : Int) = f.f0 ∧ rd D ((i + 1 : Nat) : Int) = f.f1 ∧ rd D ((i + 2 : Nat) : Int) = f.f2 ∧ rd D ((i + 3 : Nat) : Int) = f.f3 ∧ rd D ((i + 4 : Nat) : Int) = f.f4 ∧ D.drop (i + 5) = r ∧ i + 5 ≤ D.length := by
  have hg : ∀ k, D[i + k]? = (fiveOf f ++ r)[k]? := fun k => by rw [← h, List.getElem?_drop]
  refine ⟨rd_of (hg 0), rd_of (hg 1), rd_of (hg 2), rd_of (hg 3), rd_of (hg 4), ?_, ?_⟩
  · rw [← List.drop_drop, h]; rfl
  · have := congrArg List.length h
    rw [List.length_drop, List.length_append] at this
    have h5 : (fiveOf f).length = 5 := rfl
    omega
def dres (s : ByteArray) (acc : List Mk) : Option (List Mk) → List Mk × Int
  | none => ([], 230)
  | some l => if rgt s 0 (acc ++ l) = true then (acc ++ l, 0) else ([], 230)
theorem dres_map (s : ByteArray) (acc : List Mk) (m : Mk) (o : Option (List Mk)) : dres s acc (o.map (m :: ·)) = dres s (acc ++ [m]) o := by
  cases o with
  | none => rfl
  | some l => simp [dres, List.append_assoc]
section
variable (s : ByteArray) (hs : s.size ≤ 100000) (D : List Int) (hD : D.length ≤ 1000000)
include hs hD
theorem l1g {acc : List Mk} {x7 x8 : Int} {i : Nat} {r : List Mk × Int} (k : Nat) (hk : k < 5) (h0 : 0 ≤ rd D ((i + k : Nat) : Int)) (h1 : k < 3 → rd D ((i + k : Nat) : Int) ≤ (s.size : Int) + 1) (hik : i + k < D.length)
    (h : Ev (fun n => glossatorref23_Decode.l1 n s D acc x7 x8 (i : Int) ((k + 1 : Nat) : Int)) r) : Ev (fun n => glossatorref23_Decode.l1 n s D acc x7 x8 (i : Int) (k : Int)) r := by
  have c0 : (k : Int) < 5 := by omega
  have c1 : (0 : Int) ≤ ((i + k : Nat) : Int) := by omega
  have c2 : ((i + k : Nat) : Int) < (D.length : Int) := by omega
  have c3 : ¬ rd D ((i + k : Nat) : Int) < 0 := by omega
  have w9 : wrap64 ((s.size : Int) + 1) = (s.size : Int) + 1 := w64 (by omega) (by omega)
  refine up ?_
  simp only [glossatorref23_Decode.l1, if_pos c0, wadd i k (by omega), if_pos c1, if_pos c2, if_neg c3, w1 k (show k < 9223372036854775807 by omega), w9]
  by_cases c4 : (k : Int) < 3
  · have c5 : ¬ rd D ((i + k : Nat) : Int) > (s.size : Int) + 1 := by have := h1 (by omega); clear w9; omega
    simp only [if_pos c4, if_neg c5]; exact h
  · simp only [if_neg c4]; exact h
theorem l1b {acc : List Mk} {x7 x8 : Int} {i : Nat} (k : Nat) (hk : k < 5) (hb : rd D ((i + k : Nat) : Int) < 0 ∨ (k < 3 ∧ (s.size : Int) + 1 < rd D ((i + k : Nat) : Int))) (hik : i + k < D.length) :
    Ev (fun n => glossatorref23_Decode.l1 n s D acc x7 x8 (i : Int) (k : Int)) ([], 230) := by
  have c0 : (k : Int) < 5 := by omega
  have c1 : (0 : Int) ≤ ((i + k : Nat) : Int) := by omega
  have c2 : ((i + k : Nat) : Int) < (D.length : Int) := by omega
  have w9 : wrap64 ((s.size : Int) + 1) = (s.size : Int) + 1 := w64 (by omega) (by omega)
  refine up ?_
  simp only [glossatorref23_Decode.l1, if_pos c0, wadd i k (by omega), if_pos c1, if_pos c2, w9]
  by_cases c3 : rd D ((i + k : Nat) : Int) < 0
  · simp only [if_pos c3]; exact now fun _ => rfl
  · have c4 : (k : Int) < 3 := by clear w9; omega
    have c5 : rd D ((i + k : Nat) : Int) > (s.size : Int) + 1 := by clear w9; omega
    simp only [if_neg c3, if_pos c4, if_pos c5]; exact now fun _ => rfl
theorem rj3 {acc : List Mk} {i n : Nat} {c : Int} {x : Ln s} {f : Fv} {r : List Int} {R : List Mk × Int} (hd : D.drop i = fiveOf f ++ r) (h2 : 0 ≤ f.f2) (h2' : f.f2 ≤ (s.size : Int) + 1) (hc0 : 0 ≤ c) (hc1 : c ≤ 1000000) (hacc : acc.length < 4000000)
    (hno : ¬ (f.f2 ≠ 0 ∧ U ((s.extract x.1.2.1 x.1.2.2).extract 0 (C (s.extract x.1.2.1 x.1.2.2) c)) = c ∧ U ((s.extract x.1.2.1 x.1.2.2).extract 0 (C (s.extract x.1.2.1 x.1.2.2) (c + f.f2))) = c + f.f2) → R = ([], 230))
    (h : f.f2 ≠ 0 → U ((s.extract x.1.2.1 x.1.2.2).extract 0 (C (s.extract x.1.2.1 x.1.2.2) c)) = c → U ((s.extract x.1.2.1 x.1.2.2).extract 0 (C (s.extract x.1.2.1 x.1.2.2) (c + f.f2))) = c + f.f2 →
      Ev (fun k => glossatorref23_Decode.l0 k s D (acc ++ [rmk x.1.2.1 (s.extract x.1.2.1 x.1.2.2) c f]) (n : Int) c ((i + 5 : Nat) : Int)) R) :
    Ev (fun k => glossatorref23_Decode.j3 k s D acc (n : Int) c (i : Int) (f.f2 == 0) (x.1.2.1 : Int) (x.1.2.2 : Int)) R := by
  obtain ⟨g0, g1, g2, g3, g4, g5, g6⟩ := drop5 hd
  have hx := x.2
  obtain ⟨T, hT⟩ : ∃ T, s.extract x.1.2.1 x.1.2.2 = T := ⟨_, rfl⟩
  have hz := size_ext s x.1.2.1 x.1.2.2 hx.2.2
  rw [hT] at h hno hz
  have hl0 := bnd_le (C_bnd T c)
  have hl1 := bnd_le (C_bnd T (c + f.f2))
  refine up ?_
  by_cases q : f.f2 = 0
  · obtain rfl := hno (fun h => h.1 q)
    have q' : (f.f2 == 0) = true := by rw [q]; rfl
    simp only [glossatorref23_Decode.j3, q', if_true]
    exact now fun _ => rfl
  have q' : (f.f2 == 0) = false := beq_eq_false_iff_ne.2 q
  have d0 : (0 : Int) ≤ (x.1.2.1 : Int) := by omega
  have d1 : (x.1.2.1 : Int) ≤ (x.1.2.2 : Int) := by omega
  have d2 : (x.1.2.2 : Int) ≤ (s.size : Int) := by omega
  have d3 : (0 : Int) ≤ ((i + 2 : Nat) : Int) := by omega
  have d4 : ((i + 2 : Nat) : Int) < (D.length : Int) := by omega
  have d5 : (0 : Int) ≤ (C T c : Int) := by omega
  have d6 : (C T c : Int) ≤ (T.size : Int) := by omega
  have d7 : (0 : Int) ≤ (C T (c + f.f2) : Int) := by omega
  have d8 : (C T (c + f.f2) : Int) ≤ (T.size : Int) := by omega
  have i9 : i < 9223372036854775800 := by omega
  have w8 : wrap64 (c + f.f2) = c + f.f2 := w64 (by omega) (by omega)
  have tT : s.extract ((x.1.2.1 : Int)).toNat ((x.1.2.2 : Int)).toNat = T := hT
  have cut : ∀ u, Ev (fun k => glossatorref01_Cut.f k T u) ((C T u : Nat) : Int) := fun u => XRef01.cut T (by clear w8; omega) u
  have uni : ∀ v : Nat, Ev (fun k => glossatorref01_Units.f k (T.extract 0 ((v : Int)).toNat)) (U (T.extract 0 v)) := fun v => XRef01.units _ (by have := XFiveR.ext_size T 0 v; clear w8; simp only [Int.toNat_natCast]; omega)
  simp only [glossatorref23_Decode.j3, q', Bool.false_eq_true, if_false, if_pos d0, if_pos d1, if_pos d2, tT, wz2 i i9]
  refine bind (cut c) ?_
  simp only [if_pos d3, if_pos d4, g2, w8]
  refine bind (cut (c + f.f2)) ?_
  simp only [if_pos d5, if_pos d6]
  refine bind (uni (C T c)) ?_
  by_cases u0 : U (T.extract 0 (C T c)) = c
  case neg =>
    obtain rfl := hno (fun h => u0 h.2.1)
    simp only [if_neg u0]; exact now fun _ => rfl
  simp only [if_pos u0, if_pos d7, if_pos d8]
  refine bind (uni (C T (c + f.f2))) ?_
  by_cases u1 : U (T.extract 0 (C T (c + f.f2))) = c + f.f2
  case neg =>
    obtain rfl := hno (fun h => u1 h.2.2)
    simp only [if_neg u1]; exact now fun _ => rfl
  clear w8
  have e3 : (0 : Int) ≤ ((i + 3 : Nat) : Int) := by omega
  have e4 : ((i + 3 : Nat) : Int) < (D.length : Int) := by omega
  have e5 : (0 : Int) ≤ ((i + 4 : Nat) : Int) := by omega
  have e6 : ((i + 4 : Nat) : Int) < (D.length : Int) := by omega
  have e7 : acc.length < 4398046511104 := by omega
  have wa : wrap64 ((x.1.2.1 : Int) + (C T c : Int)) = (x.1.2.1 : Int) + (C T c : Int) := w64 (by omega) (by omega)
  have wb : wrap64 ((x.1.2.1 : Int) + (C T (c + f.f2) : Int)) = (x.1.2.1 : Int) + (C T (c + f.f2) : Int) := w64 (by clear wa; omega) (by clear wa; omega)
  simp only [if_pos u1, wz3 i i9, wz4 i i9, wz5 i i9, if_pos e3, if_pos e4, if_pos e5, if_pos e6, if_pos e7, g3, g4, wa, wb]
  exact h q u0 u1
theorem rl0 : ∀ (fs : List Fv) (i n : Nat) (c : Int) (acc : List Mk), D.drop i = fs.flatMap fiveOf → 0 ≤ c → c ≤ (s.size : Int) → n ≤ s.size + 1 → acc.length + fs.length ≤ 1000000 →
    Ev (fun k => glossatorref23_Decode.l0 k s D acc (n : Int) c (i : Int)) (dres s acc (rdec s n c fs))
  | [], i, n, c, acc, hd, _, _, _, hacc => by
    have hl := congrArg List.length hd
    rw [List.length_drop] at hl
    have c1 : ¬ (i : Int) < (D.length : Int) := by simp only [List.flatMap_nil, List.length_nil] at hl; omega
    refine up ?_
    simp only [glossatorref23_Decode.l0, if_neg c1, rdec, dres, List.append_nil]
    refine bind (XFiveR.right s (by omega) acc (by simp only [List.length_nil] at hacc; omega)) ?_
    by_cases h : rgt s 0 acc = true
    · simp only [if_pos h]; exact now fun _ => rfl
    · simp only [if_neg h]; exact now fun _ => rfl
  | f :: r, i, n, c, acc, hd, hc0, hc1, hn, hacc => by
    rw [List.flatMap_cons] at hd
    obtain ⟨g0, g1, g2, g3, g4, g5, g6⟩ := drop5 hd
    rw [List.length_cons] at hacc
    have c1 : (i : Int) < (D.length : Int) := by omega
    have c2 : (0 : Int) ≤ (i : Int) := by omega
    have i9 : i < 9223372036854775800 := by omega
    refine up ?_
    simp only [glossatorref23_Decode.l0, if_pos c1]
    have bad : rbad s f → dres s acc (rdec s n c (f :: r)) = ([], 230) := fun hb => by rw [rdec, if_pos hb]; rfl
    have hg : ∀ k : Nat, D[i + k]? = (fiveOf f ++ r.flatMap fiveOf)[k]? := fun k => by rw [← hd, List.getElem?_drop]
    by_cases q0 : f.f0 < 0 ∨ (s.size : Int) + 1 < f.f0
    · rw [bad (by unfold rbad; omega)]; exact l1b s hs D hD 0 (by omega) (by rw [Nat.add_zero, g0]; omega) (by omega)
    refine l1g s hs D hD 0 (by omega) (by rw [Nat.add_zero, g0]; omega) (fun _ => by rw [Nat.add_zero, g0]; omega) (by omega) ?_
    by_cases q1 : f.f1 < 0 ∨ (s.size : Int) + 1 < f.f1
    · rw [bad (by unfold rbad; omega)]; exact l1b s hs D hD 1 (by omega) (by rw [g1]; omega) (by omega)
    refine l1g s hs D hD 1 (by omega) (by rw [g1]; omega) (fun _ => by rw [g1]; omega) (by omega) ?_
    by_cases q2 : f.f2 < 0 ∨ (s.size : Int) + 1 < f.f2
    · rw [bad (by unfold rbad; omega)]; exact l1b s hs D hD 2 (by omega) (by rw [g2]; omega) (by omega)
    refine l1g s hs D hD 2 (by omega) (by rw [g2]; omega) (fun _ => by rw [g2]; omega) (by omega) ?_
    by_cases q3 : f.f3 < 0
    · rw [bad (by unfold rbad; omega)]; exact l1b s hs D hD 3 (by omega) (by rw [g3]; omega) (by omega)
    refine l1g s hs D hD 3 (by omega) (by rw [g3]; omega) (fun h => absurd h (by omega)) (by omega) ?_
    by_cases q4 : f.f4 < 0
    · rw [bad (by unfold rbad; omega)]; exact l1b s hs D hD 4 (by omega) (by rw [g4]; omega) (by omega)
    refine l1g s hs D hD 4 (by omega) (by rw [g4]; omega) (fun h => absurd h (by omega)) (by omega) ?_
    have nb : ¬ rbad s f := by unfold rbad; omega
    have r0 : 0 ≤ rch c f ∧ rch c f ≤ 1000000 := by unfold rch; split <;> omega
    obtain ⟨N, hN⟩ : ∃ N, n + f.f0.toNat = N := ⟨_, rfl⟩
    have hNb : N ≤ 1000000 := by omega
    have hll := lns_len s
    have hbl := XFiveR.begs_len s
    have hj2 : ∀ y : Int, y + f.f1 = rch c f → Ev (fun k => glossatorref23_Decode.j2 k s D acc (N : Int) y (i : Int)) (dres s acc (rdec s n c (f :: r))) := by
      intro y hy
      have k1 : (0 : Int) ≤ ((i + 1 : Nat) : Int) := by omega
      have k2 : ((i + 1 : Nat) : Int) < (D.length : Int) := by omega
      have k3 : (0 : Int) ≤ ((i + 2 : Nat) : Int) := by omega
      have k4 : ((i + 2 : Nat) : Int) < (D.length : Int) := by omega
      have i8 : i < 9223372036854775807 := by omega
      have wy : wrap64 (y + f.f1) = rch c f := by rw [hy]; exact w64 (by omega) (by omega)
      refine up ?_
      simp only [glossatorref23_Decode.j2, w1 i i8, wz2 i i9, if_pos k1, if_pos k2, g1, g2]
      cases hx : (lns s)[N]? with
      | none =>
        have hle := List.getElem?_eq_none_iff.1 hx
        refine bind (line_off s (by clear wy; omega) N hle) ?_
        simp only [Bool.false_eq_true, if_false]
        rw [rdec, if_neg nb, hN, hx]
        refine up ?_
        simp only [glossatorref23_Decode.j3, if_true]
        exact now fun _ => rfl
      | some x =>
        have hli := XRef02.line_at s (by clear wy; omega) N x hx
        rw [← (lns_at s N x hx).2] at hli
        have hNl := (List.getElem?_eq_some_iff.1 hx).1
        refine bind hli ?_
        simp only [if_true, if_pos k3, if_pos k4, wy]
        rw [rdec, if_neg nb, hN, hx]
        simp only
        clear wy
        refine rj3 s hs D hD hd (by omega) (by omega) r0.1 r0.2 (by omega) (fun hno => ?_) (fun u2 u0 u1 => ?_)
        · by_cases u2 : f.f2 = 0
          · rw [if_pos u2]; rfl
          rw [if_neg u2]
          by_cases u0 : U ((s.extract x.1.2.1 x.1.2.2).extract 0 (C (s.extract x.1.2.1 x.1.2.2) (rch c f))) = rch c f
          · rw [if_pos u0, if_neg (fun u1 => hno ⟨u2, u0, u1⟩)]; rfl
          · rw [if_neg u0]; rfl
        · rw [if_neg u2, if_pos u0, if_pos u1, dres_map]
          have hU := U_range ((s.extract x.1.2.1 x.1.2.2).extract 0 (C (s.extract x.1.2.1 x.1.2.2) (rch c f)))
          have z1 := XFiveR.ext_size (s.extract x.1.2.1 x.1.2.2) 0 (C (s.extract x.1.2.1 x.1.2.2) (rch c f))
          have z2 := XFiveR.ext_size s x.1.2.1 x.1.2.2
          exact rl0 r (i + 5) N (rch c f) _ g5 r0.1 (by omega) (by omega) (by rw [List.length_append]; simp only [List.length_cons, List.length_nil]; omega)
    refine up ?_
    have d5 : ¬ ((4 + 1 : Nat) : Int) < 5 := by omega
    simp only [glossatorref23_Decode.l1, if_neg d5, if_pos c1, if_pos c2, g0]
    by_cases p0 : f.f0 > 0
    · have wn : wrap64 ((n : Int) + f.f0) = (N : Int) := by rw [show (n : Int) + f.f0 = (N : Int) by omega]; exact w64 (by omega) (by omega)
      simp only [if_pos p0, wn]
      exact hj2 0 (by unfold rch; rw [if_pos p0])
    · have hnN : (n : Int) = (N : Int) := by omega
      simp only [if_neg p0]
      rw [hnN]
      exact hj2 c (by unfold rch; rw [if_neg p0])
end
/-- What Decode of the reference answers. -/
theorem ref_some (s : ByteArray) (hs : s.size ≤ 10000) (D : List Int) (hD : D.length ≤ 100000) (l : List Mk) (h : Dc s D l) : Ev (fun k => glossatorref23_Decode.f k s D) (l, 0) := by
  have hl := h.len
  obtain ⟨fs, h1, h2⟩ := five_of D (by omega)
  have c2 : (D.length : Int) % 5 = 0 := by omega
  simp only [glossatorref23_Decode.f, if_pos c2]
  have hr : rdec s 0 0 fs = some l := dc_rdec (h1 ▸ h)
  have := rl0 s (by omega) D (by omega) fs 0 0 0 [] (by rw [List.drop_zero]; exact h1.symm) (by omega) (by omega) (by omega) (by simp only [List.length_nil]; omega)
  rw [hr] at this
  simp only [dres, List.nil_append, if_pos (rgt_of_row h.row.row)] at this
  exact this
theorem ref_none (s : ByteArray) (hs : s.size ≤ 10000) (D : List Int) (hD : D.length ≤ 100000) (h : ¬ ∃ l, Dc s D l) : Ev (fun k => glossatorref23_Decode.f k s D) ([], 230) := by
  by_cases c2 : (D.length : Int) % 5 = 0
  case neg => simp only [glossatorref23_Decode.f, if_neg c2]; exact now fun _ => rfl
  simp only [glossatorref23_Decode.f, if_pos c2]
  obtain ⟨fs, h1, h2⟩ := five_of D (by omega)
  have := rl0 s (by omega) D (by omega) fs 0 0 0 [] (by rw [List.drop_zero]; exact h1.symm) (by omega) (by omega) (by omega) (by simp only [List.length_nil]; omega)
  cases hr : rdec s 0 0 fs with
  | none => rw [hr] at this; exact this
  | some l =>
    rw [hr] at this
    by_cases hg : rgt s 0 l = true
    · exact absurd ⟨l, h1 ▸ rdec_dc hr hg⟩ h
    · simp only [dres, List.nil_append, if_neg hg] at this
      exact this
end Go.Proofs.YtbjhmknahldhaaaDoor.XFive

end
section
namespace Go.Proofs.YtbjhmknahldhaaaDoor.Pure
open Go Go.RowKit Go.Proofs.YtbjhmknahldhaaaDoor.Q Go.Proofs.YtbjhmknahldhaaaDoorW.PrintWords Go.Proofs.YtbjhmknahldhaaaDoorW.PrintLast Go.Proofs.YtbjhmknahldhaaaDoorW.PrintMore Go.Proofs.YtbjhmknahldhaaaDoor.XEv Go.Proofs.YtbjhmknahldhaaaDoor.XFive
set_option linter.unusedVariables false
set_option linter.unusedSimpArgs false
theorem FiveDecodes : glossatorlaw23_FiveDecodes.Pure := by
  intro s D hsz hl
  refine Ev.rounds (g := fun k => glossatorlaw23_FiveDecodes.f k s D) ?_
  simp only [glossatorlaw23_FiveDecodes.f]
  by_cases h : (s.size : Int) > 3000
  · simp only [if_pos h]
    refine up ?_
    simp only [glossatorlaw23_FiveDecodes.j0, if_true]
    exact now fun _ => rfl
  simp only [if_neg h]
  by_cases h2 : (D.length : Int) > 3000
  · simp only [decide_eq_true h2]
    refine up ?_
    simp only [glossatorlaw23_FiveDecodes.j0, if_true]
    exact now fun _ => rfl
  simp only [decide_eq_false h2]
  refine up ?_
  have c : 0 + D.length < 17592186044416 := by omega
  simp only [glossatorlaw23_FiveDecodes.j0, Bool.false_eq_true, if_false, Option.bind_some, List.length_nil, if_pos c, List.nil_append]
  have hans : ∀ l : List Mk, ∀ e : Int, l.length ≤ 1000000 → Ev (fun k => five_Decode.f k s D) (l, e) → Ev (fun k => glossatorref23_Decode.f k s D) (l, e) →
      Ev (fun k => (five_Decode.f k s D).bind fun bt327 => (glossatorref23_Decode.f k s D).bind fun bt331 => (glossatorref22_Same.f k bt327.1 bt331.1).bind fun t335 => if t335 = true then (if bt327.2 = bt331.2 then (glossatorref23_Same.f k D D).bind fun t336 => some t336 else some false) else some false) true := by
    intro l e hl h1 h2
    refine bind h1 (bind h2 ?_)
    refine bind (same22 l (by omega)) ?_
    simp only [if_true]
    exact bind (same23 D (by omega)) (now fun _ => rfl)
  by_cases hex : ∃ l, Dc s D l
  · obtain ⟨l, hd⟩ := hex
    have := hd.len
    exact hans l 0 (by omega) (decode_some s (by omega) D (by omega) l hd) (ref_some s (by omega) D (by omega) l hd)
  · exact hans [] 230 (by simp) (decode_none s (by omega) D (by omega) hex) (ref_none s (by omega) D (by omega) hex)
end Go.Proofs.YtbjhmknahldhaaaDoor.Pure

end
