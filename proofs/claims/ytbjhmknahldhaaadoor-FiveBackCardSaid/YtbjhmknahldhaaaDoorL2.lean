/- Words and walks of this claim, put together by this repo's wip/xlink.py out of Q3, Q4, Q5. -/
import Derived.Test.YtbjhmknahldhaaaDoorL1
section
namespace Go.Proofs.YtbjhmknahldhaaaDoor.Q
open Go.RowKit Go.Proofs.YtbjhmknahldhaaaDoorW.PrintWords Go.Proofs.YtbjhmknahldhaaaDoorW.PrintLast Go.Proofs.YtbjhmknahldhaaaDoorW.PrintMore
attribute [local go_sem] max2_int min2_int max_two min_two max_three min_three max_four min_four   
set_option linter.unusedVariables false
set_option linter.unusedSimpArgs false
/-- Are marks right for a string, from a place on? -/
def rightF (k : Nat) (s : ByteArray) : Int → List S38 → Option Bool
 | _, [] => some true
 | a, m :: r => if m.f0.f0 < a then some false else if m.f0.f1 < m.f0.f0 then some false else if (s.size : Int) < m.f0.f1 then some false else if m.f1 < 0 then some false else if m.f2 < 0 then some false else
   (utf_Begin.f k s m.f0.f0).bind fun x => if x = m.f0.f0 then (utf_Begin.f k s m.f0.f1).bind fun y => if y = m.f0.f1 then rightF k s m.f0.f1 r else some false else some false
theorem rightF_mono (k : Nat) (s : ByteArray) : ∀ (l : List S38) (a : Int), LeO (rightF k s a l) (rightF (k + 1) s a l)
 | [], _ => LeO.refl _
 | m :: r, a => by
  unfold rightF
  repeat' first
   | exact rightF_mono k s r _
   | exact LeO.refl _
   | refine LeO.ite ?_ ?_
   | refine LeO.bind (utf_Begin.mono _ _ _) (fun _ => ?_)
def five_right.f (k : Nat) (a0 : ByteArray) (l1 : List S38) : Option Bool := if l1.length ≤ 4398046511104 then rightF k a0 0 l1 else none
theorem five_right.mono : ∀ a0 l1 k, LeO (five_right.f k a0 l1) (five_right.f (k + 1) a0 l1) := fun a0 l1 k => LeO.ite (rightF_mono k a0 l1 0) (LeO.refl _)
theorem rightF_drop {k : Nat} {s : ByteArray} {a : Int} {l : List S38} {i : Nat} {r : Bool} (hi : i < l.length) (h : rightF k s a (l.drop i) = some r) :
  rightF k s a (rd_T38 l (i : Int) :: l.drop (i + 1)) = some r := by
 rw [← h, List.drop_eq_getElem_cons hi]
 unfold rd_T38
 rw [List.getD_eq_getElem?_getD, show ((i : Int)).toNat = i from rfl, List.getElem?_eq_getElem hi]
 rfl
def rightTs : Bool × List (List Nat × List Nat) := (true, [([], []), ([0], [0]), ([1], [1]), ([], []), ([2, 3], [2, 3]), ([4], [4]), ([5], [5]), ([6, 5], [5, 6]), ([7, 5], [5, 7]), ([5], [5]), ([9, 5], [5, 9]), ([10, 5], [5, 10]), ([8, 11, 5], [5, 8, 11]), ([5, 12], [5, 12]), ([13, 5], [13]), ([14], [14]), ([15, 14], [14, 15]), ([16, 14], [14, 16]), ([14], [14]), ([18, 14], [14, 18]), ([17, 19, 14], [14, 17, 19]), ([14, 20], [14, 20]), ([21, 14], [21]), ([22], [22]), ([23, 22], [22, 23]), ([24, 22], [22, 24]), ([22, 25], [22, 25]), ([26, 22], [26]), ([27], [27]), ([28, 27], [27, 28]), ([29, 27], [27, 29]), ([27, 30], [27, 30]), ([31, 27], [31]), ([32], [32]), ([32], [32]), ([34, 32], [32, 34]), ([35, 32], [32, 35]), ([33, 36, 32, 32], [32, 33, 36]), ([32], [32]), ([38, 32], [32, 38]), ([39, 32], [32, 39]), ([37, 40, 32], [32, 37, 40]), ([32, 41], [32, 41]), ([42, 37], [42]), ([43], [43]), ([43], [43]), ([45, 43], [43, 45]), ([46, 43], [43, 46]), ([44, 47, 43, 43], [43, 44, 47]), ([43], [43]), ([49, 43], [43, 49]), ([50, 43], [43, 50]), ([48, 51, 43], [43, 48, 51]), ([43, 52], [43, 52])])
def rightBs : List Nat := [0, 1, 3, 0, 15, 31, 63, 127, 255, 63, 575, 1599, 4095, 8191, 16383, 32767, 65535, 131071, 32767, 294911, 1048575, 2097151, 4194303, 8388607, 16777215, 33554431, 67108863, 134217727, 268435455, 536870911, 1073741823, 2147483647, 4294967295, 8589934591, 8589934591, 25769803775, 60129542143, 137438953471, 8589934591, 283467841535, 833223655423, 2199023255551, 4398046511103, 8796093022207, 17592186044415, 17592186044415, 52776558133247, 123145302310911, 281474976710655, 17592186044415, 580542139465727, 1706442046308351, 4503599627370495, 9007199254740991]
theorem rightT : rtab .any (opsOf Tryd.f24 5) = rightTs := by kernel_rfl
theorem rightB : waitsOk rightTs.2 rightBs = true := by kernel_rfl
set_option maxHeartbeats 4000000 in
set_option maxRecDepth 100000 in
theorem five_right.calls (k : Nat) (a0 : ByteArray) (A1 : Option Addr) (c1 : Nat) (l1 : List S38) (r : Bool) (w : World) (hr1 : Kd.C k38 w A1 l1.length l1) (hc1 : l1.length ≤ c1) (hG : GlobOk w) (h : five_right.f k a0 l1 = some r) :
  Calls Tryd.prog 24 #[.string a0, .slice A1 l1.length c1] w fun e w' => e = .returned (.bool r) ∧ Below w.heap.size w w' := by
 unfold five_right.f at h
 by_cases hlen : l1.length ≤ 4398046511104
 case neg => rw [if_neg hlen] at h; cases h
 rw [if_pos hlen] at h
 have HR := Aside0.mk hr1; have HG := Aside0.mk hG; have H0 : Aside0 (rightF k a0 0 (l1.drop 0) = some r) := ⟨by rw [List.drop_zero]; exact h⟩
 clear h hG hr1 hc1; go_enter Tryd.func24, Tryd.ntmps24
 go_wp2
 go_loopw [5, 10] (fun v5 v10 w' => ∃ (a : Int) (i : Nat), v5 = .int .i64 a ∧ v10 = .int .i64 i ∧ i ≤ l1.length ∧ Aside0 (rightF k a0 a (l1.drop i) = some r) ∧ Aside0 (Below w.heap.size w w')) (fun _ v10 _ => l1.length - (intOf v10).toNat)
 case atStart => exact ⟨0, 0, rfl, rfl, Nat.zero_le _, H0, ⟨Below.refl _ _⟩⟩
 case round =>
  clear H0; obtain ⟨a, i, rfl, rfl, hi, HA, HB⟩ := hrel
  by_cases hlt : i < l1.length
  ·have h2 := rightF_drop hlt HA.out
   obtain ⟨ad, e, hx0, hx1, hx2, hx3⟩ := at_T38 HR.out (i : Int) (by omega) (by omega)
   cases e
   replace hx0 := (HB.out.cell (World.block_lt_of_cell? w _ hx0)).trans hx0; replace hx1 := (HB.out.cell (World.block_lt_of_cell? w _ hx1)).trans hx1; replace hx2 := (HB.out.cell (World.block_lt_of_cell? w _ hx2)).trans hx2; replace hx3 := (HB.out.cell (World.block_lt_of_cell? w _ hx3)).trans hx3; obtain ⟨m, hm⟩ : ∃ m, rd_T38 l1 (i : Int) = m := ⟨_, rfl⟩
   rw [hm] at h2 hx0 hx1 hx2 hx3
   clear hm; simp only [Int.toNat_natCast] at hx0 hx1 hx2 hx3
   unfold rightF at h2
   have HC := Aside0.mk HR.out; clear HR; have HD : Aside0 (Below w.heap.size w (wr.alloc (.cells #[.int .i64 m.f0.f0, .int .i64 m.f0.f1, .int .i64 m.f1, .int .i64 m.f2] 38))) := ⟨HB.out.alloc HB.out.size _⟩
   clear HA; by_cases q1 : m.f0.f0 < a
   ·rw [if_pos q1] at h2
    obtain rfl := Option.some.inj h2
    have b1 : decide (m.f0.f0 < a) = true := decide_eq_true q1
    clear h2 q1; go_wp2
    go_quiet (fail)
    go_wp2
    go_ret
    exact ⟨rfl, pw_below_drewN HD.out _⟩
   rw [if_neg q1] at h2
   have b1 : decide (m.f0.f0 < a) = false := decide_eq_false q1
   clear q1; by_cases q2 : m.f0.f1 < m.f0.f0
   ·rw [if_pos q2] at h2
    obtain rfl := Option.some.inj h2
    have b2 : decide (m.f0.f1 < m.f0.f0) = true := decide_eq_true q2
    clear h2 q2; go_wp2
    go_quiet (fail)
    go_wp2
    go_ret
    exact ⟨rfl, pw_below_drewN HD.out _⟩
   rw [if_neg q2] at h2
   have b2 : decide (m.f0.f1 < m.f0.f0) = false := decide_eq_false q2
   clear q2; by_cases q3 : (a0.size : Int) < m.f0.f1
   ·rw [if_pos q3] at h2
    obtain rfl := Option.some.inj h2
    have b3 : decide ((a0.size : Int) < m.f0.f1) = true := decide_eq_true q3
    clear h2 q3; go_wp2
    go_quiet (fail)
    go_wp2
    go_ret
    exact ⟨rfl, pw_below_drewN HD.out _⟩
   rw [if_neg q3] at h2
   have b3 : decide ((a0.size : Int) < m.f0.f1) = false := decide_eq_false q3
   clear q3; by_cases q4 : m.f1 < 0
   ·rw [if_pos q4] at h2
    obtain rfl := Option.some.inj h2
    have b4 : decide (m.f1 < 0) = true := decide_eq_true q4
    clear h2 q4; go_wp2
    go_quiet (fail)
    go_wp2
    go_ret
    exact ⟨rfl, pw_below_drewN HD.out _⟩
   rw [if_neg q4] at h2
   have b4 : decide (m.f1 < 0) = false := decide_eq_false q4
   clear q4; by_cases q5 : m.f2 < 0
   ·rw [if_pos q5] at h2
    obtain rfl := Option.some.inj h2
    have b5 : decide (m.f2 < 0) = true := decide_eq_true q5
    clear h2 q5; go_wp2
    go_quiet (fail)
    go_wp2
    go_ret
    exact ⟨rfl, pw_below_drewN HD.out _⟩
   rw [if_neg q5] at h2
   have b5 : decide (m.f2 < 0) = false := decide_eq_false q5
   clear q5; obtain ⟨x, hx, h2⟩ := Option.bind_eq_some_iff.1 h2
   by_cases q6 : x = m.f0.f0
   ·rw [if_pos q6] at h2
    obtain ⟨y, hy, h2⟩ := Option.bind_eq_some_iff.1 h2
    have b6 : (x != m.f0.f0) = false := by rw [q6]; exact bne_self_eq_false _
    have HX := Aside0.mk hx; have HY := Aside0.mk hy; clear q6 hx hy; by_cases q7 : y = m.f0.f1
    ·rw [if_pos q7] at h2
     have b7 : (y != m.f0.f1) = false := by rw [q7]; exact bne_self_eq_false _
     have H2 := Aside0.mk h2; clear h2 q7; go_wp2
     go_region_held3 (fun w' => w'.cell? ⟨wr.heap.size, 0, none⟩ = some (.int .i64 m.f0.f0) ∧ w'.cell? ⟨wr.heap.size, 1, none⟩ = some (.int .i64 m.f0.f1) ∧ w'.cell? ⟨wr.heap.size, 2, none⟩ = some (.int .i64 m.f1) ∧ w'.cell? ⟨wr.heap.size, 3, none⟩ = some (.int .i64 m.f2)) (go_keep)
      (first
       | (go_at_call_of 37 (Value.int IntKind.i64 m.f0.f0); refine (utf_Begin.calls k a0 m.f0.f0 x _ (by exact GlobOk.below HG.out (by repeat (first | (with_reducible first | exact HD.out | apply below_alloc | apply pw_below_drewN | apply below_drew1) | exact HD.out))) HX.out).mono ?_; rintro e w2 ⟨rfl, hb2⟩; have ew20 : w2.cell? ⟨wr.heap.size, 0, none⟩ = some (.int .i64 m.f0.f0) := (hb2.cell (p := ⟨wr.heap.size, 0, none⟩) (by first | (simp; done) | (have := hb2.size; simp at this ⊢; omega))).trans (by first | assumption | (simp; done) | (simp [*]; done)); have ew21 : w2.cell? ⟨wr.heap.size, 1, none⟩ = some (.int .i64 m.f0.f1) := (hb2.cell (p := ⟨wr.heap.size, 1, none⟩) (by first | (simp; done) | (have := hb2.size; simp at this ⊢; omega))).trans (by first | assumption | (simp; done) | (simp [*]; done)); have ew22 : w2.cell? ⟨wr.heap.size, 2, none⟩ = some (.int .i64 m.f1) := (hb2.cell (p := ⟨wr.heap.size, 2, none⟩) (by first | (simp; done) | (have := hb2.size; simp at this ⊢; omega))).trans (by first | assumption | (simp; done) | (simp [*]; done)); have ew23 : w2.cell? ⟨wr.heap.size, 3, none⟩ = some (.int .i64 m.f2) := (hb2.cell (p := ⟨wr.heap.size, 3, none⟩) (by first | (simp; done) | (have := hb2.size; simp at this ⊢; omega))).trans (by first | assumption | (simp; done) | (simp [*]; done)))
       | (go_at_call_of 37 (Value.int IntKind.i64 m.f0.f1); refine (utf_Begin.calls k a0 m.f0.f1 y _ (by exact GlobOk.below HG.out (by repeat (first | (with_reducible first | refine below_step ?_ hb2 | exact HD.out | apply below_alloc | apply pw_below_drewN | apply below_drew1) | exact HD.out))) HY.out).mono ?_; rintro e w3 ⟨rfl, hb3⟩; have ew30 : w3.cell? ⟨wr.heap.size, 0, none⟩ = some (.int .i64 m.f0.f0) := (hb3.cell (p := ⟨wr.heap.size, 0, none⟩) (by first | (simp; done) | (have := hb2.size; simp at this ⊢; omega))).trans (by first | assumption | (simp; done) | (simp [*]; done)); have ew31 : w3.cell? ⟨wr.heap.size, 1, none⟩ = some (.int .i64 m.f0.f1) := (hb3.cell (p := ⟨wr.heap.size, 1, none⟩) (by first | (simp; done) | (have := hb2.size; simp at this ⊢; omega))).trans (by first | assumption | (simp; done) | (simp [*]; done)); have ew32 : w3.cell? ⟨wr.heap.size, 2, none⟩ = some (.int .i64 m.f1) := (hb3.cell (p := ⟨wr.heap.size, 2, none⟩) (by first | (simp; done) | (have := hb2.size; simp at this ⊢; omega))).trans (by first | assumption | (simp; done) | (simp [*]; done)); have ew33 : w3.cell? ⟨wr.heap.size, 3, none⟩ = some (.int .i64 m.f2) := (hb3.cell (p := ⟨wr.heap.size, 3, none⟩) (by first | (simp; done) | (have := hb2.size; simp at this ⊢; omega))).trans (by first | assumption | (simp; done) | (simp [*]; done))))
     go_wp2
     go_roundw
     case rel => exact ⟨m.f0.f1, i + 1, rfl, by go_num, by omega, H2, ⟨by repeat (first | (with_reducible first | exact HD.out | apply pw_below_drewN | apply below_drew1 | refine below_step ?_ hb3 | refine below_step ?_ hb2) | exact HD.out)⟩⟩
     case measure => simp [intOf]; omega
    ·rw [if_neg q7] at h2
     obtain rfl := Option.some.inj h2
     have b7 : (y != m.f0.f1) = true := bne_iff_ne.2 q7
     clear h2 q7; go_wp2
     go_region_held3 (fun w' => w'.cell? ⟨wr.heap.size, 0, none⟩ = some (.int .i64 m.f0.f0) ∧ w'.cell? ⟨wr.heap.size, 1, none⟩ = some (.int .i64 m.f0.f1) ∧ w'.cell? ⟨wr.heap.size, 2, none⟩ = some (.int .i64 m.f1) ∧ w'.cell? ⟨wr.heap.size, 3, none⟩ = some (.int .i64 m.f2)) (go_keep)
      (first
       | (go_at_call_of 37 (Value.int IntKind.i64 m.f0.f0); refine (utf_Begin.calls k a0 m.f0.f0 x _ (by exact GlobOk.below HG.out (by repeat (first | (with_reducible first | exact HD.out | apply below_alloc | apply pw_below_drewN | apply below_drew1) | exact HD.out))) HX.out).mono ?_; rintro e w2 ⟨rfl, hb2⟩; have ew20 : w2.cell? ⟨wr.heap.size, 0, none⟩ = some (.int .i64 m.f0.f0) := (hb2.cell (p := ⟨wr.heap.size, 0, none⟩) (by first | (simp; done) | (have := hb2.size; simp at this ⊢; omega))).trans (by first | assumption | (simp; done) | (simp [*]; done)); have ew21 : w2.cell? ⟨wr.heap.size, 1, none⟩ = some (.int .i64 m.f0.f1) := (hb2.cell (p := ⟨wr.heap.size, 1, none⟩) (by first | (simp; done) | (have := hb2.size; simp at this ⊢; omega))).trans (by first | assumption | (simp; done) | (simp [*]; done)); have ew22 : w2.cell? ⟨wr.heap.size, 2, none⟩ = some (.int .i64 m.f1) := (hb2.cell (p := ⟨wr.heap.size, 2, none⟩) (by first | (simp; done) | (have := hb2.size; simp at this ⊢; omega))).trans (by first | assumption | (simp; done) | (simp [*]; done)); have ew23 : w2.cell? ⟨wr.heap.size, 3, none⟩ = some (.int .i64 m.f2) := (hb2.cell (p := ⟨wr.heap.size, 3, none⟩) (by first | (simp; done) | (have := hb2.size; simp at this ⊢; omega))).trans (by first | assumption | (simp; done) | (simp [*]; done)))
       | (go_at_call_of 37 (Value.int IntKind.i64 m.f0.f1); refine (utf_Begin.calls k a0 m.f0.f1 y _ (by exact GlobOk.below HG.out (by repeat (first | (with_reducible first | refine below_step ?_ hb2 | exact HD.out | apply below_alloc | apply pw_below_drewN | apply below_drew1) | exact HD.out))) HY.out).mono ?_; rintro e w3 ⟨rfl, hb3⟩; have ew30 : w3.cell? ⟨wr.heap.size, 0, none⟩ = some (.int .i64 m.f0.f0) := (hb3.cell (p := ⟨wr.heap.size, 0, none⟩) (by first | (simp; done) | (have := hb2.size; simp at this ⊢; omega))).trans (by first | assumption | (simp; done) | (simp [*]; done)); have ew31 : w3.cell? ⟨wr.heap.size, 1, none⟩ = some (.int .i64 m.f0.f1) := (hb3.cell (p := ⟨wr.heap.size, 1, none⟩) (by first | (simp; done) | (have := hb2.size; simp at this ⊢; omega))).trans (by first | assumption | (simp; done) | (simp [*]; done)); have ew32 : w3.cell? ⟨wr.heap.size, 2, none⟩ = some (.int .i64 m.f1) := (hb3.cell (p := ⟨wr.heap.size, 2, none⟩) (by first | (simp; done) | (have := hb2.size; simp at this ⊢; omega))).trans (by first | assumption | (simp; done) | (simp [*]; done)); have ew33 : w3.cell? ⟨wr.heap.size, 3, none⟩ = some (.int .i64 m.f2) := (hb3.cell (p := ⟨wr.heap.size, 3, none⟩) (by first | (simp; done) | (have := hb2.size; simp at this ⊢; omega))).trans (by first | assumption | (simp; done) | (simp [*]; done))))
     go_wp2
     go_ret
     exact ⟨rfl, by repeat (first | (with_reducible first | exact HD.out | apply pw_below_drewN | apply below_drew1 | refine below_step ?_ hb3 | refine below_step ?_ hb2) | exact HD.out)⟩
   ·rw [if_neg q6] at h2
    obtain rfl := Option.some.inj h2
    have b6 : (x != m.f0.f0) = true := bne_iff_ne.2 q6
    have HX := Aside0.mk hx; clear h2 q6 hx; go_wp2
    have HE := Aside0.mk (below_drew1 HD.out)
    refine start_ (n := 54) (S := (fun w' => w'.cell? ⟨wr.heap.size, 0, none⟩ = some (.int .i64 m.f0.f0) ∧ w'.cell? ⟨wr.heap.size, 1, none⟩ = some (.int .i64 m.f0.f1) ∧ w'.cell? ⟨wr.heap.size, 2, none⟩ = some (.int .i64 m.f1) ∧ w'.cell? ⟨wr.heap.size, 3, none⟩ = some (.int .i64 m.f2))) (ds := []) (bz 54 0) (by kernel_rfl) rfl rfl ⟨by go_keep, by go_keep, by go_keep, by go_keep⟩ (fun hHeld => ?_); refine with_tabW rightT rightB (fun HT_ HW_ => ?_)
    generalize (wr.alloc (.cells #[.int .i64 m.f0.f0, .int .i64 m.f0.f1, .int .i64 m.f1, .int .i64 m.f2] 38)).drew = wd at HE hHeld ⊢
    refine pu 0 (some 14) (bz 54 1) HT_ rfl rfl ?_; refine pu 1 (some 15) (bz 54 3) HT_ rfl rfl ?_; refine pu 3 (some 17) (bz 54 11) HT_ rfl rfl ?_; refine tk 2 (some 16) (bz 54 15) HT_ HW_ rfl rfl hHeld ?_; refine pu 4 (some 18) (bz 54 31) HT_ rfl rfl ?_; refine pu 5 (some 19) (bz 54 63) HT_ rfl rfl ?_; refine pu 6 (some 20) (bz 54 127) HT_ rfl rfl ?_; refine pu 7 (some 21) (bz 54 255) HT_ rfl rfl ?_; refine pu 9 (some 23) (bz 54 767) HT_ rfl rfl ?_; refine pu 10 (some 24) (bz 54 1791) HT_ rfl rfl ?_; refine tk 8 (some 22) (bz 54 2047) HT_ HW_ rfl rfl hHeld ?_; refine tk 11 (some 25) (bz 54 4095) HT_ HW_ rfl rfl hHeld ?_; refine pu 12 (some 26) (bz 54 8191) HT_ rfl rfl ?_; refine pu 13 (some 27) (bz 54 16383) HT_ rfl rfl ?_; refine pu 14 (some 28) (bz 54 32767) HT_ rfl rfl ?_; refine pu 15 (some 29) (bz 54 65535) HT_ rfl rfl ?_; refine pu 16 (some 30) (bz 54 131071) HT_ rfl rfl ?_; refine pu 18 (some 32) (bz 54 393215) HT_ rfl rfl ?_; refine pu 19 (some 33) (bz 54 917503) HT_ rfl rfl ?_; refine tk 17 (some 31) (bz 54 1048575) HT_ HW_ rfl rfl hHeld ?_; refine pu 20 (some 34) (bz 54 2097151) HT_ rfl rfl ?_; refine pu 21 (some 35) (bz 54 4194303) HT_ rfl rfl ?_; refine pu 22 (some 36) (bz 54 8388607) HT_ rfl rfl ?_; refine pu 23 (some 37) (bz 54 16777215) HT_ rfl rfl ?_; refine tk 24 (some 38) (bz 54 33554431) HT_ HW_ rfl rfl hHeld ?_; refine pu 25 (some 39) (bz 54 67108863) HT_ rfl rfl ?_; refine pu 26 (some 40) (bz 54 134217727) HT_ rfl rfl ?_; refine pu 27 (some 41) (bz 54 268435455) HT_ rfl rfl ?_; refine pu 28 (some 42) (bz 54 536870911) HT_ rfl rfl ?_; refine tk 29 (some 43) (bz 54 1073741823) HT_ HW_ rfl rfl hHeld ?_; refine pu 30 (some 44) (bz 54 2147483647) HT_ rfl rfl ?_; refine pu 31 (some 45) (bz 54 4294967295) HT_ rfl rfl ?_; refine pu 32 (some 46) (bz 54 8589934591) HT_ rfl rfl ?_; refine pu 33 (some 47) (bz 54 17179869183) HT_ rfl rfl ?_; refine pu 34 (some 48) (bz 54 34359738367) HT_ rfl rfl ?_; refine pu 35 (some 49) (bz 54 68719476735) HT_ rfl rfl ?_; refine pu 38 (some 52) (bz 54 343597383679) HT_ rfl rfl ?_; refine pu 39 (some 53) (bz 54 893353197567) HT_ rfl rfl ?_; refine tk 36 (some 50) (bz 54 962072674303) HT_ HW_ rfl rfl hHeld ?_; refine tk 40 (some 54) (bz 54 2061584302079) HT_ HW_ rfl rfl hHeld ?_; refine one_ (i := 37) (N := some 51) (bz 54 2199023255551) rfl rfl (one_of HT_.out (by kernel_rfl)) (by decide) (fun K hK => ?_)
    refine goes_ Tryd.func37 (by kernel_rfl) rfl #[.string a0, .int .i64 (m.f0.f0)] (by rfl) rfl rfl (by (try simp only [List.map_toArray, List.map_cons, List.map_nil]); first | done | rfl | (simp only [List.length_drop, List.length_take]; rfl)) ?_
    with_reducible refine (utf_Begin.calls k a0 m.f0.f0 x _ (by exact GlobOk.below HG.out HE.out) HX.out).mono ?_
    rintro e w2 ⟨rfl, hb2⟩
    refine ⟨_, rfl, ?_⟩
    have hz : wr.heap.size < wd.heap.size := World.block_lt_of_cell? wd _ hHeld.1
    refine hK.out _ _ ⟨(hb2.cell (p := ⟨wr.heap.size, 0, none⟩) hz).trans hHeld.1, (hb2.cell (p := ⟨wr.heap.size, 1, none⟩) hz).trans hHeld.2.1, (hb2.cell (p := ⟨wr.heap.size, 2, none⟩) hz).trans hHeld.2.2.1, (hb2.cell (p := ⟨wr.heap.size, 3, none⟩) hz).trans hHeld.2.2.2⟩ (fun hHeld => ?_)
    clear hK K; refine norm_ (a' := ?_) ?_ ?_
    rotate_left
    ·show Act.put _ (some 51) _ = _
     simp only [Act.put, List.setIfInBounds_toArray, List.set_cons_zero, List.set_cons_succ, i64_w, i32_w]
     rfl
    refine pu 41 (some 55) (bz 54 4398046511103) HT_ rfl rfl ?_; refine pu 42 (some 56) (bz 54 8796093022207) HT_ rfl rfl ?_; refine pu 43 (some 57) (bz 54 17592186044415) HT_ rfl rfl ?_; refine pf 44 (some 58) (bz 54 35184372088831) HT_ rfl rfl ?_; refine pf 45 (some 59) (bz 54 70368744177663) HT_ rfl rfl ?_; refine pf 46 (some 60) (bz 54 140737488355327) HT_ rfl rfl ?_; refine pf 47 (some 61) (bz 54 281474976710655) HT_ rfl rfl ?_; refine pf 48 (some 62) (bz 54 562949953421311) HT_ rfl rfl ?_; refine pf 49 (some 63) (bz 54 1125899906842623) HT_ rfl rfl ?_; refine pf 50 (some 64) (bz 54 2251799813685247) HT_ rfl rfl ?_; refine pf 51 (some 65) (bz 54 4503599627370495) HT_ rfl rfl ?_; refine pf 52 (some 66) (bz 54 9007199254740991) HT_ rfl rfl ?_; refine pu 53 (some 67) (bz 54 18014398509481983) HT_ rfl rfl ?_; refine done_ (done_of HT_.out (by kernel_rfl)) ?_
    go_wp2
    go_ret
    exact ⟨rfl, below_step HE.out hb2⟩
  ·have hii : i = l1.length := by omega
   subst hii; have h2 := HA.out
   rw [List.drop_length] at h2
   obtain rfl : true = r := by simpa [rightF] using h2
   clear HA h2; go_wp2
   go_ret
   exact ⟨rfl, HB.out⟩
end Go.Proofs.YtbjhmknahldhaaaDoor.Q

end
section
namespace Go.Proofs.YtbjhmknahldhaaaDoor.Q
open Go.RowKit Go.Proofs.YtbjhmknahldhaaaDoorW.PrintWords Go.Proofs.YtbjhmknahldhaaaDoorW.PrintLast Go.Proofs.YtbjhmknahldhaaaDoorW.PrintMore
attribute [local go_sem] max2_int min2_int max_two min_two max_three min_three max_four min_four   
set_option linter.unusedVariables false
set_option linter.unusedSimpArgs false
mutual
def five_Pieces.l0 : Nat → ByteArray → List (S38) → List Int → Int → List (S38) → Int → Int → Option ((List (S38)) × Int)
 | 0, _, _, _, _, _, _, _ => none
 | k + 1, x0, x6, x7, x8, x20, x21, x22 => if x22 < x21 then (if 0 ≤ x22 then (if x22 < (x20.length : Int) then (five_Pieces.l1 k x0 x6 x7 x8 x20 x21 x22 ((rd_T38 x20 x22).f0.f0) ((rd_T38 x20 x22).f0.f1) ((rd_T38 x20 x22).f1) ((rd_T38 x20 x22).f2)) else (none)) else (none)) else (some (x6, 0))
def five_Pieces.l1 : Nat → ByteArray → List (S38) → List Int → Int → List (S38) → Int → Int → Int → Int → Int → Int → Option ((List (S38)) × Int)
 | 0, _, _, _, _, _, _, _, _, _, _, _ => none
 | k + 1, x0, x6, x7, x8, x20, x21, x22, x125000, x125001, x125002, x125003 => if 0 ≤ (wrap64 (x8 + 1)) then (if (wrap64 (x8 + 1)) < (x7.length : Int) then (if (rd x7 (wrap64 (x8 + 1))) ≤ x125000 then (five_Pieces.l1 k x0 x6 x7 (wrap64 (x8 + 1)) x20 x21 x22 x125000 x125001 x125002 x125003) else (five_Pieces.l2 k x0 x6 x7 x8 x8 x20 x21 x22 x125000 x125001 x125002 x125003)) else (none)) else (none)
def five_Pieces.l2 : Nat → ByteArray → List (S38) → List Int → Int → Int → List (S38) → Int → Int → Int → Int → Int → Int → Option ((List (S38)) × Int)
 | 0, _, _, _, _, _, _, _, _, _, _, _, _ => none
 | k + 1, x0, x6, x7, x8, x11, x20, x21, x22, x125000, x125001, x125002, x125003 => if (wrap64 (x11 + 1)) < (x7.length : Int) then (if 0 ≤ x11 then (if x11 < (x7.length : Int) then (five_Pieces.j3 k x0 x6 x7 x8 x11 x20 x21 x22 (decide ((rd x7 x11) < x125001)) x125000 x125001 x125002 x125003) else (none)) else (none)) else (five_Pieces.j3 k x0 x6 x7 x8 x11 x20 x21 x22 false x125000 x125001 x125002 x125003)
def five_Pieces.j3 : Nat → ByteArray → List (S38) → List Int → Int → Int → List (S38) → Int → Int → Bool → Int → Int → Int → Int → Option ((List (S38)) × Int)
 | 0, _, _, _, _, _, _, _, _, _, _, _, _, _ => none
 | k + 1, x0, x6, x7, x8, x11, x20, x21, x22, x52, x125000, x125001, x125002, x125003 => if x52 = true then (if 0 ≤ (wrap64 (x11 + 1)) then (if (wrap64 (x11 + 1)) < (x7.length : Int) then (five_Pieces.l3 k x0 x6 x7 x8 x11 (mn (rd x7 (wrap64 (x11 + 1))) (x0.size : Int)) x20 x21 x22 x125000 x125001 x125002 x125003) else (none)) else (none)) else (five_Pieces.l0 k x0 x6 x7 x8 x20 x21 (wrap64 (x22 + 1)))
def five_Pieces.l3 : Nat → ByteArray → List (S38) → List Int → Int → Int → Int → List (S38) → Int → Int → Int → Int → Int → Int → Option ((List (S38)) × Int)
 | 0, _, _, _, _, _, _, _, _, _, _, _, _, _ => none
 | k + 1, x0, x6, x7, x8, x11, x12, x20, x21, x22, x125000, x125001, x125002, x125003 => if 0 ≤ x11 then (if x11 < (x7.length : Int) then (if x12 > (rd x7 x11) then (if 0 ≤ (wrap64 (x12 - 1)) then (if (wrap64 (x12 - 1)) < (x0.size : Int) then (if (bt x0 (wrap64 (x12 - 1))) = 10 then (five_Pieces.l3 k x0 x6 x7 x8 x11 (wrap64 (x12 - 1)) x20 x21 x22 x125000 x125001 x125002 x125003) else (if (bt x0 (wrap64 (x12 - 1))) = 13 then (five_Pieces.l3 k x0 x6 x7 x8 x11 (wrap64 (x12 - 1)) x20 x21 x22 x125000 x125001 x125002 x125003) else (if (mx x125000 (rd x7 x11)) < (mn x125001 x12) then (if x6.length < 4398046511104 then (five_Pieces.l2 k x0 (x6 ++ [(⟨(⟨mx x125000 (rd x7 x11), mn x125001 x12⟩ : S36), x125002, x125003⟩ : S38)]) x7 x8 (wrap64 (x11 + 1)) x20 x21 x22 x125000 x125001 x125002 x125003) else (none)) else (five_Pieces.l2 k x0 x6 x7 x8 (wrap64 (x11 + 1)) x20 x21 x22 x125000 x125001 x125002 x125003)))) else (none)) else (none)) else (if (mx x125000 (rd x7 x11)) < (mn x125001 x12) then (if x6.length < 4398046511104 then (five_Pieces.l2 k x0 (x6 ++ [(⟨(⟨mx x125000 (rd x7 x11), mn x125001 x12⟩ : S36), x125002, x125003⟩ : S38)]) x7 x8 (wrap64 (x11 + 1)) x20 x21 x22 x125000 x125001 x125002 x125003) else (none)) else (five_Pieces.l2 k x0 x6 x7 x8 (wrap64 (x11 + 1)) x20 x21 x22 x125000 x125001 x125002 x125003))) else (none)) else (none)
end
def five_Pieces.f (k : Nat) (a0 : ByteArray) (l1 : List (S38)) : Option ((List (S38)) × Int) := (five_right.f k a0 l1).bind fun t119 => (if t119 = true then ((five_ends.f a0).bind fun t120 => (five_Pieces.l0 k a0 ([] : List (S38)) t120 0 l1 (l1.length : Int) 0)) else (some (([] : List (S38)), 230)))
theorem five_Pieces.mono_l : ∀ k, (∀ y0 y1 y2 y3 y4 y5 y6, LeO (five_Pieces.l0 k y0 y1 y2 y3 y4 y5 y6) (five_Pieces.l0 (k + 1) y0 y1 y2 y3 y4 y5 y6)) ∧ (∀ y0 y1 y2 y3 y4 y5 y6 y7 y8 y9 y10, LeO (five_Pieces.l1 k y0 y1 y2 y3 y4 y5 y6 y7 y8 y9 y10) (five_Pieces.l1 (k + 1) y0 y1 y2 y3 y4 y5 y6 y7 y8 y9 y10)) ∧ (∀ y0 y1 y2 y3 y4 y5 y6 y7 y8 y9 y10 y11, LeO (five_Pieces.l2 k y0 y1 y2 y3 y4 y5 y6 y7 y8 y9 y10 y11) (five_Pieces.l2 (k + 1) y0 y1 y2 y3 y4 y5 y6 y7 y8 y9 y10 y11)) ∧ (∀ y0 y1 y2 y3 y4 y5 y6 y7 y8 y9 y10 y11 y12, LeO (five_Pieces.j3 k y0 y1 y2 y3 y4 y5 y6 y7 y8 y9 y10 y11 y12) (five_Pieces.j3 (k + 1) y0 y1 y2 y3 y4 y5 y6 y7 y8 y9 y10 y11 y12)) ∧ (∀ y0 y1 y2 y3 y4 y5 y6 y7 y8 y9 y10 y11 y12, LeO (five_Pieces.l3 k y0 y1 y2 y3 y4 y5 y6 y7 y8 y9 y10 y11 y12) (five_Pieces.l3 (k + 1) y0 y1 y2 y3 y4 y5 y6 y7 y8 y9 y10 y11 y12))
 | 0 => ⟨fun _ _ _ _ _ _ _ r h => by simp [five_Pieces.l0] at h, fun _ _ _ _ _ _ _ _ _ _ _ r h => by simp [five_Pieces.l1] at h, fun _ _ _ _ _ _ _ _ _ _ _ _ r h => by simp [five_Pieces.l2] at h, fun _ _ _ _ _ _ _ _ _ _ _ _ _ r h => by simp [five_Pieces.j3] at h, fun _ _ _ _ _ _ _ _ _ _ _ _ _ r h => by simp [five_Pieces.l3] at h⟩
 | k + 1 => by
  obtain ⟨ih0, ih1, ih2, ih3, ih4⟩ := five_Pieces.mono_l k
  refine ⟨?_, ?_, ?_, ?_, ?_⟩
  ·intro y0 y1 y2 y3 y4 y5 y6
   unfold five_Pieces.l0
   repeat' first
   | (with_reducible exact ih0 _ _ _ _ _ _ _)
   | (with_reducible exact ih1 _ _ _ _ _ _ _ _ _ _ _)
   | (with_reducible exact ih2 _ _ _ _ _ _ _ _ _ _ _ _)
   | (with_reducible exact ih3 _ _ _ _ _ _ _ _ _ _ _ _ _)
   | (with_reducible exact ih4 _ _ _ _ _ _ _ _ _ _ _ _ _)
   | (with_reducible exact five_right.mono _ _ _)
   | (with_reducible exact LeO.refl _)
   | (with_reducible exact LeO.none _)
   | (with_reducible refine LeO.ite ?_ ?_)
   | (with_reducible refine LeO.bind ?_ (fun _ => ?_))
   | exact ih0 _ _ _ _ _ _ _
   | exact ih1 _ _ _ _ _ _ _ _ _ _ _
   | exact ih2 _ _ _ _ _ _ _ _ _ _ _ _
   | exact ih3 _ _ _ _ _ _ _ _ _ _ _ _ _
   | exact ih4 _ _ _ _ _ _ _ _ _ _ _ _ _
   | exact five_right.mono _ _ _
   | exact LeO.none _
   | refine LeO.ite ?_ ?_
   | refine LeO.bind ?_ (fun _ => ?_)
  ·intro y0 y1 y2 y3 y4 y5 y6 y7 y8 y9 y10
   unfold five_Pieces.l1
   repeat' first
   | (with_reducible exact ih0 _ _ _ _ _ _ _)
   | (with_reducible exact ih1 _ _ _ _ _ _ _ _ _ _ _)
   | (with_reducible exact ih2 _ _ _ _ _ _ _ _ _ _ _ _)
   | (with_reducible exact ih3 _ _ _ _ _ _ _ _ _ _ _ _ _)
   | (with_reducible exact ih4 _ _ _ _ _ _ _ _ _ _ _ _ _)
   | (with_reducible exact five_right.mono _ _ _)
   | (with_reducible exact LeO.refl _)
   | (with_reducible exact LeO.none _)
   | (with_reducible refine LeO.ite ?_ ?_)
   | (with_reducible refine LeO.bind ?_ (fun _ => ?_))
   | exact ih0 _ _ _ _ _ _ _
   | exact ih1 _ _ _ _ _ _ _ _ _ _ _
   | exact ih2 _ _ _ _ _ _ _ _ _ _ _ _
   | exact ih3 _ _ _ _ _ _ _ _ _ _ _ _ _
   | exact ih4 _ _ _ _ _ _ _ _ _ _ _ _ _
   | exact five_right.mono _ _ _
   | exact LeO.none _
   | refine LeO.ite ?_ ?_
   | refine LeO.bind ?_ (fun _ => ?_)
  ·intro y0 y1 y2 y3 y4 y5 y6 y7 y8 y9 y10 y11
   unfold five_Pieces.l2
   repeat' first
   | (with_reducible exact ih0 _ _ _ _ _ _ _)
   | (with_reducible exact ih1 _ _ _ _ _ _ _ _ _ _ _)
   | (with_reducible exact ih2 _ _ _ _ _ _ _ _ _ _ _ _)
   | (with_reducible exact ih3 _ _ _ _ _ _ _ _ _ _ _ _ _)
   | (with_reducible exact ih4 _ _ _ _ _ _ _ _ _ _ _ _ _)
   | (with_reducible exact five_right.mono _ _ _)
   | (with_reducible exact LeO.refl _)
   | (with_reducible exact LeO.none _)
   | (with_reducible refine LeO.ite ?_ ?_)
   | (with_reducible refine LeO.bind ?_ (fun _ => ?_))
   | exact ih0 _ _ _ _ _ _ _
   | exact ih1 _ _ _ _ _ _ _ _ _ _ _
   | exact ih2 _ _ _ _ _ _ _ _ _ _ _ _
   | exact ih3 _ _ _ _ _ _ _ _ _ _ _ _ _
   | exact ih4 _ _ _ _ _ _ _ _ _ _ _ _ _
   | exact five_right.mono _ _ _
   | exact LeO.none _
   | refine LeO.ite ?_ ?_
   | refine LeO.bind ?_ (fun _ => ?_)
  ·intro y0 y1 y2 y3 y4 y5 y6 y7 y8 y9 y10 y11 y12
   unfold five_Pieces.j3
   repeat' first
   | (with_reducible exact ih0 _ _ _ _ _ _ _)
   | (with_reducible exact ih1 _ _ _ _ _ _ _ _ _ _ _)
   | (with_reducible exact ih2 _ _ _ _ _ _ _ _ _ _ _ _)
   | (with_reducible exact ih3 _ _ _ _ _ _ _ _ _ _ _ _ _)
   | (with_reducible exact ih4 _ _ _ _ _ _ _ _ _ _ _ _ _)
   | (with_reducible exact five_right.mono _ _ _)
   | (with_reducible exact LeO.refl _)
   | (with_reducible exact LeO.none _)
   | (with_reducible refine LeO.ite ?_ ?_)
   | (with_reducible refine LeO.bind ?_ (fun _ => ?_))
   | exact ih0 _ _ _ _ _ _ _
   | exact ih1 _ _ _ _ _ _ _ _ _ _ _
   | exact ih2 _ _ _ _ _ _ _ _ _ _ _ _
   | exact ih3 _ _ _ _ _ _ _ _ _ _ _ _ _
   | exact ih4 _ _ _ _ _ _ _ _ _ _ _ _ _
   | exact five_right.mono _ _ _
   | exact LeO.none _
   | refine LeO.ite ?_ ?_
   | refine LeO.bind ?_ (fun _ => ?_)
  ·intro y0 y1 y2 y3 y4 y5 y6 y7 y8 y9 y10 y11 y12
   unfold five_Pieces.l3
   repeat' first
   | (with_reducible exact ih0 _ _ _ _ _ _ _)
   | (with_reducible exact ih1 _ _ _ _ _ _ _ _ _ _ _)
   | (with_reducible exact ih2 _ _ _ _ _ _ _ _ _ _ _ _)
   | (with_reducible exact ih3 _ _ _ _ _ _ _ _ _ _ _ _ _)
   | (with_reducible exact ih4 _ _ _ _ _ _ _ _ _ _ _ _ _)
   | (with_reducible exact five_right.mono _ _ _)
   | (with_reducible exact LeO.refl _)
   | (with_reducible exact LeO.none _)
   | (with_reducible refine LeO.ite ?_ ?_)
   | (with_reducible refine LeO.bind ?_ (fun _ => ?_))
   | exact ih0 _ _ _ _ _ _ _
   | exact ih1 _ _ _ _ _ _ _ _ _ _ _
   | exact ih2 _ _ _ _ _ _ _ _ _ _ _ _
   | exact ih3 _ _ _ _ _ _ _ _ _ _ _ _ _
   | exact ih4 _ _ _ _ _ _ _ _ _ _ _ _ _
   | exact five_right.mono _ _ _
   | exact LeO.none _
   | refine LeO.ite ?_ ?_
   | refine LeO.bind ?_ (fun _ => ?_)
theorem five_Pieces.mono : ∀ a0 a1 k, LeO (five_Pieces.f k a0 a1) (five_Pieces.f (k + 1) a0 a1) := by
 intro a0 a1 k
 obtain ⟨ih0, ih1, ih2, ih3, ih4⟩ := five_Pieces.mono_l k
 unfold five_Pieces.f
 repeat' first
   | (with_reducible exact ih0 _ _ _ _ _ _ _)
   | (with_reducible exact ih1 _ _ _ _ _ _ _ _ _ _ _)
   | (with_reducible exact ih2 _ _ _ _ _ _ _ _ _ _ _ _)
   | (with_reducible exact ih3 _ _ _ _ _ _ _ _ _ _ _ _ _)
   | (with_reducible exact ih4 _ _ _ _ _ _ _ _ _ _ _ _ _)
   | (with_reducible exact five_right.mono _ _ _)
   | (with_reducible exact LeO.refl _)
   | (with_reducible exact LeO.none _)
   | (with_reducible refine LeO.ite ?_ ?_)
   | (with_reducible refine LeO.bind ?_ (fun _ => ?_))
   | exact ih0 _ _ _ _ _ _ _
   | exact ih1 _ _ _ _ _ _ _ _ _ _ _
   | exact ih2 _ _ _ _ _ _ _ _ _ _ _ _
   | exact ih3 _ _ _ _ _ _ _ _ _ _ _ _ _
   | exact ih4 _ _ _ _ _ _ _ _ _ _ _ _ _
   | exact five_right.mono _ _ _
   | exact LeO.none _
   | refine LeO.ite ?_ ?_
   | refine LeO.bind ?_ (fun _ => ?_)
def five_Pieces.T9 : Bool × List (List Nat × List Nat) := (true, [([], []), ([], []), ([1], [1]), ([0, 2], [0, 2]), ([3], [3]), ([], []), ([5], [5]), ([6], [6]), ([4, 7], [4, 7])])
def five_Pieces.B9 : List Nat := [0, 0, 2, 7, 15, 0, 32, 96, 255]
theorem five_Pieces.tab9 : rtab .any (opsOf Tryd.f11 9) = five_Pieces.T9 := by kernel_rfl
theorem five_Pieces.bits9 : waitsOk five_Pieces.T9.2 five_Pieces.B9 = true := by kernel_rfl
def five_Pieces.T12 : Bool × List (List Nat × List Nat) := (true, [([], []), ([0], [0]), ([], []), ([2], [2]), ([1, 3], [1, 3]), ([4], [4]), ([5], [5]), ([5], [5]), ([6, 7, 5], [5, 6, 7]), ([8, 5], [5, 8]), ([5], [5]), ([10, 5], [5, 10]), ([11, 5], [5, 11]), ([9, 12, 5], [5, 9, 12]), ([5, 13], [5, 13])])
def five_Pieces.B12 : List Nat := [0, 1, 0, 4, 15, 31, 63, 63, 255, 511, 63, 1087, 3135, 8191, 16383]
theorem five_Pieces.tab12 : rtab .any (opsOf Tryd.f11 12) = five_Pieces.T12 := by kernel_rfl
theorem five_Pieces.bits12 : waitsOk five_Pieces.T12.2 five_Pieces.B12 = true := by kernel_rfl
def five_Pieces.T17 : Bool × List (List Nat × List Nat) := (true, [([], []), ([0], [0]), ([1], [1]), ([], []), ([], []), ([3, 4], [3, 4]), ([5], [5]), ([2, 6], [2, 6]), ([], []), ([8], [8]), ([9], [9]), ([], []), ([10, 11], [10, 11]), ([7, 12], [7, 12]), ([], []), ([14, 13, 0, 1, 2, 3, 4, 5, 6, 7, 8, 9, 10, 11, 12, 13, 14], [13, 14])])
def five_Pieces.B17 : List Nat := [0, 1, 3, 0, 0, 24, 56, 127, 0, 256, 768, 0, 3840, 8191, 0, 32767]
theorem five_Pieces.tab17 : rtab .any (opsOf Tryd.f11 17) = five_Pieces.T17 := by kernel_rfl
theorem five_Pieces.bits17 : waitsOk five_Pieces.T17.2 five_Pieces.B17 = true := by kernel_rfl
set_option maxHeartbeats 8000000 in
set_option maxRecDepth 100000 in
theorem five_Pieces.calls (k : Nat) (a0 : ByteArray) (A1 : Option Addr) (c1 : Nat) (l1 : List (S38)) (r1 : List (S38)) (r2 : Int) (w : World) (hr1 : Kd.C k38 w A1 l1.length l1) (hc1 : l1.length ≤ c1) (hG : GlobOk w) (h : five_Pieces.f k a0 l1 = some (r1, r2)) :
  Calls Tryd.prog 11 #[.string a0, .slice A1 l1.length c1] w fun e w' => ∃ v0_ : Value, e = .returned (.tuple #[v0_, .int .i64 r2]) ∧ Kd.R k38 38 w' w.heap.size (fun _ => True) v0_ r1 ∧ Below w.heap.size w w' := by
 have HG := Aside0.mk hG; clear hG; have hu38 := Tryd.underlying38
 have hu36 := Tryd.underlying36
 have HR1 := Aside0.mk hr1; have HC1 := Aside0.mk hc1; clear hr1 hc1; have HB := Aside0.mk (Below.refl w.heap.size w)
 have H : ((five_right.f k a0 l1).bind fun t119 => (if t119 = true then ((five_ends.f a0).bind fun t120 => (five_Pieces.l0 k a0 ([] : List (S38)) t120 0 l1 (l1.length : Int) 0)) else (some (([] : List (S38)), 230)))) = some (r1, r2) := h
 clear h; replace H := Option.bind_eq_some_iff.mp H
 obtain ⟨t119, A30, H⟩ := H
 replace H : (if t119 = true then ((five_ends.f a0).bind fun t120 => (five_Pieces.l0 k a0 ([] : List (S38)) t120 0 l1 (l1.length : Int) 0)) else (some (([] : List (S38)), 230))) = some (r1, r2) := H
 have A3 := Aside0.mk A30; clear A30; by_cases c4 : t119 = true
 rotate_left
 ·replace c4 := Bool.eq_false_iff.mpr c4
  subst c4; have H1 : (some (([] : List (S38)), 230)) = some (r1, r2) := by rw [if_neg (show ¬ (false = true) by decide)] at H; exact H
  clear H; have H := H1
  clear H1; simp only [Option.some.injEq, Prod.mk.injEq] at H
  obtain ⟨rfl, rfl⟩ := H
  go_enter Tryd.func11, Tryd.ntmps11
  go_wp2_with (first | ((with_reducible refine gate_callee (f := 24) rfl ?_); refine goesL_ (some 16) rfl rfl Tryd.func24 (by kernel_rfl) rfl #[.string a0, .slice A1 l1.length c1] rfl (by (try simp only [List.map_toArray, List.map_cons, List.map_nil]); first | done | rfl | (simp only [List.length_drop, List.length_take]; rfl)) ?_; (with_reducible refine (five_right.calls k a0 _ _ l1 false _ ?side1 ?side2 (by first | exact HG.out | exact GlobOk.below HG.out (bl HB)) A3.out).mono ?_); (case side1 => repeat (first | exact HR1.out | (with_reducible refine Kd.C_alloc ?_ _) | (with_reducible refine Kd.C_drewN ?_ _) | (with_reducible refine Kd.C_drew ?_))); (case side2 => exact HC1.out); rintro e w78 ⟨rfl, hb⟩; refine ⟨_, rfl, ?_⟩; have n0_ := Aside0.mk (below_step (bl HB) hb); clear HB; have HB := n0_; clear n0_; (try clear hb); (try clear hb2); (try clear hk); (try clear hi)))
  go_ret2
  exact ⟨_, by first | rfl | (simp [errW_none, errW_some] <;> rfl) | (simp [*, errW_none, errW_some] <;> rfl), by first | exact Kd.R_nil _ _ _ _ _ | exact Kd.N_nil _ _ _ _ _ | exact Kd.V_nil _ _ _ _ _ | exact Kd.Q_nil _ _ _ _ _ | exact Kd.S_nil _ _ _ _ _, bl HB⟩
 subst c4; have H1 : ((five_ends.f a0).bind fun t120 => (five_Pieces.l0 k a0 ([] : List (S38)) t120 0 l1 (l1.length : Int) 0)) = some (r1, r2) := by rw [if_pos rfl] at H; exact H
 clear H; have H := H1
 clear H1; replace H := Option.bind_eq_some_iff.mp H
 obtain ⟨t120, A50, H⟩ := H
 replace H : (five_Pieces.l0 k a0 ([] : List (S38)) t120 0 l1 (l1.length : Int) 0) = some (r1, r2) := H
 have A5 := Aside0.mk A50; clear A50; have H' := Aside0.mk H; clear H; go_enter Tryd.func11, Tryd.ntmps11
 go_wp2_with (first | ((with_reducible refine gate_callee (f := 24) rfl ?_); refine goesL_ (some 16) rfl rfl Tryd.func24 (by kernel_rfl) rfl #[.string a0, .slice A1 l1.length c1] rfl (by (try simp only [List.map_toArray, List.map_cons, List.map_nil]); first | done | rfl | (simp only [List.length_drop, List.length_take]; rfl)) ?_; (with_reducible refine (five_right.calls k a0 _ _ l1 true _ ?side1 ?side2 (by first | exact HG.out | exact GlobOk.below HG.out (bl HB)) A3.out).mono ?_); (case side1 => repeat (first | exact HR1.out | (with_reducible refine Kd.C_alloc ?_ _) | (with_reducible refine Kd.C_drewN ?_ _) | (with_reducible refine Kd.C_drew ?_))); (case side2 => exact HC1.out); rintro e w6 ⟨rfl, hb⟩; refine ⟨_, rfl, ?_⟩; have n0_ := Aside0.mk (below_step (bl HB) hb); clear HB; have HB := n0_; clear n0_; (try clear hb); (try clear hb2); (try clear hk); (try clear hi)) | ((with_reducible refine gate_callee (f := 25) rfl ?_); refine goesL_ (some 19) rfl rfl Tryd.func25 (by kernel_rfl) rfl #[.string a0] rfl (by (try simp only [List.map_toArray, List.map_cons, List.map_nil]); first | done | rfl | (simp only [List.length_drop, List.length_take]; rfl)) ?_; (with_reducible refine (five_ends.calls a0 t120 _ A5.out).mono ?_); rintro e w7 ⟨v121, rfl, ho0, hb⟩; refine ⟨_, rfl, ?_⟩; have n0_ := Aside0.mk (Kd.R_lower ho0 (below_size (bl HB))); have n1_ := Aside0.mk (below_step (bl HB) hb); clear HB; have HO122 := n0_; have HB := n1_; clear n0_ n1_; (try clear hb); (try clear hb2); (try clear hk); (try clear hi); (try clear ho0)))
 go_loopg [6, 8, 22] k (fun kq v6 v8 v22 w' => ∃ (x6_1 : List (S38)) (x8_1 : Int) (x22_1 : Int), v8 = .int .i64 x8_1 ∧ v22 = .int .i64 x22_1 ∧ Aside0 (five_Pieces.l0 kq a0 x6_1 t120 x8_1 l1 (l1.length : Int) x22_1 = some (r1, r2)) ∧ Aside0 (kq ≤ k) ∧ Aside0 (Kd.R k38 38 w' w.heap.size (fun _ => True) v6 x6_1) ∧ Aside0 (Kd.R (Kd.int .i64) 3 w' w.heap.size (fun _ => True) v121 t120) ∧ Aside0 (Below w.heap.size w w'))
 case atStart => exact ⟨(([] : List (S38))), (0), (0), (by first | rfl | (simp; done) | (simp [*]; done) | (simp; exact xEmpty_ne _) | (simp [*]; exact xEmpty_ne _)), (by first | rfl | (simp; done) | (simp [*]; done) | (simp; exact xEmpty_ne _) | (simp [*]; exact xEmpty_ne _)), H', ⟨Nat.le_refl _⟩, ⟨by first | exact Kd.R_nil _ _ _ _ _ | exact Kd.N_nil _ _ _ _ _ | exact Kd.V_nil _ _ _ _ _ | exact Kd.Q_nil _ _ _ _ _ | exact Kd.S_nil _ _ _ _ _⟩, ⟨rl HO122⟩, ⟨bl HB⟩⟩
 case round =>
  clear H'; (try clear c1); (try clear c2); (try clear p2); (try clear c4); (try clear HO_6); (try clear HO_7); (try clear HB)
  obtain ⟨x6_1, x8_1, x22_1, rfl, rfl, HA, HK1, HO_6, HO_7, HB⟩ := hrel
  cases gk with
  | zero => exact absurd HA.out (by simp [five_Pieces.l0])
  | succ k1 =>
   have H := HA.out
   clear HA; simp only [five_Pieces.l0] at H
   by_cases c8 : x22_1 < (l1.length : Int)
   rotate_left
   ·rw [if_neg c8] at H; have c8b0 : decide (x22_1 < (l1.length : Int)) = false := decide_eq_false c8; clear c8; simp only [Option.some.injEq, Prod.mk.injEq] at H
    obtain ⟨rfl, rfl⟩ := H
    go_wp2
    go_ret2
    exact ⟨_, by first | rfl | (simp [errW_none, errW_some] <;> rfl) | (simp [*, errW_none, errW_some] <;> rfl), rl HO_6, bl HB⟩
   rw [if_pos c8] at H; have c8b0 : decide (x22_1 < (l1.length : Int)) = true := decide_eq_true c8; clear c8; by_cases c9 : 0 ≤ x22_1
   rotate_left
   ·rw [if_neg c9] at H; exact absurd H (by simp)
   rw [if_pos c9] at H; have c9b0 : decide (0 ≤ x22_1) = true := decide_eq_true c9; clear c9; by_cases c10 : x22_1 < (l1.length : Int)
   rotate_left
   ·rw [if_neg c10] at H; exact absurd H (by simp)
   rw [if_pos c10] at H; have c10b0 : decide (x22_1 < (l1.length : Int)) = true := decide_eq_true c10; clear c10; have H' := Aside0.mk H; clear H; have p123 : 0 ≤ (x22_1 : Int) := of_decide_eq_true (by first | (with_reducible assumption) | assumption)
   have q123 : x22_1 < (l1.length : Int) := of_decide_eq_true (by first | (with_reducible assumption) | assumption)
   obtain ⟨ad123, e123, hx123_0, hx123_1, hx123_2, hx123_3⟩ := at_T38 HR1.out x22_1 p123 q123
   cases e123; replace hx123_0 := (HB.out.cell (World.block_lt_of_cell? w _ hx123_0)).trans hx123_0; replace hx123_1 := (HB.out.cell (World.block_lt_of_cell? w _ hx123_1)).trans hx123_1; replace hx123_2 := (HB.out.cell (World.block_lt_of_cell? w _ hx123_2)).trans hx123_2; replace hx123_3 := (HB.out.cell (World.block_lt_of_cell? w _ hx123_3)).trans hx123_3; replace p123 := eq_true p123; replace q123 := eq_true q123; go_wp2_with (first | ((with_reducible refine gate_dst (N := 10) rfl ?_); refine box_event ?hg (N := 10) ?hd (cs := #[.int .i64 0, .int .i64 0, .int .i64 0, .int .i64 0]) (t := 38) ?hr ?_; (case hd => rfl); (case hg => rfl); (case hr => first | (go_simp; done) | (go_simp; rfl)); intro gb124 hg w11 hbox hb; have n0_ := Aside0.mk (Kd.R_below (Kd.R_elderB (rl HO_6) gb124 (Nat.le_of_eq hg.symm)) hb); have n1_ := Aside0.mk (Kd.R_below (rl HO_7) hb); have n2_ := Aside0.mk (below_step (bl HB) hb); have n3_ := Aside0.mk (hbox); have n4_ := Aside0.mk ((by rw [hg]; exact (below_size (bl HB)) : w.heap.size ≤ gb124)); have n5_ := Aside0.mk ((by rw [hg]; exact (below_size (bl HB)) : w.heap.size ≤ gb124)); clear HO_6; clear HO_7; clear HB; have HO_6 := n0_; have HO_7 := n1_; have HB := n2_; have BK124 := n3_; have GW124 := n4_; have GE124 := n5_; clear n0_ n1_ n2_ n3_ n4_ n5_; clear hb hbox hg; have hcz12_0 : w11.cell? ⟨gb124, 0, none⟩ = some (.int .i64 0) := (blk_cell BK124.out 0).trans rfl; have hcz12_1 : w11.cell? ⟨gb124, 1, none⟩ = some (.int .i64 0) := (blk_cell BK124.out 1).trans rfl; have hcz12_2 : w11.cell? ⟨gb124, 2, none⟩ = some (.int .i64 0) := (blk_cell BK124.out 2).trans rfl; have hcz12_3 : w11.cell? ⟨gb124, 3, none⟩ = some (.int .i64 0) := (blk_cell BK124.out 3).trans rfl; have hfz12_0 := blk_frozen BK124.out 0; have hfz12_1 := blk_frozen BK124.out 1; have hfz12_2 := blk_frozen BK124.out 2; have hfz12_3 := blk_frozen BK124.out 3))
   go_loopg [8] k1 (fun kq v8 w' => ∃ (x8_2 : Int), v8 = .int .i64 x8_2 ∧ Aside0 (five_Pieces.l1 kq a0 x6_1 t120 x8_2 l1 (l1.length : Int) x22_1 ((rd_T38 l1 x22_1).f0.f0) ((rd_T38 l1 x22_1).f0.f1) ((rd_T38 l1 x22_1).f1) ((rd_T38 l1 x22_1).f2) = some (r1, r2)) ∧ Aside0 (kq ≤ k1) ∧ Aside0 (Kd.R k38 38 w' w.heap.size (fun k_ => k_ ≠ gb124) u6 x6_1) ∧ Aside0 (Kd.R (Kd.int .i64) 3 w' w.heap.size (fun _ => True) v121 t120) ∧ Aside0 (w'.heap[gb124]? = some (.cells #[.int .i64 ((rd_T38 l1 x22_1).f0.f0), .int .i64 ((rd_T38 l1 x22_1).f0.f1), .int .i64 ((rd_T38 l1 x22_1).f1), .int .i64 ((rd_T38 l1 x22_1).f2)] 38 (0, 0))) ∧ Aside0 (Below w.heap.size w w'))
   case atStart => exact ⟨(x8_1), (by first | rfl | (simp; done) | (simp [*]; done) | (simp; exact xEmpty_ne _) | (simp [*]; exact xEmpty_ne _)), H', ⟨Nat.le_refl _⟩, ⟨by (with_reducible repeat (first | apply Kd.R_alloc | apply Kd.R_drewN | apply Kd.R_drew)); exact Kd.R_mono (Kd.R_far (p := ⟨gb124, 3, none⟩) (Kd.R_far (p := ⟨gb124, 2, none⟩) (Kd.R_far (p := ⟨gb124, 1, none⟩) (Kd.R_far (p := ⟨gb124, 0, none⟩) (Kd.R_mono HO_6.out (fun k_ hk => (⟨hk, hk.2⟩ : _ ∧ k_ ≠ gb124))) (fun _ hk => hk.2) (.int .i64 ((rd_T38 l1 x22_1).f0.f0))) (fun _ hk => hk.2) (.int .i64 ((rd_T38 l1 x22_1).f0.f1))) (fun _ hk => hk.2) (.int .i64 ((rd_T38 l1 x22_1).f1))) (fun _ hk => hk.2) (.int .i64 ((rd_T38 l1 x22_1).f2))) (fun _ hk => hk.1.2)⟩, ⟨by (with_reducible repeat (first | apply Kd.R_alloc | apply Kd.R_drewN | apply Kd.R_drew)); exact Kd.R_mono (Kd.R_far (p := ⟨gb124, 3, none⟩) (Kd.R_far (p := ⟨gb124, 2, none⟩) (Kd.R_far (p := ⟨gb124, 1, none⟩) (Kd.R_far (p := ⟨gb124, 0, none⟩) (Kd.R_types HO_7.out BK124.out (by decide)) (fun _ hk => hk.2) (.int .i64 ((rd_T38 l1 x22_1).f0.f0))) (fun _ hk => hk.2) (.int .i64 ((rd_T38 l1 x22_1).f0.f1))) (fun _ hk => hk.2) (.int .i64 ((rd_T38 l1 x22_1).f1))) (fun _ hk => hk.2) (.int .i64 ((rd_T38 l1 x22_1).f2))) (fun _ hk => trivial)⟩, ⟨by (with_reducible repeat (first | refine blk_drewN ?_ _ | refine blk_drew ?_ | refine blk_alloc ?_ _)); refine blk_put (cs := #[.int .i64 ((rd_T38 l1 x22_1).f0.f0), .int .i64 ((rd_T38 l1 x22_1).f0.f1), .int .i64 ((rd_T38 l1 x22_1).f1), .int .i64 0]) ?_ 3 _ rfl; (with_reducible repeat (first | refine blk_drewN ?_ _ | refine blk_drew ?_ | refine blk_alloc ?_ _)); refine blk_put (cs := #[.int .i64 ((rd_T38 l1 x22_1).f0.f0), .int .i64 ((rd_T38 l1 x22_1).f0.f1), .int .i64 0, .int .i64 0]) ?_ 2 _ rfl; (with_reducible repeat (first | refine blk_drewN ?_ _ | refine blk_drew ?_ | refine blk_alloc ?_ _)); refine blk_put (cs := #[.int .i64 ((rd_T38 l1 x22_1).f0.f0), .int .i64 0, .int .i64 0, .int .i64 0]) ?_ 1 _ rfl; (with_reducible repeat (first | refine blk_drewN ?_ _ | refine blk_drew ?_ | refine blk_alloc ?_ _)); refine blk_put (cs := #[.int .i64 0, .int .i64 0, .int .i64 0, .int .i64 0]) ?_ 0 _ rfl; (with_reducible repeat (first | refine blk_drewN ?_ _ | refine blk_drew ?_ | refine blk_alloc ?_ _)); exact BK124.out⟩, ⟨by repeat (first | (with_reducible first | exact HB.out | apply below_alloc | apply pw_below_drewN | apply below_drew1 | refine below_set ?_ GE124.out) | exact HB.out)⟩⟩
   case round =>
    clear H'; (try clear c1); (try clear p1); (try clear q1); (try clear hx1); (try clear c2); (try clear p2); (try clear c4); (try clear c8); (try clear c8b0); (try clear c9); (try clear c9b0); (try clear c10); (try clear c10b0); (try clear c11); (try clear p12); (try clear q12); (try clear hx12); (try clear hcz12_0); (try clear hcz12_1); (try clear hcz12_2); (try clear hcz12_3); (try clear hfz12_0); (try clear hfz12_1); (try clear hfz12_2); (try clear hfz12_3); (try clear hx123_0); (try clear hx123_1); (try clear hx123_2); (try clear hx123_3); (try clear p123); (try clear p2); (try clear q123); (try clear HO_6); (try clear HO_7); (try clear BK124); (try clear HB)
    obtain ⟨x8_2, rfl, HA, HK2, HO_6, HO_7, BK124, HB⟩ := hrel
    cases gk with
    | zero => exact absurd HA.out (by simp [five_Pieces.l1])
    | succ k2 =>
     have H := HA.out
     clear HA; simp only [five_Pieces.l1] at H
     obtain ⟨ji13, hji13⟩ : ∃ j_ : Int, (wrap64 (x8_2 + 1)) = j_ := ⟨_, rfl⟩
     replace H : (if 0 ≤ (ji13) then (if (ji13) < (t120.length : Int) then (if (rd t120 (ji13)) ≤ ((rd_T38 l1 x22_1).f0.f0) then (five_Pieces.l1 k2 a0 x6_1 t120 ji13 l1 (l1.length : Int) x22_1 ((rd_T38 l1 x22_1).f0.f0) ((rd_T38 l1 x22_1).f0.f1) ((rd_T38 l1 x22_1).f1) ((rd_T38 l1 x22_1).f2)) else (five_Pieces.l2 k2 a0 x6_1 t120 x8_2 x8_2 l1 (l1.length : Int) x22_1 ((rd_T38 l1 x22_1).f0.f0) ((rd_T38 l1 x22_1).f0.f1) ((rd_T38 l1 x22_1).f1) ((rd_T38 l1 x22_1).f2))) else (none)) else (none)) = some (r1, r2) := by first | (rw [hji13] at H; exact H) | (simp only [hji13] at H ⊢; exact H)
     have hji13w : (IntKind.i64.wrap (x8_2 + 1)) = ji13 := (i64_w _).trans hji13
     by_cases c14 : 0 ≤ (ji13)
     rotate_left
     ·rw [if_neg c14] at H; exact absurd H (by simp)
     rw [if_pos c14] at H; have c14b0 : decide (0 ≤ (ji13)) = true := decide_eq_true c14; clear c14; by_cases c15 : (ji13) < (t120.length : Int)
     rotate_left
     ·rw [if_neg c15] at H; exact absurd H (by simp)
     rw [if_pos c15] at H; have c15b0 : decide ((ji13) < (t120.length : Int)) = true := decide_eq_true c15; clear c15; by_cases c16 : (rd t120 (ji13)) ≤ ((rd_T38 l1 x22_1).f0.f0)
     ·rw [if_pos c16] at H; have c16b0 : decide ((rd t120 (ji13)) ≤ ((rd_T38 l1 x22_1).f0.f0)) = true := decide_eq_true c16; clear c16; have H' := Aside0.mk H; clear H; try go_wp2
      have n0_ := Aside0.mk (Kd.R_drew HO_6.out); have n1_ := Aside0.mk (Kd.R_drew HO_7.out); have n2_ := Aside0.mk (blk_drew BK124.out); have n3_ := Aside0.mk (below_drew1 HB.out); clear HO_6; clear HO_7; clear BK124; clear HB; have HO_6 := n0_; have HO_7 := n1_; have BK124 := n2_; have HB := n3_; clear n0_ n1_ n2_ n3_; obtain ⟨Ao18, co18, eo18⟩ := Kd.R_slice HO_7.out
      (first | subst eo18 | (injection eo18 with f1_ f2_ f3_; have f4_ := f1_.symm; have f5_ := f3_.symm; clear f1_ f2_ f3_; subst f4_; subst f5_))
      have p125 : 0 ≤ ((ji13) : Int) := of_decide_eq_true (by first | (with_reducible assumption) | assumption)
      have q125 : (ji13) < (t120.length : Int) := of_decide_eq_true (by first | (with_reducible assumption) | assumption)
      obtain ⟨ad125, e125, hx125_0⟩ := Kd.at_int (Kd.R_reads' HO_7.out).2.2 (ji13) p125 q125
      cases e125; replace p125 := eq_true p125; replace q125 := eq_true q125; refine start_ (n := 9) (S := fun w' => w'.cell? ⟨gb124, 0, none⟩ = some (.int .i64 ((rd_T38 l1 x22_1).f0.f0)) ∧ w'.cell? ⟨gb124, 1, none⟩ = some (.int .i64 ((rd_T38 l1 x22_1).f0.f1)) ∧ w'.cell? ⟨gb124, 2, none⟩ = some (.int .i64 ((rd_T38 l1 x22_1).f1)) ∧ w'.cell? ⟨gb124, 3, none⟩ = some (.int .i64 ((rd_T38 l1 x22_1).f2)) ∧ w'.cell? (ad125.add ((ji13)).toNat) = some (.int .i64 (rd t120 (ji13)))) (ds := []) (bz 9 0) (by kernel_rfl) rfl rfl ⟨(blk_cell BK124.out 0).trans rfl, (blk_cell BK124.out 1).trans rfl, (blk_cell BK124.out 2).trans rfl, (blk_cell BK124.out 3).trans rfl, hx125_0⟩ (fun hHeld => ?_); refine with_tabW five_Pieces.tab9 five_Pieces.bits9 (fun HT_ HW_ => ?_)
      generalize wr.drew = w17 at HO_6 HO_7 BK124 HB hx125_0 hHeld ⊢
      refine pu 0 (some 26) (bz 9 1) HT_ rfl rfl ?_; refine pu 1 (some 27) (bz 9 3) HT_ rfl rfl ?_; refine pu 2 (some 28) (bz 9 7) HT_ rfl rfl ?_; refine pu 3 (some 29) (bz 9 15) HT_ rfl rfl ?_; refine pu 5 (some 31) (bz 9 47) HT_ rfl rfl ?_; refine pu 6 (some 32) (bz 9 111) HT_ rfl rfl ?_; refine tk 4 (some 30) (bz 9 127) HT_ HW_ rfl rfl hHeld ?_; refine tk 7 (some 33) (bz 9 255) HT_ HW_ rfl rfl hHeld ?_; refine pu 8 (some 34) (bz 9 511) HT_ rfl rfl ?_; refine done_ (done_of HT_.out (by kernel_rfl)) ?_
      try go_wp2
      go_roundg k2
      case measure => have := HK1.out; have := HK2.out; omega
      case rel => exact ⟨(ji13), (by first | rfl | (simp; done) | (simp only [← hji13] <;> (first | rfl | simp)) | (simp [*]; done)), H', ⟨by have := HK1.out; have := HK2.out; omega⟩, ⟨rl HO_6⟩, ⟨rl HO_7⟩, ⟨kl BK124⟩, ⟨by repeat (first | (with_reducible first | exact HB.out | apply below_alloc | apply pw_below_drewN | apply below_drew1 | refine below_set ?_ GE124.out) | exact HB.out)⟩⟩
     ·rw [if_neg c16] at H; have c16b0 : decide ((rd t120 (ji13)) ≤ ((rd_T38 l1 x22_1).f0.f0)) = false := decide_eq_false c16; clear c16; have H' := Aside0.mk H; clear H; try go_wp2
      have n0_ := Aside0.mk (Kd.R_drew HO_6.out); have n1_ := Aside0.mk (Kd.R_drew HO_7.out); have n2_ := Aside0.mk (blk_drew BK124.out); have n3_ := Aside0.mk (below_drew1 HB.out); clear HO_6; clear HO_7; clear BK124; clear HB; have HO_6 := n0_; have HO_7 := n1_; have BK124 := n2_; have HB := n3_; clear n0_ n1_ n2_ n3_; obtain ⟨Ao20, co20, eo20⟩ := Kd.R_slice HO_7.out
      (first | subst eo20 | (injection eo20 with f1_ f2_ f3_; have f4_ := f1_.symm; have f5_ := f3_.symm; clear f1_ f2_ f3_; subst f4_; subst f5_))
      have p125 : 0 ≤ ((ji13) : Int) := of_decide_eq_true (by first | (with_reducible assumption) | assumption)
      have q125 : (ji13) < (t120.length : Int) := of_decide_eq_true (by first | (with_reducible assumption) | assumption)
      obtain ⟨ad125, e125, hx125_0⟩ := Kd.at_int (Kd.R_reads' HO_7.out).2.2 (ji13) p125 q125
      cases e125; replace p125 := eq_true p125; replace q125 := eq_true q125; refine start_ (n := 9) (S := fun w' => w'.cell? ⟨gb124, 0, none⟩ = some (.int .i64 ((rd_T38 l1 x22_1).f0.f0)) ∧ w'.cell? ⟨gb124, 1, none⟩ = some (.int .i64 ((rd_T38 l1 x22_1).f0.f1)) ∧ w'.cell? ⟨gb124, 2, none⟩ = some (.int .i64 ((rd_T38 l1 x22_1).f1)) ∧ w'.cell? ⟨gb124, 3, none⟩ = some (.int .i64 ((rd_T38 l1 x22_1).f2)) ∧ w'.cell? (ad125.add ((ji13)).toNat) = some (.int .i64 (rd t120 (ji13)))) (ds := []) (bz 9 0) (by kernel_rfl) rfl rfl ⟨(blk_cell BK124.out 0).trans rfl, (blk_cell BK124.out 1).trans rfl, (blk_cell BK124.out 2).trans rfl, (blk_cell BK124.out 3).trans rfl, hx125_0⟩ (fun hHeld => ?_); refine with_tabW five_Pieces.tab9 five_Pieces.bits9 (fun HT_ HW_ => ?_)
      generalize wr.drew = w19 at HO_6 HO_7 BK124 HB hx125_0 hHeld ⊢
      refine pu 0 (some 26) (bz 9 1) HT_ rfl rfl ?_; refine pu 1 (some 27) (bz 9 3) HT_ rfl rfl ?_; refine pu 2 (some 28) (bz 9 7) HT_ rfl rfl ?_; refine pu 3 (some 29) (bz 9 15) HT_ rfl rfl ?_; refine pu 5 (some 31) (bz 9 47) HT_ rfl rfl ?_; refine pu 6 (some 32) (bz 9 111) HT_ rfl rfl ?_; refine tk 4 (some 30) (bz 9 127) HT_ HW_ rfl rfl hHeld ?_; refine tk 7 (some 33) (bz 9 255) HT_ HW_ rfl rfl hHeld ?_; refine pu 8 (some 34) (bz 9 511) HT_ rfl rfl ?_; refine done_ (done_of HT_.out (by kernel_rfl)) ?_
      try go_wp2
      go_loopg [6, 11] k2 (fun kq v6 v11 w' => ∃ (x6_3 : List (S38)) (x11_3 : Int), v11 = .int .i64 x11_3 ∧ Aside0 (five_Pieces.l2 kq a0 x6_3 t120 x8_2 x11_3 l1 (l1.length : Int) x22_1 ((rd_T38 l1 x22_1).f0.f0) ((rd_T38 l1 x22_1).f0.f1) ((rd_T38 l1 x22_1).f1) ((rd_T38 l1 x22_1).f2) = some (r1, r2)) ∧ Aside0 (kq ≤ k2) ∧ Aside0 (Kd.R k38 38 w' w.heap.size (fun k_ => k_ ≠ gb124) v6 x6_3) ∧ Aside0 (Kd.R (Kd.int .i64) 3 w' w.heap.size (fun _ => True) (.slice (some ad125) t120.length co20) t120) ∧ Aside0 (w'.heap[gb124]? = some (.cells #[.int .i64 ((rd_T38 l1 x22_1).f0.f0), .int .i64 ((rd_T38 l1 x22_1).f0.f1), .int .i64 ((rd_T38 l1 x22_1).f1), .int .i64 ((rd_T38 l1 x22_1).f2)] 38 (0, 0))) ∧ Aside0 (Below w.heap.size w w'))
      case atStart => exact ⟨(x6_1), (x8_2), (by first | rfl | (simp; done) | (simp [*]; done) | (simp; exact xEmpty_ne _) | (simp [*]; exact xEmpty_ne _)), H', ⟨Nat.le_refl _⟩, ⟨rl HO_6⟩, ⟨rl HO_7⟩, ⟨kl BK124⟩, ⟨by repeat (first | (with_reducible first | exact HB.out | apply below_alloc | apply pw_below_drewN | apply below_drew1 | refine below_set ?_ GE124.out) | exact HB.out)⟩⟩
      case round =>
       clear H'; (try clear c1); (try clear p1); (try clear q1); (try clear hx1); (try clear c2); (try clear p2); (try clear c4); (try clear p6); (try clear c8); (try clear c8b0); (try clear c9); (try clear c9b0); (try clear c10); (try clear c10b0); (try clear c11); (try clear p12); (try clear q12); (try clear hx12); (try clear c14); (try clear c14b0); (try clear c15); (try clear c15b0); (try clear c16); (try clear c16b0); (try clear hcz12_0); (try clear hcz12_1); (try clear hcz12_2); (try clear hcz12_3); (try clear hfz12_0); (try clear hfz12_1); (try clear hfz12_2); (try clear hfz12_3); (try clear hx123_0); (try clear hx123_1); (try clear hx123_2); (try clear hx123_3); (try clear hx125_0); (try clear p1); (try clear p12); (try clear p123); (try clear p125); (try clear p2); (try clear q1); (try clear q12); (try clear q123); (try clear q125); (try clear HO_6); (try clear HO_7); (try clear BK124); (try clear HB)
       obtain ⟨x6_3, x11_3, rfl, HA, HK3, HO_6, HO_7, BK124, HB⟩ := hrel
       cases gk with
       | zero => exact absurd HA.out (by simp [five_Pieces.l2])
       | succ k3 =>
        have H := HA.out
        clear HA; simp only [five_Pieces.l2] at H
        have HC21 := Aside0.mk H; clear H; go_upto_region 12 with (fail)
        go_cut [52] (fun v52 wc => ∃ (kq : Nat) (x52_20 : Bool), v52 = .bool x52_20 ∧ Aside0 (five_Pieces.j3 kq a0 x6_3 t120 x8_2 x11_3 l1 (l1.length : Int) x22_1 x52_20 ((rd_T38 l1 x22_1).f0.f0) ((rd_T38 l1 x22_1).f0.f1) ((rd_T38 l1 x22_1).f1) ((rd_T38 l1 x22_1).f2) = some (r1, r2)) ∧ Aside0 (kq ≤ k3) ∧ Aside0 (Kd.R k38 38 wc w.heap.size (fun k_ => k_ ≠ gb124) u6 x6_3) ∧ Aside0 (Kd.R (Kd.int .i64) 3 wc w.heap.size (fun _ => True) (.slice (some ad125) t120.length co20) t120) ∧ Aside0 (wc.heap[gb124]? = some (.cells #[.int .i64 ((rd_T38 l1 x22_1).f0.f0), .int .i64 ((rd_T38 l1 x22_1).f0.f1), .int .i64 ((rd_T38 l1 x22_1).f1), .int .i64 ((rd_T38 l1 x22_1).f2)] 38 (0, 0))) ∧ Aside0 (Below w.heap.size w wc))
        case first =>
         have H := HC21.out
         clear HC21; by_cases c22 : (wrap64 (x11_3 + 1)) < (t120.length : Int)
         rotate_left
         ·rw [if_neg c22] at H; have c22b0 : decide ((wrap64 (x11_3 + 1)) < (t120.length : Int)) = false := decide_eq_false c22; clear c22; (first | rw [c22b0] | rw [c22b1] | (simp only [i64_w, i32_w]; rw [c22b0]) | skip)
          have H' := Aside0.mk H; clear H; try go_wp2
          have n0_ := Aside0.mk (Kd.R_drew HO_6.out); have n1_ := Aside0.mk (Kd.R_drew HO_7.out); have n2_ := Aside0.mk (blk_drew BK124.out); have n3_ := Aside0.mk (below_drew1 HB.out); clear HO_6; clear HO_7; clear BK124; clear HB; have HO_6 := n0_; have HO_7 := n1_; have BK124 := n2_; have HB := n3_; clear n0_ n1_ n2_ n3_; refine start_ (n := 15) (S := fun w' => True) (ds := []) (bz 15 0) (by kernel_rfl) rfl rfl trivial (fun hHeld => ?_); refine with_tabW five_Pieces.tab12 five_Pieces.bits12 (fun HT_ HW_ => ?_)
          generalize wr.drew = w26 at HO_6 HO_7 BK124 HB hHeld ⊢
          refine pu 0 (some 38) (bz 15 1) HT_ rfl rfl ?_; refine pu 1 (some 39) (bz 15 3) HT_ rfl rfl ?_; refine pu 2 (some 40) (bz 15 7) HT_ rfl rfl ?_; refine pu 3 (some 41) (bz 15 15) HT_ rfl rfl ?_; refine pu 4 (some 42) (bz 15 31) HT_ rfl rfl ?_; refine pu 5 (some 43) (bz 15 63) HT_ rfl rfl ?_; refine pf 6 (some 44) (bz 15 127) HT_ rfl rfl ?_; refine pf 7 (some 45) (bz 15 255) HT_ rfl rfl ?_; refine pf 8 (some 46) (bz 15 511) HT_ rfl rfl ?_; refine pf 9 (some 47) (bz 15 1023) HT_ rfl rfl ?_; refine pf 10 (some 48) (bz 15 2047) HT_ rfl rfl ?_; refine pf 11 (some 49) (bz 15 4095) HT_ rfl rfl ?_; refine pf 12 (some 50) (bz 15 8191) HT_ rfl rfl ?_; refine pf 13 (some 51) (bz 15 16383) HT_ rfl rfl ?_; refine pu 14 (some 52) (bz 15 32767) HT_ rfl rfl ?_; refine done_ (done_of HT_.out (by kernel_rfl)) ?_
          try go_wp2
          go_meet
          case rel => exact ⟨_, (false), (by first | rfl | (simp; done) | (simp [*]; done) | (simp; exact xEmpty_ne _) | (simp [*]; exact xEmpty_ne _)), H', ⟨by have := HK1.out; have := HK2.out; have := HK3.out; first | omega | exact Nat.le_refl _⟩, ⟨rl HO_6⟩, ⟨rl HO_7⟩, ⟨kl BK124⟩, ⟨by repeat (first | (with_reducible first | exact HB.out | apply below_alloc | apply pw_below_drewN | apply below_drew1 | refine below_set ?_ GE124.out) | exact HB.out)⟩⟩
         rw [if_pos c22] at H; have c22b0 : decide ((wrap64 (x11_3 + 1)) < (t120.length : Int)) = true := decide_eq_true c22; clear c22; (first | rw [c22b0] | rw [c22b1] | (simp only [i64_w, i32_w]; rw [c22b0]) | skip)
         by_cases c23 : 0 ≤ x11_3
         ·rw [if_pos c23] at H; have c23b0 : decide (0 ≤ x11_3) = true := decide_eq_true c23; clear c23; by_cases c24 : x11_3 < (t120.length : Int)
          ·rw [if_pos c24] at H; have c24b0 : decide (x11_3 < (t120.length : Int)) = true := decide_eq_true c24; clear c24; have H' := Aside0.mk H; clear H; try go_wp2
           have n0_ := Aside0.mk (Kd.R_drew HO_6.out); have n1_ := Aside0.mk (Kd.R_drew HO_7.out); have n2_ := Aside0.mk (blk_drew BK124.out); have n3_ := Aside0.mk (below_drew1 HB.out); clear HO_6; clear HO_7; clear BK124; clear HB; have HO_6 := n0_; have HO_7 := n1_; have BK124 := n2_; have HB := n3_; clear n0_ n1_ n2_ n3_; have p126 : 0 ≤ (x11_3 : Int) := of_decide_eq_true (by first | (with_reducible assumption) | assumption)
           have q126 : x11_3 < (t120.length : Int) := of_decide_eq_true (by first | (with_reducible assumption) | assumption)
           obtain ⟨ad126, e126, hx126_0⟩ := Kd.at_int (Kd.R_reads' HO_7.out).2.2 x11_3 p126 q126
           obtain rfl : ad125 = ad126 := (by injection e126)
           replace p126 := eq_true p126; replace q126 := eq_true q126; refine start_ (n := 15) (S := fun w' => w'.cell? ⟨gb124, 0, none⟩ = some (.int .i64 ((rd_T38 l1 x22_1).f0.f0)) ∧ w'.cell? ⟨gb124, 1, none⟩ = some (.int .i64 ((rd_T38 l1 x22_1).f0.f1)) ∧ w'.cell? ⟨gb124, 2, none⟩ = some (.int .i64 ((rd_T38 l1 x22_1).f1)) ∧ w'.cell? ⟨gb124, 3, none⟩ = some (.int .i64 ((rd_T38 l1 x22_1).f2)) ∧ w'.cell? (ad125.add (x11_3).toNat) = some (.int .i64 (rd t120 x11_3))) (ds := []) (bz 15 0) (by kernel_rfl) rfl rfl ⟨(blk_cell BK124.out 0).trans rfl, (blk_cell BK124.out 1).trans rfl, (blk_cell BK124.out 2).trans rfl, (blk_cell BK124.out 3).trans rfl, hx126_0⟩ (fun hHeld => ?_); refine with_tabW five_Pieces.tab12 five_Pieces.bits12 (fun HT_ HW_ => ?_)
           generalize wr.drew = w25 at HO_6 HO_7 BK124 HB hx126_0 hHeld ⊢
           refine pu 0 (some 38) (bz 15 1) HT_ rfl rfl ?_; refine pu 1 (some 39) (bz 15 3) HT_ rfl rfl ?_; refine pu 2 (some 40) (bz 15 7) HT_ rfl rfl ?_; refine pu 3 (some 41) (bz 15 15) HT_ rfl rfl ?_; refine pu 4 (some 42) (bz 15 31) HT_ rfl rfl ?_; refine pu 5 (some 43) (bz 15 63) HT_ rfl rfl ?_; refine pu 6 (some 44) (bz 15 127) HT_ rfl rfl ?_; refine pu 7 (some 45) (bz 15 255) HT_ rfl rfl ?_; refine pu 8 (some 46) (bz 15 511) HT_ rfl rfl ?_; refine pu 10 (some 48) (bz 15 1535) HT_ rfl rfl ?_; refine pu 11 (some 49) (bz 15 3583) HT_ rfl rfl ?_; refine tk 9 (some 47) (bz 15 4095) HT_ HW_ rfl rfl hHeld ?_; refine tk 12 (some 50) (bz 15 8191) HT_ HW_ rfl rfl hHeld ?_; refine pu 13 (some 51) (bz 15 16383) HT_ rfl rfl ?_; refine pu 14 (some 52) (bz 15 32767) HT_ rfl rfl ?_; refine done_ (done_of HT_.out (by kernel_rfl)) ?_
           try go_wp2
           go_meet
           case rel => exact ⟨_, (decide ((rd t120 x11_3) < ((rd_T38 l1 x22_1).f0.f1))), (by first | rfl | (simp; done) | (simp [*]; done) | (simp; exact xEmpty_ne _) | (simp [*]; exact xEmpty_ne _)), H', ⟨by have := HK1.out; have := HK2.out; have := HK3.out; first | omega | exact Nat.le_refl _⟩, ⟨rl HO_6⟩, ⟨rl HO_7⟩, ⟨kl BK124⟩, ⟨by repeat (first | (with_reducible first | exact HB.out | apply below_alloc | apply pw_below_drewN | apply below_drew1 | refine below_set ?_ GE124.out) | exact HB.out)⟩⟩
          ·rw [if_neg c24] at H; exact absurd H (by simp)
         ·rw [if_neg c23] at H; exact absurd H (by simp)
        case rest =>
         clear HC21; (try clear c1); (try clear p1); (try clear q1); (try clear hx1); (try clear c2); (try clear p2); (try clear c4); (try clear p6); (try clear c8); (try clear c8b0); (try clear c9); (try clear c9b0); (try clear c10); (try clear c10b0); (try clear c11); (try clear p12); (try clear q12); (try clear hx12); (try clear c14); (try clear c14b0); (try clear c15); (try clear c15b0); (try clear c16); (try clear c16b0); (try clear c22); (try clear c22b0); (try clear c23); (try clear c23b0); (try clear c24); (try clear c24b0); (try clear hcz12_0); (try clear hcz12_1); (try clear hcz12_2); (try clear hcz12_3); (try clear hfz12_0); (try clear hfz12_1); (try clear hfz12_2); (try clear hfz12_3); (try clear hx123_0); (try clear hx123_1); (try clear hx123_2); (try clear hx123_3); (try clear hx125_0); (try clear hx126_0); (try clear p1); (try clear p12); (try clear p123); (try clear p125); (try clear p126); (try clear p2); (try clear p6); (try clear q1); (try clear q12); (try clear q123); (try clear q125); (try clear q126); obtain ⟨kq, x52_20, rfl, HA, HJ20, HO_6, HO_7, BK124, HB⟩ := hcut
         cases kq with
         | zero => exact absurd HA.out (by simp [five_Pieces.j3])
         | succ kj20 =>
          have H := HA.out
          clear HA; simp only [five_Pieces.j3] at H
          by_cases c27 : x52_20 = true
          rotate_left
          ·replace c27 := Bool.eq_false_iff.mpr c27
           subst c27; have H1 : (five_Pieces.l0 kj20 a0 x6_3 t120 x8_2 l1 (l1.length : Int) (wrap64 (x22_1 + 1))) = some (r1, r2) := by rw [if_neg (show ¬ (false = true) by decide)] at H; exact H
           clear H; have H := H1
           clear H1; have H' := Aside0.mk H; clear H; go_wp2
           go_roundg kj20
           case measure => have := HK1.out; have := HK2.out; have := HK3.out; have := HJ20.out; omega
           case rel => exact ⟨(x6_3), (x8_2), (wrap64 (x22_1 + 1)), (by first | rfl | (simp; done) | (simp [*]; done) | (simp; exact xEmpty_ne _) | (simp [*]; exact xEmpty_ne _)), (by first | rfl | (simp; done) | (simp [*]; done) | (simp; exact xEmpty_ne _) | (simp [*]; exact xEmpty_ne _)), H', ⟨by have := HK1.out; have := HK2.out; have := HK3.out; have := HJ20.out; omega⟩, ⟨by (with_reducible repeat (first | apply Kd.R_alloc | apply Kd.R_drewN | apply Kd.R_drew)); exact Kd.R_mono HO_6.out (fun _ hk => trivial)⟩, ⟨rl HO_7⟩, ⟨by repeat (first | (with_reducible first | exact HB.out | apply below_alloc | apply pw_below_drewN | apply below_drew1 | refine below_set ?_ GE124.out) | exact HB.out)⟩⟩
          subst c27; have H1 : (if 0 ≤ (wrap64 (x11_3 + 1)) then (if (wrap64 (x11_3 + 1)) < (t120.length : Int) then (five_Pieces.l3 kj20 a0 x6_3 t120 x8_2 x11_3 (mn (rd t120 (wrap64 (x11_3 + 1))) (a0.size : Int)) l1 (l1.length : Int) x22_1 ((rd_T38 l1 x22_1).f0.f0) ((rd_T38 l1 x22_1).f0.f1) ((rd_T38 l1 x22_1).f1) ((rd_T38 l1 x22_1).f2)) else (none)) else (none)) = some (r1, r2) := by rw [if_pos rfl] at H; exact H
          clear H; have H := H1
          clear H1; obtain ⟨ji28, hji28⟩ : ∃ j_ : Int, (wrap64 (x11_3 + 1)) = j_ := ⟨_, rfl⟩
          replace H : (if 0 ≤ (ji28) then (if (ji28) < (t120.length : Int) then (five_Pieces.l3 kj20 a0 x6_3 t120 x8_2 x11_3 (mn (rd t120 (ji28)) (a0.size : Int)) l1 (l1.length : Int) x22_1 ((rd_T38 l1 x22_1).f0.f0) ((rd_T38 l1 x22_1).f0.f1) ((rd_T38 l1 x22_1).f1) ((rd_T38 l1 x22_1).f2)) else (none)) else (none)) = some (r1, r2) := by first | (rw [hji28] at H; exact H) | (simp only [hji28] at H ⊢; exact H)
          have hji28w : (IntKind.i64.wrap (x11_3 + 1)) = ji28 := (i64_w _).trans hji28
          by_cases c29 : 0 ≤ (ji28)
          rotate_left
          ·rw [if_neg c29] at H; exact absurd H (by simp)
          rw [if_pos c29] at H; have c29b0 : decide (0 ≤ (ji28)) = true := decide_eq_true c29; clear c29; by_cases c30 : (ji28) < (t120.length : Int)
          rotate_left
          ·rw [if_neg c30] at H; exact absurd H (by simp)
          rw [if_pos c30] at H; have c30b0 : decide ((ji28) < (t120.length : Int)) = true := decide_eq_true c30; clear c30; obtain ⟨ji31, hji31⟩ : ∃ j_ : Int, (mn (rd t120 (ji28)) (a0.size : Int)) = j_ := ⟨_, rfl⟩
          replace H : (five_Pieces.l3 kj20 a0 x6_3 t120 x8_2 x11_3 ji31 l1 (l1.length : Int) x22_1 ((rd_T38 l1 x22_1).f0.f0) ((rd_T38 l1 x22_1).f0.f1) ((rd_T38 l1 x22_1).f1) ((rd_T38 l1 x22_1).f2)) = some (r1, r2) := by first | (rw [hji31] at H; exact H) | (simp only [hji31] at H ⊢; exact H)
          have hji31_ : (if (a0.size : Int) < (rd t120 (ji28)) then (a0.size : Int) else (rd t120 (ji28))) = ji31 := hji31
          have H' := Aside0.mk H; clear H; have p127 : 0 ≤ ((ji28) : Int) := of_decide_eq_true (by first | (with_reducible assumption) | assumption)
          have q127 : (ji28) < (t120.length : Int) := of_decide_eq_true (by first | (with_reducible assumption) | assumption)
          obtain ⟨ad127, e127, hx127_0⟩ := Kd.at_int (Kd.R_reads' HO_7.out).2.2 (ji28) p127 q127
          obtain rfl : ad125 = ad127 := (by injection e127)
          replace p127 := eq_true p127; replace q127 := eq_true q127; go_wp2
          go_loopg [12] kj20 (fun kq v12 w' => ∃ (x12_5 : Int), v12 = .int .i64 x12_5 ∧ Aside0 (five_Pieces.l3 kq a0 x6_3 t120 x8_2 x11_3 x12_5 l1 (l1.length : Int) x22_1 ((rd_T38 l1 x22_1).f0.f0) ((rd_T38 l1 x22_1).f0.f1) ((rd_T38 l1 x22_1).f1) ((rd_T38 l1 x22_1).f2) = some (r1, r2)) ∧ Aside0 (kq ≤ kj20) ∧ Aside0 (Kd.R k38 38 w' w.heap.size (fun k_ => k_ ≠ gb124) u6 x6_3) ∧ Aside0 (Kd.R (Kd.int .i64) 3 w' w.heap.size (fun _ => True) (.slice (some ad125) t120.length co20) t120) ∧ Aside0 (w'.heap[gb124]? = some (.cells #[.int .i64 ((rd_T38 l1 x22_1).f0.f0), .int .i64 ((rd_T38 l1 x22_1).f0.f1), .int .i64 ((rd_T38 l1 x22_1).f1), .int .i64 ((rd_T38 l1 x22_1).f2)] 38 (0, 0))) ∧ Aside0 (Below w.heap.size w w'))
          case atStart => exact ⟨(ji31), (by first | rfl | (simp; done) | (simp only [← hji31] <;> (first | rfl | simp)) | (simp [*]; done)), H', ⟨Nat.le_refl _⟩, ⟨rl HO_6⟩, ⟨rl HO_7⟩, ⟨kl BK124⟩, ⟨by repeat (first | (with_reducible first | exact HB.out | apply below_alloc | apply pw_below_drewN | apply below_drew1 | refine below_set ?_ GE124.out) | exact HB.out)⟩⟩
          case round =>
           clear H'; (try clear c1); (try clear p1); (try clear q1); (try clear hx1); (try clear c2); (try clear p2); (try clear c3); (try clear c4); (try clear p6); (try clear c8); (try clear c8b0); (try clear c9); (try clear c9b0); (try clear c10); (try clear c10b0); (try clear c11); (try clear p12); (try clear q12); (try clear hx12); (try clear c14); (try clear c14b0); (try clear c15); (try clear c15b0); (try clear c16); (try clear c16b0); (try clear c22); (try clear c22b0); (try clear c23); (try clear c23b0); (try clear c24); (try clear c24b0); (try clear c27); (try clear c29); (try clear c29b0); (try clear c30); (try clear c30b0); (try clear hcz12_0); (try clear hcz12_1); (try clear hcz12_2); (try clear hcz12_3); (try clear hfz12_0); (try clear hfz12_1); (try clear hfz12_2); (try clear hfz12_3); (try clear hx123_0); (try clear hx123_1); (try clear hx123_2); (try clear hx123_3); (try clear hx125_0); (try clear hx126_0); (try clear hx127_0); (try clear p1); (try clear p12); (try clear p123); (try clear p125); (try clear p126); (try clear p127); (try clear p2); (try clear p6); (try clear q1); (try clear q12); (try clear q123); (try clear q125); (try clear q126); (try clear q127); (try clear HO_6); (try clear HO_7); (try clear BK124); (try clear HB)
           obtain ⟨x12_5, rfl, HA, HK5, HO_6, HO_7, BK124, HB⟩ := hrel
           cases gk with
           | zero => exact absurd HA.out (by simp [five_Pieces.l3])
           | succ k5 =>
            have H := HA.out
            clear HA; simp only [five_Pieces.l3] at H
            by_cases c32 : 0 ≤ x11_3
            rotate_left
            ·rw [if_neg c32] at H; exact absurd H (by simp)
            rw [if_pos c32] at H; have c32b0 : decide (0 ≤ x11_3) = true := decide_eq_true c32; clear c32; by_cases c33 : x11_3 < (t120.length : Int)
            rotate_left
            ·rw [if_neg c33] at H; exact absurd H (by simp)
            rw [if_pos c33] at H; have c33b0 : decide (x11_3 < (t120.length : Int)) = true := decide_eq_true c33; clear c33; by_cases c34 : x12_5 > (rd t120 x11_3)
            rotate_left
            ·rw [if_neg c34] at H; have c34b0 : decide ((rd t120 x11_3) < x12_5) = false := decide_eq_false c34; clear c34; obtain ⟨ji60, hji60⟩ : ∃ j_ : Int, (mx ((rd_T38 l1 x22_1).f0.f0) (rd t120 x11_3)) = j_ := ⟨_, rfl⟩
             replace H : (if (ji60) < (mn ((rd_T38 l1 x22_1).f0.f1) x12_5) then (if x6_3.length < 4398046511104 then (five_Pieces.l2 k5 a0 (x6_3 ++ [(⟨(⟨ji60, mn ((rd_T38 l1 x22_1).f0.f1) x12_5⟩ : S36), ((rd_T38 l1 x22_1).f1), ((rd_T38 l1 x22_1).f2)⟩ : S38)]) t120 x8_2 (wrap64 (x11_3 + 1)) l1 (l1.length : Int) x22_1 ((rd_T38 l1 x22_1).f0.f0) ((rd_T38 l1 x22_1).f0.f1) ((rd_T38 l1 x22_1).f1) ((rd_T38 l1 x22_1).f2)) else (none)) else (five_Pieces.l2 k5 a0 x6_3 t120 x8_2 (wrap64 (x11_3 + 1)) l1 (l1.length : Int) x22_1 ((rd_T38 l1 x22_1).f0.f0) ((rd_T38 l1 x22_1).f0.f1) ((rd_T38 l1 x22_1).f1) ((rd_T38 l1 x22_1).f2))) = some (r1, r2) := by first | (rw [hji60] at H; exact H) | (simp only [hji60] at H ⊢; exact H)
             have hji60_ : (if ((rd_T38 l1 x22_1).f0.f0) < (rd t120 x11_3) then (rd t120 x11_3) else ((rd_T38 l1 x22_1).f0.f0)) = ji60 := hji60
             obtain ⟨ji61, hji61⟩ : ∃ j_ : Int, (mn ((rd_T38 l1 x22_1).f0.f1) x12_5) = j_ := ⟨_, rfl⟩
             replace H : (if (ji60) < (ji61) then (if x6_3.length < 4398046511104 then (five_Pieces.l2 k5 a0 (x6_3 ++ [(⟨(⟨ji60, ji61⟩ : S36), ((rd_T38 l1 x22_1).f1), ((rd_T38 l1 x22_1).f2)⟩ : S38)]) t120 x8_2 (wrap64 (x11_3 + 1)) l1 (l1.length : Int) x22_1 ((rd_T38 l1 x22_1).f0.f0) ((rd_T38 l1 x22_1).f0.f1) ((rd_T38 l1 x22_1).f1) ((rd_T38 l1 x22_1).f2)) else (none)) else (five_Pieces.l2 k5 a0 x6_3 t120 x8_2 (wrap64 (x11_3 + 1)) l1 (l1.length : Int) x22_1 ((rd_T38 l1 x22_1).f0.f0) ((rd_T38 l1 x22_1).f0.f1) ((rd_T38 l1 x22_1).f1) ((rd_T38 l1 x22_1).f2))) = some (r1, r2) := by first | (rw [hji61] at H; exact H) | (simp only [hji61] at H ⊢; exact H)
             have hji61_ : (if x12_5 < ((rd_T38 l1 x22_1).f0.f1) then x12_5 else ((rd_T38 l1 x22_1).f0.f1)) = ji61 := hji61
             by_cases c62 : (ji60) < (ji61)
             rotate_left
             ·rw [if_neg c62] at H; have c62b0 : decide ((ji60) < (ji61)) = false := decide_eq_false c62; clear c62; have H' := Aside0.mk H; clear H; have p128 : 0 ≤ (x11_3 : Int) := of_decide_eq_true (by first | (with_reducible assumption) | assumption)
              have q128 : x11_3 < (t120.length : Int) := of_decide_eq_true (by first | (with_reducible assumption) | assumption)
              obtain ⟨ad128, e128, hx128_0⟩ := Kd.at_int (Kd.R_reads' HO_7.out).2.2 x11_3 p128 q128
              obtain rfl : ad125 = ad128 := (by injection e128)
              replace p128 := eq_true p128; replace q128 := eq_true q128; try go_wp2
              have n0_ := Aside0.mk (Kd.R_drew HO_6.out); have n1_ := Aside0.mk (Kd.R_drew HO_7.out); have n2_ := Aside0.mk (blk_drew BK124.out); have n3_ := Aside0.mk (below_drew1 HB.out); clear HO_6; clear HO_7; clear BK124; clear HB; have HO_6 := n0_; have HO_7 := n1_; have BK124 := n2_; have HB := n3_; clear n0_ n1_ n2_ n3_; have p134 : 0 ≤ (x11_3 : Int) := of_decide_eq_true (by first | (with_reducible assumption) | assumption)
              have q134 : x11_3 < (t120.length : Int) := of_decide_eq_true (by first | (with_reducible assumption) | assumption)
              obtain ⟨ad134, e134, hx134_0⟩ := Kd.at_int (Kd.R_reads' HO_7.out).2.2 x11_3 p134 q134
              obtain rfl : ad125 = ad134 := (by injection e134)
              replace p134 := eq_true p134; replace q134 := eq_true q134; refine start_ (n := 16) (S := fun w' => w'.cell? ⟨gb124, 0, none⟩ = some (.int .i64 ((rd_T38 l1 x22_1).f0.f0)) ∧ w'.cell? ⟨gb124, 1, none⟩ = some (.int .i64 ((rd_T38 l1 x22_1).f0.f1)) ∧ w'.cell? ⟨gb124, 2, none⟩ = some (.int .i64 ((rd_T38 l1 x22_1).f1)) ∧ w'.cell? ⟨gb124, 3, none⟩ = some (.int .i64 ((rd_T38 l1 x22_1).f2)) ∧ w'.cell? (ad125.add (x11_3).toNat) = some (.int .i64 (rd t120 x11_3))) (ds := []) (bz 16 0) (by kernel_rfl) rfl rfl ⟨(blk_cell BK124.out 0).trans rfl, (blk_cell BK124.out 1).trans rfl, (blk_cell BK124.out 2).trans rfl, (blk_cell BK124.out 3).trans rfl, hx134_0⟩ (fun hHeld => ?_); refine with_tabW five_Pieces.tab17 five_Pieces.bits17 (fun HT_ HW_ => ?_)
              generalize wr.drew = w72 at HO_6 HO_7 BK124 HB hx134_0 hHeld ⊢
              refine pu 0 (some 85) (bz 16 1) HT_ rfl rfl ?_; refine pu 1 (some 86) (bz 16 3) HT_ rfl rfl ?_; refine pu 3 (some 88) (bz 16 11) HT_ rfl rfl ?_; refine pu 4 (some 89) (bz 16 27) HT_ rfl rfl ?_; refine pu 5 (some 90) (bz 16 59) HT_ rfl rfl ?_; refine pu 8 (some 93) (bz 16 315) HT_ rfl rfl ?_; refine pu 9 (some 94) (bz 16 827) HT_ rfl rfl ?_; refine pu 11 (some 96) (bz 16 2875) HT_ rfl rfl ?_; refine tk 2 (some 87) (bz 16 2879) HT_ HW_ rfl rfl hHeld ?_; refine tk 6 (some 91) (bz 16 2943) HT_ HW_ rfl rfl hHeld ?_; refine pu 7 (some 92) (bz 16 3071) HT_ rfl rfl ?_; refine tk 10 (some 95) (bz 16 4095) HT_ HW_ rfl rfl hHeld ?_; refine pu 12 (some 97) (bz 16 8191) HT_ rfl rfl ?_; refine pu 13 (some 98) (bz 16 16383) HT_ rfl rfl ?_; refine one_ (i := 14) (N := some 13) (bz 16 32767) rfl rfl (one_of HT_.out (by kernel_rfl)) (by decide) (fun K hK => ?_)
              refine box_step ?hg (N := 13) ?hd (cs := #[.int .i64 0, .int .i64 0]) (t := 36) ?hr ?_; (case hd => rfl); (case hg => rfl); (case hr => first | (go_simp; done) | (go_simp; rfl))
              intro gb135 hg w73 hbox hb
              have HS4_ := (hb.cell (World.block_lt_of_cell? _ _ (hHeld.2.2.2.2))).trans (hHeld.2.2.2.2)
              have n0_ := Aside0.mk (Kd.R_below (rl HO_6) hb); have n1_ := Aside0.mk (Kd.R_below (rl HO_7) hb); have n2_ := Aside0.mk (blk_below (g := gb124) (o := .cells #[.int .i64 ((rd_T38 l1 x22_1).f0.f0), .int .i64 ((rd_T38 l1 x22_1).f0.f1), .int .i64 ((rd_T38 l1 x22_1).f1), .int .i64 ((rd_T38 l1 x22_1).f2)] 38 (0, 0)) (kl BK124) hb); have n3_ := Aside0.mk (below_step (by repeat (first | (with_reducible first | exact HB.out | apply below_alloc | apply pw_below_drewN | apply below_drew1 | refine below_set ?_ GE124.out) | exact HB.out)) hb); have n4_ := Aside0.mk (hbox); have n5_ := Aside0.mk ((by rw [hg]; exact (below_size (by repeat (first | (with_reducible first | exact HB.out | apply below_alloc | apply pw_below_drewN | apply below_drew1 | refine below_set ?_ GE124.out) | exact HB.out))) : w.heap.size ≤ gb135)); have n6_ := Aside0.mk ((by rw [hg]; exact (below_size (by repeat (first | (with_reducible first | exact HB.out | apply below_alloc | apply pw_below_drewN | apply below_drew1 | refine below_set ?_ GE124.out) | exact HB.out))) : w.heap.size ≤ gb135)); have n7_ := Aside0.mk ((by rw [hg]; exact Nat.ne_of_lt (blk_lt (g := gb124) (o := .cells #[.int .i64 ((rd_T38 l1 x22_1).f0.f0), .int .i64 ((rd_T38 l1 x22_1).f0.f1), .int .i64 ((rd_T38 l1 x22_1).f1), .int .i64 ((rd_T38 l1 x22_1).f2)] 38 (0, 0)) (kl BK124)) : gb124 ≠ gb135)); have n8_ := Aside0.mk ((by rw [hg]; exact Nat.ne_of_gt (blk_lt (g := gb124) (o := .cells #[.int .i64 ((rd_T38 l1 x22_1).f0.f0), .int .i64 ((rd_T38 l1 x22_1).f0.f1), .int .i64 ((rd_T38 l1 x22_1).f1), .int .i64 ((rd_T38 l1 x22_1).f2)] 38 (0, 0)) (kl BK124)) : gb135 ≠ gb124)); clear HO_6; clear HO_7; clear BK124; clear HB; have HO_6 := n0_; have HO_7 := n1_; have BK124 := n2_; have HB := n3_; have BK135 := n4_; have GW135 := n5_; have GE135 := n6_; have NB124_135 := n7_; have NB135_124 := n8_; clear n0_ n1_ n2_ n3_ n4_ n5_ n6_ n7_ n8_; clear hb hbox hg; refine hK.out _ _ ⟨(blk_cell BK124.out 0).trans rfl, (blk_cell BK124.out 1).trans rfl, (blk_cell BK124.out 2).trans rfl, (blk_cell BK124.out 3).trans rfl, HS4_⟩ (fun hHeld => ?_)
              clear hK K; refine norm_ (a' := ?_) ?_ ?_
              rotate_left
              ·show Act.put _ (some 13) _ = _
               simp only [Act.put, List.setIfInBounds_toArray, List.set_cons_zero, List.set_cons_succ, i64_w, i32_w]
               rfl
              refine one_ (i := 15) (N := none) (bz 16 65535) rfl rfl (one_of HT_.out (by kernel_rfl)) (by decide) (fun K hK => ?_)
              have hs74 : w73.cell? ⟨gb135, 0, none⟩ = some (.int .i64 0) := (blk_cell BK135.out 0).trans rfl
              have hfs74 := blk_frozen BK135.out 0
              have hns74_0 := NB124_135.out
              have hms74_0 := NB135_124.out
              have hs75 : w73.cell? ⟨gb135, 1, none⟩ = some (.int .i64 0) := (blk_cell BK135.out 1).trans rfl
              have hfs75 := blk_frozen BK135.out 1
              have hns75_0 := NB124_135.out
              have hms75_0 := NB135_124.out
              refine skip_ (w1 := ?_) (by rfl) rfl ?_ ?_
              rotate_left
              ·go_simp
               rfl
              refine hK.out _ _ ⟨((cell_far (p := ⟨gb135, _, none⟩) NB124_135.out _).trans (((cell_far (p := ⟨gb135, _, none⟩) NB124_135.out _).trans (hHeld.1)))), ((cell_far (p := ⟨gb135, _, none⟩) NB124_135.out _).trans (((cell_far (p := ⟨gb135, _, none⟩) NB124_135.out _).trans (hHeld.2.1)))), ((cell_far (p := ⟨gb135, _, none⟩) NB124_135.out _).trans (((cell_far (p := ⟨gb135, _, none⟩) NB124_135.out _).trans (hHeld.2.2.1)))), ((cell_far (p := ⟨gb135, _, none⟩) NB124_135.out _).trans (((cell_far (p := ⟨gb135, _, none⟩) NB124_135.out _).trans (hHeld.2.2.2.1)))), ((cell_far (p := ⟨gb135, _, none⟩) (by first | exact Kd.own_blk (Kd.R_ne HO_7.out BK135.out (by decide)) | (rw [add_block]; exact Kd.own_blk (Kd.R_ne HO_7.out BK135.out (by decide))) | (show (Addr.add _ _).block ≠ _; rw [add_block]; exact Kd.own_blk (Kd.R_ne HO_7.out BK135.out (by decide))) | (dsimp only; exact Kd.own_blk (Kd.R_ne HO_7.out BK135.out (by decide)))) _).trans (((cell_far (p := ⟨gb135, _, none⟩) (by first | exact Kd.own_blk (Kd.R_ne HO_7.out BK135.out (by decide)) | (rw [add_block]; exact Kd.own_blk (Kd.R_ne HO_7.out BK135.out (by decide))) | (show (Addr.add _ _).block ≠ _; rw [add_block]; exact Kd.own_blk (Kd.R_ne HO_7.out BK135.out (by decide))) | (dsimp only; exact Kd.own_blk (Kd.R_ne HO_7.out BK135.out (by decide)))) _).trans (hHeld.2.2.2.2))))⟩ (fun hHeld => ?_)
              clear hK K; refine done_ (done_of HT_.out (by kernel_rfl)) ?_
              have hnb76 := NB135_124.out
              have hnc76 := NB124_135.out
              have hcz77_0 : w73.cell? ⟨gb135, 0, none⟩ = some (.int .i64 0) := (blk_cell BK135.out 0).trans rfl
              have hcz77_1 : w73.cell? ⟨gb135, 1, none⟩ = some (.int .i64 0) := (blk_cell BK135.out 1).trans rfl
              have hfz77_0 := blk_frozen BK135.out 0
              have hfz77_1 := blk_frozen BK135.out 1
              try go_wp2
              go_roundg k5
              case measure => have := HK1.out; have := HK2.out; have := HK3.out; have := HJ20.out; have := HK5.out; omega
              case rel => exact ⟨(x6_3), (wrap64 (x11_3 + 1)), (by first | rfl | (simp; done) | (simp [*]; done) | (simp; exact xEmpty_ne _) | (simp [*]; exact xEmpty_ne _)), H', ⟨by have := HK1.out; have := HK2.out; have := HK3.out; have := HJ20.out; have := HK5.out; omega⟩, ⟨by (with_reducible repeat (first | apply Kd.R_alloc | apply Kd.R_drewN | apply Kd.R_drew)); exact Kd.R_mono (Kd.R_far (p := ⟨gb135, 1, none⟩) (Kd.R_far (p := ⟨gb135, 0, none⟩) (Kd.R_types HO_6.out BK135.out (by decide)) (fun _ hk => hk.2) (.int .i64 ji60)) (fun _ hk => hk.2) (.int .i64 ji61)) (fun _ hk => hk.1)⟩, ⟨by (with_reducible repeat (first | apply Kd.R_alloc | apply Kd.R_drewN | apply Kd.R_drew)); exact Kd.R_mono (Kd.R_far (p := ⟨gb135, 1, none⟩) (Kd.R_far (p := ⟨gb135, 0, none⟩) (Kd.R_types HO_7.out BK135.out (by decide)) (fun _ hk => hk.2) (.int .i64 ji60)) (fun _ hk => hk.2) (.int .i64 ji61)) (fun _ hk => trivial)⟩, ⟨by (with_reducible repeat (first | refine blk_drewN ?_ _ | refine blk_drew ?_ | refine blk_alloc ?_ _)); refine blk_far ?_ NB124_135.out _; (with_reducible repeat (first | refine blk_drewN ?_ _ | refine blk_drew ?_ | refine blk_alloc ?_ _)); refine blk_far ?_ NB124_135.out _; (with_reducible repeat (first | refine blk_drewN ?_ _ | refine blk_drew ?_ | refine blk_alloc ?_ _)); exact BK124.out⟩, ⟨by repeat (first | (with_reducible first | exact HB.out | apply below_alloc | apply pw_below_drewN | apply below_drew1 | refine below_set ?_ GE124.out | refine below_set ?_ GE135.out) | exact HB.out)⟩⟩
             rw [if_pos c62] at H; have c62b0 : decide ((ji60) < (ji61)) = true := decide_eq_true c62; clear c62; by_cases c63 : x6_3.length < 4398046511104
             rotate_left
             ·rw [if_neg c63] at H; exact absurd H (by simp)
             rw [if_pos c63] at H; have LMc63 := Aside0.mk c63; clear c63; obtain ⟨y136, hy136⟩ : ∃ y_ : List (S38), y_ = (x6_3 ++ [(⟨(⟨ji60, ji61⟩ : S36), ((rd_T38 l1 x22_1).f1), ((rd_T38 l1 x22_1).f2)⟩ : S38)]) := ⟨_, rfl⟩
             replace H : (five_Pieces.l2 k5 a0 y136 t120 x8_2 (wrap64 (x11_3 + 1)) l1 (l1.length : Int) x22_1 ((rd_T38 l1 x22_1).f0.f0) ((rd_T38 l1 x22_1).f0.f1) ((rd_T38 l1 x22_1).f1) ((rd_T38 l1 x22_1).f2)) = some (r1, r2) := by first | (rw [hy136]; with_reducible exact H) | (have H2_ := (Option.bind_some _ _).symm.trans H; rw [hy136]; with_reducible exact H2_) | (have H2_ := (Option.bind_some _ _).symm.trans H; with_reducible exact H2_) | with_reducible exact H | (rw [hy136]; exact H) | exact H
             have Ny136 := Aside0.mk hy136; clear hy136; have H' := Aside0.mk H; clear H; have p128 : 0 ≤ (x11_3 : Int) := of_decide_eq_true (by first | (with_reducible assumption) | assumption)
             have q128 : x11_3 < (t120.length : Int) := of_decide_eq_true (by first | (with_reducible assumption) | assumption)
             obtain ⟨ad128, e128, hx128_0⟩ := Kd.at_int (Kd.R_reads' HO_7.out).2.2 x11_3 p128 q128
             obtain rfl : ad125 = ad128 := (by injection e128)
             replace p128 := eq_true p128; replace q128 := eq_true q128; try go_wp2
             have n0_ := Aside0.mk (Kd.R_drew HO_6.out); have n1_ := Aside0.mk (Kd.R_drew HO_7.out); have n2_ := Aside0.mk (blk_drew BK124.out); have n3_ := Aside0.mk (below_drew1 HB.out); clear HO_6; clear HO_7; clear BK124; clear HB; have HO_6 := n0_; have HO_7 := n1_; have BK124 := n2_; have HB := n3_; clear n0_ n1_ n2_ n3_; have p134 : 0 ≤ (x11_3 : Int) := of_decide_eq_true (by first | (with_reducible assumption) | assumption)
             have q134 : x11_3 < (t120.length : Int) := of_decide_eq_true (by first | (with_reducible assumption) | assumption)
             obtain ⟨ad134, e134, hx134_0⟩ := Kd.at_int (Kd.R_reads' HO_7.out).2.2 x11_3 p134 q134
             obtain rfl : ad125 = ad134 := (by injection e134)
             replace p134 := eq_true p134; replace q134 := eq_true q134; refine start_ (n := 16) (S := fun w' => w'.cell? ⟨gb124, 0, none⟩ = some (.int .i64 ((rd_T38 l1 x22_1).f0.f0)) ∧ w'.cell? ⟨gb124, 1, none⟩ = some (.int .i64 ((rd_T38 l1 x22_1).f0.f1)) ∧ w'.cell? ⟨gb124, 2, none⟩ = some (.int .i64 ((rd_T38 l1 x22_1).f1)) ∧ w'.cell? ⟨gb124, 3, none⟩ = some (.int .i64 ((rd_T38 l1 x22_1).f2)) ∧ w'.cell? (ad125.add (x11_3).toNat) = some (.int .i64 (rd t120 x11_3))) (ds := []) (bz 16 0) (by kernel_rfl) rfl rfl ⟨(blk_cell BK124.out 0).trans rfl, (blk_cell BK124.out 1).trans rfl, (blk_cell BK124.out 2).trans rfl, (blk_cell BK124.out 3).trans rfl, hx134_0⟩ (fun hHeld => ?_); refine with_tabW five_Pieces.tab17 five_Pieces.bits17 (fun HT_ HW_ => ?_)
             generalize wr.drew = w64 at HO_6 HO_7 BK124 HB hx134_0 hHeld ⊢
             refine pu 0 (some 85) (bz 16 1) HT_ rfl rfl ?_; refine pu 1 (some 86) (bz 16 3) HT_ rfl rfl ?_; refine pu 3 (some 88) (bz 16 11) HT_ rfl rfl ?_; refine pu 4 (some 89) (bz 16 27) HT_ rfl rfl ?_; refine pu 5 (some 90) (bz 16 59) HT_ rfl rfl ?_; refine pu 8 (some 93) (bz 16 315) HT_ rfl rfl ?_; refine pu 9 (some 94) (bz 16 827) HT_ rfl rfl ?_; refine pu 11 (some 96) (bz 16 2875) HT_ rfl rfl ?_; refine tk 2 (some 87) (bz 16 2879) HT_ HW_ rfl rfl hHeld ?_; refine tk 6 (some 91) (bz 16 2943) HT_ HW_ rfl rfl hHeld ?_; refine pu 7 (some 92) (bz 16 3071) HT_ rfl rfl ?_; refine tk 10 (some 95) (bz 16 4095) HT_ HW_ rfl rfl hHeld ?_; refine pu 12 (some 97) (bz 16 8191) HT_ rfl rfl ?_; refine pu 13 (some 98) (bz 16 16383) HT_ rfl rfl ?_; refine one_ (i := 14) (N := some 13) (bz 16 32767) rfl rfl (one_of HT_.out (by kernel_rfl)) (by decide) (fun K hK => ?_)
             refine box_step ?hg (N := 13) ?hd (cs := #[.int .i64 0, .int .i64 0]) (t := 36) ?hr ?_; (case hd => rfl); (case hg => rfl); (case hr => first | (go_simp; done) | (go_simp; rfl))
             intro gb135 hg w65 hbox hb
             have HS4_ := (hb.cell (World.block_lt_of_cell? _ _ (hHeld.2.2.2.2))).trans (hHeld.2.2.2.2)
             have n0_ := Aside0.mk (Kd.R_below (rl HO_6) hb); have n1_ := Aside0.mk (Kd.R_below (rl HO_7) hb); have n2_ := Aside0.mk (blk_below (g := gb124) (o := .cells #[.int .i64 ((rd_T38 l1 x22_1).f0.f0), .int .i64 ((rd_T38 l1 x22_1).f0.f1), .int .i64 ((rd_T38 l1 x22_1).f1), .int .i64 ((rd_T38 l1 x22_1).f2)] 38 (0, 0)) (kl BK124) hb); have n3_ := Aside0.mk (below_step (by repeat (first | (with_reducible first | exact HB.out | apply below_alloc | apply pw_below_drewN | apply below_drew1 | refine below_set ?_ GE124.out) | exact HB.out)) hb); have n4_ := Aside0.mk (hbox); have n5_ := Aside0.mk ((by rw [hg]; exact (below_size (by repeat (first | (with_reducible first | exact HB.out | apply below_alloc | apply pw_below_drewN | apply below_drew1 | refine below_set ?_ GE124.out) | exact HB.out))) : w.heap.size ≤ gb135)); have n6_ := Aside0.mk ((by rw [hg]; exact (below_size (by repeat (first | (with_reducible first | exact HB.out | apply below_alloc | apply pw_below_drewN | apply below_drew1 | refine below_set ?_ GE124.out) | exact HB.out))) : w.heap.size ≤ gb135)); have n7_ := Aside0.mk ((by rw [hg]; exact Nat.ne_of_lt (blk_lt (g := gb124) (o := .cells #[.int .i64 ((rd_T38 l1 x22_1).f0.f0), .int .i64 ((rd_T38 l1 x22_1).f0.f1), .int .i64 ((rd_T38 l1 x22_1).f1), .int .i64 ((rd_T38 l1 x22_1).f2)] 38 (0, 0)) (kl BK124)) : gb124 ≠ gb135)); have n8_ := Aside0.mk ((by rw [hg]; exact Nat.ne_of_gt (blk_lt (g := gb124) (o := .cells #[.int .i64 ((rd_T38 l1 x22_1).f0.f0), .int .i64 ((rd_T38 l1 x22_1).f0.f1), .int .i64 ((rd_T38 l1 x22_1).f1), .int .i64 ((rd_T38 l1 x22_1).f2)] 38 (0, 0)) (kl BK124)) : gb135 ≠ gb124)); clear HO_6; clear HO_7; clear BK124; clear HB; have HO_6 := n0_; have HO_7 := n1_; have BK124 := n2_; have HB := n3_; have BK135 := n4_; have GW135 := n5_; have GE135 := n6_; have NB124_135 := n7_; have NB135_124 := n8_; clear n0_ n1_ n2_ n3_ n4_ n5_ n6_ n7_ n8_; clear hb hbox hg; refine hK.out _ _ ⟨(blk_cell BK124.out 0).trans rfl, (blk_cell BK124.out 1).trans rfl, (blk_cell BK124.out 2).trans rfl, (blk_cell BK124.out 3).trans rfl, HS4_⟩ (fun hHeld => ?_)
             clear hK K; refine norm_ (a' := ?_) ?_ ?_
             rotate_left
             ·show Act.put _ (some 13) _ = _
              simp only [Act.put, List.setIfInBounds_toArray, List.set_cons_zero, List.set_cons_succ, i64_w, i32_w]
              rfl
             refine one_ (i := 15) (N := none) (bz 16 65535) rfl rfl (one_of HT_.out (by kernel_rfl)) (by decide) (fun K hK => ?_)
             have hs66 : w65.cell? ⟨gb135, 0, none⟩ = some (.int .i64 0) := (blk_cell BK135.out 0).trans rfl
             have hfs66 := blk_frozen BK135.out 0
             have hns66_0 := NB124_135.out
             have hms66_0 := NB135_124.out
             have hs67 : w65.cell? ⟨gb135, 1, none⟩ = some (.int .i64 0) := (blk_cell BK135.out 1).trans rfl
             have hfs67 := blk_frozen BK135.out 1
             have hns67_0 := NB124_135.out
             have hms67_0 := NB135_124.out
             refine skip_ (w1 := ?_) (by rfl) rfl ?_ ?_
             rotate_left
             ·go_simp
              rfl
             refine hK.out _ _ ⟨((cell_far (p := ⟨gb135, _, none⟩) NB124_135.out _).trans (((cell_far (p := ⟨gb135, _, none⟩) NB124_135.out _).trans (hHeld.1)))), ((cell_far (p := ⟨gb135, _, none⟩) NB124_135.out _).trans (((cell_far (p := ⟨gb135, _, none⟩) NB124_135.out _).trans (hHeld.2.1)))), ((cell_far (p := ⟨gb135, _, none⟩) NB124_135.out _).trans (((cell_far (p := ⟨gb135, _, none⟩) NB124_135.out _).trans (hHeld.2.2.1)))), ((cell_far (p := ⟨gb135, _, none⟩) NB124_135.out _).trans (((cell_far (p := ⟨gb135, _, none⟩) NB124_135.out _).trans (hHeld.2.2.2.1)))), ((cell_far (p := ⟨gb135, _, none⟩) (by first | exact Kd.own_blk (Kd.R_ne HO_7.out BK135.out (by decide)) | (rw [add_block]; exact Kd.own_blk (Kd.R_ne HO_7.out BK135.out (by decide))) | (show (Addr.add _ _).block ≠ _; rw [add_block]; exact Kd.own_blk (Kd.R_ne HO_7.out BK135.out (by decide))) | (dsimp only; exact Kd.own_blk (Kd.R_ne HO_7.out BK135.out (by decide)))) _).trans (((cell_far (p := ⟨gb135, _, none⟩) (by first | exact Kd.own_blk (Kd.R_ne HO_7.out BK135.out (by decide)) | (rw [add_block]; exact Kd.own_blk (Kd.R_ne HO_7.out BK135.out (by decide))) | (show (Addr.add _ _).block ≠ _; rw [add_block]; exact Kd.own_blk (Kd.R_ne HO_7.out BK135.out (by decide))) | (dsimp only; exact Kd.own_blk (Kd.R_ne HO_7.out BK135.out (by decide)))) _).trans (hHeld.2.2.2.2))))⟩ (fun hHeld => ?_)
             clear hK K; refine done_ (done_of HT_.out (by kernel_rfl)) ?_
             have hnb68 := NB135_124.out
             have hnc68 := NB124_135.out
             have hcz69_0 : w65.cell? ⟨gb135, 0, none⟩ = some (.int .i64 0) := (blk_cell BK135.out 0).trans rfl
             have hcz69_1 : w65.cell? ⟨gb135, 1, none⟩ = some (.int .i64 0) := (blk_cell BK135.out 1).trans rfl
             have hfz69_0 := blk_frozen BK135.out 0
             have hfz69_1 := blk_frozen BK135.out 1
             have hcz70_0 : w65.cell? ⟨gb124, 0, none⟩ = some (.int .i64 ((rd_T38 l1 x22_1).f0.f0)) := (blk_cell BK124.out 0).trans rfl
             have hcz70_1 : w65.cell? ⟨gb124, 1, none⟩ = some (.int .i64 ((rd_T38 l1 x22_1).f0.f1)) := (blk_cell BK124.out 1).trans rfl
             have hcz70_2 : w65.cell? ⟨gb124, 2, none⟩ = some (.int .i64 ((rd_T38 l1 x22_1).f1)) := (blk_cell BK124.out 2).trans rfl
             have hcz70_3 : w65.cell? ⟨gb124, 3, none⟩ = some (.int .i64 ((rd_T38 l1 x22_1).f2)) := (blk_cell BK124.out 3).trans rfl
             have hfz70_0 := blk_frozen BK124.out 0
             have hfz70_1 := blk_frozen BK124.out 1
             have hfz70_2 := blk_frozen BK124.out 2
             have hfz70_3 := blk_frozen BK124.out 3
             try go_wp2_with (first | ((with_reducible refine gate_builtin (b := .append) (xs := #[.tmp 104, .tmp 111]) rfl ?_); at_builtin; refine Kd.R_append k38 (w0 := w) w.heap.size rfl (.tmp 104) (.tmp 111) 22 38 (.agg #[(.int .i64 0), (.int .i64 0), (.int .i64 0), (.int .i64 0)]) 32 rfl Tryd.underlying22 info38 rfl (by decide) (by omega) u6 x6_3 (⟨(⟨ji60, ji61⟩ : S36), ((rd_T38 l1 x22_1).f1), ((rd_T38 l1 x22_1).f2)⟩ : S38) [.int .i64 ji60, .int .i64 ji61, .int .i64 ((rd_T38 l1 x22_1).f1), .int .i64 ((rd_T38 l1 x22_1).f2)] (fun k_ => k_ ≠ gb124) (fun _ => False) rfl (by first | (go_simp; done) | (go_simp; rfl)) ?aP (fun _ hk => hk.elim) ?aF ?aO ?aB ?aS ?aL ?_; (case aP => exact k38_mkM _ _ _ (⟨(⟨ji60, ji61⟩ : S36), ((rd_T38 l1 x22_1).f1), ((rd_T38 l1 x22_1).f2)⟩ : S38)); (case aB => exact (by repeat (first | (with_reducible first | exact HB.out | apply below_alloc | apply pw_below_drewN | apply below_drew1 | refine below_set ?_ GE124.out | refine below_set ?_ GE135.out) | exact HB.out))); (case aF => exact (fun k_ hk => Kd.freshB (g := gb124) (o := .cells #[.int .i64 ((rd_T38 l1 x22_1).f0.f0), .int .i64 ((rd_T38 l1 x22_1).f0.f1), .int .i64 ((rd_T38 l1 x22_1).f1), .int .i64 ((rd_T38 l1 x22_1).f2)] 38 (0, 0)) (by (with_reducible repeat (first | refine blk_drewN ?_ _ | refine blk_drew ?_ | refine blk_alloc ?_ _)); refine blk_far ?_ NB124_135.out _; (with_reducible repeat (first | refine blk_drewN ?_ _ | refine blk_drew ?_ | refine blk_alloc ?_ _)); refine blk_far ?_ NB124_135.out _; (with_reducible repeat (first | refine blk_drewN ?_ _ | refine blk_drew ?_ | refine blk_alloc ?_ _)); exact BK124.out) k_ hk)); (case aO => exact (by (with_reducible repeat (first | apply Kd.R_alloc | apply Kd.R_drewN | apply Kd.R_drew)); exact Kd.R_mono (Kd.R_far (p := ⟨gb135, 1, none⟩) (Kd.R_far (p := ⟨gb135, 0, none⟩) (Kd.R_types HO_6.out BK135.out (by decide)) (fun _ hk => hk.2) (.int .i64 ji60)) (fun _ hk => hk.2) (.int .i64 ji61)) (fun _ hk => hk.1))); (case aS => exact (below_size (by repeat (first | (with_reducible first | exact HB.out | apply below_alloc | apply pw_below_drewN | apply below_drew1 | refine below_set ?_ GE124.out | refine below_set ?_ GE135.out) | exact HB.out)))); (case aL => have := LMc63.out; omega); intro v137 w71 ho hb hg hat; rw [← Ny136.out] at ho; have n0_ := Aside0.mk (Kd.R_over' (by (with_reducible repeat (first | apply Kd.R_alloc | apply Kd.R_drewN | apply Kd.R_drew)); exact (Kd.R_mono (Kd.R_far (p := ⟨gb135, 1, none⟩) (Kd.R_far (p := ⟨gb135, 0, none⟩) (Kd.R_types HO_7.out BK135.out (by decide)) (fun _ hk => hk.2) (.int .i64 ji60)) (fun _ hk => hk.2) (.int .i64 ji61)) (fun _ h_ => h_.1))) (Kd.R_typed (by (with_reducible repeat (first | apply Kd.R_alloc | apply Kd.R_drewN | apply Kd.R_drew)); exact (Kd.R_mono (Kd.R_far (p := ⟨gb135, 1, none⟩) (Kd.R_far (p := ⟨gb135, 0, none⟩) (Kd.R_types HO_6.out BK135.out (by decide)) (fun _ hk => hk.2) (.int .i64 ji60)) (fun _ hk => hk.2) (.int .i64 ji61)) (fun _ h_ => h_.1)))) (by decide) hg); have n1_ := Aside0.mk (blk_grown (g := gb124) (o := .cells #[.int .i64 ((rd_T38 l1 x22_1).f0.f0), .int .i64 ((rd_T38 l1 x22_1).f0.f1), .int .i64 ((rd_T38 l1 x22_1).f1), .int .i64 ((rd_T38 l1 x22_1).f2)] 38 (0, 0)) (by (with_reducible repeat (first | refine blk_drewN ?_ _ | refine blk_drew ?_ | refine blk_alloc ?_ _)); refine blk_far ?_ NB124_135.out _; (with_reducible repeat (first | refine blk_drewN ?_ _ | refine blk_drew ?_ | refine blk_alloc ?_ _)); refine blk_far ?_ NB124_135.out _; (with_reducible repeat (first | refine blk_drewN ?_ _ | refine blk_drew ?_ | refine blk_alloc ?_ _)); exact BK124.out) hg (Kd.R_away HO_6.out (fun _ hk => hk))); have n2_ := Aside0.mk (blk_grown (g := gb135) (o := .cells #[.int .i64 ji60, .int .i64 ji61] 36 (0, 0)) (by (with_reducible repeat (first | refine blk_drewN ?_ _ | refine blk_drew ?_ | refine blk_alloc ?_ _)); refine blk_put (cs := #[.int .i64 ji60, .int .i64 0]) ?_ 1 _ rfl; (with_reducible repeat (first | refine blk_drewN ?_ _ | refine blk_drew ?_ | refine blk_alloc ?_ _)); refine blk_put (cs := #[.int .i64 0, .int .i64 0]) ?_ 0 _ rfl; (with_reducible repeat (first | refine blk_drewN ?_ _ | refine blk_drew ?_ | refine blk_alloc ?_ _)); exact BK135.out) hg (Kd.R_ne HO_6.out BK135.out (by decide))); have n3_ := Aside0.mk (hb); have n4_ := Aside0.mk (ho); clear HO_7; clear BK124; clear BK135; clear HB; clear HO_6; have HO_7 := n0_; have BK124 := n1_; have BK135 := n2_; have HB := n3_; have HO138 := n4_; clear n0_ n1_ n2_ n3_ n4_; clear ho hb hg hat))
             go_roundg k5
             case measure => have := HK1.out; have := HK2.out; have := HK3.out; have := HJ20.out; have := HK5.out; omega
             case rel => exact ⟨(y136), (wrap64 (x11_3 + 1)), (by first | rfl | (simp; done) | (simp [*]; done) | (simp; exact xEmpty_ne _) | (simp [*]; exact xEmpty_ne _)), H', ⟨by have := HK1.out; have := HK2.out; have := HK3.out; have := HJ20.out; have := HK5.out; omega⟩, ⟨rl HO138⟩, ⟨rl HO_7⟩, ⟨kl BK124⟩, ⟨by repeat (first | (with_reducible first | exact HB.out | apply below_alloc | apply pw_below_drewN | apply below_drew1 | refine below_set ?_ GE124.out | refine below_set ?_ GE135.out) | exact HB.out)⟩⟩
            rw [if_pos c34] at H; have c34b0 : decide ((rd t120 x11_3) < x12_5) = true := decide_eq_true c34; clear c34; obtain ⟨ji35, hji35⟩ : ∃ j_ : Int, (wrap64 (x12_5 - 1)) = j_ := ⟨_, rfl⟩
            replace H : (if 0 ≤ (ji35) then (if (ji35) < (a0.size : Int) then (if (bt a0 (ji35)) = 10 then (five_Pieces.l3 k5 a0 x6_3 t120 x8_2 x11_3 ji35 l1 (l1.length : Int) x22_1 ((rd_T38 l1 x22_1).f0.f0) ((rd_T38 l1 x22_1).f0.f1) ((rd_T38 l1 x22_1).f1) ((rd_T38 l1 x22_1).f2)) else (if (bt a0 (ji35)) = 13 then (five_Pieces.l3 k5 a0 x6_3 t120 x8_2 x11_3 ji35 l1 (l1.length : Int) x22_1 ((rd_T38 l1 x22_1).f0.f0) ((rd_T38 l1 x22_1).f0.f1) ((rd_T38 l1 x22_1).f1) ((rd_T38 l1 x22_1).f2)) else (if (mx ((rd_T38 l1 x22_1).f0.f0) (rd t120 x11_3)) < (mn ((rd_T38 l1 x22_1).f0.f1) x12_5) then (if x6_3.length < 4398046511104 then (five_Pieces.l2 k5 a0 (x6_3 ++ [(⟨(⟨mx ((rd_T38 l1 x22_1).f0.f0) (rd t120 x11_3), mn ((rd_T38 l1 x22_1).f0.f1) x12_5⟩ : S36), ((rd_T38 l1 x22_1).f1), ((rd_T38 l1 x22_1).f2)⟩ : S38)]) t120 x8_2 (wrap64 (x11_3 + 1)) l1 (l1.length : Int) x22_1 ((rd_T38 l1 x22_1).f0.f0) ((rd_T38 l1 x22_1).f0.f1) ((rd_T38 l1 x22_1).f1) ((rd_T38 l1 x22_1).f2)) else (none)) else (five_Pieces.l2 k5 a0 x6_3 t120 x8_2 (wrap64 (x11_3 + 1)) l1 (l1.length : Int) x22_1 ((rd_T38 l1 x22_1).f0.f0) ((rd_T38 l1 x22_1).f0.f1) ((rd_T38 l1 x22_1).f1) ((rd_T38 l1 x22_1).f2))))) else (none)) else (none)) = some (r1, r2) := by first | (rw [hji35] at H; exact H) | (simp only [hji35] at H ⊢; exact H)
            have hji35w : (IntKind.i64.wrap (x12_5 - 1)) = ji35 := (i64_w _).trans hji35
            by_cases c36 : 0 ≤ (ji35)
            rotate_left
            ·rw [if_neg c36] at H; exact absurd H (by simp)
            rw [if_pos c36] at H; have c36b0 : decide (0 ≤ (ji35)) = true := decide_eq_true c36; clear c36; by_cases c37 : (ji35) < (a0.size : Int)
            rotate_left
            ·rw [if_neg c37] at H; exact absurd H (by simp)
            rw [if_pos c37] at H; have c37b0 : decide ((ji35) < (a0.size : Int)) = true := decide_eq_true c37; clear c37; by_cases c39 : (bt a0 (ji35)) = 10
            ·rw [if_pos c39] at H; have c39b0 : ((bt a0 (ji35)) == 10) = true := beq_iff_eq.mpr c39
             have c39b1 : ((bt a0 (ji35)) != 10) = false := bne_eq_false_iff_eq.mpr c39
             clear c39; have H' := Aside0.mk H; clear H; have p128 : 0 ≤ (x11_3 : Int) := of_decide_eq_true (by first | (with_reducible assumption) | assumption)
             have q128 : x11_3 < (t120.length : Int) := of_decide_eq_true (by first | (with_reducible assumption) | assumption)
             obtain ⟨ad128, e128, hx128_0⟩ := Kd.at_int (Kd.R_reads' HO_7.out).2.2 x11_3 p128 q128
             obtain rfl : ad125 = ad128 := (by injection e128)
             replace p128 := eq_true p128; replace q128 := eq_true q128; have p38 : 0 ≤ ((ji35) : Int) := of_decide_eq_true (by first | (with_reducible assumption) | assumption)
             have q38 : (ji35) < (a0.size : Int) := of_decide_eq_true (by first | (with_reducible assumption) | assumption)
             have hx38 := bt_at a0 (ji35)
             replace p38 := eq_true p38; replace q38 := eq_true q38; go_wp2
             go_roundg k5
             case measure => have := HK1.out; have := HK2.out; have := HK3.out; have := HJ20.out; have := HK5.out; omega
             case rel => exact ⟨(ji35), (by first | rfl | (simp; done) | (simp only [← hji35] <;> (first | rfl | simp)) | (simp [*]; done)), H', ⟨by have := HK1.out; have := HK2.out; have := HK3.out; have := HJ20.out; have := HK5.out; omega⟩, ⟨rl HO_6⟩, ⟨rl HO_7⟩, ⟨kl BK124⟩, ⟨by repeat (first | (with_reducible first | exact HB.out | apply below_alloc | apply pw_below_drewN | apply below_drew1 | refine below_set ?_ GE124.out) | exact HB.out)⟩⟩
            ·rw [if_neg c39] at H; have c39b0 : ((bt a0 (ji35)) == 10) = false := beq_eq_false_iff_ne.mpr c39; have c39b1 : ((bt a0 (ji35)) != 10) = true := bne_iff_ne.mpr c39; by_cases c41 : (bt a0 (ji35)) = 13
             ·rw [if_pos c41] at H; have c41b0 : ((bt a0 (ji35)) == 13) = true := beq_iff_eq.mpr c41
              have c41b1 : ((bt a0 (ji35)) != 13) = false := bne_eq_false_iff_eq.mpr c41
              clear c41; have H' := Aside0.mk H; clear H; have p128 : 0 ≤ (x11_3 : Int) := of_decide_eq_true (by first | (with_reducible assumption) | assumption)
              have q128 : x11_3 < (t120.length : Int) := of_decide_eq_true (by first | (with_reducible assumption) | assumption)
              obtain ⟨ad128, e128, hx128_0⟩ := Kd.at_int (Kd.R_reads' HO_7.out).2.2 x11_3 p128 q128
              obtain rfl : ad125 = ad128 := (by injection e128)
              replace p128 := eq_true p128; replace q128 := eq_true q128; have p38 : 0 ≤ ((ji35) : Int) := of_decide_eq_true (by first | (with_reducible assumption) | assumption)
              have q38 : (ji35) < (a0.size : Int) := of_decide_eq_true (by first | (with_reducible assumption) | assumption)
              have hx38 := bt_at a0 (ji35)
              replace p38 := eq_true p38; replace q38 := eq_true q38; have p40 : 0 ≤ ((ji35) : Int) := of_decide_eq_true (by first | (with_reducible assumption) | assumption)
              have q40 : (ji35) < (a0.size : Int) := of_decide_eq_true (by first | (with_reducible assumption) | assumption)
              have hx40 := bt_at a0 (ji35)
              replace p40 := eq_true p40; replace q40 := eq_true q40; go_wp2
              go_roundg k5
              case measure => have := HK1.out; have := HK2.out; have := HK3.out; have := HJ20.out; have := HK5.out; omega
              case rel => exact ⟨(ji35), (by first | rfl | (simp; done) | (simp only [← hji35] <;> (first | rfl | simp)) | (simp [*]; done)), H', ⟨by have := HK1.out; have := HK2.out; have := HK3.out; have := HJ20.out; have := HK5.out; omega⟩, ⟨rl HO_6⟩, ⟨rl HO_7⟩, ⟨kl BK124⟩, ⟨by repeat (first | (with_reducible first | exact HB.out | apply below_alloc | apply pw_below_drewN | apply below_drew1 | refine below_set ?_ GE124.out) | exact HB.out)⟩⟩
             ·rw [if_neg c41] at H; have c41b0 : ((bt a0 (ji35)) == 13) = false := beq_eq_false_iff_ne.mpr c41; have c41b1 : ((bt a0 (ji35)) != 13) = true := bne_iff_ne.mpr c41; obtain ⟨ji42, hji42⟩ : ∃ j_ : Int, (mx ((rd_T38 l1 x22_1).f0.f0) (rd t120 x11_3)) = j_ := ⟨_, rfl⟩
              replace H : (if (ji42) < (mn ((rd_T38 l1 x22_1).f0.f1) x12_5) then (if x6_3.length < 4398046511104 then (five_Pieces.l2 k5 a0 (x6_3 ++ [(⟨(⟨ji42, mn ((rd_T38 l1 x22_1).f0.f1) x12_5⟩ : S36), ((rd_T38 l1 x22_1).f1), ((rd_T38 l1 x22_1).f2)⟩ : S38)]) t120 x8_2 (wrap64 (x11_3 + 1)) l1 (l1.length : Int) x22_1 ((rd_T38 l1 x22_1).f0.f0) ((rd_T38 l1 x22_1).f0.f1) ((rd_T38 l1 x22_1).f1) ((rd_T38 l1 x22_1).f2)) else (none)) else (five_Pieces.l2 k5 a0 x6_3 t120 x8_2 (wrap64 (x11_3 + 1)) l1 (l1.length : Int) x22_1 ((rd_T38 l1 x22_1).f0.f0) ((rd_T38 l1 x22_1).f0.f1) ((rd_T38 l1 x22_1).f1) ((rd_T38 l1 x22_1).f2))) = some (r1, r2) := by first | (rw [hji42] at H; exact H) | (simp only [hji42] at H ⊢; exact H)
              have hji42_ : (if ((rd_T38 l1 x22_1).f0.f0) < (rd t120 x11_3) then (rd t120 x11_3) else ((rd_T38 l1 x22_1).f0.f0)) = ji42 := hji42
              obtain ⟨ji43, hji43⟩ : ∃ j_ : Int, (mn ((rd_T38 l1 x22_1).f0.f1) x12_5) = j_ := ⟨_, rfl⟩
              replace H : (if (ji42) < (ji43) then (if x6_3.length < 4398046511104 then (five_Pieces.l2 k5 a0 (x6_3 ++ [(⟨(⟨ji42, ji43⟩ : S36), ((rd_T38 l1 x22_1).f1), ((rd_T38 l1 x22_1).f2)⟩ : S38)]) t120 x8_2 (wrap64 (x11_3 + 1)) l1 (l1.length : Int) x22_1 ((rd_T38 l1 x22_1).f0.f0) ((rd_T38 l1 x22_1).f0.f1) ((rd_T38 l1 x22_1).f1) ((rd_T38 l1 x22_1).f2)) else (none)) else (five_Pieces.l2 k5 a0 x6_3 t120 x8_2 (wrap64 (x11_3 + 1)) l1 (l1.length : Int) x22_1 ((rd_T38 l1 x22_1).f0.f0) ((rd_T38 l1 x22_1).f0.f1) ((rd_T38 l1 x22_1).f1) ((rd_T38 l1 x22_1).f2))) = some (r1, r2) := by first | (rw [hji43] at H; exact H) | (simp only [hji43] at H ⊢; exact H)
              have hji43_ : (if x12_5 < ((rd_T38 l1 x22_1).f0.f1) then x12_5 else ((rd_T38 l1 x22_1).f0.f1)) = ji43 := hji43
              by_cases c44 : (ji42) < (ji43)
              rotate_left
              ·rw [if_neg c44] at H; have c44b0 : decide ((ji42) < (ji43)) = false := decide_eq_false c44; clear c44; have H' := Aside0.mk H; clear H; have p128 : 0 ≤ (x11_3 : Int) := of_decide_eq_true (by first | (with_reducible assumption) | assumption)
               have q128 : x11_3 < (t120.length : Int) := of_decide_eq_true (by first | (with_reducible assumption) | assumption)
               obtain ⟨ad128, e128, hx128_0⟩ := Kd.at_int (Kd.R_reads' HO_7.out).2.2 x11_3 p128 q128
               obtain rfl : ad125 = ad128 := (by injection e128)
               replace p128 := eq_true p128; replace q128 := eq_true q128; have p38 : 0 ≤ ((ji35) : Int) := of_decide_eq_true (by first | (with_reducible assumption) | assumption)
               have q38 : (ji35) < (a0.size : Int) := of_decide_eq_true (by first | (with_reducible assumption) | assumption)
               have hx38 := bt_at a0 (ji35)
               replace p38 := eq_true p38; replace q38 := eq_true q38; have p40 : 0 ≤ ((ji35) : Int) := of_decide_eq_true (by first | (with_reducible assumption) | assumption)
               have q40 : (ji35) < (a0.size : Int) := of_decide_eq_true (by first | (with_reducible assumption) | assumption)
               have hx40 := bt_at a0 (ji35)
               replace p40 := eq_true p40; replace q40 := eq_true q40; try go_wp2
               have n0_ := Aside0.mk (Kd.R_drew HO_6.out); have n1_ := Aside0.mk (Kd.R_drew HO_7.out); have n2_ := Aside0.mk (blk_drew BK124.out); have n3_ := Aside0.mk (below_drew1 HB.out); clear HO_6; clear HO_7; clear BK124; clear HB; have HO_6 := n0_; have HO_7 := n1_; have BK124 := n2_; have HB := n3_; clear n0_ n1_ n2_ n3_; have p129 : 0 ≤ (x11_3 : Int) := of_decide_eq_true (by first | (with_reducible assumption) | assumption)
               have q129 : x11_3 < (t120.length : Int) := of_decide_eq_true (by first | (with_reducible assumption) | assumption)
               obtain ⟨ad129, e129, hx129_0⟩ := Kd.at_int (Kd.R_reads' HO_7.out).2.2 x11_3 p129 q129
               obtain rfl : ad125 = ad129 := (by injection e129)
               replace p129 := eq_true p129; replace q129 := eq_true q129; refine start_ (n := 16) (S := fun w' => w'.cell? ⟨gb124, 0, none⟩ = some (.int .i64 ((rd_T38 l1 x22_1).f0.f0)) ∧ w'.cell? ⟨gb124, 1, none⟩ = some (.int .i64 ((rd_T38 l1 x22_1).f0.f1)) ∧ w'.cell? ⟨gb124, 2, none⟩ = some (.int .i64 ((rd_T38 l1 x22_1).f1)) ∧ w'.cell? ⟨gb124, 3, none⟩ = some (.int .i64 ((rd_T38 l1 x22_1).f2)) ∧ w'.cell? (ad125.add (x11_3).toNat) = some (.int .i64 (rd t120 x11_3))) (ds := []) (bz 16 0) (by kernel_rfl) rfl rfl ⟨(blk_cell BK124.out 0).trans rfl, (blk_cell BK124.out 1).trans rfl, (blk_cell BK124.out 2).trans rfl, (blk_cell BK124.out 3).trans rfl, hx129_0⟩ (fun hHeld => ?_); refine with_tabW five_Pieces.tab17 five_Pieces.bits17 (fun HT_ HW_ => ?_)
               generalize wr.drew = w54 at HO_6 HO_7 BK124 HB hx129_0 hHeld ⊢
               refine pu 0 (some 85) (bz 16 1) HT_ rfl rfl ?_; refine pu 1 (some 86) (bz 16 3) HT_ rfl rfl ?_; refine pu 3 (some 88) (bz 16 11) HT_ rfl rfl ?_; refine pu 4 (some 89) (bz 16 27) HT_ rfl rfl ?_; refine pu 5 (some 90) (bz 16 59) HT_ rfl rfl ?_; refine pu 8 (some 93) (bz 16 315) HT_ rfl rfl ?_; refine pu 9 (some 94) (bz 16 827) HT_ rfl rfl ?_; refine pu 11 (some 96) (bz 16 2875) HT_ rfl rfl ?_; refine tk 2 (some 87) (bz 16 2879) HT_ HW_ rfl rfl hHeld ?_; refine tk 6 (some 91) (bz 16 2943) HT_ HW_ rfl rfl hHeld ?_; refine pu 7 (some 92) (bz 16 3071) HT_ rfl rfl ?_; refine tk 10 (some 95) (bz 16 4095) HT_ HW_ rfl rfl hHeld ?_; refine pu 12 (some 97) (bz 16 8191) HT_ rfl rfl ?_; refine pu 13 (some 98) (bz 16 16383) HT_ rfl rfl ?_; refine one_ (i := 14) (N := some 13) (bz 16 32767) rfl rfl (one_of HT_.out (by kernel_rfl)) (by decide) (fun K hK => ?_)
               refine box_step ?hg (N := 13) ?hd (cs := #[.int .i64 0, .int .i64 0]) (t := 36) ?hr ?_; (case hd => rfl); (case hg => rfl); (case hr => first | (go_simp; done) | (go_simp; rfl))
               intro gb130 hg w55 hbox hb
               have HS4_ := (hb.cell (World.block_lt_of_cell? _ _ (hHeld.2.2.2.2))).trans (hHeld.2.2.2.2)
               have n0_ := Aside0.mk (Kd.R_below (rl HO_6) hb); have n1_ := Aside0.mk (Kd.R_below (rl HO_7) hb); have n2_ := Aside0.mk (blk_below (g := gb124) (o := .cells #[.int .i64 ((rd_T38 l1 x22_1).f0.f0), .int .i64 ((rd_T38 l1 x22_1).f0.f1), .int .i64 ((rd_T38 l1 x22_1).f1), .int .i64 ((rd_T38 l1 x22_1).f2)] 38 (0, 0)) (kl BK124) hb); have n3_ := Aside0.mk (below_step (by repeat (first | (with_reducible first | exact HB.out | apply below_alloc | apply pw_below_drewN | apply below_drew1 | refine below_set ?_ GE124.out) | exact HB.out)) hb); have n4_ := Aside0.mk (hbox); have n5_ := Aside0.mk ((by rw [hg]; exact (below_size (by repeat (first | (with_reducible first | exact HB.out | apply below_alloc | apply pw_below_drewN | apply below_drew1 | refine below_set ?_ GE124.out) | exact HB.out))) : w.heap.size ≤ gb130)); have n6_ := Aside0.mk ((by rw [hg]; exact (below_size (by repeat (first | (with_reducible first | exact HB.out | apply below_alloc | apply pw_below_drewN | apply below_drew1 | refine below_set ?_ GE124.out) | exact HB.out))) : w.heap.size ≤ gb130)); have n7_ := Aside0.mk ((by rw [hg]; exact Nat.ne_of_lt (blk_lt (g := gb124) (o := .cells #[.int .i64 ((rd_T38 l1 x22_1).f0.f0), .int .i64 ((rd_T38 l1 x22_1).f0.f1), .int .i64 ((rd_T38 l1 x22_1).f1), .int .i64 ((rd_T38 l1 x22_1).f2)] 38 (0, 0)) (kl BK124)) : gb124 ≠ gb130)); have n8_ := Aside0.mk ((by rw [hg]; exact Nat.ne_of_gt (blk_lt (g := gb124) (o := .cells #[.int .i64 ((rd_T38 l1 x22_1).f0.f0), .int .i64 ((rd_T38 l1 x22_1).f0.f1), .int .i64 ((rd_T38 l1 x22_1).f1), .int .i64 ((rd_T38 l1 x22_1).f2)] 38 (0, 0)) (kl BK124)) : gb130 ≠ gb124)); clear HO_6; clear HO_7; clear BK124; clear HB; have HO_6 := n0_; have HO_7 := n1_; have BK124 := n2_; have HB := n3_; have BK130 := n4_; have GW130 := n5_; have GE130 := n6_; have NB124_130 := n7_; have NB130_124 := n8_; clear n0_ n1_ n2_ n3_ n4_ n5_ n6_ n7_ n8_; clear hb hbox hg; refine hK.out _ _ ⟨(blk_cell BK124.out 0).trans rfl, (blk_cell BK124.out 1).trans rfl, (blk_cell BK124.out 2).trans rfl, (blk_cell BK124.out 3).trans rfl, HS4_⟩ (fun hHeld => ?_)
               clear hK K; refine norm_ (a' := ?_) ?_ ?_
               rotate_left
               ·show Act.put _ (some 13) _ = _
                simp only [Act.put, List.setIfInBounds_toArray, List.set_cons_zero, List.set_cons_succ, i64_w, i32_w]
                rfl
               refine one_ (i := 15) (N := none) (bz 16 65535) rfl rfl (one_of HT_.out (by kernel_rfl)) (by decide) (fun K hK => ?_)
               have hs56 : w55.cell? ⟨gb130, 0, none⟩ = some (.int .i64 0) := (blk_cell BK130.out 0).trans rfl
               have hfs56 := blk_frozen BK130.out 0
               have hns56_0 := NB124_130.out
               have hms56_0 := NB130_124.out
               have hs57 : w55.cell? ⟨gb130, 1, none⟩ = some (.int .i64 0) := (blk_cell BK130.out 1).trans rfl
               have hfs57 := blk_frozen BK130.out 1
               have hns57_0 := NB124_130.out
               have hms57_0 := NB130_124.out
               refine skip_ (w1 := ?_) (by rfl) rfl ?_ ?_
               rotate_left
               ·go_simp
                rfl
               refine hK.out _ _ ⟨((cell_far (p := ⟨gb130, _, none⟩) NB124_130.out _).trans (((cell_far (p := ⟨gb130, _, none⟩) NB124_130.out _).trans (hHeld.1)))), ((cell_far (p := ⟨gb130, _, none⟩) NB124_130.out _).trans (((cell_far (p := ⟨gb130, _, none⟩) NB124_130.out _).trans (hHeld.2.1)))), ((cell_far (p := ⟨gb130, _, none⟩) NB124_130.out _).trans (((cell_far (p := ⟨gb130, _, none⟩) NB124_130.out _).trans (hHeld.2.2.1)))), ((cell_far (p := ⟨gb130, _, none⟩) NB124_130.out _).trans (((cell_far (p := ⟨gb130, _, none⟩) NB124_130.out _).trans (hHeld.2.2.2.1)))), ((cell_far (p := ⟨gb130, _, none⟩) (by first | exact Kd.own_blk (Kd.R_ne HO_7.out BK130.out (by decide)) | (rw [add_block]; exact Kd.own_blk (Kd.R_ne HO_7.out BK130.out (by decide))) | (show (Addr.add _ _).block ≠ _; rw [add_block]; exact Kd.own_blk (Kd.R_ne HO_7.out BK130.out (by decide))) | (dsimp only; exact Kd.own_blk (Kd.R_ne HO_7.out BK130.out (by decide)))) _).trans (((cell_far (p := ⟨gb130, _, none⟩) (by first | exact Kd.own_blk (Kd.R_ne HO_7.out BK130.out (by decide)) | (rw [add_block]; exact Kd.own_blk (Kd.R_ne HO_7.out BK130.out (by decide))) | (show (Addr.add _ _).block ≠ _; rw [add_block]; exact Kd.own_blk (Kd.R_ne HO_7.out BK130.out (by decide))) | (dsimp only; exact Kd.own_blk (Kd.R_ne HO_7.out BK130.out (by decide)))) _).trans (hHeld.2.2.2.2))))⟩ (fun hHeld => ?_)
               clear hK K; refine done_ (done_of HT_.out (by kernel_rfl)) ?_
               have hnb58 := NB130_124.out
               have hnc58 := NB124_130.out
               have hcz59_0 : w55.cell? ⟨gb130, 0, none⟩ = some (.int .i64 0) := (blk_cell BK130.out 0).trans rfl
               have hcz59_1 : w55.cell? ⟨gb130, 1, none⟩ = some (.int .i64 0) := (blk_cell BK130.out 1).trans rfl
               have hfz59_0 := blk_frozen BK130.out 0
               have hfz59_1 := blk_frozen BK130.out 1
               try go_wp2
               go_roundg k5
               case measure => have := HK1.out; have := HK2.out; have := HK3.out; have := HJ20.out; have := HK5.out; omega
               case rel => exact ⟨(x6_3), (wrap64 (x11_3 + 1)), (by first | rfl | (simp; done) | (simp [*]; done) | (simp; exact xEmpty_ne _) | (simp [*]; exact xEmpty_ne _)), H', ⟨by have := HK1.out; have := HK2.out; have := HK3.out; have := HJ20.out; have := HK5.out; omega⟩, ⟨by (with_reducible repeat (first | apply Kd.R_alloc | apply Kd.R_drewN | apply Kd.R_drew)); exact Kd.R_mono (Kd.R_far (p := ⟨gb130, 1, none⟩) (Kd.R_far (p := ⟨gb130, 0, none⟩) (Kd.R_types HO_6.out BK130.out (by decide)) (fun _ hk => hk.2) (.int .i64 ji42)) (fun _ hk => hk.2) (.int .i64 ji43)) (fun _ hk => hk.1)⟩, ⟨by (with_reducible repeat (first | apply Kd.R_alloc | apply Kd.R_drewN | apply Kd.R_drew)); exact Kd.R_mono (Kd.R_far (p := ⟨gb130, 1, none⟩) (Kd.R_far (p := ⟨gb130, 0, none⟩) (Kd.R_types HO_7.out BK130.out (by decide)) (fun _ hk => hk.2) (.int .i64 ji42)) (fun _ hk => hk.2) (.int .i64 ji43)) (fun _ hk => trivial)⟩, ⟨by (with_reducible repeat (first | refine blk_drewN ?_ _ | refine blk_drew ?_ | refine blk_alloc ?_ _)); refine blk_far ?_ NB124_130.out _; (with_reducible repeat (first | refine blk_drewN ?_ _ | refine blk_drew ?_ | refine blk_alloc ?_ _)); refine blk_far ?_ NB124_130.out _; (with_reducible repeat (first | refine blk_drewN ?_ _ | refine blk_drew ?_ | refine blk_alloc ?_ _)); exact BK124.out⟩, ⟨by repeat (first | (with_reducible first | exact HB.out | apply below_alloc | apply pw_below_drewN | apply below_drew1 | refine below_set ?_ GE124.out | refine below_set ?_ GE130.out) | exact HB.out)⟩⟩
              rw [if_pos c44] at H; have c44b0 : decide ((ji42) < (ji43)) = true := decide_eq_true c44; clear c44; by_cases c45 : x6_3.length < 4398046511104
              rotate_left
              ·rw [if_neg c45] at H; exact absurd H (by simp)
              rw [if_pos c45] at H; have LMc45 := Aside0.mk c45; clear c45; obtain ⟨y131, hy131⟩ : ∃ y_ : List (S38), y_ = (x6_3 ++ [(⟨(⟨ji42, ji43⟩ : S36), ((rd_T38 l1 x22_1).f1), ((rd_T38 l1 x22_1).f2)⟩ : S38)]) := ⟨_, rfl⟩
              replace H : (five_Pieces.l2 k5 a0 y131 t120 x8_2 (wrap64 (x11_3 + 1)) l1 (l1.length : Int) x22_1 ((rd_T38 l1 x22_1).f0.f0) ((rd_T38 l1 x22_1).f0.f1) ((rd_T38 l1 x22_1).f1) ((rd_T38 l1 x22_1).f2)) = some (r1, r2) := by first | (rw [hy131]; with_reducible exact H) | (have H2_ := (Option.bind_some _ _).symm.trans H; rw [hy131]; with_reducible exact H2_) | (have H2_ := (Option.bind_some _ _).symm.trans H; with_reducible exact H2_) | with_reducible exact H | (rw [hy131]; exact H) | exact H
              have Ny131 := Aside0.mk hy131; clear hy131; have H' := Aside0.mk H; clear H; have p128 : 0 ≤ (x11_3 : Int) := of_decide_eq_true (by first | (with_reducible assumption) | assumption)
              have q128 : x11_3 < (t120.length : Int) := of_decide_eq_true (by first | (with_reducible assumption) | assumption)
              obtain ⟨ad128, e128, hx128_0⟩ := Kd.at_int (Kd.R_reads' HO_7.out).2.2 x11_3 p128 q128
              obtain rfl : ad125 = ad128 := (by injection e128)
              replace p128 := eq_true p128; replace q128 := eq_true q128; have p38 : 0 ≤ ((ji35) : Int) := of_decide_eq_true (by first | (with_reducible assumption) | assumption)
              have q38 : (ji35) < (a0.size : Int) := of_decide_eq_true (by first | (with_reducible assumption) | assumption)
              have hx38 := bt_at a0 (ji35)
              replace p38 := eq_true p38; replace q38 := eq_true q38; have p40 : 0 ≤ ((ji35) : Int) := of_decide_eq_true (by first | (with_reducible assumption) | assumption)
              have q40 : (ji35) < (a0.size : Int) := of_decide_eq_true (by first | (with_reducible assumption) | assumption)
              have hx40 := bt_at a0 (ji35)
              replace p40 := eq_true p40; replace q40 := eq_true q40; try go_wp2
              have n0_ := Aside0.mk (Kd.R_drew HO_6.out); have n1_ := Aside0.mk (Kd.R_drew HO_7.out); have n2_ := Aside0.mk (blk_drew BK124.out); have n3_ := Aside0.mk (below_drew1 HB.out); clear HO_6; clear HO_7; clear BK124; clear HB; have HO_6 := n0_; have HO_7 := n1_; have BK124 := n2_; have HB := n3_; clear n0_ n1_ n2_ n3_; have p129 : 0 ≤ (x11_3 : Int) := of_decide_eq_true (by first | (with_reducible assumption) | assumption)
              have q129 : x11_3 < (t120.length : Int) := of_decide_eq_true (by first | (with_reducible assumption) | assumption)
              obtain ⟨ad129, e129, hx129_0⟩ := Kd.at_int (Kd.R_reads' HO_7.out).2.2 x11_3 p129 q129
              obtain rfl : ad125 = ad129 := (by injection e129)
              replace p129 := eq_true p129; replace q129 := eq_true q129; refine start_ (n := 16) (S := fun w' => w'.cell? ⟨gb124, 0, none⟩ = some (.int .i64 ((rd_T38 l1 x22_1).f0.f0)) ∧ w'.cell? ⟨gb124, 1, none⟩ = some (.int .i64 ((rd_T38 l1 x22_1).f0.f1)) ∧ w'.cell? ⟨gb124, 2, none⟩ = some (.int .i64 ((rd_T38 l1 x22_1).f1)) ∧ w'.cell? ⟨gb124, 3, none⟩ = some (.int .i64 ((rd_T38 l1 x22_1).f2)) ∧ w'.cell? (ad125.add (x11_3).toNat) = some (.int .i64 (rd t120 x11_3))) (ds := []) (bz 16 0) (by kernel_rfl) rfl rfl ⟨(blk_cell BK124.out 0).trans rfl, (blk_cell BK124.out 1).trans rfl, (blk_cell BK124.out 2).trans rfl, (blk_cell BK124.out 3).trans rfl, hx129_0⟩ (fun hHeld => ?_); refine with_tabW five_Pieces.tab17 five_Pieces.bits17 (fun HT_ HW_ => ?_)
              generalize wr.drew = w46 at HO_6 HO_7 BK124 HB hx129_0 hHeld ⊢
              refine pu 0 (some 85) (bz 16 1) HT_ rfl rfl ?_; refine pu 1 (some 86) (bz 16 3) HT_ rfl rfl ?_; refine pu 3 (some 88) (bz 16 11) HT_ rfl rfl ?_; refine pu 4 (some 89) (bz 16 27) HT_ rfl rfl ?_; refine pu 5 (some 90) (bz 16 59) HT_ rfl rfl ?_; refine pu 8 (some 93) (bz 16 315) HT_ rfl rfl ?_; refine pu 9 (some 94) (bz 16 827) HT_ rfl rfl ?_; refine pu 11 (some 96) (bz 16 2875) HT_ rfl rfl ?_; refine tk 2 (some 87) (bz 16 2879) HT_ HW_ rfl rfl hHeld ?_; refine tk 6 (some 91) (bz 16 2943) HT_ HW_ rfl rfl hHeld ?_; refine pu 7 (some 92) (bz 16 3071) HT_ rfl rfl ?_; refine tk 10 (some 95) (bz 16 4095) HT_ HW_ rfl rfl hHeld ?_; refine pu 12 (some 97) (bz 16 8191) HT_ rfl rfl ?_; refine pu 13 (some 98) (bz 16 16383) HT_ rfl rfl ?_; refine one_ (i := 14) (N := some 13) (bz 16 32767) rfl rfl (one_of HT_.out (by kernel_rfl)) (by decide) (fun K hK => ?_)
              refine box_step ?hg (N := 13) ?hd (cs := #[.int .i64 0, .int .i64 0]) (t := 36) ?hr ?_; (case hd => rfl); (case hg => rfl); (case hr => first | (go_simp; done) | (go_simp; rfl))
              intro gb130 hg w47 hbox hb
              have HS4_ := (hb.cell (World.block_lt_of_cell? _ _ (hHeld.2.2.2.2))).trans (hHeld.2.2.2.2)
              have n0_ := Aside0.mk (Kd.R_below (rl HO_6) hb); have n1_ := Aside0.mk (Kd.R_below (rl HO_7) hb); have n2_ := Aside0.mk (blk_below (g := gb124) (o := .cells #[.int .i64 ((rd_T38 l1 x22_1).f0.f0), .int .i64 ((rd_T38 l1 x22_1).f0.f1), .int .i64 ((rd_T38 l1 x22_1).f1), .int .i64 ((rd_T38 l1 x22_1).f2)] 38 (0, 0)) (kl BK124) hb); have n3_ := Aside0.mk (below_step (by repeat (first | (with_reducible first | exact HB.out | apply below_alloc | apply pw_below_drewN | apply below_drew1 | refine below_set ?_ GE124.out) | exact HB.out)) hb); have n4_ := Aside0.mk (hbox); have n5_ := Aside0.mk ((by rw [hg]; exact (below_size (by repeat (first | (with_reducible first | exact HB.out | apply below_alloc | apply pw_below_drewN | apply below_drew1 | refine below_set ?_ GE124.out) | exact HB.out))) : w.heap.size ≤ gb130)); have n6_ := Aside0.mk ((by rw [hg]; exact (below_size (by repeat (first | (with_reducible first | exact HB.out | apply below_alloc | apply pw_below_drewN | apply below_drew1 | refine below_set ?_ GE124.out) | exact HB.out))) : w.heap.size ≤ gb130)); have n7_ := Aside0.mk ((by rw [hg]; exact Nat.ne_of_lt (blk_lt (g := gb124) (o := .cells #[.int .i64 ((rd_T38 l1 x22_1).f0.f0), .int .i64 ((rd_T38 l1 x22_1).f0.f1), .int .i64 ((rd_T38 l1 x22_1).f1), .int .i64 ((rd_T38 l1 x22_1).f2)] 38 (0, 0)) (kl BK124)) : gb124 ≠ gb130)); have n8_ := Aside0.mk ((by rw [hg]; exact Nat.ne_of_gt (blk_lt (g := gb124) (o := .cells #[.int .i64 ((rd_T38 l1 x22_1).f0.f0), .int .i64 ((rd_T38 l1 x22_1).f0.f1), .int .i64 ((rd_T38 l1 x22_1).f1), .int .i64 ((rd_T38 l1 x22_1).f2)] 38 (0, 0)) (kl BK124)) : gb130 ≠ gb124)); clear HO_6; clear HO_7; clear BK124; clear HB; have HO_6 := n0_; have HO_7 := n1_; have BK124 := n2_; have HB := n3_; have BK130 := n4_; have GW130 := n5_; have GE130 := n6_; have NB124_130 := n7_; have NB130_124 := n8_; clear n0_ n1_ n2_ n3_ n4_ n5_ n6_ n7_ n8_; clear hb hbox hg; refine hK.out _ _ ⟨(blk_cell BK124.out 0).trans rfl, (blk_cell BK124.out 1).trans rfl, (blk_cell BK124.out 2).trans rfl, (blk_cell BK124.out 3).trans rfl, HS4_⟩ (fun hHeld => ?_)
              clear hK K; refine norm_ (a' := ?_) ?_ ?_
              rotate_left
              ·show Act.put _ (some 13) _ = _
               simp only [Act.put, List.setIfInBounds_toArray, List.set_cons_zero, List.set_cons_succ, i64_w, i32_w]
               rfl
              refine one_ (i := 15) (N := none) (bz 16 65535) rfl rfl (one_of HT_.out (by kernel_rfl)) (by decide) (fun K hK => ?_)
              have hs48 : w47.cell? ⟨gb130, 0, none⟩ = some (.int .i64 0) := (blk_cell BK130.out 0).trans rfl
              have hfs48 := blk_frozen BK130.out 0
              have hns48_0 := NB124_130.out
              have hms48_0 := NB130_124.out
              have hs49 : w47.cell? ⟨gb130, 1, none⟩ = some (.int .i64 0) := (blk_cell BK130.out 1).trans rfl
              have hfs49 := blk_frozen BK130.out 1
              have hns49_0 := NB124_130.out
              have hms49_0 := NB130_124.out
              refine skip_ (w1 := ?_) (by rfl) rfl ?_ ?_
              rotate_left
              ·go_simp
               rfl
              refine hK.out _ _ ⟨((cell_far (p := ⟨gb130, _, none⟩) NB124_130.out _).trans (((cell_far (p := ⟨gb130, _, none⟩) NB124_130.out _).trans (hHeld.1)))), ((cell_far (p := ⟨gb130, _, none⟩) NB124_130.out _).trans (((cell_far (p := ⟨gb130, _, none⟩) NB124_130.out _).trans (hHeld.2.1)))), ((cell_far (p := ⟨gb130, _, none⟩) NB124_130.out _).trans (((cell_far (p := ⟨gb130, _, none⟩) NB124_130.out _).trans (hHeld.2.2.1)))), ((cell_far (p := ⟨gb130, _, none⟩) NB124_130.out _).trans (((cell_far (p := ⟨gb130, _, none⟩) NB124_130.out _).trans (hHeld.2.2.2.1)))), ((cell_far (p := ⟨gb130, _, none⟩) (by first | exact Kd.own_blk (Kd.R_ne HO_7.out BK130.out (by decide)) | (rw [add_block]; exact Kd.own_blk (Kd.R_ne HO_7.out BK130.out (by decide))) | (show (Addr.add _ _).block ≠ _; rw [add_block]; exact Kd.own_blk (Kd.R_ne HO_7.out BK130.out (by decide))) | (dsimp only; exact Kd.own_blk (Kd.R_ne HO_7.out BK130.out (by decide)))) _).trans (((cell_far (p := ⟨gb130, _, none⟩) (by first | exact Kd.own_blk (Kd.R_ne HO_7.out BK130.out (by decide)) | (rw [add_block]; exact Kd.own_blk (Kd.R_ne HO_7.out BK130.out (by decide))) | (show (Addr.add _ _).block ≠ _; rw [add_block]; exact Kd.own_blk (Kd.R_ne HO_7.out BK130.out (by decide))) | (dsimp only; exact Kd.own_blk (Kd.R_ne HO_7.out BK130.out (by decide)))) _).trans (hHeld.2.2.2.2))))⟩ (fun hHeld => ?_)
              clear hK K; refine done_ (done_of HT_.out (by kernel_rfl)) ?_
              have hnb50 := NB130_124.out
              have hnc50 := NB124_130.out
              have hcz51_0 : w47.cell? ⟨gb130, 0, none⟩ = some (.int .i64 0) := (blk_cell BK130.out 0).trans rfl
              have hcz51_1 : w47.cell? ⟨gb130, 1, none⟩ = some (.int .i64 0) := (blk_cell BK130.out 1).trans rfl
              have hfz51_0 := blk_frozen BK130.out 0
              have hfz51_1 := blk_frozen BK130.out 1
              have hcz52_0 : w47.cell? ⟨gb124, 0, none⟩ = some (.int .i64 ((rd_T38 l1 x22_1).f0.f0)) := (blk_cell BK124.out 0).trans rfl
              have hcz52_1 : w47.cell? ⟨gb124, 1, none⟩ = some (.int .i64 ((rd_T38 l1 x22_1).f0.f1)) := (blk_cell BK124.out 1).trans rfl
              have hcz52_2 : w47.cell? ⟨gb124, 2, none⟩ = some (.int .i64 ((rd_T38 l1 x22_1).f1)) := (blk_cell BK124.out 2).trans rfl
              have hcz52_3 : w47.cell? ⟨gb124, 3, none⟩ = some (.int .i64 ((rd_T38 l1 x22_1).f2)) := (blk_cell BK124.out 3).trans rfl
              have hfz52_0 := blk_frozen BK124.out 0
              have hfz52_1 := blk_frozen BK124.out 1
              have hfz52_2 := blk_frozen BK124.out 2
              have hfz52_3 := blk_frozen BK124.out 3
              try go_wp2_with (first | ((with_reducible refine gate_builtin (b := .append) (xs := #[.tmp 104, .tmp 111]) rfl ?_); at_builtin; refine Kd.R_append k38 (w0 := w) w.heap.size rfl (.tmp 104) (.tmp 111) 22 38 (.agg #[(.int .i64 0), (.int .i64 0), (.int .i64 0), (.int .i64 0)]) 32 rfl Tryd.underlying22 info38 rfl (by decide) (by omega) u6 x6_3 (⟨(⟨ji42, ji43⟩ : S36), ((rd_T38 l1 x22_1).f1), ((rd_T38 l1 x22_1).f2)⟩ : S38) [.int .i64 ji42, .int .i64 ji43, .int .i64 ((rd_T38 l1 x22_1).f1), .int .i64 ((rd_T38 l1 x22_1).f2)] (fun k_ => k_ ≠ gb124) (fun _ => False) rfl (by first | (go_simp; done) | (go_simp; rfl)) ?aP (fun _ hk => hk.elim) ?aF ?aO ?aB ?aS ?aL ?_; (case aP => exact k38_mkM _ _ _ (⟨(⟨ji42, ji43⟩ : S36), ((rd_T38 l1 x22_1).f1), ((rd_T38 l1 x22_1).f2)⟩ : S38)); (case aB => exact (by repeat (first | (with_reducible first | exact HB.out | apply below_alloc | apply pw_below_drewN | apply below_drew1 | refine below_set ?_ GE124.out | refine below_set ?_ GE130.out) | exact HB.out))); (case aF => exact (fun k_ hk => Kd.freshB (g := gb124) (o := .cells #[.int .i64 ((rd_T38 l1 x22_1).f0.f0), .int .i64 ((rd_T38 l1 x22_1).f0.f1), .int .i64 ((rd_T38 l1 x22_1).f1), .int .i64 ((rd_T38 l1 x22_1).f2)] 38 (0, 0)) (by (with_reducible repeat (first | refine blk_drewN ?_ _ | refine blk_drew ?_ | refine blk_alloc ?_ _)); refine blk_far ?_ NB124_130.out _; (with_reducible repeat (first | refine blk_drewN ?_ _ | refine blk_drew ?_ | refine blk_alloc ?_ _)); refine blk_far ?_ NB124_130.out _; (with_reducible repeat (first | refine blk_drewN ?_ _ | refine blk_drew ?_ | refine blk_alloc ?_ _)); exact BK124.out) k_ hk)); (case aO => exact (by (with_reducible repeat (first | apply Kd.R_alloc | apply Kd.R_drewN | apply Kd.R_drew)); exact Kd.R_mono (Kd.R_far (p := ⟨gb130, 1, none⟩) (Kd.R_far (p := ⟨gb130, 0, none⟩) (Kd.R_types HO_6.out BK130.out (by decide)) (fun _ hk => hk.2) (.int .i64 ji42)) (fun _ hk => hk.2) (.int .i64 ji43)) (fun _ hk => hk.1))); (case aS => exact (below_size (by repeat (first | (with_reducible first | exact HB.out | apply below_alloc | apply pw_below_drewN | apply below_drew1 | refine below_set ?_ GE124.out | refine below_set ?_ GE130.out) | exact HB.out)))); (case aL => have := LMc45.out; omega); intro v132 w53 ho hb hg hat; rw [← Ny131.out] at ho; have n0_ := Aside0.mk (Kd.R_over' (by (with_reducible repeat (first | apply Kd.R_alloc | apply Kd.R_drewN | apply Kd.R_drew)); exact (Kd.R_mono (Kd.R_far (p := ⟨gb130, 1, none⟩) (Kd.R_far (p := ⟨gb130, 0, none⟩) (Kd.R_types HO_7.out BK130.out (by decide)) (fun _ hk => hk.2) (.int .i64 ji42)) (fun _ hk => hk.2) (.int .i64 ji43)) (fun _ h_ => h_.1))) (Kd.R_typed (by (with_reducible repeat (first | apply Kd.R_alloc | apply Kd.R_drewN | apply Kd.R_drew)); exact (Kd.R_mono (Kd.R_far (p := ⟨gb130, 1, none⟩) (Kd.R_far (p := ⟨gb130, 0, none⟩) (Kd.R_types HO_6.out BK130.out (by decide)) (fun _ hk => hk.2) (.int .i64 ji42)) (fun _ hk => hk.2) (.int .i64 ji43)) (fun _ h_ => h_.1)))) (by decide) hg); have n1_ := Aside0.mk (blk_grown (g := gb124) (o := .cells #[.int .i64 ((rd_T38 l1 x22_1).f0.f0), .int .i64 ((rd_T38 l1 x22_1).f0.f1), .int .i64 ((rd_T38 l1 x22_1).f1), .int .i64 ((rd_T38 l1 x22_1).f2)] 38 (0, 0)) (by (with_reducible repeat (first | refine blk_drewN ?_ _ | refine blk_drew ?_ | refine blk_alloc ?_ _)); refine blk_far ?_ NB124_130.out _; (with_reducible repeat (first | refine blk_drewN ?_ _ | refine blk_drew ?_ | refine blk_alloc ?_ _)); refine blk_far ?_ NB124_130.out _; (with_reducible repeat (first | refine blk_drewN ?_ _ | refine blk_drew ?_ | refine blk_alloc ?_ _)); exact BK124.out) hg (Kd.R_away HO_6.out (fun _ hk => hk))); have n2_ := Aside0.mk (blk_grown (g := gb130) (o := .cells #[.int .i64 ji42, .int .i64 ji43] 36 (0, 0)) (by (with_reducible repeat (first | refine blk_drewN ?_ _ | refine blk_drew ?_ | refine blk_alloc ?_ _)); refine blk_put (cs := #[.int .i64 ji42, .int .i64 0]) ?_ 1 _ rfl; (with_reducible repeat (first | refine blk_drewN ?_ _ | refine blk_drew ?_ | refine blk_alloc ?_ _)); refine blk_put (cs := #[.int .i64 0, .int .i64 0]) ?_ 0 _ rfl; (with_reducible repeat (first | refine blk_drewN ?_ _ | refine blk_drew ?_ | refine blk_alloc ?_ _)); exact BK130.out) hg (Kd.R_ne HO_6.out BK130.out (by decide))); have n3_ := Aside0.mk (hb); have n4_ := Aside0.mk (ho); clear HO_7; clear BK124; clear BK130; clear HB; clear HO_6; have HO_7 := n0_; have BK124 := n1_; have BK130 := n2_; have HB := n3_; have HO133 := n4_; clear n0_ n1_ n2_ n3_ n4_; clear ho hb hg hat))
              go_roundg k5
              case measure => have := HK1.out; have := HK2.out; have := HK3.out; have := HJ20.out; have := HK5.out; omega
              case rel => exact ⟨(y131), (wrap64 (x11_3 + 1)), (by first | rfl | (simp; done) | (simp [*]; done) | (simp; exact xEmpty_ne _) | (simp [*]; exact xEmpty_ne _)), H', ⟨by have := HK1.out; have := HK2.out; have := HK3.out; have := HJ20.out; have := HK5.out; omega⟩, ⟨rl HO133⟩, ⟨rl HO_7⟩, ⟨kl BK124⟩, ⟨by repeat (first | (with_reducible first | exact HB.out | apply below_alloc | apply pw_below_drewN | apply below_drew1 | refine below_set ?_ GE124.out | refine below_set ?_ GE130.out) | exact HB.out)⟩⟩
end Go.Proofs.YtbjhmknahldhaaaDoor.Q

end
section
namespace Go.Proofs.YtbjhmknahldhaaaDoor.Q
open Go.RowKit Go.Proofs.YtbjhmknahldhaaaDoorW.PrintWords Go.Proofs.YtbjhmknahldhaaaDoorW.PrintLast Go.Proofs.YtbjhmknahldhaaaDoorW.PrintMore
attribute [local go_sem] max2_int min2_int max_two min_two max_three min_three max_four min_four   
set_option linter.unusedVariables false
set_option linter.unusedSimpArgs false
def utf_Units.f (a0 : ByteArray) : Option Int := if a0.size ≤ 140737488351232 then some (XUtf.units a0 a0.size 0 0) else none
set_option maxRecDepth 100000 in
theorem utf_Units.calls (a0 : ByteArray) (r : Int) (w : World) (h : utf_Units.f a0 = some r) :
  Calls Tryd.prog 36 #[.string a0] w fun e w' => e = .returned (.int .i64 r) ∧ Below w.heap.size w w' := by
 unfold utf_Units.f at h
 split at h
 ·rename_i hsz
  obtain rfl := Option.some.inj h
  have hsz' : (a0.size : Int) ≤ 140737488351232 := by omega
  clear h hsz; go_enter Tryd.func36, Tryd.ntmps36
  go_wp2
  go_loopw [3] (fun n w' => ∃ (pos b : Nat) (acc : Int), w' = w.iter a0 pos ∧ n = .int .i64 acc ∧ Aside0 (XUtf.units a0 b pos acc = XUtf.units a0 a0.size 0 0) ∧ a0.size ≤ pos + b ∧ 0 ≤ acc ∧ acc ≤ 2 * (pos : Int) ∧ pos ≤ a0.size) (fun _ w' => a0.size - w'.iterPos w.heap.size)
  case atStart => exact ⟨0, a0.size, 0, rfl, rfl, ⟨rfl⟩, by omega, by omega, by omega, by omega⟩
  case round =>
   obtain ⟨pos, b, acc, rfl, rfl, hc, hb, h0, h1, hle⟩ := hrel
   by_cases hp : pos < a0.size
   ·have hnx : ∀ ty, (Instr.next (.pointer (some ⟨w.heap.size, 0, none⟩)) true ty).run Tryd.prog (w.iter a0 pos) = _ := fun ty => run_next_any w a0 pos ty hp
    have hwd := Lib.decode_width_pos a0 pos hp
    have hfit := XUtf.decode_fit a0 pos hp
    have hst := XUtf.units_step a0 b pos acc hp
    by_cases hbig : 65536 ≤ ((Utf8.decode a0 pos).1 : Int)
    ·have hu : XUtf.uOf (Utf8.decode a0 pos).1 = 2 := by unfold XUtf.uOf; rw [if_pos (by omega)]
     have h2 : 2 ≤ (Utf8.decode a0 pos).2 := XUtf.big_width a0 pos (by omega)
     have HST := Aside0.mk ((hst hb).symm.trans hc.out)
     have HU := Aside0.mk hu; clear hst hu hc; go_wp2
     go_roundw
     case rel => exact ⟨pos + (Utf8.decode a0 pos).2, b - 1, acc + 2, rfl, rfl, ⟨by rw [← HU.out]; exact HST.out⟩, by omega, by omega, by omega, by omega⟩
     case measure => simp; omega
    ·have hu : XUtf.uOf (Utf8.decode a0 pos).1 = 1 := by unfold XUtf.uOf; rw [if_neg (by omega)]
     have HST := Aside0.mk ((hst hb).symm.trans hc.out)
     have HU := Aside0.mk hu; clear hst hu hc; go_wp2
     go_roundw
     case rel => exact ⟨pos + (Utf8.decode a0 pos).2, b - 1, acc + 1, rfl, rfl, ⟨by rw [← HU.out]; exact HST.out⟩, by omega, by omega, by omega, by omega⟩
     case measure => simp; omega
   ·have hnx : ∀ ty, (Instr.next (.pointer (some ⟨w.heap.size, 0, none⟩)) true ty).run Tryd.prog (w.iter a0 pos) = _ := fun ty => run_next_end w a0 pos ty hp
    have HD := Aside0.mk ((XUtf.units_done a0 b pos acc hp).symm.trans hc.out)
    clear hc; go_wp2
    go_ret
    exact ⟨congrArg (fun z => Ending.returned (.int .i64 z)) HD.out, (Below.refl _ _).alloc (Nat.le_refl _) _⟩
 ·cases h
end Go.Proofs.YtbjhmknahldhaaaDoor.Q

end
