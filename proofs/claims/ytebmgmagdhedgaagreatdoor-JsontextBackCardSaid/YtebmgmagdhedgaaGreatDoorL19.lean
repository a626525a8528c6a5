/- Words and walks of this claim, put together by this repo's wip/xlink.py out of Q18. -/
import Derived.Test.YtebmgmagdhedgaaGreatDoorL13
import Derived.Test.YtebmgmagdhedgaaGreatDoorL8
import Derived.Test.YtebmgmagdhedgaaGreatDoorL9
import Derived.Test.YtebmgmagdhedgaaGreatDoorL14
import Derived.Test.YtebmgmagdhedgaaGreatDoorL15
import Derived.Test.YtebmgmagdhedgaaGreatDoorL16
import Derived.Test.YtebmgmagdhedgaaGreatDoorL18
namespace Go.Proofs.YtebmgmagdhedgaaGreatDoor.Q
open Go.RowKit Go.Proofs.YtebmgmagdhedgaaGreatDoorW.PrintWords Go.Proofs.YtebmgmagdhedgaaGreatDoorW.PrintLast Go.Proofs.YtebmgmagdhedgaaGreatDoorW.PrintMore
attribute [local go_sem] max2_int min2_int max_two min_two max_three min_three max_four min_four   
set_option linter.unusedVariables false
set_option linter.unusedSimpArgs false
def cntL (f : JV → Int → Int × Bool) : List JV → Int → Int × Bool
 | [], l => (l, true)
 | x :: r, l => if (f x l).2 = true then cntL f r (f x l).1 else ((f x l).1, false)
/-- How many are left of so many, so deep. -/
def cnt : Nat → JV → Int → Int × Bool
 | 0, _, _ => (0, false)
 | d + 1, v, left => if left - 1 < 0 then (0, false) else if left - 1 < (v.f2.length : Int) + (v.f3.length : Int) then (0, false) else if (cntL (cnt d) v.f2 (left - 1)).2 = true then cntL (cnt d) (v.f3.map fun y => y.f1) (cntL (cnt d) v.f2 (left - 1)).1 else ((cntL (cnt d) v.f2 (left - 1)).1, false)
def InB (left : Int) (p : Int × Bool) : Prop := 0 ≤ p.1 ∧ p.1 ≤ left
theorem cntL_bd {f : JV → Int → Int × Bool} : ∀ (l : List JV) (left : Int), (∀ x ∈ l, ∀ k, 0 ≤ k → InB k (f x k)) → 0 ≤ left → InB left (cntL f l left) := by
 intro l
 induction l with
 | nil => intro left _ h; exact ⟨h, Int.le_refl _⟩
 | cons x r ih =>
  intro left hf h
  have h1 := hf x (by simp) left h
  rw [cntL]
  split
  ·have h2 := ih (f x left).1 (fun y hy => hf y (by simp [hy])) h1.1
   exact ⟨h2.1, Int.le_trans h2.2 h1.2⟩
  ·exact h1
theorem cnt_bd : ∀ (d : Nat) (v : JV) (left : Int), 0 ≤ left → InB left (cnt d v left) := by
 intro d
 induction d with
 | zero => intro v left h; exact ⟨Int.le_refl _, h⟩
 | succ d ih =>
  intro v left h
  rw [cnt]
  split
  ·exact ⟨Int.le_refl _, h⟩
  split
  ·exact ⟨Int.le_refl _, h⟩
  ·have h1 := cntL_bd (f := cnt d) v.f2 (left - 1) (fun x _ k hk => ih x k hk) (by omega)
   split
   ·have h2 := cntL_bd (f := cnt d) (v.f3.map fun y => y.f1) _ (fun x _ k hk => ih x k hk) h1.1
    exact ⟨h2.1, by have := h1.2; have := h2.2; omega⟩
   ·exact ⟨h1.1, by have := h1.2; simp only at *; omega⟩
set_option maxRecDepth 100000 in
set_option maxHeartbeats 8000000 in
theorem cnt_go (d : Nat) (hd : d ≤ 1000) (v : JV) (left : Int) (hl0 : 0 ≤ left) (hl1 : left ≤ 1000000) (A2 A3 : Option Addr) (c2 c3 : Nat) (w : World) (hR : Rd v A2 A3 w) (hz2 : v.f2.length ≤ 140737488351232) (hz3 : v.f3.length ≤ 140737488351232)
  (hI : ∀ x, (x ∈ v.f2 ∨ ∃ y ∈ v.f3, y.f1 = x) → ∀ (k : Int) (W : World) (B2 B3 : Option Addr) (d2 d3 : Nat), 0 ≤ k → k ≤ 1000000 → Rd x B2 B3 W → Calls Tryz.prog 48 #[.agg #[.int .u8 x.f0, .string x.f1, .slice B2 x.f2.length d2, .slice B3 x.f3.length d3], .int .i64 k, .int .i64 (d : Int)] W fun e W' => e = .returned (.tuple #[.int .i64 (cnt d x k).1, .bool (cnt d x k).2]) ∧ Below W.heap.size W W') :
  Calls Tryz.prog 48 #[.agg #[.int .u8 v.f0, .string v.f1, .slice A2 v.f2.length c2, .slice A3 v.f3.length c3], .int .i64 left, .int .i64 ((d + 1 : Nat) : Int)] w fun e w' => e = .returned (.tuple #[.int .i64 (cnt (d + 1) v left).1, .bool (cnt (d + 1) v left).2]) ∧ Below w.heap.size w w' := by
 obtain ⟨P1, hP1⟩ : ∃ P1, P1 = (cnt (d + 1) v left).1 := ⟨_, rfl⟩
 obtain ⟨P2, hP2⟩ : ∃ P2, P2 = (cnt (d + 1) v left).2 := ⟨_, rfl⟩
 rw [← hP1, ← hP2]
 obtain ⟨n2, hn2⟩ : ∃ n, n = v.f2.length := ⟨_, rfl⟩
 obtain ⟨n3, hn3⟩ : ∃ n, n = v.f3.length := ⟨_, rfl⟩
 have hc2 := hR.1
 have hc3 := hR.2
 rw [← hn2] at hz2 hc2 ⊢
 rw [← hn3] at hz3 hc3 ⊢
 obtain ⟨D, hD⟩ : ∃ D : Int, D = ((d + 1 : Nat) : Int) := ⟨_, rfl⟩
 rw [← hD]
 have hD1 : 1 ≤ D := by omega
 have hD2 : D ≤ 1001 := by omega
 have HD := Aside0.mk (show D - 1 = (d : Int) by omega)
 obtain ⟨g1, hg1⟩ : ∃ g1, g1 = (cntL (cnt d) v.f2 (left - 1)).1 := ⟨_, rfl⟩
 obtain ⟨g2, hg2⟩ : ∃ g2, g2 = (cntL (cnt d) v.f2 (left - 1)).2 := ⟨_, rfl⟩
 have HG := Aside0.mk (show cntL (cnt d) v.f2 (left - 1) = (g1, g2) by rw [hg1, hg2])
 have HP := Aside0.mk (show (P1, P2) = if left - 1 < 0 then (0, false) else if left - 1 < (n2 : Int) + (n3 : Int) then (0, false) else if g2 = true then cntL (cnt d) (v.f3.map fun y => y.f1) g1 else (g1, false) by rw [hP1, hP2, hg1, hg2, hn2, hn3]; rfl)
 have HN2 := Aside0.mk hn2; have HN3 := Aside0.mk hn3; have HC2 := Aside0.mk hc2; have HC3 := Aside0.mk hc3; have HI := Aside0.mk hI; obtain ⟨W1, hW1⟩ : ∃ W1, W1 = w.alloc (.cells #[.int .u8 v.f0, .string v.f1, .slice A2 n2 c2, .slice A3 n3 c3] 25 (0, 0)) := ⟨_, rfl⟩
 obtain ⟨N, hN⟩ : ∃ N, N = w.heap.size := ⟨_, rfl⟩
 have HX := Aside0.mk (show W1.heap[N]? = some (.cells #[.int .u8 v.f0, .string v.f1, .slice A2 n2 c2, .slice A3 n3 c3] 25 (0, 0)) by rw [hW1, hN]; exact blk_new w _)
 have HB1 := Aside0.mk (show Below w.heap.size w W1 by rw [hW1]; exact below_alloc (Below.refl _ _) _)
 have x2 := blk_cell HX.out 2
 have x3 := blk_cell HX.out 3
 have tD : decide (D < 1) = false := decide_eq_false (by omega)
 clear hP1 hP2 hn2 hn3 hg1 hg2 hD hI hR hc2 hc3; by_cases hlt0 : left - 1 < 0
 ·have HE := Aside0.mk (show P1 = 0 ∧ P2 = false by have h := HP.out; rw [if_pos hlt0] at h; exact ⟨congrArg Prod.fst h, congrArg Prod.snd h⟩)
  have t0 : decide (left - 1 < 0) = true := decide_eq_true hlt0
  have t00 : decide (left < 1) = true := decide_eq_true (by omega)
  clear hlt0; go_enter Tryz.func48, Tryz.ntmps48
  go_upto_region 1 with (fail)
  rw [← hW1, ← hN]
  clear hW1 hN; go_wp2
  go_ret2
  exact ⟨by rw [HE.out.1, HE.out.2]; rfl, HB1.out⟩
 have t0 : decide (left - 1 < 0) = false := decide_eq_false hlt0
 have t00 : decide (left < 1) = false := decide_eq_false (by omega)
 by_cases hgt : left - 1 < (n2 : Int) + (n3 : Int)
 ·have HE := Aside0.mk (show P1 = 0 ∧ P2 = false by have h := HP.out; rw [if_neg hlt0, if_pos hgt] at h; exact ⟨congrArg Prod.fst h, congrArg Prod.snd h⟩)
  have t1 : decide (left - 1 < (n2 : Int) + (n3 : Int)) = true := decide_eq_true hgt
  clear hlt0; go_enter Tryz.func48, Tryz.ntmps48
  go_upto_region 1 with (fail)
  rw [← hW1, ← hN]
  clear hW1 hN; go_wp2
  go_ret2
  exact ⟨by rw [HE.out.1, HE.out.2]; rfl, HB1.out⟩
 have t1 : decide (left - 1 < (n2 : Int) + (n3 : Int)) = false := decide_eq_false hgt
 have HE := Aside0.mk (show (P1, P2) = if g2 = true then cntL (cnt d) (v.f3.map fun y => y.f1) g1 else (g1, false) by have h := HP.out; rw [if_neg hlt0, if_neg hgt] at h; exact h)
 have HGB := Aside0.mk (show InB (left - 1) (g1, g2) by rw [← HG.out]; exact cntL_bd _ _ (fun x _ k hk => cnt_bd d x k hk) (by omega))
 have HL := Aside0.mk (show 0 ≤ left - 1 ∧ left - 1 ≤ 1000000 from ⟨by omega, by omega⟩)
 clear hlt0 hgt HP; go_enter Tryz.func48, Tryz.ntmps48
 go_upto_region 1 with (fail)
 rw [← hW1, ← hN]
 clear hW1 hN; go_upto_region 5 with (fail)
 clear t0 t00 t1 tD x2 x3; go_upto_block 0 with (fail)
 go_cut [1, 8] (fun v1 v8 wc => v1 = .int .i64 g1 ∧ v8 = .bool g2 ∧ Aside0 (wc.heap[N]? = some (.cells #[.int .u8 v.f0, .string v.f1, .slice A2 n2 c2, .slice A3 n3 c3] 25 (0, 0))) ∧ Aside0 (Below w.heap.size w wc))
 case first =>
  go_wp2
  go_loopw [1, 8, 9] (fun v1 v8 v9 w' => ∃ (j : Nat) (l : Int) (ok : Bool), j ≤ n2 ∧ v9 = .int .i64 j ∧ v1 = .int .i64 l ∧ v8 = .bool ok ∧ 0 ≤ l ∧ l ≤ 1000000 ∧ Aside0 ((if ok = true then cntL (cnt d) (v.f2.drop j) l else (l, false)) = (g1, g2)) ∧ Aside0 (w'.heap[N]? = some (.cells #[.int .u8 v.f0, .string v.f1, .slice A2 n2 c2, .slice A3 n3 c3] 25 (0, 0))) ∧ Aside0 (Below w.heap.size w w')) (fun _ _ v9 _ => n2 - (intOf v9).toNat)
  case atStart => exact ⟨0, left - 1, true, Nat.zero_le _, rfl, rfl, rfl, HL.out.1, HL.out.2, ⟨HG.out⟩, HX, HB1⟩
  case round =>
   obtain ⟨j, l, ok, hj, rfl, rfl, rfl, hl0, hl1, HF, HX5, HB5⟩ := hrel
   have x2 := blk_cell HX5.out 2
   by_cases hlt : j < n2
   ·have tlt : decide ((j : Int) < (n2 : Int)) = true := decide_eq_true (by omega)
    have tln : decide (j < n2) = true := decide_eq_true (by omega)
    cases ok
    ·have HE2 := Aside0.mk (show l = g1 ∧ false = g2 by have h := HF.out; rw [if_neg (by decide)] at h; exact ⟨congrArg Prod.fst h, congrArg Prod.snd h⟩)
     go_wp2
     go_meet
     case rel => exact ⟨by rw [HE2.out.1], by rw [HE2.out.2], HX5, HB5⟩
    ·obtain ⟨ad, A6, c6, A7, c7, x, hA2, m0, m1, m2, m3, hx⟩ := may_e2 HN2.out hlt HC2.out HB5.out
     have HXX := Aside0.mk hx; have HJ := Aside0.mk hlt; have HCL := Aside0.mk (HI.out x (.inl hx.1) l wr A6 A7 c6 c7 hl0 hl1 ⟨hx.2.1, hx.2.2.1⟩)
     have HBD := Aside0.mk (cnt_bd d x l hl0)
     have HF2 := Aside0.mk (show (if (cnt d x l).2 = true then cntL (cnt d) (v.f2.drop (j + 1)) (cnt d x l).1 else ((cnt d x l).1, false)) = (g1, g2) by have h := HF.out; rw [if_pos rfl, hx.2.2.2] at h; exact h)
     rw [← HD.out] at HCL
     obtain ⟨r1, hr1⟩ : ∃ r, r = (cnt d x l).1 := ⟨_, rfl⟩
     obtain ⟨r2, hr2⟩ : ∃ r, r = (cnt d x l).2 := ⟨_, rfl⟩
     have HBR := Aside0.mk (show 0 ≤ r1 ∧ r1 ≤ 1000000 by rw [hr1]; exact ⟨HBD.out.1, Int.le_trans HBD.out.2 hl1⟩)
     rw [← hr1, ← hr2] at HCL HF2
     subst hA2; clear hx hr1 hr2 HBD; go_wp2_with (go_at_call 48; refine HCL.out.mono ?_; rintro e w7 ⟨rfl, hb⟩; have HB7 := Aside0.mk (below_step HB5.out hb); have HX7 := Aside0.mk (blk_below HX5.out hb); clear hb)
     go_roundw
     case rel => exact ⟨j + 1, r1, r2, HJ.out, by go_num, rfl, rfl, HBR.out.1, HBR.out.2, HF2, HX7, HB7⟩
     case measure => have := HJ.out; simp [intOf]; omega
   ·have tlt : decide ((j : Int) < (n2 : Int)) = false := decide_eq_false (by omega)
    have tln : decide (j < n2) = false := decide_eq_false (by omega)
    have HE2 := Aside0.mk (show l = g1 ∧ ok = g2 by
     have h := HF.out
     rw [List.drop_eq_nil_of_le (by have := HN2.out; omega)] at h
     cases ok
     ·exact ⟨congrArg Prod.fst h, congrArg Prod.snd h⟩
     ·exact ⟨congrArg Prod.fst h, congrArg Prod.snd h⟩)
    clear hlt; go_wp2
    go_meet
    case rel => exact ⟨by rw [HE2.out.1], by rw [HE2.out.2], HX5, HB5⟩
 case rest =>
 obtain ⟨rfl, rfl, HX2, HB2⟩ := hcut
 go_upto_region 9 with (fail)
 go_upto_block 2 with (fail)
 go_cut [1, 8] (fun v1 v8 wc => v1 = .int .i64 P1 ∧ v8 = .bool P2 ∧ Aside0 (Below w.heap.size w wc))
 case first =>
  go_wp2
  go_loopw [1, 8, 10] (fun v1 v8 v9 w' => ∃ (j : Nat) (l : Int) (ok : Bool), j ≤ n3 ∧ v9 = .int .i64 j ∧ v1 = .int .i64 l ∧ v8 = .bool ok ∧ 0 ≤ l ∧ l ≤ 1000000 ∧ Aside0 ((if ok = true then cntL (cnt d) ((v.f3.drop j).map fun y => y.f1) l else (l, false)) = (P1, P2)) ∧ Aside0 (w'.heap[N]? = some (.cells #[.int .u8 v.f0, .string v.f1, .slice A2 n2 c2, .slice A3 n3 c3] 25 (0, 0))) ∧ Aside0 (Below w.heap.size w w')) (fun _ _ v9 _ => n3 - (intOf v9).toNat)
  case atStart => exact ⟨0, g1, g2, Nat.zero_le _, rfl, rfl, rfl, HGB.out.1, Int.le_trans HGB.out.2 HL.out.2, ⟨HE.out.symm⟩, HX2, HB2⟩
  case round =>
   obtain ⟨j, l, ok, hj, rfl, rfl, rfl, hl0, hl1, HF, HX5, HB5⟩ := hrel
   have x3 := blk_cell HX5.out 3
   by_cases hlt : j < n3
   ·have tlt : decide ((j : Int) < (n3 : Int)) = true := decide_eq_true (by omega)
    have tln : decide (j < n3) = true := decide_eq_true (by omega)
    cases ok
    ·have HE2 := Aside0.mk (show l = P1 ∧ false = P2 by have h := HF.out; rw [if_neg (by decide)] at h; exact ⟨congrArg Prod.fst h, congrArg Prod.snd h⟩)
     go_wp2
     go_meet
     case rel => exact ⟨by rw [HE2.out.1], by rw [HE2.out.2], HB5⟩
    ·obtain ⟨ad, A6, c6, A7, c7, x, hA2, m0, m1, m2, m3, m4, hx⟩ := may_e3 HN3.out hlt HC3.out HB5.out
     have HXX := Aside0.mk hx; have HJ := Aside0.mk hlt; have HCL := Aside0.mk (HI.out x.f1 (.inr ⟨x, hx.1, rfl⟩) l wr A6 A7 c6 c7 hl0 hl1 ⟨hx.2.1, hx.2.2.1⟩)
     have HBD := Aside0.mk (cnt_bd d x.f1 l hl0)
     have HF2 := Aside0.mk (show (if (cnt d x.f1 l).2 = true then cntL (cnt d) ((v.f3.drop (j + 1)).map fun y => y.f1) (cnt d x.f1 l).1 else ((cnt d x.f1 l).1, false)) = (P1, P2) by have h := HF.out; rw [if_pos rfl, hx.2.2.2, List.map_cons] at h; exact h)
     rw [← HD.out] at HCL
     obtain ⟨r1, hr1⟩ : ∃ r, r = (cnt d x.f1 l).1 := ⟨_, rfl⟩
     obtain ⟨r2, hr2⟩ : ∃ r, r = (cnt d x.f1 l).2 := ⟨_, rfl⟩
     have HBR := Aside0.mk (show 0 ≤ r1 ∧ r1 ≤ 1000000 by rw [hr1]; exact ⟨HBD.out.1, Int.le_trans HBD.out.2 hl1⟩)
     rw [← hr1, ← hr2] at HCL HF2
     subst hA2; clear hx hr1 hr2 HBD; go_wp2_with (go_at_call 48; refine HCL.out.mono ?_; rintro e w7 ⟨rfl, hb⟩; have HB7 := Aside0.mk (below_step HB5.out hb); have HX7 := Aside0.mk (blk_below HX5.out hb); clear hb)
     go_roundw
     case rel => exact ⟨j + 1, r1, r2, HJ.out, by go_num, rfl, rfl, HBR.out.1, HBR.out.2, HF2, HX7, HB7⟩
     case measure => have := HJ.out; simp [intOf]; omega
   ·have tlt : decide ((j : Int) < (n3 : Int)) = false := decide_eq_false (by omega)
    have tln : decide (j < n3) = false := decide_eq_false (by omega)
    have HE2 := Aside0.mk (show l = P1 ∧ ok = P2 by
     have h := HF.out
     rw [List.drop_eq_nil_of_le (by have := HN3.out; omega)] at h
     cases ok
     ·exact ⟨congrArg Prod.fst h, congrArg Prod.snd h⟩
     ·exact ⟨congrArg Prod.fst h, congrArg Prod.snd h⟩)
    clear hlt; go_wp2
    go_meet
    case rel => exact ⟨by rw [HE2.out.1], by rw [HE2.out.2], HB5⟩
 case rest =>
 obtain ⟨rfl, rfl, HB3⟩ := hcut
 go_wp2
 go_ret2
 exact ⟨rfl, HB3.out⟩
set_option maxRecDepth 100000 in
set_option maxHeartbeats 8000000 in
theorem cnt_z (v : JV) (left : Int) (hl0 : 0 ≤ left) (hl1 : left ≤ 1000000) (A2 A3 : Option Addr) (c2 c3 : Nat) (w : World) :
  Calls Tryz.prog 48 #[.agg #[.int .u8 v.f0, .string v.f1, .slice A2 v.f2.length c2, .slice A3 v.f3.length c3], .int .i64 left, .int .i64 ((0 : Nat) : Int)] w fun e w' => e = .returned (.tuple #[.int .i64 (cnt 0 v left).1, .bool (cnt 0 v left).2]) ∧ Below w.heap.size w w' := by
 rw [cnt]
 obtain ⟨n2, hn2⟩ : ∃ n, n = v.f2.length := ⟨_, rfl⟩
 obtain ⟨n3, hn3⟩ : ∃ n, n = v.f3.length := ⟨_, rfl⟩
 rw [← hn2, ← hn3]
 obtain ⟨D, hD⟩ : ∃ D : Int, D = ((0 : Nat) : Int) := ⟨_, rfl⟩
 rw [← hD]
 have tD : decide (D < 1) = true := decide_eq_true (by omega)
 obtain ⟨W1, hW1⟩ : ∃ W1, W1 = w.alloc (.cells #[.int .u8 v.f0, .string v.f1, .slice A2 n2 c2, .slice A3 n3 c3] 25 (0, 0)) := ⟨_, rfl⟩
 obtain ⟨N, hN⟩ : ∃ N, N = w.heap.size := ⟨_, rfl⟩
 have HB1 := Aside0.mk (show Below w.heap.size w W1 by rw [hW1]; exact below_alloc (Below.refl _ _) _)
 clear hn2 hn3 hD; by_cases hlt0 : left - 1 < 0
 ·have t0 : decide (left - 1 < 0) = true := decide_eq_true hlt0
  have t00 : decide (left < 1) = true := decide_eq_true (by omega)
  clear hlt0; go_enter Tryz.func48, Tryz.ntmps48
  go_upto_region 1 with (fail)
  rw [← hW1, ← hN]
  clear hW1 hN; go_wp2
  go_ret2
  exact ⟨rfl, HB1.out⟩
 ·have t0 : decide (left - 1 < 0) = false := decide_eq_false hlt0
  have t00 : decide (left < 1) = false := decide_eq_false (by omega)
  clear hlt0; go_enter Tryz.func48, Tryz.ntmps48
  go_upto_region 1 with (fail)
  rw [← hW1, ← hN]
  clear hW1 hN; go_wp2
  go_ret2
  exact ⟨rfl, HB1.out⟩
theorem Bd.sub {v : JV} (h : Bd v) : ∀ x, (x ∈ v.f2 ∨ ∃ y ∈ v.f3, y.f1 = x) → Bd x := by
 cases h with
 | mk _ h2 h3 hl hf =>
  intro x hx
  rcases hx with hx | ⟨y, hy, rfl⟩
  ·exact hl x hx
  ·exact hf y hy
theorem Bd.r2 {v : JV} (h : Bd v) : v.f2.length ≤ 140737488351232 ∧ v.f3.length ≤ 140737488351232 := by
 cases h with
 | mk _ h2 h3 hl hf => exact ⟨h2, h3⟩
theorem count.calls : ∀ (d : Nat), d ≤ 1000 → ∀ (v : JV) (left : Int), Bd v → 0 ≤ left → left ≤ 1000000 → ∀ (A2 A3 : Option Addr) (c2 c3 : Nat) (w : World), Rd v A2 A3 w →
  Calls Tryz.prog 48 #[.agg #[.int .u8 v.f0, .string v.f1, .slice A2 v.f2.length c2, .slice A3 v.f3.length c3], .int .i64 left, .int .i64 (d : Int)] w fun e w' => e = .returned (.tuple #[.int .i64 (cnt d v left).1, .bool (cnt d v left).2]) ∧ Below w.heap.size w w' := by
 intro d
 induction d with
 | zero => intro _ v left _ h0 h1 A2 A3 c2 c3 w _; exact cnt_z v left h0 h1 A2 A3 c2 c3 w
 | succ d ih =>
  intro hd v left hb h0 h1 A2 A3 c2 c3 w hR
  exact cnt_go d (by omega) v left h0 h1 A2 A3 c2 c3 w hR hb.r2.1 hb.r2.2 fun x hx k W B2 B3 d2 d3 hk0 hk1 hr => ih (by omega) x k (hb.sub x hx) hk0 hk1 B2 B3 d2 d3 W hr
set_option maxRecDepth 100000 in
set_option maxHeartbeats 8000000 in
theorem small.calls (v : JV) (hb : Bd v) (A2 A3 : Option Addr) (c2 c3 : Nat) (w : World) (hR : Rd v A2 A3 w) :
  Calls Tryz.prog 23 #[.agg #[.int .u8 v.f0, .string v.f1, .slice A2 v.f2.length c2, .slice A3 v.f3.length c3], .int .i64 2000, .int .i64 200] w fun e w' => e = .returned (.bool (cnt 200 v 2000).2) ∧ Below w.heap.size w w' := by
 obtain ⟨P1, hP1⟩ : ∃ P, P = (cnt 200 v 2000).1 := ⟨_, rfl⟩
 obtain ⟨P2, hP2⟩ : ∃ P, P = (cnt 200 v 2000).2 := ⟨_, rfl⟩
 have HC := Aside0.mk (fun (W : World) (h : Rd v A2 A3 W) => count.calls 200 (by decide) v 2000 hb (by decide) (by decide) A2 A3 c2 c3 W h)
 rw [← hP1, ← hP2] at HC
 rw [← hP2]
 obtain ⟨n2, hn2⟩ : ∃ n, n = v.f2.length := ⟨_, rfl⟩
 obtain ⟨n3, hn3⟩ : ∃ n, n = v.f3.length := ⟨_, rfl⟩
 rw [← hn2, ← hn3] at HC ⊢
 obtain ⟨k, hk⟩ : ∃ k, k = v.f0 := ⟨_, rfl⟩
 obtain ⟨t, ht⟩ : ∃ t, t = v.f1 := ⟨_, rfl⟩
 rw [← hk, ← ht] at HC ⊢
 obtain ⟨W1, hW1⟩ : ∃ W1, W1 = w.alloc (.cells #[.int .u8 k, .string t, .slice A2 n2 c2, .slice A3 n3 c3] 25 (0, 0)) := ⟨_, rfl⟩
 obtain ⟨N, hN⟩ : ∃ N, N = w.heap.size := ⟨_, rfl⟩
 have HX := Aside0.mk (show W1.heap[N]? = some (.cells #[.int .u8 k, .string t, .slice A2 n2 c2, .slice A3 n3 c3] 25 (0, 0)) by rw [hW1, hN]; exact blk_new w _)
 have HB1 := Aside0.mk (show Below w.heap.size w W1 by rw [hW1]; exact below_alloc (Below.refl _ _) _)
 have HR1 := Aside0.mk (show Rd v A2 A3 W1 by rw [hW1]; exact Rd.alloc hR _)
 have x0 := blk_cell HX.out 0
 have x1 := blk_cell HX.out 1
 have x2 := blk_cell HX.out 2
 have x3 := blk_cell HX.out 3
 clear hP1 hP2 hn2 hn3 hk ht hR; go_enter Tryz.func23, Tryz.ntmps23
 go_upto_region 1 with (fail)
 rw [← hW1, ← hN]
 clear hW1 hN; go_wp2_with (go_at_call 48; refine (HC.out _ HR1.out).mono ?_; rintro e w7 ⟨rfl, hb⟩; have HB7 := Aside0.mk (below_step HB1.out hb); clear hb)
 go_ret
 exact ⟨rfl, HB7.out⟩
mutual
/-- A value's bytes. -/
def byV : JV → Nat
 | ⟨_, t, l, f⟩ => t.size + byL l + byF f
def byL : List JV → Nat
 | [] => 0
 | x :: r => byV x + byL r
def byF : List JF → Nat
 | [] => 0
 | ⟨n, x⟩ :: r => n.size + byV x + byF r
end
theorem sum3 (m q z : Nat) (h : m + q + z ≤ 4611686018427387904) : wrap64 (wrap64 ((m : Int) + (q : Int)) + (z : Int)) = ((m + q + z : Nat) : Int) := by
 rw [← i64_w, ← i64_w, IntWalk.i64_in ((m : Int) + (q : Int)) (by omega), IntWalk.i64_in _ (by omega)]; omega
theorem byV_mk (v : JV) : byV v = v.f1.size + byL v.f2 + byF v.f3 := by cases v; rw [byV]
theorem byL_cons (x : JV) (r : List JV) : byL (x :: r) = byV x + byL r := by rw [byL]
theorem byF_cons (x : JF) (r : List JF) : byF (x :: r) = x.f0.size + byV x.f1 + byF r := by cases x; rw [byF]
theorem byL_nil : byL [] = 0 := by rw [byL]
theorem byF_nil : byF [] = 0 := by rw [byF]
theorem byL_mem : ∀ {l : List JV} {x : JV}, x ∈ l → byV x ≤ byL l := by
 intro l
 induction l with
 | nil => intro x h; cases h
 | cons a r ih =>
  intro x h
  rw [byL_cons]
  rcases List.mem_cons.1 h with rfl | h
  ·omega
  ·have := ih h; omega
theorem byF_mem : ∀ {l : List JF} {x : JF}, x ∈ l → x.f0.size + byV x.f1 ≤ byF l := by
 intro l
 induction l with
 | nil => intro x h; cases h
 | cons a r ih =>
  intro x h
  rw [byF_cons]
  rcases List.mem_cons.1 h with rfl | h
  ·omega
  ·have := ih h; omega
set_option maxRecDepth 100000 in
set_option maxHeartbeats 8000000 in
theorem size_go (v : JV) (hT : byV v ≤ 4611686018427387904) (A2 A3 : Option Addr) (c2 c3 : Nat) (w : World) (hR : Rd v A2 A3 w) (hz2 : v.f2.length ≤ 140737488351232) (hz3 : v.f3.length ≤ 140737488351232)
  (hI : ∀ x, (x ∈ v.f2 ∨ ∃ y ∈ v.f3, y.f1 = x) → ∀ (W : World) (B2 B3 : Option Addr) (d2 d3 : Nat), Rd x B2 B3 W → Calls Tryz.prog 49 #[.agg #[.int .u8 x.f0, .string x.f1, .slice B2 x.f2.length d2, .slice B3 x.f3.length d3]] W fun e W' => e = .returned (.int .i64 (byV x : Int)) ∧ Below W.heap.size W W') :
  Calls Tryz.prog 49 #[.agg #[.int .u8 v.f0, .string v.f1, .slice A2 v.f2.length c2, .slice A3 v.f3.length c3]] w fun e w' => e = .returned (.int .i64 (byV v : Int)) ∧ Below w.heap.size w w' := by
 obtain ⟨T, hTT⟩ : ∃ T, T = byV v := ⟨_, rfl⟩
 rw [← hTT] at hT ⊢
 obtain ⟨k, hk⟩ : ∃ k, k = v.f0 := ⟨_, rfl⟩
 obtain ⟨t, ht⟩ : ∃ t, t = v.f1 := ⟨_, rfl⟩
 obtain ⟨n2, hn2⟩ : ∃ n, n = v.f2.length := ⟨_, rfl⟩
 obtain ⟨n3, hn3⟩ : ∃ n, n = v.f3.length := ⟨_, rfl⟩
 have hc2 := hR.1
 have hc3 := hR.2
 rw [← hn2] at hz2 hc2 ⊢
 rw [← hn3] at hz3 hc3 ⊢
 rw [← hk, ← ht]
 have HTT := Aside0.mk (show T = t.size + byL v.f2 + byF v.f3 by rw [hTT, byV_mk, ht])
 have HTB := Aside0.mk hT; have HN2 := Aside0.mk hn2; have HN3 := Aside0.mk hn3; have HC2 := Aside0.mk hc2; have HC3 := Aside0.mk hc3; have HI := Aside0.mk hI; obtain ⟨W1, hW1⟩ : ∃ W1, W1 = w.alloc (.cells #[.int .u8 k, .string t, .slice A2 n2 c2, .slice A3 n3 c3] 25 (0, 0)) := ⟨_, rfl⟩
 obtain ⟨N, hN⟩ : ∃ N, N = w.heap.size := ⟨_, rfl⟩
 have HX := Aside0.mk (show W1.heap[N]? = some (.cells #[.int .u8 k, .string t, .slice A2 n2 c2, .slice A3 n3 c3] 25 (0, 0)) by rw [hW1, hN]; exact blk_new w _)
 have HB1 := Aside0.mk (show Below w.heap.size w W1 by rw [hW1]; exact below_alloc (Below.refl _ _) _)
 have x1 := blk_cell HX.out 1
 clear hTT hk ht hn2 hn3 hI hR hc2 hc3 hT; go_enter Tryz.func49, Tryz.ntmps49
 go_upto_region 1 with (fail)
 rw [← hW1, ← hN]
 clear hW1 hN; go_upto_region 2 with (fail)
 clear x1; go_wp2
 go_loopw [3, 4] (fun v3 v4 w' => ∃ (j n : Nat), j ≤ n2 ∧ v4 = .int .i64 j ∧ v3 = .int .i64 (n : Int) ∧ n ≤ 4611686018427387904 ∧ Aside0 (n + byL (v.f2.drop j) + byF v.f3 = T) ∧ Aside0 (w'.heap[N]? = some (.cells #[.int .u8 k, .string t, .slice A2 n2 c2, .slice A3 n3 c3] 25 (0, 0))) ∧ Aside0 (Below w.heap.size w w')) (fun _ v4 _ => n2 - (intOf v4).toNat)
 case atStart => exact ⟨0, t.size, Nat.zero_le _, rfl, rfl, by have := HTT.out; have := HTB.out; omega, ⟨HTT.out.symm⟩, HX, HB1⟩
 case round =>
  obtain ⟨j, n, hj, rfl, rfl, hn, HF, HX5, HB5⟩ := hrel
  have x2 := blk_cell HX5.out 2
  by_cases hlt : j < n2
  ·have tlt : decide ((j : Int) < (n2 : Int)) = true := decide_eq_true (by omega)
   have tln : decide (j < n2) = true := decide_eq_true (by omega)
   obtain ⟨ad, A6, c6, A7, c7, x, hA2, m0, m1, m2, m3, hx⟩ := may_e2 HN2.out hlt HC2.out HB5.out
   have HJ := Aside0.mk hlt; have HCL := Aside0.mk (HI.out x (.inl hx.1) wr A6 A7 c6 c7 ⟨hx.2.1, hx.2.2.1⟩)
   have HF2 := Aside0.mk (show n + byV x + byL (v.f2.drop (j + 1)) + byF v.f3 = T by have h := HF.out; rw [hx.2.2.2, byL_cons] at h; omega)
   obtain ⟨z, hz⟩ : ∃ z, z = byV x := ⟨_, rfl⟩
   rw [← hz] at HCL HF2
   have hzb : n + z ≤ 4611686018427387904 := by have := HF2.out; have := HTB.out; omega
   subst hA2; clear hx hz; go_wp2_with (go_at_call 49; refine HCL.out.mono ?_; rintro e w7 ⟨rfl, hb⟩; have HB7 := Aside0.mk (below_step HB5.out hb); have HX7 := Aside0.mk (blk_below HX5.out hb); clear hb)
   go_roundw
   case rel => exact ⟨j + 1, n + z, HJ.out, by go_num, by go_num, hzb, HF2, HX7, HB7⟩
   case measure => have := HJ.out; simp [intOf]; omega
  ·have tlt : decide ((j : Int) < (n2 : Int)) = false := decide_eq_false (by omega)
   have tln : decide (j < n2) = false := decide_eq_false (by omega)
   have HF0 := Aside0.mk (show n + byF v.f3 = T by
    have h := HF.out
    rw [List.drop_eq_nil_of_le (by have := HN2.out; omega), byL_nil] at h
    exact h)
   clear hlt HF; go_upto_region 6 with (fail)
   clear x2 tlt tln; go_wp2
   go_loopw [3, 5] (fun v3 v4 w' => ∃ (j n : Nat), j ≤ n3 ∧ v4 = .int .i64 j ∧ v3 = .int .i64 (n : Int) ∧ n ≤ 4611686018427387904 ∧ Aside0 (n + byF (v.f3.drop j) = T) ∧ Aside0 (w'.heap[N]? = some (.cells #[.int .u8 k, .string t, .slice A2 n2 c2, .slice A3 n3 c3] 25 (0, 0))) ∧ Aside0 (Below w.heap.size w w')) (fun _ v4 _ => n3 - (intOf v4).toNat)
   case atStart => exact ⟨0, n, Nat.zero_le _, rfl, rfl, hn, HF0, HX5, HB5⟩
   case round =>
    obtain ⟨i, m, hi, rfl, rfl, hm, HF, HX8, HB8⟩ := hrel
    have x3 := blk_cell HX8.out 3
    by_cases hlt : i < n3
    ·have tlt : decide ((i : Int) < (n3 : Int)) = true := decide_eq_true (by omega)
     have tln : decide (i < n3) = true := decide_eq_true (by omega)
     obtain ⟨ad, A6, c6, A7, c7, x, hA2, m0, m1, m2, m3, m4, hx⟩ := may_e3 HN3.out hlt HC3.out HB8.out
     have HJ := Aside0.mk hlt; have HCL := Aside0.mk (fun (W : World) (h : Rd x.f1 A6 A7 W) => HI.out x.f1 (.inr ⟨x, hx.1, rfl⟩) W A6 A7 c6 c7 h)
     have HRD := Aside0.mk (show Rd x.f1 A6 A7 wr from ⟨hx.2.1, hx.2.2.1⟩)
     have HF2 := Aside0.mk (show m + x.f0.size + byV x.f1 + byF (v.f3.drop (i + 1)) = T by have h := HF.out; rw [hx.2.2.2, byF_cons] at h; omega)
     obtain ⟨z, hz⟩ : ∃ z, z = byV x.f1 := ⟨_, rfl⟩
     obtain ⟨q, hq⟩ : ∃ q, q = x.f0.size := ⟨_, rfl⟩
     rw [← hz] at HCL
     rw [← hz, ← hq] at HF2
     have hzb : m + q + z ≤ 4611686018427387904 := by have := HF2.out; have := HTB.out; omega
     subst hA2; clear hx hz; go_upto_region 9 with (fail)
     have HE3 := Aside0.mk (show wrap64 (wrap64 ((m : Int) + (x.f0.size : Int)) + (z : Int)) = ((m + q + z : Nat) : Int) from hq ▸ sum3 m q z hzb)
     have hi1 : (0 : Int) ≤ (i : Int) := by omega
     have hi2 : (i : Int) < (n3 : Int) := by omega
     refine Go.Proofs.YtebmgmagdhedgaaGreatDoor.XRound.quiet_any (fun w' => w'.cell? ⟨N, 3, none⟩ = some (.slice (some ad) n3 c3) ∧ w'.cell? (ad.add (i * 5)) = some (.string x.f0) ∧ w'.cell? ⟨(ad.add (i * 5)).block, (ad.add (i * 5)).off + 1, none⟩ = some (.int .u8 x.f1.f0) ∧ w'.cell? ⟨(ad.add (i * 5)).block, (ad.add (i * 5)).off + 2, none⟩ = some (.string x.f1.f1) ∧ w'.cell? ⟨(ad.add (i * 5)).block, (ad.add (i * 5)).off + 3, none⟩ = some (.slice A6 x.f1.f2.length c6) ∧ w'.cell? ⟨(ad.add (i * 5)).block, (ad.add (i * 5)).off + 4, none⟩ = some (.slice A7 x.f1.f3.length c7) ∧ Aside0 (w'.heap[N]? = some (.cells #[.int .u8 k, .string t, .slice A2 n2 c2, .slice (some ad) n3 c3] 25 (0, 0))) ∧ Aside0 (Below w.heap.size w w') ∧ Aside0 (Rd x.f1 A6 A7 w')) ⟨x3, m0, m1, m2, m3, m4, HX8, ⟨below_drew1 HB8.out⟩, ⟨⟨Kd.C_drew HRD.out.1, Kd.C_drew HRD.out.2⟩⟩⟩ (by kernel_rfl) (by kernel_rfl) ?_
     iterate 15 refine Go.Proofs.YtebmgmagdhedgaaGreatDoor.XRound.q_op ?_
     refine Go.Proofs.YtebmgmagdhedgaaGreatDoor.XRound.q_call (f := 49) (args := #[.agg #[.int .u8 x.f1.f0, .string x.f1.f1, .slice A6 x.f1.f2.length c6, .slice A7 x.f1.f3.length c7]]) (.int .i64 (z : Int)) (fun w' hw' => ?hq) ?_ (hy := fun w' => by go_simp)
     case hq =>
      obtain ⟨h0, h1, h2, h3, h4, h5, hX, hB, hR⟩ := hw'
      refine (HCL.out w' hR.out).mono ?_
      rintro e w'' ⟨rfl, hb⟩
      exact ⟨rfl, pw_cell_below hb h0, pw_cell_below hb h1, pw_cell_below hb h2, pw_cell_below hb h3, pw_cell_below hb h4, pw_cell_below hb h5, ⟨blk_below hX.out hb⟩, ⟨below_step hB.out hb⟩, ⟨hR.out.below hb⟩⟩
     iterate 2 refine Go.Proofs.YtebmgmagdhedgaaGreatDoor.XRound.q_op ?_
     refine wpQuiet_nil ?_
     rintro w' ⟨_, _, _, _, _, _, hX9, hB9, _⟩
     clear x3 m0 m1 m2 m3 m4; go_wp2
     go_roundw
     case rel => exact ⟨i + 1, m + q + z, HJ.out, by go_num, congrArg (Value.int .i64) HE3.out, hzb, HF2, hX9, hB9⟩
     case measure => have := HJ.out; simp [intOf]; omega
    ·have tlt : decide ((i : Int) < (n3 : Int)) = false := decide_eq_false (by omega)
     have tln : decide (i < n3) = false := decide_eq_false (by omega)
     have HE3 := Aside0.mk (show m = T by
      have h := HF.out
      rw [List.drop_eq_nil_of_le (by have := HN3.out; omega), byF_nil] at h
      exact h)
     clear HF hlt; go_wp2
     go_ret
     exact ⟨by rw [← HE3.out]; rfl, HB8.out⟩
theorem size.calls : ∀ (v : JV), Bd v → byV v ≤ 4611686018427387904 → ∀ (A2 A3 : Option Addr) (c2 c3 : Nat) (w : World), Rd v A2 A3 w →
  Calls Tryz.prog 49 #[.agg #[.int .u8 v.f0, .string v.f1, .slice A2 v.f2.length c2, .slice A3 v.f3.length c3]] w fun e w' => e = .returned (.int .i64 (byV v : Int)) ∧ Below w.heap.size w w' := by
 refine jv_ind fun v h2 h3 hb hT A2 A3 c2 c3 w hR => ?_
 refine size_go v hT A2 A3 c2 c3 w hR hb.r2.1 hb.r2.2 fun x hx W B2 B3 d2 d3 hr => ?_
 rcases hx with hx | ⟨y, hy, rfl⟩
 ·exact h2 x hx (hb.sub x (.inl hx)) (by have := byL_mem hx; have := byV_mk v; omega) B2 B3 d2 d3 W hr
 ·exact h3 y hy (hb.sub _ (.inr ⟨y, hy, rfl⟩)) (by have := byF_mem hy; have := byV_mk v; omega) B2 B3 d2 d3 W hr
set_option maxRecDepth 100000 in
set_option maxHeartbeats 8000000 in
theorem long_go (v : JV) (hT : byV v ≤ 4611686018427387904) (A2 A3 : Option Addr) (c2 c3 : Nat) (w : World) (hR : Rd v A2 A3 w) (hz2 : v.f2.length ≤ 140737488351232) (hz3 : v.f3.length ≤ 140737488351232)
  (hI : ∀ x, (x ∈ v.f2 ∨ ∃ y ∈ v.f3, y.f1 = x) → ∀ (W : World) (B2 B3 : Option Addr) (d2 d3 : Nat), Rd x B2 B3 W → Calls Tryz.prog 49 #[.agg #[.int .u8 x.f0, .string x.f1, .slice B2 x.f2.length d2, .slice B3 x.f3.length d3]] W fun e W' => e = .returned (.int .i64 (byV x : Int)) ∧ Below W.heap.size W W') :
  Calls Tryz.prog 24 #[.agg #[.int .u8 v.f0, .string v.f1, .slice A2 v.f2.length c2, .slice A3 v.f3.length c3]] w fun e w' => e = .returned (.bool (decide ((20000 : Int) < (byV v : Int)))) ∧ Below w.heap.size w w' := by
 obtain ⟨T, hTT⟩ : ∃ T, T = byV v := ⟨_, rfl⟩
 rw [← hTT] at hT ⊢
 obtain ⟨k, hk⟩ : ∃ k, k = v.f0 := ⟨_, rfl⟩
 obtain ⟨t, ht⟩ : ∃ t, t = v.f1 := ⟨_, rfl⟩
 obtain ⟨n2, hn2⟩ : ∃ n, n = v.f2.length := ⟨_, rfl⟩
 obtain ⟨n3, hn3⟩ : ∃ n, n = v.f3.length := ⟨_, rfl⟩
 have hc2 := hR.1
 have hc3 := hR.2
 rw [← hn2] at hz2 hc2 ⊢
 rw [← hn3] at hz3 hc3 ⊢
 rw [← hk, ← ht]
 have HTT := Aside0.mk (show T = t.size + byL v.f2 + byF v.f3 by rw [hTT, byV_mk, ht])
 have HTB := Aside0.mk hT; have HN2 := Aside0.mk hn2; have HN3 := Aside0.mk hn3; have HC2 := Aside0.mk hc2; have HC3 := Aside0.mk hc3; have HI := Aside0.mk hI; obtain ⟨W1, hW1⟩ : ∃ W1, W1 = w.alloc (.cells #[.int .u8 k, .string t, .slice A2 n2 c2, .slice A3 n3 c3] 25 (0, 0)) := ⟨_, rfl⟩
 obtain ⟨N, hN⟩ : ∃ N, N = w.heap.size := ⟨_, rfl⟩
 have HX := Aside0.mk (show W1.heap[N]? = some (.cells #[.int .u8 k, .string t, .slice A2 n2 c2, .slice A3 n3 c3] 25 (0, 0)) by rw [hW1, hN]; exact blk_new w _)
 have HB1 := Aside0.mk (show Below w.heap.size w W1 by rw [hW1]; exact below_alloc (Below.refl _ _) _)
 have x1 := blk_cell HX.out 1
 clear hTT hk ht hn2 hn3 hI hR hc2 hc3 hT; go_enter Tryz.func24, Tryz.ntmps24
 go_upto_region 1 with (fail)
 rw [← hW1, ← hN]
 clear hW1 hN; go_upto_region 2 with (fail)
 clear x1; go_wp2
 go_loopw [3, 4] (fun v3 v4 w' => ∃ (j n : Nat), j ≤ n2 ∧ v4 = .int .i64 j ∧ v3 = .int .i64 (n : Int) ∧ n ≤ 4611686018427387904 ∧ Aside0 (n + byL (v.f2.drop j) + byF v.f3 = T) ∧ Aside0 (w'.heap[N]? = some (.cells #[.int .u8 k, .string t, .slice A2 n2 c2, .slice A3 n3 c3] 25 (0, 0))) ∧ Aside0 (Below w.heap.size w w')) (fun _ v4 _ => n2 - (intOf v4).toNat)
 case atStart => exact ⟨0, t.size, Nat.zero_le _, rfl, rfl, by have := HTT.out; have := HTB.out; omega, ⟨HTT.out.symm⟩, HX, HB1⟩
 case round =>
  obtain ⟨j, n, hj, rfl, rfl, hn, HF, HX5, HB5⟩ := hrel
  have x2 := blk_cell HX5.out 2
  by_cases hlt : j < n2
  ·have tlt : decide ((j : Int) < (n2 : Int)) = true := decide_eq_true (by omega)
   have tln : decide (j < n2) = true := decide_eq_true (by omega)
   obtain ⟨ad, A6, c6, A7, c7, x, hA2, m0, m1, m2, m3, hx⟩ := may_e2 HN2.out hlt HC2.out HB5.out
   have HJ := Aside0.mk hlt; have HCL := Aside0.mk (HI.out x (.inl hx.1) wr A6 A7 c6 c7 ⟨hx.2.1, hx.2.2.1⟩)
   have HF2 := Aside0.mk (show n + byV x + byL (v.f2.drop (j + 1)) + byF v.f3 = T by have h := HF.out; rw [hx.2.2.2, byL_cons] at h; omega)
   obtain ⟨z, hz⟩ : ∃ z, z = byV x := ⟨_, rfl⟩
   rw [← hz] at HCL HF2
   have hzb : n + z ≤ 4611686018427387904 := by have := HF2.out; have := HTB.out; omega
   subst hA2; clear hx hz; go_wp2_with (go_at_call 49; refine HCL.out.mono ?_; rintro e w7 ⟨rfl, hb⟩; have HB7 := Aside0.mk (below_step HB5.out hb); have HX7 := Aside0.mk (blk_below HX5.out hb); clear hb)
   go_roundw
   case rel => exact ⟨j + 1, n + z, HJ.out, by go_num, by go_num, hzb, HF2, HX7, HB7⟩
   case measure => have := HJ.out; simp [intOf]; omega
  ·have tlt : decide ((j : Int) < (n2 : Int)) = false := decide_eq_false (by omega)
   have tln : decide (j < n2) = false := decide_eq_false (by omega)
   have HF0 := Aside0.mk (show n + byF v.f3 = T by
    have h := HF.out
    rw [List.drop_eq_nil_of_le (by have := HN2.out; omega), byL_nil] at h
    exact h)
   clear hlt HF; go_upto_region 6 with (fail)
   clear x2 tlt tln; go_wp2
   go_loopw [3, 5] (fun v3 v4 w' => ∃ (j n : Nat), j ≤ n3 ∧ v4 = .int .i64 j ∧ v3 = .int .i64 (n : Int) ∧ n ≤ 4611686018427387904 ∧ Aside0 (n + byF (v.f3.drop j) = T) ∧ Aside0 (w'.heap[N]? = some (.cells #[.int .u8 k, .string t, .slice A2 n2 c2, .slice A3 n3 c3] 25 (0, 0))) ∧ Aside0 (Below w.heap.size w w')) (fun _ v4 _ => n3 - (intOf v4).toNat)
   case atStart => exact ⟨0, n, Nat.zero_le _, rfl, rfl, hn, HF0, HX5, HB5⟩
   case round =>
    obtain ⟨i, m, hi, rfl, rfl, hm, HF, HX8, HB8⟩ := hrel
    have x3 := blk_cell HX8.out 3
    by_cases hlt : i < n3
    ·have tlt : decide ((i : Int) < (n3 : Int)) = true := decide_eq_true (by omega)
     have tln : decide (i < n3) = true := decide_eq_true (by omega)
     obtain ⟨ad, A6, c6, A7, c7, x, hA2, m0, m1, m2, m3, m4, hx⟩ := may_e3 HN3.out hlt HC3.out HB8.out
     have HJ := Aside0.mk hlt; have HCL := Aside0.mk (fun (W : World) (h : Rd x.f1 A6 A7 W) => HI.out x.f1 (.inr ⟨x, hx.1, rfl⟩) W A6 A7 c6 c7 h)
     have HRD := Aside0.mk (show Rd x.f1 A6 A7 wr from ⟨hx.2.1, hx.2.2.1⟩)
     have HF2 := Aside0.mk (show m + x.f0.size + byV x.f1 + byF (v.f3.drop (i + 1)) = T by have h := HF.out; rw [hx.2.2.2, byF_cons] at h; omega)
     obtain ⟨z, hz⟩ : ∃ z, z = byV x.f1 := ⟨_, rfl⟩
     obtain ⟨q, hq⟩ : ∃ q, q = x.f0.size := ⟨_, rfl⟩
     rw [← hz] at HCL
     rw [← hz, ← hq] at HF2
     have hzb : m + q + z ≤ 4611686018427387904 := by have := HF2.out; have := HTB.out; omega
     subst hA2; clear hx hz; go_upto_region 9 with (fail)
     have HE3 := Aside0.mk (show wrap64 (wrap64 ((m : Int) + (x.f0.size : Int)) + (z : Int)) = ((m + q + z : Nat) : Int) from hq ▸ sum3 m q z hzb)
     have hi1 : (0 : Int) ≤ (i : Int) := by omega
     have hi2 : (i : Int) < (n3 : Int) := by omega
     refine Go.Proofs.YtebmgmagdhedgaaGreatDoor.XRound.quiet_any (fun w' => w'.cell? ⟨N, 3, none⟩ = some (.slice (some ad) n3 c3) ∧ w'.cell? (ad.add (i * 5)) = some (.string x.f0) ∧ w'.cell? ⟨(ad.add (i * 5)).block, (ad.add (i * 5)).off + 1, none⟩ = some (.int .u8 x.f1.f0) ∧ w'.cell? ⟨(ad.add (i * 5)).block, (ad.add (i * 5)).off + 2, none⟩ = some (.string x.f1.f1) ∧ w'.cell? ⟨(ad.add (i * 5)).block, (ad.add (i * 5)).off + 3, none⟩ = some (.slice A6 x.f1.f2.length c6) ∧ w'.cell? ⟨(ad.add (i * 5)).block, (ad.add (i * 5)).off + 4, none⟩ = some (.slice A7 x.f1.f3.length c7) ∧ Aside0 (w'.heap[N]? = some (.cells #[.int .u8 k, .string t, .slice A2 n2 c2, .slice (some ad) n3 c3] 25 (0, 0))) ∧ Aside0 (Below w.heap.size w w') ∧ Aside0 (Rd x.f1 A6 A7 w')) ⟨x3, m0, m1, m2, m3, m4, HX8, ⟨below_drew1 HB8.out⟩, ⟨⟨Kd.C_drew HRD.out.1, Kd.C_drew HRD.out.2⟩⟩⟩ (by kernel_rfl) (by kernel_rfl) ?_
     iterate 15 refine Go.Proofs.YtebmgmagdhedgaaGreatDoor.XRound.q_op ?_
     refine Go.Proofs.YtebmgmagdhedgaaGreatDoor.XRound.q_call (f := 49) (args := #[.agg #[.int .u8 x.f1.f0, .string x.f1.f1, .slice A6 x.f1.f2.length c6, .slice A7 x.f1.f3.length c7]]) (.int .i64 (z : Int)) (fun w' hw' => ?hq) ?_ (hy := fun w' => by go_simp)
     case hq =>
      obtain ⟨h0, h1, h2, h3, h4, h5, hX, hB, hR⟩ := hw'
      refine (HCL.out w' hR.out).mono ?_
      rintro e w'' ⟨rfl, hb⟩
      exact ⟨rfl, pw_cell_below hb h0, pw_cell_below hb h1, pw_cell_below hb h2, pw_cell_below hb h3, pw_cell_below hb h4, pw_cell_below hb h5, ⟨blk_below hX.out hb⟩, ⟨below_step hB.out hb⟩, ⟨hR.out.below hb⟩⟩
     iterate 2 refine Go.Proofs.YtebmgmagdhedgaaGreatDoor.XRound.q_op ?_
     refine wpQuiet_nil ?_
     rintro w' ⟨_, _, _, _, _, _, hX9, hB9, _⟩
     clear x3 m0 m1 m2 m3 m4; go_wp2
     go_roundw
     case rel => exact ⟨i + 1, m + q + z, HJ.out, by go_num, congrArg (Value.int .i64) HE3.out, hzb, HF2, hX9, hB9⟩
     case measure => have := HJ.out; simp [intOf]; omega
    ·have tlt : decide ((i : Int) < (n3 : Int)) = false := decide_eq_false (by omega)
     have tln : decide (i < n3) = false := decide_eq_false (by omega)
     have HE3 := Aside0.mk (show m = T by
      have h := HF.out
      rw [List.drop_eq_nil_of_le (by have := HN3.out; omega), byF_nil] at h
      exact h)
     clear HF hlt; go_wp2
     go_ret
     exact ⟨by rw [← HE3.out]; rfl, HB8.out⟩
theorem long.calls (v : JV) (hb : Bd v) (hT : byV v ≤ 4611686018427387904) (A2 A3 : Option Addr) (c2 c3 : Nat) (w : World) (hR : Rd v A2 A3 w) :
  Calls Tryz.prog 24 #[.agg #[.int .u8 v.f0, .string v.f1, .slice A2 v.f2.length c2, .slice A3 v.f3.length c3]] w fun e w' => e = .returned (.bool (decide ((20000 : Int) < (byV v : Int)))) ∧ Below w.heap.size w w' := by
 refine long_go v hT A2 A3 c2 c3 w hR hb.r2.1 hb.r2.2 fun x hx W B2 B3 d2 d3 hr => ?_
 rcases hx with hx | ⟨y, hy, rfl⟩
 ·exact size.calls x (hb.sub x (.inl hx)) (by have := byL_mem hx; have := byV_mk v; omega) B2 B3 d2 d3 W hr
 ·exact size.calls y.f1 (hb.sub _ (.inr ⟨y, hy, rfl⟩)) (by have := byF_mem hy; have := byV_mk v; omega) B2 B3 d2 d3 W hr
mutual
def wfV : JV → Bool
 | ⟨k, t, l, f⟩ => decide (0 ≤ k) && decide (t.size ≤ 140737488351232) && decide (l.length ≤ 140737488351232) && decide (f.length ≤ 140737488351232) && wfL l && wfF f
def wfL : List JV → Bool
 | [] => true
 | x :: r => wfV x && wfL r
def wfF : List JF → Bool
 | [] => true
 | ⟨n, x⟩ :: r => decide (n.size ≤ 140737488351232) && wfV x && wfF r
end
mutual
def ndV : JV → Nat
 | ⟨_, _, l, f⟩ => 1 + ndL l + ndF f
def ndL : List JV → Nat
 | [] => 0
 | x :: r => ndV x + ndL r
def ndF : List JF → Nat
 | [] => 0
 | ⟨_, x⟩ :: r => ndV x + ndF r
end
theorem wfL_iff : ∀ {l : List JV}, wfL l = true ↔ ∀ x ∈ l, wfV x = true := by
 intro l
 induction l with
 | nil => simp [wfL]
 | cons x r ih => simp [wfL, ih]
theorem wfF_iff : ∀ {l : List JF}, wfF l = true ↔ ∀ y ∈ l, y.f0.size ≤ 140737488351232 ∧ wfV y.f1 = true := by
 intro l
 induction l with
 | nil => simp [wfF]
 | cons x r ih => cases x; simp [wfF, ih, and_assoc]
theorem wfV_iff {v : JV} : wfV v = true ↔ (0 ≤ v.f0 ∧ v.f1.size ≤ 140737488351232 ∧ v.f2.length ≤ 140737488351232 ∧ v.f3.length ≤ 140737488351232 ∧ (∀ x ∈ v.f2, wfV x = true) ∧ ∀ y ∈ v.f3, y.f0.size ≤ 140737488351232 ∧ wfV y.f1 = true) := by
 cases v
 simp only [wfV, Bool.and_eq_true, decide_eq_true_eq, wfL_iff, wfF_iff, and_assoc]
theorem ndV_mk (v : JV) : ndV v = 1 + ndL v.f2 + ndF v.f3 := by cases v; rw [ndV]
theorem ndL_nil : ndL [] = 0 := by rw [ndL]
theorem ndF_nil : ndF [] = 0 := by rw [ndF]
theorem ndL_cons (x : JV) (r : List JV) : ndL (x :: r) = ndV x + ndL r := by rw [ndL]
theorem ndF_cons (x : JF) (r : List JF) : ndF (x :: r) = ndV x.f1 + ndF r := by cases x; rw [ndF]
theorem ndF_map : ∀ l : List JF, ndL (l.map fun y => y.f1) = ndF l := by
 intro l
 induction l with
 | nil => rw [List.map_nil, ndL_nil, ndF_nil]
 | cons x r ih => rw [List.map_cons, ndL_cons, ndF_cons, ih]
theorem ndL_mem : ∀ {l : List JV} {x : JV}, x ∈ l → ndV x ≤ ndL l := by
 intro l
 induction l with
 | nil => intro x h; cases h
 | cons a r ih =>
  intro x h
  rw [ndL_cons]
  rcases List.mem_cons.1 h with rfl | h
  ·omega
  ·have := ih h; omega
theorem ndL_len : ∀ l : List JV, l.length ≤ ndL l := by
 intro l
 induction l with
 | nil => exact Nat.zero_le _
 | cons a r ih => rw [ndL_cons, List.length_cons]; have := ndV_mk a; omega
theorem ndF_mem {l : List JF} {y : JF} (h : y ∈ l) : ndV y.f1 ≤ ndF l := by
 rw [← ndF_map]; exact ndL_mem (List.mem_map_of_mem (f := fun y : JF => y.f1) h)
theorem ndF_len (l : List JF) : l.length ≤ ndF l := by
 rw [← ndF_map]; have := ndL_len (l.map fun y => y.f1); rwa [List.length_map] at this
theorem Bd.of_wf : ∀ v, wfV v = true → Bd v := by
 refine jv_ind fun v h2 h3 hw => ?_
 obtain ⟨_, _, a, b, c, d⟩ := wfV_iff.1 hw
 exact .mk v a b (fun x hx => h2 x hx (c x hx)) (fun y hy => h3 y hy (d y hy).2)
theorem Sz.of_wf (M : Nat) : ∀ v, wfV v = true → byV v ≤ M → Sz M v := by
 refine jv_ind fun v h2 h3 hw hb => ?_
 obtain ⟨p, _, a, b, c, d⟩ := wfV_iff.1 hw
 rw [byV_mk] at hb
 exact .mk v p (by omega) a b (fun x hx => h2 x hx (c x hx) (by have := byL_mem hx; omega)) (fun y hy => by have := byF_mem hy; omega) (fun y hy => h3 y hy (d y hy).2 (by have := byF_mem hy; omega))
theorem cntL_nd {f : JV → Int → Int × Bool} : ∀ (l : List JV) (L : Int), (∀ x ∈ l, ∀ k, (f x k).2 = true → (ndV x : Int) + (f x k).1 ≤ k) → (cntL f l L).2 = true → (ndL l : Int) + (cntL f l L).1 ≤ L := by
 intro l
 induction l with
 | nil => intro L _ _; rw [cntL, ndL_nil]; simp
 | cons x r ih =>
  intro L hf h
  rw [cntL] at h ⊢
  by_cases c : (f x L).2 = true
  ·rw [if_pos c] at h ⊢
   have h1 := hf x (by simp) L c
   have h2 := ih (f x L).1 (fun y hy => hf y (by simp [hy])) h
   rw [ndL_cons]
   omega
  ·rw [if_neg c] at h
   cases h
theorem cnt_nd : ∀ (d : Nat) (v : JV) (L : Int), (cnt d v L).2 = true → (ndV v : Int) + (cnt d v L).1 ≤ L := by
 intro d
 induction d with
 | zero => intro v L h; rw [cnt] at h; cases h
 | succ d ih =>
  intro v L h
  rw [cnt] at h ⊢
  by_cases a : L - 1 < 0
  ·rw [if_pos a] at h; cases h
  rw [if_neg a] at h ⊢
  by_cases b : L - 1 < (v.f2.length : Int) + (v.f3.length : Int)
  ·rw [if_pos b] at h; cases h
  rw [if_neg b] at h ⊢
  by_cases c : (cntL (cnt d) v.f2 (L - 1)).2 = true
  ·rw [if_pos c] at h ⊢
   have h1 := cntL_nd (f := cnt d) v.f2 (L - 1) (fun x _ k => ih x k) c
   have h2 := cntL_nd (f := cnt d) (v.f3.map fun y => y.f1) _ (fun x _ k => ih x k) h
   rw [ndF_map] at h2
   rw [ndV_mk]
   omega
  ·rw [if_neg c] at h; cases h
theorem byL_nd : ∀ (l : List JV), (∀ x ∈ l, byV x + 140737488351232 ≤ ndV x * 281474976702464) → byL l ≤ ndL l * 281474976702464 := by
 intro l
 induction l with
 | nil => intro _; rw [byL_nil]; exact Nat.zero_le _
 | cons x r ih =>
  intro h
  have h1 := h x (by simp)
  have h2 := ih (fun y hy => h y (by simp [hy]))
  rw [byL_cons, ndL_cons]
  omega
theorem byF_nd : ∀ (l : List JF), (∀ y ∈ l, y.f0.size ≤ 140737488351232 ∧ byV y.f1 + 140737488351232 ≤ ndV y.f1 * 281474976702464) → byF l ≤ ndF l * 281474976702464 := by
 intro l
 induction l with
 | nil => intro _; rw [byF_nil]; exact Nat.zero_le _
 | cons x r ih =>
  intro h
  have h1 := h x (by simp)
  have h2 := ih (fun y hy => h y (by simp [hy]))
  rw [byF_cons, ndF_cons]
  omega
theorem by_nd : ∀ v, wfV v = true → byV v + 140737488351232 ≤ ndV v * 281474976702464 := by
 refine jv_ind fun v h2 h3 hw => ?_
 obtain ⟨p, t, a, b, c, d⟩ := wfV_iff.1 hw
 have e2 := byL_nd v.f2 fun x hx => h2 x hx (c x hx)
 have e3 := byF_nd v.f3 fun y hy => ⟨(d y hy).1, h3 y hy (d y hy).2⟩
 rw [byV_mk, ndV_mk]
 omega
theorem quo_most (s : ByteArray) : (quo s).length ≤ 6 * s.size + 2 := by
 unfold quo
 have := quoteL_len s s.size 0
 simp only [List.length_cons, List.length_append, List.length_nil]
 omega
theorem sepL_len {ch : JV → List UInt8} : ∀ (l : List JV) (b : Bool), (∀ x ∈ l, (ch x).length + 4 ≤ 6 * byV x + 10 * ndV x) → (sep b (l.map ch)).length ≤ 6 * byL l + 10 * ndL l := by
 intro l
 induction l with
 | nil => intro b _; simp [sep]
 | cons x r ih =>
  intro b h
  have h1 := h x (by simp)
  have h2 := ih false (fun y hy => h y (by simp [hy]))
  rw [List.map_cons, sep, byL_cons, ndL_cons, List.length_append]
  cases b <;> simp <;> omega
theorem sepF_len {ch : JV → List UInt8} : ∀ (l : List JF) (b : Bool), (∀ y ∈ l, (ch y.f1).length + 4 ≤ 6 * byV y.f1 + 10 * ndV y.f1) → (sep b (l.map fun f => quo f.f0 ++ 58 :: ch f.f1)).length ≤ 6 * byF l + 10 * ndF l := by
 intro l
 induction l with
 | nil => intro b _; simp [sep]
 | cons x r ih =>
  intro b h
  have h1 := h x (by simp)
  have h2 := ih false (fun y hy => h y (by simp [hy]))
  have h3 := quo_most x.f0
  rw [List.map_cons, sep, byF_cons, ndF_cons, List.length_append]
  cases b <;> simp <;> omega
theorem wrF_len {ch : JV → List UInt8} (v : JV) (h2 : ∀ x ∈ v.f2, (ch x).length + 4 ≤ 6 * byV x + 10 * ndV x) (h3 : ∀ y ∈ v.f3, (ch y.f1).length + 4 ≤ 6 * byV y.f1 + 10 * ndV y.f1) : (wrF ch v).length + 4 ≤ 6 * byV v + 10 * ndV v := by
 have e2 := sepL_len (ch := ch) v.f2 true h2
 have e3 := sepF_len (ch := ch) v.f3 true h3
 have q := quo_most v.f1
 have z : v.f1.data.toList.length = v.f1.size := by rw [Array.length_toList]; rfl
 rw [byV_mk, ndV_mk]
 unfold wrF
 repeat' split
 all_goals (try simp only [List.length_cons, List.length_append, List.length_nil])
 all_goals first | omega | exact Nat.le_trans (Nat.add_le_add_right (Nat.add_le_add_right (Nat.add_le_add_right e3 _) _) _) (by omega)
theorem wr_len : ∀ (d : Nat) (v : JV), (wrD d v).length + 4 ≤ 6 * byV v + 10 * ndV v := by
 intro d
 induction d with
 | zero =>
  intro v
  have hn : ∀ x : JV, 1 ≤ ndV x := fun x => by rw [ndV_mk]; omega
  exact wrF_len v (fun x _ => by have := hn x; simp only [List.length_nil]; omega) (fun y _ => by have := hn y.f1; simp only [List.length_nil]; omega)
 | succ d ih => intro v; exact wrF_len v (fun x _ => ih x) (fun y _ => ih y.f1)
/-- Whether a value is too great for the laws. -/
def gB (v : JV) : Bool := if v.f2.length + v.f3.length = 0 then decide (524288 < v.f1.size) else (!(cnt 200 v 2000).2 || decide ((20000 : Int) < (byV v : Int)))
theorem nd_small {v : JV} (h : (cnt 200 v 2000).2 = true) : ndV v ≤ 2000 := by
 have h1 := cnt_nd 200 v 2000 h
 have h2 := (cnt_bd 200 v 2000 (by decide)).1
 omega
theorem by_small {v : JV} (hw : wfV v = true) (h : (cnt 200 v 2000).2 = true) : byV v ≤ 4611686018427387904 := by
 have := by_nd v hw
 have := nd_small h
 omega
theorem gB_no {v : JV} (h : gB v = false) : byV v ≤ 524288 ∧ ndV v ≤ 2000 := by
 unfold gB at h
 by_cases c : v.f2.length + v.f3.length = 0
 ·rw [if_pos c, decide_eq_false_iff_not] at h
  obtain ⟨k, t, l, f⟩ := v
  obtain rfl : l = [] := List.eq_nil_of_length_eq_zero (by simp only at c; omega)
  obtain rfl : f = [] := List.eq_nil_of_length_eq_zero (by simp only at c; omega)
  rw [byV_mk, ndV_mk]
  simp only at h ⊢
  rw [byL_nil, byF_nil, ndL_nil, ndF_nil]
  omega
 ·rw [if_neg c, Bool.or_eq_false_iff, decide_eq_false_iff_not] at h
  have := nd_small (v := v) (by simpa using h.1)
  omega
theorem pos_wf : ∀ (d : Nat) (v : JV), wfV v = true → posD d v = true := by
 intro d
 induction d with
 | zero => intro v h; rw [posD]; exact decide_eq_true (wfV_iff.1 h).1
 | succ d ih =>
  intro v h
  obtain ⟨p, _, _, _, c, e⟩ := wfV_iff.1 h
  simp only [posD, Bool.and_eq_true, List.all_eq_true, decide_eq_true_eq]
  exact ⟨⟨p, fun x hx => ih x (c x hx)⟩, fun y hy => ih y.f1 (e y hy).2⟩
set_option maxRecDepth 100000 in
set_option maxHeartbeats 8000000 in
theorem great.calls (v : JV) (hw : wfV v = true) (A2 A3 : Option Addr) (c2 c3 : Nat) (w : World) (hR : Rd v A2 A3 w) :
  Calls Tryz.prog 8 #[.agg #[.int .u8 v.f0, .string v.f1, .slice A2 v.f2.length c2, .slice A3 v.f3.length c3]] w fun e w' => e = .returned (.bool (gB v)) ∧ Below w.heap.size w w' := by
 obtain ⟨_, _, hz2, hz3, _, _⟩ := wfV_iff.1 hw
 obtain ⟨G, hG⟩ : ∃ G, G = gB v := ⟨_, rfl⟩
 rw [← hG]
 have HG := Aside0.mk (show G = if v.f2.length + v.f3.length = 0 then decide (524288 < v.f1.size) else (!(cnt 200 v 2000).2 || decide ((20000 : Int) < (byV v : Int))) from hG)
 clear hG; have HSM := Aside0.mk (fun (W : World) (h : Rd v A2 A3 W) => small.calls v (.of_wf v hw) A2 A3 c2 c3 W h)
 have HLG := Aside0.mk (fun (hs : (cnt 200 v 2000).2 = true) (W : World) (h : Rd v A2 A3 W) => long.calls v (.of_wf v hw) (by_small hw hs) A2 A3 c2 c3 W h)
 obtain ⟨S, hS⟩ : ∃ S, S = (cnt 200 v 2000).2 := ⟨_, rfl⟩
 obtain ⟨L, hL⟩ : ∃ L, L = decide ((20000 : Int) < (byV v : Int)) := ⟨_, rfl⟩
 rw [← hS] at HG HSM HLG
 rw [← hL] at HG HLG
 obtain ⟨n2, hn2⟩ : ∃ n, n = v.f2.length := ⟨_, rfl⟩
 obtain ⟨n3, hn3⟩ : ∃ n, n = v.f3.length := ⟨_, rfl⟩
 rw [← hn2] at HG HSM HLG hz2 ⊢
 rw [← hn3] at HG HSM HLG hz3 ⊢
 obtain ⟨k, hk⟩ : ∃ k, k = v.f0 := ⟨_, rfl⟩
 obtain ⟨t, ht⟩ : ∃ t, t = v.f1 := ⟨_, rfl⟩
 rw [← hk, ← ht] at HSM HLG ⊢
 rw [← ht] at HG
 obtain ⟨W1, hW1⟩ : ∃ W1, W1 = w.alloc (.cells #[.int .u8 k, .string t, .slice A2 n2 c2, .slice A3 n3 c3] 25 (0, 0)) := ⟨_, rfl⟩
 obtain ⟨N, hN⟩ : ∃ N, N = w.heap.size := ⟨_, rfl⟩
 have HX := Aside0.mk (show W1.heap[N]? = some (.cells #[.int .u8 k, .string t, .slice A2 n2 c2, .slice A3 n3 c3] 25 (0, 0)) by rw [hW1, hN]; exact blk_new w _)
 have HB1 := Aside0.mk (show Below w.heap.size w W1 by rw [hW1]; exact below_alloc (Below.refl _ _) _)
 have HR1 := Aside0.mk (show Rd v A2 A3 W1 by rw [hW1]; exact Rd.alloc hR _)
 have x0 := blk_cell HX.out 0
 have x1 := blk_cell HX.out 1
 have x2 := blk_cell HX.out 2
 have x3 := blk_cell HX.out 3
 clear hS hL hn2 hn3 hk ht hR hw; by_cases hz : n2 + n3 = 0
 ·have HE := Aside0.mk (show G = decide ((524288 : Int) < (t.size : Int)) by
   rw [HG.out, if_pos hz]
   exact decide_eq_decide.2 (by omega))
  obtain rfl : n2 = 0 := by omega
  obtain rfl : n3 = 0 := by omega
  clear hz HG; go_enter Tryz.func8, Tryz.ntmps8
  go_upto_region 1 with (fail)
  rw [← hW1, ← hN]
  clear hW1 hN; go_wp2
  go_ret
  exact ⟨by rw [HE.out]; rfl, HB1.out⟩
 ·have tz1 : ((n2 : Int) + (n3 : Int) == 0) = false := beq_eq_false_iff_ne.2 (by omega)
  have tz2 : decide ((n2 : Int) + (n3 : Int) = 0) = false := decide_eq_false (by omega)
  have HE := Aside0.mk (show G = (!S || L) by rw [HG.out, if_neg hz])
  clear hz HG; cases S with
  | false =>
   go_enter Tryz.func8, Tryz.ntmps8
   go_upto_region 1 with (fail)
   rw [← hW1, ← hN]
   clear hW1 hN; go_wp2_with (go_at_call 23; refine (HSM.out _ HR1.out).mono ?_; rintro e w7 ⟨rfl, hb⟩; have HB7 := Aside0.mk (below_step HB1.out hb); clear hb)
   go_ret
   exact ⟨by rw [HE.out]; rfl, HB7.out⟩
  | true =>
   have HL2 := Aside0.mk (HLG.out rfl)
   clear HLG; go_enter Tryz.func8, Tryz.ntmps8
   go_upto_region 1 with (fail)
   rw [← hW1, ← hN]
   clear hW1 hN; go_wp2_with (first | (go_at_call 23; refine (HSM.out _ HR1.out).mono ?_; rintro e w7 ⟨rfl, hb⟩; have HR7 := Aside0.mk (HR1.out.below hb); have HX7 := Aside0.mk (blk_below HX.out hb); have HB7 := Aside0.mk (below_step HB1.out hb); clear hb x0 x1 x2 x3; have x0 := blk_cell HX7.out 0; have x1 := blk_cell HX7.out 1; have x2 := blk_cell HX7.out 2; have x3 := blk_cell HX7.out 3) | (go_at_call 24; refine (HL2.out _ HR7.out).mono ?_; rintro e w8 ⟨rfl, hb⟩; have HB8 := Aside0.mk (below_step HB7.out hb); clear hb))
   all_goals (try go_wp2)
   go_ret
   exact ⟨by rw [HE.out]; rfl, HB8.out⟩
end Go.Proofs.YtebmgmagdhedgaaGreatDoor.Q
