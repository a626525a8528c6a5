/- Words and walks of this claim, put together by this repo's wip/xlink.py out of Q8, XRef01, XUtfX, Q10. -/
import Derived.Test.YtebmgmagdhedgaaGreatDoorL8
import Derived.Test.YtebmgmagdhedgaaGreatDoorL4
import Derived.Test.YtebmgmagdhedgaaGreatDoorL3
import Derived.Test.YtebmgmagdhedgaaGreatDoorL11
import Derived.Lib.MapLaws
section
namespace Go.Proofs.YtebmgmagdhedgaaGreatDoor.Q
open Go.RowKit Go.Proofs.YtebmgmagdhedgaaGreatDoorW.PrintWords Go.Proofs.YtebmgmagdhedgaaGreatDoorW.PrintLast Go.Proofs.YtebmgmagdhedgaaGreatDoorW.PrintMore
attribute [local go_sem] max2_int min2_int max_two min_two max_three min_three max_four min_four   
set_option linter.unusedVariables false
set_option linter.unusedSimpArgs false
mutual
def glossatorref01_Next.j0 : Nat → ByteArray → Int → Bool → Option (Int × Int × Bool)
 | 0, _, _, _ => none
 | k + 1, x0, x1, x20 => if x20 = true then (some (0, 0, false)) else (if 0 ≤ x1 then (if x1 < (x0.size : Int) then (if (wrap64 (bt x0 x1)) < 128 then (some (wrap32 (wrap64 (bt x0 x1)), 1, true)) else (if (wrap64 (bt x0 x1)) ≥ 192 then (glossatorref01_Next.j1 k x0 x1 (wrap64 (bt x0 x1)) (decide ((wrap64 (bt x0 x1)) < 224))) else (glossatorref01_Next.j1 k x0 x1 (wrap64 (bt x0 x1)) false))) else (none)) else (none))
def glossatorref01_Next.j3 : Nat → ByteArray → Int → Int → Int → Option (Int × Int × Bool)
 | 0, _, _, _, _ => none
 | k + 1, x0, x1, x8, x9 => if (wrap64 (x1 + x8)) > (x0.size : Int) then (some (0, 0, false)) else (glossatorref01_Next.l0 k x0 x1 x8 x9 1)
def glossatorref01_Next.l0 : Nat → ByteArray → Int → Int → Int → Int → Option (Int × Int × Bool)
 | 0, _, _, _, _, _ => none
 | k + 1, x0, x1, x8, x9, x10 => if x10 < x8 then (if 0 ≤ (wrap64 (x1 + x10)) then (if (wrap64 (x1 + x10)) < (x0.size : Int) then (if (wrap64 (bt x0 (wrap64 (x1 + x10)))) < 128 then (some (0, 0, false)) else (if (wrap64 (bt x0 (wrap64 (x1 + x10)))) ≥ 192 then (some (0, 0, false)) else (glossatorref01_Next.l0 k x0 x1 x8 (wrap64 ((wrap64 ((wrap64 (x9 * 64)) + (wrap64 (bt x0 (wrap64 (x1 + x10)))))) - 128)) (wrap64 (x10 + 1))))) else (none)) else (none)) else ((some (([0, 0, 128, 2048, 65536] : List Int) : List Int)).bind fun y102 => (if 0 ≤ x8 then (if x8 < (y102.length : Int) then (if x9 < (rd y102 x8) then (some (0, 0, false)) else (if x9 > 1114111 then (some (0, 0, false)) else (if x9 ≥ 55296 then (if x9 < 57344 then (some (0, 0, false)) else (some (wrap32 (x9), x8, true))) else (some (wrap32 (x9), x8, true))))) else (none)) else (none)))
def glossatorref01_Next.j1 : Nat → ByteArray → Int → Int → Bool → Option (Int × Int × Bool)
 | 0, _, _, _, _ => none
 | k + 1, x0, x1, x7, x31 => if x31 = true then (glossatorref01_Next.j3 k x0 x1 2 (wrap64 (x7 - 192))) else (if x7 ≥ 224 then (glossatorref01_Next.j2 k x0 x1 x7 (decide (x7 < 240))) else (glossatorref01_Next.j2 k x0 x1 x7 false))
def glossatorref01_Next.j2 : Nat → ByteArray → Int → Int → Bool → Option (Int × Int × Bool)
 | 0, _, _, _, _ => none
 | k + 1, x0, x1, x7, x40 => if x40 = true then (glossatorref01_Next.j3 k x0 x1 3 (wrap64 (x7 - 224))) else (if x7 ≥ 240 then (if x7 < 248 then (glossatorref01_Next.j3 k x0 x1 4 (wrap64 (x7 - 240))) else (some (0, 0, false))) else (some (0, 0, false)))
end
def glossatorref01_Next.f (k : Nat) (a0 : ByteArray) (a1 : Int) : Option (Int × Int × Bool) := if a1 < 0 then (glossatorref01_Next.j0 k a0 a1 true) else (glossatorref01_Next.j0 k a0 a1 (decide (a1 ≥ (a0.size : Int))))
theorem glossatorref01_Next.mono_l : ∀ k, (∀ y0 y1 y2, LeO (glossatorref01_Next.j0 k y0 y1 y2) (glossatorref01_Next.j0 (k + 1) y0 y1 y2)) ∧ (∀ y0 y1 y2 y3, LeO (glossatorref01_Next.j3 k y0 y1 y2 y3) (glossatorref01_Next.j3 (k + 1) y0 y1 y2 y3)) ∧ (∀ y0 y1 y2 y3 y4, LeO (glossatorref01_Next.l0 k y0 y1 y2 y3 y4) (glossatorref01_Next.l0 (k + 1) y0 y1 y2 y3 y4)) ∧ (∀ y0 y1 y2 y3, LeO (glossatorref01_Next.j1 k y0 y1 y2 y3) (glossatorref01_Next.j1 (k + 1) y0 y1 y2 y3)) ∧ (∀ y0 y1 y2 y3, LeO (glossatorref01_Next.j2 k y0 y1 y2 y3) (glossatorref01_Next.j2 (k + 1) y0 y1 y2 y3))
 | 0 => ⟨fun _ _ _ r h => by simp [glossatorref01_Next.j0] at h, fun _ _ _ _ r h => by simp [glossatorref01_Next.j3] at h, fun _ _ _ _ _ r h => by simp [glossatorref01_Next.l0] at h, fun _ _ _ _ r h => by simp [glossatorref01_Next.j1] at h, fun _ _ _ _ r h => by simp [glossatorref01_Next.j2] at h⟩
 | k + 1 => by
  obtain ⟨ih0, ih1, ih2, ih3, ih4⟩ := glossatorref01_Next.mono_l k
  refine ⟨?_, ?_, ?_, ?_, ?_⟩
  ·intro y0 y1 y2
   unfold glossatorref01_Next.j0
   repeat' first
   | (with_reducible exact ih0 _ _ _)
   | (with_reducible exact ih1 _ _ _ _)
   | (with_reducible exact ih2 _ _ _ _ _)
   | (with_reducible exact ih3 _ _ _ _)
   | (with_reducible exact ih4 _ _ _ _)
   | (with_reducible exact LeO.refl _)
   | (with_reducible exact LeO.none _)
   | (with_reducible refine LeO.ite ?_ ?_)
   | (with_reducible refine LeO.bind ?_ (fun _ => ?_))
   | exact ih0 _ _ _
   | exact ih1 _ _ _ _
   | exact ih2 _ _ _ _ _
   | exact ih3 _ _ _ _
   | exact ih4 _ _ _ _
   | exact LeO.none _
   | refine LeO.ite ?_ ?_
   | refine LeO.bind ?_ (fun _ => ?_)
  ·intro y0 y1 y2 y3
   unfold glossatorref01_Next.j3
   repeat' first
   | (with_reducible exact ih0 _ _ _)
   | (with_reducible exact ih1 _ _ _ _)
   | (with_reducible exact ih2 _ _ _ _ _)
   | (with_reducible exact ih3 _ _ _ _)
   | (with_reducible exact ih4 _ _ _ _)
   | (with_reducible exact LeO.refl _)
   | (with_reducible exact LeO.none _)
   | (with_reducible refine LeO.ite ?_ ?_)
   | (with_reducible refine LeO.bind ?_ (fun _ => ?_))
   | exact ih0 _ _ _
   | exact ih1 _ _ _ _
   | exact ih2 _ _ _ _ _
   | exact ih3 _ _ _ _
   | exact ih4 _ _ _ _
   | exact LeO.none _
   | refine LeO.ite ?_ ?_
   | refine LeO.bind ?_ (fun _ => ?_)
  ·intro y0 y1 y2 y3 y4
   unfold glossatorref01_Next.l0
   repeat' first
   | (with_reducible exact ih0 _ _ _)
   | (with_reducible exact ih1 _ _ _ _)
   | (with_reducible exact ih2 _ _ _ _ _)
   | (with_reducible exact ih3 _ _ _ _)
   | (with_reducible exact ih4 _ _ _ _)
   | (with_reducible exact LeO.refl _)
   | (with_reducible exact LeO.none _)
   | (with_reducible refine LeO.ite ?_ ?_)
   | (with_reducible refine LeO.bind ?_ (fun _ => ?_))
   | exact ih0 _ _ _
   | exact ih1 _ _ _ _
   | exact ih2 _ _ _ _ _
   | exact ih3 _ _ _ _
   | exact ih4 _ _ _ _
   | exact LeO.none _
   | refine LeO.ite ?_ ?_
   | refine LeO.bind ?_ (fun _ => ?_)
  ·intro y0 y1 y2 y3
   unfold glossatorref01_Next.j1
   repeat' first
   | (with_reducible exact ih0 _ _ _)
   | (with_reducible exact ih1 _ _ _ _)
   | (with_reducible exact ih2 _ _ _ _ _)
   | (with_reducible exact ih3 _ _ _ _)
   | (with_reducible exact ih4 _ _ _ _)
   | (with_reducible exact LeO.refl _)
   | (with_reducible exact LeO.none _)
   | (with_reducible refine LeO.ite ?_ ?_)
   | (with_reducible refine LeO.bind ?_ (fun _ => ?_))
   | exact ih0 _ _ _
   | exact ih1 _ _ _ _
   | exact ih2 _ _ _ _ _
   | exact ih3 _ _ _ _
   | exact ih4 _ _ _ _
   | exact LeO.none _
   | refine LeO.ite ?_ ?_
   | refine LeO.bind ?_ (fun _ => ?_)
  ·intro y0 y1 y2 y3
   unfold glossatorref01_Next.j2
   repeat' first
   | (with_reducible exact ih0 _ _ _)
   | (with_reducible exact ih1 _ _ _ _)
   | (with_reducible exact ih2 _ _ _ _ _)
   | (with_reducible exact ih3 _ _ _ _)
   | (with_reducible exact ih4 _ _ _ _)
   | (with_reducible exact LeO.refl _)
   | (with_reducible exact LeO.none _)
   | (with_reducible refine LeO.ite ?_ ?_)
   | (with_reducible refine LeO.bind ?_ (fun _ => ?_))
   | exact ih0 _ _ _
   | exact ih1 _ _ _ _
   | exact ih2 _ _ _ _ _
   | exact ih3 _ _ _ _
   | exact ih4 _ _ _ _
   | exact LeO.none _
   | refine LeO.ite ?_ ?_
   | refine LeO.bind ?_ (fun _ => ?_)
theorem glossatorref01_Next.mono : ∀ a0 a1 k, LeO (glossatorref01_Next.f k a0 a1) (glossatorref01_Next.f (k + 1) a0 a1) := by
 intro a0 a1 k
 obtain ⟨ih0, ih1, ih2, ih3, ih4⟩ := glossatorref01_Next.mono_l k
 unfold glossatorref01_Next.f
 repeat' first
   | (with_reducible exact ih0 _ _ _)
   | (with_reducible exact ih1 _ _ _ _)
   | (with_reducible exact ih2 _ _ _ _ _)
   | (with_reducible exact ih3 _ _ _ _)
   | (with_reducible exact ih4 _ _ _ _)
   | (with_reducible exact LeO.refl _)
   | (with_reducible exact LeO.none _)
   | (with_reducible refine LeO.ite ?_ ?_)
   | (with_reducible refine LeO.bind ?_ (fun _ => ?_))
   | exact ih0 _ _ _
   | exact ih1 _ _ _ _
   | exact ih2 _ _ _ _ _
   | exact ih3 _ _ _ _
   | exact ih4 _ _ _ _
   | exact LeO.none _
   | refine LeO.ite ?_ ?_
   | refine LeO.bind ?_ (fun _ => ?_)
set_option maxHeartbeats 8000000 in
set_option maxRecDepth 100000 in
theorem glossatorref01_Next.calls (k : Nat) (a0 : ByteArray) (a1 : Int) (r1 : Int) (r2 : Int) (r3 : Bool) (w : World) (h : glossatorref01_Next.f k a0 a1 = some (r1, r2, r3)) :
  Calls Tryz.prog 97 #[.string a0, .int .i64 a1] w fun e w' => e = .returned (.tuple #[.int .i32 r1, .int .i64 r2, .bool r3]) ∧ Below w.heap.size w w' := by
 have HB := Aside0.mk (Below.refl w.heap.size w)
 have H : (if a1 < 0 then (glossatorref01_Next.j0 k a0 a1 true) else (glossatorref01_Next.j0 k a0 a1 (decide (a1 ≥ (a0.size : Int))))) = some (r1, r2, r3) := h
 clear h; have HC3 := Aside0.mk H; clear H; go_enter Tryz.func97, Tryz.ntmps97
 go_upto_region 1 with (fail)
 go_cut [20] (fun v20 wc => ∃ (kq : Nat) (x20_2 : Bool), v20 = .bool x20_2 ∧ Aside0 (glossatorref01_Next.j0 kq a0 a1 x20_2 = some (r1, r2, r3)) ∧ Aside0 (kq ≤ k) ∧ Aside0 (Below w.heap.size w wc))
 case first =>
  have H := HC3.out
  clear HC3; by_cases c4 : a1 < 0
  ·rw [if_pos c4] at H; have c4b0 : decide (a1 < 0) = true := decide_eq_true c4; clear c4; (first | rw [c4b0] | rw [c4b1] | (simp only [i64_w, i32_w]; rw [c4b0]) | skip)
   have H' := Aside0.mk H; clear H; go_wp2
   go_meet
   case rel => exact ⟨_, (true), (by first | rfl | (simp; done) | (simp [*]; done) | (simp; exact xEmpty_ne _) | (simp [*]; exact xEmpty_ne _)), H', ⟨by first | omega | exact Nat.le_refl _⟩, ⟨bl HB⟩⟩
  ·rw [if_neg c4] at H; have c4b0 : decide (a1 < 0) = false := decide_eq_false c4; clear c4; (first | rw [c4b0] | rw [c4b1] | (simp only [i64_w, i32_w]; rw [c4b0]) | skip)
   have H' := Aside0.mk H; clear H; go_wp2
   go_meet
   case rel => exact ⟨_, (decide (a1 ≥ (a0.size : Int))), (by first | rfl | (simp; done) | (simp [*]; done) | (simp; exact xEmpty_ne _) | (simp [*]; exact xEmpty_ne _)), H', ⟨by first | omega | exact Nat.le_refl _⟩, ⟨bl HB⟩⟩
 case rest =>
  clear HC3; (try clear p2); (try clear c4); (try clear c4b0); obtain ⟨kq, x20_2, rfl, HA, HJ2, HB⟩ := hcut
  cases kq with
  | zero => exact absurd HA.out (by simp [glossatorref01_Next.j0])
  | succ kj2 =>
   have H := HA.out
   clear HA; simp only [glossatorref01_Next.j0] at H
   by_cases c5 : x20_2 = true
   ·subst c5; have H1 : (some (0, 0, false)) = some (r1, r2, r3) := by rw [if_pos rfl] at H; exact H
    clear H; have H := H1
    clear H1; simp only [Option.some.injEq, Prod.mk.injEq] at H
    obtain ⟨rfl, rfl, rfl⟩ := H
    go_wp2
    go_ret3
    exact ⟨by first | rfl | (simp [errW_none, errW_some] <;> rfl) | (simp [*, errW_none, errW_some] <;> rfl), bl HB⟩
   ·replace c5 := Bool.eq_false_iff.mpr c5
    subst c5; have H1 : (if 0 ≤ a1 then (if a1 < (a0.size : Int) then (if (wrap64 (bt a0 a1)) < 128 then (some (wrap32 (wrap64 (bt a0 a1)), 1, true)) else (if (wrap64 (bt a0 a1)) ≥ 192 then (glossatorref01_Next.j1 kj2 a0 a1 (wrap64 (bt a0 a1)) (decide ((wrap64 (bt a0 a1)) < 224))) else (glossatorref01_Next.j1 kj2 a0 a1 (wrap64 (bt a0 a1)) false))) else (none)) else (none)) = some (r1, r2, r3) := by rw [if_neg (show ¬ (false = true) by decide)] at H; exact H
    clear H; have H := H1
    clear H1; by_cases c6 : 0 ≤ a1
    rotate_left
    ·rw [if_neg c6] at H; exact absurd H (by simp)
    rw [if_pos c6] at H; have c6b0 : decide (0 ≤ a1) = true := decide_eq_true c6; clear c6; by_cases c7 : a1 < (a0.size : Int)
    rotate_left
    ·rw [if_neg c7] at H; exact absurd H (by simp)
    rw [if_pos c7] at H; have c7b0 : decide (a1 < (a0.size : Int)) = true := decide_eq_true c7; clear c7; have HC9 := Aside0.mk H; clear H; have p8 : 0 ≤ (a1 : Int) := of_decide_eq_true (by first | (with_reducible assumption) | assumption)
    have q8 : a1 < (a0.size : Int) := of_decide_eq_true (by first | (with_reducible assumption) | assumption)
    have hx8 := bt_at a0 a1
    replace p8 := eq_true p8; replace q8 := eq_true q8; go_upto_block 0 with (fail)
    go_cut [8, 9] (fun v8 v9 wc => ∃ (kq : Nat) (x8_8 : Int) (x9_8 : Int), v8 = .int .i64 x8_8 ∧ v9 = .int .i64 x9_8 ∧ Aside0 (glossatorref01_Next.j3 kq a0 a1 x8_8 x9_8 = some (r1, r2, r3)) ∧ Aside0 (kq ≤ kj2) ∧ Aside0 (Below w.heap.size w wc))
    case first =>
     have H := HC9.out
     clear HC9; by_cases c10 : (wrap64 (bt a0 a1)) < 128
     ·rw [if_pos c10] at H; have c10b0 : decide ((wrap64 (bt a0 a1)) < 128) = true := decide_eq_true c10; clear c10; (first | rw [c10b0] | rw [c10b1] | (simp only [i64_w, i32_w]; rw [c10b0]) | skip)
      simp only [Option.some.injEq, Prod.mk.injEq] at H
      obtain ⟨rfl, rfl, rfl⟩ := H
      go_wp2
      go_ret3
      exact ⟨by first | rfl | (simp [errW_none, errW_some] <;> rfl) | (simp [*, errW_none, errW_some] <;> rfl), bl HB⟩
     ·rw [if_neg c10] at H; have c10b0 : decide ((wrap64 (bt a0 a1)) < 128) = false := decide_eq_false c10; clear c10; (first | rw [c10b0] | rw [c10b1] | (simp only [i64_w, i32_w]; rw [c10b0]) | skip)
      have HC11 := Aside0.mk H; clear H; go_upto_region 8 with (fail)
      go_cut [31] (fun v31 wc => ∃ (kq : Nat) (x31_10 : Bool), v31 = .bool x31_10 ∧ Aside0 (glossatorref01_Next.j1 kq a0 a1 (wrap64 (bt a0 a1)) x31_10 = some (r1, r2, r3)) ∧ Aside0 (kq ≤ kj2) ∧ Aside0 (Below w.heap.size w wc))
      case first =>
       have H := HC11.out
       clear HC11; by_cases c12 : (wrap64 (bt a0 a1)) ≥ 192
       ·rw [if_pos c12] at H; have c12b0 : decide (192 ≤ (wrap64 (bt a0 a1))) = true := decide_eq_true c12; clear c12; (first | rw [c12b0] | rw [c12b1] | (simp only [i64_w, i32_w]; rw [c12b0]) | skip)
        have H' := Aside0.mk H; clear H; go_wp2
        go_meet
        case rel => exact ⟨_, (decide ((wrap64 (bt a0 a1)) < 224)), (by first | rfl | (simp; done) | (simp [*]; done) | (simp; exact xEmpty_ne _) | (simp [*]; exact xEmpty_ne _)), H', ⟨by have := HJ2.out; first | omega | exact Nat.le_refl _⟩, ⟨bl HB⟩⟩
       ·rw [if_neg c12] at H; have c12b0 : decide (192 ≤ (wrap64 (bt a0 a1))) = false := decide_eq_false c12; clear c12; (first | rw [c12b0] | rw [c12b1] | (simp only [i64_w, i32_w]; rw [c12b0]) | skip)
        have H' := Aside0.mk H; clear H; go_wp2
        go_meet
        case rel => exact ⟨_, (false), (by first | rfl | (simp; done) | (simp [*]; done) | (simp; exact xEmpty_ne _) | (simp [*]; exact xEmpty_ne _)), H', ⟨by have := HJ2.out; first | omega | exact Nat.le_refl _⟩, ⟨bl HB⟩⟩
      case rest =>
       clear HC11; (try clear c1); (try clear p2); (try clear p3); (try clear c4); (try clear c4b0); (try clear c5); (try clear c6); (try clear c6b0); (try clear p6); (try clear c7); (try clear c7b0); (try clear p8); (try clear q8); (try clear hx8); (try clear c9); (try clear c10); (try clear c10b0); (try clear c12); (try clear c12b0); (try clear p2); (try clear p8); (try clear q8); obtain ⟨kq, x31_10, rfl, HA, HJ10, HB⟩ := hcut
       cases kq with
       | zero => exact absurd HA.out (by simp [glossatorref01_Next.j1])
       | succ kj10 =>
        have H := HA.out
        clear HA; simp only [glossatorref01_Next.j1] at H
        by_cases c13 : x31_10 = true
        ·subst c13; have H1 : (glossatorref01_Next.j3 kj10 a0 a1 2 (wrap64 ((wrap64 (bt a0 a1)) - 192))) = some (r1, r2, r3) := by rw [if_pos rfl] at H; exact H
         clear H; have H := H1
         clear H1; have H' := Aside0.mk H; clear H; go_wp2
         go_meet
         case rel => exact ⟨_, (2), (wrap64 ((wrap64 (bt a0 a1)) - 192)), (by first | rfl | (simp; done) | (simp [*]; done) | (simp; exact xEmpty_ne _) | (simp [*]; exact xEmpty_ne _)), (by first | rfl | (simp; done) | (simp [*]; done) | (simp; exact xEmpty_ne _) | (simp [*]; exact xEmpty_ne _)), H', ⟨by have := HJ2.out; have := HJ10.out; first | omega | exact Nat.le_refl _⟩, ⟨bl HB⟩⟩
        ·replace c13 := Bool.eq_false_iff.mpr c13
         subst c13; have H1 : (if (wrap64 (bt a0 a1)) ≥ 224 then (glossatorref01_Next.j2 kj10 a0 a1 (wrap64 (bt a0 a1)) (decide ((wrap64 (bt a0 a1)) < 240))) else (glossatorref01_Next.j2 kj10 a0 a1 (wrap64 (bt a0 a1)) false)) = some (r1, r2, r3) := by rw [if_neg (show ¬ (false = true) by decide)] at H; exact H
         clear H; have H := H1
         clear H1; have HC14 := Aside0.mk H; clear H; go_upto_region 10 with (fail)
         go_cut [40] (fun v40 wc => ∃ (kq : Nat) (x40_13 : Bool), v40 = .bool x40_13 ∧ Aside0 (glossatorref01_Next.j2 kq a0 a1 (wrap64 (bt a0 a1)) x40_13 = some (r1, r2, r3)) ∧ Aside0 (kq ≤ kj10) ∧ Aside0 (Below w.heap.size w wc))
         case first =>
          have H := HC14.out
          clear HC14; by_cases c15 : (wrap64 (bt a0 a1)) ≥ 224
          ·rw [if_pos c15] at H; have c15b0 : decide (224 ≤ (wrap64 (bt a0 a1))) = true := decide_eq_true c15; clear c15; (first | rw [c15b0] | rw [c15b1] | (simp only [i64_w, i32_w]; rw [c15b0]) | skip)
           have H' := Aside0.mk H; clear H; go_wp2
           go_meet
           case rel => exact ⟨_, (decide ((wrap64 (bt a0 a1)) < 240)), (by first | rfl | (simp; done) | (simp [*]; done) | (simp; exact xEmpty_ne _) | (simp [*]; exact xEmpty_ne _)), H', ⟨by have := HJ2.out; have := HJ10.out; first | omega | exact Nat.le_refl _⟩, ⟨bl HB⟩⟩
          ·rw [if_neg c15] at H; have c15b0 : decide (224 ≤ (wrap64 (bt a0 a1))) = false := decide_eq_false c15; clear c15; (first | rw [c15b0] | rw [c15b1] | (simp only [i64_w, i32_w]; rw [c15b0]) | skip)
           have H' := Aside0.mk H; clear H; go_wp2
           go_meet
           case rel => exact ⟨_, (false), (by first | rfl | (simp; done) | (simp [*]; done) | (simp; exact xEmpty_ne _) | (simp [*]; exact xEmpty_ne _)), H', ⟨by have := HJ2.out; have := HJ10.out; first | omega | exact Nat.le_refl _⟩, ⟨bl HB⟩⟩
         case rest =>
          clear HC14; (try clear c1); (try clear p2); (try clear p3); (try clear c4); (try clear c4b0); (try clear c5); (try clear c6); (try clear c6b0); (try clear p6); (try clear c7); (try clear c7b0); (try clear p8); (try clear q8); (try clear hx8); (try clear c9); (try clear c10); (try clear c10b0); (try clear c12); (try clear c12b0); (try clear c13); (try clear c15); (try clear c15b0); (try clear p2); (try clear p3); (try clear p6); (try clear p8); (try clear q8); obtain ⟨kq, x40_13, rfl, HA, HJ13, HB⟩ := hcut
          cases kq with
          | zero => exact absurd HA.out (by simp [glossatorref01_Next.j2])
          | succ kj13 =>
           have H := HA.out
           clear HA; simp only [glossatorref01_Next.j2] at H
           by_cases c16 : x40_13 = true
           ·subst c16; have H1 : (glossatorref01_Next.j3 kj13 a0 a1 3 (wrap64 ((wrap64 (bt a0 a1)) - 224))) = some (r1, r2, r3) := by rw [if_pos rfl] at H; exact H
            clear H; have H := H1
            clear H1; have H' := Aside0.mk H; clear H; go_wp2
            go_meet
            case rel => exact ⟨_, (3), (wrap64 ((wrap64 (bt a0 a1)) - 224)), (by first | rfl | (simp; done) | (simp [*]; done) | (simp; exact xEmpty_ne _) | (simp [*]; exact xEmpty_ne _)), (by first | rfl | (simp; done) | (simp [*]; done) | (simp; exact xEmpty_ne _) | (simp [*]; exact xEmpty_ne _)), H', ⟨by have := HJ2.out; have := HJ10.out; have := HJ13.out; first | omega | exact Nat.le_refl _⟩, ⟨bl HB⟩⟩
           ·replace c16 := Bool.eq_false_iff.mpr c16
            subst c16; have H1 : (if (wrap64 (bt a0 a1)) ≥ 240 then (if (wrap64 (bt a0 a1)) < 248 then (glossatorref01_Next.j3 kj13 a0 a1 4 (wrap64 ((wrap64 (bt a0 a1)) - 240))) else (some (0, 0, false))) else (some (0, 0, false))) = some (r1, r2, r3) := by rw [if_neg (show ¬ (false = true) by decide)] at H; exact H
            clear H; have H := H1
            clear H1; by_cases c17 : (wrap64 (bt a0 a1)) ≥ 240
            ·rw [if_pos c17] at H; have c17b0 : decide (240 ≤ (wrap64 (bt a0 a1))) = true := decide_eq_true c17; clear c17; by_cases c18 : (wrap64 (bt a0 a1)) < 248
             ·rw [if_pos c18] at H; have c18b0 : decide ((wrap64 (bt a0 a1)) < 248) = true := decide_eq_true c18; clear c18; have H' := Aside0.mk H; clear H; go_wp2
              go_meet
              case rel => exact ⟨_, (4), (wrap64 ((wrap64 (bt a0 a1)) - 240)), (by first | rfl | (simp; done) | (simp [*]; done) | (simp; exact xEmpty_ne _) | (simp [*]; exact xEmpty_ne _)), (by first | rfl | (simp; done) | (simp [*]; done) | (simp; exact xEmpty_ne _) | (simp [*]; exact xEmpty_ne _)), H', ⟨by have := HJ2.out; have := HJ10.out; have := HJ13.out; first | omega | exact Nat.le_refl _⟩, ⟨bl HB⟩⟩
             ·rw [if_neg c18] at H; have c18b0 : decide ((wrap64 (bt a0 a1)) < 248) = false := decide_eq_false c18; clear c18; simp only [Option.some.injEq, Prod.mk.injEq] at H
              obtain ⟨rfl, rfl, rfl⟩ := H
              go_wp2
              go_ret3
              exact ⟨by first | rfl | (simp [errW_none, errW_some] <;> rfl) | (simp [*, errW_none, errW_some] <;> rfl), bl HB⟩
            ·rw [if_neg c17] at H; have c17b0 : decide (240 ≤ (wrap64 (bt a0 a1))) = false := decide_eq_false c17; clear c17; simp only [Option.some.injEq, Prod.mk.injEq] at H
             obtain ⟨rfl, rfl, rfl⟩ := H
             go_wp2
             go_ret3
             exact ⟨by first | rfl | (simp [errW_none, errW_some] <;> rfl) | (simp [*, errW_none, errW_some] <;> rfl), bl HB⟩
    case rest =>
     clear HC9; (try clear c1); (try clear p2); (try clear p3); (try clear c4); (try clear c4b0); (try clear c5); (try clear c6); (try clear c6b0); (try clear p6); (try clear c7); (try clear c7b0); (try clear p8); (try clear q8); (try clear hx8); (try clear c9); (try clear c10); (try clear c10b0); (try clear c12); (try clear c12b0); (try clear c13); (try clear c15); (try clear c15b0); (try clear c16); (try clear c17); (try clear c17b0); (try clear c18); (try clear c18b0); (try clear p2); (try clear p3); (try clear p6); (try clear p8); (try clear q8); obtain ⟨kq, x8_8, x9_8, rfl, rfl, HA, HJ8, HB⟩ := hcut
     cases kq with
     | zero => exact absurd HA.out (by simp [glossatorref01_Next.j3])
     | succ kj8 =>
      have H := HA.out
      clear HA; simp only [glossatorref01_Next.j3] at H
      by_cases c19 : (wrap64 (a1 + x8_8)) > (a0.size : Int)
      ·rw [if_pos c19] at H; have c19b0 : decide ((a0.size : Int) < (wrap64 (a1 + x8_8))) = true := decide_eq_true c19; clear c19; simp only [Option.some.injEq, Prod.mk.injEq] at H
       obtain ⟨rfl, rfl, rfl⟩ := H
       go_wp2
       go_ret3
       exact ⟨by first | rfl | (simp [errW_none, errW_some] <;> rfl) | (simp [*, errW_none, errW_some] <;> rfl), bl HB⟩
      ·rw [if_neg c19] at H; have c19b0 : decide ((a0.size : Int) < (wrap64 (a1 + x8_8))) = false := decide_eq_false c19; clear c19; have H' := Aside0.mk H; clear H; go_wp2
       go_loopg [9, 10] kj8 (fun kq v9 v10 w' => ∃ (x9_3 : Int) (x10_3 : Int), v9 = .int .i64 x9_3 ∧ v10 = .int .i64 x10_3 ∧ Aside0 (glossatorref01_Next.l0 kq a0 a1 x8_8 x9_3 x10_3 = some (r1, r2, r3)) ∧ Aside0 (kq ≤ kj8) ∧ Aside0 (Below w.heap.size w w'))
       case atStart => exact ⟨(x9_8), (1), (by first | rfl | (simp; done) | (simp [*]; done) | (simp; exact xEmpty_ne _) | (simp [*]; exact xEmpty_ne _)), (by first | rfl | (simp; done) | (simp [*]; done) | (simp; exact xEmpty_ne _) | (simp [*]; exact xEmpty_ne _)), H', ⟨Nat.le_refl _⟩, ⟨bl HB⟩⟩
       case round =>
        clear H'; (try clear c1); (try clear p2); (try clear p3); (try clear c4); (try clear c4b0); (try clear c5); (try clear c6); (try clear c6b0); (try clear p6); (try clear c7); (try clear c7b0); (try clear p8); (try clear q8); (try clear hx8); (try clear c9); (try clear c10); (try clear c10b0); (try clear c12); (try clear c12b0); (try clear c13); (try clear c15); (try clear c15b0); (try clear c16); (try clear c17); (try clear c17b0); (try clear c18); (try clear c18b0); (try clear c19); (try clear c19b0); (try clear p2); (try clear p3); (try clear p6); (try clear p8); (try clear q8); (try clear HB); obtain ⟨x9_3, x10_3, rfl, rfl, HA, HK3, HB⟩ := hrel
        cases gk with
        | zero => exact absurd HA.out (by simp [glossatorref01_Next.l0])
        | succ k3 =>
         have H := HA.out
         clear HA; simp only [glossatorref01_Next.l0] at H
         by_cases c20 : x10_3 < x8_8
         rotate_left
         ·rw [if_neg c20] at H; have c20b0 : decide (x10_3 < x8_8) = false := decide_eq_false c20; clear c20; obtain ⟨y102, hy102⟩ : ∃ y_ : List Int, y_ = (([0, 0, 128, 2048, 65536] : List Int)) := ⟨_, rfl⟩
          replace H : (if 0 ≤ x8_8 then (if x8_8 < (y102.length : Int) then (if x9_3 < (rd y102 x8_8) then (some (0, 0, false)) else (if x9_3 > 1114111 then (some (0, 0, false)) else (if x9_3 ≥ 55296 then (if x9_3 < 57344 then (some (0, 0, false)) else (some (wrap32 (x9_3), x8_8, true))) else (some (wrap32 (x9_3), x8_8, true))))) else (none)) else (none)) = some (r1, r2, r3) := by first | (rw [hy102]; with_reducible exact H) | (have H2_ := (Option.bind_some _ _).symm.trans H; rw [hy102]; with_reducible exact H2_) | (have H2_ := (Option.bind_some _ _).symm.trans H; with_reducible exact H2_) | with_reducible exact H | (rw [hy102]; exact H) | exact H
          have Ny102 := Aside0.mk hy102; clear hy102; by_cases c27 : 0 ≤ x8_8
          rotate_left
          ·rw [if_neg c27] at H; exact absurd H (by simp)
          rw [if_pos c27] at H; have c27b0 : decide (0 ≤ x8_8) = true := decide_eq_true c27; clear c27; by_cases c28 : x8_8 < (y102.length : Int)
          rotate_left
          ·rw [if_neg c28] at H; exact absurd H (by simp)
          rw [if_pos c28] at H; have c28b0 : decide (x8_8 < (y102.length : Int)) = true := decide_eq_true c28; clear c28; by_cases c29 : x9_3 < (rd y102 x8_8)
          ·rw [if_pos c29] at H; have c29b0 : decide (x9_3 < (rd y102 x8_8)) = true := decide_eq_true c29; clear c29; simp only [Option.some.injEq, Prod.mk.injEq] at H
           obtain ⟨rfl, rfl, rfl⟩ := H
           go_wp2_with (first | ((with_reducible refine gate_dst (N := 86) rfl ?_); (try (refine gate_guard (by rfl) ?_; dsimp only)); refine Kd.R_lit (Kd.int .i64) _ 3 ?hg (N := 86) ?hd (xs := ([0, 0, 128, 2048, 65536] : List Int)) (inner := [.int .i64 0, .int .i64 0, .int .i64 128, .int .i64 2048, .int .i64 65536]) (ok := fun _ => True) (okp := fun _ => True) ?hr ?hp (fun _ hk => hk) trivial (Below.refl _ _) (Nat.le_refl _) (by simp) ?_; (case hd => rfl); (case hg => rfl); (case hr => first | (go_simp; done) | (go_simp; rfl)); (case hp => exact (Reps.one (show Kd.M (Kd.int .i64) _ _ _ 0 [.int .i64 0] from rfl) (Reps.one (show Kd.M (Kd.int .i64) _ _ _ 0 [.int .i64 0] from rfl) (Reps.one (show Kd.M (Kd.int .i64) _ _ _ 128 [.int .i64 128] from rfl) (Reps.one (show Kd.M (Kd.int .i64) _ _ _ 2048 [.int .i64 2048] from rfl) (Reps.one (show Kd.M (Kd.int .i64) _ _ _ 65536 [.int .i64 65536] from rfl) (Reps.none _ _))))))); intro v103 w30 ho31 hb hg_ hnew_; clear hg_ hnew_; (first | rw [← Ny102.out] at ho31 | (simp only [Int.reduceToNat] at ho31; rw [← Ny102.out] at ho31)); have n0_ := Aside0.mk (Kd.R_lower ho31 (below_size (bl HB))); have n1_ := Aside0.mk (below_step (bl HB) hb); clear HB; have HO104 := n0_; have HB := n1_; clear n0_ n1_; clear hb ho31; obtain ⟨Ao32, co32, eo32⟩ := Kd.R_slice HO104.out; subst eo32; have p105 : 0 ≤ (x8_8 : Int) := of_decide_eq_true (by first | (with_reducible assumption) | assumption); have q105 : x8_8 < (y102.length : Int) := of_decide_eq_true (by first | (with_reducible assumption) | assumption); obtain ⟨ad105, e105, hx105_0⟩ := Kd.at_int (Kd.R_reads' HO104.out).2.2 x8_8 p105 q105; cases e105; replace p105 := eq_true p105; replace q105 := eq_true q105))
           go_ret3
           exact ⟨by first | rfl | (simp [errW_none, errW_some] <;> rfl) | (simp [*, errW_none, errW_some] <;> rfl), bl HB⟩
          ·rw [if_neg c29] at H; have c29b0 : decide (x9_3 < (rd y102 x8_8)) = false := decide_eq_false c29; clear c29; by_cases c33 : x9_3 > 1114111
           ·rw [if_pos c33] at H; have c33b0 : decide (1114111 < x9_3) = true := decide_eq_true c33; clear c33; simp only [Option.some.injEq, Prod.mk.injEq] at H
            obtain ⟨rfl, rfl, rfl⟩ := H
            go_wp2_with (first | ((with_reducible refine gate_dst (N := 86) rfl ?_); (try (refine gate_guard (by rfl) ?_; dsimp only)); refine Kd.R_lit (Kd.int .i64) _ 3 ?hg (N := 86) ?hd (xs := ([0, 0, 128, 2048, 65536] : List Int)) (inner := [.int .i64 0, .int .i64 0, .int .i64 128, .int .i64 2048, .int .i64 65536]) (ok := fun _ => True) (okp := fun _ => True) ?hr ?hp (fun _ hk => hk) trivial (Below.refl _ _) (Nat.le_refl _) (by simp) ?_; (case hd => rfl); (case hg => rfl); (case hr => first | (go_simp; done) | (go_simp; rfl)); (case hp => exact (Reps.one (show Kd.M (Kd.int .i64) _ _ _ 0 [.int .i64 0] from rfl) (Reps.one (show Kd.M (Kd.int .i64) _ _ _ 0 [.int .i64 0] from rfl) (Reps.one (show Kd.M (Kd.int .i64) _ _ _ 128 [.int .i64 128] from rfl) (Reps.one (show Kd.M (Kd.int .i64) _ _ _ 2048 [.int .i64 2048] from rfl) (Reps.one (show Kd.M (Kd.int .i64) _ _ _ 65536 [.int .i64 65536] from rfl) (Reps.none _ _))))))); intro v103 w34 ho35 hb hg_ hnew_; clear hg_ hnew_; (first | rw [← Ny102.out] at ho35 | (simp only [Int.reduceToNat] at ho35; rw [← Ny102.out] at ho35)); have n0_ := Aside0.mk (Kd.R_lower ho35 (below_size (bl HB))); have n1_ := Aside0.mk (below_step (bl HB) hb); clear HB; have HO104 := n0_; have HB := n1_; clear n0_ n1_; clear hb ho35; obtain ⟨Ao36, co36, eo36⟩ := Kd.R_slice HO104.out; subst eo36; have p105 : 0 ≤ (x8_8 : Int) := of_decide_eq_true (by first | (with_reducible assumption) | assumption); have q105 : x8_8 < (y102.length : Int) := of_decide_eq_true (by first | (with_reducible assumption) | assumption); obtain ⟨ad105, e105, hx105_0⟩ := Kd.at_int (Kd.R_reads' HO104.out).2.2 x8_8 p105 q105; cases e105; replace p105 := eq_true p105; replace q105 := eq_true q105))
            go_ret3
            exact ⟨by first | rfl | (simp [errW_none, errW_some] <;> rfl) | (simp [*, errW_none, errW_some] <;> rfl), bl HB⟩
           ·rw [if_neg c33] at H; have c33b0 : decide (1114111 < x9_3) = false := decide_eq_false c33; clear c33; by_cases c37 : x9_3 ≥ 55296
            ·rw [if_pos c37] at H; have c37b0 : decide (55296 ≤ x9_3) = true := decide_eq_true c37; clear c37; by_cases c38 : x9_3 < 57344
             ·rw [if_pos c38] at H; have c38b0 : decide (x9_3 < 57344) = true := decide_eq_true c38; clear c38; simp only [Option.some.injEq, Prod.mk.injEq] at H
              obtain ⟨rfl, rfl, rfl⟩ := H
              go_wp2_with (first | ((with_reducible refine gate_dst (N := 86) rfl ?_); (try (refine gate_guard (by rfl) ?_; dsimp only)); refine Kd.R_lit (Kd.int .i64) _ 3 ?hg (N := 86) ?hd (xs := ([0, 0, 128, 2048, 65536] : List Int)) (inner := [.int .i64 0, .int .i64 0, .int .i64 128, .int .i64 2048, .int .i64 65536]) (ok := fun _ => True) (okp := fun _ => True) ?hr ?hp (fun _ hk => hk) trivial (Below.refl _ _) (Nat.le_refl _) (by simp) ?_; (case hd => rfl); (case hg => rfl); (case hr => first | (go_simp; done) | (go_simp; rfl)); (case hp => exact (Reps.one (show Kd.M (Kd.int .i64) _ _ _ 0 [.int .i64 0] from rfl) (Reps.one (show Kd.M (Kd.int .i64) _ _ _ 0 [.int .i64 0] from rfl) (Reps.one (show Kd.M (Kd.int .i64) _ _ _ 128 [.int .i64 128] from rfl) (Reps.one (show Kd.M (Kd.int .i64) _ _ _ 2048 [.int .i64 2048] from rfl) (Reps.one (show Kd.M (Kd.int .i64) _ _ _ 65536 [.int .i64 65536] from rfl) (Reps.none _ _))))))); intro v103 w39 ho40 hb hg_ hnew_; clear hg_ hnew_; (first | rw [← Ny102.out] at ho40 | (simp only [Int.reduceToNat] at ho40; rw [← Ny102.out] at ho40)); have n0_ := Aside0.mk (Kd.R_lower ho40 (below_size (bl HB))); have n1_ := Aside0.mk (below_step (bl HB) hb); clear HB; have HO104 := n0_; have HB := n1_; clear n0_ n1_; clear hb ho40; obtain ⟨Ao41, co41, eo41⟩ := Kd.R_slice HO104.out; subst eo41; have p105 : 0 ≤ (x8_8 : Int) := of_decide_eq_true (by first | (with_reducible assumption) | assumption); have q105 : x8_8 < (y102.length : Int) := of_decide_eq_true (by first | (with_reducible assumption) | assumption); obtain ⟨ad105, e105, hx105_0⟩ := Kd.at_int (Kd.R_reads' HO104.out).2.2 x8_8 p105 q105; cases e105; replace p105 := eq_true p105; replace q105 := eq_true q105))
              go_ret3
              exact ⟨by first | rfl | (simp [errW_none, errW_some] <;> rfl) | (simp [*, errW_none, errW_some] <;> rfl), bl HB⟩
             ·rw [if_neg c38] at H; have c38b0 : decide (x9_3 < 57344) = false := decide_eq_false c38; clear c38; simp only [Option.some.injEq, Prod.mk.injEq] at H
              obtain ⟨rfl, rfl, rfl⟩ := H
              go_wp2_with (first | ((with_reducible refine gate_dst (N := 86) rfl ?_); (try (refine gate_guard (by rfl) ?_; dsimp only)); refine Kd.R_lit (Kd.int .i64) _ 3 ?hg (N := 86) ?hd (xs := ([0, 0, 128, 2048, 65536] : List Int)) (inner := [.int .i64 0, .int .i64 0, .int .i64 128, .int .i64 2048, .int .i64 65536]) (ok := fun _ => True) (okp := fun _ => True) ?hr ?hp (fun _ hk => hk) trivial (Below.refl _ _) (Nat.le_refl _) (by simp) ?_; (case hd => rfl); (case hg => rfl); (case hr => first | (go_simp; done) | (go_simp; rfl)); (case hp => exact (Reps.one (show Kd.M (Kd.int .i64) _ _ _ 0 [.int .i64 0] from rfl) (Reps.one (show Kd.M (Kd.int .i64) _ _ _ 0 [.int .i64 0] from rfl) (Reps.one (show Kd.M (Kd.int .i64) _ _ _ 128 [.int .i64 128] from rfl) (Reps.one (show Kd.M (Kd.int .i64) _ _ _ 2048 [.int .i64 2048] from rfl) (Reps.one (show Kd.M (Kd.int .i64) _ _ _ 65536 [.int .i64 65536] from rfl) (Reps.none _ _))))))); intro v103 w42 ho43 hb hg_ hnew_; clear hg_ hnew_; (first | rw [← Ny102.out] at ho43 | (simp only [Int.reduceToNat] at ho43; rw [← Ny102.out] at ho43)); have n0_ := Aside0.mk (Kd.R_lower ho43 (below_size (bl HB))); have n1_ := Aside0.mk (below_step (bl HB) hb); clear HB; have HO104 := n0_; have HB := n1_; clear n0_ n1_; clear hb ho43; obtain ⟨Ao44, co44, eo44⟩ := Kd.R_slice HO104.out; subst eo44; have p105 : 0 ≤ (x8_8 : Int) := of_decide_eq_true (by first | (with_reducible assumption) | assumption); have q105 : x8_8 < (y102.length : Int) := of_decide_eq_true (by first | (with_reducible assumption) | assumption); obtain ⟨ad105, e105, hx105_0⟩ := Kd.at_int (Kd.R_reads' HO104.out).2.2 x8_8 p105 q105; cases e105; replace p105 := eq_true p105; replace q105 := eq_true q105))
              go_ret3
              exact ⟨by first | rfl | (simp [errW_none, errW_some] <;> rfl) | (simp [*, errW_none, errW_some] <;> rfl), bl HB⟩
            ·rw [if_neg c37] at H; have c37b0 : decide (55296 ≤ x9_3) = false := decide_eq_false c37; clear c37; simp only [Option.some.injEq, Prod.mk.injEq] at H
             obtain ⟨rfl, rfl, rfl⟩ := H
             go_wp2_with (first | ((with_reducible refine gate_dst (N := 86) rfl ?_); (try (refine gate_guard (by rfl) ?_; dsimp only)); refine Kd.R_lit (Kd.int .i64) _ 3 ?hg (N := 86) ?hd (xs := ([0, 0, 128, 2048, 65536] : List Int)) (inner := [.int .i64 0, .int .i64 0, .int .i64 128, .int .i64 2048, .int .i64 65536]) (ok := fun _ => True) (okp := fun _ => True) ?hr ?hp (fun _ hk => hk) trivial (Below.refl _ _) (Nat.le_refl _) (by simp) ?_; (case hd => rfl); (case hg => rfl); (case hr => first | (go_simp; done) | (go_simp; rfl)); (case hp => exact (Reps.one (show Kd.M (Kd.int .i64) _ _ _ 0 [.int .i64 0] from rfl) (Reps.one (show Kd.M (Kd.int .i64) _ _ _ 0 [.int .i64 0] from rfl) (Reps.one (show Kd.M (Kd.int .i64) _ _ _ 128 [.int .i64 128] from rfl) (Reps.one (show Kd.M (Kd.int .i64) _ _ _ 2048 [.int .i64 2048] from rfl) (Reps.one (show Kd.M (Kd.int .i64) _ _ _ 65536 [.int .i64 65536] from rfl) (Reps.none _ _))))))); intro v103 w45 ho46 hb hg_ hnew_; clear hg_ hnew_; (first | rw [← Ny102.out] at ho46 | (simp only [Int.reduceToNat] at ho46; rw [← Ny102.out] at ho46)); have n0_ := Aside0.mk (Kd.R_lower ho46 (below_size (bl HB))); have n1_ := Aside0.mk (below_step (bl HB) hb); clear HB; have HO104 := n0_; have HB := n1_; clear n0_ n1_; clear hb ho46; obtain ⟨Ao47, co47, eo47⟩ := Kd.R_slice HO104.out; subst eo47; have p105 : 0 ≤ (x8_8 : Int) := of_decide_eq_true (by first | (with_reducible assumption) | assumption); have q105 : x8_8 < (y102.length : Int) := of_decide_eq_true (by first | (with_reducible assumption) | assumption); obtain ⟨ad105, e105, hx105_0⟩ := Kd.at_int (Kd.R_reads' HO104.out).2.2 x8_8 p105 q105; cases e105; replace p105 := eq_true p105; replace q105 := eq_true q105))
             go_ret3
             exact ⟨by first | rfl | (simp [errW_none, errW_some] <;> rfl) | (simp [*, errW_none, errW_some] <;> rfl), bl HB⟩
         rw [if_pos c20] at H; have c20b0 : decide (x10_3 < x8_8) = true := decide_eq_true c20; clear c20; obtain ⟨ji21, hji21⟩ : ∃ j_ : Int, (wrap64 (a1 + x10_3)) = j_ := ⟨_, rfl⟩
         replace H : (if 0 ≤ (ji21) then (if (ji21) < (a0.size : Int) then (if (wrap64 (bt a0 (ji21))) < 128 then (some (0, 0, false)) else (if (wrap64 (bt a0 (ji21))) ≥ 192 then (some (0, 0, false)) else (glossatorref01_Next.l0 k3 a0 a1 x8_8 (wrap64 ((wrap64 ((wrap64 (x9_3 * 64)) + (wrap64 (bt a0 (ji21))))) - 128)) (wrap64 (x10_3 + 1))))) else (none)) else (none)) = some (r1, r2, r3) := by first | (rw [hji21] at H; exact H) | (simp only [hji21] at H ⊢; exact H)
         have hji21w : (IntKind.i64.wrap (a1 + x10_3)) = ji21 := (i64_w _).trans hji21
         by_cases c22 : 0 ≤ (ji21)
         rotate_left
         ·rw [if_neg c22] at H; exact absurd H (by simp)
         rw [if_pos c22] at H; have c22b0 : decide (0 ≤ (ji21)) = true := decide_eq_true c22; clear c22; by_cases c23 : (ji21) < (a0.size : Int)
         rotate_left
         ·rw [if_neg c23] at H; exact absurd H (by simp)
         rw [if_pos c23] at H; have c23b0 : decide ((ji21) < (a0.size : Int)) = true := decide_eq_true c23; clear c23; by_cases c25 : (wrap64 (bt a0 (ji21))) < 128
         ·rw [if_pos c25] at H; have c25b0 : decide ((wrap64 (bt a0 (ji21))) < 128) = true := decide_eq_true c25; clear c25; simp only [Option.some.injEq, Prod.mk.injEq] at H
          obtain ⟨rfl, rfl, rfl⟩ := H
          have p24 : 0 ≤ ((ji21) : Int) := of_decide_eq_true (by first | (with_reducible assumption) | assumption)
          have q24 : (ji21) < (a0.size : Int) := of_decide_eq_true (by first | (with_reducible assumption) | assumption)
          have hx24 := bt_at a0 (ji21)
          replace p24 := eq_true p24; replace q24 := eq_true q24; go_wp2
          go_ret3
          exact ⟨by first | rfl | (simp [errW_none, errW_some] <;> rfl) | (simp only [← hji21]; first | rfl | (simp [errW_none, errW_some] <;> rfl)) | (simp [*, errW_none, errW_some] <;> rfl), bl HB⟩
         ·rw [if_neg c25] at H; have c25b0 : decide ((wrap64 (bt a0 (ji21))) < 128) = false := decide_eq_false c25; clear c25; by_cases c26 : (wrap64 (bt a0 (ji21))) ≥ 192
          ·rw [if_pos c26] at H; have c26b0 : decide (192 ≤ (wrap64 (bt a0 (ji21)))) = true := decide_eq_true c26; clear c26; simp only [Option.some.injEq, Prod.mk.injEq] at H
           obtain ⟨rfl, rfl, rfl⟩ := H
           have p24 : 0 ≤ ((ji21) : Int) := of_decide_eq_true (by first | (with_reducible assumption) | assumption)
           have q24 : (ji21) < (a0.size : Int) := of_decide_eq_true (by first | (with_reducible assumption) | assumption)
           have hx24 := bt_at a0 (ji21)
           replace p24 := eq_true p24; replace q24 := eq_true q24; go_wp2
           go_ret3
           exact ⟨by first | rfl | (simp [errW_none, errW_some] <;> rfl) | (simp only [← hji21]; first | rfl | (simp [errW_none, errW_some] <;> rfl)) | (simp [*, errW_none, errW_some] <;> rfl), bl HB⟩
          ·rw [if_neg c26] at H; have c26b0 : decide (192 ≤ (wrap64 (bt a0 (ji21)))) = false := decide_eq_false c26; clear c26; have H' := Aside0.mk H; clear H; have p24 : 0 ≤ ((ji21) : Int) := of_decide_eq_true (by first | (with_reducible assumption) | assumption)
           have q24 : (ji21) < (a0.size : Int) := of_decide_eq_true (by first | (with_reducible assumption) | assumption)
           have hx24 := bt_at a0 (ji21)
           replace p24 := eq_true p24; replace q24 := eq_true q24; go_wp2
           go_roundg k3
           case measure => have := HJ2.out; have := HJ8.out; have := HK3.out; omega
           case rel => exact ⟨(wrap64 ((wrap64 ((wrap64 (x9_3 * 64)) + (wrap64 (bt a0 (ji21))))) - 128)), (wrap64 (x10_3 + 1)), (by first | rfl | (simp; done) | (simp only [← hji21] <;> (first | rfl | simp)) | (simp [*]; done)), (by first | rfl | (simp; done) | (simp [*]; done) | (simp; exact xEmpty_ne _) | (simp [*]; exact xEmpty_ne _)), H', ⟨by have := HJ2.out; have := HJ8.out; have := HK3.out; omega⟩, ⟨bl HB⟩⟩
def glossatorref01_Fix.l0 : Nat → ByteArray → List Int → Int → Option (ByteArray)
 | 0, _, _, _ => none
 | k + 1, x0, x3, x4 => if x4 < (x0.size : Int) then ((glossatorref01_Next.f k x0 x4).bind fun bt106 => (if bt106.2.2 = true then (if 0 ≤ x4 then (if x4 ≤ (wrap64 (x4 + bt106.2.1)) then (if (wrap64 (x4 + bt106.2.1)) ≤ (x0.size : Int) then (if x3.length + (x0.extract (x4 : Int).toNat ((wrap64 (x4 + bt106.2.1)) : Int).toNat).size < 140737488355328 then (glossatorref01_Fix.l0 k x0 (x3 ++ bytesOf (x0.extract (x4 : Int).toNat ((wrap64 (x4 + bt106.2.1)) : Int).toNat)) (wrap64 (x4 + bt106.2.1))) else (none)) else (none)) else (none)) else (none)) else ((some (([239, 191, 189] : List Int) : List Int)).bind fun y112 => (if x3.length + y112.length < 140737488355328 then (glossatorref01_Fix.l0 k x0 (x3 ++ y112) (wrap64 (x4 + 1))) else (none))))) else (some (strOfNums x3))
def glossatorref01_Fix.f (k : Nat) (a0 : ByteArray) : Option (ByteArray) := glossatorref01_Fix.l0 k a0 ([] : List Int) 0
theorem glossatorref01_Fix.mono_l : ∀ k, (∀ y0 y1 y2, LeO (glossatorref01_Fix.l0 k y0 y1 y2) (glossatorref01_Fix.l0 (k + 1) y0 y1 y2))
 | 0 => fun _ _ _ r h => by simp [glossatorref01_Fix.l0] at h
 | k + 1 => by
  have ih0 := glossatorref01_Fix.mono_l k
  ·intro y0 y1 y2
   unfold glossatorref01_Fix.l0
   repeat' first
   | (with_reducible exact ih0 _ _ _)
   | (with_reducible exact glossatorref01_Next.mono _ _ _)
   | (with_reducible exact LeO.refl _)
   | (with_reducible exact LeO.none _)
   | (with_reducible refine LeO.ite ?_ ?_)
   | (with_reducible refine LeO.bind ?_ (fun _ => ?_))
   | exact ih0 _ _ _
   | exact glossatorref01_Next.mono _ _ _
   | exact LeO.none _
   | refine LeO.ite ?_ ?_
   | refine LeO.bind ?_ (fun _ => ?_)
theorem glossatorref01_Fix.mono : ∀ a0 k, LeO (glossatorref01_Fix.f k a0) (glossatorref01_Fix.f (k + 1) a0) := by
 intro a0 k
 have ih0 := glossatorref01_Fix.mono_l k
 unfold glossatorref01_Fix.f
 repeat' first
   | (with_reducible exact ih0 _ _ _)
   | (with_reducible exact glossatorref01_Next.mono _ _ _)
   | (with_reducible exact LeO.refl _)
   | (with_reducible exact LeO.none _)
   | (with_reducible refine LeO.ite ?_ ?_)
   | (with_reducible refine LeO.bind ?_ (fun _ => ?_))
   | exact ih0 _ _ _
   | exact glossatorref01_Next.mono _ _ _
   | exact LeO.none _
   | refine LeO.ite ?_ ?_
   | refine LeO.bind ?_ (fun _ => ?_)
set_option maxHeartbeats 8000000 in
set_option maxRecDepth 100000 in
theorem glossatorref01_Fix.calls (k : Nat) (a0 : ByteArray) (r : ByteArray) (w : World) (h : glossatorref01_Fix.f k a0 = some r) :
  Calls Tryz.prog 96 #[.string a0] w fun e w' => e = .returned (.string r) ∧ Below w.heap.size w w' := by
 have HB := Aside0.mk (Below.refl w.heap.size w)
 have H : (glossatorref01_Fix.l0 k a0 ([] : List Int) 0) = some r := h
 clear h; have H' := Aside0.mk H; clear H; go_enter Tryz.func96, Tryz.ntmps96
 go_wp2
 go_loopg [3, 4] k (fun kq v3 v4 w' => ∃ (x3_1 : List Int) (x4_1 : Int), v4 = .int .i64 x4_1 ∧ Aside0 (glossatorref01_Fix.l0 kq a0 x3_1 x4_1 = some r) ∧ Aside0 (kq ≤ k) ∧ Aside0 (Kd.R (Kd.int .u8) 5 w' w.heap.size (fun _ => True) v3 x3_1) ∧ Aside0 (Below w.heap.size w w'))
 case atStart => exact ⟨(([] : List Int)), (0), (by first | rfl | (simp; done) | (simp [*]; done) | (simp; exact xEmpty_ne _) | (simp [*]; exact xEmpty_ne _)), H', ⟨Nat.le_refl _⟩, ⟨by first | exact Kd.R_nil _ _ _ _ _ | exact Kd.N_nil _ _ _ _ _ | exact Kd.V_nil _ _ _ _ _ | exact Kd.Q_nil _ _ _ _ _ | exact Kd.S_nil _ _ _ _ _⟩, ⟨bl HB⟩⟩
 case round =>
  clear H'; (try clear HO_3); (try clear HB)
  obtain ⟨x3_1, x4_1, rfl, HA, HK1, HO_3, HB⟩ := hrel
  cases gk with
  | zero => exact absurd HA.out (by simp [glossatorref01_Fix.l0])
  | succ k1 =>
   have H := HA.out
   clear HA; simp only [glossatorref01_Fix.l0] at H
   by_cases c2 : x4_1 < (a0.size : Int)
   rotate_left
   ·rw [if_neg c2] at H; have c2b0 : decide (x4_1 < (a0.size : Int)) = false := decide_eq_false c2; clear c2; obtain rfl := Option.some.inj H; have hcv17 := own_string (P := Tryz.prog) Tryz.underlying48 Tryz.underlying5 Tryz.underlying9 (Kd.own_of_R HO_3.out)
    go_wp2
    go_ret
    exact ⟨by first | rfl | (simp [errW_none, errW_some] <;> rfl) | (simp [*, errW_none, errW_some] <;> rfl), bl HB⟩
   rw [if_pos c2] at H; have c2b0 : decide (x4_1 < (a0.size : Int)) = true := decide_eq_true c2; clear c2; replace H := Option.bind_eq_some_iff.mp H
   obtain ⟨⟨t106, t107, t108⟩, A30, H⟩ := H
   replace H : (if t108 = true then (if 0 ≤ x4_1 then (if x4_1 ≤ (wrap64 (x4_1 + t107)) then (if (wrap64 (x4_1 + t107)) ≤ (a0.size : Int) then (if x3_1.length + (a0.extract (x4_1 : Int).toNat ((wrap64 (x4_1 + t107)) : Int).toNat).size < 140737488355328 then (glossatorref01_Fix.l0 k1 a0 (x3_1 ++ bytesOf (a0.extract (x4_1 : Int).toNat ((wrap64 (x4_1 + t107)) : Int).toNat)) (wrap64 (x4_1 + t107))) else (none)) else (none)) else (none)) else (none)) else ((some (([239, 191, 189] : List Int) : List Int)).bind fun y112 => (if x3_1.length + y112.length < 140737488355328 then (glossatorref01_Fix.l0 k1 a0 (x3_1 ++ y112) (wrap64 (x4_1 + 1))) else (none)))) = some r := H
   have A3 := Aside0.mk A30; clear A30; by_cases c4 : t108 = true
   rotate_left
   ·replace c4 := Bool.eq_false_iff.mpr c4
    subst c4; have H1 : ((some (([239, 191, 189] : List Int) : List Int)).bind fun y112 => (if x3_1.length + y112.length < 140737488355328 then (glossatorref01_Fix.l0 k1 a0 (x3_1 ++ y112) (wrap64 (x4_1 + 1))) else (none))) = some r := by rw [if_neg (show ¬ (false = true) by decide)] at H; exact H
    clear H; have H := H1
    clear H1; obtain ⟨y112, hy112⟩ : ∃ y_ : List Int, y_ = (([239, 191, 189] : List Int)) := ⟨_, rfl⟩
    replace H : (if x3_1.length + y112.length < 140737488355328 then (glossatorref01_Fix.l0 k1 a0 (x3_1 ++ y112) (wrap64 (x4_1 + 1))) else (none)) = some r := by first | (rw [hy112]; with_reducible exact H) | (have H2_ := (Option.bind_some _ _).symm.trans H; rw [hy112]; with_reducible exact H2_) | (have H2_ := (Option.bind_some _ _).symm.trans H; with_reducible exact H2_) | with_reducible exact H | (rw [hy112]; exact H) | exact H
    have Ny112 := Aside0.mk hy112; clear hy112; by_cases c11 : x3_1.length + y112.length < 140737488355328
    ·rw [if_pos c11] at H; have LMc11 := Aside0.mk c11; clear c11; obtain ⟨y115, hy115⟩ : ∃ y_ : List Int, y_ = (x3_1 ++ y112) := ⟨_, rfl⟩
     replace H : (glossatorref01_Fix.l0 k1 a0 y115 (wrap64 (x4_1 + 1))) = some r := by first | (rw [hy115]; with_reducible exact H) | (have H2_ := (Option.bind_some _ _).symm.trans H; rw [hy115]; with_reducible exact H2_) | (have H2_ := (Option.bind_some _ _).symm.trans H; with_reducible exact H2_) | with_reducible exact H | (rw [hy115]; exact H) | exact H
     have Ny115 := Aside0.mk hy115; clear hy115; have H' := Aside0.mk H; clear H; go_wp2_with (first | ((with_reducible refine gate_callee (f := 97) rfl ?_); refine goesL_ (some 15) rfl rfl Tryz.func97 (by kernel_rfl) rfl #[.string a0, .int .i64 x4_1] rfl (by (try simp only [List.map_toArray, List.map_cons, List.map_nil]); first | done | rfl | (simp only [List.length_drop, List.length_take]; rfl)) ?_; (with_reducible refine (glossatorref01_Next.calls k1 a0 x4_1 t106 t107 false _ A3.out).mono ?_); rintro e w12 ⟨rfl, hb⟩; refine ⟨_, rfl, ?_⟩; have n0_ := Aside0.mk (Kd.R_below (rl HO_3) hb); have n1_ := Aside0.mk (below_step (bl HB) hb); clear HO_3; clear HB; have HO_3 := n0_; have HB := n1_; clear n0_ n1_; (try clear hb); (try clear hb2); (try clear hk); (try clear hi)) | ((with_reducible refine gate_dst (N := 32) rfl ?_); refine Kd.R_lit (Kd.int .u8) _ 5 ?hg (N := 32) ?hd (xs := ([239, 191, 189] : List Int)) (inner := [.int .u8 239, .int .u8 191, .int .u8 189]) (ok := fun _ => True) (okp := fun _ => True) ?hr ?hp (fun _ hk => hk) trivial (Below.refl _ _) (Nat.le_refl _) (by simp) ?_; (case hd => rfl); (case hg => rfl); (case hr => first | (go_simp; done) | (go_simp; rfl)); (case hp => exact (Reps.one (show Kd.M (Kd.int .u8) _ _ _ 239 [.int .u8 239] from rfl) (Reps.one (show Kd.M (Kd.int .u8) _ _ _ 191 [.int .u8 191] from rfl) (Reps.one (show Kd.M (Kd.int .u8) _ _ _ 189 [.int .u8 189] from rfl) (Reps.none _ _))))); intro v113 w13 ho14 hb hg_ hnew_; clear hg_ hnew_; (first | rw [← Ny112.out] at ho14 | (simp only [Int.reduceToNat] at ho14; rw [← Ny112.out] at ho14)); have n0_ := Aside0.mk (Kd.R_elder' (rl HO_3) (Kd.R_base ho14) hb); have n1_ := Aside0.mk (Kd.R_lower (Kd.R_new' ho14 (Kd.R_lt (rl HO_3))) (below_size (bl HB))); have n2_ := Aside0.mk (below_step (bl HB) hb); clear HO_3; clear HB; have HO_3 := n0_; have HO114 := n1_; have HB := n2_; clear n0_ n1_ n2_; clear hb ho14; obtain ⟨Ao16, co16, eo16⟩ := Kd.R_slice HO114.out; subst eo16) | ((with_reducible refine gate_builtin (b := .append) (xs := #[.tmp 31, .tmp 32]) rfl ?_); at_builtin; refine Kd.R_append_rows (Kd.int .u8) (w0 := w) w.heap.size rfl (.tmp 31) (.tmp 32) 48 5 (.int .u8 0) 1 rfl Tryz.underlying48 info5 rfl (by decide) (by omega) u3 x3_1 y112 _ _ _ (fun k_ => some k_ ≠ (.slice Ao16 y112.length co16 : Value).ownBlock) (fun _ => False) rfl rfl ?aO ?aR (fun _ _ h => h) (fun _ h => h.elim) ?aF ?aB ?aS ?aL ?_; (case aR => repeat (first | exact (Kd.R_reads' HO114.out).2.2 | (with_reducible refine Kd.C_alloc ?_ _) | (with_reducible refine Kd.C_drewN ?_ _) | (with_reducible refine Kd.C_drew ?_))); (case aB => exact (bl HB)); (case aF => exact (fun k_ hk => Kd.fresh' (Kd.R_lt (rl HO114)) k_ hk)); (case aO => exact (by (with_reducible repeat (first | apply Kd.R_alloc | apply Kd.R_drewN | apply Kd.R_drew)); exact Kd.R_mono HO_3.out (fun _ hk => hk.2))); (case aS => exact (below_size (bl HB))); (case aL => have := LMc11.out; omega); intro v116 w15 ho hb hg hat; rw [← Ny115.out] at ho; have n0_ := Aside0.mk (Kd.R_after (ok := (fun _ => True)) (rl HO114) hg hat); have n1_ := Aside0.mk (hb); have n2_ := Aside0.mk (ho); clear HO114; clear HB; clear HO_3; have HO114 := n0_; have HB := n1_; have HO117 := n2_; clear n0_ n1_ n2_; clear ho hb hg hat))
     go_roundg k1
     case measure => have := HK1.out; omega
     case rel => exact ⟨(y115), (wrap64 (x4_1 + 1)), (by first | rfl | (simp; done) | (simp [*]; done) | (simp; exact xEmpty_ne _) | (simp [*]; exact xEmpty_ne _)), H', ⟨by have := HK1.out; omega⟩, ⟨by (with_reducible repeat (first | apply Kd.R_alloc | apply Kd.R_drewN | apply Kd.R_drew)); exact Kd.R_mono HO117.out (fun _ hk => trivial)⟩, ⟨bl HB⟩⟩
    ·rw [if_neg c11] at H; exact absurd H (by simp)
   subst c4; have H1 : (if 0 ≤ x4_1 then (if x4_1 ≤ (wrap64 (x4_1 + t107)) then (if (wrap64 (x4_1 + t107)) ≤ (a0.size : Int) then (if x3_1.length + (a0.extract (x4_1 : Int).toNat ((wrap64 (x4_1 + t107)) : Int).toNat).size < 140737488355328 then (glossatorref01_Fix.l0 k1 a0 (x3_1 ++ bytesOf (a0.extract (x4_1 : Int).toNat ((wrap64 (x4_1 + t107)) : Int).toNat)) (wrap64 (x4_1 + t107))) else (none)) else (none)) else (none)) else (none)) = some r := by rw [if_pos rfl] at H; exact H
   clear H; have H := H1
   clear H1; by_cases c5 : 0 ≤ x4_1
   rotate_left
   ·rw [if_neg c5] at H; exact absurd H (by simp)
   rw [if_pos c5] at H; have c5b0 := eq_true c5
   have c5b1 : decide (0 ≤ x4_1) = true := decide_eq_true c5; clear c5; by_cases c6 : x4_1 ≤ (wrap64 (x4_1 + t107))
   ·rw [if_pos c6] at H; have c6b0 := eq_true c6
    have c6b1 : decide (x4_1 ≤ (wrap64 (x4_1 + t107))) = true := decide_eq_true c6; by_cases c7 : (wrap64 (x4_1 + t107)) ≤ (a0.size : Int)
    ·rw [if_pos c7] at H; have c7b0 := eq_true c7
     have c7b1 : decide ((wrap64 (x4_1 + t107)) ≤ (a0.size : Int)) = true := decide_eq_true c7; by_cases c8 : x3_1.length + (a0.extract (x4_1 : Int).toNat ((wrap64 (x4_1 + t107)) : Int).toNat).size < 140737488355328
     ·rw [if_pos c8] at H; have LMc8 := Aside0.mk c8; clear c8; obtain ⟨y109, hy109⟩ : ∃ y_ : List Int, y_ = (x3_1 ++ bytesOf (a0.extract (x4_1 : Int).toNat ((wrap64 (x4_1 + t107)) : Int).toNat)) := ⟨_, rfl⟩
      replace H : (glossatorref01_Fix.l0 k1 a0 y109 (wrap64 (x4_1 + t107))) = some r := by first | (rw [hy109]; with_reducible exact H) | (have H2_ := (Option.bind_some _ _).symm.trans H; rw [hy109]; with_reducible exact H2_) | (have H2_ := (Option.bind_some _ _).symm.trans H; with_reducible exact H2_) | with_reducible exact H | (rw [hy109]; exact H) | exact H
      have Ny109 := Aside0.mk hy109; clear hy109; have H' := Aside0.mk H; clear H; go_wp2_with (first | ((with_reducible refine gate_callee (f := 97) rfl ?_); refine goesL_ (some 15) rfl rfl Tryz.func97 (by kernel_rfl) rfl #[.string a0, .int .i64 x4_1] rfl (by (try simp only [List.map_toArray, List.map_cons, List.map_nil]); first | done | rfl | (simp only [List.length_drop, List.length_take]; rfl)) ?_; (with_reducible refine (glossatorref01_Next.calls k1 a0 x4_1 t106 t107 true _ A3.out).mono ?_); rintro e w9 ⟨rfl, hb⟩; refine ⟨_, rfl, ?_⟩; have n0_ := Aside0.mk (Kd.R_below (rl HO_3) hb); have n1_ := Aside0.mk (below_step (bl HB) hb); clear HO_3; clear HB; have HO_3 := n0_; have HB := n1_; clear n0_ n1_; (try clear hb); (try clear hb2); (try clear hk); (try clear hi)) | (at_builtin; refine print_append_str (w0 := w) w.heap.size rfl (.tmp 20) _ 48 9 5 rfl Tryz.underlying48 Tryz.underlying9 info5 u3 x3_1 (a0.extract (x4_1 : Int).toNat ((wrap64 (x4_1 + t107)) : Int).toNat) rfl rfl ?aO ?aB ?aS ?aL ?_; (case aB => exact (bl HB)); (case aO => exact (Kd.own_of_R (rl HO_3))); (case aS => exact (below_size (bl HB))); (case aL => have := LMc8.out; omega); intro v110 w10 ho0 hb hg; have ho := Kd.R_of_own (h1 := fun _ => rfl) (ok := fun _ => True) ho0 (fun _ _ => trivial); clear ho0; have hat := True.intro; rw [← Ny109.out] at ho; change Kd.R (Kd.int .u8) 5 w10 w.heap.size (fun _ => True) v110 y109 at ho; have n0_ := Aside0.mk (hb); have n1_ := Aside0.mk (ho); clear HB; clear HO_3; have HB := n0_; have HO111 := n1_; clear n0_ n1_; clear ho hb hg hat))
      go_roundg k1
      case measure => have := HK1.out; omega
      case rel => exact ⟨(y109), (wrap64 (x4_1 + t107)), (by first | rfl | (simp; done) | (simp [*]; done) | (simp; exact xEmpty_ne _) | (simp [*]; exact xEmpty_ne _)), H', ⟨by have := HK1.out; omega⟩, ⟨rl HO111⟩, ⟨bl HB⟩⟩
     ·rw [if_neg c8] at H; exact absurd H (by simp)
    ·rw [if_neg c7] at H; exact absurd H (by simp)
   ·rw [if_neg c6] at H; exact absurd H (by simp)
end Go.Proofs.YtebmgmagdhedgaaGreatDoor.Q

end
section
namespace Go.Proofs.YtebmgmagdhedgaaGreatDoor.XRef01
open Go Go.RowKit Go.Proofs.YtebmgmagdhedgaaGreatDoor.Q Go.Proofs.YtebmgmagdhedgaaGreatDoorW.PrintWords Go.Proofs.YtebmgmagdhedgaaGreatDoorW.PrintLast Go.Proofs.YtebmgmagdhedgaaGreatDoorW.PrintMore Go.Proofs.YtebmgmagdhedgaaGreatDoor.XEv
set_option linter.unusedVariables false
set_option linter.unusedSimpArgs false
/-- The reference's arithmetic on four bytes, n of which are there. -/
def fin (z v : Int) : Int × Int × Bool :=
  if v < (if z = 2 then 128 else if z = 3 then 2048 else 65536) then (0, 0, false) else if v > 1114111 then (0, 0, false) else if v ≥ 55296 then (if v < 57344 then (0, 0, false) else (v, z, true)) else (v, z, true)
theorem l0_fin (s : ByteArray) (p z v i : Int) (hz : z = 2 ∨ z = 3 ∨ z = 4) (hi : ¬ i < z) (h0 : -2147483648 ≤ v) (h1 : v ≤ 2147483647) : Ev (fun k => glossatorref01_Next.l0 k s p z v i) (fin z v) := by
  refine up ?_
  simp only [glossatorref01_Next.l0, if_neg hi, Option.bind_some]
  have e1 : (0 : Int) ≤ z := by omega
  have e2 : z < (([0, 0, 128, 2048, 65536] : List Int).length : Int) := by simp; omega
  have e3 : rd ([0, 0, 128, 2048, 65536] : List Int) z = if z = 2 then 128 else if z = 3 then 2048 else 65536 := by rcases hz with rfl | rfl | rfl <;> rfl
  simp only [if_pos e1, if_pos e2, e3]
  refine now (fun k => ?_)
  unfold fin
  rw [w32 h0 h1]
  repeat' split
  all_goals first | rfl | (exfalso; omega)
theorem l0_step (s : ByteArray) (p i : Nat) (z v : Int) (r : Int × Int × Bool) (hp : p + i < s.size) (hsz : s.size ≤ 140737488351232) (hi : (i : Int) < z) (h0 : 0 ≤ v) (h1 : v ≤ 16777216) (hz : z ≤ 4)
    (hr : 128 ≤ B s (p + i) → B s (p + i) < 192 → Ev (fun k => glossatorref01_Next.l0 k s p z (v * 64 + B s (p + i) - 128) ((i + 1 : Nat) : Int)) r) :
    Ev (fun k => glossatorref01_Next.l0 k s p z v i) (if 128 ≤ B s (p + i) ∧ B s (p + i) < 192 then r else (0, 0, false)) := by
  refine up ?_
  have hB := B_lt s (p + i)
  have e0 : wrap64 ((p : Int) + i) = ((p + i : Nat) : Int) := by rw [w64 (by omega) (by omega)]; omega
  have e1 : (0 : Int) ≤ ((p + i : Nat) : Int) := by omega
  have e2 : ((p + i : Nat) : Int) < (s.size : Int) := by omega
  simp only [glossatorref01_Next.l0, if_pos hi, e0, if_pos e1, if_pos e2, bt_nat, w64 (show (-9223372036854775808 : Int) ≤ (B s (p + i) : Int) by omega) (by omega)]
  by_cases c1 : (B s (p + i) : Int) < 128
  · rw [if_neg (by omega)]
    simp only [if_pos c1]
    exact now fun _ => rfl
  · by_cases c2 : (B s (p + i) : Int) ≥ 192
    · rw [if_neg (by omega)]
      simp only [if_neg c1, if_pos c2]
      exact now fun _ => rfl
    · rw [if_pos (by omega)]
      have e3 : wrap64 (v * 64) = v * 64 := w64 (by omega) (by omega)
      have e4 : wrap64 (v * 64 + (B s (p + i) : Int)) = v * 64 + (B s (p + i) : Int) := w64 (by omega) (by omega)
      have e5 : wrap64 (v * 64 + (B s (p + i) : Int) - 128) = v * 64 + (B s (p + i) : Int) - 128 := w64 (by omega) (by omega)
      have e6 : wrap64 ((i : Int) + 1) = ((i + 1 : Nat) : Int) := by rw [w64 (by omega) (by omega)]; omega
      simp only [if_neg c1, if_neg c2, e3, e4, e5, e6]
      exact hr (by omega) (by omega)
def cont (b : Nat) : Prop := 128 ≤ b ∧ b < 192
instance (b : Nat) : Decidable (cont b) := by unfold cont; infer_instance
/-- What the reference comes to for a lead byte's size and bits. -/
def tail (s : ByteArray) (p z : Nat) (v : Int) : Int × Int × Bool :=
  if p + z > s.size then (0, 0, false)
  else if z = 2 then (if cont (B s (p + 1)) then fin 2 (v * 64 + B s (p + 1) - 128) else (0, 0, false))
  else if z = 3 then (if cont (B s (p + 1)) then (if cont (B s (p + 2)) then fin 3 ((v * 64 + B s (p + 1) - 128) * 64 + B s (p + 2) - 128) else (0, 0, false)) else (0, 0, false))
  else (if cont (B s (p + 1)) then (if cont (B s (p + 2)) then (if cont (B s (p + 3)) then fin 4 (((v * 64 + B s (p + 1) - 128) * 64 + B s (p + 2) - 128) * 64 + B s (p + 3) - 128) else (0, 0, false)) else (0, 0, false)) else (0, 0, false))
theorem j3_tail (s : ByteArray) (p z : Nat) (v : Int) (hz : z = 2 ∨ z = 3 ∨ z = 4) (hp : p < s.size) (hsz : s.size ≤ 140737488351232) (h0 : 0 ≤ v) (h1 : v ≤ 31) : Ev (fun k => glossatorref01_Next.j3 k s p z v) (tail s p z v) := by
  refine up ?_
  have e0 : wrap64 ((p : Int) + z) = ((p + z : Nat) : Int) := by rw [w64 (by omega) (by omega)]; omega
  simp only [glossatorref01_Next.j3, e0]
  unfold tail
  by_cases c : p + z > s.size
  · rw [if_pos c]
    have c' : ((p + z : Nat) : Int) > (s.size : Int) := by omega
    simp only [if_pos c']
    exact now fun _ => rfl
  · rw [if_neg c]
    have c' : ¬ ((p + z : Nat) : Int) > (s.size : Int) := by omega
    simp only [if_neg c']
    have b1 := B_lt s (p + 1); have b2 := B_lt s (p + 2); have b3 := B_lt s (p + 3)
    rcases hz with rfl | rfl | rfl
    · rw [if_pos rfl]
      exact l0_step s p 1 _ v _ (by omega) hsz (by omega) (by omega) (by omega) (by omega) fun ha hb => l0_fin s p _ _ _ (by omega) (by omega) (by omega) (by omega)
    · rw [if_neg (by omega), if_pos rfl]
      exact l0_step s p 1 _ v _ (by omega) hsz (by omega) (by omega) (by omega) (by omega) fun ha hb => l0_step s p 2 _ _ _ (by omega) hsz (by omega) (by omega) (by omega) (by omega) fun hc hd => l0_fin s p _ _ _ (by omega) (by omega) (by omega) (by omega)
    · rw [if_neg (by omega), if_neg (by omega)]
      exact l0_step s p 1 _ v _ (by omega) hsz (by omega) (by omega) (by omega) (by omega) fun ha hb => l0_step s p 2 _ _ _ (by omega) hsz (by omega) (by omega) (by omega) (by omega) fun hc hd => l0_step s p 3 _ _ _ (by omega) hsz (by omega) (by omega) (by omega) (by omega) fun he hf => l0_fin s p _ _ _ (by omega) (by omega) (by omega) (by omega)
def whole (s : ByteArray) (p : Nat) : Int × Int × Bool :=
  if B s p < 128 then ((B s p : Int), 1, true) else if 192 ≤ B s p ∧ B s p < 224 then tail s p 2 (B s p - 192) else if 224 ≤ B s p ∧ B s p < 240 then tail s p 3 (B s p - 224) else if 240 ≤ B s p ∧ B s p < 248 then tail s p 4 (B s p - 240) else (0, 0, false)
theorem next_whole (s : ByteArray) (p : Nat) (hp : p < s.size) (hsz : s.size ≤ 140737488351232) : Ev (fun k => glossatorref01_Next.f k s p) (whole s p) := by
  have hB := B_lt s p
  have e0 : ¬ (p : Int) < 0 := by omega
  have e1 : decide ((p : Int) ≥ (s.size : Int)) = false := decide_eq_false (by omega)
  have e2 : (0 : Int) ≤ p := by omega
  have e3 : (p : Int) < (s.size : Int) := by omega
  have eb : wrap64 (B s p : Int) = (B s p : Int) := w64 (by omega) (by omega)
  simp only [glossatorref01_Next.f, if_neg e0, e1]
  refine up ?_
  simp only [glossatorref01_Next.j0, Bool.false_eq_true, if_false, if_pos e2, if_pos e3, bt_nat, eb]
  unfold whole
  by_cases c0 : B s p < 128
  · have c0' : (B s p : Int) < 128 := by omega
    rw [if_pos c0]
    simp only [if_pos c0']
    exact now fun _ => by rw [w32 (by omega) (by omega)]
  have c0' : ¬ (B s p : Int) < 128 := by omega
  rw [if_neg c0]
  simp only [if_neg c0']
  by_cases c1 : 192 ≤ B s p ∧ B s p < 224
  · have d1 : (B s p : Int) ≥ 192 := by omega
    have d2 : decide ((B s p : Int) < 224) = true := decide_eq_true (by omega)
    have d3 : wrap64 ((B s p : Int) - 192) = (B s p : Int) - 192 := w64 (by omega) (by omega)
    rw [if_pos c1]
    simp only [if_pos d1, d2]
    refine up ?_
    simp only [glossatorref01_Next.j1, if_true, d3]
    exact j3_tail s p 2 _ (by omega) hp hsz (by omega) (by omega)
  rw [if_neg c1]
  have J1 : ∀ {r}, Ev (fun k => glossatorref01_Next.j1 k s p (B s p) false) r → Ev (fun k => if (B s p : Int) ≥ 192 then glossatorref01_Next.j1 k s p (B s p) (decide ((B s p : Int) < 224)) else glossatorref01_Next.j1 k s p (B s p) false) r := by
    intro r h
    refine both (fun hc => ?_) (fun _ => h)
    have : decide ((B s p : Int) < 224) = false := decide_eq_false (by omega)
    simp only [this]
    exact h
  refine J1 ?_
  clear J1
  by_cases c2 : 224 ≤ B s p ∧ B s p < 240
  · have d1 : (B s p : Int) ≥ 224 := by omega
    have d2 : decide ((B s p : Int) < 240) = true := decide_eq_true (by omega)
    have d3 : wrap64 ((B s p : Int) - 224) = (B s p : Int) - 224 := w64 (by omega) (by omega)
    rw [if_pos c2]
    refine up ?_
    simp only [glossatorref01_Next.j1, Bool.false_eq_true, if_false, if_pos d1, d2]
    refine up ?_
    simp only [glossatorref01_Next.j2, if_true, d3]
    exact j3_tail s p 3 _ (by omega) hp hsz (by omega) (by omega)
  rw [if_neg c2]
  refine up ?_
  simp only [glossatorref01_Next.j1, Bool.false_eq_true, if_false]
  have J2 : ∀ {r}, Ev (fun k => glossatorref01_Next.j2 k s p (B s p) false) r → Ev (fun k => if (B s p : Int) ≥ 224 then glossatorref01_Next.j2 k s p (B s p) (decide ((B s p : Int) < 240)) else glossatorref01_Next.j2 k s p (B s p) false) r := by
    intro r h
    refine both (fun hc => ?_) (fun _ => h)
    have : decide ((B s p : Int) < 240) = false := decide_eq_false (by omega)
    simp only [this]
    exact h
  refine J2 ?_
  refine up ?_
  simp only [glossatorref01_Next.j2, Bool.false_eq_true, if_false]
  by_cases c3 : 240 ≤ B s p ∧ B s p < 248
  · have d1 : (B s p : Int) ≥ 240 := by omega
    have d2 : (B s p : Int) < 248 := by omega
    have d3 : wrap64 ((B s p : Int) - 240) = (B s p : Int) - 240 := w64 (by omega) (by omega)
    rw [if_pos c3]
    simp only [if_pos d1, if_pos d2, d3]
    exact j3_tail s p 4 _ (by omega) hp hsz (by omega) (by omega)
  · rw [if_neg c3]
    refine both (fun hc => ?_) (fun _ => now fun _ => rfl)
    have d2 : ¬ (B s p : Int) < 248 := by omega
    simp only [if_neg d2]
    exact now fun _ => rfl
def tailN (n z x1 x2 x3 : Nat) (v : Int) : Int × Int × Bool :=
  if z > n then (0, 0, false)
  else if z = 2 then (if cont x1 then fin 2 (v * 64 + x1 - 128) else (0, 0, false))
  else if z = 3 then (if cont x1 then (if cont x2 then fin 3 ((v * 64 + x1 - 128) * 64 + x2 - 128) else (0, 0, false)) else (0, 0, false))
  else (if cont x1 then (if cont x2 then (if cont x3 then fin 4 (((v * 64 + x1 - 128) * 64 + x2 - 128) * 64 + x3 - 128) else (0, 0, false)) else (0, 0, false)) else (0, 0, false))
theorem tail_N (s : ByteArray) (p z : Nat) (v : Int) (hp : p < s.size) : tail s p z v = tailN (s.size - p) z (B s (p + 1)) (B s (p + 2)) (B s (p + 3)) v := by
  unfold tail tailN
  by_cases h : p + z > s.size
  · rw [if_pos h, if_pos (show z > s.size - p by omega)]
  · rw [if_neg h, if_neg (show ¬ z > s.size - p by omega)]
theorem fin_bad2 (v : Int) (h : v < 128) : fin 2 v = (0, 0, false) := by unfold fin; rw [if_pos]; simpa using h
theorem fin_good2 (v : Int) (h : 128 ≤ v) (h2 : v < 55296) : fin 2 v = (v, 2, true) := by
  unfold fin; rw [if_neg (by rw [if_pos rfl]; omega), if_neg (by omega), if_neg (by omega)]
theorem fin_bad3 (v : Int) (h : v < 2048 ∨ (55296 ≤ v ∧ v < 57344) ∨ 1114111 < v) : fin 3 v = (0, 0, false) := by
  unfold fin
  have e : (if (3 : Int) = 2 then (128 : Int) else if (3 : Int) = 3 then 2048 else 65536) = 2048 := rfl
  rw [e]
  repeat' split
  all_goals first | rfl | (exfalso; omega)
theorem fin_good3 (v : Int) (h : 2048 ≤ v) (h2 : v < 55296 ∨ 57344 ≤ v) (h3 : v ≤ 1114111) : fin 3 v = (v, 3, true) := by
  unfold fin
  have e : (if (3 : Int) = 2 then (128 : Int) else if (3 : Int) = 3 then 2048 else 65536) = 2048 := rfl
  rw [e]
  repeat' split
  all_goals first | rfl | (exfalso; omega)
theorem fin_bad4 (v : Int) (h : v < 65536 ∨ 1114111 < v) : fin 4 v = (0, 0, false) := by
  unfold fin
  have e : (if (4 : Int) = 2 then (128 : Int) else if (4 : Int) = 3 then 2048 else 65536) = 65536 := rfl
  rw [e]
  repeat' split
  all_goals first | rfl | (exfalso; omega)
theorem fin_good4 (v : Int) (h : 65536 ≤ v) (h3 : v ≤ 1114111) : fin 4 v = (v, 4, true) := by
  unfold fin
  have e : (if (4 : Int) = 2 then (128 : Int) else if (4 : Int) = 3 then 2048 else 65536) = 65536 := rfl
  rw [e]
  repeat' split
  all_goals first | rfl | (exfalso; omega)
theorem nxN_bad : nxN (65533, 1) = (0, 0, false) := rfl
theorem nxN_good (a b : Nat) (h : b ≠ 1) : nxN (a, b) = ((a : Int), (b : Int), true) := by unfold nxN; rw [if_neg (fun hc => h hc.2)]
theorem arith2 (n x0 x1 x2 x3 : Nat) (h0 : 192 ≤ x0 ∧ x0 < 224) (h1 : x1 < 256) : tailN n 2 x1 x2 x3 ((x0 : Int) - 192) = nxN (Lib.decodeN n x0 x1 x2 x3) := by
  unfold tailN Lib.decodeN
  rw [if_neg (show ¬ x0 < 128 by omega), if_pos rfl]
  by_cases c : 2 ≤ n ∧ 128 ≤ x1 ∧ x1 < 192
  · rw [if_neg (show ¬ 2 > n by omega), if_pos (show cont x1 from c.2), if_pos (show x0 / 32 = 6 ∧ 1 < n ∧ x1 / 64 = 2 by omega)]
    by_cases d : x0 % 32 * 64 + x1 % 64 ≥ 128
    · rw [if_pos d, fin_good2 _ (by omega) (by omega), nxN_good _ _ (by omega)]
      congr 1; omega
    · rw [if_neg d, fin_bad2 _ (by omega), nxN_bad]
  · rw [if_neg (show ¬ (x0 / 32 = 6 ∧ 1 < n ∧ x1 / 64 = 2) by omega), if_neg (show ¬ (x0 / 16 = 14 ∧ (1 < n ∧ x1 / 64 = 2) ∧ (2 < n ∧ x2 / 64 = 2)) by omega), if_neg (show ¬ (x0 / 8 = 30 ∧ (1 < n ∧ x1 / 64 = 2) ∧ (2 < n ∧ x2 / 64 = 2) ∧ (3 < n ∧ x3 / 64 = 2)) by omega), nxN_bad]
    by_cases e : 2 > n
    · rw [if_pos e]
    · rw [if_neg e, if_neg (show ¬ cont x1 from fun h => by unfold cont at h; omega)]
theorem arith3 (n x0 x1 x2 x3 : Nat) (h0 : 224 ≤ x0 ∧ x0 < 240) (h1 : x1 < 256) (h2 : x2 < 256) : tailN n 3 x1 x2 x3 ((x0 : Int) - 224) = nxN (Lib.decodeN n x0 x1 x2 x3) := by
  unfold tailN Lib.decodeN
  rw [if_neg (show ¬ x0 < 128 by omega), if_neg (show ¬ (3 : Nat) = 2 by omega), if_pos rfl, if_neg (show ¬ (x0 / 32 = 6 ∧ 1 < n ∧ x1 / 64 = 2) by omega)]
  by_cases c : 3 ≤ n ∧ (128 ≤ x1 ∧ x1 < 192) ∧ (128 ≤ x2 ∧ x2 < 192)
  · rw [if_neg (show ¬ 3 > n by omega), if_pos (show cont x1 from c.2.1), if_pos (show cont x2 from c.2.2), if_pos (show x0 / 16 = 14 ∧ (1 < n ∧ x1 / 64 = 2) ∧ (2 < n ∧ x2 / 64 = 2) by omega)]
    by_cases d : x0 % 16 * 4096 + x1 % 64 * 64 + x2 % 64 ≥ 2048 ∧ (x0 % 16 * 4096 + x1 % 64 * 64 + x2 % 64 < 55296 ∨ (57344 ≤ x0 % 16 * 4096 + x1 % 64 * 64 + x2 % 64 ∧ x0 % 16 * 4096 + x1 % 64 * 64 + x2 % 64 ≤ 1114111))
    · rw [if_pos d, fin_good3 _ (by omega) (by omega) (by omega), nxN_good _ _ (by omega)]
      congr 1; omega
    · rw [if_neg d, fin_bad3 _ (by omega), nxN_bad]
  · rw [if_neg (show ¬ (x0 / 16 = 14 ∧ (1 < n ∧ x1 / 64 = 2) ∧ (2 < n ∧ x2 / 64 = 2)) by omega), if_neg (show ¬ (x0 / 8 = 30 ∧ (1 < n ∧ x1 / 64 = 2) ∧ (2 < n ∧ x2 / 64 = 2) ∧ (3 < n ∧ x3 / 64 = 2)) by omega), nxN_bad]
    by_cases e : 3 > n
    · rw [if_pos e]
    · rw [if_neg e]
      repeat' split
      all_goals first | rfl | (unfold cont at *; exfalso; omega)
theorem arith4 (n x0 x1 x2 x3 : Nat) (h0 : 240 ≤ x0 ∧ x0 < 248) (h1 : x1 < 256) (h2 : x2 < 256) (h3 : x3 < 256) : tailN n 4 x1 x2 x3 ((x0 : Int) - 240) = nxN (Lib.decodeN n x0 x1 x2 x3) := by
  unfold tailN Lib.decodeN
  rw [if_neg (show ¬ x0 < 128 by omega), if_neg (show ¬ (4 : Nat) = 2 by omega), if_neg (show ¬ (4 : Nat) = 3 by omega), if_neg (show ¬ (x0 / 32 = 6 ∧ 1 < n ∧ x1 / 64 = 2) by omega), if_neg (show ¬ (x0 / 16 = 14 ∧ (1 < n ∧ x1 / 64 = 2) ∧ (2 < n ∧ x2 / 64 = 2)) by omega)]
  by_cases c : 4 ≤ n ∧ (128 ≤ x1 ∧ x1 < 192) ∧ (128 ≤ x2 ∧ x2 < 192) ∧ (128 ≤ x3 ∧ x3 < 192)
  · rw [if_neg (show ¬ 4 > n by omega), if_pos (show cont x1 from c.2.1), if_pos (show cont x2 from c.2.2.1), if_pos (show cont x3 from c.2.2.2), if_pos (show x0 / 8 = 30 ∧ (1 < n ∧ x1 / 64 = 2) ∧ (2 < n ∧ x2 / 64 = 2) ∧ (3 < n ∧ x3 / 64 = 2) by omega)]
    by_cases d : x0 % 8 * 262144 + x1 % 64 * 4096 + x2 % 64 * 64 + x3 % 64 ≥ 65536 ∧ (x0 % 8 * 262144 + x1 % 64 * 4096 + x2 % 64 * 64 + x3 % 64 < 55296 ∨ (57344 ≤ x0 % 8 * 262144 + x1 % 64 * 4096 + x2 % 64 * 64 + x3 % 64 ∧ x0 % 8 * 262144 + x1 % 64 * 4096 + x2 % 64 * 64 + x3 % 64 ≤ 1114111))
    · rw [if_pos d, fin_good4 _ (by omega) (by omega), nxN_good _ _ (by omega)]
      congr 1; omega
    · rw [if_neg d, fin_bad4 _ (by omega), nxN_bad]
  · rw [if_neg (show ¬ (x0 / 8 = 30 ∧ (1 < n ∧ x1 / 64 = 2) ∧ (2 < n ∧ x2 / 64 = 2) ∧ (3 < n ∧ x3 / 64 = 2)) by omega), nxN_bad]
    by_cases e : 4 > n
    · rw [if_pos e]
    · rw [if_neg e]
      repeat' split
      all_goals first | rfl | (unfold cont at *; exfalso; omega)
theorem whole_nx (s : ByteArray) (p : Nat) (hp : p < s.size) : whole s p = nx s p := by
  have b0 := B_lt s p; have b1 := B_lt s (p + 1); have b2 := B_lt s (p + 2); have b3 := B_lt s (p + 3)
  have hd : nx s p = nxN (Lib.decodeN (s.size - p) (B s p) (B s (p + 1)) (B s (p + 2)) (B s (p + 3))) := congrArg nxN (Lib.decode_at s p)
  rw [hd]
  unfold whole
  by_cases c0 : B s p < 128
  · rw [if_pos c0]
    unfold Lib.decodeN
    rw [if_pos c0]
    unfold nxN
    rw [if_neg (by simp only; omega)]
    rfl
  rw [if_neg c0]
  by_cases c1 : 192 ≤ B s p ∧ B s p < 224
  · rw [if_pos c1, tail_N s p 2 _ hp, arith2 _ _ _ _ _ c1 b1]
  rw [if_neg c1]
  by_cases c2 : 224 ≤ B s p ∧ B s p < 240
  · rw [if_pos c2, tail_N s p 3 _ hp, arith3 _ _ _ _ _ c2 b1 b2]
  rw [if_neg c2]
  by_cases c3 : 240 ≤ B s p ∧ B s p < 248
  · rw [if_pos c3, tail_N s p 4 _ hp, arith4 _ _ _ _ _ c3 b1 b2 b3]
  rw [if_neg c3]
  unfold Lib.decodeN
  generalize s.size - p = n
  generalize B s p = x0 at *
  rw [if_neg c0, if_neg (show ¬ (x0 / 32 = 6 ∧ _) by omega), if_neg (show ¬ (x0 / 16 = 14 ∧ _) by omega), if_neg (show ¬ (x0 / 8 = 30 ∧ _) by omega)]
  rfl
theorem next (s : ByteArray) (p : Nat) (hp : p < s.size) (hsz : s.size ≤ 140737488351232) : Ev (fun k => glossatorref01_Next.f k s p) (nx s p) := whole_nx s p hp ▸ next_whole s p hp hsz
end Go.Proofs.YtebmgmagdhedgaaGreatDoor.XRef01

end
section
namespace Go.Proofs.YtebmgmagdhedgaaGreatDoor.XUtfX
open Go Go.RowKit Go.Proofs.YtebmgmagdhedgaaGreatDoor.Q Go.Proofs.YtebmgmagdhedgaaGreatDoorW.PrintWords Go.Proofs.YtebmgmagdhedgaaGreatDoorW.PrintLast Go.Proofs.YtebmgmagdhedgaaGreatDoorW.PrintMore Go.Proofs.YtebmgmagdhedgaaGreatDoor.XEv Go.Proofs.YtebmgmagdhedgaaGreatDoor.XRef01 Go.Proofs.YtebmgmagdhedgaaGreatDoor.XUtfT
set_option linter.unusedVariables false
set_option linter.unusedSimpArgs false
/-- The bytes of a good character are what its rune is told as. -/
theorem enc_good (s : ByteArray) (p : Nat) (h : p < s.size) (hb : ¬ bad s p) : Lib.encodeRune ((Utf8.decode s p).1 : Int) = (s.data.toList.drop p).take (Utf8.decode s p).2 := by
  have hne : s.data.toList.drop p ≠ [] := by
    intro e
    have := congrArg List.length e
    have h' : p < s.data.size := h
    simp at this
    omega
  have := Lib.encode_decode (s.data.toList.drop p) hne (by rw [decodeL_drop s p]; exact hb)
  rw [decodeL_drop s p] at this
  exact this
theorem fixL_len (s : ByteArray) : ∀ b p, (fixL s b p).length ≤ 4 * b
  | 0, _ => Nat.le_refl _
  | b + 1, p => by
    unfold fixL
    split
    · have h4 := Lib.runeCells_le ((Utf8.decode s p).1 : Int)
      rw [Lib.runeCells_length] at h4
      have := fixL_len s b (p + (Utf8.decode s p).2)
      rw [List.length_append]; omega
    · simp
/-- The string with characters in the place of what is none. -/
def fixed (s : ByteArray) : ByteArray := ⟨(fixL s s.size 0).toArray⟩
theorem fixL_ok (s : ByteArray) : ∀ (b p : Nat), s.size ≤ p + b → okF s b p = true → fixL s b p = s.data.toList.drop p := by
  intro b
  induction b with
  | zero =>
    intro p hb _
    rw [fixL, List.drop_eq_nil_of_le (by rw [Array.length_toList]; exact hb)]
  | succ b ih =>
    intro p hb ho
    rw [okF] at ho
    rw [fixL]
    by_cases h : p < s.size
    · rw [if_pos h] at ho ⊢
      by_cases hb' : bad s p
      · rw [if_pos hb'] at ho; cases ho
      · rw [if_neg hb'] at ho
        have hw := XUtf.width_range s p
        rw [enc_good s p h hb', ih (p + (Utf8.decode s p).2) (by unfold XUtf.width at hw; omega) ho, ← List.drop_drop, List.take_append_drop]
    · rw [if_neg h, List.drop_eq_nil_of_le (by rw [Array.length_toList]; exact Nat.le_of_not_lt h)]
theorem utf_fix (s : ByteArray) (hs : s.size ≤ 1048576) : utf_Fix.f s = some (fixed s) := by
  simp only [utf_Fix.f, utf_valid s (by omega), Option.bind_some]
  by_cases h : okF s s.size 0 = true
  · rw [if_pos h]
    unfold fixed
    rw [fixL_ok s s.size 0 (by omega) h, List.drop_zero]
  · rw [if_neg h, if_pos (by omega)]
    rfl
end Go.Proofs.YtebmgmagdhedgaaGreatDoor.XUtfX

end
section
namespace Go.Proofs.YtebmgmagdhedgaaGreatDoor.Q
open Go.RowKit Go.Proofs.YtebmgmagdhedgaaGreatDoorW.PrintWords Go.Proofs.YtebmgmagdhedgaaGreatDoorW.PrintLast Go.Proofs.YtebmgmagdhedgaaGreatDoorW.PrintMore
attribute [local go_sem] max2_int min2_int max_two min_two max_three min_three max_four min_four   
set_option linter.unusedVariables false
set_option linter.unusedSimpArgs false
def jsontext_Quote.f (a0 : ByteArray) : Option ByteArray := if a0.size ≤ 1048576 then some ⟨([34] ++ quoteL a0 a0.size 0 ++ [34]).toArray⟩ else none
theorem q_and : ∀ d : Nat, d < 32 → bits BinOp.and IntKind.i32 (d : Int) 15 = (d : Int) % 16 := by decide +kernel
theorem q_enc1 : ∀ d : Nat, d < 32 → Utf8.encode (bt (⟨#[48, 49]⟩ : ByteArray) ((d : Int) / 16)) = ⟨#[UInt8.ofNat (48 + d / 16)]⟩ := by decide +kernel
theorem q_enc2 : ∀ d : Nat, d < 32 → Utf8.encode (bt (⟨#[48, 49, 50, 51, 52, 53, 54, 55, 56, 57, 97, 98, 99, 100, 101, 102]⟩ : ByteArray) ((d : Int) % 16)) = ⟨#[qhex (d % 16)]⟩ := by decide +kernel
def jsontext_Quote.T11 : Bool × List (List Nat × List Nat) := (true, [([], []), ([0], [0]), ([1], [1]), ([2], [2]), ([3], [3]), ([], []), ([5], [5]), ([6], [6]), ([7], [7]), ([4, 8], [4, 8]), ([9], [9])])
def jsontext_Quote.B11 : List Nat := [0, 1, 3, 7, 15, 0, 32, 96, 224, 511, 1023]
theorem jsontext_Quote.tab11 : rtab .any (opsOf Tryz.f16 11) = jsontext_Quote.T11 := by kernel_rfl
theorem jsontext_Quote.bits11 : waitsOk jsontext_Quote.T11.2 jsontext_Quote.B11 = true := by kernel_rfl
set_option maxHeartbeats 8000000 in
set_option maxRecDepth 1000000 in
theorem jsontext_Quote.calls (a0 : ByteArray) (r : ByteArray) (w : World) (h : jsontext_Quote.f a0 = some r) :
  Calls Tryz.prog 16 #[.string a0] w fun e w' => e = .returned (.string r) ∧ Below w.heap.size w w' := by
 unfold jsontext_Quote.f at h
 by_cases hs : a0.size ≤ 1048576
 case neg => rw [if_neg hs] at h; cases h
 rw [if_pos hs] at h
 obtain rfl := Option.some.inj h
 clear h; go_enter Tryz.func16, Tryz.ntmps16
 go_wp2_with (go_at_call 38; refine (bw_byte w.heap.size w.heap.size [] 34 _ (Lib.IsBuilderF.of (Lib.fresh_isBuilder 50 5 w)) (by simp) (by simp)).mono ?_)
 rintro e w1 ⟨rfl, h1, b1, k1⟩
 have hb1 : Below w.heap.size w w1 := ((Below.refl _ w).alloc (Nat.le_refl _) _).trans b1
 have hs1 := h1.lt
 clear b1 k1; go_wp2
 go_loopw [5, 6] (fun v5 v6 wr => ∃ (pos fuel : Nat) (acc : List UInt8), Lib.IsBuilderF 50 5 w.heap.size w.heap.size (Lib.byteCells acc) wr ∧ wr.heap[w1.heap.size]? = some (.stringIter a0 pos) ∧ Below w.heap.size w wr ∧ acc ++ quoteL a0 fuel pos = [34] ++ quoteL a0 a0.size 0 ∧ a0.size ≤ pos + fuel ∧ acc.length + 6 * fuel ≤ 1 + 6 * a0.size) (fun _ _ wr => a0.size - wr.iterPos w1.heap.size)
 case atStart =>
  refine ⟨0, a0.size, [34], (show Lib.IsBuilderF 50 5 w.heap.size w.heap.size (Lib.byteCells [34]) w1 from Or.inr h1).alloc _, World.iter_heap w1 a0 0, hb1.alloc hb1.size _, rfl, by omega, by simp⟩
 case round =>
  obtain ⟨pos, fuel, acc, hI, hit, hbw, hacc, hfu, hal⟩ := hrel
  have hsz : w1.heap.size < wr.heap.size := (Array.getElem?_eq_some_iff.1 hit).1
  have hw1 := hb1.size
  by_cases hp : pos < a0.size
  ·obtain ⟨d, hd⟩ : ∃ d, (Utf8.decode a0 pos).1 = d := ⟨_, rfl⟩
   have hnx : ∀ ty, (Instr.next (.pointer (some ⟨w1.heap.size, 0, none⟩)) true ty).run Tryz.prog wr = _ := fun ty => Lib.run_next_any_at wr w1.heap.size a0 pos ty hit hp
   have hwd := Lib.decode_width_pos a0 pos hp
   have hd1 := decode_le a0 pos
   rw [hd] at hnx hd1
   have hI2 := hI.iterAt hit (pos + (Utf8.decode a0 pos).2)
   have hit2 := Lib.iterAt_heap wr w1.heap.size a0 pos (pos + (Utf8.decode a0 pos).2) hit
   have hbw2 := Lib.below_iterAt hbw (k := w1.heap.size) hw1 a0 (pos + (Utf8.decode a0 pos).2)
   have hsz2 : w.heap.size ≤ (wr.iterAt w1.heap.size a0 (pos + (Utf8.decode a0 pos).2)).heap.size := by rw [Lib.iterAt_size]; omega
   have hszI : (wr.iterAt w1.heap.size a0 (pos + (Utf8.decode a0 pos).2)).heap.size = wr.heap.size := Lib.iterAt_size _ _ _ _
   obtain ⟨f, rfl⟩ : ∃ f, fuel = f + 1 := ⟨fuel - 1, by omega⟩
   have hq : quoteL a0 (f + 1) pos = qb d ++ quoteL a0 f (pos + (Utf8.decode a0 pos).2) := by simp [quoteL, hp, hd]
   rw [hq, ← List.append_assoc] at hacc
   have hql := qb_len d
   have HACC := Aside0.mk hacc; have HD := Aside0.mk hd; have HQL := Aside0.mk hql; clear hacc hd hql hq; by_cases hset : qset d
   ·have hj : ∃ j : Nat, ((d : Int) = 34 ∧ j = 0) ∨ ((d : Int) = 92 ∧ j = 1) ∨ ((d : Int) = 8 ∧ j = 2) ∨ ((d : Int) = 9 ∧ j = 3) ∨ ((d : Int) = 10 ∧ j = 4) ∨ ((d : Int) = 12 ∧ j = 5) ∨ ((d : Int) = 13 ∧ j = 6) := by
     rcases hset with rfl | rfl | rfl | rfl | rfl | rfl | rfl
     ·exact ⟨0, .inl ⟨rfl, rfl⟩⟩
     ·exact ⟨1, .inr (.inl ⟨rfl, rfl⟩)⟩
     ·exact ⟨2, .inr (.inr (.inl ⟨rfl, rfl⟩))⟩
     ·exact ⟨3, .inr (.inr (.inr (.inl ⟨rfl, rfl⟩)))⟩
     ·exact ⟨4, .inr (.inr (.inr (.inr (.inl ⟨rfl, rfl⟩))))⟩
     ·exact ⟨5, .inr (.inr (.inr (.inr (.inr (.inl ⟨rfl, rfl⟩)))))⟩
     ·exact ⟨6, .inr (.inr (.inr (.inr (.inr (.inr ⟨rfl, rfl⟩)))))⟩
    obtain ⟨j, hj⟩ := hj
    have hin := iq_in (d : Int) (wr.iterAt w1.heap.size a0 (pos + (Utf8.decode a0 pos).2)) j hj
    have t128 : decide ((d : Int) < 128) = true := decide_eq_true (by omega)
    have tj : decide ((0 : Int) ≤ (j : Int)) = true := decide_eq_true (by omega)
    have pj : (0 ≤ (j : Int)) = True := eq_true (by omega)
    have qj : ((j : Int) < 7) = True := eq_true (by omega)
    have ej : ∀ h : j < (⟨#[34, 92, 98, 116, 110, 102, 114]⟩ : ByteArray).size, ((⟨#[34, 92, 98, 116, 110, 102, 114]⟩ : ByteArray)[j]'h) = qesc d := by
     intro h
     rcases hj with ⟨h2, rfl⟩ | ⟨h2, rfl⟩ | ⟨h2, rfl⟩ | ⟨h2, rfl⟩ | ⟨h2, rfl⟩ | ⟨h2, rfl⟩ | ⟨h2, rfl⟩
     ·obtain rfl : d = 34 := by omega
      rfl
     ·obtain rfl : d = 92 := by omega
      rfl
     ·obtain rfl : d = 8 := by omega
      rfl
     ·obtain rfl : d = 9 := by omega
      rfl
     ·obtain rfl : d = 10 := by omega
      rfl
     ·obtain rfl : d = 12 := by omega
      rfl
     ·obtain rfl : d = 13 := by omega
      rfl
    have HQ := Aside0.mk (show qb d = [92, qesc d] by unfold qb; rw [if_pos hset])
    clear hset hj; generalize qesc d = x at ej HQ
    go_wp2_with (go_at_call 39; refine hin.mono ?_; rintro e W0 ⟨rfl, hw0⟩; rw [hw0])
    refine (bw_byte w.heap.size w.heap.size _ 92 _ hI2 (by rw [Lib.byteCells_length]; omega) hsz2).mono ?_
    rintro e W1 ⟨rfl, h1, b1, k1⟩
    have hI3 : Lib.IsBuilderF 50 5 w.heap.size w.heap.size (Lib.byteCells (acc ++ [92])) W1 := by
     rw [Lib.byteCells_append]; exact Or.inr h1
    have hit3 := k1.iter hit2 (by omega)
    have hb3 := hbw2.trans b1
    have hs3 := b1.size
    go_wp2_with (go_at_call 38; refine (bw_byte w.heap.size w.heap.size _ (x.toNat : Int) _ hI3 (by rw [Lib.byteCells_length, List.length_append]; simp; omega) (by omega)).mono ?_)
    rintro e W2 ⟨rfl, h4, b4, k4⟩
    go_wp2
    go_roundw
    case rel =>
     have hl := HQL.out
     rw [HQ.out] at hl
     refine ⟨pos + (Utf8.decode a0 pos).2, f, acc ++ [92, x], ?_, k4.iter hit3 (by omega), hb3.trans b4, ?_, by omega, by rw [List.length_append]; simp; omega⟩
     ·rw [show acc ++ [92, x] = (acc ++ [92]) ++ [x] by simp, Lib.byteCells_append]; exact Or.inr h4
     ·rw [← HQ.out]; exact HACC.out
    case measure =>
     simp only [World.iterPos, k4.iter hit3 (by omega), hit]
     omega
   ·have hout : Calls Tryz.prog 39 #[.string ⟨#[34, 92, 8, 9, 10, 12, 13]⟩, .int .i32 (d : Int)] (wr.iterAt w1.heap.size a0 (pos + (Utf8.decode a0 pos).2)) _ := iq_out (d : Int) _ (by omega) (by unfold qset at hset; omega)
    by_cases h32 : d < 32
    ·have t32 : decide ((d : Int) < 32) = true := decide_eq_true (by omega)
     have HQ := Aside0.mk (show qb d = [92, 117, 48, 48, UInt8.ofNat (48 + d / 16), qhex (d % 16)] by unfold qb; rw [if_neg hset, if_pos h32])
     clear hset; go_wp2_with (go_at_call 39; refine hout.mono ?_; rintro e W0 ⟨rfl, hb0⟩)
     refine start_ (n := 11) (S := fun _ => True) (ds := []) (bz 11 0) (by kernel_rfl) rfl rfl trivial (fun hHeld => ?_)
     refine with_tabW jsontext_Quote.tab11 jsontext_Quote.bits11 (fun HT_ HW_ => ?_)
     refine pu 0 (some 27) (bz 11 1) HT_ rfl rfl ?_; refine pu 1 (some 28) (bz 11 3) HT_ rfl rfl ?_; refine pu 5 (some 32) (bz 11 35) HT_ rfl rfl ?_; have e6 := q_and d h32
     refine pu 6 (some 33) (bz 11 99) HT_ rfl rfl ?_; have p2 : (0 ≤ (d : Int) / 16) = True := eq_true (by omega)
     have q2 : ((d : Int) / 16 < 2) = True := eq_true (by omega)
     have b2 := bt_at (⟨#[48, 49]⟩ : ByteArray) ((d : Int) / 16)
     have p7 : (0 ≤ (d : Int) % 16) = True := eq_true (by omega)
     have q7 : ((d : Int) % 16 < 16) = True := eq_true (by omega)
     have b7 := bt_at (⟨#[48, 49, 50, 51, 52, 53, 54, 55, 56, 57, 97, 98, 99, 100, 101, 102]⟩ : ByteArray) ((d : Int) % 16)
     refine pu 2 (some 29) (bz 11 103) HT_ rfl rfl ?_; have e3 := q_enc1 d h32
     have e8 := q_enc2 d h32
     generalize UInt8.ofNat (48 + d / 16) = x3 at e3 HQ
     generalize qhex (d % 16) = x8 at e8 HQ
     refine pu 3 (some 30) (bz 11 111) HT_ rfl rfl ?_; refine pu 7 (some 34) (bz 11 239) HT_ rfl rfl ?_; refine pu 8 (some 35) (bz 11 495) HT_ rfl rfl ?_; refine pu 4 (some 31) (bz 11 511) HT_ rfl rfl ?_; refine pu 9 (some 36) (bz 11 1023) HT_ rfl rfl ?_; generalize hZ : ((⟨#[92, 117, 48, 48]⟩ : ByteArray) ++ ⟨#[x3]⟩) ++ ⟨#[x8]⟩ = Z
     have hstr : Lib.strCells Z = Lib.byteCells [92, 117, 48, 48, x3, x8] := by rw [← hZ]; simp [Lib.strCells, Lib.byteCells, ByteArray.data_append]
     have hZ6 : Z.size = 6 := by rw [← hZ, ByteArray.size_append, ByteArray.size_append]; rfl
     have hI3 := builder_below hI2 hb0
     have hit3 := (hb0.block _ (by rw [hszI]; exact hsz)).trans hit2
     have hsz3 := hb0.size
     refine one_ (i := 10) (N := some 37) (bz 11 2047) rfl rfl (one_of HT_.out (by kernel_rfl)) (by decide) (fun K hK => ?_)
     have hsz4 : w.heap.size ≤ W0.drew.heap.size := by show w.heap.size ≤ W0.heap.size; omega
     refine goes_ Tryz.func40 (by kernel_rfl) rfl #[.pointer (some ⟨w.heap.size, 0, none⟩), .string Z] (by rfl) rfl rfl (by (try simp only [List.map_toArray, List.map_cons, List.map_nil]); rfl) ?_
     refine (bw_str w.heap.size w.heap.size (Lib.byteCells acc) Z W0.drew (hI3.imp (fun x => x.drew) (fun x => x.drew)) (by rw [Lib.byteCells_length, hZ6]; omega) hsz4).mono ?_
     rintro e W1 ⟨rfl, h1, b1, k1⟩
     refine ⟨_, rfl, ?_⟩
     refine hK _ _ trivial (fun _ => ?_)
     clear hK K; refine norm_ (a' := ?_) ?_ ?_
     rotate_left
     ·show Act.put _ (some 37) _ = _
      simp only [Act.put, List.setIfInBounds_toArray, List.set_cons_zero, List.set_cons_succ, i64_w, i32_w]
      rfl
     refine done_ (done_of HT_.out (by kernel_rfl)) ?_
     try go_wp2
     go_roundw
     case rel =>
      have hl := HQL.out
      rw [HQ.out] at hl
      refine ⟨pos + (Utf8.decode a0 pos).2, f, acc ++ [92, 117, 48, 48, x3, x8], ?_, k1.iter hit3 (by omega), (hbw2.trans (hb0.mono hsz2)).trans ((Below.refl w.heap.size W0).drew.trans b1), ?_, by omega, by rw [List.length_append]; simp; omega⟩
      ·rw [Lib.byteCells_append, ← hstr]; exact Or.inr h1
      ·rw [← HQ.out]; exact HACC.out
     case measure =>
      simp only [World.iterPos, k1.iter hit3 (by omega), hit]
      omega
    ·have t32 : decide ((d : Int) < 32) = false := decide_eq_false (by omega)
     have HQ := Aside0.mk (show qb d = Lib.encodeRune d by unfold qb; rw [if_neg hset, if_neg h32])
     clear hset; go_wp2_with (go_at_call 39; refine hout.mono ?_; rintro e W0 ⟨rfl, hb0⟩)
     have hI3 := builder_below hI2 hb0
     have hit3 := (hb0.block _ (by rw [hszI]; exact hsz)).trans hit2
     have hsz3 := hb0.size
     refine (bw_rune w.heap.size w.heap.size _ (d : Int) (by omega) (by omega) _ hI3 (by rw [Lib.byteCells_length]; omega) (by omega)).mono ?_
     rintro e W1 ⟨rfl, h1, b1, k1⟩
     go_wp2
     go_roundw
     case rel =>
      have hl := HQL.out
      rw [HQ.out] at hl
      refine ⟨pos + (Utf8.decode a0 pos).2, f, acc ++ Lib.encodeRune d, ?_, k1.iter hit3 (by omega), (hbw2.trans (hb0.mono hsz2)).trans b1, ?_, by omega, by rw [List.length_append]; omega⟩
      ·rw [Lib.byteCells_append, Lib.byteCells_encodeRune]; exact Or.inr h1
      ·rw [← HQ.out]; exact HACC.out
     case measure =>
      simp only [World.iterPos, k1.iter hit3 (by omega), hit]
      omega
  ·have hnx : ∀ ty, (Instr.next (.pointer (some ⟨w1.heap.size, 0, none⟩)) true ty).run Tryz.prog wr = _ := fun ty => Lib.run_next_end_at wr w1.heap.size a0 pos ty hit hp
   rw [quoteL_end a0 fuel pos hp, List.append_nil] at hacc
   subst hacc; go_wp2_with (go_at_call 38; refine (bw_byte w.heap.size w.heap.size _ 34 _ hI (by rw [Lib.byteCells_length]; omega) (by omega)).mono ?_)
   rintro e W1 ⟨rfl, h2, b2, k2⟩
   have h3 : Lib.IsBuilderF 50 5 w.heap.size w.heap.size (Lib.byteCells ([34] ++ quoteL a0 a0.size 0 ++ [34])) W1 := by
    rw [Lib.byteCells_append]; exact Or.inr h2
   go_wp2_with (go_at_call 27; refine (Tryz.Builder_String_any_k w.heap.size w.heap.size _ _ h3 (by have := b2.size; omega)).mono ?_)
   rintro e W2 ⟨rfl, _, b3, _⟩
   go_wp2
   go_ret
   exact ⟨rfl, (hbw.trans b2).trans b3⟩
end Go.Proofs.YtebmgmagdhedgaaGreatDoor.Q

end
