/- Words and walks of this claim, put together by this repo's wip/xlink.py out of XAchr, Q13, XRef01, Q14, Q16. -/
import Derived.Test.YtienoadaflmkdaaDoorL4
import Derived.Test.YtienoadaflmkdaaDoorL13
import Derived.Test.YtienoadaflmkdaaDoorL5
import Derived.Test.YtienoadaflmkdaaDoorL7
import Derived.Test.YtienoadaflmkdaaDoorL11
import Derived.Test.YtienoadaflmkdaaDoorL6
import Derived.Test.YtienoadaflmkdaaDoorL12
section
namespace Go.Proofs.YtienoadaflmkdaaDoor.XRef01
open Go Go.RowKit Go.Proofs.YtienoadaflmkdaaDoor.XEv
set_option linter.unusedVariables false
set_option linter.unusedSimpArgs false
/-- No character is encoded there. -/
def bad (s : ByteArray) (p : Nat) : Prop := (Utf8.decode s p).1 = 65533 ∧ (Utf8.decode s p).2 = 1
instance (s : ByteArray) (p : Nat) : Decidable (bad s p) := by unfold bad; infer_instance
def nxN (d : Nat × Nat) : Int × Int × Bool := if d.1 = 65533 ∧ d.2 = 1 then (0, 0, false) else ((d.1 : Int), (d.2 : Int), true)
def nx (s : ByteArray) (p : Nat) : Int × Int × Bool := nxN (Utf8.decode s p)
end Go.Proofs.YtienoadaflmkdaaDoor.XRef01

end
section
namespace Go.Proofs.YtienoadaflmkdaaDoor.Q
open Go.RowKit Go.Proofs.YtienoadaflmkdaaDoorW.PrintWords Go.Proofs.YtienoadaflmkdaaDoorW.PrintLast Go.Proofs.YtienoadaflmkdaaDoorW.PrintMore
attribute [local go_sem] max2_int min2_int max_two min_two max_three min_three max_four min_four   
set_option linter.unusedVariables false
set_option linter.unusedSimpArgs false
mutual
def glossatorref01_Next.j0 : Nat → ByteArray → Int → Bool → Option (Int × Int × Bool)
 | 0, _, _, _ => none
 | k + 1, x0, x1, x20 => if x20 = true then (some (0, 0, false)) else (if 0 ≤ x1 then (if x1 < (x0.size : Int) then (if (wrap64 (bt x0 x1)) < 128 then (some (wrap32 (wrap64 (bt x0 x1)), 1, true)) else (if (wrap64 (bt x0 x1)) ≥ 192 then (glossatorref01_Next.j1 k x0 x1 (wrap64 (bt x0 x1)) (decide ((wrap64 (bt x0 x1)) < 224))) else (glossatorref01_Next.j1 k x0 x1 (wrap64 (bt x0 x1)) false))) else (none)) else (none))
def glossatorref01_Next.j3 : Nat → ByteArray → Int → Int → Int → Option (Int × Int × Bool)
 | 0, _, _, _, _ => none
 | k + 1, x0, x1, x8, x9 => if (wrap64 (x1 + x8)) > (x0.size : Int) then (some (0, 0, false)) else (glossatorref01_Next.l0 k x0 x1 x8 x9 1)
def glossatorref01_Next.l0 : Nat → ByteArray → Int → Int → Int → Int → Option (Int × Int × Bool)
 | 0, _, _, _, _, _ => none
 | k + 1, x0, x1, x8, x9, x10 => if x10 < x8 then (if 0 ≤ (wrap64 (x1 + x10)) then (if (wrap64 (x1 + x10)) < (x0.size : Int) then (if (wrap64 (bt x0 (wrap64 (x1 + x10)))) < 128 then (some (0, 0, false)) else (if (wrap64 (bt x0 (wrap64 (x1 + x10)))) ≥ 192 then (some (0, 0, false)) else (glossatorref01_Next.l0 k x0 x1 x8 (wrap64 ((wrap64 ((wrap64 (x9 * 64)) + (wrap64 (bt x0 (wrap64 (x1 + x10)))))) - 128)) (wrap64 (x10 + 1))))) else (none)) else (none)) else ((some (([0, 0, 128, 2048, 65536] : List Int) : List Int)).bind fun y153 => (if 0 ≤ x8 then (if x8 < (y153.length : Int) then (if x9 < (rd y153 x8) then (some (0, 0, false)) else (if x9 > 1114111 then (some (0, 0, false)) else (if x9 ≥ 55296 then (if x9 < 57344 then (some (0, 0, false)) else (some (wrap32 (x9), x8, true))) else (some (wrap32 (x9), x8, true))))) else (none)) else (none)))
def glossatorref01_Next.j1 : Nat → ByteArray → Int → Int → Bool → Option (Int × Int × Bool)
 | 0, _, _, _, _ => none
 | k + 1, x0, x1, x7, x31 => if x31 = true then (glossatorref01_Next.j3 k x0 x1 2 (wrap64 (x7 - 192))) else (if x7 ≥ 224 then (glossatorref01_Next.j2 k x0 x1 x7 (decide (x7 < 240))) else (glossatorref01_Next.j2 k x0 x1 x7 false))
def glossatorref01_Next.j2 : Nat → ByteArray → Int → Int → Bool → Option (Int × Int × Bool)
 | 0, _, _, _, _ => none
 | k + 1, x0, x1, x7, x40 => if x40 = true then (glossatorref01_Next.j3 k x0 x1 3 (wrap64 (x7 - 224))) else (if x7 ≥ 240 then (if x7 < 248 then (glossatorref01_Next.j3 k x0 x1 4 (wrap64 (x7 - 240))) else (some (0, 0, false))) else (some (0, 0, false)))
end
def glossatorref01_Next.f (k : Nat) (a0 : ByteArray) (a1 : Int) : Option (Int × Int × Bool) := if a1 < 0 then (glossatorref01_Next.j0 k a0 a1 true) else (glossatorref01_Next.j0 k a0 a1 (decide (a1 ≥ (a0.size : Int))))
theorem glossatorref01_Next.mono_l : ∀ k, (∀ y0 y1 y2, LeO (glossatorref01_Next.j0 k y0 y1 y2) (glossatorref01_Next.j0 (k + 1) y0 y1 y2)) ∧ (∀ y0 y1 y2 y3, LeO (glossatorref01_Next.j3 k y0 y1 y2 y3) (glossatorref01_Next.j3 (k + 1) y0 y1 y2 y3)) ∧ (∀ y0 y1 y2 y3 y4, LeO (glossatorref01_Next.l0 k y0 y1 y2 y3 y4) (glossatorref01_Next.l0 (k + 1) y0 y1 y2 y3 y4)) ∧ (∀ y0 y1 y2 y3, LeO (glossatorref01_Next.j1 k y0 y1 y2 y3) (glossatorref01_Next.j1 (k + 1) y0 y1 y2 y3)) ∧ (∀ y0 y1 y2 y3, LeO (glossatorref01_Next.j2 k y0 y1 y2 y3) (glossatorref01_Next.j2 (k + 1) y0 y1 y2 y3))
 | 0 => ⟨fun _ _ _ r h => by simp [glossatorref01_Next.j0] at h, fun _ _ _ _ r h => by simp [glossatorref01_Next.j3] at h, fun _ _ _ _ _ r h => by simp [glossatorref01_Next.l0] at h, fun _ _ _ _ r h => by simp [glossatorref01_Next.j1] at h, fun _ _ _ _ r h => by simp [glossatorref01_Next.j2] at h⟩
 | k + 1 => by
  obtain ⟨ih0, ih1, ih2, ih3, ih4⟩ := glossatorref01_Next.mono_l k
  refine ⟨?_, ?_, ?_, ?_, ?_⟩
  ·intro y0 y1 y2
   unfold glossatorref01_Next.j0
   repeat' first
   | (with_reducible exact ih0 _ _ _)
   | (with_reducible exact ih1 _ _ _ _)
   | (with_reducible exact ih2 _ _ _ _ _)
   | (with_reducible exact ih3 _ _ _ _)
   | (with_reducible exact ih4 _ _ _ _)
   | (with_reducible exact LeO.refl _)
   | (with_reducible exact LeO.none _)
   | (with_reducible refine LeO.ite ?_ ?_)
   | (with_reducible refine LeO.bind ?_ (fun _ => ?_))
   | exact ih0 _ _ _
   | exact ih1 _ _ _ _
   | exact ih2 _ _ _ _ _
   | exact ih3 _ _ _ _
   | exact ih4 _ _ _ _
   | exact LeO.none _
   | refine LeO.ite ?_ ?_
   | refine LeO.bind ?_ (fun _ => ?_)
  ·intro y0 y1 y2 y3
   unfold glossatorref01_Next.j3
   repeat' first
   | (with_reducible exact ih0 _ _ _)
   | (with_reducible exact ih1 _ _ _ _)
   | (with_reducible exact ih2 _ _ _ _ _)
   | (with_reducible exact ih3 _ _ _ _)
   | (with_reducible exact ih4 _ _ _ _)
   | (with_reducible exact LeO.refl _)
   | (with_reducible exact LeO.none _)
   | (with_reducible refine LeO.ite ?_ ?_)
   | (with_reducible refine LeO.bind ?_ (fun _ => ?_))
   | exact ih0 _ _ _
   | exact ih1 _ _ _ _
   | exact ih2 _ _ _ _ _
   | exact ih3 _ _ _ _
   | exact ih4 _ _ _ _
   | exact LeO.none _
   | refine LeO.ite ?_ ?_
   | refine LeO.bind ?_ (fun _ => ?_)
  ·intro y0 y1 y2 y3 y4
   unfold glossatorref01_Next.l0
   repeat' first
   | (with_reducible exact ih0 _ _ _)
   | (with_reducible exact ih1 _ _ _ _)
   | (with_reducible exact ih2 _ _ _ _ _)
   | (with_reducible exact ih3 _ _ _ _)
   | (with_reducible exact ih4 _ _ _ _)
   | (with_reducible exact LeO.refl _)
   | (with_reducible exact LeO.none _)
   | (with_reducible refine LeO.ite ?_ ?_)
   | (with_reducible refine LeO.bind ?_ (fun _ => ?_))
   | exact ih0 _ _ _
   | exact ih1 _ _ _ _
   | exact ih2 _ _ _ _ _
   | exact ih3 _ _ _ _
   | exact ih4 _ _ _ _
   | exact LeO.none _
   | refine LeO.ite ?_ ?_
   | refine LeO.bind ?_ (fun _ => ?_)
  ·intro y0 y1 y2 y3
   unfold glossatorref01_Next.j1
   repeat' first
   | (with_reducible exact ih0 _ _ _)
   | (with_reducible exact ih1 _ _ _ _)
   | (with_reducible exact ih2 _ _ _ _ _)
   | (with_reducible exact ih3 _ _ _ _)
   | (with_reducible exact ih4 _ _ _ _)
   | (with_reducible exact LeO.refl _)
   | (with_reducible exact LeO.none _)
   | (with_reducible refine LeO.ite ?_ ?_)
   | (with_reducible refine LeO.bind ?_ (fun _ => ?_))
   | exact ih0 _ _ _
   | exact ih1 _ _ _ _
   | exact ih2 _ _ _ _ _
   | exact ih3 _ _ _ _
   | exact ih4 _ _ _ _
   | exact LeO.none _
   | refine LeO.ite ?_ ?_
   | refine LeO.bind ?_ (fun _ => ?_)
  ·intro y0 y1 y2 y3
   unfold glossatorref01_Next.j2
   repeat' first
   | (with_reducible exact ih0 _ _ _)
   | (with_reducible exact ih1 _ _ _ _)
   | (with_reducible exact ih2 _ _ _ _ _)
   | (with_reducible exact ih3 _ _ _ _)
   | (with_reducible exact ih4 _ _ _ _)
   | (with_reducible exact LeO.refl _)
   | (with_reducible exact LeO.none _)
   | (with_reducible refine LeO.ite ?_ ?_)
   | (with_reducible refine LeO.bind ?_ (fun _ => ?_))
   | exact ih0 _ _ _
   | exact ih1 _ _ _ _
   | exact ih2 _ _ _ _ _
   | exact ih3 _ _ _ _
   | exact ih4 _ _ _ _
   | exact LeO.none _
   | refine LeO.ite ?_ ?_
   | refine LeO.bind ?_ (fun _ => ?_)
theorem glossatorref01_Next.mono : ∀ a0 a1 k, LeO (glossatorref01_Next.f k a0 a1) (glossatorref01_Next.f (k + 1) a0 a1) := by
 intro a0 a1 k
 obtain ⟨ih0, ih1, ih2, ih3, ih4⟩ := glossatorref01_Next.mono_l k
 unfold glossatorref01_Next.f
 repeat' first
   | (with_reducible exact ih0 _ _ _)
   | (with_reducible exact ih1 _ _ _ _)
   | (with_reducible exact ih2 _ _ _ _ _)
   | (with_reducible exact ih3 _ _ _ _)
   | (with_reducible exact ih4 _ _ _ _)
   | (with_reducible exact LeO.refl _)
   | (with_reducible exact LeO.none _)
   | (with_reducible refine LeO.ite ?_ ?_)
   | (with_reducible refine LeO.bind ?_ (fun _ => ?_))
   | exact ih0 _ _ _
   | exact ih1 _ _ _ _
   | exact ih2 _ _ _ _ _
   | exact ih3 _ _ _ _
   | exact ih4 _ _ _ _
   | exact LeO.none _
   | refine LeO.ite ?_ ?_
   | refine LeO.bind ?_ (fun _ => ?_)
set_option maxHeartbeats 8000000 in
set_option maxRecDepth 100000 in
theorem glossatorref01_Next.calls (k : Nat) (a0 : ByteArray) (a1 : Int) (r1 : Int) (r2 : Int) (r3 : Bool) (w : World) (h : glossatorref01_Next.f k a0 a1 = some (r1, r2, r3)) :
  Calls Tryd.prog 41 #[.string a0, .int .i64 a1] w fun e w' => e = .returned (.tuple #[.int .i32 r1, .int .i64 r2, .bool r3]) ∧ Below w.heap.size w w' := by
 have HB := Aside0.mk (Below.refl w.heap.size w)
 have H : (if a1 < 0 then (glossatorref01_Next.j0 k a0 a1 true) else (glossatorref01_Next.j0 k a0 a1 (decide (a1 ≥ (a0.size : Int))))) = some (r1, r2, r3) := h
 clear h; have HC3 := Aside0.mk H; clear H; go_enter Tryd.func41, Tryd.ntmps41
 go_upto_region 1 with (fail)
 go_cut [20] (fun v20 wc => ∃ (kq : Nat) (x20_2 : Bool), v20 = .bool x20_2 ∧ Aside0 (glossatorref01_Next.j0 kq a0 a1 x20_2 = some (r1, r2, r3)) ∧ Aside0 (kq ≤ k) ∧ Aside0 (Below w.heap.size w wc))
 case first =>
  have H := HC3.out
  clear HC3; by_cases c4 : a1 < 0
  ·rw [if_pos c4] at H; have c4b0 : decide (a1 < 0) = true := decide_eq_true c4; clear c4; (first | rw [c4b0] | rw [c4b1] | (simp only [i64_w, i32_w]; rw [c4b0]) | skip)
   have H' := Aside0.mk H; clear H; go_wp2
   go_meet
   case rel => exact ⟨_, (true), (by first | rfl | (simp; done) | (simp [*]; done) | (simp; exact xEmpty_ne _) | (simp [*]; exact xEmpty_ne _)), H', ⟨by first | omega | exact Nat.le_refl _⟩, ⟨bl HB⟩⟩
  ·rw [if_neg c4] at H; have c4b0 : decide (a1 < 0) = false := decide_eq_false c4; clear c4; (first | rw [c4b0] | rw [c4b1] | (simp only [i64_w, i32_w]; rw [c4b0]) | skip)
   have H' := Aside0.mk H; clear H; go_wp2
   go_meet
   case rel => exact ⟨_, (decide (a1 ≥ (a0.size : Int))), (by first | rfl | (simp; done) | (simp [*]; done) | (simp; exact xEmpty_ne _) | (simp [*]; exact xEmpty_ne _)), H', ⟨by first | omega | exact Nat.le_refl _⟩, ⟨bl HB⟩⟩
 case rest =>
  clear HC3; (try clear p2); (try clear c4); (try clear c4b0); obtain ⟨kq, x20_2, rfl, HA, HJ2, HB⟩ := hcut
  cases kq with
  | zero => exact absurd HA.out (by simp [glossatorref01_Next.j0])
  | succ kj2 =>
   have H := HA.out
   clear HA; simp only [glossatorref01_Next.j0] at H
   by_cases c5 : x20_2 = true
   ·subst c5; have H1 : (some (0, 0, false)) = some (r1, r2, r3) := by rw [if_pos rfl] at H; exact H
    clear H; have H := H1
    clear H1; simp only [Option.some.injEq, Prod.mk.injEq] at H
    obtain ⟨rfl, rfl, rfl⟩ := H
    go_wp2
    go_ret3
    exact ⟨by first | rfl | (simp [errW_none, errW_some] <;> rfl) | (simp [*, errW_none, errW_some] <;> rfl), bl HB⟩
   ·replace c5 := Bool.eq_false_iff.mpr c5
    subst c5; have H1 : (if 0 ≤ a1 then (if a1 < (a0.size : Int) then (if (wrap64 (bt a0 a1)) < 128 then (some (wrap32 (wrap64 (bt a0 a1)), 1, true)) else (if (wrap64 (bt a0 a1)) ≥ 192 then (glossatorref01_Next.j1 kj2 a0 a1 (wrap64 (bt a0 a1)) (decide ((wrap64 (bt a0 a1)) < 224))) else (glossatorref01_Next.j1 kj2 a0 a1 (wrap64 (bt a0 a1)) false))) else (none)) else (none)) = some (r1, r2, r3) := by rw [if_neg (show ¬ (false = true) by decide)] at H; exact H
    clear H; have H := H1
    clear H1; by_cases c6 : 0 ≤ a1
    rotate_left
    ·rw [if_neg c6] at H; exact absurd H (by simp)
    rw [if_pos c6] at H; have c6b0 : decide (0 ≤ a1) = true := decide_eq_true c6; clear c6; by_cases c7 : a1 < (a0.size : Int)
    rotate_left
    ·rw [if_neg c7] at H; exact absurd H (by simp)
    rw [if_pos c7] at H; have c7b0 : decide (a1 < (a0.size : Int)) = true := decide_eq_true c7; clear c7; have HC9 := Aside0.mk H; clear H; have p8 : 0 ≤ (a1 : Int) := of_decide_eq_true (by first | (with_reducible assumption) | assumption)
    have q8 : a1 < (a0.size : Int) := of_decide_eq_true (by first | (with_reducible assumption) | assumption)
    have hx8 := bt_at a0 a1
    replace p8 := eq_true p8; replace q8 := eq_true q8; go_upto_block 0 with (fail)
    go_cut [8, 9] (fun v8 v9 wc => ∃ (kq : Nat) (x8_8 : Int) (x9_8 : Int), v8 = .int .i64 x8_8 ∧ v9 = .int .i64 x9_8 ∧ Aside0 (glossatorref01_Next.j3 kq a0 a1 x8_8 x9_8 = some (r1, r2, r3)) ∧ Aside0 (kq ≤ kj2) ∧ Aside0 (Below w.heap.size w wc))
    case first =>
     have H := HC9.out
     clear HC9; by_cases c10 : (wrap64 (bt a0 a1)) < 128
     ·rw [if_pos c10] at H; have c10b0 : decide ((wrap64 (bt a0 a1)) < 128) = true := decide_eq_true c10; clear c10; (first | rw [c10b0] | rw [c10b1] | (simp only [i64_w, i32_w]; rw [c10b0]) | skip)
      simp only [Option.some.injEq, Prod.mk.injEq] at H
      obtain ⟨rfl, rfl, rfl⟩ := H
      go_wp2
      go_ret3
      exact ⟨by first | rfl | (simp [errW_none, errW_some] <;> rfl) | (simp [*, errW_none, errW_some] <;> rfl), bl HB⟩
     ·rw [if_neg c10] at H; have c10b0 : decide ((wrap64 (bt a0 a1)) < 128) = false := decide_eq_false c10; clear c10; (first | rw [c10b0] | rw [c10b1] | (simp only [i64_w, i32_w]; rw [c10b0]) | skip)
      have HC11 := Aside0.mk H; clear H; go_upto_region 8 with (fail)
      go_cut [31] (fun v31 wc => ∃ (kq : Nat) (x31_10 : Bool), v31 = .bool x31_10 ∧ Aside0 (glossatorref01_Next.j1 kq a0 a1 (wrap64 (bt a0 a1)) x31_10 = some (r1, r2, r3)) ∧ Aside0 (kq ≤ kj2) ∧ Aside0 (Below w.heap.size w wc))
      case first =>
       have H := HC11.out
       clear HC11; by_cases c12 : (wrap64 (bt a0 a1)) ≥ 192
       ·rw [if_pos c12] at H; have c12b0 : decide (192 ≤ (wrap64 (bt a0 a1))) = true := decide_eq_true c12; clear c12; (first | rw [c12b0] | rw [c12b1] | (simp only [i64_w, i32_w]; rw [c12b0]) | skip)
        have H' := Aside0.mk H; clear H; go_wp2
        go_meet
        case rel => exact ⟨_, (decide ((wrap64 (bt a0 a1)) < 224)), (by first | rfl | (simp; done) | (simp [*]; done) | (simp; exact xEmpty_ne _) | (simp [*]; exact xEmpty_ne _)), H', ⟨by have := HJ2.out; first | omega | exact Nat.le_refl _⟩, ⟨bl HB⟩⟩
       ·rw [if_neg c12] at H; have c12b0 : decide (192 ≤ (wrap64 (bt a0 a1))) = false := decide_eq_false c12; clear c12; (first | rw [c12b0] | rw [c12b1] | (simp only [i64_w, i32_w]; rw [c12b0]) | skip)
        have H' := Aside0.mk H; clear H; go_wp2
        go_meet
        case rel => exact ⟨_, (false), (by first | rfl | (simp; done) | (simp [*]; done) | (simp; exact xEmpty_ne _) | (simp [*]; exact xEmpty_ne _)), H', ⟨by have := HJ2.out; first | omega | exact Nat.le_refl _⟩, ⟨bl HB⟩⟩
      case rest =>
       clear HC11; (try clear c1); (try clear p2); (try clear p3); (try clear c4); (try clear c4b0); (try clear c5); (try clear c6); (try clear c6b0); (try clear p6); (try clear c7); (try clear c7b0); (try clear p8); (try clear q8); (try clear hx8); (try clear c10); (try clear c10b0); (try clear c12); (try clear c12b0); (try clear p2); (try clear p8); (try clear q8); obtain ⟨kq, x31_10, rfl, HA, HJ10, HB⟩ := hcut
       cases kq with
       | zero => exact absurd HA.out (by simp [glossatorref01_Next.j1])
       | succ kj10 =>
        have H := HA.out
        clear HA; simp only [glossatorref01_Next.j1] at H
        by_cases c13 : x31_10 = true
        ·subst c13; have H1 : (glossatorref01_Next.j3 kj10 a0 a1 2 (wrap64 ((wrap64 (bt a0 a1)) - 192))) = some (r1, r2, r3) := by rw [if_pos rfl] at H; exact H
         clear H; have H := H1
         clear H1; have H' := Aside0.mk H; clear H; go_wp2
         go_meet
         case rel => exact ⟨_, (2), (wrap64 ((wrap64 (bt a0 a1)) - 192)), (by first | rfl | (simp; done) | (simp [*]; done) | (simp; exact xEmpty_ne _) | (simp [*]; exact xEmpty_ne _)), (by first | rfl | (simp; done) | (simp [*]; done) | (simp; exact xEmpty_ne _) | (simp [*]; exact xEmpty_ne _)), H', ⟨by have := HJ2.out; have := HJ10.out; first | omega | exact Nat.le_refl _⟩, ⟨bl HB⟩⟩
        ·replace c13 := Bool.eq_false_iff.mpr c13
         subst c13; have H1 : (if (wrap64 (bt a0 a1)) ≥ 224 then (glossatorref01_Next.j2 kj10 a0 a1 (wrap64 (bt a0 a1)) (decide ((wrap64 (bt a0 a1)) < 240))) else (glossatorref01_Next.j2 kj10 a0 a1 (wrap64 (bt a0 a1)) false)) = some (r1, r2, r3) := by rw [if_neg (show ¬ (false = true) by decide)] at H; exact H
         clear H; have H := H1
         clear H1; have HC14 := Aside0.mk H; clear H; go_upto_region 10 with (fail)
         go_cut [40] (fun v40 wc => ∃ (kq : Nat) (x40_13 : Bool), v40 = .bool x40_13 ∧ Aside0 (glossatorref01_Next.j2 kq a0 a1 (wrap64 (bt a0 a1)) x40_13 = some (r1, r2, r3)) ∧ Aside0 (kq ≤ kj10) ∧ Aside0 (Below w.heap.size w wc))
         case first =>
          have H := HC14.out
          clear HC14; by_cases c15 : (wrap64 (bt a0 a1)) ≥ 224
          ·rw [if_pos c15] at H; have c15b0 : decide (224 ≤ (wrap64 (bt a0 a1))) = true := decide_eq_true c15; clear c15; (first | rw [c15b0] | rw [c15b1] | (simp only [i64_w, i32_w]; rw [c15b0]) | skip)
           have H' := Aside0.mk H; clear H; go_wp2
           go_meet
           case rel => exact ⟨_, (decide ((wrap64 (bt a0 a1)) < 240)), (by first | rfl | (simp; done) | (simp [*]; done) | (simp; exact xEmpty_ne _) | (simp [*]; exact xEmpty_ne _)), H', ⟨by have := HJ2.out; have := HJ10.out; first | omega | exact Nat.le_refl _⟩, ⟨bl HB⟩⟩
          ·rw [if_neg c15] at H; have c15b0 : decide (224 ≤ (wrap64 (bt a0 a1))) = false := decide_eq_false c15; clear c15; (first | rw [c15b0] | rw [c15b1] | (simp only [i64_w, i32_w]; rw [c15b0]) | skip)
           have H' := Aside0.mk H; clear H; go_wp2
           go_meet
           case rel => exact ⟨_, (false), (by first | rfl | (simp; done) | (simp [*]; done) | (simp; exact xEmpty_ne _) | (simp [*]; exact xEmpty_ne _)), H', ⟨by have := HJ2.out; have := HJ10.out; first | omega | exact Nat.le_refl _⟩, ⟨bl HB⟩⟩
         case rest =>
          clear HC14; (try clear c1); (try clear p2); (try clear p3); (try clear c4); (try clear c4b0); (try clear c5); (try clear c6); (try clear c6b0); (try clear p6); (try clear c7); (try clear c7b0); (try clear p8); (try clear q8); (try clear hx8); (try clear c10); (try clear c10b0); (try clear c12); (try clear c12b0); (try clear c13); (try clear c15); (try clear c15b0); (try clear p2); (try clear p3); (try clear p6); (try clear p8); (try clear q8); obtain ⟨kq, x40_13, rfl, HA, HJ13, HB⟩ := hcut
          cases kq with
          | zero => exact absurd HA.out (by simp [glossatorref01_Next.j2])
          | succ kj13 =>
           have H := HA.out
           clear HA; simp only [glossatorref01_Next.j2] at H
           by_cases c16 : x40_13 = true
           ·subst c16; have H1 : (glossatorref01_Next.j3 kj13 a0 a1 3 (wrap64 ((wrap64 (bt a0 a1)) - 224))) = some (r1, r2, r3) := by rw [if_pos rfl] at H; exact H
            clear H; have H := H1
            clear H1; have H' := Aside0.mk H; clear H; go_wp2
            go_meet
            case rel => exact ⟨_, (3), (wrap64 ((wrap64 (bt a0 a1)) - 224)), (by first | rfl | (simp; done) | (simp [*]; done) | (simp; exact xEmpty_ne _) | (simp [*]; exact xEmpty_ne _)), (by first | rfl | (simp; done) | (simp [*]; done) | (simp; exact xEmpty_ne _) | (simp [*]; exact xEmpty_ne _)), H', ⟨by have := HJ2.out; have := HJ10.out; have := HJ13.out; first | omega | exact Nat.le_refl _⟩, ⟨bl HB⟩⟩
           ·replace c16 := Bool.eq_false_iff.mpr c16
            subst c16; have H1 : (if (wrap64 (bt a0 a1)) ≥ 240 then (if (wrap64 (bt a0 a1)) < 248 then (glossatorref01_Next.j3 kj13 a0 a1 4 (wrap64 ((wrap64 (bt a0 a1)) - 240))) else (some (0, 0, false))) else (some (0, 0, false))) = some (r1, r2, r3) := by rw [if_neg (show ¬ (false = true) by decide)] at H; exact H
            clear H; have H := H1
            clear H1; by_cases c17 : (wrap64 (bt a0 a1)) ≥ 240
            ·rw [if_pos c17] at H; have c17b0 : decide (240 ≤ (wrap64 (bt a0 a1))) = true := decide_eq_true c17; clear c17; by_cases c18 : (wrap64 (bt a0 a1)) < 248
             ·rw [if_pos c18] at H; have c18b0 : decide ((wrap64 (bt a0 a1)) < 248) = true := decide_eq_true c18; clear c18; have H' := Aside0.mk H; clear H; go_wp2
              go_meet
              case rel => exact ⟨_, (4), (wrap64 ((wrap64 (bt a0 a1)) - 240)), (by first | rfl | (simp; done) | (simp [*]; done) | (simp; exact xEmpty_ne _) | (simp [*]; exact xEmpty_ne _)), (by first | rfl | (simp; done) | (simp [*]; done) | (simp; exact xEmpty_ne _) | (simp [*]; exact xEmpty_ne _)), H', ⟨by have := HJ2.out; have := HJ10.out; have := HJ13.out; first | omega | exact Nat.le_refl _⟩, ⟨bl HB⟩⟩
             ·rw [if_neg c18] at H; have c18b0 : decide ((wrap64 (bt a0 a1)) < 248) = false := decide_eq_false c18; clear c18; simp only [Option.some.injEq, Prod.mk.injEq] at H
              obtain ⟨rfl, rfl, rfl⟩ := H
              go_wp2
              go_ret3
              exact ⟨by first | rfl | (simp [errW_none, errW_some] <;> rfl) | (simp [*, errW_none, errW_some] <;> rfl), bl HB⟩
            ·rw [if_neg c17] at H; have c17b0 : decide (240 ≤ (wrap64 (bt a0 a1))) = false := decide_eq_false c17; clear c17; simp only [Option.some.injEq, Prod.mk.injEq] at H
             obtain ⟨rfl, rfl, rfl⟩ := H
             go_wp2
             go_ret3
             exact ⟨by first | rfl | (simp [errW_none, errW_some] <;> rfl) | (simp [*, errW_none, errW_some] <;> rfl), bl HB⟩
    case rest =>
     clear HC9; (try clear c1); (try clear p2); (try clear p3); (try clear c4); (try clear c4b0); (try clear c5); (try clear c6); (try clear c6b0); (try clear p6); (try clear c7); (try clear c7b0); (try clear p8); (try clear q8); (try clear hx8); (try clear c10); (try clear c10b0); (try clear c12); (try clear c12b0); (try clear c13); (try clear c15); (try clear c15b0); (try clear c16); (try clear c17); (try clear c17b0); (try clear c18); (try clear c18b0); (try clear p2); (try clear p3); (try clear p6); (try clear p8); (try clear q8); obtain ⟨kq, x8_8, x9_8, rfl, rfl, HA, HJ8, HB⟩ := hcut
     cases kq with
     | zero => exact absurd HA.out (by simp [glossatorref01_Next.j3])
     | succ kj8 =>
      have H := HA.out
      clear HA; simp only [glossatorref01_Next.j3] at H
      by_cases c19 : (wrap64 (a1 + x8_8)) > (a0.size : Int)
      ·rw [if_pos c19] at H; have c19b0 : decide ((a0.size : Int) < (wrap64 (a1 + x8_8))) = true := decide_eq_true c19; clear c19; simp only [Option.some.injEq, Prod.mk.injEq] at H
       obtain ⟨rfl, rfl, rfl⟩ := H
       go_wp2
       go_ret3
       exact ⟨by first | rfl | (simp [errW_none, errW_some] <;> rfl) | (simp [*, errW_none, errW_some] <;> rfl), bl HB⟩
      ·rw [if_neg c19] at H; have c19b0 : decide ((a0.size : Int) < (wrap64 (a1 + x8_8))) = false := decide_eq_false c19; clear c19; have H' := Aside0.mk H; clear H; go_wp2
       go_loopg [9, 10] kj8 (fun kq v9 v10 w' => ∃ (x9_3 : Int) (x10_3 : Int), v9 = .int .i64 x9_3 ∧ v10 = .int .i64 x10_3 ∧ Aside0 (glossatorref01_Next.l0 kq a0 a1 x8_8 x9_3 x10_3 = some (r1, r2, r3)) ∧ Aside0 (kq ≤ kj8) ∧ Aside0 (Below w.heap.size w w'))
       case atStart => exact ⟨(x9_8), (1), (by first | rfl | (simp; done) | (simp [*]; done) | (simp; exact xEmpty_ne _) | (simp [*]; exact xEmpty_ne _)), (by first | rfl | (simp; done) | (simp [*]; done) | (simp; exact xEmpty_ne _) | (simp [*]; exact xEmpty_ne _)), H', ⟨Nat.le_refl _⟩, ⟨bl HB⟩⟩
       case round =>
        clear H'; (try clear c1); (try clear p2); (try clear p3); (try clear c4); (try clear c4b0); (try clear c5); (try clear c6); (try clear c6b0); (try clear p6); (try clear c7); (try clear c7b0); (try clear p8); (try clear q8); (try clear hx8); (try clear c10); (try clear c10b0); (try clear c12); (try clear c12b0); (try clear c13); (try clear c15); (try clear c15b0); (try clear c16); (try clear c17); (try clear c17b0); (try clear c18); (try clear c18b0); (try clear c19); (try clear c19b0); (try clear p2); (try clear p3); (try clear p6); (try clear p8); (try clear q8); (try clear HB); obtain ⟨x9_3, x10_3, rfl, rfl, HA, HK3, HB⟩ := hrel
        cases gk with
        | zero => exact absurd HA.out (by simp [glossatorref01_Next.l0])
        | succ k3 =>
         have H := HA.out
         clear HA; simp only [glossatorref01_Next.l0] at H
         by_cases c20 : x10_3 < x8_8
         rotate_left
         ·rw [if_neg c20] at H; have c20b0 : decide (x10_3 < x8_8) = false := decide_eq_false c20; clear c20; obtain ⟨y153, hy153⟩ : ∃ y_ : List Int, y_ = (([0, 0, 128, 2048, 65536] : List Int)) := ⟨_, rfl⟩
          replace H : (if 0 ≤ x8_8 then (if x8_8 < (y153.length : Int) then (if x9_3 < (rd y153 x8_8) then (some (0, 0, false)) else (if x9_3 > 1114111 then (some (0, 0, false)) else (if x9_3 ≥ 55296 then (if x9_3 < 57344 then (some (0, 0, false)) else (some (wrap32 (x9_3), x8_8, true))) else (some (wrap32 (x9_3), x8_8, true))))) else (none)) else (none)) = some (r1, r2, r3) := by first | (rw [hy153]; with_reducible exact H) | (have H2_ := (Option.bind_some _ _).symm.trans H; rw [hy153]; with_reducible exact H2_) | (have H2_ := (Option.bind_some _ _).symm.trans H; with_reducible exact H2_) | with_reducible exact H | (rw [hy153]; exact H) | exact H
          have Ny153 := Aside0.mk hy153; clear hy153; by_cases c27 : 0 ≤ x8_8
          rotate_left
          ·rw [if_neg c27] at H; exact absurd H (by simp)
          rw [if_pos c27] at H; have c27b0 : decide (0 ≤ x8_8) = true := decide_eq_true c27; clear c27; by_cases c28 : x8_8 < (y153.length : Int)
          rotate_left
          ·rw [if_neg c28] at H; exact absurd H (by simp)
          rw [if_pos c28] at H; have c28b0 : decide (x8_8 < (y153.length : Int)) = true := decide_eq_true c28; clear c28; by_cases c29 : x9_3 < (rd y153 x8_8)
          ·rw [if_pos c29] at H; have c29b0 : decide (x9_3 < (rd y153 x8_8)) = true := decide_eq_true c29; clear c29; simp only [Option.some.injEq, Prod.mk.injEq] at H
           obtain ⟨rfl, rfl, rfl⟩ := H
           go_wp2_with (first | ((with_reducible refine gate_dst (N := 86) rfl ?_); (try (refine gate_guard (by rfl) ?_; dsimp only)); refine Kd.R_lit (Kd.int .i64) _ 3 ?hg (N := 86) ?hd (xs := ([0, 0, 128, 2048, 65536] : List Int)) (inner := [.int .i64 0, .int .i64 0, .int .i64 128, .int .i64 2048, .int .i64 65536]) (ok := fun _ => True) (okp := fun _ => True) ?hr ?hp (fun _ hk => hk) trivial (Below.refl _ _) (Nat.le_refl _) (by simp) ?_; (case hd => rfl); (case hg => rfl); (case hr => first | (go_simp; done) | (go_simp; rfl)); (case hp => exact (Reps.one (show Kd.M (Kd.int .i64) _ _ _ 0 [.int .i64 0] from rfl) (Reps.one (show Kd.M (Kd.int .i64) _ _ _ 0 [.int .i64 0] from rfl) (Reps.one (show Kd.M (Kd.int .i64) _ _ _ 128 [.int .i64 128] from rfl) (Reps.one (show Kd.M (Kd.int .i64) _ _ _ 2048 [.int .i64 2048] from rfl) (Reps.one (show Kd.M (Kd.int .i64) _ _ _ 65536 [.int .i64 65536] from rfl) (Reps.none _ _))))))); intro v154 w30 ho31 hb hg_ hnew_; clear hg_ hnew_; (first | rw [← Ny153.out] at ho31 | (simp only [Int.reduceToNat] at ho31; rw [← Ny153.out] at ho31)); have n0_ := Aside0.mk (Kd.R_lower ho31 (below_size (bl HB))); have n1_ := Aside0.mk (below_step (bl HB) hb); clear HB; have HO155 := n0_; have HB := n1_; clear n0_ n1_; clear hb ho31; obtain ⟨Ao32, co32, eo32⟩ := Kd.R_slice HO155.out; subst eo32; have p156 : 0 ≤ (x8_8 : Int) := of_decide_eq_true (by first | (with_reducible assumption) | assumption); have q156 : x8_8 < (y153.length : Int) := of_decide_eq_true (by first | (with_reducible assumption) | assumption); obtain ⟨ad156, e156, hx156_0⟩ := Kd.at_int (Kd.R_reads' HO155.out).2.2 x8_8 p156 q156; cases e156; replace p156 := eq_true p156; replace q156 := eq_true q156))
           go_ret3
           exact ⟨by first | rfl | (simp [errW_none, errW_some] <;> rfl) | (simp [*, errW_none, errW_some] <;> rfl), bl HB⟩
          ·rw [if_neg c29] at H; have c29b0 : decide (x9_3 < (rd y153 x8_8)) = false := decide_eq_false c29; clear c29; by_cases c33 : x9_3 > 1114111
           ·rw [if_pos c33] at H; have c33b0 : decide (1114111 < x9_3) = true := decide_eq_true c33; clear c33; simp only [Option.some.injEq, Prod.mk.injEq] at H
            obtain ⟨rfl, rfl, rfl⟩ := H
            go_wp2_with (first | ((with_reducible refine gate_dst (N := 86) rfl ?_); (try (refine gate_guard (by rfl) ?_; dsimp only)); refine Kd.R_lit (Kd.int .i64) _ 3 ?hg (N := 86) ?hd (xs := ([0, 0, 128, 2048, 65536] : List Int)) (inner := [.int .i64 0, .int .i64 0, .int .i64 128, .int .i64 2048, .int .i64 65536]) (ok := fun _ => True) (okp := fun _ => True) ?hr ?hp (fun _ hk => hk) trivial (Below.refl _ _) (Nat.le_refl _) (by simp) ?_; (case hd => rfl); (case hg => rfl); (case hr => first | (go_simp; done) | (go_simp; rfl)); (case hp => exact (Reps.one (show Kd.M (Kd.int .i64) _ _ _ 0 [.int .i64 0] from rfl) (Reps.one (show Kd.M (Kd.int .i64) _ _ _ 0 [.int .i64 0] from rfl) (Reps.one (show Kd.M (Kd.int .i64) _ _ _ 128 [.int .i64 128] from rfl) (Reps.one (show Kd.M (Kd.int .i64) _ _ _ 2048 [.int .i64 2048] from rfl) (Reps.one (show Kd.M (Kd.int .i64) _ _ _ 65536 [.int .i64 65536] from rfl) (Reps.none _ _))))))); intro v154 w34 ho35 hb hg_ hnew_; clear hg_ hnew_; (first | rw [← Ny153.out] at ho35 | (simp only [Int.reduceToNat] at ho35; rw [← Ny153.out] at ho35)); have n0_ := Aside0.mk (Kd.R_lower ho35 (below_size (bl HB))); have n1_ := Aside0.mk (below_step (bl HB) hb); clear HB; have HO155 := n0_; have HB := n1_; clear n0_ n1_; clear hb ho35; obtain ⟨Ao36, co36, eo36⟩ := Kd.R_slice HO155.out; subst eo36; have p156 : 0 ≤ (x8_8 : Int) := of_decide_eq_true (by first | (with_reducible assumption) | assumption); have q156 : x8_8 < (y153.length : Int) := of_decide_eq_true (by first | (with_reducible assumption) | assumption); obtain ⟨ad156, e156, hx156_0⟩ := Kd.at_int (Kd.R_reads' HO155.out).2.2 x8_8 p156 q156; cases e156; replace p156 := eq_true p156; replace q156 := eq_true q156))
            go_ret3
            exact ⟨by first | rfl | (simp [errW_none, errW_some] <;> rfl) | (simp [*, errW_none, errW_some] <;> rfl), bl HB⟩
           ·rw [if_neg c33] at H; have c33b0 : decide (1114111 < x9_3) = false := decide_eq_false c33; clear c33; by_cases c37 : x9_3 ≥ 55296
            ·rw [if_pos c37] at H; have c37b0 : decide (55296 ≤ x9_3) = true := decide_eq_true c37; clear c37; by_cases c38 : x9_3 < 57344
             ·rw [if_pos c38] at H; have c38b0 : decide (x9_3 < 57344) = true := decide_eq_true c38; clear c38; simp only [Option.some.injEq, Prod.mk.injEq] at H
              obtain ⟨rfl, rfl, rfl⟩ := H
              go_wp2_with (first | ((with_reducible refine gate_dst (N := 86) rfl ?_); (try (refine gate_guard (by rfl) ?_; dsimp only)); refine Kd.R_lit (Kd.int .i64) _ 3 ?hg (N := 86) ?hd (xs := ([0, 0, 128, 2048, 65536] : List Int)) (inner := [.int .i64 0, .int .i64 0, .int .i64 128, .int .i64 2048, .int .i64 65536]) (ok := fun _ => True) (okp := fun _ => True) ?hr ?hp (fun _ hk => hk) trivial (Below.refl _ _) (Nat.le_refl _) (by simp) ?_; (case hd => rfl); (case hg => rfl); (case hr => first | (go_simp; done) | (go_simp; rfl)); (case hp => exact (Reps.one (show Kd.M (Kd.int .i64) _ _ _ 0 [.int .i64 0] from rfl) (Reps.one (show Kd.M (Kd.int .i64) _ _ _ 0 [.int .i64 0] from rfl) (Reps.one (show Kd.M (Kd.int .i64) _ _ _ 128 [.int .i64 128] from rfl) (Reps.one (show Kd.M (Kd.int .i64) _ _ _ 2048 [.int .i64 2048] from rfl) (Reps.one (show Kd.M (Kd.int .i64) _ _ _ 65536 [.int .i64 65536] from rfl) (Reps.none _ _))))))); intro v154 w39 ho40 hb hg_ hnew_; clear hg_ hnew_; (first | rw [← Ny153.out] at ho40 | (simp only [Int.reduceToNat] at ho40; rw [← Ny153.out] at ho40)); have n0_ := Aside0.mk (Kd.R_lower ho40 (below_size (bl HB))); have n1_ := Aside0.mk (below_step (bl HB) hb); clear HB; have HO155 := n0_; have HB := n1_; clear n0_ n1_; clear hb ho40; obtain ⟨Ao41, co41, eo41⟩ := Kd.R_slice HO155.out; subst eo41; have p156 : 0 ≤ (x8_8 : Int) := of_decide_eq_true (by first | (with_reducible assumption) | assumption); have q156 : x8_8 < (y153.length : Int) := of_decide_eq_true (by first | (with_reducible assumption) | assumption); obtain ⟨ad156, e156, hx156_0⟩ := Kd.at_int (Kd.R_reads' HO155.out).2.2 x8_8 p156 q156; cases e156; replace p156 := eq_true p156; replace q156 := eq_true q156))
              go_ret3
              exact ⟨by first | rfl | (simp [errW_none, errW_some] <;> rfl) | (simp [*, errW_none, errW_some] <;> rfl), bl HB⟩
             ·rw [if_neg c38] at H; have c38b0 : decide (x9_3 < 57344) = false := decide_eq_false c38; clear c38; simp only [Option.some.injEq, Prod.mk.injEq] at H
              obtain ⟨rfl, rfl, rfl⟩ := H
              go_wp2_with (first | ((with_reducible refine gate_dst (N := 86) rfl ?_); (try (refine gate_guard (by rfl) ?_; dsimp only)); refine Kd.R_lit (Kd.int .i64) _ 3 ?hg (N := 86) ?hd (xs := ([0, 0, 128, 2048, 65536] : List Int)) (inner := [.int .i64 0, .int .i64 0, .int .i64 128, .int .i64 2048, .int .i64 65536]) (ok := fun _ => True) (okp := fun _ => True) ?hr ?hp (fun _ hk => hk) trivial (Below.refl _ _) (Nat.le_refl _) (by simp) ?_; (case hd => rfl); (case hg => rfl); (case hr => first | (go_simp; done) | (go_simp; rfl)); (case hp => exact (Reps.one (show Kd.M (Kd.int .i64) _ _ _ 0 [.int .i64 0] from rfl) (Reps.one (show Kd.M (Kd.int .i64) _ _ _ 0 [.int .i64 0] from rfl) (Reps.one (show Kd.M (Kd.int .i64) _ _ _ 128 [.int .i64 128] from rfl) (Reps.one (show Kd.M (Kd.int .i64) _ _ _ 2048 [.int .i64 2048] from rfl) (Reps.one (show Kd.M (Kd.int .i64) _ _ _ 65536 [.int .i64 65536] from rfl) (Reps.none _ _))))))); intro v154 w42 ho43 hb hg_ hnew_; clear hg_ hnew_; (first | rw [← Ny153.out] at ho43 | (simp only [Int.reduceToNat] at ho43; rw [← Ny153.out] at ho43)); have n0_ := Aside0.mk (Kd.R_lower ho43 (below_size (bl HB))); have n1_ := Aside0.mk (below_step (bl HB) hb); clear HB; have HO155 := n0_; have HB := n1_; clear n0_ n1_; clear hb ho43; obtain ⟨Ao44, co44, eo44⟩ := Kd.R_slice HO155.out; subst eo44; have p156 : 0 ≤ (x8_8 : Int) := of_decide_eq_true (by first | (with_reducible assumption) | assumption); have q156 : x8_8 < (y153.length : Int) := of_decide_eq_true (by first | (with_reducible assumption) | assumption); obtain ⟨ad156, e156, hx156_0⟩ := Kd.at_int (Kd.R_reads' HO155.out).2.2 x8_8 p156 q156; cases e156; replace p156 := eq_true p156; replace q156 := eq_true q156))
              go_ret3
              exact ⟨by first | rfl | (simp [errW_none, errW_some] <;> rfl) | (simp [*, errW_none, errW_some] <;> rfl), bl HB⟩
            ·rw [if_neg c37] at H; have c37b0 : decide (55296 ≤ x9_3) = false := decide_eq_false c37; clear c37; simp only [Option.some.injEq, Prod.mk.injEq] at H
             obtain ⟨rfl, rfl, rfl⟩ := H
             go_wp2_with (first | ((with_reducible refine gate_dst (N := 86) rfl ?_); (try (refine gate_guard (by rfl) ?_; dsimp only)); refine Kd.R_lit (Kd.int .i64) _ 3 ?hg (N := 86) ?hd (xs := ([0, 0, 128, 2048, 65536] : List Int)) (inner := [.int .i64 0, .int .i64 0, .int .i64 128, .int .i64 2048, .int .i64 65536]) (ok := fun _ => True) (okp := fun _ => True) ?hr ?hp (fun _ hk => hk) trivial (Below.refl _ _) (Nat.le_refl _) (by simp) ?_; (case hd => rfl); (case hg => rfl); (case hr => first | (go_simp; done) | (go_simp; rfl)); (case hp => exact (Reps.one (show Kd.M (Kd.int .i64) _ _ _ 0 [.int .i64 0] from rfl) (Reps.one (show Kd.M (Kd.int .i64) _ _ _ 0 [.int .i64 0] from rfl) (Reps.one (show Kd.M (Kd.int .i64) _ _ _ 128 [.int .i64 128] from rfl) (Reps.one (show Kd.M (Kd.int .i64) _ _ _ 2048 [.int .i64 2048] from rfl) (Reps.one (show Kd.M (Kd.int .i64) _ _ _ 65536 [.int .i64 65536] from rfl) (Reps.none _ _))))))); intro v154 w45 ho46 hb hg_ hnew_; clear hg_ hnew_; (first | rw [← Ny153.out] at ho46 | (simp only [Int.reduceToNat] at ho46; rw [← Ny153.out] at ho46)); have n0_ := Aside0.mk (Kd.R_lower ho46 (below_size (bl HB))); have n1_ := Aside0.mk (below_step (bl HB) hb); clear HB; have HO155 := n0_; have HB := n1_; clear n0_ n1_; clear hb ho46; obtain ⟨Ao47, co47, eo47⟩ := Kd.R_slice HO155.out; subst eo47; have p156 : 0 ≤ (x8_8 : Int) := of_decide_eq_true (by first | (with_reducible assumption) | assumption); have q156 : x8_8 < (y153.length : Int) := of_decide_eq_true (by first | (with_reducible assumption) | assumption); obtain ⟨ad156, e156, hx156_0⟩ := Kd.at_int (Kd.R_reads' HO155.out).2.2 x8_8 p156 q156; cases e156; replace p156 := eq_true p156; replace q156 := eq_true q156))
             go_ret3
             exact ⟨by first | rfl | (simp [errW_none, errW_some] <;> rfl) | (simp [*, errW_none, errW_some] <;> rfl), bl HB⟩
         rw [if_pos c20] at H; have c20b0 : decide (x10_3 < x8_8) = true := decide_eq_true c20; clear c20; obtain ⟨ji21, hji21⟩ : ∃ j_ : Int, (wrap64 (a1 + x10_3)) = j_ := ⟨_, rfl⟩
         replace H : (if 0 ≤ (ji21) then (if (ji21) < (a0.size : Int) then (if (wrap64 (bt a0 (ji21))) < 128 then (some (0, 0, false)) else (if (wrap64 (bt a0 (ji21))) ≥ 192 then (some (0, 0, false)) else (glossatorref01_Next.l0 k3 a0 a1 x8_8 (wrap64 ((wrap64 ((wrap64 (x9_3 * 64)) + (wrap64 (bt a0 (ji21))))) - 128)) (wrap64 (x10_3 + 1))))) else (none)) else (none)) = some (r1, r2, r3) := by first | (rw [hji21] at H; exact H) | (simp only [hji21] at H ⊢; exact H)
         have hji21w : (IntKind.i64.wrap (a1 + x10_3)) = ji21 := (i64_w _).trans hji21
         by_cases c22 : 0 ≤ (ji21)
         rotate_left
         ·rw [if_neg c22] at H; exact absurd H (by simp)
         rw [if_pos c22] at H; have c22b0 : decide (0 ≤ (ji21)) = true := decide_eq_true c22; clear c22; by_cases c23 : (ji21) < (a0.size : Int)
         rotate_left
         ·rw [if_neg c23] at H; exact absurd H (by simp)
         rw [if_pos c23] at H; have c23b0 : decide ((ji21) < (a0.size : Int)) = true := decide_eq_true c23; clear c23; by_cases c25 : (wrap64 (bt a0 (ji21))) < 128
         ·rw [if_pos c25] at H; have c25b0 : decide ((wrap64 (bt a0 (ji21))) < 128) = true := decide_eq_true c25; clear c25; simp only [Option.some.injEq, Prod.mk.injEq] at H
          obtain ⟨rfl, rfl, rfl⟩ := H
          have p24 : 0 ≤ ((ji21) : Int) := of_decide_eq_true (by first | (with_reducible assumption) | assumption)
          have q24 : (ji21) < (a0.size : Int) := of_decide_eq_true (by first | (with_reducible assumption) | assumption)
          have hx24 := bt_at a0 (ji21)
          replace p24 := eq_true p24; replace q24 := eq_true q24; go_wp2
          go_ret3
          exact ⟨by first | rfl | (simp [errW_none, errW_some] <;> rfl) | (simp only [← hji21]; first | rfl | (simp [errW_none, errW_some] <;> rfl)) | (simp [*, errW_none, errW_some] <;> rfl), bl HB⟩
         ·rw [if_neg c25] at H; have c25b0 : decide ((wrap64 (bt a0 (ji21))) < 128) = false := decide_eq_false c25; clear c25; by_cases c26 : (wrap64 (bt a0 (ji21))) ≥ 192
          ·rw [if_pos c26] at H; have c26b0 : decide (192 ≤ (wrap64 (bt a0 (ji21)))) = true := decide_eq_true c26; clear c26; simp only [Option.some.injEq, Prod.mk.injEq] at H
           obtain ⟨rfl, rfl, rfl⟩ := H
           have p24 : 0 ≤ ((ji21) : Int) := of_decide_eq_true (by first | (with_reducible assumption) | assumption)
           have q24 : (ji21) < (a0.size : Int) := of_decide_eq_true (by first | (with_reducible assumption) | assumption)
           have hx24 := bt_at a0 (ji21)
           replace p24 := eq_true p24; replace q24 := eq_true q24; go_wp2
           go_ret3
           exact ⟨by first | rfl | (simp [errW_none, errW_some] <;> rfl) | (simp only [← hji21]; first | rfl | (simp [errW_none, errW_some] <;> rfl)) | (simp [*, errW_none, errW_some] <;> rfl), bl HB⟩
          ·rw [if_neg c26] at H; have c26b0 : decide (192 ≤ (wrap64 (bt a0 (ji21)))) = false := decide_eq_false c26; clear c26; have H' := Aside0.mk H; clear H; have p24 : 0 ≤ ((ji21) : Int) := of_decide_eq_true (by first | (with_reducible assumption) | assumption)
           have q24 : (ji21) < (a0.size : Int) := of_decide_eq_true (by first | (with_reducible assumption) | assumption)
           have hx24 := bt_at a0 (ji21)
           replace p24 := eq_true p24; replace q24 := eq_true q24; go_wp2
           go_roundg k3
           case measure => have := HJ2.out; have := HJ8.out; have := HK3.out; omega
           case rel => exact ⟨(wrap64 ((wrap64 ((wrap64 (x9_3 * 64)) + (wrap64 (bt a0 (ji21))))) - 128)), (wrap64 (x10_3 + 1)), (by first | rfl | (simp; done) | (simp only [← hji21] <;> (first | rfl | simp)) | (simp [*]; done)), (by first | rfl | (simp; done) | (simp [*]; done) | (simp; exact xEmpty_ne _) | (simp [*]; exact xEmpty_ne _)), H', ⟨by have := HJ2.out; have := HJ8.out; have := HK3.out; omega⟩, ⟨bl HB⟩⟩
end Go.Proofs.YtienoadaflmkdaaDoor.Q

end
section
namespace Go.Proofs.YtienoadaflmkdaaDoor.XRef01
open Go Go.RowKit Go.Proofs.YtienoadaflmkdaaDoor.Q Go.Proofs.YtienoadaflmkdaaDoorW.PrintWords Go.Proofs.YtienoadaflmkdaaDoorW.PrintLast Go.Proofs.YtienoadaflmkdaaDoorW.PrintMore Go.Proofs.YtienoadaflmkdaaDoor.XEv
set_option linter.unusedVariables false
set_option linter.unusedSimpArgs false
/-- The reference's arithmetic on four bytes, n of which are there. -/
def fin (z v : Int) : Int × Int × Bool :=
  if v < (if z = 2 then 128 else if z = 3 then 2048 else 65536) then (0, 0, false) else if v > 1114111 then (0, 0, false) else if v ≥ 55296 then (if v < 57344 then (0, 0, false) else (v, z, true)) else (v, z, true)
theorem l0_fin (s : ByteArray) (p z v i : Int) (hz : z = 2 ∨ z = 3 ∨ z = 4) (hi : ¬ i < z) (h0 : -2147483648 ≤ v) (h1 : v ≤ 2147483647) : Ev (fun k => glossatorref01_Next.l0 k s p z v i) (fin z v) := by
  refine up ?_
  simp only [glossatorref01_Next.l0, if_neg hi, Option.bind_some]
  have e1 : (0 : Int) ≤ z := by omega
  have e2 : z < (([0, 0, 128, 2048, 65536] : List Int).length : Int) := by simp; omega
  have e3 : rd ([0, 0, 128, 2048, 65536] : List Int) z = if z = 2 then 128 else if z = 3 then 2048 else 65536 := by rcases hz with rfl | rfl | rfl <;> rfl
  simp only [if_pos e1, if_pos e2, e3]
  refine now (fun k => ?_)
  unfold fin
  rw [w32 h0 h1]
  repeat' split
  all_goals first | rfl | (exfalso; omega)
theorem l0_step (s : ByteArray) (p i : Nat) (z v : Int) (r : Int × Int × Bool) (hp : p + i < s.size) (hsz : s.size ≤ 140737488351232) (hi : (i : Int) < z) (h0 : 0 ≤ v) (h1 : v ≤ 16777216) (hz : z ≤ 4)
    (hr : 128 ≤ B s (p + i) → B s (p + i) < 192 → Ev (fun k => glossatorref01_Next.l0 k s p z (v * 64 + B s (p + i) - 128) ((i + 1 : Nat) : Int)) r) :
    Ev (fun k => glossatorref01_Next.l0 k s p z v i) (if 128 ≤ B s (p + i) ∧ B s (p + i) < 192 then r else (0, 0, false)) := by
  refine up ?_
  have hB := B_lt s (p + i)
  have e0 : wrap64 ((p : Int) + i) = ((p + i : Nat) : Int) := by rw [w64 (by omega) (by omega)]; omega
  have e1 : (0 : Int) ≤ ((p + i : Nat) : Int) := by omega
  have e2 : ((p + i : Nat) : Int) < (s.size : Int) := by omega
  simp only [glossatorref01_Next.l0, if_pos hi, e0, if_pos e1, if_pos e2, bt_nat, w64 (show (-9223372036854775808 : Int) ≤ (B s (p + i) : Int) by omega) (by omega)]
  by_cases c1 : (B s (p + i) : Int) < 128
  · rw [if_neg (by omega)]
    simp only [if_pos c1]
    exact now fun _ => rfl
  · by_cases c2 : (B s (p + i) : Int) ≥ 192
    · rw [if_neg (by omega)]
      simp only [if_neg c1, if_pos c2]
      exact now fun _ => rfl
    · rw [if_pos (by omega)]
      have e3 : wrap64 (v * 64) = v * 64 := w64 (by omega) (by omega)
      have e4 : wrap64 (v * 64 + (B s (p + i) : Int)) = v * 64 + (B s (p + i) : Int) := w64 (by omega) (by omega)
      have e5 : wrap64 (v * 64 + (B s (p + i) : Int) - 128) = v * 64 + (B s (p + i) : Int) - 128 := w64 (by omega) (by omega)
      have e6 : wrap64 ((i : Int) + 1) = ((i + 1 : Nat) : Int) := by rw [w64 (by omega) (by omega)]; omega
      simp only [if_neg c1, if_neg c2, e3, e4, e5, e6]
      exact hr (by omega) (by omega)
def cont (b : Nat) : Prop := 128 ≤ b ∧ b < 192
instance (b : Nat) : Decidable (cont b) := by unfold cont; infer_instance
/-- What the reference comes to for a lead byte's size and bits. -/
def tail (s : ByteArray) (p z : Nat) (v : Int) : Int × Int × Bool :=
  if p + z > s.size then (0, 0, false)
  else if z = 2 then (if cont (B s (p + 1)) then fin 2 (v * 64 + B s (p + 1) - 128) else (0, 0, false))
  else if z = 3 then (if cont (B s (p + 1)) then (if cont (B s (p + 2)) then fin 3 ((v * 64 + B s (p + 1) - 128) * 64 + B s (p + 2) - 128) else (0, 0, false)) else (0, 0, false))
  else (if cont (B s (p + 1)) then (if cont (B s (p + 2)) then (if cont (B s (p + 3)) then fin 4 (((v * 64 + B s (p + 1) - 128) * 64 + B s (p + 2) - 128) * 64 + B s (p + 3) - 128) else (0, 0, false)) else (0, 0, false)) else (0, 0, false))
theorem j3_tail (s : ByteArray) (p z : Nat) (v : Int) (hz : z = 2 ∨ z = 3 ∨ z = 4) (hp : p < s.size) (hsz : s.size ≤ 140737488351232) (h0 : 0 ≤ v) (h1 : v ≤ 31) : Ev (fun k => glossatorref01_Next.j3 k s p z v) (tail s p z v) := by
  refine up ?_
  have e0 : wrap64 ((p : Int) + z) = ((p + z : Nat) : Int) := by rw [w64 (by omega) (by omega)]; omega
  simp only [glossatorref01_Next.j3, e0]
  unfold tail
  by_cases c : p + z > s.size
  · rw [if_pos c]
    have c' : ((p + z : Nat) : Int) > (s.size : Int) := by omega
    simp only [if_pos c']
    exact now fun _ => rfl
  · rw [if_neg c]
    have c' : ¬ ((p + z : Nat) : Int) > (s.size : Int) := by omega
    simp only [if_neg c']
    have b1 := B_lt s (p + 1); have b2 := B_lt s (p + 2); have b3 := B_lt s (p + 3)
    rcases hz with rfl | rfl | rfl
    · rw [if_pos rfl]
      exact l0_step s p 1 _ v _ (by omega) hsz (by omega) (by omega) (by omega) (by omega) fun ha hb => l0_fin s p _ _ _ (by omega) (by omega) (by omega) (by omega)
    · rw [if_neg (by omega), if_pos rfl]
      exact l0_step s p 1 _ v _ (by omega) hsz (by omega) (by omega) (by omega) (by omega) fun ha hb => l0_step s p 2 _ _ _ (by omega) hsz (by omega) (by omega) (by omega) (by omega) fun hc hd => l0_fin s p _ _ _ (by omega) (by omega) (by omega) (by omega)
    · rw [if_neg (by omega), if_neg (by omega)]
      exact l0_step s p 1 _ v _ (by omega) hsz (by omega) (by omega) (by omega) (by omega) fun ha hb => l0_step s p 2 _ _ _ (by omega) hsz (by omega) (by omega) (by omega) (by omega) fun hc hd => l0_step s p 3 _ _ _ (by omega) hsz (by omega) (by omega) (by omega) (by omega) fun he hf => l0_fin s p _ _ _ (by omega) (by omega) (by omega) (by omega)
def whole (s : ByteArray) (p : Nat) : Int × Int × Bool :=
  if B s p < 128 then ((B s p : Int), 1, true) else if 192 ≤ B s p ∧ B s p < 224 then tail s p 2 (B s p - 192) else if 224 ≤ B s p ∧ B s p < 240 then tail s p 3 (B s p - 224) else if 240 ≤ B s p ∧ B s p < 248 then tail s p 4 (B s p - 240) else (0, 0, false)
theorem next_whole (s : ByteArray) (p : Nat) (hp : p < s.size) (hsz : s.size ≤ 140737488351232) : Ev (fun k => glossatorref01_Next.f k s p) (whole s p) := by
  have hB := B_lt s p
  have e0 : ¬ (p : Int) < 0 := by omega
  have e1 : decide ((p : Int) ≥ (s.size : Int)) = false := decide_eq_false (by omega)
  have e2 : (0 : Int) ≤ p := by omega
  have e3 : (p : Int) < (s.size : Int) := by omega
  have eb : wrap64 (B s p : Int) = (B s p : Int) := w64 (by omega) (by omega)
  simp only [glossatorref01_Next.f, if_neg e0, e1]
  refine up ?_
  simp only [glossatorref01_Next.j0, Bool.false_eq_true, if_false, if_pos e2, if_pos e3, bt_nat, eb]
  unfold whole
  by_cases c0 : B s p < 128
  · have c0' : (B s p : Int) < 128 := by omega
    rw [if_pos c0]
    simp only [if_pos c0']
    exact now fun _ => by rw [w32 (by omega) (by omega)]
  have c0' : ¬ (B s p : Int) < 128 := by omega
  rw [if_neg c0]
  simp only [if_neg c0']
  by_cases c1 : 192 ≤ B s p ∧ B s p < 224
  · have d1 : (B s p : Int) ≥ 192 := by omega
    have d2 : decide ((B s p : Int) < 224) = true := decide_eq_true (by omega)
    have d3 : wrap64 ((B s p : Int) - 192) = (B s p : Int) - 192 := w64 (by omega) (by omega)
    rw [if_pos c1]
    simp only [if_pos d1, d2]
    refine up ?_
    simp only [glossatorref01_Next.j1, if_true, d3]
    exact j3_tail s p 2 _ (by omega) hp hsz (by omega) (by omega)
  rw [if_neg c1]
  have J1 : ∀ {r}, Ev (fun k => glossatorref01_Next.j1 k s p (B s p) false) r → Ev (fun k => if (B s p : Int) ≥ 192 then glossatorref01_Next.j1 k s p (B s p) (decide ((B s p : Int) < 224)) else glossatorref01_Next.j1 k s p (B s p) false) r := by
    intro r h
    refine both (fun hc => ?_) (fun _ => h)
    have : decide ((B s p : Int) < 224) = false := decide_eq_false (by omega)
    simp only [this]
    exact h
  refine J1 ?_
  clear J1
  by_cases c2 : 224 ≤ B s p ∧ B s p < 240
  · have d1 : (B s p : Int) ≥ 224 := by omega
    have d2 : decide ((B s p : Int) < 240) = true := decide_eq_true (by omega)
    have d3 : wrap64 ((B s p : Int) - 224) = (B s p : Int) - 224 := w64 (by omega) (by omega)
    rw [if_pos c2]
    refine up ?_
    simp only [glossatorref01_Next.j1, Bool.false_eq_true, if_false, if_pos d1, d2]
    refine up ?_
    simp only [glossatorref01_Next.j2, if_true, d3]
    exact j3_tail s p 3 _ (by omega) hp hsz (by omega) (by omega)
  rw [if_neg c2]
  refine up ?_
  simp only [glossatorref01_Next.j1, Bool.false_eq_true, if_false]
  have J2 : ∀ {r}, Ev (fun k => glossatorref01_Next.j2 k s p (B s p) false) r → Ev (fun k => if (B s p : Int) ≥ 224 then glossatorref01_Next.j2 k s p (B s p) (decide ((B s p : Int) < 240)) else glossatorref01_Next.j2 k s p (B s p) false) r := by
    intro r h
    refine both (fun hc => ?_) (fun _ => h)
    have : decide ((B s p : Int) < 240) = false := decide_eq_false (by omega)
    simp only [this]
    exact h
  refine J2 ?_
  refine up ?_
  simp only [glossatorref01_Next.j2, Bool.false_eq_true, if_false]
  by_cases c3 : 240 ≤ B s p ∧ B s p < 248
  · have d1 : (B s p : Int) ≥ 240 := by omega
    have d2 : (B s p : Int) < 248 := by omega
    have d3 : wrap64 ((B s p : Int) - 240) = (B s p : Int) - 240 := w64 (by omega) (by omega)
    rw [if_pos c3]
    simp only [if_pos d1, if_pos d2, d3]
    exact j3_tail s p 4 _ (by omega) hp hsz (by omega) (by omega)
  · rw [if_neg c3]
    refine both (fun hc => ?_) (fun _ => now fun _ => rfl)
    have d2 : ¬ (B s p : Int) < 248 := by omega
    simp only [if_neg d2]
    exact now fun _ => rfl
def tailN (n z x1 x2 x3 : Nat) (v : Int) : Int × Int × Bool :=
  if z > n then (0, 0, false)
  else if z = 2 then (if cont x1 then fin 2 (v * 64 + x1 - 128) else (0, 0, false))
  else if z = 3 then (if cont x1 then (if cont x2 then fin 3 ((v * 64 + x1 - 128) * 64 + x2 - 128) else (0, 0, false)) else (0, 0, false))
  else (if cont x1 then (if cont x2 then (if cont x3 then fin 4 (((v * 64 + x1 - 128) * 64 + x2 - 128) * 64 + x3 - 128) else (0, 0, false)) else (0, 0, false)) else (0, 0, false))
theorem tail_N (s : ByteArray) (p z : Nat) (v : Int) (hp : p < s.size) : tail s p z v = tailN (s.size - p) z (B s (p + 1)) (B s (p + 2)) (B s (p + 3)) v := by
  unfold tail tailN
  by_cases h : p + z > s.size
  · rw [if_pos h, if_pos (show z > s.size - p by omega)]
  · rw [if_neg h, if_neg (show ¬ z > s.size - p by omega)]
theorem fin_bad2 (v : Int) (h : v < 128) : fin 2 v = (0, 0, false) := by unfold fin; rw [if_pos]; simpa using h
theorem fin_good2 (v : Int) (h : 128 ≤ v) (h2 : v < 55296) : fin 2 v = (v, 2, true) := by
  unfold fin; rw [if_neg (by rw [if_pos rfl]; omega), if_neg (by omega), if_neg (by omega)]
theorem fin_bad3 (v : Int) (h : v < 2048 ∨ (55296 ≤ v ∧ v < 57344) ∨ 1114111 < v) : fin 3 v = (0, 0, false) := by
  unfold fin
  have e : (if (3 : Int) = 2 then (128 : Int) else if (3 : Int) = 3 then 2048 else 65536) = 2048 := rfl
  rw [e]
  repeat' split
  all_goals first | rfl | (exfalso; omega)
theorem fin_good3 (v : Int) (h : 2048 ≤ v) (h2 : v < 55296 ∨ 57344 ≤ v) (h3 : v ≤ 1114111) : fin 3 v = (v, 3, true) := by
  unfold fin
  have e : (if (3 : Int) = 2 then (128 : Int) else if (3 : Int) = 3 then 2048 else 65536) = 2048 := rfl
  rw [e]
  repeat' split
  all_goals first | rfl | (exfalso; omega)
theorem fin_bad4 (v : Int) (h : v < 65536 ∨ 1114111 < v) : fin 4 v = (0, 0, false) := by
  unfold fin
  have e : (if (4 : Int) = 2 then (128 : Int) else if (4 : Int) = 3 then 2048 else 65536) = 65536 := rfl
  rw [e]
  repeat' split
  all_goals first | rfl | (exfalso; omega)
theorem fin_good4 (v : Int) (h : 65536 ≤ v) (h3 : v ≤ 1114111) : fin 4 v = (v, 4, true) := by
  unfold fin
  have e : (if (4 : Int) = 2 then (128 : Int) else if (4 : Int) = 3 then 2048 else 65536) = 65536 := rfl
  rw [e]
  repeat' split
  all_goals first | rfl | (exfalso; omega)
theorem nxN_bad : nxN (65533, 1) = (0, 0, false) := rfl
theorem nxN_good (a b : Nat) (h : b ≠ 1) : nxN (a, b) = ((a : Int), (b : Int), true) := by unfold nxN; rw [if_neg (fun hc => h hc.2)]
theorem arith2 (n x0 x1 x2 x3 : Nat) (h0 : 192 ≤ x0 ∧ x0 < 224) (h1 : x1 < 256) : tailN n 2 x1 x2 x3 ((x0 : Int) - 192) = nxN (Lib.decodeN n x0 x1 x2 x3) := by
  unfold tailN Lib.decodeN
  rw [if_neg (show ¬ x0 < 128 by omega), if_pos rfl]
  by_cases c : 2 ≤ n ∧ 128 ≤ x1 ∧ x1 < 192
  · rw [if_neg (show ¬ 2 > n by omega), if_pos (show cont x1 from c.2), if_pos (show x0 / 32 = 6 ∧ 1 < n ∧ x1 / 64 = 2 by omega)]
    by_cases d : x0 % 32 * 64 + x1 % 64 ≥ 128
    · rw [if_pos d, fin_good2 _ (by omega) (by omega), nxN_good _ _ (by omega)]
      congr 1; omega
    · rw [if_neg d, fin_bad2 _ (by omega), nxN_bad]
  · rw [if_neg (show ¬ (x0 / 32 = 6 ∧ 1 < n ∧ x1 / 64 = 2) by omega), if_neg (show ¬ (x0 / 16 = 14 ∧ (1 < n ∧ x1 / 64 = 2) ∧ (2 < n ∧ x2 / 64 = 2)) by omega), if_neg (show ¬ (x0 / 8 = 30 ∧ (1 < n ∧ x1 / 64 = 2) ∧ (2 < n ∧ x2 / 64 = 2) ∧ (3 < n ∧ x3 / 64 = 2)) by omega), nxN_bad]
    by_cases e : 2 > n
    · rw [if_pos e]
    · rw [if_neg e, if_neg (show ¬ cont x1 from fun h => by unfold cont at h; omega)]
theorem arith3 (n x0 x1 x2 x3 : Nat) (h0 : 224 ≤ x0 ∧ x0 < 240) (h1 : x1 < 256) (h2 : x2 < 256) : tailN n 3 x1 x2 x3 ((x0 : Int) - 224) = nxN (Lib.decodeN n x0 x1 x2 x3) := by
  unfold tailN Lib.decodeN
  rw [if_neg (show ¬ x0 < 128 by omega), if_neg (show ¬ (3 : Nat) = 2 by omega), if_pos rfl, if_neg (show ¬ (x0 / 32 = 6 ∧ 1 < n ∧ x1 / 64 = 2) by omega)]
  by_cases c : 3 ≤ n ∧ (128 ≤ x1 ∧ x1 < 192) ∧ (128 ≤ x2 ∧ x2 < 192)
  · rw [if_neg (show ¬ 3 > n by omega), if_pos (show cont x1 from c.2.1), if_pos (show cont x2 from c.2.2), if_pos (show x0 / 16 = 14 ∧ (1 < n ∧ x1 / 64 = 2) ∧ (2 < n ∧ x2 / 64 = 2) by omega)]
    by_cases d : x0 % 16 * 4096 + x1 % 64 * 64 + x2 % 64 ≥ 2048 ∧ (x0 % 16 * 4096 + x1 % 64 * 64 + x2 % 64 < 55296 ∨ (57344 ≤ x0 % 16 * 4096 + x1 % 64 * 64 + x2 % 64 ∧ x0 % 16 * 4096 + x1 % 64 * 64 + x2 % 64 ≤ 1114111))
    · rw [if_pos d, fin_good3 _ (by omega) (by omega) (by omega), nxN_good _ _ (by omega)]
      congr 1; omega
    · rw [if_neg d, fin_bad3 _ (by omega), nxN_bad]
  · rw [if_neg (show ¬ (x0 / 16 = 14 ∧ (1 < n ∧ x1 / 64 = 2) ∧ (2 < n ∧ x2 / 64 = 2)) by omega), if_neg (show ¬ (x0 / 8 = 30 ∧ (1 < n ∧ x1 / 64 = 2) ∧ (2 < n ∧ x2 / 64 = 2) ∧ (3 < n ∧ x3 / 64 = 2)) by omega), nxN_bad]
    by_cases e : 3 > n
    · rw [if_pos e]
    · rw [if_neg e]
      repeat' split
      all_goals first | rfl | (unfold cont at *; exfalso; omega)
theorem arith4 (n x0 x1 x2 x3 : Nat) (h0 : 240 ≤ x0 ∧ x0 < 248) (h1 : x1 < 256) (h2 : x2 < 256) (h3 : x3 < 256) : tailN n 4 x1 x2 x3 ((x0 : Int) - 240) = nxN (Lib.decodeN n x0 x1 x2 x3) := by
  unfold tailN Lib.decodeN
  rw [if_neg (show ¬ x0 < 128 by omega), if_neg (show ¬ (4 : Nat) = 2 by omega), if_neg (show ¬ (4 : Nat) = 3 by omega), if_neg (show ¬ (x0 / 32 = 6 ∧ 1 < n ∧ x1 / 64 = 2) by omega), if_neg (show ¬ (x0 / 16 = 14 ∧ (1 < n ∧ x1 / 64 = 2) ∧ (2 < n ∧ x2 / 64 = 2)) by omega)]
  by_cases c : 4 ≤ n ∧ (128 ≤ x1 ∧ x1 < 192) ∧ (128 ≤ x2 ∧ x2 < 192) ∧ (128 ≤ x3 ∧ x3 < 192)
  · rw [if_neg (show ¬ 4 > n by omega), if_pos (show cont x1 from c.2.1), if_pos (show cont x2 from c.2.2.1), if_pos (show cont x3 from c.2.2.2), if_pos (show x0 / 8 = 30 ∧ (1 < n ∧ x1 / 64 = 2) ∧ (2 < n ∧ x2 / 64 = 2) ∧ (3 < n ∧ x3 / 64 = 2) by omega)]
    by_cases d : x0 % 8 * 262144 + x1 % 64 * 4096 + x2 % 64 * 64 + x3 % 64 ≥ 65536 ∧ (x0 % 8 * 262144 + x1 % 64 * 4096 + x2 % 64 * 64 + x3 % 64 < 55296 ∨ (57344 ≤ x0 % 8 * 262144 + x1 % 64 * 4096 + x2 % 64 * 64 + x3 % 64 ∧ x0 % 8 * 262144 + x1 % 64 * 4096 + x2 % 64 * 64 + x3 % 64 ≤ 1114111))
    · rw [if_pos d, fin_good4 _ (by omega) (by omega), nxN_good _ _ (by omega)]
      congr 1; omega
    · rw [if_neg d, fin_bad4 _ (by omega), nxN_bad]
  · rw [if_neg (show ¬ (x0 / 8 = 30 ∧ (1 < n ∧ x1 / 64 = 2) ∧ (2 < n ∧ x2 / 64 = 2) ∧ (3 < n ∧ x3 / 64 = 2)) by omega), nxN_bad]
    by_cases e : 4 > n
    · rw [if_pos e]
    · rw [if_neg e]
      repeat' split
      all_goals first | rfl | (unfold cont at *; exfalso; omega)
theorem whole_nx (s : ByteArray) (p : Nat) (hp : p < s.size) : whole s p = nx s p := by
  have b0 := B_lt s p; have b1 := B_lt s (p + 1); have b2 := B_lt s (p + 2); have b3 := B_lt s (p + 3)
  have hd : nx s p = nxN (Lib.decodeN (s.size - p) (B s p) (B s (p + 1)) (B s (p + 2)) (B s (p + 3))) := congrArg nxN (Lib.decode_at s p)
  rw [hd]
  unfold whole
  by_cases c0 : B s p < 128
  · rw [if_pos c0]
    unfold Lib.decodeN
    rw [if_pos c0]
    unfold nxN
    rw [if_neg (by simp only; omega)]
    rfl
  rw [if_neg c0]
  by_cases c1 : 192 ≤ B s p ∧ B s p < 224
  · rw [if_pos c1, tail_N s p 2 _ hp, arith2 _ _ _ _ _ c1 b1]
  rw [if_neg c1]
  by_cases c2 : 224 ≤ B s p ∧ B s p < 240
  · rw [if_pos c2, tail_N s p 3 _ hp, arith3 _ _ _ _ _ c2 b1 b2]
  rw [if_neg c2]
  by_cases c3 : 240 ≤ B s p ∧ B s p < 248
  · rw [if_pos c3, tail_N s p 4 _ hp, arith4 _ _ _ _ _ c3 b1 b2 b3]
  rw [if_neg c3]
  unfold Lib.decodeN
  generalize s.size - p = n
  generalize B s p = x0 at *
  rw [if_neg c0, if_neg (show ¬ (x0 / 32 = 6 ∧ _) by omega), if_neg (show ¬ (x0 / 16 = 14 ∧ _) by omega), if_neg (show ¬ (x0 / 8 = 30 ∧ _) by omega)]
  rfl
theorem next (s : ByteArray) (p : Nat) (hp : p < s.size) (hsz : s.size ≤ 140737488351232) : Ev (fun k => glossatorref01_Next.f k s p) (nx s p) := whole_nx s p hp ▸ next_whole s p hp hsz
end Go.Proofs.YtienoadaflmkdaaDoor.XRef01

end
section
namespace Go.Proofs.YtienoadaflmkdaaDoor.Q
open Go.RowKit Go.Proofs.YtienoadaflmkdaaDoorW.PrintWords Go.Proofs.YtienoadaflmkdaaDoorW.PrintLast Go.Proofs.YtienoadaflmkdaaDoorW.PrintMore
attribute [local go_sem] max2_int min2_int max_two min_two max_three min_three max_four min_four   
set_option linter.unusedVariables false
set_option linter.unusedSimpArgs false
def fffd : List UInt8 := [239, 191, 189]
/-- The reference's text, which keeps a high surrogate until it knows what follows. -/
def rtxt (s : ByteArray) : Nat → Nat → List UInt8 → Nat → Res (List UInt8)
 | 0, i, _, _ => .bad i 0
 | f + 1, i, acc, h => if hnd s i = 34 then .ok (if 0 < h then acc ++ fffd else acc) (i + 1) else if hnd s i < 32 then .bad i 30 else if hnd s i = 92 then (escR s (i + 1)).bind fun u j =>
   if 0 < h ∧ 56320 ≤ u ∧ u ≤ 57343 then rtxt s f j (acc ++ Lib.encodeRune (joined h u : Nat)) 0
   else if 55296 ≤ u ∧ u ≤ 56319 then rtxt s f j (if 0 < h then acc ++ fffd else acc) u
   else if 56320 ≤ u ∧ u ≤ 57343 then rtxt s f j ((if 0 < h then acc ++ fffd else acc) ++ fffd) 0
   else rtxt s f j ((if 0 < h then acc ++ fffd else acc) ++ Lib.encodeRune (u : Nat)) 0
  else match nxt s i with
  | some z => rtxt s f (i + z) ((if 0 < h then acc ++ fffd else acc) ++ (s.extract i (i + z)).data.toList) 0
  | none => .bad i 30
theorem nxt_in {s : ByteArray} {i z : Nat} (hn : nxt s i = some z) (hl : i < s.size) : i + z ≤ s.size := by
 have he : z = (Utf8.decode s i).2 := by unfold nxt at hn; split at hn; cases hn; injection hn with hn; exact hn.symm
 rw [he]
 exact dec_in s i hl
theorem escR_117 {s : ByteArray} {i : Nat} (h : hnd s i = 117) : escR s i = unit s i := by unfold escR; rw [h]; rfl
theorem joined_low {h l : Nat} (hj : joined h l ≠ 65533) : 55296 ≤ h ∧ h < 56320 ∧ 56320 ≤ l ∧ l < 57344 := by
 unfold joined at hj
 split at hj
 ·exact absurd rfl hj
 ·omega
theorem rtxt_high {s : ByteArray} {f i h : Nat} {acc : List UInt8} (h1 : 55296 ≤ h) (h2 : h < 56320) :
  rtxt s (f + 1) i acc h = if pairB s i h = true then (unit s (i + 1)).bind fun l k => rtxt s f k (acc ++ Lib.encodeRune (joined h l : Nat)) 0 else rtxt s (f + 1) i (acc ++ fffd) 0 := by
 have h0 : 0 < h := by omega
 by_cases hp : pairB s i h = true
 ·rw [if_pos hp]
  rw [pairB_eq] at hp
  unfold pairH at hp
  split at hp
  ·rename_i hc
   cases hx : hexN s 4 (i + 2) 0 with
   | bad q c => rw [hx] at hp; cases hp
   | ok n j =>
    rw [hx] at hp
    have hl := joined_low (show joined h n ≠ 65533 by simpa using hp)
    have hu : unit s (i + 1) = .ok n j := by unfold unit; rw [if_pos hc.2]; exact hx
    rw [rtxt, if_neg (by omega), if_neg (by omega), if_pos hc.1, escR_117 hc.2, hu]
    show (if 0 < h ∧ 56320 ≤ n ∧ n ≤ 57343 then _ else _) = _
    rw [if_pos ⟨h0, by omega, by omega⟩]
    rfl
  ·cases hp
 ·rw [if_neg hp, rtxt, rtxt]
  simp only [h0, if_true, Nat.lt_irrefl, if_false, true_and, false_and]
  by_cases c1 : hnd s i = 34
  ·rw [if_pos c1, if_pos c1]
  rw [if_neg c1, if_neg c1]
  by_cases c2 : hnd s i < 32
  ·rw [if_pos c2, if_pos c2]
  rw [if_neg c2, if_neg c2]
  by_cases c3 : hnd s i = 92
  rotate_left
  ·rw [if_neg c3, if_neg c3]
  rw [if_pos c3, if_pos c3]
  cases he : escR s (i + 1) with
  | bad k c => rfl
  | ok u j =>
   show (if 56320 ≤ u ∧ u ≤ 57343 then _ else _) = _
   by_cases c4 : 56320 ≤ u ∧ u ≤ 57343
   rotate_left
   ·rw [if_neg c4]
    rfl
   exfalso
   apply hp
   unfold escR at he
   cases hv : escV (hnd s (i + 1)) with
   | some v =>
    rw [hv] at he
    injection he with he _
    have := escV_some hv
    omega
   | none =>
    rw [hv] at he
    have he : unit s (i + 1) = .ok u j := he
    unfold unit at he
    split at he
    ·rename_i c5
     rw [pairB_eq]
     unfold pairH
     rw [if_pos ⟨c3, c5⟩, show hexN s 4 (i + 2) 0 = .ok u j from he]
     show (joined h u != 65533) = true
     have : joined h u = 65536 + (h - 55296) * 1024 + (u - 56320) := by unfold joined; rw [if_neg (by omega)]
     rw [this]
     exact bne_iff_ne.mpr (by omega)
    ·cases he
theorem rtxt_eq {s : ByteArray} : ∀ (n f f' i : Nat) (acc : List UInt8), s.size - i ≤ n → i ≤ s.size → s.size < i + f → s.size < i + f' → rtxt s f i acc 0 = txt s f' i acc := by
 intro n
 induction n with
 | zero =>
  intro f f' i acc h1 h2 h3 h4
  obtain ⟨g, rfl⟩ : ∃ g, f = g + 1 := ⟨f - 1, by omega⟩
  obtain ⟨g', rfl⟩ : ∃ g, f' = g + 1 := ⟨f' - 1, by omega⟩
  have hh : hnd s i = 0 := by unfold hnd; rw [dif_neg (by omega)]
  rw [rtxt, txt]
  simp [hh]
 | succ n ih =>
  intro f f' i acc h1 h2 h3 h4
  obtain ⟨g, rfl⟩ : ∃ g, f = g + 1 := ⟨f - 1, by omega⟩
  obtain ⟨g', rfl⟩ : ∃ g, f' = g + 1 := ⟨f' - 1, by omega⟩
  rw [rtxt, txt]
  simp only [Nat.lt_irrefl, if_false, false_and]
  by_cases c1 : hnd s i = 34
  ·rw [if_pos c1, if_pos c1]
  rw [if_neg c1, if_neg c1]
  by_cases c2 : hnd s i < 32
  ·rw [if_pos c2, if_pos c2]
  rw [if_neg c2, if_neg c2]
  by_cases c3 : hnd s i = 92
  rotate_left
  ·rw [if_neg c3, if_neg c3]
   have hlt := hnd_pos (s := s) (i := i) (c := hnd s i) rfl (by omega)
   cases hz : nxt s i with
   | none => rfl
   | some z =>
    have hzp := nxt_pos hz
    have hzs := nxt_in hz hlt
    exact ih _ _ _ _ (by omega) hzs (by omega) (by omega)
  have hlt := hnd_pos c3 (by omega)
  rw [if_pos c3, if_pos c3]
  unfold escape
  cases hv : escV (hnd s (i + 1)) with
  | some v =>
   have hvs := escV_some hv
   have hl2 := hnd_pos (s := s) (i := i + 1) (c := hnd s (i + 1)) rfl (by omega)
   rw [show escR s (i + 1) = .ok v (i + 1 + 1) by unfold escR; rw [hv]]
   show (if 55296 ≤ v ∧ v ≤ 56319 then _ else _) = txt s g' (i + 1 + 1) (acc ++ Lib.encodeRune (v : Nat))
   rw [if_neg (by omega), if_neg (by omega)]
   exact ih _ _ _ _ (by omega) hl2 (by omega) (by omega)
  | none =>
   rw [show escR s (i + 1) = unit s (i + 1) by unfold escR; rw [hv]]
   show _ = ((unit s (i + 1)).bind fun u j => escU s u j).bind _
   cases hu : unit s (i + 1) with
   | bad k c => rfl
   | ok u k =>
    have hk := unit_lt hu
    have hks : k ≤ s.size := by
     have := unit_sn (s := s) (i := i + 1) hlt
     rw [hu] at this
     exact this.2
    show (if 55296 ≤ u ∧ u ≤ 56319 then _ else _) = (escU s u k).bind _
    unfold escU
    by_cases c4 : 55296 ≤ u ∧ u ≤ 56319
    rotate_left
    ·rw [if_neg c4]
     by_cases c5 : 56320 ≤ u ∧ u ≤ 57343
     rotate_left
     ·rw [if_neg c5, if_neg (by omega)]
      show _ = txt s g' k (acc ++ Lib.encodeRune (u : Nat))
      exact ih _ _ _ _ (by omega) hks (by omega) (by omega)
     have hp : ¬ pairB s k u = true := by
      rw [pairB_eq]
      unfold pairH
      split
      ·cases hx : hexN s 4 (k + 2) 0 with
       | bad q c => simp
       | ok m q =>
        show ¬ (joined u m != 65533) = true
        have : joined u m = 65533 := by unfold joined; rw [if_pos (by omega)]
        rw [this]
        decide
      ·simp
     rw [if_pos c5, if_pos ⟨by omega, by omega⟩, if_neg hp]
     show _ = txt s g' k (acc ++ Lib.encodeRune (65533 : Nat))
     rw [show Lib.encodeRune ((65533 : Nat) : Int) = fffd by decide]
     exact ih _ _ _ _ (by omega) hks (by omega) (by omega)
    rw [if_pos c4, if_pos ⟨c4.1, by omega⟩]
    obtain ⟨g2, rfl⟩ : ∃ g2, g = g2 + 1 := ⟨g - 1, by omega⟩
    rw [rtxt_high c4.1 (by omega)]
    by_cases hp : pairB s k u = true
    ·rw [if_pos hp, if_pos hp]
     obtain ⟨l, hl⟩ := pair_unit hp
     have hin := pair_in hp
     rw [hl]
     show rtxt s g2 (k + 6) (acc ++ Lib.encodeRune (joined u l : Nat)) 0 = txt s g' (k + 6) (acc ++ Lib.encodeRune (joined u l : Nat))
     exact ih _ _ _ _ (by omega) hin (by omega) (by omega)
    ·rw [if_neg hp, if_neg hp]
     show _ = txt s g' k (acc ++ Lib.encodeRune (65533 : Nat))
     rw [show Lib.encodeRune ((65533 : Nat) : Int) = fffd by decide]
     exact ih _ _ _ _ (by omega) hks (by omega) (by omega)
theorem rnext (s : ByteArray) (i : Nat) (w : World) (hs : s.size ≤ 140737488351232) (hi : i < s.size) : Calls Tryd.prog 41 #[.string s, .int .i64 i] w fun e w' => NxO (Utf8.decode s i) e ∧ Below w.heap.size w w' := by
 obtain ⟨k, hk⟩ := XRef01.next s i hi hs
 have h := hk k (Nat.le_refl _)
 unfold XRef01.nx XRef01.nxN at h
 unfold NxO
 by_cases hb : (Utf8.decode s i).1 = 65533 ∧ (Utf8.decode s i).2 = 1
 ·rw [if_pos hb] at h ⊢
  exact glossatorref01_Next.calls k s i _ _ _ w h
 ·rw [if_neg hb] at h ⊢
  exact glossatorref01_Next.calls k s i _ _ _ w h
theorem enc_eq (r : Nat) (h : r < 55296 ∨ (57344 ≤ r ∧ r < 1114112)) : (Utf8.encode (r : Int)).data.toList = Lib.encodeRune (r : Int) := by
 have v : Utf8.valid (r : Int) = true := by simp [Utf8.valid]; omega
 unfold Utf8.encode Lib.encodeRune
 simp only [v, if_true, Int.toNat_natCast]
 by_cases h1 : r < 128
 ·rw [if_pos h1, Lib.encodeRuneZ_one (by omega) (by omega)]; rfl
 rw [if_neg h1]
 by_cases h2 : r < 2048
 ·rw [if_pos h2, Lib.encodeRuneZ_two (by omega) (by omega)]
  simp only [List.map_cons, List.map_nil]
  rw [show (192 + (r : Int) / 64).toNat = 192 + r / 64 by omega, show (128 + (r : Int) % 64).toNat = 128 + r % 64 by omega]
  try rfl
 rw [if_neg h2]
 by_cases h3 : r < 65536
 ·rw [if_pos h3, Lib.encodeRuneZ_three (by omega)]
  simp only [List.map_cons, List.map_nil]
  rw [show (224 + (r : Int) / 4096).toNat = 224 + r / 4096 by omega, show (128 + (r : Int) / 64 % 64).toNat = 128 + r / 64 % 64 by omega, show (128 + (r : Int) % 64).toNat = 128 + r % 64 by omega]
  try rfl
 rw [if_neg h3, Lib.encodeRuneZ_four (by omega) (by omega)]
 simp only [List.map_cons, List.map_nil]
 rw [show (240 + (r : Int) / 262144).toNat = 240 + r / 262144 by omega, show (128 + (r : Int) / 4096 % 64).toNat = 128 + r / 4096 % 64 by omega, show (128 + (r : Int) / 64 % 64).toNat = 128 + r / 64 % 64 by omega, show (128 + (r : Int) % 64).toNat = 128 + r % 64 by omega]
 try rfl
theorem enc_size (r : Int) : (Utf8.encode r).size ≤ 4 := by
 unfold Utf8.encode
 simp only []
 repeat' split
 all_goals simp [ByteArray.size]
theorem escR_lt {s : ByteArray} {i u k : Nat} (h : escR s i = .ok u k) : u < 65536 ∧ i < k := by
 unfold escR at h
 cases hv : escV (hnd s i) with
 | some v =>
  rw [hv] at h
  injection h with h1 h2
  have := escV_some hv
  omega
 | none =>
  rw [hv] at h
  have := unit_lt h
  omega
theorem RSt.setA {B : Nat} {s : ByteArray} {i : Nat} {e : Int} {w : World} (h : RSt B s i e w) (z : Nat) : RSt B s (i + z) e (w.setCell ⟨B, 1, none⟩ (.int .i64 ((i : Int) + (z : Int)))) := blk_put h 1 _ rfl
def VA4 (x : Value) (_ : World) : Prop := ∃ o : ByteArray, x = .string o
set_option maxRecDepth 100000 in
set_option maxHeartbeats 4000000 in
theorem glossatorref03_state_text.calls (B : Nat) (s : ByteArray) (i : Nat) (w : World) (hR : RSt B s i 0 w) (hs : s.size ≤ 262144) (hi : hnd s i = 34) :
  Calls Tryd.prog 28 #[.pointer (some ⟨B, 0, none⟩)] w (RO B s VT VA4 w (text s i)) := by
 have hlt := hnd_pos hi (by omega)
 have hsz : s.size ≤ 140737488351232 := by omega
 have HR := Aside0.mk hR; obtain ⟨R, hRes⟩ : ∃ R, R = text s i := ⟨_, rfl⟩
 have HRes := Aside0.mk (show rtxt s (s.size + 1) (i + 1) [] 0 = R by rw [hRes]; unfold text; exact rtxt_eq s.size _ _ _ _ (by omega) hlt (by omega) (by omega))
 have hT := glossatorref03_state_take.calls B s i 34 (by decide) w hR hsz (by omega)
 rw [show wd s [34] i = .ok () (i + 1) by rw [wd_cons, if_pos hi]; rfl] at hT
 have HT := Aside0.mk hT; have HES := Aside0.mk (fun (j : Nat) (w' : World) (h : RSt B s j 0 w') (hj : j ≤ s.size) => glossatorref03_state_escape.calls B s j w' h hsz hj)
 rw [← hRes]
 clear hT hR hRes hi; go_enter Tryd.func28, Tryd.ntmps28
 go_wp2_with (go_at_call 39; refine HT.out.mono ?_; intro e w1 ho; obtain ⟨x, rfl, rfl, hi1, hr, hk⟩ := ho.ok_; have HR1 := Aside0.mk hr; have HK1 := Aside0.mk hk; clear ho hr hk)
 go_loopg [3, 4] (s.size + 1) (fun kq t3 t4 w' => ∃ (j : Nat) (er : Int) (o : ByteArray) (h : Nat), t3 = .string o ∧ t4 = .int .i64 h ∧ Aside0 ((er = 0 ∧ j ≤ s.size ∧ s.size < j + kq ∧ o.size ≤ 8 * j ∧ (h = 0 ∨ 55296 ≤ h ∧ h < 56320) ∧ rtxt s kq j o.data.toList h = R) ∨ (er ≠ 0 ∧ R = .bad j er)) ∧ Aside0 (RSt B s j er w') ∧ Aside0 (Kp B w w'))
 case atStart => exact ⟨i + 1, 0, ⟨#[]⟩, 0, rfl, rfl, ⟨.inl ⟨rfl, hi1, by omega, Nat.zero_le _, .inl rfl, HRes.out⟩⟩, HR1, HK1⟩
 case round =>
  clear HR1 HK1 HRes HT HR hi1 hlt; obtain ⟨j, er, o, h, rfl, rfl, HW, HR, HK⟩ := hrel
  have c0 := HR.out.c0
  have c1 := HR.out.c1
  have c2 := HR.out.c2
  have f1 := HR.out.fr1
  have f2 := HR.out.fr2
  rcases HW.out with ⟨rfl, hj, hk, ho, hh, hX⟩ | ⟨he, hX⟩
  ·obtain ⟨f, rfl⟩ : ∃ f, gk = f + 1 := ⟨gk - 1, by omega⟩
   rw [rtxt] at hX
   clear HW; have HK2 := Aside0.mk hk; have HH := Aside0.mk hh; have HO := Aside0.mk ho; clear hk hh ho; by_cases hsm : hnd s j < 32
   ·rw [if_neg (by omega), if_pos hsm] at hX
    have H1 := Aside0.mk hX; clear hX; by_cases hl : j < s.size
    ·have t1 : decide ((s.size : Int) ≤ (j : Int)) = false := decide_eq_false (by omega)
     have hE : hnd s j = s[j].toNat := by simp [hnd, hl]
     have t2 : decide ((s[j].toNat : Int) < 32) = true := by rw [← hE]; exact decide_eq_true (by omega)
     clear hE hsm; as_aux_lemma =>
      go_wp2
      go_quiet (fail)
      go_wp2
      go_ret
      rw [← H1.out]
      exact ⟨_, rfl, ⟨_, rfl⟩, by decide, (HR.out.drewN _).setE 30, (HK.out.drewN _).set _ _⟩
    ·have t1 : decide ((s.size : Int) ≤ (j : Int)) = true := decide_eq_true (by omega)
     clear hsm; as_aux_lemma =>
      go_wp2
      go_quiet (fail)
      go_wp2
      go_ret
      rw [← H1.out]
      exact ⟨_, rfl, ⟨_, rfl⟩, by decide, (HR.out.drewN _).setE 30, (HK.out.drewN _).set _ _⟩
   have hl : j < s.size := hnd_pos (c := hnd s j) rfl (by omega)
   have t1 : decide ((s.size : Int) ≤ (j : Int)) = false := decide_eq_false (by omega)
   obtain ⟨c, hc⟩ : ∃ c : Nat, c = s[j].toNat := ⟨_, rfl⟩
   have hE : hnd s j = c := by rw [hc]; simp [hnd, hl]
   have t2 : decide ((s[j].toNat : Int) < 32) = false := by rw [← hc, ← hE]; exact decide_eq_false (by omega)
   have HC := Aside0.mk hc; clear hc; by_cases h34 : hnd s j = 34
   ·rw [if_pos h34] at hX
    have t3 : ((s[j].toNat : Int) == 34) = true := by rw [← HC.out, ← hE, h34]; rfl
    clear hE h34 hsm; rcases HH.out with rfl | ⟨ha, hb⟩
    ·have H1 := Aside0.mk hX; clear hX; as_aux_lemma =>
      go_wp2
      go_quiet (fail)
      go_wp2
      go_quiet (fail)
      go_wp2
      go_ret
      rw [← H1.out]
      exact ⟨_, rfl, rfl, hl, RSt.set1 (i := j) (HR.out.drewN _), (HK.out.drewN _).set _ _⟩
    ·rw [if_pos (show 0 < h by omega)] at hX
     have H1 := Aside0.mk hX; have t4 : decide ((0 : Int) < (h : Int)) = true := decide_eq_true (by omega)
     have ho := HO.out
     have sa0 : (9223372036854775807 < o.size + 3) = False := eq_false (by omega)
     have sa1 : (o.size + 3 ≤ 9223372036854775807) = True := eq_true (by omega)
     have sb0 : ((9223372036854775807 : Int) < (o.size : Int) + 3) = False := eq_false (by omega)
     have sb1 : ((o.size : Int) + 3 ≤ (9223372036854775807 : Int)) = True := eq_true (by omega)
     clear hX; as_aux_lemma =>
      go_wp2
      go_quiet (fail)
      go_wp2
      go_quiet (fail)
      go_wp2
      go_ret
      rw [← H1.out]
      exact ⟨_, rfl, congrArg Value.string (ByteArray.ext (by simp [fffd]) : o ++ _ = _), hl, RSt.set1 (i := j) (HR.out.drewN _), (HK.out.drewN _).set _ _⟩
   rw [if_neg h34, if_neg hsm] at hX
   have t3 : ((s[j].toNat : Int) == 34) = false := by rw [← HC.out]; exact neI _ _ (by omega)
   by_cases h92 : hnd s j = 92
   ·rw [if_pos h92] at hX
    have t4 : ((s[j].toNat : Int) == 92) = true := by rw [← HC.out, ← hE, h92]; rfl
    clear hE h92 h34 hsm; cases he : escR s (j + 1) with
    | bad k c =>
     have H1 := Aside0.mk (show Res.bad k c = R by rw [← hX, he]; rfl)
     have HEQ := Aside0.mk he; clear hX he; have ho := HO.out
     have so : o.size ≤ 3000000 := by omega
     have e0 : Utf8.encode 0 = ⟨#[0]⟩ := rfl
     rcases HH.out with rfl | ⟨ha, hb⟩
     ·have sa0 : (9223372036854775807 < o.size + 1) = False := eq_false (by omega)
      have sa1 : (o.size + 1 ≤ 9223372036854775807) = True := eq_true (by omega)
      have sa2 : ((9223372036854775807 : Int) < (o.size : Int) + 1) = False := eq_false (by omega)
      have sa3 : ((o.size : Int) + 1 ≤ (9223372036854775807 : Int)) = True := eq_true (by omega)
      as_aux_lemma =>
       go_wp2
       go_quiet (fail)
       go_wp2
       go_quiet (fail)
       go_wp2_with (go_at_call 40; refine (HES.out (j + 1) _ (by exact RSt.set1 (i := j) (HR.out.drewN _)) hl).mono ?_; intro e w2 ho; rw [HEQ.out] at ho; obtain ⟨x, rfl, rfl, hm, hr, hk⟩ := ho.bad_; have n0_ := Aside0.mk hm; have n1_ := Aside0.mk hr; have n2_ := Aside0.mk (((HK.out.drewN _).set _ _).trans hk); clear ho hr hk hm)
       go_roundg f
       case measure => omega
       case rel => exact ⟨k, c, _, 0, rfl, rfl, ⟨.inr ⟨n0_.out, H1.out.symm⟩⟩, n1_, n2_⟩
     ·have t5 : decide ((0 : Int) < (h : Int)) = true := decide_eq_true (by omega)
      have sa0 : (9223372036854775807 < o.size + 3) = False := eq_false (by omega)
      have sa1 : (o.size + 3 ≤ 9223372036854775807) = True := eq_true (by omega)
      have sa2 : ((9223372036854775807 : Int) < (o.size : Int) + 3) = False := eq_false (by omega)
      have sa3 : ((o.size : Int) + 3 ≤ (9223372036854775807 : Int)) = True := eq_true (by omega)
      have sb0 : (9223372036854775807 < o.size + 3 + 1) = False := eq_false (by omega)
      have sb1 : (o.size + 3 + 1 ≤ 9223372036854775807) = True := eq_true (by omega)
      have sb2 : ((9223372036854775807 : Int) < (o.size : Int) + 3 + 1) = False := eq_false (by omega)
      have sb3 : ((o.size : Int) + 3 + 1 ≤ (9223372036854775807 : Int)) = True := eq_true (by omega)
      as_aux_lemma =>
       go_wp2
       go_quiet (fail)
       go_wp2
       go_quiet (fail)
       go_wp2_with (go_at_call 40; refine (HES.out (j + 1) _ (by exact RSt.set1 (i := j) (HR.out.drewN _)) hl).mono ?_; intro e w2 ho; rw [HEQ.out] at ho; obtain ⟨x, rfl, rfl, hm, hr, hk⟩ := ho.bad_; have n0_ := Aside0.mk hm; have n1_ := Aside0.mk hr; have n2_ := Aside0.mk (((HK.out.drewN _).set _ _).trans hk); clear ho hr hk hm)
       go_roundg f
       case measure => omega
       case rel => exact ⟨k, c, _, 0, rfl, rfl, ⟨.inr ⟨n0_.out, H1.out.symm⟩⟩, n1_, n2_⟩
    | ok u k =>
     have hlt2 := escR_lt he
     have HEQ := Aside0.mk he; have hu := hlt2.1
     have HK3 := Aside0.mk hlt2.2; have ho := HO.out
     have so : o.size ≤ 3000000 := by omega
     rw [he] at hX
     have hX2 := show (if 0 < h ∧ 56320 ≤ u ∧ u ≤ 57343 then rtxt s f k (o.data.toList ++ Lib.encodeRune (joined h u : Nat)) 0 else if 55296 ≤ u ∧ u ≤ 56319 then rtxt s f k (if 0 < h then o.data.toList ++ fffd else o.data.toList) u else if 56320 ≤ u ∧ u ≤ 57343 then rtxt s f k ((if 0 < h then o.data.toList ++ fffd else o.data.toList) ++ fffd) 0 else rtxt s f k ((if 0 < h then o.data.toList ++ fffd else o.data.toList) ++ Lib.encodeRune (u : Nat)) 0) = R from hX
     clear hX he hlt2; have hfl := HK2.out
     have hkj := HK3.out
     rcases HH.out with rfl | ⟨ha, hb⟩
     ·rw [if_neg (fun e => absurd e.1 (Nat.lt_irrefl 0)), if_neg (Nat.lt_irrefl 0)] at hX2
      by_cases g1 : 55296 ≤ u ∧ u ≤ 56319
      ·rw [if_pos g1] at hX2
       have H1 := Aside0.mk hX2; have a1 : decide ((u : Int) < 0) = false := decide_eq_false (by omega)
       have a2 : decide ((55296 : Int) ≤ (u : Int)) = true := decide_eq_true (by omega)
       have a3 : decide ((u : Int) ≤ 56319) = true := decide_eq_true (by omega)
       have HU := Aside0.mk (show 55296 ≤ u ∧ u < 56320 by omega)
       clear hX2 g1; as_aux_lemma =>
        go_wp2
        go_quiet (fail)
        go_wp2
        go_quiet (fail)
        go_wp2_with (go_at_call 40; refine (HES.out (j + 1) _ (by exact RSt.set1 (i := j) (HR.out.drewN _)) hl).mono ?_; intro e w2 ho; rw [HEQ.out] at ho; obtain ⟨x, rfl, rfl, hm, hr, hk⟩ := ho.ok_; have n0_ := Aside0.mk hm; have n1_ := Aside0.mk hr; have n2_ := Aside0.mk (((HK.out.drewN _).set _ _).trans hk); clear ho hr hk hm)
        go_roundg f
        case measure => omega
        case rel => exact ⟨k, 0, o, u, rfl, rfl, ⟨.inl ⟨rfl, n0_.out, by omega, by omega, .inr HU.out, H1.out⟩⟩, n1_, n2_⟩
      rw [if_neg g1] at hX2
      by_cases g2 : 56320 ≤ u ∧ u ≤ 57343
      ·rw [if_pos g2] at hX2
       have H1 := Aside0.mk hX2; have a1 : decide ((u : Int) < 0) = false := decide_eq_false (by omega)
       have a2 : decide ((55296 : Int) ≤ (u : Int)) = true := decide_eq_true (by omega)
       have a3 : decide ((u : Int) ≤ 56319) = false := decide_eq_false (by omega)
       have a4 : decide ((56320 : Int) ≤ (u : Int)) = true := decide_eq_true (by omega)
       have a5 : decide ((u : Int) ≤ 57343) = true := decide_eq_true (by omega)
       have sa0 : (9223372036854775807 < o.size + 3) = False := eq_false (by omega)
       have sa1 : (o.size + 3 ≤ 9223372036854775807) = True := eq_true (by omega)
       have sa2 : ((9223372036854775807 : Int) < (o.size : Int) + 3) = False := eq_false (by omega)
       have sa3 : ((o.size : Int) + 3 ≤ (9223372036854775807 : Int)) = True := eq_true (by omega)
       clear hX2 g1 g2; as_aux_lemma =>
        go_wp2
        go_quiet (fail)
        go_wp2
        go_quiet (fail)
        go_wp2_with (go_at_call 40; refine (HES.out (j + 1) _ (by exact RSt.set1 (i := j) (HR.out.drewN _)) hl).mono ?_; intro e w2 ho; rw [HEQ.out] at ho; obtain ⟨x, rfl, rfl, hm, hr, hk⟩ := ho.ok_; have n0_ := Aside0.mk hm; have n1_ := Aside0.mk hr; have n2_ := Aside0.mk (((HK.out.drewN _).set _ _).trans hk); clear ho hr hk hm)
        go_roundg f
        case measure => omega
        case rel => exact ⟨k, 0, _, 0, rfl, rfl, ⟨.inl ⟨rfl, n0_.out, by omega, by rw [ByteArray.size_append]; show o.size + 3 ≤ _; omega, .inl rfl, by rw [← H1.out]; congr 1⟩⟩, n1_, n2_⟩
      rw [if_neg g2] at hX2
      have H1 := Aside0.mk hX2; have a1 : decide ((u : Int) < 0) = false := decide_eq_false (by omega)
      have HEN := Aside0.mk (enc_eq u (by omega))
      obtain ⟨en, hen⟩ : ∃ en, en = Utf8.encode (u : Int) := ⟨_, rfl⟩
      have HEN2 := Aside0.mk hen; have SN := Aside0.mk (show en.size ≤ 4 by rw [hen]; exact enc_size _)
      have hen2 : Utf8.encode (wrap32 (u : Int)) = en := by rw [hen]; congr 1; unfold wrap32; omega
      clear hu; clear hX2 hen; by_cases g3 : 55296 ≤ u
      ·have a2 : decide ((55296 : Int) ≤ (u : Int)) = true := decide_eq_true (by omega)
       have a3 : decide ((u : Int) ≤ 56319) = false := decide_eq_false (by omega)
       have a4 : decide ((56320 : Int) ≤ (u : Int)) = true := decide_eq_true (by omega)
       have a5 : decide ((u : Int) ≤ 57343) = false := decide_eq_false (by omega)
       clear g1 g2 g3; have hsn := SN.out
       as_aux_lemma =>
        go_wp2
        go_quiet (fail)
        go_wp2
        go_quiet (fail)
        go_wp2_with (go_at_call 40; refine (HES.out (j + 1) _ (by exact RSt.set1 (i := j) (HR.out.drewN _)) hl).mono ?_; intro e w2 ho; rw [HEQ.out] at ho; obtain ⟨x, rfl, rfl, hm, hr, hk⟩ := ho.ok_; have n0_ := Aside0.mk hm; have n1_ := Aside0.mk hr; have n2_ := Aside0.mk (((HK.out.drewN _).set _ _).trans hk); clear ho hr hk hm)
        go_roundg f
        case measure => omega
        case rel => exact ⟨k, 0, _, 0, rfl, rfl, ⟨.inl ⟨rfl, n0_.out, by omega, by rw [ByteArray.size_append]; have := SN.out; omega, .inl rfl, by rw [← H1.out, ByteArray.data_append, Array.toList_append, HEN2.out, HEN.out]⟩⟩, n1_, n2_⟩
      ·have a2 : decide ((55296 : Int) ≤ (u : Int)) = false := decide_eq_false (by omega)
       have a4 : decide ((56320 : Int) ≤ (u : Int)) = false := decide_eq_false (by omega)
       clear g1 g2 g3; have hsn := SN.out
       as_aux_lemma =>
        go_wp2
        go_quiet (fail)
        go_wp2
        go_quiet (fail)
        go_wp2_with (go_at_call 40; refine (HES.out (j + 1) _ (by exact RSt.set1 (i := j) (HR.out.drewN _)) hl).mono ?_; intro e w2 ho; rw [HEQ.out] at ho; obtain ⟨x, rfl, rfl, hm, hr, hk⟩ := ho.ok_; have n0_ := Aside0.mk hm; have n1_ := Aside0.mk hr; have n2_ := Aside0.mk (((HK.out.drewN _).set _ _).trans hk); clear ho hr hk hm)
        go_roundg f
        case measure => omega
        case rel => exact ⟨k, 0, _, 0, rfl, rfl, ⟨.inl ⟨rfl, n0_.out, by omega, by rw [ByteArray.size_append]; have := SN.out; omega, .inl rfl, by rw [← H1.out, ByteArray.data_append, Array.toList_append, HEN2.out, HEN.out]⟩⟩, n1_, n2_⟩
     ·have h0 : 0 < h := by omega
      have t5 : decide ((0 : Int) < (h : Int)) = true := decide_eq_true (by omega)
      by_cases g2 : 56320 ≤ u ∧ u ≤ 57343
      ·rw [if_pos ⟨h0, g2⟩] at hX2
       have H1 := Aside0.mk hX2; have a4 : decide ((56320 : Int) ≤ (u : Int)) = true := decide_eq_true (by omega)
       have a5 : decide ((u : Int) ≤ 57343) = true := decide_eq_true (by omega)
       have hjw := joined_w h u ha hb g2.1 (by omega)
       have hjl : 65536 ≤ joined h u ∧ joined h u < 1114112 := by omega
       have HEN := Aside0.mk (enc_eq (joined h u) (by omega))
       obtain ⟨en, hen⟩ : ∃ en, en = Utf8.encode (joined h u : Int) := ⟨_, rfl⟩
       have HEN2 := Aside0.mk hen; have SN := Aside0.mk (show en.size ≤ 4 by rw [hen]; exact enc_size _)
       have HWW := Aside0.mk (show wrap64 (wrap64 (wrap64 (65536 + wrap64 (wrap64 ((h : Int) - 55296) * 1024)) + (u : Int)) - 56320) = (joined h u : Int) by rw [hjw]; unfold wrap64; omega)
       have HJW := Aside0.mk hjw; have HHH := Aside0.mk (And.intro ha hb)
       have HUU := Aside0.mk g2; have HEN3 := Aside0.mk hen.symm; clear hX2 hen hu g2 hjw hjl ha hb; as_aux_lemma =>
        go_wp2
        go_quiet (fail)
        go_wp2
        go_quiet (fail)
        go_upto_region 25 with (go_at_call 40; refine (HES.out (j + 1) _ (by exact RSt.set1 (i := j) (HR.out.drewN _)) hl).mono ?_; intro e w2 ho; rw [HEQ.out] at ho; obtain ⟨x, rfl, rfl, hm, hr, hk⟩ := ho.ok_; have n0_ := Aside0.mk hm; have n1_ := Aside0.mk hr; have n2_ := Aside0.mk (((HK.out.drewN _).set _ _).trans hk); clear ho hr hk hm)
        have HEN4 := Aside0.mk (show Utf8.encode (wrap32 (wrap64 (wrap64 (wrap64 (65536 + wrap64 (wrap64 ((h : Int) - 55296) * 1024)) + (u : Int)) - 56320))) = en by rw [HWW.out, HEN2.out]; congr 1; have := HJW.out; have := HHH.out; have := HUU.out; unfold wrap32; omega)
        have hes2 := enc_size (wrap32 (wrap64 (wrap64 (wrap64 (65536 + wrap64 (wrap64 ((h : Int) - 55296) * 1024)) + (u : Int)) - 56320)))
        go_upto_region 26 with (fail)
        clear hes2; rw [HEN4.out]
        go_wp2
        go_roundg f
        case measure => omega
        case rel => exact ⟨k, 0, _, 0, rfl, rfl, ⟨.inl ⟨rfl, n0_.out, by omega, by rw [ByteArray.size_append]; have := SN.out; omega, .inl rfl, by rw [← H1.out, ByteArray.data_append, Array.toList_append, HEN2.out, HEN.out]⟩⟩, n1_, n2_⟩
      rw [if_neg (fun e => g2 e.2), if_pos h0] at hX2
      by_cases g1 : 55296 ≤ u ∧ u ≤ 56319
      ·rw [if_pos g1] at hX2
       have H1 := Aside0.mk hX2; have a1 : decide ((u : Int) < 0) = false := decide_eq_false (by omega)
       have a2 : decide ((55296 : Int) ≤ (u : Int)) = true := decide_eq_true (by omega)
       have a3 : decide ((u : Int) ≤ 56319) = true := decide_eq_true (by omega)
       have a4 : decide ((56320 : Int) ≤ (u : Int)) = false := decide_eq_false (by omega)
       have HU := Aside0.mk (show 55296 ≤ u ∧ u < 56320 by omega)
       have sa0 : (9223372036854775807 < o.size + 3) = False := eq_false (by omega)
       have sa1 : (o.size + 3 ≤ 9223372036854775807) = True := eq_true (by omega)
       have sa2 : ((9223372036854775807 : Int) < (o.size : Int) + 3) = False := eq_false (by omega)
       have sa3 : ((o.size : Int) + 3 ≤ (9223372036854775807 : Int)) = True := eq_true (by omega)
       clear hX2 g1 g2 hu; as_aux_lemma =>
        go_wp2
        go_quiet (fail)
        go_wp2
        go_quiet (fail)
        go_wp2_with (go_at_call 40; refine (HES.out (j + 1) _ (by exact RSt.set1 (i := j) (HR.out.drewN _)) hl).mono ?_; intro e w2 ho; rw [HEQ.out] at ho; obtain ⟨x, rfl, rfl, hm, hr, hk⟩ := ho.ok_; have n0_ := Aside0.mk hm; have n1_ := Aside0.mk hr; have n2_ := Aside0.mk (((HK.out.drewN _).set _ _).trans hk); clear ho hr hk hm)
        go_roundg f
        case measure => omega
        case rel => exact ⟨k, 0, _, u, rfl, rfl, ⟨.inl ⟨rfl, n0_.out, by omega, by rw [ByteArray.size_append]; show o.size + 3 ≤ _; omega, .inr HU.out, by rw [← H1.out]; congr 1⟩⟩, n1_, n2_⟩
      rw [if_neg g1, if_neg g2] at hX2
      have H1 := Aside0.mk hX2; have a1 : decide ((u : Int) < 0) = false := decide_eq_false (by omega)
      have HEN := Aside0.mk (enc_eq u (by omega))
      obtain ⟨en, hen⟩ : ∃ en, en = Utf8.encode (u : Int) := ⟨_, rfl⟩
      have HEN2 := Aside0.mk hen; have SN := Aside0.mk (show en.size ≤ 4 by rw [hen]; exact enc_size _)
      have hen2 : Utf8.encode (wrap32 (u : Int)) = en := by rw [hen]; congr 1; unfold wrap32; omega
      have sa0 : (9223372036854775807 < o.size + 3) = False := eq_false (by omega)
      have sa1 : (o.size + 3 ≤ 9223372036854775807) = True := eq_true (by omega)
      have sa2 : ((9223372036854775807 : Int) < (o.size : Int) + 3) = False := eq_false (by omega)
      have sa3 : ((o.size : Int) + 3 ≤ (9223372036854775807 : Int)) = True := eq_true (by omega)
      clear hX2 hen hu; by_cases g3 : 55296 ≤ u
      ·have a2 : decide ((55296 : Int) ≤ (u : Int)) = true := decide_eq_true (by omega)
       have a3 : decide ((u : Int) ≤ 56319) = false := decide_eq_false (by omega)
       have a4 : decide ((56320 : Int) ≤ (u : Int)) = true := decide_eq_true (by omega)
       have a5 : decide ((u : Int) ≤ 57343) = false := decide_eq_false (by omega)
       clear g1 g2 g3; have hsn := SN.out
       as_aux_lemma =>
        go_wp2
        go_quiet (fail)
        go_wp2
        go_quiet (fail)
        go_wp2_with (go_at_call 40; refine (HES.out (j + 1) _ (by exact RSt.set1 (i := j) (HR.out.drewN _)) hl).mono ?_; intro e w2 ho; rw [HEQ.out] at ho; obtain ⟨x, rfl, rfl, hm, hr, hk⟩ := ho.ok_; have n0_ := Aside0.mk hm; have n1_ := Aside0.mk hr; have n2_ := Aside0.mk (((HK.out.drewN _).set _ _).trans hk); clear ho hr hk hm)
        go_roundg f
        case measure => omega
        case rel => exact ⟨k, 0, _, 0, rfl, rfl, ⟨.inl ⟨rfl, n0_.out, by omega, by rw [ByteArray.size_append, ByteArray.size_append]; show o.size + 3 + en.size ≤ _; have := SN.out; omega, .inl rfl, by rw [← H1.out, ByteArray.data_append, Array.toList_append, ByteArray.data_append, Array.toList_append, HEN2.out, HEN.out]; rfl⟩⟩, n1_, n2_⟩
      ·have a2 : decide ((55296 : Int) ≤ (u : Int)) = false := decide_eq_false (by omega)
       have a4 : decide ((56320 : Int) ≤ (u : Int)) = false := decide_eq_false (by omega)
       clear g1 g2 g3; have hsn := SN.out
       as_aux_lemma =>
        go_wp2
        go_quiet (fail)
        go_wp2
        go_quiet (fail)
        go_wp2_with (go_at_call 40; refine (HES.out (j + 1) _ (by exact RSt.set1 (i := j) (HR.out.drewN _)) hl).mono ?_; intro e w2 ho; rw [HEQ.out] at ho; obtain ⟨x, rfl, rfl, hm, hr, hk⟩ := ho.ok_; have n0_ := Aside0.mk hm; have n1_ := Aside0.mk hr; have n2_ := Aside0.mk (((HK.out.drewN _).set _ _).trans hk); clear ho hr hk hm)
        go_roundg f
        case measure => omega
        case rel => exact ⟨k, 0, _, 0, rfl, rfl, ⟨.inl ⟨rfl, n0_.out, by omega, by rw [ByteArray.size_append, ByteArray.size_append]; show o.size + 3 + en.size ≤ _; have := SN.out; omega, .inl rfl, by rw [← H1.out, ByteArray.data_append, Array.toList_append, ByteArray.data_append, Array.toList_append, HEN2.out, HEN.out]; rfl⟩⟩, n1_, n2_⟩
   rw [if_neg h92] at hX
   have t4 : ((s[j].toNat : Int) == 92) = false := by rw [← HC.out]; exact neI _ _ (by omega)
   clear hE h92 h34 hsm; have hnx := fun (n : Nat) => rnext s j (wr.drewN n) hsz hl
   cases hz : nxt s j with
   | none =>
    rw [hz] at hX
    have hd : (Utf8.decode s j).1 = 65533 ∧ (Utf8.decode s j).2 = 1 := by
     unfold nxt at hz
     split at hz
     ·assumption
     ·cases hz
    have HNX := Aside0.mk (show ∀ n, Calls Tryd.prog 41 #[.string s, .int .i64 j] (wr.drewN n) fun e w' => e = .returned (.tuple #[.int .i32 0, .int .i64 0, .bool false]) ∧ Below (wr.drewN n).heap.size (wr.drewN n) w' from fun n => (hnx n).mono (by
     rintro e w' ⟨he, hb⟩
     unfold NxO at he
     rw [if_pos hd] at he
     exact ⟨he, hb⟩))
    have H1 := Aside0.mk (show Res.bad j 30 = R from hX)
    clear hX hnx hd hz; as_aux_lemma =>
     go_wp2
     go_quiet (fail)
     go_wp2
     go_quiet (fail)
     go_wp2
     go_region_held3 (fun w' => w'.cell? ⟨B, 0, none⟩ = some (.string s) ∧ w'.cell? ⟨B, 1, none⟩ = some (.int .i64 j)) (first | exact ⟨c0n, c1n⟩ | go_keep) (first | (go_at_call 41; refine (HNX.out _).mono ?_; rintro e w1 ⟨rfl, hb⟩; have c0n := pw_cell_below hb c0; have c1n := pw_cell_below hb c1; have HB := Aside0.mk hb; clear hb))
     have HR2 := Aside0.mk (RSt.below (HR.out.drewN _) HB.out)
     have f2' := HR2.out.fr2
     have c2' := HR2.out.c2
     go_wp2
     go_ret
     rw [← H1.out]
     exact ⟨_, rfl, ⟨_, rfl⟩, by decide, HR2.out.setE 30, ((HK.out.drewN _).trans (Kp.of_below HB.out)).set _ _⟩
   | some z =>
    rw [hz] at hX
    obtain ⟨r, hr⟩ : ∃ r, r = (Utf8.decode s j).1 := ⟨_, rfl⟩
    have hd : ¬ ((Utf8.decode s j).1 = 65533 ∧ (Utf8.decode s j).2 = 1) ∧ (Utf8.decode s j).2 = z := by
     unfold nxt at hz
     split at hz
     ·cases hz
     ·injection hz with hz; exact ⟨by assumption, hz⟩
    have hz1 : 1 ≤ z := by rw [← hd.2]; exact Lib.decode_width_pos s j hl
    have hz2 : j + z ≤ s.size := by rw [← hd.2]; exact XUtf.decode_fit s j hl
    have hz4 : (s.extract j (j + z)).size = z := by rw [ByteArray.size_extract]; omega
    obtain ⟨mo, hmo⟩ : ∃ mo, mo = s.extract j (j + z) := ⟨_, rfl⟩
    have HNX := Aside0.mk (show ∀ n, Calls Tryd.prog 41 #[.string s, .int .i64 j] (wr.drewN n) fun e w' => e = .returned (.tuple #[.int .i32 r, .int .i64 z, .bool true]) ∧ Below (wr.drewN n).heap.size (wr.drewN n) w' from fun n => (hnx n).mono (by
     rintro e w' ⟨he, hb⟩
     unfold NxO at he
     rw [if_neg hd.1, hd.2, ← hr] at he
     exact ⟨he, hb⟩))
    have hX4 : rtxt s f (j + z) ((if 0 < h then o.data.toList ++ fffd else o.data.toList) ++ (s.extract j (j + z)).data.toList) 0 = R := hX
    rw [← hmo] at hX4 hz4
    have HX4 := Aside0.mk hX4; clear hX4; have HMO := Aside0.mk hmo; have HZ4 := Aside0.mk hz4; have ho := HO.out
    have so : o.size ≤ 3000000 := by omega
    have hfl := HK2.out
    clear hX hnx hd hz hr hmo hz4; as_aux_lemma =>
     go_wp2
     go_quiet (fail)
     go_wp2
     go_quiet (fail)
     go_wp2
     go_region_held3 (fun w' => w'.cell? ⟨B, 0, none⟩ = some (.string s) ∧ w'.cell? ⟨B, 1, none⟩ = some (.int .i64 j)) (first | exact ⟨c0n, c1n⟩ | go_keep) (first | (go_at_call 41; refine (HNX.out _).mono ?_; rintro e w1 ⟨rfl, hb⟩; have c0n := pw_cell_below hb c0; have c1n := pw_cell_below hb c1; have HB := Aside0.mk hb; clear hb))
     have HR2 := Aside0.mk (RSt.below (HR.out.drewN _) HB.out)
     have HK4 := Aside0.mk ((HK.out.drewN _).trans (Kp.of_below HB.out))
     clear HB HK HR HNX c0 c1 c2 f1 f2 c0n c1n; have c0 := HR2.out.c0
     have c1 := HR2.out.c1
     have c2 := HR2.out.c2
     have f1 := HR2.out.fr1
     go_wp2
     have b1 : (0 : Int) ≤ (j : Int) := by omega
     have b2 : (j : Int) ≤ (j : Int) + (z : Int) := by omega
     have b3 : (j : Int) + (z : Int) ≤ (s.size : Int) := by omega
     have n3 : ((j : Int) + (z : Int)).toNat = j + z := by omega
     have wz : IntKind.i64.wrap ((j : Int) + (z : Int)) = (j : Int) + (z : Int) := IntWalk.i64_in _ (by omega)
     have hmo2 := HMO.out.symm
     go_quiet (fail)
     clear n3 wz; rcases HH.out with rfl | ⟨ha, hb⟩
     ·have H1 := Aside0.mk (show rtxt s f (j + z) (o.data.toList ++ mo.data.toList) 0 = R by rw [← HX4.out, if_neg (Nat.lt_irrefl 0)])
      have hz4 := HZ4.out
      go_wp2
      go_roundg f
      case measure => omega
      case rel => exact ⟨j + z, 0, _, 0, rfl, rfl, ⟨.inl ⟨rfl, hz2, by omega, by rw [ByteArray.size_append]; omega, .inl rfl, by rw [← H1.out, ByteArray.data_append, Array.toList_append]⟩⟩, ⟨RSt.setA (HR2.out.drewN _) z⟩, ⟨(HK4.out.drewN _).set _ _⟩⟩
     ·have t5 : decide ((0 : Int) < (h : Int)) = true := decide_eq_true (by omega)
      have H1 := Aside0.mk (show rtxt s f (j + z) ((o.data.toList ++ fffd) ++ mo.data.toList) 0 = R by rw [← HX4.out, if_pos (show 0 < h by omega)])
      have hz4 := HZ4.out
      have sa0 : (9223372036854775807 < o.size + 3) = False := eq_false (by omega)
      have sa1 : (o.size + 3 ≤ 9223372036854775807) = True := eq_true (by omega)
      have sa2 : ((9223372036854775807 : Int) < (o.size : Int) + 3) = False := eq_false (by omega)
      have sa3 : ((o.size : Int) + 3 ≤ (9223372036854775807 : Int)) = True := eq_true (by omega)
      go_wp2
      go_roundg f
      case measure => omega
      case rel => exact ⟨j + z, 0, _, 0, rfl, rfl, ⟨.inl ⟨rfl, hz2, by omega, by rw [ByteArray.size_append, ByteArray.size_append]; show o.size + 3 + mo.size ≤ _; omega, .inl rfl, by rw [← H1.out, ByteArray.data_append, Array.toList_append, ByteArray.data_append, Array.toList_append]; rfl⟩⟩, ⟨RSt.setA (HR2.out.drewN _) z⟩, ⟨(HK4.out.drewN _).set _ _⟩⟩
  ·have te : (er == 0) = false := by simpa using he
   have H3 := Aside0.mk hX; have HE := Aside0.mk he; clear hX he HW; as_aux_lemma =>
    go_wp2
    go_ret
    rw [H3.out]
    exact ⟨_, rfl, ⟨_, rfl⟩, HE.out, HR.out, HK.out⟩
end Go.Proofs.YtienoadaflmkdaaDoor.Q

end
section
namespace Go.Proofs.YtienoadaflmkdaaDoor.Q
open Go.RowKit Go.Proofs.YtienoadaflmkdaaDoorW.PrintWords Go.Proofs.YtienoadaflmkdaaDoorW.PrintLast Go.Proofs.YtienoadaflmkdaaDoorW.PrintMore
attribute [local go_sem] max2_int min2_int max_two min_two max_three min_three max_four min_four   
set_option linter.unusedVariables false
set_option linter.unusedSimpArgs false
/-- The same words for a state that is right or wrong. -/
def RValU (s : ByteArray) (pv : Nat → Res JV) (deep : Int) : Prop := ∀ (B i : Nat) (er : Int) (w : World), RSt B s i er w → i ≤ s.size → Calls Tryd.prog 17 #[.pointer (some ⟨B, 0, none⟩), .int .i64 deep] w fun e w' => ∃ (x : Value) (v : JV) (k : Nat) (e2 : Int), e = .returned x ∧ VV w.heap.size v x w' ∧ RSt B s k e2 w' ∧ Kp B w w' ∧ ((er = 0 ∧ e2 = 0 ∧ k ≤ s.size ∧ pv i = .ok v k) ∨ (er = 0 ∧ e2 ≠ 0 ∧ pv i = .bad k e2) ∨ (er ≠ 0 ∧ e2 = er ∧ k = i))
theorem u_text (B : Nat) (s : ByteArray) (i : Nat) (w : World) (hR : RSt B s i 0 w) (hs : s.size ≤ 262144) (hi : hnd s i = 34) : Calls Tryd.prog 28 #[.pointer (some ⟨B, 0, none⟩)] w fun e w' => ∃ (o : ByteArray) (k : Nat) (e2 : Int), e = .returned (.string o) ∧ RSt B s k e2 w' ∧ Kp B w w' ∧ ((e2 = 0 ∧ k ≤ s.size ∧ text s i = .ok o.data.toList k) ∨ (e2 ≠ 0 ∧ text s i = .bad k e2)) := by
 refine (glossatorref03_state_text.calls B s i w hR hs hi).mono ?_
 intro e w' ho
 cases ht : text s i with
 | ok l k =>
  rw [ht] at ho
  obtain ⟨x, rfl, rfl, h1, h2, h3⟩ := ho.ok_
  exact ⟨⟨l.toArray⟩, k, 0, rfl, h2, h3, .inl ⟨rfl, h1, by simp⟩⟩
 | bad k c =>
  rw [ht] at ho
  obtain ⟨x, rfl, ⟨o, rfl⟩, h1, h2, h3⟩ := ho.bad_
  exact ⟨o, k, c, rfl, h2, h3, .inr ⟨h1, rfl⟩⟩
theorem u_blanks (B : Nat) (s : ByteArray) (i : Nat) (er : Int) (w : World) (hR : RSt B s i er w) (hs : s.size ≤ 262144) (hi : er = 0 → i ≤ s.size) : Calls Tryd.prog 16 #[.pointer (some ⟨B, 0, none⟩)] w fun e w' => e = .returned (.tuple #[]) ∧ RSt B s (if er = 0 then skip isBl s i else i) er w' ∧ Kp B w w' := by
 by_cases h : er = 0
 ·subst h; refine (glossatorref03_state_blanks.calls B s i w hR (by omega) (hi rfl)).mono ?_
  rintro e w' ⟨rfl, h1, h2⟩
  exact ⟨rfl, by rw [if_pos rfl]; exact h1, h2⟩
 ·refine (glossatorref03_state_blanks.off B s i er h w hR (by omega)).mono ?_
  rintro e w' ⟨rfl, n, rfl⟩
  exact ⟨rfl, by rw [if_neg h]; exact hR, (Kp.refl _ _).drewN n⟩
theorem u_take (B : Nat) (s : ByteArray) (i : Nat) (er : Int) (c : Nat) (hc : c ≠ 0) (w : World) (hR : RSt B s i er w) (hs : s.size ≤ 262144) (hi : er = 0 → i ≤ s.size) : Calls Tryd.prog 39 #[.pointer (some ⟨B, 0, none⟩), .int .u8 c] w fun e w' => ∃ (k : Nat) (e2 : Int), e = .returned (.tuple #[]) ∧ RSt B s k e2 w' ∧ Kp B w w' ∧ ((er = 0 ∧ e2 = 0 ∧ k ≤ s.size ∧ wd s [c] i = .ok () k) ∨ (er = 0 ∧ e2 ≠ 0 ∧ wd s [c] i = .bad k e2) ∨ (er ≠ 0 ∧ e2 = er ∧ k = i)) := by
 by_cases h : er = 0
 ·subst h; refine (glossatorref03_state_take.calls B s i c hc w hR (by omega) (hi rfl)).mono ?_
  intro e w' ho
  cases ht : wd s [c] i with
  | ok l k =>
   rw [ht] at ho
   obtain ⟨x, rfl, rfl, h1, h2, h3⟩ := ho.ok_
   exact ⟨k, 0, rfl, h2, h3, .inl ⟨rfl, rfl, h1, rfl⟩⟩
  | bad k c =>
   rw [ht] at ho
   obtain ⟨x, rfl, rfl, h1, h2, h3⟩ := ho.bad_
   exact ⟨k, c, rfl, h2, h3, .inr (.inl ⟨rfl, h1, rfl⟩)⟩
 ·refine (glossatorref03_state_take.off B s i er h c w hR).mono ?_
  rintro e w' ⟨rfl, rfl⟩
  exact ⟨i, er, rfl, hR, Kp.refl _ _, .inr (.inr ⟨h, rfl, rfl⟩)⟩
theorem obj_end {w W : World} {B N i : Nat} {s : ByteArray} {e : Int} {v3 : Value} {acc : List JF} (hBN : B < N) (hN : w.heap.size ≤ N) (h1 : W.heap[N]? = some (.cells #[.int .u8 0, .string ⟨#[]⟩, .slice none 0 0, .slice none 0 0] 25 (0, 0))) (hr : RSt B s i e W) (hk : Kp B w W) (hrow : Kd.R k38 38 W (N + 2) (fun _ => True) v3 acc) :
  ((((W.setCell ⟨N, 0, none⟩ (.int .u8 6)).setCell ⟨N, 1, none⟩ (.string ⟨#[]⟩)).setCell ⟨N, 2, none⟩ (.slice none 0 0)).setCell ⟨N, 3, none⟩ v3).heap[N]? = some (.cells #[.int .u8 6, .string ⟨#[]⟩, .slice none 0 0, v3] 25 (0, 0)) ∧ RSt B s i e ((((W.setCell ⟨N, 0, none⟩ (.int .u8 6)).setCell ⟨N, 1, none⟩ (.string ⟨#[]⟩)).setCell ⟨N, 2, none⟩ (.slice none 0 0)).setCell ⟨N, 3, none⟩ v3) ∧ Kp B w ((((W.setCell ⟨N, 0, none⟩ (.int .u8 6)).setCell ⟨N, 1, none⟩ (.string ⟨#[]⟩)).setCell ⟨N, 2, none⟩ (.slice none 0 0)).setCell ⟨N, 3, none⟩ v3) ∧ Kd.R k38 38 ((((W.setCell ⟨N, 0, none⟩ (.int .u8 6)).setCell ⟨N, 1, none⟩ (.string ⟨#[]⟩)).setCell ⟨N, 2, none⟩ (.slice none 0 0)).setCell ⟨N, 3, none⟩ v3) N (fun _ => True) v3 acc := by
 refine ⟨put4 h1 _ _ _ _, (put4_far (show B ≠ N by omega) _ _ _ _).trans hr, hk.put4 hN _ _ _ _, Kd.R_lower (rk hrow (fun k hk _ => put4_far (by omega) _ _ _ _)) (by omega)⟩
theorem putF_len (l : List JF) (n : ByteArray) (v : JV) : (putF l n v).length ≤ l.length + 1 := by
 unfold putF
 split
 ·simp
 ·simp
theorem obj_pos {s : ByteArray} {o : ByteArray} {j ka kc : Nat} {ea ec : Int} (hj : j < s.size)
  (ha : (ea = 0 ∧ ka ≤ s.size ∧ text s j = .ok o.data.toList ka) ∨ (ea ≠ 0 ∧ text s j = .bad ka ea))
  (hc : (ea = 0 ∧ ec = 0 ∧ kc ≤ s.size ∧ wd s [58] (if ea = 0 then skip isBl s ka else ka) = .ok () kc) ∨ (ea = 0 ∧ ec ≠ 0 ∧ wd s [58] (if ea = 0 then skip isBl s ka else ka) = .bad kc ec) ∨ (ea ≠ 0 ∧ ec = ea ∧ kc = (if ea = 0 then skip isBl s ka else ka))) : (if ec = 0 then skip isBl s kc else kc) ≤ s.size := by
 have hka : ka ≤ s.size := by
  rcases ha with h | ⟨_, h⟩
  ·exact h.2.1
  ·have := text_sn hj
   rw [h] at this
   exact this.2.1
 have hkc : kc ≤ s.size := by
  rcases hc with h | ⟨h0, _, h⟩ | ⟨h0, _, h⟩
  ·exact h.2.2.1
  ·rw [if_pos h0] at h
   have := wd_sn (s := s) (l := [58]) (i := skip isBl s ka) (by simp) (skip_in hka)
   rw [h] at this
   exact this.2.1
  ·rw [if_neg h0] at h
   omega
 split
 ·exact skip_in hkc
 ·exact hkc
theorem obj_step {s : ByteArray} {pv : Nat → Res JV} {g : Nat} {acc : List JF} {o : ByteArray} {v : JV} {j ka kc ke : Nat} {ea ec ee : Int} {R : Res (List JF)} (hp : ∀ i v j, pv i = .ok v j → i < j) (hX : ((text s j).bind fun l k => fld s pv g acc l k) = R)
  (ha : (ea = 0 ∧ ka ≤ s.size ∧ text s j = .ok o.data.toList ka) ∨ (ea ≠ 0 ∧ text s j = .bad ka ea))
  (hc : (ea = 0 ∧ ec = 0 ∧ kc ≤ s.size ∧ wd s [58] (if ea = 0 then skip isBl s ka else ka) = .ok () kc) ∨ (ea = 0 ∧ ec ≠ 0 ∧ wd s [58] (if ea = 0 then skip isBl s ka else ka) = .bad kc ec) ∨ (ea ≠ 0 ∧ ec = ea ∧ kc = (if ea = 0 then skip isBl s ka else ka)))
  (he : (ec = 0 ∧ ee = 0 ∧ ke ≤ s.size ∧ pv (if ec = 0 then skip isBl s kc else kc) = .ok v ke) ∨ (ec = 0 ∧ ee ≠ 0 ∧ pv (if ec = 0 then skip isBl s kc else kc) = .bad ke ee) ∨ (ec ≠ 0 ∧ ee = ec ∧ ke = (if ec = 0 then skip isBl s kc else kc))) :
  (ee = 0 ∧ ke ≤ s.size ∧ j < ke ∧ obj s pv g (skip isBl s ke) false (putF acc o v) = R) ∨ (ee ≠ 0 ∧ R = .bad ke ee) := by
 rcases ha with ⟨ea0, h1, h2⟩ | ⟨ea0, h2⟩
 ·rw [h2] at hX
  have hX : fld s pv g acc o.data.toList ka = R := hX
  have hta := (text_len h2).2
  rw [if_pos ea0] at hc
  unfold fld at hX
  rcases hc with ⟨_, ec0, h3, h4⟩ | ⟨_, ec0, h4⟩ | ⟨h, _⟩
  ·rw [h4] at hX
   rw [if_pos ec0] at he
   have hw := wd_lt h4
   have k1 := skip_ge (p := isBl) s ka
   have k2 := skip_ge (p := isBl) s kc
   rcases he with ⟨_, ee0, h5, h6⟩ | ⟨_, ee0, h6⟩ | ⟨h, _⟩
   ·have hX : ((pv (skip isBl s kc)).bind fun v n => obj s pv g (skip isBl s n) false (putF acc ⟨o.data.toList.toArray⟩ v)) = R := hX
    rw [h6] at hX
    have h7 := hp _ _ _ h6
    simp only [List.length_cons, List.length_nil] at hw
    refine .inl ⟨ee0, h5, by omega, ?_⟩
    rw [← hX]
    show _ = obj s pv g (skip isBl s ke) false (putF acc ⟨o.data.toList.toArray⟩ v)
    rw [Array.toArray_toList]
   ·have hX : ((pv (skip isBl s kc)).bind fun v n => obj s pv g (skip isBl s n) false (putF acc ⟨o.data.toList.toArray⟩ v)) = R := hX
    rw [h6] at hX
    exact .inr ⟨ee0, hX.symm⟩
   ·exact absurd ec0 h
  ·rw [h4] at hX
   rw [if_neg ec0] at he
   rcases he with ⟨h, _⟩ | ⟨h, _⟩ | ⟨_, h5, h6⟩
   ·exact absurd h ec0
   ·exact absurd h ec0
   ·rw [h5, h6]; exact .inr ⟨ec0, hX.symm⟩
  ·exact absurd ea0 h
 ·rw [h2] at hX
  rw [if_neg ea0] at hc
  rcases hc with ⟨h, _⟩ | ⟨h, _⟩ | ⟨_, h3, h4⟩
  ·exact absurd h ea0
  ·exact absurd h ea0
  ·subst h3 h4
   rw [if_neg ea0] at he
   rcases he with ⟨h, _⟩ | ⟨h, _⟩ | ⟨_, h5, h6⟩
   ·exact absurd h ea0
   ·exact absurd h ea0
   ·rw [h5, h6]; exact .inr ⟨ea0, hX.symm⟩
set_option maxRecDepth 100000 in
set_option maxHeartbeats 4000000 in
theorem glossatorref03_state_object.calls (B : Nat) (s : ByteArray) (i : Nat) (pv : Nat → Res JV) (deep : Int) (hd : 0 ≤ deep ∧ deep ≤ 64) (w : World) (hR : RSt B s i 0 w) (hs : s.size ≤ 262144) (hi : hnd s i = 123) (hV : RValU s pv (deep + 1)) (hp : ∀ i v j, pv i = .ok v j → i < j) :
  Calls Tryd.prog 30 #[.pointer (some ⟨B, 0, none⟩), .int .i64 deep] w (RV B s w ((obj s pv (s.size + 1) (skip isBl s (i + 1)) true []).bind fun l j => .ok ⟨6, ⟨#[]⟩, [], l⟩ j)) := by
 obtain ⟨N, hN⟩ : ∃ N, N = w.heap.size := ⟨_, rfl⟩
 have hBN : B < N := by rw [hN]; exact hR.lt
 have hlt := hnd_pos hi (by omega)
 obtain ⟨W1, hW1⟩ : ∃ W1, W1 = (w.alloc (.cells #[.int .u8 0, .string ⟨#[]⟩, .slice none 0 0, .slice none 0 0] 25 (0, 0))).alloc (.cells #[.int .u8 6, .string ⟨#[]⟩, .slice none 0 0, .slice none 0 0] 25 (0, 0)) := ⟨_, rfl⟩
 have hR1 : RSt B s i 0 W1 := by rw [hW1]; exact (hR.alloc _).alloc _
 have hb1 : Below w.heap.size w W1 := by rw [hW1]; exact below_alloc (below_alloc (Below.refl _ _) _) _
 have hx1 : W1.heap[N]? = some (.cells #[.int .u8 0, .string ⟨#[]⟩, .slice none 0 0, .slice none 0 0] 25 (0, 0)) := by rw [hW1, hN]; exact blk_alloc (blk_new w _) _
 have hx2 : W1.heap[N + 1]? = some (.cells #[.int .u8 6, .string ⟨#[]⟩, .slice none 0 0, .slice none 0 0] 25 (0, 0)) := by rw [hW1, hN]; have h := blk_new (w.alloc (.cells #[.int .u8 0, .string ⟨#[]⟩, .slice none 0 0, .slice none 0 0] 25 (0, 0))) (.cells #[.int .u8 6, .string ⟨#[]⟩, .slice none 0 0, .slice none 0 0] 25 (0, 0)); simpa using h
 obtain ⟨R, hRes⟩ : ∃ R, R = obj s pv (s.size + 1) (skip isBl s (i + 1)) true [] := ⟨_, rfl⟩
 obtain ⟨i1, hi1⟩ : ∃ i1, i1 = skip isBl s (i + 1) := ⟨_, rfl⟩
 have hi1s : i < i1 ∧ i1 ≤ s.size := by rw [hi1]; exact ⟨by have := skip_ge (p := isBl) s (i + 1); omega, skip_in hlt⟩
 have hsz : s.size ≤ 140737488351232 := by omega
 have hT := glossatorref03_state_take.calls B s i 123 (by decide) W1 hR1 hsz (by omega)
 rw [show wd s [123] i = .ok () (i + 1) by rw [wd_cons, if_pos hi]; rfl] at hT
 rw [← hRes]
 rw [← hi1] at hRes
 have HRes := Aside0.mk hRes; have HI1 := Aside0.mk hi1; have HT := Aside0.mk hT; have HV := Aside0.mk hV; have HP := Aside0.mk hp; have HI := Aside0.mk (fun (c : Int) (hc : c ≠ 0) (j : Nat) (er : Int) (w' : World) (h : RSt B s j er w') => glossatorref03_state_is.calls B s j er c hc w' h hsz)
 have HBL := Aside0.mk (fun (j : Nat) (er : Int) (w' : World) (h : RSt B s j er w') (hj : er = 0 → j ≤ s.size) => u_blanks B s j er w' h hs hj)
 have HTK := Aside0.mk (fun (j : Nat) (er : Int) (c : Nat) (hc : c ≠ 0) (w' : World) (h : RSt B s j er w') (hj : er = 0 → j ≤ s.size) => u_take B s j er c hc w' h hs hj)
 have HTX := Aside0.mk (fun (j : Nat) (w' : World) (h : RSt B s j 0 w') (hj : hnd s j = 34) => u_text B s j w' h hs hj)
 clear hV hp hT hi1 hRes hi; go_enter Tryd.func30, Tryd.ntmps30
 go_upto_region 2 with (fail)
 rw [← hW1]
 rw [← hN]
 have HNw := Aside0.mk hN; have HBn := Aside0.mk hBN; have HK1 := Aside0.mk (Kp.of_below (B := B) hb1)
 have HX1 := Aside0.mk hx1; have HX2 := Aside0.mk hx2; clear hW1 hN hR hR1 hb1 hx1 hx2; go_upto_region 3 with (go_at_call 39; refine HT.out.mono ?_; intro e W2 ho; obtain ⟨x, rfl, rfl, hm, hr, hk⟩ := ho.ok_; have HR2 := Aside0.mk hr; have HK2 := Aside0.mk (HK1.out.trans hk); have HY1 := Aside0.mk ((hk.block N (blk_lt HX1.out) (by have := HBn.out; omega)).trans HX1.out); have HY2 := Aside0.mk ((hk.block (N + 1) (blk_lt HX2.out) (by have := HBn.out; omega)).trans HX2.out); clear ho hr hk)
 clear HX1 HX2 HK1 HT; go_upto_region 4 with (go_at_call 16; refine (HBL.out (i + 1) 0 _ (by exact HR2.out) (fun _ => hm)).mono ?_; rintro e W3 ⟨rfl, hr, hk⟩; rw [if_pos rfl, ← HI1.out] at hr; have HR3 := Aside0.mk hr; have HK3 := Aside0.mk (HK2.out.trans hk); have HZ1 := Aside0.mk ((hk.block N (blk_lt HY1.out) (by have := HBn.out; omega)).trans HY1.out); have HZ2 := Aside0.mk ((hk.block (N + 1) (blk_lt HY2.out) (by have := HBn.out; omega)).trans HY2.out); clear hr hk)
 clear HY1 HY2 HK2 HR2 hm; have c1 := HR3.out.c1
 have f1 := HR3.out.fr1
 have hRes := HRes.out
 rw [obj] at hRes
 by_cases h93 : hnd s i1 = 125
 ·rw [if_pos h93] at hRes
  have H1 := Aside0.mk hRes; have q := isB_yes (s := s) (i := i1) (c := 125) (by omega)
  have hl := hnd_pos h93 (by omega)
  have e0 := blk_cell HZ1.out 0
  have e1 := blk_cell HZ1.out 1
  have e2 := blk_cell HZ1.out 2
  have e3 := blk_cell HZ1.out 3
  have d0 := blk_cell HZ2.out 0
  have d1 := blk_cell HZ2.out 1
  have d2 := blk_cell HZ2.out 2
  have d3 := blk_cell HZ2.out 3
  have g0 := blk_frozen HZ1.out 0
  have g1 := blk_frozen HZ1.out 1
  have g2 := blk_frozen HZ1.out 2
  have g3 := blk_frozen HZ1.out 3
  have ne1 : B ≠ N := by omega
  have ne2 : N ≠ B := by omega
  have ne3 : B ≠ N + 1 := by omega
  have ne4 : N + 1 ≠ B := by omega
  clear hRes h93; go_wp2_with (go_at_call 26; refine (HI.out _ (by decide) _ _ _ (by exact HR3.out)).mono ?_; rintro e w' ⟨rfl, n1, rfl⟩)
  have hE := obj_end (show B < N by omega) (show w.heap.size ≤ N by rw [HNw.out]; exact Nat.le_refl _) (blk_far (p := ⟨B, 1, none⟩) (show (W3.drewN n1).heap[N]? = _ from HZ1.out) (show N ≠ B by omega) (.int .i64 ((i1 : Int) + 1))) (RSt.set1 (i := i1) (HR3.out.drewN n1)) ((HK3.out.drewN n1).set 1 (.int .i64 ((i1 : Int) + 1))) (Kd.R_nil _ _ _ _ _)
  obtain ⟨hw, hr3, hk3, hv3⟩ := hE
  have k0 := blk_cell hw 0
  have k1 := blk_cell hw 1
  have k2 := blk_cell hw 2
  have k3 := blk_cell hw 3
  refine bodyPost_ret (v := .agg #[.int .u8 6, .string ⟨#[]⟩, .slice none 0 0, _]) (by simp [results, Tryd.results30, go_sem, k0, k1, k2, k3]; rfl) rfl ?_
  rw [H1.out]
  exact ⟨_, ⟨6, ⟨#[]⟩, [], []⟩, _, 0, rfl, vv_at ⟨_, _, rfl, Kd.R_nil _ _ _ _ _, hv3⟩ HNw.out, hr3, hk3, .inl ⟨rfl, hl, rfl⟩⟩
 rw [if_neg h93] at hRes
 have HR0 := Aside0.mk (show (if hnd s i1 = 34 then (text s i1).bind fun l k => fld s pv s.size [] l k else .bad i1 30) = R by rw [hRes]; rfl)
 have q := isB_no (s := s) (i := i1) (c := 125) (by omega)
 clear hRes h93 HRes; go_wp2_with (go_at_call 26; refine (HI.out _ (by decide) _ _ _ (by exact HR3.out)).mono ?_; rintro e w' ⟨rfl, n1, rfl⟩)
 clear q c1 f1; go_loopg [] s.size (fun kq w' => ∃ (j : Nat) (acc : List JF) (v3 : Value) (er : Int), Aside0 ((er = 0 ∧ j ≤ s.size ∧ s.size < j + kq ∧ acc.length ≤ j ∧ (if hnd s j = 34 then (text s j).bind fun l k => fld s pv kq acc l k else .bad j 30) = R) ∨ (er ≠ 0 ∧ R = .bad j er)) ∧ Aside0 (RSt B s j er w') ∧ Aside0 (w'.heap[N]? = some (.cells #[.int .u8 0, .string ⟨#[]⟩, .slice none 0 0, .slice none 0 0] 25 (0, 0))) ∧ Aside0 (w'.heap[N + 1]? = some (.cells #[.int .u8 6, .string ⟨#[]⟩, .slice none 0 0, v3] 25 (0, 0))) ∧ Aside0 (Kd.R k38 38 w' (N + 2) (fun _ => True) v3 acc) ∧ Aside0 (Kp B w w'))
 case atStart => exact ⟨i1, [], .slice none 0 0, 0, ⟨.inl ⟨rfl, hi1s.2, by omega, by simp, HR0.out⟩⟩, ⟨HR3.out.drewN _⟩, ⟨HZ1.out⟩, ⟨HZ2.out⟩, ⟨Kd.R_nil _ _ _ _ _⟩, ⟨HK3.out.drewN _⟩⟩
 case round =>
  clear HR3 HZ1 HZ2 HK3 HR0 HI1 hi1s; obtain ⟨j, acc, v3, er, HX, HR1, HZ1, HZ2, HRow1, HK1⟩ := hrel
  obtain ⟨A2, c2, rfl⟩ := Kd.R_slice HRow1.out
  have s2 := HR1.out.c2
  have sf := HR1.out.fr2
  have hNs := blk_lt HZ2.out
  have b1 := hd.1
  have b2 := hd.2
  have wd1 : IntKind.i64.wrap (deep + 1) = deep + 1 := IntWalk.i64_in _ (by omega)
  rcases HX.out with ⟨rfl, hj2, hk2, hac, hX⟩ | ⟨he, hX⟩
  ·by_cases h34 : hnd s j = 34
   ·rw [if_pos h34] at hX
    have q := isB_yes (s := s) (i := j) (c := 34) (by omega)
    have HX2 := Aside0.mk hX; have H34 := Aside0.mk h34; clear hX HX h34; go_upto_region 12 with (first | (go_at_call 26; refine (HI.out _ (by decide) _ _ _ (by exact HR1.out)).mono ?_; rintro e w' ⟨rfl, n1, rfl⟩) | (go_at_call 28; refine (HTX.out j _ (by exact HR1.out) H34.out).mono ?_; rintro e wa ⟨o, ka, ea, rfl, hr, hk, hf⟩; have HRa := Aside0.mk hr; have HKa := Aside0.mk hk; have HFa := Aside0.mk hf; clear hr hk hf))
    go_upto_region 13 with (go_at_call 16; refine (HBL.out ka ea _ (by exact HRa.out) (fun h => by rcases HFa.out with h1 | h1; exact h1.2.1; exact absurd h h1.1)).mono ?_; rintro e wb ⟨rfl, hr, hk⟩; have HRb := Aside0.mk hr; have HKb := Aside0.mk (HKa.out.trans hk); clear hr hk)
    go_upto_region 14 with (go_at_call 39; refine (HTK.out _ ea 58 (by decide) _ (by exact HRb.out) (fun h => by rw [if_pos h]; rcases HFa.out with h1 | h1; exact skip_in h1.2.1; exact absurd h h1.1)).mono ?_; rintro e wc ⟨kc, ec, rfl, hr, hk, hf⟩; have HRc := Aside0.mk hr; have HKc := Aside0.mk (HKb.out.trans hk); have HFc := Aside0.mk hf; clear hr hk hf)
    go_upto_region 15 with (go_at_call 16; refine (HBL.out kc ec _ (by exact HRc.out) (fun h => by rcases HFc.out with h1 | h1 | h1; exact h1.2.2.1; exact absurd h h1.2.1; exact absurd (h1.2.1 ▸ h) h1.1)).mono ?_; rintro e wdd ⟨rfl, hr, hk⟩; have HRd := Aside0.mk hr; have HKd := Aside0.mk (HKc.out.trans hk); clear hr hk)
    have hszd : wr.heap.size ≤ wdd.heap.size := HKd.out.size
    have HRowd := Aside0.mk (rk (w' := wdd) HRow1.out (fun k hk' hlt => HKd.out.block k hlt (by have := HBn.out; omega)))
    have BXd1 := Aside0.mk ((HKd.out.block N (show N < (wr.drewN n1).heap.size by show N < wr.heap.size; omega) (by omega)).trans HZ1.out)
    have BXd2 := Aside0.mk ((HKd.out.block (N + 1) (show N + 1 < (wr.drewN n1).heap.size by show N + 1 < wr.heap.size; omega) (by omega)).trans HZ2.out)
    have HKd2 := Aside0.mk ((HK1.out.drewN n1).trans HKd.out)
    clear HRa HKa HRb HKb HRc HKc HRow1 HZ1 HZ2 HK1 s2 sf; have hl34 : j < s.size := hnd_pos H34.out (by decide)
    go_upto_region 16 with (go_at_call 17; refine (HV.out B _ ec _ (by exact HRd.out) (obj_pos hl34 HFa.out HFc.out)).mono ?_; rintro e we ⟨x, v, ke, ee, rfl, ⟨v2, v3, rfl, hr2, hr3⟩, hrd, hk, hf⟩; obtain ⟨A4, c4, rfl⟩ := Kd.R_slice hr2; obtain ⟨A5, c5, rfl⟩ := Kd.R_slice hr3; have HRe := Aside0.mk hrd; have HKe := Aside0.mk hk; have HFe := Aside0.mk hf; have HV2 := Aside0.mk hr2; have HV3 := Aside0.mk hr3; clear hrd hk hf hr2 hr3)
    have HSt := Aside0.mk (obj_step HP.out HX2.out HFa.out HFc.out HFe.out)
    have hsze : wdd.heap.size ≤ we.heap.size := HKe.out.size
    have HBe1 := Aside0.mk ((HKe.out.block N (show N < wdd.heap.size by omega) (by omega)).trans BXd1.out)
    have HBe2 := Aside0.mk ((HKe.out.block (N + 1) (show N + 1 < wdd.heap.size by omega) (by omega)).trans BXd2.out)
    have HRowe := Aside0.mk (rk (w' := we) HRowd.out (fun k hk' hlt => HKe.out.block k hlt (by omega)))
    have HOwn := Aside0.mk (fun k (hk : (Value.slice A2 acc.length c2).ownBlock = some k) => Kd.R_lt HRowd.out k hk)
    have HKe2 := Aside0.mk (HKd2.out.trans HKe.out)
    clear HX2 HFa HFc HFe HRd HKd HKd2 BXd1 BXd2 HRowd HKe H34; obtain ⟨W5, hW5⟩ : ∃ W5, W5 = we.alloc (.cells #[.int .u8 v.f0, .string v.f1, .slice A4 v.f2.length c4, .slice A5 v.f3.length c5] 25 (0, 0)) := ⟨_, rfl⟩
    have hb5 : W5.heap[we.heap.size]? = some (.cells #[.int .u8 v.f0, .string v.f1, .slice A4 v.f2.length c4, .slice A5 v.f3.length c5] 25 (0, 0)) := by rw [hW5]; exact blk_new we _
    have HR5 := Aside0.mk (show RSt B s ke ee W5 by rw [hW5]; exact HRe.out.alloc _)
    have HB51 := Aside0.mk (show W5.heap[N]? = some (.cells #[.int .u8 0, .string ⟨#[]⟩, .slice none 0 0, .slice none 0 0] 25 (0, 0)) by rw [hW5]; exact blk_alloc HBe1.out _)
    have HB52 := Aside0.mk (show W5.heap[N + 1]? = some (.cells #[.int .u8 6, .string ⟨#[]⟩, .slice none 0 0, .slice A2 acc.length c2] 25 (0, 0)) by rw [hW5]; exact blk_alloc HBe2.out _)
    have HRow5 := Aside0.mk (show Kd.R k38 38 W5 (N + 2) (fun _ => True) (.slice A2 acc.length c2) acc by rw [hW5]; exact Kd.R_alloc HRowe.out _)
    have HV25 := Aside0.mk (show Kd.R k25 25 W5 wdd.heap.size (fun _ => True) (.slice A4 v.f2.length c4) v.f2 by rw [hW5]; exact Kd.R_alloc HV2.out _)
    have HV35 := Aside0.mk (show Kd.R k38 38 W5 wdd.heap.size (fun _ => True) (.slice A5 v.f3.length c5) v.f3 by rw [hW5]; exact Kd.R_alloc HV3.out _)
    have HK5 := Aside0.mk (show Kp B w W5 by rw [hW5]; exact HKe2.out.alloc _)
    have hsz5 : we.heap.size < W5.heap.size := blk_lt hb5
    have hPut := glossatorref03_put.calls (N + 2) wdd.heap.size A2 c2 acc o v _ _ W5 HRow5.out (by omega) (by omega) HOwn.out HV25.out HV35.out (by omega)
    obtain ⟨M5, hM5⟩ : ∃ M5, M5 = we.heap.size := ⟨_, rfl⟩
    rw [← hM5] at hb5
    rw [← hM5, ← hW5]
    have HPut := Aside0.mk hPut; have m0 := blk_cell hb5 0
    have m1 := blk_cell hb5 1
    have m2 := blk_cell hb5 2
    have m3 := blk_cell hb5 3
    have d3 := blk_cell HB52.out 3
    clear hM5 hW5 hb5 hPut HV2 HV3 HRowe HBe1 HBe2 HRe HKe2; obtain ⟨L, hL⟩ : ∃ L, L = (putF acc o v).length := ⟨_, rfl⟩
    go_upto_region 17 with (go_at_call 42; refine HPut.out.mono ?_; rintro e wf ⟨vr, rfl, hrow, hb⟩; obtain ⟨A6, c6, rfl⟩ := Kd.R_slice hrow; rw [← hL] at hrow ⊢; have HRowf := Aside0.mk hrow; have HBf := Aside0.mk hb; have d3f := (blk_cell ((hb.block (N + 1) (by omega)).trans HB52.out) 3).trans rfl; have g3f := blk_frozen ((hb.block (N + 1) (by omega)).trans HB52.out) 3; clear hrow hb)
    obtain ⟨W6, hW6⟩ : ∃ W6, W6 = wf.setCell ⟨N + 1, 3, none⟩ (.slice A6 L c6) := ⟨_, rfl⟩
    have HR6 := Aside0.mk (show RSt B s ke ee W6 by rw [hW6]; exact RSt.far ((HBf.out.block B (by omega)).trans HR5.out) (show B ≠ N + 1 by omega))
    have HP1 := Aside0.mk (show W6.heap[N]? = some (.cells #[.int .u8 0, .string ⟨#[]⟩, .slice none 0 0, .slice none 0 0] 25 (0, 0)) by rw [hW6]; exact (Below.heap_setCell _ _ _ _ (show N ≠ N + 1 by omega)).trans ((HBf.out.block N (by omega)).trans HB51.out))
    have HP2 := Aside0.mk (show W6.heap[N + 1]? = some (.cells #[.int .u8 6, .string ⟨#[]⟩, .slice none 0 0, .slice A6 L c6] 25 (0, 0)) by rw [hW6]; exact blk_put ((HBf.out.block (N + 1) (by omega)).trans HB52.out) 3 _ rfl)
    have HRow6 := Aside0.mk (show Kd.R k38 38 W6 (N + 2) (fun _ => True) (.slice A6 L c6) (putF acc o v) by rw [hW6]; exact rk HRowf.out (fun q hq hlt => Below.heap_setCell _ _ _ _ (show q ≠ N + 1 by omega)))
    have HK6 := Aside0.mk (show Kp B w W6 by rw [hW6]; exact (HK5.out.thenB (N := N) (HBf.out.mono (by omega)) (by rw [HNw.out]; exact Nat.le_refl _)).setN (p := ⟨N + 1, 3, none⟩) (by rw [← HNw.out]; exact Nat.le_succ N) _)
    (try rw [← hL])
    rw [← hW6]
    have hlen := putF_len acc o v
    rw [← hL] at hlen
    have HL := Aside0.mk hL; clear hW6 HRowf HR5 HB51 HB52 HK5 HBf HRow5 HV25 HV35 HPut HOwn m0 m1 m2 m3 d3 d3f g3f hL; have hNs6 := blk_lt HP2.out
    rcases HSt.out with ⟨rfl, hks, hjk, hv⟩ | ⟨he, hv⟩
    ·have HX3 := Aside0.mk hv; clear hv HSt; obtain ⟨p, hp⟩ : ∃ p, p = skip isBl s ke := ⟨_, rfl⟩
     have hps : ke ≤ p ∧ p ≤ s.size := by rw [hp]; exact ⟨skip_ge s ke, skip_in hks⟩
     have HPP := Aside0.mk hp; clear hp; go_upto_region 18 with (go_at_call 16; refine (HBL.out ke 0 _ (by exact HR6.out) (fun _ => hks)).mono ?_; rintro e w7 ⟨rfl, hr, hk⟩; rw [if_pos rfl, ← HPP.out] at hr; have HR7 := Aside0.mk hr; have HQ1 := Aside0.mk ((hk.block N (blk_lt HP1.out) (by omega)).trans HP1.out); have HQ2 := Aside0.mk ((hk.block (N + 1) (blk_lt HP2.out) (by omega)).trans HP2.out); have HRow7 := Aside0.mk (rk HRow6.out (fun q hq hlt => hk.block q hlt (by omega))); have HK7 := Aside0.mk (HK6.out.trans hk); clear hr hk)
     clear HR6 HP1 HP2 HRow6 HK6; have hNs7 := blk_lt HQ2.out
     have c1 := HR7.out.c1
     have f1 := HR7.out.fr1
     obtain ⟨f, rfl⟩ : ∃ f, gk = f + 1 := ⟨gk - 1, by omega⟩
     have hX3 := HX3.out
     rw [← HPP.out, obj] at hX3
     by_cases h93 : hnd s p = 125
     ·rw [if_pos h93] at hX3
      have H1 := Aside0.mk hX3; have q := isB_yes (s := s) (i := p) (c := 125) (by omega)
      have hl := hnd_pos h93 (by omega)
      have e0 := blk_cell HQ1.out 0
      have e1 := blk_cell HQ1.out 1
      have e2 := blk_cell HQ1.out 2
      have e3 := blk_cell HQ1.out 3
      have d0 := blk_cell HQ2.out 0
      have d1 := blk_cell HQ2.out 1
      have d2 := blk_cell HQ2.out 2
      have d3 := blk_cell HQ2.out 3
      have g0 := blk_frozen HQ1.out 0
      have g1 := blk_frozen HQ1.out 1
      have g2 := blk_frozen HQ1.out 2
      have g3 := blk_frozen HQ1.out 3
      have ne1 : B ≠ N := by omega
      have ne2 : N ≠ B := by omega
      have ne3 : B ≠ N + 1 := by omega
      have ne4 : N + 1 ≠ B := by omega
      clear hX3 h93; go_wp2_with (go_at_call 26; refine (HI.out _ (by decide) _ _ _ (by exact HR7.out)).mono ?_; rintro e w' ⟨rfl, n1, rfl⟩)
      have hE := obj_end (show B < N by omega) (show w.heap.size ≤ N by rw [HNw.out]; exact Nat.le_refl _) (blk_far (p := ⟨B, 1, none⟩) (show (w7.drewN n1).heap[N]? = _ from HQ1.out) (show N ≠ B by omega) (.int .i64 ((p : Int) + 1))) (RSt.set1 (i := p) (HR7.out.drewN n1)) ((HK7.out.drewN n1).set 1 (.int .i64 ((p : Int) + 1))) (rk (w' := (w7.drewN n1).setCell ⟨B, 1, none⟩ (.int .i64 ((p : Int) + 1))) HRow7.out (fun q hq hlt => Below.heap_setCell _ _ _ _ (show q ≠ B by omega)))
      obtain ⟨hw, hr3, hk3, hv3⟩ := hE
      have k0 := blk_cell hw 0
      have k1 := blk_cell hw 1
      have k2 := blk_cell hw 2
      have k3 := blk_cell hw 3
      refine bodyPost_ret (v := .agg #[.int .u8 6, .string ⟨#[]⟩, .slice none 0 0, _]) (by simp [results, Tryd.results30, go_sem, k0, k1, k2, k3]; rfl) rfl ?_
      rw [← H1.out]
      exact ⟨_, ⟨6, ⟨#[]⟩, [], putF acc o v⟩, _, 0, rfl, vv_at ⟨_, _, rfl, Kd.R_nil _ _ _ _ _, hv3⟩ HNw.out, hr3, hk3, .inl ⟨rfl, hl, rfl⟩⟩
     ·rw [if_neg h93, if_neg (by simp)] at hX3
      have q := isB_no (s := s) (i := p) (c := 125) (by omega)
      clear h93; by_cases h44 : hnd s p = 44
      ·have hwd : wd s [44] p = .ok () (p + 1) := if_pos h44
       have hl := hnd_pos h44 (by omega)
       rw [hwd] at hX3
       have H1 := Aside0.mk (show (if hnd s (skip isBl s (p + 1)) = 34 then (text s (skip isBl s (p + 1))).bind fun l k => fld s pv f (putF acc o v) l k else .bad (skip isBl s (p + 1)) 30) = R from hX3)
       have HWD := Aside0.mk hwd; clear hX3 hwd h44; go_wp2_with (first | (go_at_call 26; refine (HI.out _ (by decide) _ _ _ (by exact HR7.out)).mono ?_; rintro e w' ⟨rfl, n1, rfl⟩) | (go_at_call 39; refine (glossatorref03_state_take.calls B s p 44 (by decide) _ (by exact HR7.out) (by omega) hps.2).mono ?_; intro e w8 ho; rw [HWD.out] at ho; obtain ⟨x, rfl, rfl, hm, hr, hk⟩ := ho.ok_; have HR8 := Aside0.mk hr; have HKa := Aside0.mk hk; clear ho hr hk) | (go_at_call 16; refine (HBL.out (p + 1) 0 _ (by exact HR8.out) (fun _ => hl)).mono ?_; rintro e w9 ⟨rfl, hr, hk⟩; rw [if_pos rfl] at hr; have HR9 := Aside0.mk hr; have HKb := Aside0.mk (HKa.out.trans hk); clear hr hk))
       go_roundg f
       case measure => omega
       case rel =>
        have hsk := skip_ge (p := isBl) s (p + 1)
        refine ⟨skip isBl s (p + 1), putF acc o v, .slice A6 L c6, 0, ⟨.inl ⟨rfl, skip_in hl, by omega, by rw [← HL.out]; omega, H1.out⟩⟩, HR9, ⟨?_⟩, ⟨?_⟩, ⟨?_⟩, ⟨(HK7.out.drewN _).trans HKb.out⟩⟩
        ·exact (HKb.out.block N (show N < w7.heap.size by omega) (by omega)).trans HQ1.out
        ·exact (HKb.out.block (N + 1) (show N + 1 < w7.heap.size by omega) (by omega)).trans HQ2.out
        ·exact rk HRow7.out (fun q hq hlt => HKb.out.block q hlt (by omega))
      ·have hwd : wd s [44] p = .bad p 30 := if_neg h44
       rw [hwd] at hX3
       have H1 := Aside0.mk (show Res.bad p 30 = R from hX3)
       have HWD := Aside0.mk hwd; clear hX3 hwd h44; go_wp2_with (first | (go_at_call 26; refine (HI.out _ (by decide) _ _ _ (by exact HR7.out)).mono ?_; rintro e w' ⟨rfl, n1, rfl⟩) | (go_at_call 39; refine (glossatorref03_state_take.calls B s p 44 (by decide) _ (by exact HR7.out) (by omega) hps.2).mono ?_; intro e w8 ho; rw [HWD.out] at ho; obtain ⟨x, rfl, rfl, hm, hr, hk⟩ := ho.bad_; have HR8 := Aside0.mk hr; have HKa := Aside0.mk hk; clear ho hr hk hm) | (go_at_call 16; refine (glossatorref03_state_blanks.off B s p 30 (by decide) _ (by exact HR8.out) (by omega)).mono ?_; rintro e w9 ⟨rfl, n9, rfl⟩))
       go_roundg f
       case measure => omega
       case rel =>
        refine ⟨p, putF acc o v, .slice A6 L c6, 30, ⟨.inr ⟨by decide, H1.out.symm⟩⟩, ⟨HR8.out.drewN _⟩, ⟨?_⟩, ⟨?_⟩, ⟨?_⟩, ⟨((HK7.out.drewN _).trans HKa.out).drewN _⟩⟩
        ·exact (HKa.out.block N (show N < w7.heap.size by omega) (by omega)).trans HQ1.out
        ·exact (HKa.out.block (N + 1) (show N + 1 < w7.heap.size by omega) (by omega)).trans HQ2.out
        ·exact rk HRow7.out (fun q hq hlt => HKa.out.block q hlt (by omega))
    ·have H1 := Aside0.mk hv; have HE := Aside0.mk he; have q2 := isB_bad (s := s) (i := ke) 125 he
     clear hv HSt he; obtain ⟨f, rfl⟩ : ∃ f, gk = f + 1 := ⟨gk - 1, by omega⟩
     go_wp2_with (first | (go_at_call 16; refine (glossatorref03_state_blanks.off B s ke ee HE.out _ (by exact HR6.out) (by omega)).mono ?_; rintro e w9 ⟨rfl, n9, rfl⟩) | (go_at_call 26; refine (HI.out _ (by decide) _ _ _ (by exact HR6.out)).mono ?_; rintro e w' ⟨rfl, n1, rfl⟩) | (go_at_call 39; refine (glossatorref03_state_take.off B s ke ee HE.out 44 _ (by exact HR6.out)).mono ?_; rintro e w' ⟨rfl, rfl⟩))
     go_roundg f
     case measure => omega
     case rel => exact ⟨ke, putF acc o v, .slice A6 L c6, ee, ⟨.inr ⟨HE.out, H1.out⟩⟩, ⟨HR6.out.drewN _⟩, ⟨HP1.out⟩, ⟨HP2.out⟩, ⟨Kd.R_drewN HRow6.out _⟩, ⟨HK6.out.drewN _⟩⟩
   ·rw [if_neg h34] at hX
    have H1 := Aside0.mk hX; have q := isB_no (s := s) (i := j) (c := 34) (by omega)
    have e0 := blk_cell HZ1.out 0
    have e1 := blk_cell HZ1.out 1
    have e2 := blk_cell HZ1.out 2
    have e3 := blk_cell HZ1.out 3
    have d0 := blk_cell HZ2.out 0
    have d1 := blk_cell HZ2.out 1
    have d2 := blk_cell HZ2.out 2
    have d3 := blk_cell HZ2.out 3
    have g0 := blk_frozen HZ1.out 0
    have g1 := blk_frozen HZ1.out 1
    have g2 := blk_frozen HZ1.out 2
    have g3 := blk_frozen HZ1.out 3
    have ne1 : B ≠ N := by omega
    have ne2 : N ≠ B := by omega
    have ne3 : B ≠ N + 1 := by omega
    have ne4 : N + 1 ≠ B := by omega
    have ne5 : B ≠ N := by omega
    clear hX h34 HX; go_wp2_with (go_at_call 26; refine (HI.out _ (by decide) _ _ _ (by exact HR1.out)).mono ?_; rintro e w' ⟨rfl, n1, rfl⟩)
    have hE := obj_end (show B < N by omega) (show w.heap.size ≤ N by rw [HNw.out]; exact Nat.le_refl _) (blk_far (p := ⟨B, 2, none⟩) (show (wr.drewN n1).heap[N]? = _ from HZ1.out) (show N ≠ B by omega) (.int .i64 30)) (RSt.setE (HR1.out.drewN n1) 30) ((HK1.out.drewN n1).set 2 (.int .i64 30)) (rk (w' := (wr.drewN n1).setCell ⟨B, 2, none⟩ (.int .i64 30)) HRow1.out (fun q hq hlt => Below.heap_setCell _ _ _ _ (show q ≠ B by omega)))
    obtain ⟨hw, hr3, hk3, hv3⟩ := hE
    have k0 := blk_cell hw 0
    have k1 := blk_cell hw 1
    have k2 := blk_cell hw 2
    have k3 := blk_cell hw 3
    refine bodyPost_ret (v := .agg #[.int .u8 6, .string ⟨#[]⟩, .slice none 0 0, _]) (by simp [results, Tryd.results30, go_sem, k0, k1, k2, k3]; rfl) rfl ?_
    rw [← H1.out]
    exact ⟨_, ⟨6, ⟨#[]⟩, [], acc⟩, _, 30, rfl, vv_at ⟨_, _, rfl, Kd.R_nil _ _ _ _ _, hv3⟩ HNw.out, hr3, hk3, .inr ⟨by decide, rfl⟩⟩
  ·have te : (er == 0) = false := by simpa using he
   have H1 := Aside0.mk hX; have HE := Aside0.mk he; have e0 := blk_cell HZ1.out 0
   have e1 := blk_cell HZ1.out 1
   have e2 := blk_cell HZ1.out 2
   have e3 := blk_cell HZ1.out 3
   have d0 := blk_cell HZ2.out 0
   have d1 := blk_cell HZ2.out 1
   have d2 := blk_cell HZ2.out 2
   have d3 := blk_cell HZ2.out 3
   have g0 := blk_frozen HZ1.out 0
   have g1 := blk_frozen HZ1.out 1
   have g2 := blk_frozen HZ1.out 2
   have g3 := blk_frozen HZ1.out 3
   have ne1 : B ≠ N := by omega
   have ne2 : N ≠ B := by omega
   have ne3 : B ≠ N + 1 := by omega
   have ne4 : N + 1 ≠ B := by omega
   clear hX he HX; go_wp2
   have hE := obj_end (show B < N by omega) (show w.heap.size ≤ N by rw [HNw.out]; exact Nat.le_refl _) (HZ1.out) (HR1.out) (HK1.out) (HRow1.out)
   obtain ⟨hw, hr3, hk3, hv3⟩ := hE
   have k0 := blk_cell hw 0
   have k1 := blk_cell hw 1
   have k2 := blk_cell hw 2
   have k3 := blk_cell hw 3
   refine bodyPost_ret (v := .agg #[.int .u8 6, .string ⟨#[]⟩, .slice none 0 0, _]) (by simp [results, Tryd.results30, go_sem, k0, k1, k2, k3]; rfl) rfl ?_
   rw [H1.out]
   exact ⟨_, ⟨6, ⟨#[]⟩, [], acc⟩, _, er, rfl, vv_at ⟨_, _, rfl, Kd.R_nil _ _ _ _ _, hv3⟩ HNw.out, hr3, hk3, .inr ⟨HE.out, rfl⟩⟩
end Go.Proofs.YtienoadaflmkdaaDoor.Q

end
