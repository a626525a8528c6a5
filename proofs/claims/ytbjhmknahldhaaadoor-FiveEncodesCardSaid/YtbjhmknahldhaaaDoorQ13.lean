-- Written by this repo's wip/xprint.py (over the kit's print.py) out of the translation. Not trusted: Lean checks it.
import Derived.Test.YtbjhmknahldhaaaDoorQ0
import Derived.Test.YtbjhmknahldhaaaDoorQ5
import Derived.Test.YtbjhmknahldhaaaDoorQ7
import Derived.Test.YtbjhmknahldhaaaDoorQ9
import Derived.Test.YtbjhmknahldhaaaDoorQ12
namespace Go.Proofs.YtbjhmknahldhaaaDoor.Q
open Go.RowKit Go.Proofs.YtbjhmknahldhaaaDoorW.PrintWords Go.Proofs.YtbjhmknahldhaaaDoorW.PrintLast Go.Proofs.YtbjhmknahldhaaaDoorW.PrintMore
attribute [local go_sem] max2_int min2_int max_two min_two max_three min_three max_four min_four   -- for this text's walks alone
set_option linter.unusedVariables false
set_option linter.unusedSimpArgs false

/-! ### glossatorlaw23_FiveEncodes: function 3 -/
mutual
def glossatorlaw23_FiveEncodes.j0 : Nat → ByteArray → List (S38) → Bool → Option (Bool)
 | 0, _, _, _ => none
 | k + 1, x0, x1, x24 => if x24 = true then (some true) else ((some (([] : List (S38)) : List (S38))).bind fun y270 => (if y270.length + x1.length < 4398046511104 then ((glossatorref23_Encode.f k x0 x1).bind fun bt276 => ((glossatorref23_Pieces.f k x0 x1).bind fun bt280 => (glossatorlaw23_FiveEncodes.l0 k x0 x1 (y270 ++ x1) bt276.1 bt276.2 bt280.1 bt280.2 0))) else (none)))
def glossatorlaw23_FiveEncodes.l0 : Nat → ByteArray → List (S38) → List (S38) → List Int → Int → List (S38) → Int → Int → Option (Bool)
 | 0, _, _, _, _, _, _, _, _ => none
 | k + 1, x0, x1, x5, x6, x7, x8, x9, x10 => if x10 < 2 then ((five_Encode.f k x0 x5).bind fun bt284 => ((five_Pieces.f k x0 x5).bind fun bt288 => ((glossatorref23_Same.f k bt284.1 x6).bind fun t292 => (if t292 = true then (if bt284.2 = x7 then ((glossatorref22_Same.f k bt288.1 x8).bind fun t293 => (if t293 = true then (if bt288.2 = x9 then ((glossatorref22_Same.f k x5 x1).bind fun t294 => (glossatorlaw23_FiveEncodes.j2 k x0 x1 x5 x6 x7 x8 x9 x10 bt284.1 bt288.1 (!t294))) else (glossatorlaw23_FiveEncodes.j2 k x0 x1 x5 x6 x7 x8 x9 x10 bt284.1 bt288.1 true)) else (glossatorlaw23_FiveEncodes.j2 k x0 x1 x5 x6 x7 x8 x9 x10 bt284.1 bt288.1 true))) else (glossatorlaw23_FiveEncodes.j2 k x0 x1 x5 x6 x7 x8 x9 x10 bt284.1 bt288.1 true)) else (glossatorlaw23_FiveEncodes.j2 k x0 x1 x5 x6 x7 x8 x9 x10 bt284.1 bt288.1 true))))) else (some true)
def glossatorlaw23_FiveEncodes.j2 : Nat → ByteArray → List (S38) → List (S38) → List Int → Int → List (S38) → Int → Int → List Int → List (S38) → Bool → Option (Bool)
 | 0, _, _, _, _, _, _, _, _, _, _, _ => none
 | k + 1, x0, x1, x5, x6, x7, x8, x9, x10, x11, x13, x81 => if x81 = true then (some false) else (glossatorlaw23_FiveEncodes.l1 k x0 x1 x5 x6 x7 x8 x9 x10 x11 x13 0)
def glossatorlaw23_FiveEncodes.l1 : Nat → ByteArray → List (S38) → List (S38) → List Int → Int → List (S38) → Int → Int → List Int → List (S38) → Int → Option (Bool)
 | 0, _, _, _, _, _, _, _, _, _, _, _ => none
 | k + 1, x0, x1, x5, x6, x7, x8, x9, x10, x11, x13, x15 => if x15 < (x11.length : Int) then (if 0 ≤ x15 then (glossatorlaw23_FiveEncodes.l1 k x0 x1 x5 x6 x7 x8 x9 x10 (x11.set (x15 : Int).toNat (-5)) x13 (wrap64 (x15 + 1))) else (none)) else (glossatorlaw23_FiveEncodes.l2 k x0 x1 x5 x6 x7 x8 x9 x10 x13 0)
def glossatorlaw23_FiveEncodes.l2 : Nat → ByteArray → List (S38) → List (S38) → List Int → Int → List (S38) → Int → Int → List (S38) → Int → Option (Bool)
 | 0, _, _, _, _, _, _, _, _, _, _ => none
 | k + 1, x0, x1, x5, x6, x7, x8, x9, x10, x13, x16 => if x16 < (x13.length : Int) then (if 0 ≤ x16 then (glossatorlaw23_FiveEncodes.l2 k x0 x1 x5 x6 x7 x8 x9 x10 (x13.set (x16 : Int).toNat (⟨(⟨(rd_T38 x13 x16).f0.f0, (rd_T38 x13 x16).f0.f1⟩ : S36), (-5), (rd_T38 x13 x16).f2⟩ : S38)) (wrap64 (x16 + 1))) else (none)) else (glossatorlaw23_FiveEncodes.l0 k x0 x1 x5 x6 x7 x8 x9 (wrap64 (x10 + 1)))
end
def glossatorlaw23_FiveEncodes.f (k : Nat) (a0 : ByteArray) (l1 : List (S38)) : Option (Bool) := if (a0.size : Int) > 3000 then (glossatorlaw23_FiveEncodes.j0 k a0 l1 true) else (glossatorlaw23_FiveEncodes.j0 k a0 l1 (decide ((l1.length : Int) > 1000)))
theorem glossatorlaw23_FiveEncodes.mono_l : ∀ k, (∀ y0 y1 y2, LeO (glossatorlaw23_FiveEncodes.j0 k y0 y1 y2) (glossatorlaw23_FiveEncodes.j0 (k + 1) y0 y1 y2)) ∧ (∀ y0 y1 y2 y3 y4 y5 y6 y7, LeO (glossatorlaw23_FiveEncodes.l0 k y0 y1 y2 y3 y4 y5 y6 y7) (glossatorlaw23_FiveEncodes.l0 (k + 1) y0 y1 y2 y3 y4 y5 y6 y7)) ∧ (∀ y0 y1 y2 y3 y4 y5 y6 y7 y8 y9 y10, LeO (glossatorlaw23_FiveEncodes.j2 k y0 y1 y2 y3 y4 y5 y6 y7 y8 y9 y10) (glossatorlaw23_FiveEncodes.j2 (k + 1) y0 y1 y2 y3 y4 y5 y6 y7 y8 y9 y10)) ∧ (∀ y0 y1 y2 y3 y4 y5 y6 y7 y8 y9 y10, LeO (glossatorlaw23_FiveEncodes.l1 k y0 y1 y2 y3 y4 y5 y6 y7 y8 y9 y10) (glossatorlaw23_FiveEncodes.l1 (k + 1) y0 y1 y2 y3 y4 y5 y6 y7 y8 y9 y10)) ∧ (∀ y0 y1 y2 y3 y4 y5 y6 y7 y8 y9, LeO (glossatorlaw23_FiveEncodes.l2 k y0 y1 y2 y3 y4 y5 y6 y7 y8 y9) (glossatorlaw23_FiveEncodes.l2 (k + 1) y0 y1 y2 y3 y4 y5 y6 y7 y8 y9))
 | 0 => ⟨fun _ _ _ r h => by simp [glossatorlaw23_FiveEncodes.j0] at h, fun _ _ _ _ _ _ _ _ r h => by simp [glossatorlaw23_FiveEncodes.l0] at h, fun _ _ _ _ _ _ _ _ _ _ _ r h => by simp [glossatorlaw23_FiveEncodes.j2] at h, fun _ _ _ _ _ _ _ _ _ _ _ r h => by simp [glossatorlaw23_FiveEncodes.l1] at h, fun _ _ _ _ _ _ _ _ _ _ r h => by simp [glossatorlaw23_FiveEncodes.l2] at h⟩
 | k + 1 => by
  obtain ⟨ih0, ih1, ih2, ih3, ih4⟩ := glossatorlaw23_FiveEncodes.mono_l k
  refine ⟨?_, ?_, ?_, ?_, ?_⟩
  ·intro y0 y1 y2
   unfold glossatorlaw23_FiveEncodes.j0
   repeat' first
   | (with_reducible exact ih0 _ _ _)
   | (with_reducible exact ih1 _ _ _ _ _ _ _ _)
   | (with_reducible exact ih2 _ _ _ _ _ _ _ _ _ _ _)
   | (with_reducible exact ih3 _ _ _ _ _ _ _ _ _ _ _)
   | (with_reducible exact ih4 _ _ _ _ _ _ _ _ _ _)
   | (with_reducible exact five_Encode.mono _ _ _)
   | (with_reducible exact five_Pieces.mono _ _ _)
   | (with_reducible exact glossatorref22_Same.mono _ _ _)
   | (with_reducible exact glossatorref23_Encode.mono _ _ _)
   | (with_reducible exact glossatorref23_Pieces.mono _ _ _)
   | (with_reducible exact glossatorref23_Same.mono _ _ _)
   | (with_reducible exact LeO.refl _)
   | (with_reducible exact LeO.none _)
   | (with_reducible refine LeO.ite ?_ ?_)
   | (with_reducible refine LeO.bind ?_ (fun _ => ?_))
   | exact ih0 _ _ _
   | exact ih1 _ _ _ _ _ _ _ _
   | exact ih2 _ _ _ _ _ _ _ _ _ _ _
   | exact ih3 _ _ _ _ _ _ _ _ _ _ _
   | exact ih4 _ _ _ _ _ _ _ _ _ _
   | exact five_Encode.mono _ _ _
   | exact five_Pieces.mono _ _ _
   | exact glossatorref22_Same.mono _ _ _
   | exact glossatorref23_Encode.mono _ _ _
   | exact glossatorref23_Pieces.mono _ _ _
   | exact glossatorref23_Same.mono _ _ _
   | exact LeO.none _
   | refine LeO.ite ?_ ?_
   | refine LeO.bind ?_ (fun _ => ?_)
  ·intro y0 y1 y2 y3 y4 y5 y6 y7
   unfold glossatorlaw23_FiveEncodes.l0
   repeat' first
   | (with_reducible exact ih0 _ _ _)
   | (with_reducible exact ih1 _ _ _ _ _ _ _ _)
   | (with_reducible exact ih2 _ _ _ _ _ _ _ _ _ _ _)
   | (with_reducible exact ih3 _ _ _ _ _ _ _ _ _ _ _)
   | (with_reducible exact ih4 _ _ _ _ _ _ _ _ _ _)
   | (with_reducible exact five_Encode.mono _ _ _)
   | (with_reducible exact five_Pieces.mono _ _ _)
   | (with_reducible exact glossatorref22_Same.mono _ _ _)
   | (with_reducible exact glossatorref23_Encode.mono _ _ _)
   | (with_reducible exact glossatorref23_Pieces.mono _ _ _)
   | (with_reducible exact glossatorref23_Same.mono _ _ _)
   | (with_reducible exact LeO.refl _)
   | (with_reducible exact LeO.none _)
   | (with_reducible refine LeO.ite ?_ ?_)
   | (with_reducible refine LeO.bind ?_ (fun _ => ?_))
   | exact ih0 _ _ _
   | exact ih1 _ _ _ _ _ _ _ _
   | exact ih2 _ _ _ _ _ _ _ _ _ _ _
   | exact ih3 _ _ _ _ _ _ _ _ _ _ _
   | exact ih4 _ _ _ _ _ _ _ _ _ _
   | exact five_Encode.mono _ _ _
   | exact five_Pieces.mono _ _ _
   | exact glossatorref22_Same.mono _ _ _
   | exact glossatorref23_Encode.mono _ _ _
   | exact glossatorref23_Pieces.mono _ _ _
   | exact glossatorref23_Same.mono _ _ _
   | exact LeO.none _
   | refine LeO.ite ?_ ?_
   | refine LeO.bind ?_ (fun _ => ?_)
  ·intro y0 y1 y2 y3 y4 y5 y6 y7 y8 y9 y10
   unfold glossatorlaw23_FiveEncodes.j2
   repeat' first
   | (with_reducible exact ih0 _ _ _)
   | (with_reducible exact ih1 _ _ _ _ _ _ _ _)
   | (with_reducible exact ih2 _ _ _ _ _ _ _ _ _ _ _)
   | (with_reducible exact ih3 _ _ _ _ _ _ _ _ _ _ _)
   | (with_reducible exact ih4 _ _ _ _ _ _ _ _ _ _)
   | (with_reducible exact five_Encode.mono _ _ _)
   | (with_reducible exact five_Pieces.mono _ _ _)
   | (with_reducible exact glossatorref22_Same.mono _ _ _)
   | (with_reducible exact glossatorref23_Encode.mono _ _ _)
   | (with_reducible exact glossatorref23_Pieces.mono _ _ _)
   | (with_reducible exact glossatorref23_Same.mono _ _ _)
   | (with_reducible exact LeO.refl _)
   | (with_reducible exact LeO.none _)
   | (with_reducible refine LeO.ite ?_ ?_)
   | (with_reducible refine LeO.bind ?_ (fun _ => ?_))
   | exact ih0 _ _ _
   | exact ih1 _ _ _ _ _ _ _ _
   | exact ih2 _ _ _ _ _ _ _ _ _ _ _
   | exact ih3 _ _ _ _ _ _ _ _ _ _ _
   | exact ih4 _ _ _ _ _ _ _ _ _ _
   | exact five_Encode.mono _ _ _
   | exact five_Pieces.mono _ _ _
   | exact glossatorref22_Same.mono _ _ _
   | exact glossatorref23_Encode.mono _ _ _
   | exact glossatorref23_Pieces.mono _ _ _
   | exact glossatorref23_Same.mono _ _ _
   | exact LeO.none _
   | refine LeO.ite ?_ ?_
   | refine LeO.bind ?_ (fun _ => ?_)
  ·intro y0 y1 y2 y3 y4 y5 y6 y7 y8 y9 y10
   unfold glossatorlaw23_FiveEncodes.l1
   repeat' first
   | (with_reducible exact ih0 _ _ _)
   | (with_reducible exact ih1 _ _ _ _ _ _ _ _)
   | (with_reducible exact ih2 _ _ _ _ _ _ _ _ _ _ _)
   | (with_reducible exact ih3 _ _ _ _ _ _ _ _ _ _ _)
   | (with_reducible exact ih4 _ _ _ _ _ _ _ _ _ _)
   | (with_reducible exact five_Encode.mono _ _ _)
   | (with_reducible exact five_Pieces.mono _ _ _)
   | (with_reducible exact glossatorref22_Same.mono _ _ _)
   | (with_reducible exact glossatorref23_Encode.mono _ _ _)
   | (with_reducible exact glossatorref23_Pieces.mono _ _ _)
   | (with_reducible exact glossatorref23_Same.mono _ _ _)
   | (with_reducible exact LeO.refl _)
   | (with_reducible exact LeO.none _)
   | (with_reducible refine LeO.ite ?_ ?_)
   | (with_reducible refine LeO.bind ?_ (fun _ => ?_))
   | exact ih0 _ _ _
   | exact ih1 _ _ _ _ _ _ _ _
   | exact ih2 _ _ _ _ _ _ _ _ _ _ _
   | exact ih3 _ _ _ _ _ _ _ _ _ _ _
   | exact ih4 _ _ _ _ _ _ _ _ _ _
   | exact five_Encode.mono _ _ _
   | exact five_Pieces.mono _ _ _
   | exact glossatorref22_Same.mono _ _ _
   | exact glossatorref23_Encode.mono _ _ _
   | exact glossatorref23_Pieces.mono _ _ _
   | exact glossatorref23_Same.mono _ _ _
   | exact LeO.none _
   | refine LeO.ite ?_ ?_
   | refine LeO.bind ?_ (fun _ => ?_)
  ·intro y0 y1 y2 y3 y4 y5 y6 y7 y8 y9
   unfold glossatorlaw23_FiveEncodes.l2
   repeat' first
   | (with_reducible exact ih0 _ _ _)
   | (with_reducible exact ih1 _ _ _ _ _ _ _ _)
   | (with_reducible exact ih2 _ _ _ _ _ _ _ _ _ _ _)
   | (with_reducible exact ih3 _ _ _ _ _ _ _ _ _ _ _)
   | (with_reducible exact ih4 _ _ _ _ _ _ _ _ _ _)
   | (with_reducible exact five_Encode.mono _ _ _)
   | (with_reducible exact five_Pieces.mono _ _ _)
   | (with_reducible exact glossatorref22_Same.mono _ _ _)
   | (with_reducible exact glossatorref23_Encode.mono _ _ _)
   | (with_reducible exact glossatorref23_Pieces.mono _ _ _)
   | (with_reducible exact glossatorref23_Same.mono _ _ _)
   | (with_reducible exact LeO.refl _)
   | (with_reducible exact LeO.none _)
   | (with_reducible refine LeO.ite ?_ ?_)
   | (with_reducible refine LeO.bind ?_ (fun _ => ?_))
   | exact ih0 _ _ _
   | exact ih1 _ _ _ _ _ _ _ _
   | exact ih2 _ _ _ _ _ _ _ _ _ _ _
   | exact ih3 _ _ _ _ _ _ _ _ _ _ _
   | exact ih4 _ _ _ _ _ _ _ _ _ _
   | exact five_Encode.mono _ _ _
   | exact five_Pieces.mono _ _ _
   | exact glossatorref22_Same.mono _ _ _
   | exact glossatorref23_Encode.mono _ _ _
   | exact glossatorref23_Pieces.mono _ _ _
   | exact glossatorref23_Same.mono _ _ _
   | exact LeO.none _
   | refine LeO.ite ?_ ?_
   | refine LeO.bind ?_ (fun _ => ?_)
theorem glossatorlaw23_FiveEncodes.mono : ∀ a0 a1 k, LeO (glossatorlaw23_FiveEncodes.f k a0 a1) (glossatorlaw23_FiveEncodes.f (k + 1) a0 a1) := by
 intro a0 a1 k
 obtain ⟨ih0, ih1, ih2, ih3, ih4⟩ := glossatorlaw23_FiveEncodes.mono_l k
 unfold glossatorlaw23_FiveEncodes.f
 repeat' first
   | (with_reducible exact ih0 _ _ _)
   | (with_reducible exact ih1 _ _ _ _ _ _ _ _)
   | (with_reducible exact ih2 _ _ _ _ _ _ _ _ _ _ _)
   | (with_reducible exact ih3 _ _ _ _ _ _ _ _ _ _ _)
   | (with_reducible exact ih4 _ _ _ _ _ _ _ _ _ _)
   | (with_reducible exact five_Encode.mono _ _ _)
   | (with_reducible exact five_Pieces.mono _ _ _)
   | (with_reducible exact glossatorref22_Same.mono _ _ _)
   | (with_reducible exact glossatorref23_Encode.mono _ _ _)
   | (with_reducible exact glossatorref23_Pieces.mono _ _ _)
   | (with_reducible exact glossatorref23_Same.mono _ _ _)
   | (with_reducible exact LeO.refl _)
   | (with_reducible exact LeO.none _)
   | (with_reducible refine LeO.ite ?_ ?_)
   | (with_reducible refine LeO.bind ?_ (fun _ => ?_))
   | exact ih0 _ _ _
   | exact ih1 _ _ _ _ _ _ _ _
   | exact ih2 _ _ _ _ _ _ _ _ _ _ _
   | exact ih3 _ _ _ _ _ _ _ _ _ _ _
   | exact ih4 _ _ _ _ _ _ _ _ _ _
   | exact five_Encode.mono _ _ _
   | exact five_Pieces.mono _ _ _
   | exact glossatorref22_Same.mono _ _ _
   | exact glossatorref23_Encode.mono _ _ _
   | exact glossatorref23_Pieces.mono _ _ _
   | exact glossatorref23_Same.mono _ _ _
   | exact LeO.none _
   | refine LeO.ite ?_ ?_
   | refine LeO.bind ?_ (fun _ => ?_)
set_option maxHeartbeats 8000000 in
set_option maxRecDepth 100000 in
theorem glossatorlaw23_FiveEncodes.calls (k : Nat) (a0 : ByteArray) (A1 : Option Addr) (c1 : Nat) (l1 : List (S38)) (r : Bool) (w : World) (hr1 : Kd.C k38 w A1 l1.length l1) (hc1 : l1.length ≤ c1) (hG : GlobOk w) (h : glossatorlaw23_FiveEncodes.f k a0 l1 = some r) :
  Calls Tryd.prog 3 #[.string a0, .slice A1 l1.length c1] w fun e w' => e = .returned (.bool r) ∧ Below w.heap.size w w' := by
 have HG := Aside0.mk hG; clear hG; have HR1 := Aside0.mk hr1; have HC1 := Aside0.mk hc1; clear hr1 hc1; have HB := Aside0.mk (Below.refl w.heap.size w)
 have H : (if (a0.size : Int) > 3000 then (glossatorlaw23_FiveEncodes.j0 k a0 l1 true) else (glossatorlaw23_FiveEncodes.j0 k a0 l1 (decide ((l1.length : Int) > 1000)))) = some r := h
 clear h; have HC3 := Aside0.mk H; clear H; go_enter Tryd.func3, Tryd.ntmps3
 go_upto_region 1 with (fail)
 go_cut [24] (fun v24 wc => ∃ (kq : Nat) (x24_2 : Bool), v24 = .bool x24_2 ∧ Aside0 (glossatorlaw23_FiveEncodes.j0 kq a0 l1 x24_2 = some r) ∧ Aside0 (kq ≤ k) ∧ Aside0 (Below w.heap.size w wc))
 case first =>
  have H := HC3.out
  clear HC3; by_cases c4 : (a0.size : Int) > 3000
  ·rw [if_pos c4] at H; have c4b0 : decide (3000 < (a0.size : Int)) = true := decide_eq_true c4; have c4b1 : decide (3000 < a0.size) = true := decide_eq_true (by omega)
   have c4b2 : (3000 < a0.size) = True := eq_true (by omega)
   clear c4; (first | rw [c4b0] | rw [c4b1] | (simp only [i64_w, i32_w]; rw [c4b0]) | skip)
   have H' := Aside0.mk H; clear H; go_wp2
   go_meet
   case rel => exact ⟨_, (true), (by first | rfl | (simp; done) | (simp [*]; done) | (simp; exact xEmpty_ne _) | (simp [*]; exact xEmpty_ne _)), H', ⟨by first | omega | exact Nat.le_refl _⟩, ⟨bl HB⟩⟩
  ·rw [if_neg c4] at H; have c4b0 : decide (3000 < (a0.size : Int)) = false := decide_eq_false c4; have c4b1 : decide (3000 < a0.size) = false := decide_eq_false (by omega)
   have c4b2 : (3000 < a0.size) = False := eq_false (by omega)
   clear c4; (first | rw [c4b0] | rw [c4b1] | (simp only [i64_w, i32_w]; rw [c4b0]) | skip)
   have H' := Aside0.mk H; clear H; go_wp2
   go_meet
   case rel => exact ⟨_, (decide ((l1.length : Int) > 1000)), (by first | rfl | (simp; done) | (simp [*]; done) | (simp; exact xEmpty_ne _) | (simp [*]; exact xEmpty_ne _)), H', ⟨by first | omega | exact Nat.le_refl _⟩, ⟨bl HB⟩⟩
 case rest =>
  clear HC3; (try clear c1); (try clear p2); (try clear c3); (try clear c4); (try clear c4b0); (try clear c4b1); (try clear c4b2); obtain ⟨kq, x24_2, rfl, HA, HJ2, HB⟩ := hcut
  cases kq with
  | zero => exact absurd HA.out (by simp [glossatorlaw23_FiveEncodes.j0])
  | succ kj2 =>
   have H := HA.out
   clear HA; simp only [glossatorlaw23_FiveEncodes.j0] at H
   by_cases c5 : x24_2 = true
   ·subst c5; have H1 : (some true) = some r := by rw [if_pos rfl] at H; exact H
    clear H; have H := H1
    clear H1; obtain rfl := Option.some.inj H; go_wp2
    go_ret
    exact ⟨by first | rfl | (simp [errW_none, errW_some] <;> rfl) | (simp [*, errW_none, errW_some] <;> rfl), bl HB⟩
   ·replace c5 := Bool.eq_false_iff.mpr c5
    subst c5; have H1 : ((some (([] : List (S38)) : List (S38))).bind fun y270 => (if y270.length + l1.length < 4398046511104 then ((glossatorref23_Encode.f kj2 a0 l1).bind fun bt276 => ((glossatorref23_Pieces.f kj2 a0 l1).bind fun bt280 => (glossatorlaw23_FiveEncodes.l0 kj2 a0 l1 (y270 ++ l1) bt276.1 bt276.2 bt280.1 bt280.2 0))) else (none))) = some r := by rw [if_neg (show ¬ (false = true) by decide)] at H; exact H
    clear H; have H := H1
    clear H1; obtain ⟨y270, hy270⟩ : ∃ y_ : List (S38), y_ = (([] : List (S38))) := ⟨_, rfl⟩
    replace H : (if y270.length + l1.length < 4398046511104 then ((glossatorref23_Encode.f kj2 a0 l1).bind fun bt276 => ((glossatorref23_Pieces.f kj2 a0 l1).bind fun bt280 => (glossatorlaw23_FiveEncodes.l0 kj2 a0 l1 (y270 ++ l1) bt276.1 bt276.2 bt280.1 bt280.2 0))) else (none)) = some r := by first | (rw [hy270]; with_reducible exact H) | (have H2_ := (Option.bind_some _ _).symm.trans H; rw [hy270]; with_reducible exact H2_) | (have H2_ := (Option.bind_some _ _).symm.trans H; with_reducible exact H2_) | with_reducible exact H | (rw [hy270]; exact H) | exact H
    have Ny270 := Aside0.mk hy270; clear hy270; by_cases c6 : y270.length + l1.length < 4398046511104
    ·rw [if_pos c6] at H; have LMc6 := Aside0.mk c6; clear c6; obtain ⟨y273, hy273⟩ : ∃ y_ : List (S38), y_ = (y270 ++ l1) := ⟨_, rfl⟩
     replace H : ((glossatorref23_Encode.f kj2 a0 l1).bind fun bt276 => ((glossatorref23_Pieces.f kj2 a0 l1).bind fun bt280 => (glossatorlaw23_FiveEncodes.l0 kj2 a0 l1 y273 bt276.1 bt276.2 bt280.1 bt280.2 0))) = some r := by first | (rw [hy273]; with_reducible exact H) | (have H2_ := (Option.bind_some _ _).symm.trans H; rw [hy273]; with_reducible exact H2_) | (have H2_ := (Option.bind_some _ _).symm.trans H; with_reducible exact H2_) | with_reducible exact H | (rw [hy273]; exact H) | exact H
     have Ny273 := Aside0.mk hy273; clear hy273; replace H := Option.bind_eq_some_iff.mp H
     obtain ⟨⟨t276, t277⟩, A70, H⟩ := H
     replace H : ((glossatorref23_Pieces.f kj2 a0 l1).bind fun bt280 => (glossatorlaw23_FiveEncodes.l0 kj2 a0 l1 y273 t276 t277 bt280.1 bt280.2 0)) = some r := H
     have A7 := Aside0.mk A70; clear A70; replace H := Option.bind_eq_some_iff.mp H
     obtain ⟨⟨t280, t281⟩, A80, H⟩ := H
     replace H : (glossatorlaw23_FiveEncodes.l0 kj2 a0 l1 y273 t276 t277 t280 t281 0) = some r := H
     have A8 := Aside0.mk A80; clear A80; have H' := Aside0.mk H; clear H; go_wp2_with (first | ((with_reducible refine gate_dst (N := 25) rfl ?_); (try (refine gate_guard (by rfl) ?_; dsimp only)); refine Kd.R_lit k38 _ 38 ?hg (N := 25) ?hd (xs := ([] : List (S38))) (inner := []) (ok := fun _ => True) (okp := fun _ => True) ?hr ?hp (fun _ hk => hk) trivial (Below.refl _ _) (Nat.le_refl _) (by simp) ?_; (case hd => rfl); (case hg => rfl); (case hr => first | (go_simp; done) | (go_simp; rfl)); (case hp => exact (Reps.none _ _)); intro v271 w9 ho10 hb hg_ hnew_; clear hg_ hnew_; (first | rw [← Ny270.out] at ho10 | (simp only [Int.reduceToNat] at ho10; rw [← Ny270.out] at ho10)); have n0_ := Aside0.mk (Kd.R_lower ho10 (below_size (bl HB))); have n1_ := Aside0.mk (below_step (bl HB) hb); clear HB; have HO272 := n0_; have HB := n1_; clear n0_ n1_; clear hb ho10) | ((with_reducible refine gate_builtin (b := .append) (xs := #[.tmp 25, .tmp 26]) rfl ?_); (try (refine gate_guard (by rfl) ?_; dsimp only)); at_builtin; refine Kd.R_append_rows k38 (w0 := w) w.heap.size rfl (.tmp 25) (.tmp 26) 22 38 (.agg #[(.int .i64 0), (.int .i64 0), (.int .i64 0), (.int .i64 0)]) 32 rfl Tryd.underlying22 info38 rfl (by decide) (by omega) v271 y270 l1 _ _ _ (fun _ => True) (fun _ => False) rfl rfl ?aO ?aR (fun _ _ h => h) (fun _ h => h.elim) ?aF ?aB ?aS ?aL ?_; (case aR => repeat (first | exact (Kd.C_below HR1.out HB.out) | (with_reducible refine Kd.C_alloc ?_ _) | (with_reducible refine Kd.C_drewN ?_ _) | (with_reducible refine Kd.C_drew ?_))); (case aB => exact (bl HB)); (case aF => exact (fun _ _ => trivial)); (case aO => exact (rl HO272)); (case aS => exact (below_size (bl HB))); (case aL => have := LMc6.out; omega); intro v274 w11 ho hb hg hat; rw [← Ny273.out] at ho; have n0_ := Aside0.mk (hb); have n1_ := Aside0.mk (ho); clear HB; clear HO272; have HB := n0_; have HO275 := n1_; clear n0_ n1_; clear ho hb hg hat) | ((with_reducible refine gate_callee (f := 8) rfl ?_); refine goesL_ (some 31) rfl rfl Tryd.func8 (by kernel_rfl) rfl #[.string a0, .slice A1 l1.length c1] rfl (by (try simp only [List.map_toArray, List.map_cons, List.map_nil]); first | done | rfl | (simp only [List.length_drop, List.length_take]; rfl)) ?_; (with_reducible refine (glossatorref23_Encode.calls kj2 a0 _ _ l1 t276 t277 _ ?side1 ?side2 A7.out).mono ?_); (case side1 => repeat (first | exact (Kd.C_below HR1.out HB.out) | (with_reducible refine Kd.C_alloc ?_ _) | (with_reducible refine Kd.C_drewN ?_ _) | (with_reducible refine Kd.C_drew ?_))); (case side2 => exact HC1.out); rintro e w12 ⟨v278, rfl, ho0, hb⟩; refine ⟨_, rfl, ?_⟩; have n0_ := Aside0.mk (Kd.R_below (rl HO275) hb); have n1_ := Aside0.mk (Kd.R_lower ho0 (below_size (bl HB))); have n2_ := Aside0.mk (below_step (bl HB) hb); clear HO275; clear HB; have HO275 := n0_; have HO279 := n1_; have HB := n2_; clear n0_ n1_ n2_; (try clear hb); (try clear hb2); (try clear hk); (try clear hi); (try clear ho0)) | ((with_reducible refine gate_callee (f := 9) rfl ?_); refine goesL_ (some 37) rfl rfl Tryd.func9 (by kernel_rfl) rfl #[.string a0, .slice A1 l1.length c1] rfl (by (try simp only [List.map_toArray, List.map_cons, List.map_nil]); first | done | rfl | (simp only [List.length_drop, List.length_take]; rfl)) ?_; (with_reducible refine (glossatorref23_Pieces.calls kj2 a0 _ _ l1 t280 t281 _ ?side1 ?side2 A8.out).mono ?_); (case side1 => repeat (first | exact (Kd.C_below HR1.out HB.out) | (with_reducible refine Kd.C_alloc ?_ _) | (with_reducible refine Kd.C_drewN ?_ _) | (with_reducible refine Kd.C_drew ?_))); (case side2 => exact HC1.out); rintro e w13 ⟨v282, rfl, ho0, hb⟩; refine ⟨_, rfl, ?_⟩; have n0_ := Aside0.mk (Kd.R_elder' (rl HO275) (Kd.R_base ho0) hb); have n1_ := Aside0.mk (Kd.R_below (rl HO279) hb); have n2_ := Aside0.mk (Kd.R_lower (Kd.R_new' ho0 (Kd.R_lt (rl HO275))) (below_size (bl HB))); have n3_ := Aside0.mk (below_step (bl HB) hb); clear HO275; clear HO279; clear HB; have HO275 := n0_; have HO279 := n1_; have HO283 := n2_; have HB := n3_; clear n0_ n1_ n2_ n3_; (try clear hb); (try clear hb2); (try clear hk); (try clear hi); (try clear ho0)))
     go_loopg [10] kj2 (fun kq v10 w' => ∃ (x5_2 : List (S38)) (x6_2 : List Int) (x8_2 : List (S38)) (x10_2 : Int), v10 = .int .i64 x10_2 ∧ Aside0 (glossatorlaw23_FiveEncodes.l0 kq a0 l1 x5_2 x6_2 t277 x8_2 t281 x10_2 = some r) ∧ Aside0 (kq ≤ kj2) ∧ Aside0 (Kd.R k38 38 w' w.heap.size (fun k_ => some k_ ≠ (v282 : Value).ownBlock) v274 x5_2) ∧ Aside0 (Kd.R (Kd.int .i64) 3 w' w.heap.size (fun _ => True) v278 x6_2) ∧ Aside0 (Kd.R k38 38 w' w.heap.size (fun k_ => some k_ ≠ (v274 : Value).ownBlock) v282 x8_2) ∧ Aside0 (Below w.heap.size w w'))
     case atStart => exact ⟨(y273), (t276), (t280), (0), (by first | rfl | (simp; done) | (simp [*]; done) | (simp; exact xEmpty_ne _) | (simp [*]; exact xEmpty_ne _)), H', ⟨Nat.le_refl _⟩, ⟨by (with_reducible repeat (first | apply Kd.R_alloc | apply Kd.R_drewN | apply Kd.R_drew)); exact Kd.R_mono HO275.out (fun _ hk => hk.2)⟩, ⟨rl HO279⟩, ⟨by (with_reducible repeat (first | apply Kd.R_alloc | apply Kd.R_drewN | apply Kd.R_drew)); exact Kd.R_mono HO283.out (fun _ hk => hk.2)⟩, ⟨bl HB⟩⟩
     case round =>
      clear H'; (try clear c1); (try clear p2); (try clear c3); (try clear c4); (try clear c4b0); (try clear c4b1); (try clear c4b2); (try clear c5); (try clear c6); (try clear c8); (try clear c9); (try clear p2); (try clear HO_5); (try clear HO_6); (try clear HO_8); (try clear HB)
      obtain ⟨x5_2, x6_2, x8_2, x10_2, rfl, HA, HK2, HO_5, HO_6, HO_8, HB⟩ := hrel
      cases gk with
      | zero => exact absurd HA.out (by simp [glossatorlaw23_FiveEncodes.l0])
      | succ k2 =>
       have H := HA.out
       clear HA; simp only [glossatorlaw23_FiveEncodes.l0] at H
       by_cases c14 : x10_2 < 2
       ·rw [if_pos c14] at H; have c14b0 : decide (x10_2 < 2) = true := decide_eq_true c14; clear c14; replace H := Option.bind_eq_some_iff.mp H
        obtain ⟨⟨t284, t285⟩, A150, H⟩ := H
        replace H : ((five_Pieces.f k2 a0 x5_2).bind fun bt288 => ((glossatorref23_Same.f k2 t284 x6_2).bind fun t292 => (if t292 = true then (if t285 = t277 then ((glossatorref22_Same.f k2 bt288.1 x8_2).bind fun t293 => (if t293 = true then (if bt288.2 = t281 then ((glossatorref22_Same.f k2 x5_2 l1).bind fun t294 => (glossatorlaw23_FiveEncodes.j2 k2 a0 l1 x5_2 x6_2 t277 x8_2 t281 x10_2 t284 bt288.1 (!t294))) else (glossatorlaw23_FiveEncodes.j2 k2 a0 l1 x5_2 x6_2 t277 x8_2 t281 x10_2 t284 bt288.1 true)) else (glossatorlaw23_FiveEncodes.j2 k2 a0 l1 x5_2 x6_2 t277 x8_2 t281 x10_2 t284 bt288.1 true))) else (glossatorlaw23_FiveEncodes.j2 k2 a0 l1 x5_2 x6_2 t277 x8_2 t281 x10_2 t284 bt288.1 true)) else (glossatorlaw23_FiveEncodes.j2 k2 a0 l1 x5_2 x6_2 t277 x8_2 t281 x10_2 t284 bt288.1 true)))) = some r := H
        have A15 := Aside0.mk A150; clear A150; replace H := Option.bind_eq_some_iff.mp H
        obtain ⟨⟨t288, t289⟩, A160, H⟩ := H
        replace H : ((glossatorref23_Same.f k2 t284 x6_2).bind fun t292 => (if t292 = true then (if t285 = t277 then ((glossatorref22_Same.f k2 t288 x8_2).bind fun t293 => (if t293 = true then (if t289 = t281 then ((glossatorref22_Same.f k2 x5_2 l1).bind fun t294 => (glossatorlaw23_FiveEncodes.j2 k2 a0 l1 x5_2 x6_2 t277 x8_2 t281 x10_2 t284 t288 (!t294))) else (glossatorlaw23_FiveEncodes.j2 k2 a0 l1 x5_2 x6_2 t277 x8_2 t281 x10_2 t284 t288 true)) else (glossatorlaw23_FiveEncodes.j2 k2 a0 l1 x5_2 x6_2 t277 x8_2 t281 x10_2 t284 t288 true))) else (glossatorlaw23_FiveEncodes.j2 k2 a0 l1 x5_2 x6_2 t277 x8_2 t281 x10_2 t284 t288 true)) else (glossatorlaw23_FiveEncodes.j2 k2 a0 l1 x5_2 x6_2 t277 x8_2 t281 x10_2 t284 t288 true))) = some r := H
        have A16 := Aside0.mk A160; clear A160; have HC17 := Aside0.mk H; clear H; obtain ⟨Ao18, co18, eo18⟩ := Kd.R_slice HO_5.out
        subst eo18; go_upto_region 11 with (first | ((with_reducible refine gate_callee (f := 10) rfl ?_); refine goesL_ (some 47) rfl rfl Tryd.func10 (by kernel_rfl) rfl #[.string a0, .slice Ao18 x5_2.length co18] rfl (by (try simp only [List.map_toArray, List.map_cons, List.map_nil]); first | done | rfl | (simp only [List.length_drop, List.length_take]; rfl)) ?_; (with_reducible refine (five_Encode.calls k2 a0 _ _ x5_2 t284 t285 _ ?side1 ?side2 (by first | exact HG.out | exact GlobOk.below HG.out (bl HB)) A15.out).mono ?_); (case side1 => repeat (first | exact (Kd.R_reads' HO_5.out).2.2 | (with_reducible refine Kd.C_alloc ?_ _) | (with_reducible refine Kd.C_drewN ?_ _) | (with_reducible refine Kd.C_drew ?_))); (case side2 => exact (Kd.R_reads' HO_5.out).2.1); rintro e w19 ⟨v286, rfl, ho0, hb⟩; refine ⟨_, rfl, ?_⟩; have n0_ := Aside0.mk (Kd.R_below (rl HO_5) hb); have n1_ := Aside0.mk (Kd.R_elder' (rl HO_6) (Kd.R_base ho0) hb); have n2_ := Aside0.mk (Kd.R_below (rl HO_8) hb); have n3_ := Aside0.mk (Kd.R_lower (Kd.R_new' ho0 (Kd.R_lt (rl HO_6))) (below_size (bl HB))); have n4_ := Aside0.mk (below_step (bl HB) hb); clear HO_5; clear HO_6; clear HO_8; clear HB; have HO_5 := n0_; have HO_6 := n1_; have HO_8 := n2_; have HO287 := n3_; have HB := n4_; clear n0_ n1_ n2_ n3_ n4_; (try clear hb); (try clear hb2); (try clear hk); (try clear hi); (try clear ho0)) | ((with_reducible refine gate_callee (f := 11) rfl ?_); refine goesL_ (some 53) rfl rfl Tryd.func11 (by kernel_rfl) rfl #[.string a0, .slice Ao18 x5_2.length co18] rfl (by (try simp only [List.map_toArray, List.map_cons, List.map_nil]); first | done | rfl | (simp only [List.length_drop, List.length_take]; rfl)) ?_; (with_reducible refine (five_Pieces.calls k2 a0 _ _ x5_2 t288 t289 _ ?side1 ?side2 (by first | exact HG.out | exact GlobOk.below HG.out (bl HB)) A16.out).mono ?_); (case side1 => repeat (first | exact (Kd.R_reads' HO_5.out).2.2 | (with_reducible refine Kd.C_alloc ?_ _) | (with_reducible refine Kd.C_drewN ?_ _) | (with_reducible refine Kd.C_drew ?_))); (case side2 => exact (Kd.R_reads' HO_5.out).2.1); rintro e w20 ⟨v290, rfl, ho0, hb⟩; refine ⟨_, rfl, ?_⟩; have n0_ := Aside0.mk (Kd.R_elder' (rl HO_5) (Kd.R_base ho0) hb); have n1_ := Aside0.mk (Kd.R_below (rl HO_6) hb); have n2_ := Aside0.mk (Kd.R_elder' (rl HO_8) (Kd.R_base ho0) hb); have n3_ := Aside0.mk (Kd.R_below (rl HO287) hb); have n4_ := Aside0.mk (Kd.R_lower (Kd.R_new' (Kd.R_new' ho0 (Kd.R_lt (rl HO_5))) (Kd.R_lt (rl HO_8))) (below_size (bl HB))); have n5_ := Aside0.mk (below_step (bl HB) hb); clear HO_5; clear HO_6; clear HO_8; clear HO287; clear HB; have HO_5 := n0_; have HO_6 := n1_; have HO_8 := n2_; have HO287 := n3_; have HO291 := n4_; have HB := n5_; clear n0_ n1_ n2_ n3_ n4_ n5_; (try clear hb); (try clear hb2); (try clear hk); (try clear hi); (try clear ho0)))
        (try simp only [Act.put, List.setIfInBounds_toArray, List.set_cons_zero, List.set_cons_succ])
        go_cut [81] (fun v81 wc => ∃ (kq : Nat) (x81_16 : Bool), v81 = .bool x81_16 ∧ Aside0 (glossatorlaw23_FiveEncodes.j2 kq a0 l1 x5_2 x6_2 t277 x8_2 t281 x10_2 t284 t288 x81_16 = some r) ∧ Aside0 (kq ≤ k2) ∧ Aside0 (Kd.R k38 38 wc w.heap.size (fun k_ => some k_ ≠ (v282 : Value).ownBlock ∧ some k_ ≠ (v290 : Value).ownBlock) (.slice Ao18 x5_2.length co18) x5_2) ∧ Aside0 (Kd.R (Kd.int .i64) 3 wc w.heap.size (fun k_ => some k_ ≠ (v286 : Value).ownBlock) v278 x6_2) ∧ Aside0 (Kd.R k38 38 wc w.heap.size (fun k_ => some k_ ≠ ((.slice Ao18 x5_2.length co18) : Value).ownBlock ∧ some k_ ≠ (v290 : Value).ownBlock) v282 x8_2) ∧ Aside0 (Kd.R (Kd.int .i64) 3 wc w.heap.size (fun k_ => some k_ ≠ (v278 : Value).ownBlock) v286 t284) ∧ Aside0 (Kd.R k38 38 wc w.heap.size (fun k_ => some k_ ≠ ((.slice Ao18 x5_2.length co18) : Value).ownBlock ∧ some k_ ≠ (v282 : Value).ownBlock) v290 t288) ∧ Aside0 (Below w.heap.size w wc))
        case first =>
         have H := HC17.out
         clear HC17; replace H := Option.bind_eq_some_iff.mp H
         obtain ⟨t292, A210, H⟩ := H
         replace H : (if t292 = true then (if t285 = t277 then ((glossatorref22_Same.f k2 t288 x8_2).bind fun t293 => (if t293 = true then (if t289 = t281 then ((glossatorref22_Same.f k2 x5_2 l1).bind fun t294 => (glossatorlaw23_FiveEncodes.j2 k2 a0 l1 x5_2 x6_2 t277 x8_2 t281 x10_2 t284 t288 (!t294))) else (glossatorlaw23_FiveEncodes.j2 k2 a0 l1 x5_2 x6_2 t277 x8_2 t281 x10_2 t284 t288 true)) else (glossatorlaw23_FiveEncodes.j2 k2 a0 l1 x5_2 x6_2 t277 x8_2 t281 x10_2 t284 t288 true))) else (glossatorlaw23_FiveEncodes.j2 k2 a0 l1 x5_2 x6_2 t277 x8_2 t281 x10_2 t284 t288 true)) else (glossatorlaw23_FiveEncodes.j2 k2 a0 l1 x5_2 x6_2 t277 x8_2 t281 x10_2 t284 t288 true)) = some r := H
         have A21 := Aside0.mk A210; clear A210; by_cases c22 : t292 = true
         ·subst c22; have H1 : (if t285 = t277 then ((glossatorref22_Same.f k2 t288 x8_2).bind fun t293 => (if t293 = true then (if t289 = t281 then ((glossatorref22_Same.f k2 x5_2 l1).bind fun t294 => (glossatorlaw23_FiveEncodes.j2 k2 a0 l1 x5_2 x6_2 t277 x8_2 t281 x10_2 t284 t288 (!t294))) else (glossatorlaw23_FiveEncodes.j2 k2 a0 l1 x5_2 x6_2 t277 x8_2 t281 x10_2 t284 t288 true)) else (glossatorlaw23_FiveEncodes.j2 k2 a0 l1 x5_2 x6_2 t277 x8_2 t281 x10_2 t284 t288 true))) else (glossatorlaw23_FiveEncodes.j2 k2 a0 l1 x5_2 x6_2 t277 x8_2 t281 x10_2 t284 t288 true)) = some r := by rw [if_pos rfl] at H; exact H
          clear H; have H := H1
          clear H1; by_cases c23 : t285 = t277
          ·rw [if_pos c23] at H; have c23b0 : (t285 == t277) = true := beq_iff_eq.mpr c23
           have c23b1 : (t285 != t277) = false := bne_eq_false_iff_eq.mpr c23
           clear c23; (first | rw [c23b0] | rw [c23b1] | (simp only [i64_w, i32_w]; rw [c23b0]) | skip)
           replace H := Option.bind_eq_some_iff.mp H
           obtain ⟨t293, A240, H⟩ := H
           replace H : (if t293 = true then (if t289 = t281 then ((glossatorref22_Same.f k2 x5_2 l1).bind fun t294 => (glossatorlaw23_FiveEncodes.j2 k2 a0 l1 x5_2 x6_2 t277 x8_2 t281 x10_2 t284 t288 (!t294))) else (glossatorlaw23_FiveEncodes.j2 k2 a0 l1 x5_2 x6_2 t277 x8_2 t281 x10_2 t284 t288 true)) else (glossatorlaw23_FiveEncodes.j2 k2 a0 l1 x5_2 x6_2 t277 x8_2 t281 x10_2 t284 t288 true)) = some r := H
           have A24 := Aside0.mk A240; clear A240; by_cases c25 : t293 = true
           ·subst c25; have H1 : (if t289 = t281 then ((glossatorref22_Same.f k2 x5_2 l1).bind fun t294 => (glossatorlaw23_FiveEncodes.j2 k2 a0 l1 x5_2 x6_2 t277 x8_2 t281 x10_2 t284 t288 (!t294))) else (glossatorlaw23_FiveEncodes.j2 k2 a0 l1 x5_2 x6_2 t277 x8_2 t281 x10_2 t284 t288 true)) = some r := by rw [if_pos rfl] at H; exact H
            clear H; have H := H1
            clear H1; by_cases c26 : t289 = t281
            ·rw [if_pos c26] at H; have c26b0 : (t289 == t281) = true := beq_iff_eq.mpr c26
             have c26b1 : (t289 != t281) = false := bne_eq_false_iff_eq.mpr c26
             clear c26; replace H := Option.bind_eq_some_iff.mp H
             obtain ⟨t294, A270, H⟩ := H
             replace H : (glossatorlaw23_FiveEncodes.j2 k2 a0 l1 x5_2 x6_2 t277 x8_2 t281 x10_2 t284 t288 (!t294)) = some r := H
             have A27 := Aside0.mk A270; clear A270; have H' := Aside0.mk H; clear H; obtain ⟨Ao28, co28, eo28⟩ := Kd.R_slice HO287.out
             subst eo28; obtain ⟨Ao29, co29, eo29⟩ := Kd.R_slice HO_6.out
             subst eo29; go_wp2_with (first | ((with_reducible refine gate_callee (f := 12) rfl ?_); refine goesL_ (some 58) rfl rfl Tryd.func12 (by kernel_rfl) rfl #[.slice Ao28 t284.length co28, .slice Ao29 x6_2.length co29] rfl (by (try simp only [List.map_toArray, List.map_cons, List.map_nil]); first | done | rfl | (simp only [List.length_drop, List.length_take]; rfl)) ?_; (with_reducible refine (glossatorref23_Same.calls k2 _ _ t284 _ _ x6_2 true _ ?side1 ?side2 ?side3 ?side4 A21.out).mono ?_); (case side1 => repeat (first | exact (Kd.R_reads' HO287.out).2.2 | (with_reducible refine Kd.C_alloc ?_ _) | (with_reducible refine Kd.C_drewN ?_ _) | (with_reducible refine Kd.C_drew ?_))); (case side2 => exact (Kd.R_reads' HO287.out).2.1); (case side3 => repeat (first | exact (Kd.R_reads' HO_6.out).2.2 | (with_reducible refine Kd.C_alloc ?_ _) | (with_reducible refine Kd.C_drewN ?_ _) | (with_reducible refine Kd.C_drew ?_))); (case side4 => exact (Kd.R_reads' HO_6.out).2.1); rintro e w' ⟨rfl, ⟨nd, rfl⟩⟩; refine ⟨_, rfl, ?_⟩; obtain ⟨Ao30, co30, eo30⟩ := Kd.R_slice HO291.out; subst eo30; obtain ⟨Ao31, co31, eo31⟩ := Kd.R_slice HO_8.out; subst eo31) | (go_at_call 13; (with_reducible refine (glossatorref22_Same.calls k2 _ _ t288 _ _ x8_2 true _ ?side1 ?side2 ?side3 ?side4 A24.out).mono ?_); (case side1 => repeat (first | exact (Kd.R_reads' HO291.out).2.2 | (with_reducible refine Kd.C_alloc ?_ _) | (with_reducible refine Kd.C_drewN ?_ _) | (with_reducible refine Kd.C_drew ?_))); (case side2 => exact (Kd.R_reads' HO291.out).2.1); (case side3 => repeat (first | exact (Kd.R_reads' HO_8.out).2.2 | (with_reducible refine Kd.C_alloc ?_ _) | (with_reducible refine Kd.C_drewN ?_ _) | (with_reducible refine Kd.C_drew ?_))); (case side4 => exact (Kd.R_reads' HO_8.out).2.1); rintro e w' ⟨rfl, ⟨nd, rfl⟩⟩) | (go_at_call 13; (with_reducible refine (glossatorref22_Same.calls k2 _ _ x5_2 _ _ l1 t294 _ ?side1 ?side2 ?side3 ?side4 A27.out).mono ?_); (case side1 => repeat (first | exact (Kd.R_reads' HO_5.out).2.2 | (with_reducible refine Kd.C_alloc ?_ _) | (with_reducible refine Kd.C_drewN ?_ _) | (with_reducible refine Kd.C_drew ?_))); (case side2 => exact (Kd.R_reads' HO_5.out).2.1); (case side3 => repeat (first | exact (Kd.C_below HR1.out (bl HB)) | (with_reducible refine Kd.C_alloc ?_ _) | (with_reducible refine Kd.C_drewN ?_ _) | (with_reducible refine Kd.C_drew ?_))); (case side4 => exact HC1.out); rintro e w' ⟨rfl, ⟨nd, rfl⟩⟩))
             go_meet
             case rel => exact ⟨_, (!t294), (by first | rfl | (simp; done) | (simp [*]; done) | (simp; exact xEmpty_ne _) | (simp [*]; exact xEmpty_ne _)), H', ⟨by have := HJ2.out; have := HK2.out; first | omega | exact Nat.le_refl _⟩, ⟨rl HO_5⟩, ⟨by (with_reducible repeat (first | apply Kd.R_alloc | apply Kd.R_drewN | apply Kd.R_drew)); exact Kd.R_mono HO_6.out (fun _ hk => hk.2)⟩, ⟨rl HO_8⟩, ⟨by (with_reducible repeat (first | apply Kd.R_alloc | apply Kd.R_drewN | apply Kd.R_drew)); exact Kd.R_mono HO287.out (fun _ hk => hk.2)⟩, ⟨by (with_reducible repeat (first | apply Kd.R_alloc | apply Kd.R_drewN | apply Kd.R_drew)); exact Kd.R_mono HO291.out (fun _ hk => ⟨hk.1.2, hk.2⟩)⟩, ⟨bl HB⟩⟩
            ·rw [if_neg c26] at H; have c26b0 : (t289 == t281) = false := beq_eq_false_iff_ne.mpr c26; have c26b1 : (t289 != t281) = true := bne_iff_ne.mpr c26; have H' := Aside0.mk H; clear H; obtain ⟨Ao32, co32, eo32⟩ := Kd.R_slice HO287.out
             subst eo32; obtain ⟨Ao33, co33, eo33⟩ := Kd.R_slice HO_6.out
             subst eo33; go_wp2_with (first | ((with_reducible refine gate_callee (f := 12) rfl ?_); refine goesL_ (some 58) rfl rfl Tryd.func12 (by kernel_rfl) rfl #[.slice Ao32 t284.length co32, .slice Ao33 x6_2.length co33] rfl (by (try simp only [List.map_toArray, List.map_cons, List.map_nil]); first | done | rfl | (simp only [List.length_drop, List.length_take]; rfl)) ?_; (with_reducible refine (glossatorref23_Same.calls k2 _ _ t284 _ _ x6_2 true _ ?side1 ?side2 ?side3 ?side4 A21.out).mono ?_); (case side1 => repeat (first | exact (Kd.R_reads' HO287.out).2.2 | (with_reducible refine Kd.C_alloc ?_ _) | (with_reducible refine Kd.C_drewN ?_ _) | (with_reducible refine Kd.C_drew ?_))); (case side2 => exact (Kd.R_reads' HO287.out).2.1); (case side3 => repeat (first | exact (Kd.R_reads' HO_6.out).2.2 | (with_reducible refine Kd.C_alloc ?_ _) | (with_reducible refine Kd.C_drewN ?_ _) | (with_reducible refine Kd.C_drew ?_))); (case side4 => exact (Kd.R_reads' HO_6.out).2.1); rintro e w' ⟨rfl, ⟨nd, rfl⟩⟩; refine ⟨_, rfl, ?_⟩; obtain ⟨Ao34, co34, eo34⟩ := Kd.R_slice HO291.out; subst eo34; obtain ⟨Ao35, co35, eo35⟩ := Kd.R_slice HO_8.out; subst eo35) | (go_at_call 13; (with_reducible refine (glossatorref22_Same.calls k2 _ _ t288 _ _ x8_2 true _ ?side1 ?side2 ?side3 ?side4 A24.out).mono ?_); (case side1 => repeat (first | exact (Kd.R_reads' HO291.out).2.2 | (with_reducible refine Kd.C_alloc ?_ _) | (with_reducible refine Kd.C_drewN ?_ _) | (with_reducible refine Kd.C_drew ?_))); (case side2 => exact (Kd.R_reads' HO291.out).2.1); (case side3 => repeat (first | exact (Kd.R_reads' HO_8.out).2.2 | (with_reducible refine Kd.C_alloc ?_ _) | (with_reducible refine Kd.C_drewN ?_ _) | (with_reducible refine Kd.C_drew ?_))); (case side4 => exact (Kd.R_reads' HO_8.out).2.1); rintro e w' ⟨rfl, ⟨nd, rfl⟩⟩))
             go_meet
             case rel => exact ⟨_, (true), (by first | rfl | (simp; done) | (simp [*]; done) | (simp; exact xEmpty_ne _) | (simp [*]; exact xEmpty_ne _)), H', ⟨by have := HJ2.out; have := HK2.out; first | omega | exact Nat.le_refl _⟩, ⟨rl HO_5⟩, ⟨by (with_reducible repeat (first | apply Kd.R_alloc | apply Kd.R_drewN | apply Kd.R_drew)); exact Kd.R_mono HO_6.out (fun _ hk => hk.2)⟩, ⟨rl HO_8⟩, ⟨by (with_reducible repeat (first | apply Kd.R_alloc | apply Kd.R_drewN | apply Kd.R_drew)); exact Kd.R_mono HO287.out (fun _ hk => hk.2)⟩, ⟨by (with_reducible repeat (first | apply Kd.R_alloc | apply Kd.R_drewN | apply Kd.R_drew)); exact Kd.R_mono HO291.out (fun _ hk => ⟨hk.1.2, hk.2⟩)⟩, ⟨bl HB⟩⟩
           ·replace c25 := Bool.eq_false_iff.mpr c25
            subst c25; have H1 : (glossatorlaw23_FiveEncodes.j2 k2 a0 l1 x5_2 x6_2 t277 x8_2 t281 x10_2 t284 t288 true) = some r := by rw [if_neg (show ¬ (false = true) by decide)] at H; exact H
            clear H; have H := H1
            clear H1; have H' := Aside0.mk H; clear H; obtain ⟨Ao36, co36, eo36⟩ := Kd.R_slice HO287.out
            subst eo36; obtain ⟨Ao37, co37, eo37⟩ := Kd.R_slice HO_6.out
            subst eo37; go_wp2_with (first | ((with_reducible refine gate_callee (f := 12) rfl ?_); refine goesL_ (some 58) rfl rfl Tryd.func12 (by kernel_rfl) rfl #[.slice Ao36 t284.length co36, .slice Ao37 x6_2.length co37] rfl (by (try simp only [List.map_toArray, List.map_cons, List.map_nil]); first | done | rfl | (simp only [List.length_drop, List.length_take]; rfl)) ?_; (with_reducible refine (glossatorref23_Same.calls k2 _ _ t284 _ _ x6_2 true _ ?side1 ?side2 ?side3 ?side4 A21.out).mono ?_); (case side1 => repeat (first | exact (Kd.R_reads' HO287.out).2.2 | (with_reducible refine Kd.C_alloc ?_ _) | (with_reducible refine Kd.C_drewN ?_ _) | (with_reducible refine Kd.C_drew ?_))); (case side2 => exact (Kd.R_reads' HO287.out).2.1); (case side3 => repeat (first | exact (Kd.R_reads' HO_6.out).2.2 | (with_reducible refine Kd.C_alloc ?_ _) | (with_reducible refine Kd.C_drewN ?_ _) | (with_reducible refine Kd.C_drew ?_))); (case side4 => exact (Kd.R_reads' HO_6.out).2.1); rintro e w' ⟨rfl, ⟨nd, rfl⟩⟩; refine ⟨_, rfl, ?_⟩; obtain ⟨Ao38, co38, eo38⟩ := Kd.R_slice HO291.out; subst eo38; obtain ⟨Ao39, co39, eo39⟩ := Kd.R_slice HO_8.out; subst eo39) | (go_at_call 13; (with_reducible refine (glossatorref22_Same.calls k2 _ _ t288 _ _ x8_2 false _ ?side1 ?side2 ?side3 ?side4 A24.out).mono ?_); (case side1 => repeat (first | exact (Kd.R_reads' HO291.out).2.2 | (with_reducible refine Kd.C_alloc ?_ _) | (with_reducible refine Kd.C_drewN ?_ _) | (with_reducible refine Kd.C_drew ?_))); (case side2 => exact (Kd.R_reads' HO291.out).2.1); (case side3 => repeat (first | exact (Kd.R_reads' HO_8.out).2.2 | (with_reducible refine Kd.C_alloc ?_ _) | (with_reducible refine Kd.C_drewN ?_ _) | (with_reducible refine Kd.C_drew ?_))); (case side4 => exact (Kd.R_reads' HO_8.out).2.1); rintro e w' ⟨rfl, ⟨nd, rfl⟩⟩))
            go_meet
            case rel => exact ⟨_, (true), (by first | rfl | (simp; done) | (simp [*]; done) | (simp; exact xEmpty_ne _) | (simp [*]; exact xEmpty_ne _)), H', ⟨by have := HJ2.out; have := HK2.out; first | omega | exact Nat.le_refl _⟩, ⟨rl HO_5⟩, ⟨by (with_reducible repeat (first | apply Kd.R_alloc | apply Kd.R_drewN | apply Kd.R_drew)); exact Kd.R_mono HO_6.out (fun _ hk => hk.2)⟩, ⟨rl HO_8⟩, ⟨by (with_reducible repeat (first | apply Kd.R_alloc | apply Kd.R_drewN | apply Kd.R_drew)); exact Kd.R_mono HO287.out (fun _ hk => hk.2)⟩, ⟨by (with_reducible repeat (first | apply Kd.R_alloc | apply Kd.R_drewN | apply Kd.R_drew)); exact Kd.R_mono HO291.out (fun _ hk => ⟨hk.1.2, hk.2⟩)⟩, ⟨bl HB⟩⟩
          ·rw [if_neg c23] at H; have c23b0 : (t285 == t277) = false := beq_eq_false_iff_ne.mpr c23; have c23b1 : (t285 != t277) = true := bne_iff_ne.mpr c23; (first | rw [c23b0] | rw [c23b1] | (simp only [i64_w, i32_w]; rw [c23b0]) | skip)
           have H' := Aside0.mk H; clear H; obtain ⟨Ao40, co40, eo40⟩ := Kd.R_slice HO287.out
           subst eo40; obtain ⟨Ao41, co41, eo41⟩ := Kd.R_slice HO_6.out
           subst eo41; go_wp2_with (first | ((with_reducible refine gate_callee (f := 12) rfl ?_); refine goesL_ (some 58) rfl rfl Tryd.func12 (by kernel_rfl) rfl #[.slice Ao40 t284.length co40, .slice Ao41 x6_2.length co41] rfl (by (try simp only [List.map_toArray, List.map_cons, List.map_nil]); first | done | rfl | (simp only [List.length_drop, List.length_take]; rfl)) ?_; (with_reducible refine (glossatorref23_Same.calls k2 _ _ t284 _ _ x6_2 true _ ?side1 ?side2 ?side3 ?side4 A21.out).mono ?_); (case side1 => repeat (first | exact (Kd.R_reads' HO287.out).2.2 | (with_reducible refine Kd.C_alloc ?_ _) | (with_reducible refine Kd.C_drewN ?_ _) | (with_reducible refine Kd.C_drew ?_))); (case side2 => exact (Kd.R_reads' HO287.out).2.1); (case side3 => repeat (first | exact (Kd.R_reads' HO_6.out).2.2 | (with_reducible refine Kd.C_alloc ?_ _) | (with_reducible refine Kd.C_drewN ?_ _) | (with_reducible refine Kd.C_drew ?_))); (case side4 => exact (Kd.R_reads' HO_6.out).2.1); rintro e w' ⟨rfl, ⟨nd, rfl⟩⟩; refine ⟨_, rfl, ?_⟩))
           go_meet
           case rel => exact ⟨_, (true), (by first | rfl | (simp; done) | (simp [*]; done) | (simp; exact xEmpty_ne _) | (simp [*]; exact xEmpty_ne _)), H', ⟨by have := HJ2.out; have := HK2.out; first | omega | exact Nat.le_refl _⟩, ⟨rl HO_5⟩, ⟨by (with_reducible repeat (first | apply Kd.R_alloc | apply Kd.R_drewN | apply Kd.R_drew)); exact Kd.R_mono HO_6.out (fun _ hk => hk.2)⟩, ⟨rl HO_8⟩, ⟨by (with_reducible repeat (first | apply Kd.R_alloc | apply Kd.R_drewN | apply Kd.R_drew)); exact Kd.R_mono HO287.out (fun _ hk => hk.2)⟩, ⟨by (with_reducible repeat (first | apply Kd.R_alloc | apply Kd.R_drewN | apply Kd.R_drew)); exact Kd.R_mono HO291.out (fun _ hk => ⟨hk.1.2, hk.2⟩)⟩, ⟨bl HB⟩⟩
         ·replace c22 := Bool.eq_false_iff.mpr c22
          subst c22; have H1 : (glossatorlaw23_FiveEncodes.j2 k2 a0 l1 x5_2 x6_2 t277 x8_2 t281 x10_2 t284 t288 true) = some r := by rw [if_neg (show ¬ (false = true) by decide)] at H; exact H
          clear H; have H := H1
          clear H1; have H' := Aside0.mk H; clear H; obtain ⟨Ao42, co42, eo42⟩ := Kd.R_slice HO287.out
          subst eo42; obtain ⟨Ao43, co43, eo43⟩ := Kd.R_slice HO_6.out
          subst eo43; go_wp2_with (first | ((with_reducible refine gate_callee (f := 12) rfl ?_); refine goesL_ (some 58) rfl rfl Tryd.func12 (by kernel_rfl) rfl #[.slice Ao42 t284.length co42, .slice Ao43 x6_2.length co43] rfl (by (try simp only [List.map_toArray, List.map_cons, List.map_nil]); first | done | rfl | (simp only [List.length_drop, List.length_take]; rfl)) ?_; (with_reducible refine (glossatorref23_Same.calls k2 _ _ t284 _ _ x6_2 false _ ?side1 ?side2 ?side3 ?side4 A21.out).mono ?_); (case side1 => repeat (first | exact (Kd.R_reads' HO287.out).2.2 | (with_reducible refine Kd.C_alloc ?_ _) | (with_reducible refine Kd.C_drewN ?_ _) | (with_reducible refine Kd.C_drew ?_))); (case side2 => exact (Kd.R_reads' HO287.out).2.1); (case side3 => repeat (first | exact (Kd.R_reads' HO_6.out).2.2 | (with_reducible refine Kd.C_alloc ?_ _) | (with_reducible refine Kd.C_drewN ?_ _) | (with_reducible refine Kd.C_drew ?_))); (case side4 => exact (Kd.R_reads' HO_6.out).2.1); rintro e w' ⟨rfl, ⟨nd, rfl⟩⟩; refine ⟨_, rfl, ?_⟩))
          go_meet
          case rel => exact ⟨_, (true), (by first | rfl | (simp; done) | (simp [*]; done) | (simp; exact xEmpty_ne _) | (simp [*]; exact xEmpty_ne _)), H', ⟨by have := HJ2.out; have := HK2.out; first | omega | exact Nat.le_refl _⟩, ⟨rl HO_5⟩, ⟨by (with_reducible repeat (first | apply Kd.R_alloc | apply Kd.R_drewN | apply Kd.R_drew)); exact Kd.R_mono HO_6.out (fun _ hk => hk.2)⟩, ⟨rl HO_8⟩, ⟨by (with_reducible repeat (first | apply Kd.R_alloc | apply Kd.R_drewN | apply Kd.R_drew)); exact Kd.R_mono HO287.out (fun _ hk => hk.2)⟩, ⟨by (with_reducible repeat (first | apply Kd.R_alloc | apply Kd.R_drewN | apply Kd.R_drew)); exact Kd.R_mono HO291.out (fun _ hk => ⟨hk.1.2, hk.2⟩)⟩, ⟨bl HB⟩⟩
        case rest =>
         clear HC17; (try clear c1); (try clear c2); (try clear p2); (try clear c3); (try clear c4); (try clear c4b0); (try clear c4b1); (try clear c4b2); (try clear c5); (try clear c6); (try clear c8); (try clear c9); (try clear c10); (try clear c11); (try clear c12); (try clear c14); (try clear c14b0); (try clear c22); (try clear c23); (try clear c23b0); (try clear c23b1); (try clear c25); (try clear c26); (try clear c26b0); (try clear c26b1); (try clear p2); obtain ⟨kq, x81_16, rfl, HA, HJ16, HO_5, HO_6, HO_8, HO_11, HO_13, HB⟩ := hcut
         cases kq with
         | zero => exact absurd HA.out (by simp [glossatorlaw23_FiveEncodes.j2])
         | succ kj16 =>
          have H := HA.out
          clear HA; simp only [glossatorlaw23_FiveEncodes.j2] at H
          by_cases c44 : x81_16 = true
          ·subst c44; have H1 : (some false) = some r := by rw [if_pos rfl] at H; exact H
           clear H; have H := H1
           clear H1; obtain rfl := Option.some.inj H; go_wp2
           go_ret
           exact ⟨by first | rfl | (simp [errW_none, errW_some] <;> rfl) | (simp [*, errW_none, errW_some] <;> rfl), bl HB⟩
          ·replace c44 := Bool.eq_false_iff.mpr c44
           subst c44; have H1 : (glossatorlaw23_FiveEncodes.l1 kj16 a0 l1 x5_2 x6_2 t277 x8_2 t281 x10_2 t284 t288 0) = some r := by rw [if_neg (show ¬ (false = true) by decide)] at H; exact H
           clear H; have H := H1
           clear H1; have H' := Aside0.mk H; clear H; go_wp2
           go_loopg [15] kj16 (fun kq v15 w' => ∃ (x11_4 : List Int) (x15_4 : Int), v15 = .int .i64 x15_4 ∧ Aside0 (glossatorlaw23_FiveEncodes.l1 kq a0 l1 x5_2 x6_2 t277 x8_2 t281 x10_2 x11_4 t288 x15_4 = some r) ∧ Aside0 (kq ≤ kj16) ∧ Aside0 (Kd.R k38 38 w' w.heap.size (fun k_ => some k_ ≠ (v282 : Value).ownBlock ∧ some k_ ≠ (v290 : Value).ownBlock) (.slice Ao18 x5_2.length co18) x5_2) ∧ Aside0 (Kd.R (Kd.int .i64) 3 w' w.heap.size (fun k_ => some k_ ≠ (v286 : Value).ownBlock) v278 x6_2) ∧ Aside0 (Kd.R k38 38 w' w.heap.size (fun k_ => some k_ ≠ ((.slice Ao18 x5_2.length co18) : Value).ownBlock ∧ some k_ ≠ (v290 : Value).ownBlock) v282 x8_2) ∧ Aside0 (Kd.R (Kd.int .i64) 3 w' w.heap.size (fun k_ => some k_ ≠ (v278 : Value).ownBlock) v286 x11_4) ∧ Aside0 (Kd.R k38 38 w' w.heap.size (fun k_ => some k_ ≠ ((.slice Ao18 x5_2.length co18) : Value).ownBlock ∧ some k_ ≠ (v282 : Value).ownBlock) v290 t288) ∧ Aside0 (Below w.heap.size w w'))
           case atStart => exact ⟨(t284), (0), (by first | rfl | (simp; done) | (simp [*]; done) | (simp; exact xEmpty_ne _) | (simp [*]; exact xEmpty_ne _)), H', ⟨Nat.le_refl _⟩, ⟨rl HO_5⟩, ⟨rl HO_6⟩, ⟨rl HO_8⟩, ⟨rl HO_11⟩, ⟨rl HO_13⟩, ⟨bl HB⟩⟩
           case round =>
            clear H'; (try clear c1); (try clear c2); (try clear p2); (try clear c3); (try clear c4); (try clear c4b0); (try clear c4b1); (try clear c4b2); (try clear c5); (try clear c6); (try clear c8); (try clear c9); (try clear c10); (try clear c11); (try clear c12); (try clear c14); (try clear c14b0); (try clear c22); (try clear c23); (try clear c23b0); (try clear c23b1); (try clear c25); (try clear c26); (try clear c26b0); (try clear c26b1); (try clear c44); (try clear p2); (try clear HO_5); (try clear HO_6); (try clear HO_8); (try clear HO_11); (try clear HO_13); (try clear HB)
            obtain ⟨x11_4, x15_4, rfl, HA, HK4, HO_5, HO_6, HO_8, HO_11, HO_13, HB⟩ := hrel
            cases gk with
            | zero => exact absurd HA.out (by simp [glossatorlaw23_FiveEncodes.l1])
            | succ k4 =>
             have H := HA.out
             clear HA; simp only [glossatorlaw23_FiveEncodes.l1] at H
             by_cases c45 : x15_4 < (x11_4.length : Int)
             ·rw [if_pos c45] at H; have c45b0 : decide (x15_4 < (x11_4.length : Int)) = true := decide_eq_true c45; clear c45; by_cases c46 : 0 ≤ x15_4
              ·rw [if_pos c46] at H; have c46b0 : decide (0 ≤ x15_4) = true := decide_eq_true c46; clear c46; obtain ⟨y295, hy295⟩ : ∃ y_ : List Int, y_ = (x11_4.set (x15_4 : Int).toNat (-5)) := ⟨_, rfl⟩
               replace H : (glossatorlaw23_FiveEncodes.l1 k4 a0 l1 x5_2 x6_2 t277 x8_2 t281 x10_2 y295 t288 (wrap64 (x15_4 + 1))) = some r := by first | (rw [hy295]; with_reducible exact H) | (have H2_ := (Option.bind_some _ _).symm.trans H; rw [hy295]; with_reducible exact H2_) | (have H2_ := (Option.bind_some _ _).symm.trans H; with_reducible exact H2_) | with_reducible exact H | (rw [hy295]; exact H) | exact H
               have Ny295 := Aside0.mk hy295; clear hy295; have H' := Aside0.mk H; clear H; obtain ⟨Ao48, co48, eo48⟩ := Kd.R_slice HO_11.out
               subst eo48; have p47 : 0 ≤ (x15_4 : Int) := of_decide_eq_true (by first | (with_reducible assumption) | assumption)
               have q47 : (x15_4 : Int) < ((x11_4.length : Int) : Int) := of_decide_eq_true (by first | (with_reducible assumption) | assumption)
               obtain ⟨go47, co47, eo47, gb47, gl47, cl47, HG47⟩ := Kd.R_form HO_11.out (by omega)
               (first | cases eo47 | (injection eo47 with ea_ en_ ec_; (first | subst ea_ | (injection ea_ with ea_; subst ea_)); subst ec_; clear en_))
               have GB47 := Aside0.mk gb47; have GG47 := Aside0.mk HG47; clear gb47 gl47 HG47; obtain ⟨hx47_0, hf47_0⟩ := Kd.R_celln 0 HO_11.out (x15_4 : Int) p47 q47
               replace p47 := eq_true p47; replace q47 := eq_true q47; have HP49 := Kd.R_putg HO_11.out (x15_4 : Int) (-5)
               go_wp2_with (first | ((with_reducible refine gate_store (t := 3) (p := 90) rfl ?_); refine store_event (t := 3) (p := 90) (v := ?vo_w50) (w1 := (wr.setCell ⟨go47, (x15_4 : Int).toNat, none⟩ (.int .i64 (-5)))) ?hg ?ho ?hn ?hr ?_; (case ho => rfl); (case hg => rfl); (case hn => rfl); (case hr => first | (go_simp; done) | (go_simp; rfl)); intro w50 hw; have hg : wr.grownBy w50 (some go47) := (by rw [hw]; exact HP49.2); have hp_ : Kd.R (Kd.int .i64) 3 w50 w.heap.size (fun k_ => some k_ ≠ (v278 : Value).ownBlock) (.slice (some ⟨go47, 0, none⟩) x11_4.length co48) y295 := (by rw [hw, Ny295.out]; exact HP49.1); clear HP49; have n0_ := Aside0.mk (Kd.R_over' (v := (.slice (some ⟨go47, 0, none⟩) x11_4.length co48)) (rl HO_5) (Kd.R_typed HO_11.out) (by decide) hg); have n1_ := Aside0.mk (Kd.R_after (v := (.slice (some ⟨go47, 0, none⟩) x11_4.length co48)) (v1 := (.slice (some ⟨go47, 0, none⟩) x11_4.length co48)) (ok := (fun _ => True)) (by (with_reducible repeat (first | apply Kd.R_alloc | apply Kd.R_drewN | apply Kd.R_drew)); exact Kd.R_mono HO_6.out (fun _ hk => ⟨trivial, hk⟩)) hg (.inl rfl)); have n2_ := Aside0.mk (Kd.R_over' (v := (.slice (some ⟨go47, 0, none⟩) x11_4.length co48)) (rl HO_8) (Kd.R_typed HO_11.out) (by decide) hg); have n3_ := Aside0.mk (hp_); have n4_ := Aside0.mk (Kd.R_over' (v := (.slice (some ⟨go47, 0, none⟩) x11_4.length co48)) (rl HO_13) (Kd.R_typed HO_11.out) (by decide) hg); have n5_ := Aside0.mk ((by rw [hw]; exact below_set (HB.out) GB47.out : Below w.heap.size w w50)); clear HO_5; clear HO_6; clear HO_8; clear HO_11; clear HO_13; clear HB; have HO_5 := n0_; have HO_6 := n1_; have HO_8 := n2_; have HO_11 := n3_; have HO_13 := n4_; have HB := n5_; clear n0_ n1_ n2_ n3_ n4_ n5_; clear hg hw hp_))
               go_roundg k4
               case measure => have := HJ2.out; have := HK2.out; have := HJ16.out; have := HK4.out; omega
               case rel => exact ⟨(y295), (wrap64 (x15_4 + 1)), (by first | rfl | (simp; done) | (simp [*]; done) | (simp; exact xEmpty_ne _) | (simp [*]; exact xEmpty_ne _)), H', ⟨by have := HJ2.out; have := HK2.out; have := HJ16.out; have := HK4.out; omega⟩, ⟨rl HO_5⟩, ⟨by (with_reducible repeat (first | apply Kd.R_alloc | apply Kd.R_drewN | apply Kd.R_drew)); exact Kd.R_mono HO_6.out (fun _ hk => hk.2)⟩, ⟨rl HO_8⟩, ⟨rl HO_11⟩, ⟨rl HO_13⟩, ⟨bl HB⟩⟩
              ·rw [if_neg c46] at H; exact absurd H (by simp)
             ·rw [if_neg c45] at H; have c45b0 : decide (x15_4 < (x11_4.length : Int)) = false := decide_eq_false c45; clear c45; have H' := Aside0.mk H; clear H; obtain ⟨Ao51, co51, eo51⟩ := Kd.R_slice HO_11.out
              subst eo51; go_wp2
              go_loopg [16] k4 (fun kq v16 w' => ∃ (x13_5 : List (S38)) (x16_5 : Int), v16 = .int .i64 x16_5 ∧ Aside0 (glossatorlaw23_FiveEncodes.l2 kq a0 l1 x5_2 x6_2 t277 x8_2 t281 x10_2 x13_5 x16_5 = some r) ∧ Aside0 (kq ≤ k4) ∧ Aside0 (Kd.R k38 38 w' w.heap.size (fun k_ => some k_ ≠ (v282 : Value).ownBlock ∧ some k_ ≠ (v290 : Value).ownBlock) (.slice Ao18 x5_2.length co18) x5_2) ∧ Aside0 (Kd.R (Kd.int .i64) 3 w' w.heap.size (fun _ => True) v278 x6_2) ∧ Aside0 (Kd.R k38 38 w' w.heap.size (fun k_ => some k_ ≠ ((.slice Ao18 x5_2.length co18) : Value).ownBlock ∧ some k_ ≠ (v290 : Value).ownBlock) v282 x8_2) ∧ Aside0 (Kd.R k38 38 w' w.heap.size (fun k_ => some k_ ≠ ((.slice Ao18 x5_2.length co18) : Value).ownBlock ∧ some k_ ≠ (v282 : Value).ownBlock) v290 x13_5) ∧ Aside0 (Below w.heap.size w w'))
              case atStart => exact ⟨(t288), (0), (by first | rfl | (simp; done) | (simp [*]; done) | (simp; exact xEmpty_ne _) | (simp [*]; exact xEmpty_ne _)), H', ⟨Nat.le_refl _⟩, ⟨rl HO_5⟩, ⟨by (with_reducible repeat (first | apply Kd.R_alloc | apply Kd.R_drewN | apply Kd.R_drew)); exact Kd.R_mono HO_6.out (fun _ hk => trivial)⟩, ⟨rl HO_8⟩, ⟨rl HO_13⟩, ⟨bl HB⟩⟩
              case round =>
               clear H'; (try clear c1); (try clear c2); (try clear p2); (try clear c3); (try clear c4); (try clear c4b0); (try clear c4b1); (try clear c4b2); (try clear p4); (try clear q4); (try clear hx4); (try clear hf4); (try clear c5); (try clear c6); (try clear p6); (try clear c8); (try clear c9); (try clear c10); (try clear c11); (try clear c12); (try clear c14); (try clear c14b0); (try clear c22); (try clear c23); (try clear c23b0); (try clear c23b1); (try clear c25); (try clear c26); (try clear c26b0); (try clear c26b1); (try clear c44); (try clear c45); (try clear c45b0); (try clear c46); (try clear c46b0); (try clear p47); (try clear q47); (try clear hx47); (try clear hf47); (try clear hx47_0); (try clear p2); (try clear p47); (try clear q47); (try clear HO_5); (try clear HO_6); (try clear HO_8); (try clear HO_13); (try clear HB)
               obtain ⟨x13_5, x16_5, rfl, HA, HK5, HO_5, HO_6, HO_8, HO_13, HB⟩ := hrel
               cases gk with
               | zero => exact absurd HA.out (by simp [glossatorlaw23_FiveEncodes.l2])
               | succ k5 =>
                have H := HA.out
                clear HA; simp only [glossatorlaw23_FiveEncodes.l2] at H
                by_cases c52 : x16_5 < (x13_5.length : Int)
                ·rw [if_pos c52] at H; have c52b0 : decide (x16_5 < (x13_5.length : Int)) = true := decide_eq_true c52; clear c52; by_cases c53 : 0 ≤ x16_5
                 ·rw [if_pos c53] at H; have c53b0 : decide (0 ≤ x16_5) = true := decide_eq_true c53; clear c53; obtain ⟨y296, hy296⟩ : ∃ y_ : List (S38), y_ = (x13_5.set (x16_5 : Int).toNat (⟨(⟨(rd_T38 x13_5 x16_5).f0.f0, (rd_T38 x13_5 x16_5).f0.f1⟩ : S36), (-5), (rd_T38 x13_5 x16_5).f2⟩ : S38)) := ⟨_, rfl⟩
                  replace H : (glossatorlaw23_FiveEncodes.l2 k5 a0 l1 x5_2 x6_2 t277 x8_2 t281 x10_2 y296 (wrap64 (x16_5 + 1))) = some r := by first | (rw [hy296]; with_reducible exact H) | (have H2_ := (Option.bind_some _ _).symm.trans H; rw [hy296]; with_reducible exact H2_) | (have H2_ := (Option.bind_some _ _).symm.trans H; with_reducible exact H2_) | with_reducible exact H | (rw [hy296]; exact H) | exact H
                  have Ny296 := Aside0.mk hy296; clear hy296; have H' := Aside0.mk H; clear H; obtain ⟨Ao55, co55, eo55⟩ := Kd.R_slice HO_13.out
                  subst eo55; have p54 : 0 ≤ (x16_5 : Int) := of_decide_eq_true (by first | (with_reducible assumption) | assumption)
                  have q54 : (x16_5 : Int) < ((x13_5.length : Int) : Int) := of_decide_eq_true (by first | (with_reducible assumption) | assumption)
                  obtain ⟨go54, co54, eo54, gb54, gl54, cl54, HG54⟩ := Kd.R_form HO_13.out (by omega)
                  (first | cases eo54 | (injection eo54 with ea_ en_ ec_; (first | subst ea_ | (injection ea_ with ea_; subst ea_)); subst ec_; clear en_))
                  have GB54 := Aside0.mk gb54; have GG54 := Aside0.mk HG54; clear gb54 gl54 HG54; obtain ⟨ce54, hcl54, hM54, hcc54, hfr54⟩ := Kd.R_elem HO_13.out z38 (x16_5 : Int) p54 q54
                  obtain rfl := k38_openM hM54
                  have hx54_0 : wr.cell? ⟨go54, (x16_5 : Int).toNat * 4, none⟩ = some (.int .i64 ((rd_T38 x13_5 x16_5).f0.f0)) := hcc54 0 _ rfl
                  have hx54_1 : wr.cell? ⟨go54, (x16_5 : Int).toNat * 4 + 1, none⟩ = some (.int .i64 ((rd_T38 x13_5 x16_5).f0.f1)) := hcc54 1 _ rfl
                  have hx54_2 : wr.cell? ⟨go54, (x16_5 : Int).toNat * 4 + 2, none⟩ = some (.int .i64 ((rd_T38 x13_5 x16_5).f1)) := hcc54 2 _ rfl
                  have hx54_3 : wr.cell? ⟨go54, (x16_5 : Int).toNat * 4 + 3, none⟩ = some (.int .i64 ((rd_T38 x13_5 x16_5).f2)) := hcc54 3 _ rfl
                  have hf54_0 : wr.frozen? ⟨go54, (x16_5 : Int).toNat * 4, none⟩ = false := hfr54 0
                  have hf54_1 : wr.frozen? ⟨go54, (x16_5 : Int).toNat * 4 + 1, none⟩ = false := hfr54 1
                  have hf54_2 : wr.frozen? ⟨go54, (x16_5 : Int).toNat * 4 + 2, none⟩ = false := hfr54 2
                  have hf54_3 : wr.frozen? ⟨go54, (x16_5 : Int).toNat * 4 + 3, none⟩ = false := hfr54 3
                  clear hcl54 hcc54 hfr54 hM54; replace p54 := eq_true p54; replace q54 := eq_true q54; have HX56 := Aside0.mk (show Kd.R k38 38 wr w.heap.size (fun k_ => some k_ ≠ (.slice Ao18 x5_2.length co18 : Value).ownBlock ∧ some k_ ≠ (v282 : Value).ownBlock) (.slice (some ⟨go54, 0, none⟩) x13_5.length co55) x13_5 from (rl HO_13))
                  obtain ⟨ce56, hcl56, hM56, hcc56, hfr56⟩ := Kd.R_elem HX56.out z38 (x16_5 : Int) (of_decide_eq_true (by first | (with_reducible assumption) | assumption)) (by have h_ : (x16_5 : Int) < ((x13_5.length : Int) : Int) := of_decide_eq_true (by first | (with_reducible assumption) | assumption); first | exact h_ | (have e_ := (Kd.R_reads' HO_13.out).1; omega) | simpa using h_)
                  obtain rfl := k38_openM hM56
                  have HP56 := Kd.R_seg HX56.out (x16_5 : Int) (of_decide_eq_true (by first | (with_reducible assumption) | assumption)) (by have h_ : (x16_5 : Int) < ((x13_5.length : Int) : Int) := of_decide_eq_true (by first | (with_reducible assumption) | assumption); first | exact h_ | (have e_ := (Kd.R_reads' HO_13.out).1; omega) | simpa using h_) (seg := [.int .i64 (-5)]) (j := 2) hcl56 hcc56 (show 3 ≤ 4 from by decide) (x' := (⟨(⟨(rd_T38 x13_5 x16_5).f0.f0, (rd_T38 x13_5 x16_5).f0.f1⟩ : S36), (-5), (rd_T38 x13_5 x16_5).f2⟩ : S38)) (k38_mkM _ _ _ (⟨(⟨(rd_T38 x13_5 x16_5).f0.f0, (rd_T38 x13_5 x16_5).f0.f1⟩ : S36), (-5), (rd_T38 x13_5 x16_5).f2⟩ : S38) ) (fun _ hk => hk)
                  have hx56_2 := hcc56 2 _ rfl
                  (try simp only [show (k38).sz = 4 from rfl, Nat.mul_one, Nat.add_zero] at hx56_2)
                  have hf56_2 := hfr56 2
                  (try simp only [show (k38).sz = 4 from rfl, Nat.mul_one, Nat.add_zero] at hf56_2)
                  clear hcl56 hcc56 hfr56 hM56; go_wp2_with (first | ((with_reducible refine gate_store (t := 3) (p := 100) rfl ?_); refine store_event (t := 3) (p := 100) (v := ?vo_w57) (w1 := (wr.setCell ⟨go54, (x16_5 : Int).toNat * 4 + 2, none⟩ (.int .i64 (-5)))) ?hg ?ho ?hn ?hr ?_; (case ho => rfl); (case hg => rfl); (case hn => rfl); (case hr => first | (go_simp; done) | (go_simp; rfl)); intro w57 hw; have hg : wr.grownBy w57 (some go54) := (by rw [hw]; exact HP56.2); have hp_ : Kd.R k38 38 w57 w.heap.size (fun k_ => some k_ ≠ (.slice Ao18 x5_2.length co18 : Value).ownBlock ∧ some k_ ≠ (v282 : Value).ownBlock) (.slice (some ⟨go54, 0, none⟩) x13_5.length co55) y296 := (by rw [hw, Ny296.out]; exact HP56.1); clear HP56; have n0_ := Aside0.mk (Kd.R_after (v := (.slice (some ⟨go54, 0, none⟩) x13_5.length co55)) (v1 := (.slice (some ⟨go54, 0, none⟩) x13_5.length co55)) (ok := (fun k_ => some k_ ≠ (v282 : Value).ownBlock)) (rl HO_5) hg (.inl rfl)); have n1_ := Aside0.mk (Kd.R_over' (v := (.slice (some ⟨go54, 0, none⟩) x13_5.length co55)) (rl HO_6) (Kd.R_typed HO_13.out) (by decide) hg); have n2_ := Aside0.mk (Kd.R_after (v := (.slice (some ⟨go54, 0, none⟩) x13_5.length co55)) (v1 := (.slice (some ⟨go54, 0, none⟩) x13_5.length co55)) (ok := (fun k_ => some k_ ≠ (.slice Ao18 x5_2.length co18 : Value).ownBlock)) (rl HO_8) hg (.inl rfl)); have n3_ := Aside0.mk (hp_); have n4_ := Aside0.mk ((by rw [hw]; exact below_set (HB.out) GB54.out : Below w.heap.size w w57)); clear HO_5; clear HO_6; clear HO_8; clear HO_13; clear HB; have HO_5 := n0_; have HO_6 := n1_; have HO_8 := n2_; have HO_13 := n3_; have HB := n4_; clear n0_ n1_ n2_ n3_ n4_; clear hg hw hp_))
                  go_roundg k5
                  case measure => have := HJ2.out; have := HK2.out; have := HJ16.out; have := HK4.out; have := HK5.out; omega
                  case rel => exact ⟨(y296), (wrap64 (x16_5 + 1)), (by first | rfl | (simp; done) | (simp [*]; done) | (simp; exact xEmpty_ne _) | (simp [*]; exact xEmpty_ne _)), H', ⟨by have := HJ2.out; have := HK2.out; have := HJ16.out; have := HK4.out; have := HK5.out; omega⟩, ⟨rl HO_5⟩, ⟨rl HO_6⟩, ⟨rl HO_8⟩, ⟨rl HO_13⟩, ⟨bl HB⟩⟩
                 ·rw [if_neg c53] at H; exact absurd H (by simp)
                ·rw [if_neg c52] at H; have c52b0 : decide (x16_5 < (x13_5.length : Int)) = false := decide_eq_false c52; clear c52; have H' := Aside0.mk H; clear H; obtain ⟨Ao58, co58, eo58⟩ := Kd.R_slice HO_13.out
                 subst eo58; go_wp2
                 go_roundg k5
                 case measure => have := HJ2.out; have := HK2.out; have := HJ16.out; have := HK4.out; have := HK5.out; omega
                 case rel => exact ⟨(x5_2), (x6_2), (x8_2), (wrap64 (x10_2 + 1)), (by first | rfl | (simp; done) | (simp [*]; done) | (simp; exact xEmpty_ne _) | (simp [*]; exact xEmpty_ne _)), H', ⟨by have := HJ2.out; have := HK2.out; have := HJ16.out; have := HK4.out; have := HK5.out; omega⟩, ⟨by (with_reducible repeat (first | apply Kd.R_alloc | apply Kd.R_drewN | apply Kd.R_drew)); exact Kd.R_mono HO_5.out (fun _ hk => hk.1)⟩, ⟨rl HO_6⟩, ⟨by (with_reducible repeat (first | apply Kd.R_alloc | apply Kd.R_drewN | apply Kd.R_drew)); exact Kd.R_mono HO_8.out (fun _ hk => hk.1)⟩, ⟨bl HB⟩⟩
       ·rw [if_neg c14] at H; have c14b0 : decide (x10_2 < 2) = false := decide_eq_false c14; clear c14; obtain rfl := Option.some.inj H; go_wp2
        go_ret
        exact ⟨by first | rfl | (simp [errW_none, errW_some] <;> rfl) | (simp [*, errW_none, errW_some] <;> rfl), bl HB⟩
    ·rw [if_neg c6] at H; exact absurd H (by simp)

/-- THE ONE PURE STATEMENT of glossatorlaw23_FiveEncodes. -/
def glossatorlaw23_FiveEncodes.Pure : Prop := ∀ (p0 : ByteArray) (p1 : List (S38)), p0.size ≤ 140737488351232 → (p1.length ≤ maxLen ∧ p1.length * 32 ≤ 140737488351232 ∧ (∀ x ∈ p1, (fun x : S38 => Wf38 x) x)) → ∃ k, glossatorlaw23_FiveEncodes.f k p0 p1 = some true
/-- The same, where what is handed in is small. -/
def glossatorlaw23_FiveEncodes.PureUpto : Prop := ∀ (p0 : ByteArray) (p1 : List (S38)), p0.size ≤ 140737488351232 → (p1.length ≤ maxLen ∧ p1.length * 32 ≤ 140737488351232 ∧ (∀ x ∈ p1, (fun x : S38 => Wf38 x) x)) → (p0.size + 1) + ((p1.map mu38).sum + 1) ≤ 1048576 → ∃ k, glossatorlaw23_FiveEncodes.f k p0 p1 = some true

end Go.Proofs.YtbjhmknahldhaaaDoor.Q
