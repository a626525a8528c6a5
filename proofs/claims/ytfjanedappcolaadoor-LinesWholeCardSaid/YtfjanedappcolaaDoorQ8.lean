-- Written by this repo's wip/xprint.py (over the kit's print.py) out of the translation. Not trusted: Lean checks it.
import Derived.Test.YtfjanedappcolaaDoorQ0
import Derived.Test.YtfjanedappcolaaDoorQ3
import Derived.Test.YtfjanedappcolaaDoorQ5
import Derived.Test.YtfjanedappcolaaDoorQ6
namespace Go.Proofs.YtfjanedappcolaaDoor.Q
open Go.RowKit Go.Proofs.YtfjanedappcolaaDoorW.PrintWords Go.Proofs.YtfjanedappcolaaDoorW.PrintLast Go.Proofs.YtfjanedappcolaaDoorW.PrintMore
attribute [local go_sem] max2_int min2_int max_two min_two max_three min_three max_four min_four   -- for this text's walks alone
set_option linter.unusedVariables false
set_option linter.unusedSimpArgs false

/-! ### glossatorlaw02_LinesWhole: function 10 -/
mutual
def glossatorlaw02_LinesWhole.j0 : Nat → ByteArray → List Int → Bool → Option (Bool)
  | 0, _, _, _ => none
  | k + 1, x0, x3, x31 => if x31 = true then (some false) else (glossatorlaw02_LinesWhole.l0 k x0 x3 0)
def glossatorlaw02_LinesWhole.l0 : Nat → ByteArray → List Int → Int → Option (Bool)
  | 0, _, _, _ => none
  | k + 1, x0, x3, x4 => if x4 < (x3.length : Int) then (glossatorlaw02_LinesWhole.j2 k x0 x3 x4 (decide (x4 < 300))) else (glossatorlaw02_LinesWhole.j2 k x0 x3 x4 false)
def glossatorlaw02_LinesWhole.j2 : Nat → ByteArray → List Int → Int → Bool → Option (Bool)
  | 0, _, _, _, _ => none
  | k + 1, x0, x3, x4, x39 => if x39 = true then ((lines_Line.f x0 x4).bind fun bt159 => (if bt159.2.2 = true then (if 0 ≤ x4 then (if x4 < (x3.length : Int) then (glossatorlaw02_LinesWhole.j3 k x0 x3 x4 (bt159.1 != (rd x3 x4)) bt159.1 bt159.2.1) else (none)) else (none)) else (glossatorlaw02_LinesWhole.j3 k x0 x3 x4 true bt159.1 bt159.2.1))) else (some true)
def glossatorlaw02_LinesWhole.j3 : Nat → ByteArray → List Int → Int → Bool → Int → Int → Option (Bool)
  | 0, _, _, _, _, _, _ => none
  | k + 1, x0, x3, x4, x58, x163000, x163001 => if x58 = true then (some false) else (glossatorlaw02_LinesWhole.l1 k x0 x3 x4 x163000 x163000 x163001)
def glossatorlaw02_LinesWhole.l1 : Nat → ByteArray → List Int → Int → Int → Int → Int → Option (Bool)
  | 0, _, _, _, _, _, _ => none
  | k + 1, x0, x3, x4, x7, x163000, x163001 => if x7 < x163001 then (if 0 ≤ x7 then (if x7 < (x0.size : Int) then (if (bt x0 x7) = 10 then (some false) else (if (bt x0 x7) = 13 then (some false) else (glossatorlaw02_LinesWhole.l1 k x0 x3 x4 (wrap64 (x7 + 1)) x163000 x163001))) else (none)) else (none)) else (if 0 ≤ x163001 then (if x163001 ≤ (x0.size : Int) then (if (wrap64 (x4 + 1)) < (x3.length : Int) then (if 0 ≤ (wrap64 (x4 + 1)) then (if x163001 ≤ (rd x3 (wrap64 (x4 + 1))) then (if (rd x3 (wrap64 (x4 + 1))) ≤ (x0.size : Int) then (glossatorlaw02_LinesWhole.j5 k x0 x3 x4 (x0.extract (x163001 : Int).toNat ((rd x3 (wrap64 (x4 + 1))) : Int).toNat) x163000 x163001) else (none)) else (none)) else (none)) else (glossatorlaw02_LinesWhole.j5 k x0 x3 x4 (x0.extract (x163001 : Int).toNat x0.size) x163000 x163001)) else (none)) else (none))
def glossatorlaw02_LinesWhole.j5 : Nat → ByteArray → List Int → Int → ByteArray → Int → Int → Option (Bool)
  | 0, _, _, _, _, _, _ => none
  | k + 1, x0, x3, x4, x8, x163000, x163001 => if (wrap64 (x4 + 1)) < (x3.length : Int) then (if x8.toList = ([10] : List UInt8) then (if (wrap64 (x4 + 1)) = (x3.length : Int) then (glossatorlaw02_LinesWhole.j6 k x0 x3 x4 x8 (x8.toList != ([] : List UInt8)) x163000 x163001) else (glossatorlaw02_LinesWhole.j6 k x0 x3 x4 x8 false x163000 x163001)) else (if x8.toList = ([13] : List UInt8) then (if (wrap64 (x4 + 1)) = (x3.length : Int) then (glossatorlaw02_LinesWhole.j6 k x0 x3 x4 x8 (x8.toList != ([] : List UInt8)) x163000 x163001) else (glossatorlaw02_LinesWhole.j6 k x0 x3 x4 x8 false x163000 x163001)) else (if x8.toList = ([13, 10] : List UInt8) then (if (wrap64 (x4 + 1)) = (x3.length : Int) then (glossatorlaw02_LinesWhole.j6 k x0 x3 x4 x8 (x8.toList != ([] : List UInt8)) x163000 x163001) else (glossatorlaw02_LinesWhole.j6 k x0 x3 x4 x8 false x163000 x163001)) else (glossatorlaw02_LinesWhole.j6 k x0 x3 x4 x8 true x163000 x163001)))) else (if (wrap64 (x4 + 1)) = (x3.length : Int) then (glossatorlaw02_LinesWhole.j6 k x0 x3 x4 x8 (x8.toList != ([] : List UInt8)) x163000 x163001) else (glossatorlaw02_LinesWhole.j6 k x0 x3 x4 x8 false x163000 x163001))
def glossatorlaw02_LinesWhole.j6 : Nat → ByteArray → List Int → Int → ByteArray → Bool → Int → Int → Option (Bool)
  | 0, _, _, _, _, _, _, _ => none
  | k + 1, x0, x3, x4, x8, x122, x163000, x163001 => if x122 = true then (some false) else (if x8.toList = ([13] : List UInt8) then (if (wrap64 (x163001 + 1)) < (x0.size : Int) then (if 0 ≤ (wrap64 (x163001 + 1)) then (if (bt x0 (wrap64 (x163001 + 1))) = 10 then (some false) else (glossatorlaw02_LinesWhole.l0 k x0 x3 (wrap64 (x4 + 1)))) else (none)) else (glossatorlaw02_LinesWhole.l0 k x0 x3 (wrap64 (x4 + 1)))) else (glossatorlaw02_LinesWhole.l0 k x0 x3 (wrap64 (x4 + 1))))
end
def glossatorlaw02_LinesWhole.f (k : Nat) (a0 : ByteArray) : Option (Bool) := (glossatorlaw02_awake.f k).bind fun t153 => (if t153 = true then (if (a0.size : Int) > 20000 then (some true) else ((lines_Starts.f a0).bind fun t154 => (if (t154.length : Int) = 0 then (glossatorlaw02_LinesWhole.j0 k a0 t154 true) else (if 0 < (t154.length : Int) then (if (rd t154 0) = 0 then ((lines_Many.f a0).bind fun t158 => (glossatorlaw02_LinesWhole.j0 k a0 t154 (t158 != (t154.length : Int)))) else (glossatorlaw02_LinesWhole.j0 k a0 t154 true)) else (none))))) else (some false))
theorem glossatorlaw02_LinesWhole.mono_l : ∀ k, (∀ y0 y1 y2, LeO (glossatorlaw02_LinesWhole.j0 k y0 y1 y2) (glossatorlaw02_LinesWhole.j0 (k + 1) y0 y1 y2)) ∧ (∀ y0 y1 y2, LeO (glossatorlaw02_LinesWhole.l0 k y0 y1 y2) (glossatorlaw02_LinesWhole.l0 (k + 1) y0 y1 y2)) ∧ (∀ y0 y1 y2 y3, LeO (glossatorlaw02_LinesWhole.j2 k y0 y1 y2 y3) (glossatorlaw02_LinesWhole.j2 (k + 1) y0 y1 y2 y3)) ∧ (∀ y0 y1 y2 y3 y4 y5, LeO (glossatorlaw02_LinesWhole.j3 k y0 y1 y2 y3 y4 y5) (glossatorlaw02_LinesWhole.j3 (k + 1) y0 y1 y2 y3 y4 y5)) ∧ (∀ y0 y1 y2 y3 y4 y5, LeO (glossatorlaw02_LinesWhole.l1 k y0 y1 y2 y3 y4 y5) (glossatorlaw02_LinesWhole.l1 (k + 1) y0 y1 y2 y3 y4 y5)) ∧ (∀ y0 y1 y2 y3 y4 y5, LeO (glossatorlaw02_LinesWhole.j5 k y0 y1 y2 y3 y4 y5) (glossatorlaw02_LinesWhole.j5 (k + 1) y0 y1 y2 y3 y4 y5)) ∧ (∀ y0 y1 y2 y3 y4 y5 y6, LeO (glossatorlaw02_LinesWhole.j6 k y0 y1 y2 y3 y4 y5 y6) (glossatorlaw02_LinesWhole.j6 (k + 1) y0 y1 y2 y3 y4 y5 y6))
  | 0 => ⟨fun _ _ _ r h => by simp [glossatorlaw02_LinesWhole.j0] at h, fun _ _ _ r h => by simp [glossatorlaw02_LinesWhole.l0] at h, fun _ _ _ _ r h => by simp [glossatorlaw02_LinesWhole.j2] at h, fun _ _ _ _ _ _ r h => by simp [glossatorlaw02_LinesWhole.j3] at h, fun _ _ _ _ _ _ r h => by simp [glossatorlaw02_LinesWhole.l1] at h, fun _ _ _ _ _ _ r h => by simp [glossatorlaw02_LinesWhole.j5] at h, fun _ _ _ _ _ _ _ r h => by simp [glossatorlaw02_LinesWhole.j6] at h⟩
  | k + 1 => by
    obtain ⟨ih0, ih1, ih2, ih3, ih4, ih5, ih6⟩ := glossatorlaw02_LinesWhole.mono_l k
    refine ⟨?_, ?_, ?_, ?_, ?_, ?_, ?_⟩
    · intro y0 y1 y2
      unfold glossatorlaw02_LinesWhole.j0
      repeat' first
      | (with_reducible exact ih0 _ _ _)
      | (with_reducible exact ih1 _ _ _)
      | (with_reducible exact ih2 _ _ _ _)
      | (with_reducible exact ih3 _ _ _ _ _ _)
      | (with_reducible exact ih4 _ _ _ _ _ _)
      | (with_reducible exact ih5 _ _ _ _ _ _)
      | (with_reducible exact ih6 _ _ _ _ _ _ _)
      | (with_reducible exact glossatorlaw02_awake.mono _)
      | (with_reducible exact LeO.refl _)
      | (with_reducible exact LeO.none _)
      | (with_reducible refine LeO.ite ?_ ?_)
      | (with_reducible refine LeO.bind ?_ (fun _ => ?_))
      | exact ih0 _ _ _
      | exact ih1 _ _ _
      | exact ih2 _ _ _ _
      | exact ih3 _ _ _ _ _ _
      | exact ih4 _ _ _ _ _ _
      | exact ih5 _ _ _ _ _ _
      | exact ih6 _ _ _ _ _ _ _
      | exact glossatorlaw02_awake.mono _
      | exact LeO.none _
      | refine LeO.ite ?_ ?_
      | refine LeO.bind ?_ (fun _ => ?_)
    · intro y0 y1 y2
      unfold glossatorlaw02_LinesWhole.l0
      repeat' first
      | (with_reducible exact ih0 _ _ _)
      | (with_reducible exact ih1 _ _ _)
      | (with_reducible exact ih2 _ _ _ _)
      | (with_reducible exact ih3 _ _ _ _ _ _)
      | (with_reducible exact ih4 _ _ _ _ _ _)
      | (with_reducible exact ih5 _ _ _ _ _ _)
      | (with_reducible exact ih6 _ _ _ _ _ _ _)
      | (with_reducible exact glossatorlaw02_awake.mono _)
      | (with_reducible exact LeO.refl _)
      | (with_reducible exact LeO.none _)
      | (with_reducible refine LeO.ite ?_ ?_)
      | (with_reducible refine LeO.bind ?_ (fun _ => ?_))
      | exact ih0 _ _ _
      | exact ih1 _ _ _
      | exact ih2 _ _ _ _
      | exact ih3 _ _ _ _ _ _
      | exact ih4 _ _ _ _ _ _
      | exact ih5 _ _ _ _ _ _
      | exact ih6 _ _ _ _ _ _ _
      | exact glossatorlaw02_awake.mono _
      | exact LeO.none _
      | refine LeO.ite ?_ ?_
      | refine LeO.bind ?_ (fun _ => ?_)
    · intro y0 y1 y2 y3
      unfold glossatorlaw02_LinesWhole.j2
      repeat' first
      | (with_reducible exact ih0 _ _ _)
      | (with_reducible exact ih1 _ _ _)
      | (with_reducible exact ih2 _ _ _ _)
      | (with_reducible exact ih3 _ _ _ _ _ _)
      | (with_reducible exact ih4 _ _ _ _ _ _)
      | (with_reducible exact ih5 _ _ _ _ _ _)
      | (with_reducible exact ih6 _ _ _ _ _ _ _)
      | (with_reducible exact glossatorlaw02_awake.mono _)
      | (with_reducible exact LeO.refl _)
      | (with_reducible exact LeO.none _)
      | (with_reducible refine LeO.ite ?_ ?_)
      | (with_reducible refine LeO.bind ?_ (fun _ => ?_))
      | exact ih0 _ _ _
      | exact ih1 _ _ _
      | exact ih2 _ _ _ _
      | exact ih3 _ _ _ _ _ _
      | exact ih4 _ _ _ _ _ _
      | exact ih5 _ _ _ _ _ _
      | exact ih6 _ _ _ _ _ _ _
      | exact glossatorlaw02_awake.mono _
      | exact LeO.none _
      | refine LeO.ite ?_ ?_
      | refine LeO.bind ?_ (fun _ => ?_)
    · intro y0 y1 y2 y3 y4 y5
      unfold glossatorlaw02_LinesWhole.j3
      repeat' first
      | (with_reducible exact ih0 _ _ _)
      | (with_reducible exact ih1 _ _ _)
      | (with_reducible exact ih2 _ _ _ _)
      | (with_reducible exact ih3 _ _ _ _ _ _)
      | (with_reducible exact ih4 _ _ _ _ _ _)
      | (with_reducible exact ih5 _ _ _ _ _ _)
      | (with_reducible exact ih6 _ _ _ _ _ _ _)
      | (with_reducible exact glossatorlaw02_awake.mono _)
      | (with_reducible exact LeO.refl _)
      | (with_reducible exact LeO.none _)
      | (with_reducible refine LeO.ite ?_ ?_)
      | (with_reducible refine LeO.bind ?_ (fun _ => ?_))
      | exact ih0 _ _ _
      | exact ih1 _ _ _
      | exact ih2 _ _ _ _
      | exact ih3 _ _ _ _ _ _
      | exact ih4 _ _ _ _ _ _
      | exact ih5 _ _ _ _ _ _
      | exact ih6 _ _ _ _ _ _ _
      | exact glossatorlaw02_awake.mono _
      | exact LeO.none _
      | refine LeO.ite ?_ ?_
      | refine LeO.bind ?_ (fun _ => ?_)
    · intro y0 y1 y2 y3 y4 y5
      unfold glossatorlaw02_LinesWhole.l1
      repeat' first
      | (with_reducible exact ih0 _ _ _)
      | (with_reducible exact ih1 _ _ _)
      | (with_reducible exact ih2 _ _ _ _)
      | (with_reducible exact ih3 _ _ _ _ _ _)
      | (with_reducible exact ih4 _ _ _ _ _ _)
      | (with_reducible exact ih5 _ _ _ _ _ _)
      | (with_reducible exact ih6 _ _ _ _ _ _ _)
      | (with_reducible exact glossatorlaw02_awake.mono _)
      | (with_reducible exact LeO.refl _)
      | (with_reducible exact LeO.none _)
      | (with_reducible refine LeO.ite ?_ ?_)
      | (with_reducible refine LeO.bind ?_ (fun _ => ?_))
      | exact ih0 _ _ _
      | exact ih1 _ _ _
      | exact ih2 _ _ _ _
      | exact ih3 _ _ _ _ _ _
      | exact ih4 _ _ _ _ _ _
      | exact ih5 _ _ _ _ _ _
      | exact ih6 _ _ _ _ _ _ _
      | exact glossatorlaw02_awake.mono _
      | exact LeO.none _
      | refine LeO.ite ?_ ?_
      | refine LeO.bind ?_ (fun _ => ?_)
    · intro y0 y1 y2 y3 y4 y5
      unfold glossatorlaw02_LinesWhole.j5
      repeat' first
      | (with_reducible exact ih0 _ _ _)
      | (with_reducible exact ih1 _ _ _)
      | (with_reducible exact ih2 _ _ _ _)
      | (with_reducible exact ih3 _ _ _ _ _ _)
      | (with_reducible exact ih4 _ _ _ _ _ _)
      | (with_reducible exact ih5 _ _ _ _ _ _)
      | (with_reducible exact ih6 _ _ _ _ _ _ _)
      | (with_reducible exact glossatorlaw02_awake.mono _)
      | (with_reducible exact LeO.refl _)
      | (with_reducible exact LeO.none _)
      | (with_reducible refine LeO.ite ?_ ?_)
      | (with_reducible refine LeO.bind ?_ (fun _ => ?_))
      | exact ih0 _ _ _
      | exact ih1 _ _ _
      | exact ih2 _ _ _ _
      | exact ih3 _ _ _ _ _ _
      | exact ih4 _ _ _ _ _ _
      | exact ih5 _ _ _ _ _ _
      | exact ih6 _ _ _ _ _ _ _
      | exact glossatorlaw02_awake.mono _
      | exact LeO.none _
      | refine LeO.ite ?_ ?_
      | refine LeO.bind ?_ (fun _ => ?_)
    · intro y0 y1 y2 y3 y4 y5 y6
      unfold glossatorlaw02_LinesWhole.j6
      repeat' first
      | (with_reducible exact ih0 _ _ _)
      | (with_reducible exact ih1 _ _ _)
      | (with_reducible exact ih2 _ _ _ _)
      | (with_reducible exact ih3 _ _ _ _ _ _)
      | (with_reducible exact ih4 _ _ _ _ _ _)
      | (with_reducible exact ih5 _ _ _ _ _ _)
      | (with_reducible exact ih6 _ _ _ _ _ _ _)
      | (with_reducible exact glossatorlaw02_awake.mono _)
      | (with_reducible exact LeO.refl _)
      | (with_reducible exact LeO.none _)
      | (with_reducible refine LeO.ite ?_ ?_)
      | (with_reducible refine LeO.bind ?_ (fun _ => ?_))
      | exact ih0 _ _ _
      | exact ih1 _ _ _
      | exact ih2 _ _ _ _
      | exact ih3 _ _ _ _ _ _
      | exact ih4 _ _ _ _ _ _
      | exact ih5 _ _ _ _ _ _
      | exact ih6 _ _ _ _ _ _ _
      | exact glossatorlaw02_awake.mono _
      | exact LeO.none _
      | refine LeO.ite ?_ ?_
      | refine LeO.bind ?_ (fun _ => ?_)
theorem glossatorlaw02_LinesWhole.mono : ∀ a0 k, LeO (glossatorlaw02_LinesWhole.f k a0) (glossatorlaw02_LinesWhole.f (k + 1) a0) := by
  intro a0 k
  obtain ⟨ih0, ih1, ih2, ih3, ih4, ih5, ih6⟩ := glossatorlaw02_LinesWhole.mono_l k
  unfold glossatorlaw02_LinesWhole.f
  repeat' first
      | (with_reducible exact ih0 _ _ _)
      | (with_reducible exact ih1 _ _ _)
      | (with_reducible exact ih2 _ _ _ _)
      | (with_reducible exact ih3 _ _ _ _ _ _)
      | (with_reducible exact ih4 _ _ _ _ _ _)
      | (with_reducible exact ih5 _ _ _ _ _ _)
      | (with_reducible exact ih6 _ _ _ _ _ _ _)
      | (with_reducible exact glossatorlaw02_awake.mono _)
      | (with_reducible exact LeO.refl _)
      | (with_reducible exact LeO.none _)
      | (with_reducible refine LeO.ite ?_ ?_)
      | (with_reducible refine LeO.bind ?_ (fun _ => ?_))
      | exact ih0 _ _ _
      | exact ih1 _ _ _
      | exact ih2 _ _ _ _
      | exact ih3 _ _ _ _ _ _
      | exact ih4 _ _ _ _ _ _
      | exact ih5 _ _ _ _ _ _
      | exact ih6 _ _ _ _ _ _ _
      | exact glossatorlaw02_awake.mono _
      | exact LeO.none _
      | refine LeO.ite ?_ ?_
      | refine LeO.bind ?_ (fun _ => ?_)
set_option maxHeartbeats 8000000 in
set_option maxRecDepth 100000 in
theorem glossatorlaw02_LinesWhole.calls (k : Nat) (a0 : ByteArray) (r : Bool) (w : World) (hG : GlobOk w) (h : glossatorlaw02_LinesWhole.f k a0 = some r) :
    Calls Tryd.prog 10 #[.string a0] w fun e w' => e = .returned (.bool r) ∧ Below w.heap.size w w' := by
  have HG := Aside0.mk hG
  clear hG
  have hu40 := Tryd.underlying40
  have HB := Aside0.mk (Below.refl w.heap.size w)
  have H : ((glossatorlaw02_awake.f k).bind fun t153 => (if t153 = true then (if (a0.size : Int) > 20000 then (some true) else ((lines_Starts.f a0).bind fun t154 => (if (t154.length : Int) = 0 then (glossatorlaw02_LinesWhole.j0 k a0 t154 true) else (if 0 < (t154.length : Int) then (if (rd t154 0) = 0 then ((lines_Many.f a0).bind fun t158 => (glossatorlaw02_LinesWhole.j0 k a0 t154 (t158 != (t154.length : Int)))) else (glossatorlaw02_LinesWhole.j0 k a0 t154 true)) else (none))))) else (some false))) = some r := h
  clear h
  replace H := Option.bind_eq_some_iff.mp H
  obtain ⟨t153, A20, H⟩ := H
  replace H : (if t153 = true then (if (a0.size : Int) > 20000 then (some true) else ((lines_Starts.f a0).bind fun t154 => (if (t154.length : Int) = 0 then (glossatorlaw02_LinesWhole.j0 k a0 t154 true) else (if 0 < (t154.length : Int) then (if (rd t154 0) = 0 then ((lines_Many.f a0).bind fun t158 => (glossatorlaw02_LinesWhole.j0 k a0 t154 (t158 != (t154.length : Int)))) else (glossatorlaw02_LinesWhole.j0 k a0 t154 true)) else (none))))) else (some false)) = some r := H
  have A2 := Aside0.mk A20
  clear A20
  by_cases c3 : t153 = true
  · subst c3
    have H1 : (if (a0.size : Int) > 20000 then (some true) else ((lines_Starts.f a0).bind fun t154 => (if (t154.length : Int) = 0 then (glossatorlaw02_LinesWhole.j0 k a0 t154 true) else (if 0 < (t154.length : Int) then (if (rd t154 0) = 0 then ((lines_Many.f a0).bind fun t158 => (glossatorlaw02_LinesWhole.j0 k a0 t154 (t158 != (t154.length : Int)))) else (glossatorlaw02_LinesWhole.j0 k a0 t154 true)) else (none))))) = some r := by rw [if_pos rfl] at H; exact H
    clear H
    have H := H1
    clear H1
    by_cases c4 : (a0.size : Int) > 20000
    · rw [if_pos c4] at H
      have c4b0 : decide (20000 < (a0.size : Int)) = true := decide_eq_true c4
      have c4b1 : decide (20000 < a0.size) = true := decide_eq_true (by omega)
      clear c4
      obtain rfl := Option.some.inj H
      go_enter Tryd.func10, Tryd.ntmps10
      go_wp2_with (first | (go_at_call 30; (with_reducible refine (glossatorlaw02_awake.calls k  true _ (by first | exact HG.out | exact GlobOk.below HG.out (by repeat (first | (with_reducible first | exact HB.out | apply below_alloc | apply pw_below_drewN | apply below_drew1) | exact HB.out))) A2.out).mono ?_); rintro e w5 ⟨rfl, hb⟩; have n0_ := Aside0.mk (below_step (by repeat (first | (with_reducible first | exact HB.out | apply below_alloc | apply pw_below_drewN | apply below_drew1) | exact HB.out)) hb); clear HB; have HB := n0_; clear n0_; (try clear hb); (try clear hb2); (try clear hk); (try clear hi)))
      repeat (go_quiet (first | (go_at_call 30; (with_reducible refine (glossatorlaw02_awake.calls k  true _ (by first | exact HG.out | exact GlobOk.below HG.out (by repeat (first | (with_reducible first | exact HB.out | apply below_alloc | apply pw_below_drewN | apply below_drew1) | exact HB.out))) A2.out).mono ?_); rintro e w5 ⟨rfl, hb⟩; have n0_ := Aside0.mk (below_step (by repeat (first | (with_reducible first | exact HB.out | apply below_alloc | apply pw_below_drewN | apply below_drew1) | exact HB.out)) hb); clear HB; have HB := n0_; clear n0_; (try clear hb); (try clear hb2); (try clear hk); (try clear hi))); try go_wp2_with (first | (go_at_call 30; (with_reducible refine (glossatorlaw02_awake.calls k  true _ (by first | exact HG.out | exact GlobOk.below HG.out (by repeat (first | (with_reducible first | exact HB.out | apply below_alloc | apply pw_below_drewN | apply below_drew1) | exact HB.out))) A2.out).mono ?_); rintro e w5 ⟨rfl, hb⟩; have n0_ := Aside0.mk (below_step (by repeat (first | (with_reducible first | exact HB.out | apply below_alloc | apply pw_below_drewN | apply below_drew1) | exact HB.out)) hb); clear HB; have HB := n0_; clear n0_; (try clear hb); (try clear hb2); (try clear hk); (try clear hi))))
      go_ret
      exact ⟨by first | rfl | (simp [errW_none, errW_some] <;> rfl) | (simp [*, errW_none, errW_some] <;> rfl), by repeat (first | (with_reducible first | exact HB.out | apply below_alloc | apply pw_below_drewN | apply below_drew1) | exact HB.out)⟩
    · rw [if_neg c4] at H
      have c4b0 : decide (20000 < (a0.size : Int)) = false := decide_eq_false c4
      have c4b1 : decide (20000 < a0.size) = false := decide_eq_false (by omega)
      clear c4
      replace H := Option.bind_eq_some_iff.mp H
      obtain ⟨t154, A60, H⟩ := H
      replace H : (if (t154.length : Int) = 0 then (glossatorlaw02_LinesWhole.j0 k a0 t154 true) else (if 0 < (t154.length : Int) then (if (rd t154 0) = 0 then ((lines_Many.f a0).bind fun t158 => (glossatorlaw02_LinesWhole.j0 k a0 t154 (t158 != (t154.length : Int)))) else (glossatorlaw02_LinesWhole.j0 k a0 t154 true)) else (none))) = some r := H
      have A6 := Aside0.mk A60
      clear A60
      have HC7 := Aside0.mk H
      clear H
      go_enter Tryd.func10, Tryd.ntmps10
      go_upto_region 6 with (first | (go_at_call 30; (with_reducible refine (glossatorlaw02_awake.calls k  true _ (by first | exact HG.out | exact GlobOk.below HG.out (by repeat (first | (with_reducible first | exact HB.out | apply below_alloc | apply pw_below_drewN | apply below_drew1) | exact HB.out))) A2.out).mono ?_); rintro e w8 ⟨rfl, hb⟩; have n0_ := Aside0.mk (below_step (by repeat (first | (with_reducible first | exact HB.out | apply below_alloc | apply pw_below_drewN | apply below_drew1) | exact HB.out)) hb); clear HB; have HB := n0_; clear n0_; (try clear hb); (try clear hb2); (try clear hk); (try clear hi)) | (go_at_call 32; (with_reducible refine (lines_Starts.calls a0 t154 _ A6.out).mono ?_); rintro e w9 ⟨v155, rfl, ho0, hb⟩; have n0_ := Aside0.mk (Kd.R_lower ho0 (below_size (by repeat (first | (with_reducible first | exact HB.out | apply below_alloc | apply pw_below_drewN | apply below_drew1) | exact HB.out)))); have n1_ := Aside0.mk (below_step (by repeat (first | (with_reducible first | exact HB.out | apply below_alloc | apply pw_below_drewN | apply below_drew1) | exact HB.out)) hb); clear HB; have HO156 := n0_; have HB := n1_; clear n0_ n1_; (try clear hb); (try clear hb2); (try clear hk); (try clear hi); (try clear ho0)))
      repeat (go_quiet (first | (go_at_call 30; (with_reducible refine (glossatorlaw02_awake.calls k  true _ (by first | exact HG.out | exact GlobOk.below HG.out (by repeat (first | (with_reducible first | exact HB.out | apply below_alloc | apply pw_below_drewN | apply below_drew1) | exact HB.out))) A2.out).mono ?_); rintro e w8 ⟨rfl, hb⟩; have n0_ := Aside0.mk (below_step (by repeat (first | (with_reducible first | exact HB.out | apply below_alloc | apply pw_below_drewN | apply below_drew1) | exact HB.out)) hb); clear HB; have HB := n0_; clear n0_; (try clear hb); (try clear hb2); (try clear hk); (try clear hi)) | (go_at_call 32; (with_reducible refine (lines_Starts.calls a0 t154 _ A6.out).mono ?_); rintro e w9 ⟨v155, rfl, ho0, hb⟩; have n0_ := Aside0.mk (Kd.R_lower ho0 (below_size (by repeat (first | (with_reducible first | exact HB.out | apply below_alloc | apply pw_below_drewN | apply below_drew1) | exact HB.out)))); have n1_ := Aside0.mk (below_step (by repeat (first | (with_reducible first | exact HB.out | apply below_alloc | apply pw_below_drewN | apply below_drew1) | exact HB.out)) hb); clear HB; have HO156 := n0_; have HB := n1_; clear n0_ n1_; (try clear hb); (try clear hb2); (try clear hk); (try clear hi); (try clear ho0))); go_upto_region 6 with (first | (go_at_call 30; (with_reducible refine (glossatorlaw02_awake.calls k  true _ (by first | exact HG.out | exact GlobOk.below HG.out (by repeat (first | (with_reducible first | exact HB.out | apply below_alloc | apply pw_below_drewN | apply below_drew1) | exact HB.out))) A2.out).mono ?_); rintro e w8 ⟨rfl, hb⟩; have n0_ := Aside0.mk (below_step (by repeat (first | (with_reducible first | exact HB.out | apply below_alloc | apply pw_below_drewN | apply below_drew1) | exact HB.out)) hb); clear HB; have HB := n0_; clear n0_; (try clear hb); (try clear hb2); (try clear hk); (try clear hi)) | (go_at_call 32; (with_reducible refine (lines_Starts.calls a0 t154 _ A6.out).mono ?_); rintro e w9 ⟨v155, rfl, ho0, hb⟩; have n0_ := Aside0.mk (Kd.R_lower ho0 (below_size (by repeat (first | (with_reducible first | exact HB.out | apply below_alloc | apply pw_below_drewN | apply below_drew1) | exact HB.out)))); have n1_ := Aside0.mk (below_step (by repeat (first | (with_reducible first | exact HB.out | apply below_alloc | apply pw_below_drewN | apply below_drew1) | exact HB.out)) hb); clear HB; have HO156 := n0_; have HB := n1_; clear n0_ n1_; (try clear hb); (try clear hb2); (try clear hk); (try clear hi); (try clear ho0))))
      (try simp only [Act.put, List.setIfInBounds_toArray, List.set_cons_zero, List.set_cons_succ])
      go_cut [31] (fun v31 wc => ∃ (kq : Nat) (x31_6 : Bool), v31 = .bool x31_6 ∧ Aside0 (glossatorlaw02_LinesWhole.j0 kq a0 t154 x31_6 = some r) ∧ Aside0 (kq ≤ k) ∧ Aside0 (Kd.R (Kd.int .i64) 3 wc w.heap.size (fun _ => True) v155 t154) ∧ Aside0 (Below w.heap.size w wc))
      case first =>
        have H := HC7.out
        clear HC7
        by_cases c10 : (t154.length : Int) = 0
        · rw [if_pos c10] at H
          have c10b0 : ((t154.length : Int) == 0) = true := beq_iff_eq.mpr c10
          have c10b1 : ((t154.length : Int) != 0) = false := bne_eq_false_iff_eq.mpr c10
          clear c10
          (first | rw [c10b0] | (simp only [i64_w, i32_w]; rw [c10b0]) | skip)
          have H' := Aside0.mk H
          clear H
          obtain ⟨Ao11, co11, eo11⟩ := Kd.R_slice HO156.out
          subst eo11
          go_wp2
          repeat (go_quiet (fail); try go_wp2)
          go_meet
          case rel => exact ⟨_, (true), (by first | rfl | (simp; done) | (simp [*]; done) | (simp; exact xEmpty_ne _) | (simp [*]; exact xEmpty_ne _)), H', ⟨by first | omega | exact Nat.le_refl _⟩, ⟨by (with_reducible repeat (first | apply Kd.R_alloc | apply Kd.R_drewN | apply Kd.R_drew)); exact HO156.out⟩, ⟨by repeat (first | (with_reducible first | exact HB.out | apply below_alloc | apply pw_below_drewN | apply below_drew1) | exact HB.out)⟩⟩
        · rw [if_neg c10] at H
          have c10b0 : ((t154.length : Int) == 0) = false := beq_eq_false_iff_ne.mpr c10
          have c10b1 : ((t154.length : Int) != 0) = true := bne_iff_ne.mpr c10
          have c10b2 : ¬ (t154 = []) := fun h_ => c10 (by rw [h_]; rfl)
          (first | rw [c10b0] | (simp only [i64_w, i32_w]; rw [c10b0]) | skip)
          by_cases c12 : 0 < (t154.length : Int)
          · rw [if_pos c12] at H
            have c12b0 : decide (0 < (t154.length : Int)) = true := decide_eq_true c12
            have c12b1 : decide (0 < t154.length) = true := decide_eq_true (by omega)
            clear c12
            by_cases c13 : (rd t154 0) = 0
            · rw [if_pos c13] at H
              have c13b0 : ((rd t154 0) == 0) = true := beq_iff_eq.mpr c13
              have c13b1 : ((rd t154 0) != 0) = false := bne_eq_false_iff_eq.mpr c13
              clear c13
              replace H := Option.bind_eq_some_iff.mp H
              obtain ⟨t158, A140, H⟩ := H
              replace H : (glossatorlaw02_LinesWhole.j0 k a0 t154 (t158 != (t154.length : Int))) = some r := H
              have A14 := Aside0.mk A140
              clear A140
              have H' := Aside0.mk H
              clear H
              obtain ⟨Ao15, co15, eo15⟩ := Kd.R_slice HO156.out
              subst eo15
              have p157 : 0 ≤ (0 : Int) := (by omega)
              have q157 : 0 < (t154.length : Int) := of_decide_eq_true (by first | (with_reducible assumption) | assumption)
              obtain ⟨ad157, e157, hx157_0⟩ := Kd.at_int (Kd.R_reads' HO156.out).2.2 0 p157 q157
              cases e157
              have qi157 : (0 < t154.length) = True := eq_true (by omega)
              (try rw [show ((0 : Int)).toNat = 0 from rfl] at hx157_0)
              (try rw [Addr.add_zero'] at hx157_0)
              replace p157 := eq_true p157
              replace q157 := eq_true q157
              go_wp2_with (first | (go_at_call 33; (with_reducible refine (lines_Many.calls a0 t158 _ A14.out).mono ?_); rintro e w16 ⟨rfl, hb⟩; have n0_ := Aside0.mk (Kd.R_below (by (with_reducible repeat (first | apply Kd.R_alloc | apply Kd.R_drewN | apply Kd.R_drew)); exact HO156.out) hb); have n1_ := Aside0.mk (below_step (by repeat (first | (with_reducible first | exact HB.out | apply below_alloc | apply pw_below_drewN | apply below_drew1) | exact HB.out)) hb); clear HO156; clear HB; have HO156 := n0_; have HB := n1_; clear n0_ n1_; (try clear hb); (try clear hb2); (try clear hk); (try clear hi)))
              repeat (go_quiet (first | (go_at_call 33; (with_reducible refine (lines_Many.calls a0 t158 _ A14.out).mono ?_); rintro e w16 ⟨rfl, hb⟩; have n0_ := Aside0.mk (Kd.R_below (by (with_reducible repeat (first | apply Kd.R_alloc | apply Kd.R_drewN | apply Kd.R_drew)); exact HO156.out) hb); have n1_ := Aside0.mk (below_step (by repeat (first | (with_reducible first | exact HB.out | apply below_alloc | apply pw_below_drewN | apply below_drew1) | exact HB.out)) hb); clear HO156; clear HB; have HO156 := n0_; have HB := n1_; clear n0_ n1_; (try clear hb); (try clear hb2); (try clear hk); (try clear hi))); try go_wp2_with (first | (go_at_call 33; (with_reducible refine (lines_Many.calls a0 t158 _ A14.out).mono ?_); rintro e w16 ⟨rfl, hb⟩; have n0_ := Aside0.mk (Kd.R_below (by (with_reducible repeat (first | apply Kd.R_alloc | apply Kd.R_drewN | apply Kd.R_drew)); exact HO156.out) hb); have n1_ := Aside0.mk (below_step (by repeat (first | (with_reducible first | exact HB.out | apply below_alloc | apply pw_below_drewN | apply below_drew1) | exact HB.out)) hb); clear HO156; clear HB; have HO156 := n0_; have HB := n1_; clear n0_ n1_; (try clear hb); (try clear hb2); (try clear hk); (try clear hi))))
              go_meet
              case rel => exact ⟨_, ((t158 != (t154.length : Int))), (by first | rfl | (simp; done) | (simp [*]; done) | (simp; exact xEmpty_ne _) | (simp [*]; exact xEmpty_ne _)), H', ⟨by first | omega | exact Nat.le_refl _⟩, ⟨by (with_reducible repeat (first | apply Kd.R_alloc | apply Kd.R_drewN | apply Kd.R_drew)); exact HO156.out⟩, ⟨by repeat (first | (with_reducible first | exact HB.out | apply below_alloc | apply pw_below_drewN | apply below_drew1) | exact HB.out)⟩⟩
            · rw [if_neg c13] at H
              have c13b0 : ((rd t154 0) == 0) = false := beq_eq_false_iff_ne.mpr c13
              have c13b1 : ((rd t154 0) != 0) = true := bne_iff_ne.mpr c13
              have H' := Aside0.mk H
              clear H
              obtain ⟨Ao17, co17, eo17⟩ := Kd.R_slice HO156.out
              subst eo17
              have p157 : 0 ≤ (0 : Int) := (by omega)
              have q157 : 0 < (t154.length : Int) := of_decide_eq_true (by first | (with_reducible assumption) | assumption)
              obtain ⟨ad157, e157, hx157_0⟩ := Kd.at_int (Kd.R_reads' HO156.out).2.2 0 p157 q157
              cases e157
              have qi157 : (0 < t154.length) = True := eq_true (by omega)
              (try rw [show ((0 : Int)).toNat = 0 from rfl] at hx157_0)
              (try rw [Addr.add_zero'] at hx157_0)
              replace p157 := eq_true p157
              replace q157 := eq_true q157
              go_wp2
              repeat (go_quiet (fail); try go_wp2)
              go_meet
              case rel => exact ⟨_, (true), (by first | rfl | (simp; done) | (simp [*]; done) | (simp; exact xEmpty_ne _) | (simp [*]; exact xEmpty_ne _)), H', ⟨by first | omega | exact Nat.le_refl _⟩, ⟨by (with_reducible repeat (first | apply Kd.R_alloc | apply Kd.R_drewN | apply Kd.R_drew)); exact HO156.out⟩, ⟨by repeat (first | (with_reducible first | exact HB.out | apply below_alloc | apply pw_below_drewN | apply below_drew1) | exact HB.out)⟩⟩
          · rw [if_neg c12] at H
            exact absurd H (by simp)
      case rest =>
        clear HC7
        try clear c1
        try clear p1
        try clear q1
        try clear hx1
        try clear qi1
        try clear p2
        try clear c3
        try clear c4
        try clear c4b0
        try clear c4b1
        try clear c10
        try clear c10b0
        try clear c10b1
        try clear c10b2
        try clear c12
        try clear c12b0
        try clear c12b1
        try clear c13
        try clear c13b0
        try clear c13b1
        try clear p15
        try clear q15
        try clear hx15
        try clear qi15
        try clear hx157_0
        try clear p157
        try clear q157
        obtain ⟨kq, x31_6, rfl, HA, HJ6, HO_3, HB⟩ := hcut
        cases kq with
        | zero => exact absurd HA.out (by simp [glossatorlaw02_LinesWhole.j0])
        | succ kj6 =>
          have H := HA.out
          clear HA
          simp only [glossatorlaw02_LinesWhole.j0] at H
          by_cases c18 : x31_6 = true
          · subst c18
            have H1 : (some false) = some r := by rw [if_pos rfl] at H; exact H
            clear H
            have H := H1
            clear H1
            obtain rfl := Option.some.inj H
            go_wp2
            repeat (go_quiet (fail); try go_wp2)
            go_ret
            exact ⟨by first | rfl | (simp [errW_none, errW_some] <;> rfl) | (simp [*, errW_none, errW_some] <;> rfl), by repeat (first | (with_reducible first | exact HB.out | apply below_alloc | apply pw_below_drewN | apply below_drew1) | exact HB.out)⟩
          · replace c18 := Bool.eq_false_iff.mpr c18
            subst c18
            have H1 : (glossatorlaw02_LinesWhole.l0 kj6 a0 t154 0) = some r := by rw [if_neg (show ¬ (false = true) by decide)] at H; exact H
            clear H
            have H := H1
            clear H1
            have H' := Aside0.mk H
            clear H
            go_wp2
            repeat (go_quiet (fail); try go_wp2)
            go_loopg [4] kj6 (fun kq v4 w' => ∃ (x4_2 : Int), v4 = .int .i64 x4_2 ∧ Aside0 (glossatorlaw02_LinesWhole.l0 kq a0 t154 x4_2 = some r) ∧ Aside0 (kq ≤ kj6) ∧ Aside0 (Kd.R (Kd.int .i64) 3 w' w.heap.size (fun _ => True) v155 t154) ∧ Aside0 (Below w.heap.size w w'))
            case atStart => exact ⟨(0), (by first | rfl | (simp; done) | (simp [*]; done) | (simp; exact xEmpty_ne _) | (simp [*]; exact xEmpty_ne _)), H', ⟨Nat.le_refl _⟩, ⟨by (with_reducible repeat (first | apply Kd.R_alloc | apply Kd.R_drewN | apply Kd.R_drew)); exact HO_3.out⟩, ⟨by repeat (first | (with_reducible first | exact HB.out | apply below_alloc | apply pw_below_drewN | apply below_drew1) | exact HB.out)⟩⟩
            case round =>
              clear H'
              try clear c1
              try clear p1
              try clear q1
              try clear hx1
              try clear qi1
              try clear p2
              try clear c3
              try clear c4
              try clear c4b0
              try clear c4b1
              try clear c10
              try clear c10b0
              try clear c10b1
              try clear c10b2
              try clear c12
              try clear c12b0
              try clear c12b1
              try clear c13
              try clear c13b0
              try clear c13b1
              try clear p15
              try clear q15
              try clear hx15
              try clear qi15
              try clear c18
              try clear hx157_0
              try clear p1
              try clear p15
              try clear p157
              try clear p2
              try clear q1
              try clear q15
              try clear q157
              obtain ⟨x4_2, rfl, HA, HK2, HO_3, HB⟩ := hrel
              cases gk with
              | zero => exact absurd HA.out (by simp [glossatorlaw02_LinesWhole.l0])
              | succ k2 =>
                have H := HA.out
                clear HA
                simp only [glossatorlaw02_LinesWhole.l0] at H
                have HC19 := Aside0.mk H
                clear H
                go_upto_region 9 with (fail)
                repeat (go_quiet (fail); go_upto_region 9 with (fail))
                go_cut [39] (fun v39 wc => ∃ (kq : Nat) (x39_18 : Bool), v39 = .bool x39_18 ∧ Aside0 (glossatorlaw02_LinesWhole.j2 kq a0 t154 x4_2 x39_18 = some r) ∧ Aside0 (kq ≤ k2) ∧ Aside0 (Kd.R (Kd.int .i64) 3 wc w.heap.size (fun _ => True) v155 t154) ∧ Aside0 (Below w.heap.size w wc))
                case first =>
                  have H := HC19.out
                  clear HC19
                  by_cases c20 : x4_2 < (t154.length : Int)
                  · rw [if_pos c20] at H
                    have c20b0 : decide (x4_2 < (t154.length : Int)) = true := decide_eq_true c20
                    clear c20
                    (first | rw [c20b0] | (simp only [i64_w, i32_w]; rw [c20b0]) | skip)
                    have H' := Aside0.mk H
                    clear H
                    obtain ⟨Ao21, co21, eo21⟩ := Kd.R_slice HO_3.out
                    subst eo21
                    go_wp2
                    repeat (go_quiet (fail); try go_wp2)
                    go_meet
                    case rel => exact ⟨_, (decide (x4_2 < 300)), (by first | rfl | (simp; done) | (simp [*]; done) | (simp; exact xEmpty_ne _) | (simp [*]; exact xEmpty_ne _)), H', ⟨by have := HJ6.out; have := HK2.out; first | omega | exact Nat.le_refl _⟩, ⟨by (with_reducible repeat (first | apply Kd.R_alloc | apply Kd.R_drewN | apply Kd.R_drew)); exact HO_3.out⟩, ⟨by repeat (first | (with_reducible first | exact HB.out | apply below_alloc | apply pw_below_drewN | apply below_drew1) | exact HB.out)⟩⟩
                  · rw [if_neg c20] at H
                    have c20b0 : decide (x4_2 < (t154.length : Int)) = false := decide_eq_false c20
                    clear c20
                    (first | rw [c20b0] | (simp only [i64_w, i32_w]; rw [c20b0]) | skip)
                    have H' := Aside0.mk H
                    clear H
                    obtain ⟨Ao22, co22, eo22⟩ := Kd.R_slice HO_3.out
                    subst eo22
                    go_wp2
                    repeat (go_quiet (fail); try go_wp2)
                    go_meet
                    case rel => exact ⟨_, (false), (by first | rfl | (simp; done) | (simp [*]; done) | (simp; exact xEmpty_ne _) | (simp [*]; exact xEmpty_ne _)), H', ⟨by have := HJ6.out; have := HK2.out; first | omega | exact Nat.le_refl _⟩, ⟨by (with_reducible repeat (first | apply Kd.R_alloc | apply Kd.R_drewN | apply Kd.R_drew)); exact HO_3.out⟩, ⟨by repeat (first | (with_reducible first | exact HB.out | apply below_alloc | apply pw_below_drewN | apply below_drew1) | exact HB.out)⟩⟩
                case rest =>
                  clear HC19
                  try clear c1
                  try clear p1
                  try clear q1
                  try clear hx1
                  try clear qi1
                  try clear c2
                  try clear p2
                  try clear c3
                  try clear c4
                  try clear c4b0
                  try clear c4b1
                  try clear c10
                  try clear c10b0
                  try clear c10b1
                  try clear c10b2
                  try clear c12
                  try clear c12b0
                  try clear c12b1
                  try clear c13
                  try clear c13b0
                  try clear c13b1
                  try clear p15
                  try clear q15
                  try clear hx15
                  try clear qi15
                  try clear c18
                  try clear c20
                  try clear c20b0
                  try clear hx157_0
                  try clear p1
                  try clear p15
                  try clear p157
                  try clear p2
                  try clear q1
                  try clear q15
                  try clear q157
                  obtain ⟨kq, x39_18, rfl, HA, HJ18, HO_3, HB⟩ := hcut
                  cases kq with
                  | zero => exact absurd HA.out (by simp [glossatorlaw02_LinesWhole.j2])
                  | succ kj18 =>
                    have H := HA.out
                    clear HA
                    simp only [glossatorlaw02_LinesWhole.j2] at H
                    by_cases c23 : x39_18 = true
                    · subst c23
                      have H1 : ((lines_Line.f a0 x4_2).bind fun bt159 => (if bt159.2.2 = true then (if 0 ≤ x4_2 then (if x4_2 < (t154.length : Int) then (glossatorlaw02_LinesWhole.j3 kj18 a0 t154 x4_2 (bt159.1 != (rd t154 x4_2)) bt159.1 bt159.2.1) else (none)) else (none)) else (glossatorlaw02_LinesWhole.j3 kj18 a0 t154 x4_2 true bt159.1 bt159.2.1))) = some r := by rw [if_pos rfl] at H; exact H
                      clear H
                      have H := H1
                      clear H1
                      replace H := Option.bind_eq_some_iff.mp H
                      obtain ⟨⟨t159, t160, t161⟩, A240, H⟩ := H
                      replace H : (if t161 = true then (if 0 ≤ x4_2 then (if x4_2 < (t154.length : Int) then (glossatorlaw02_LinesWhole.j3 kj18 a0 t154 x4_2 (t159 != (rd t154 x4_2)) t159 t160) else (none)) else (none)) else (glossatorlaw02_LinesWhole.j3 kj18 a0 t154 x4_2 true t159 t160)) = some r := H
                      have A24 := Aside0.mk A240
                      clear A240
                      have HC25 := Aside0.mk H
                      clear H
                      go_upto_region 12 with (first | (go_at_call 31; (with_reducible refine (lines_Line.calls a0 x4_2 t159 t160 t161 _ A24.out).mono ?_); rintro e w26 ⟨rfl, hb⟩; have n0_ := Aside0.mk (Kd.R_below (by (with_reducible repeat (first | apply Kd.R_alloc | apply Kd.R_drewN | apply Kd.R_drew)); exact HO_3.out) hb); have n1_ := Aside0.mk (below_step (by repeat (first | (with_reducible first | exact HB.out | apply below_alloc | apply pw_below_drewN | apply below_drew1) | exact HB.out)) hb); clear HO_3; clear HB; have HO_3 := n0_; have HB := n1_; clear n0_ n1_; (try clear hb); (try clear hb2); (try clear hk); (try clear hi)) | ((with_reducible refine gate_dst (N := 5) rfl ?_); (try (refine gate_guard (by rfl) ?_; dsimp only)); refine box_event ?hg (N := 5) ?hd (cs := #[.int .i64 0, .int .i64 0]) (t := 40) ?hr ?_; (case hd => rfl); (case hg => rfl); (case hr => first | (go_simp; done) | (go_simp; rfl)); intro gb162 hg w27 hbox hb; have n0_ := Aside0.mk (Kd.R_below (by (with_reducible repeat (first | apply Kd.R_alloc | apply Kd.R_drewN | apply Kd.R_drew)); exact HO_3.out) hb); have n1_ := Aside0.mk (below_step (by repeat (first | (with_reducible first | exact HB.out | apply below_alloc | apply pw_below_drewN | apply below_drew1) | exact HB.out)) hb); have n2_ := Aside0.mk (hbox); have n3_ := Aside0.mk ((by rw [hg]; exact (below_size (by repeat (first | (with_reducible first | exact HB.out | apply below_alloc | apply pw_below_drewN | apply below_drew1) | exact HB.out))) : w.heap.size ≤ gb162)); have n4_ := Aside0.mk ((by rw [hg]; exact (below_size (by repeat (first | (with_reducible first | exact HB.out | apply below_alloc | apply pw_below_drewN | apply below_drew1) | exact HB.out))) : w.heap.size ≤ gb162)); clear HO_3; clear HB; have HO_3 := n0_; have HB := n1_; have BK162 := n2_; have GW162 := n3_; have GE162 := n4_; clear n0_ n1_ n2_ n3_ n4_; clear hb hbox hg; have hcz28_0 : w27.cell? ⟨gb162, 0, none⟩ = some (.int .i64 0) := (blk_cell BK162.out 0).trans rfl; have hcz28_1 : w27.cell? ⟨gb162, 1, none⟩ = some (.int .i64 0) := (blk_cell BK162.out 1).trans rfl; have hfz28_0 := blk_frozen BK162.out 0; have hfz28_1 := blk_frozen BK162.out 1))
                      repeat (go_quiet (first | (go_at_call 31; (with_reducible refine (lines_Line.calls a0 x4_2 t159 t160 t161 _ A24.out).mono ?_); rintro e w26 ⟨rfl, hb⟩; have n0_ := Aside0.mk (Kd.R_below (by (with_reducible repeat (first | apply Kd.R_alloc | apply Kd.R_drewN | apply Kd.R_drew)); exact HO_3.out) hb); have n1_ := Aside0.mk (below_step (by repeat (first | (with_reducible first | exact HB.out | apply below_alloc | apply pw_below_drewN | apply below_drew1) | exact HB.out)) hb); clear HO_3; clear HB; have HO_3 := n0_; have HB := n1_; clear n0_ n1_; (try clear hb); (try clear hb2); (try clear hk); (try clear hi)) | ((with_reducible refine gate_dst (N := 5) rfl ?_); (try (refine gate_guard (by rfl) ?_; dsimp only)); refine box_event ?hg (N := 5) ?hd (cs := #[.int .i64 0, .int .i64 0]) (t := 40) ?hr ?_; (case hd => rfl); (case hg => rfl); (case hr => first | (go_simp; done) | (go_simp; rfl)); intro gb162 hg w27 hbox hb; have n0_ := Aside0.mk (Kd.R_below (by (with_reducible repeat (first | apply Kd.R_alloc | apply Kd.R_drewN | apply Kd.R_drew)); exact HO_3.out) hb); have n1_ := Aside0.mk (below_step (by repeat (first | (with_reducible first | exact HB.out | apply below_alloc | apply pw_below_drewN | apply below_drew1) | exact HB.out)) hb); have n2_ := Aside0.mk (hbox); have n3_ := Aside0.mk ((by rw [hg]; exact (below_size (by repeat (first | (with_reducible first | exact HB.out | apply below_alloc | apply pw_below_drewN | apply below_drew1) | exact HB.out))) : w.heap.size ≤ gb162)); have n4_ := Aside0.mk ((by rw [hg]; exact (below_size (by repeat (first | (with_reducible first | exact HB.out | apply below_alloc | apply pw_below_drewN | apply below_drew1) | exact HB.out))) : w.heap.size ≤ gb162)); clear HO_3; clear HB; have HO_3 := n0_; have HB := n1_; have BK162 := n2_; have GW162 := n3_; have GE162 := n4_; clear n0_ n1_ n2_ n3_ n4_; clear hb hbox hg; have hcz28_0 : w27.cell? ⟨gb162, 0, none⟩ = some (.int .i64 0) := (blk_cell BK162.out 0).trans rfl; have hcz28_1 : w27.cell? ⟨gb162, 1, none⟩ = some (.int .i64 0) := (blk_cell BK162.out 1).trans rfl; have hfz28_0 := blk_frozen BK162.out 0; have hfz28_1 := blk_frozen BK162.out 1)); go_upto_region 12 with (first | (go_at_call 31; (with_reducible refine (lines_Line.calls a0 x4_2 t159 t160 t161 _ A24.out).mono ?_); rintro e w26 ⟨rfl, hb⟩; have n0_ := Aside0.mk (Kd.R_below (by (with_reducible repeat (first | apply Kd.R_alloc | apply Kd.R_drewN | apply Kd.R_drew)); exact HO_3.out) hb); have n1_ := Aside0.mk (below_step (by repeat (first | (with_reducible first | exact HB.out | apply below_alloc | apply pw_below_drewN | apply below_drew1) | exact HB.out)) hb); clear HO_3; clear HB; have HO_3 := n0_; have HB := n1_; clear n0_ n1_; (try clear hb); (try clear hb2); (try clear hk); (try clear hi)) | ((with_reducible refine gate_dst (N := 5) rfl ?_); (try (refine gate_guard (by rfl) ?_; dsimp only)); refine box_event ?hg (N := 5) ?hd (cs := #[.int .i64 0, .int .i64 0]) (t := 40) ?hr ?_; (case hd => rfl); (case hg => rfl); (case hr => first | (go_simp; done) | (go_simp; rfl)); intro gb162 hg w27 hbox hb; have n0_ := Aside0.mk (Kd.R_below (by (with_reducible repeat (first | apply Kd.R_alloc | apply Kd.R_drewN | apply Kd.R_drew)); exact HO_3.out) hb); have n1_ := Aside0.mk (below_step (by repeat (first | (with_reducible first | exact HB.out | apply below_alloc | apply pw_below_drewN | apply below_drew1) | exact HB.out)) hb); have n2_ := Aside0.mk (hbox); have n3_ := Aside0.mk ((by rw [hg]; exact (below_size (by repeat (first | (with_reducible first | exact HB.out | apply below_alloc | apply pw_below_drewN | apply below_drew1) | exact HB.out))) : w.heap.size ≤ gb162)); have n4_ := Aside0.mk ((by rw [hg]; exact (below_size (by repeat (first | (with_reducible first | exact HB.out | apply below_alloc | apply pw_below_drewN | apply below_drew1) | exact HB.out))) : w.heap.size ≤ gb162)); clear HO_3; clear HB; have HO_3 := n0_; have HB := n1_; have BK162 := n2_; have GW162 := n3_; have GE162 := n4_; clear n0_ n1_ n2_ n3_ n4_; clear hb hbox hg; have hcz28_0 : w27.cell? ⟨gb162, 0, none⟩ = some (.int .i64 0) := (blk_cell BK162.out 0).trans rfl; have hcz28_1 : w27.cell? ⟨gb162, 1, none⟩ = some (.int .i64 0) := (blk_cell BK162.out 1).trans rfl; have hfz28_0 := blk_frozen BK162.out 0; have hfz28_1 := blk_frozen BK162.out 1)))
                      (try simp only [Act.put, List.setIfInBounds_toArray, List.set_cons_zero, List.set_cons_succ])
                      go_cut [58] (fun v58 wc => ∃ (kq : Nat) (x58_24 : Bool), v58 = .bool x58_24 ∧ Aside0 (glossatorlaw02_LinesWhole.j3 kq a0 t154 x4_2 x58_24 t159 t160 = some r) ∧ Aside0 (kq ≤ kj18) ∧ Aside0 (Kd.R (Kd.int .i64) 3 wc w.heap.size (fun _ => True) v155 t154) ∧ Aside0 (wc.heap[gb162]? = some (.cells #[.int .i64 t159, .int .i64 t160] 40 (0, 0))) ∧ Aside0 (Below w.heap.size w wc))
                      case first =>
                        have H := HC25.out
                        clear HC25
                        by_cases c29 : t161 = true
                        · subst c29
                          have H1 : (if 0 ≤ x4_2 then (if x4_2 < (t154.length : Int) then (glossatorlaw02_LinesWhole.j3 kj18 a0 t154 x4_2 (t159 != (rd t154 x4_2)) t159 t160) else (none)) else (none)) = some r := by rw [if_pos rfl] at H; exact H
                          clear H
                          have H := H1
                          clear H1
                          by_cases c30 : 0 ≤ x4_2
                          · rw [if_pos c30] at H
                            have c30b0 : decide (0 ≤ x4_2) = true := decide_eq_true c30
                            clear c30
                            (first | rw [c30b0] | (simp only [i64_w, i32_w]; rw [c30b0]) | skip)
                            by_cases c31 : x4_2 < (t154.length : Int)
                            · rw [if_pos c31] at H
                              have c31b0 : decide (x4_2 < (t154.length : Int)) = true := decide_eq_true c31
                              clear c31
                              have H' := Aside0.mk H
                              clear H
                              have hcz32_0 : w27.cell? ⟨gb162, 0, none⟩ = some (.int .i64 0) := (blk_cell BK162.out 0).trans rfl
                              have hcz32_1 : w27.cell? ⟨gb162, 1, none⟩ = some (.int .i64 0) := (blk_cell BK162.out 1).trans rfl
                              have hfz32_0 := blk_frozen BK162.out 0
                              have hfz32_1 := blk_frozen BK162.out 1
                              obtain ⟨Ao33, co33, eo33⟩ := Kd.R_slice HO_3.out
                              subst eo33
                              have p163 : 0 ≤ (x4_2 : Int) := of_decide_eq_true (by first | (with_reducible assumption) | assumption)
                              have q163 : x4_2 < (t154.length : Int) := of_decide_eq_true (by first | (with_reducible assumption) | assumption)
                              obtain ⟨ad163, e163, hx163_0⟩ := Kd.at_int (Kd.R_reads' HO_3.out).2.2 x4_2 p163 q163
                              cases e163
                              have hn163_0 : ad163.block ≠ gb162 := Kd.own_blk (Kd.R_ne HO_3.out BK162.out (by decide))
                              have hn163_1 : ad163.block ≠ gb162 := Kd.own_blk (Kd.R_ne HO_3.out BK162.out (by decide))
                              replace hx163_0 := (cell_far (p := ⟨gb162, 0, none⟩) (by first | (rw [add_block]; exact hn163_0) | (show (Addr.add _ _).block ≠ _; rw [add_block]; exact hn163_0) | exact hn163_0) (.int .i64 t159)).trans hx163_0
                              replace hx163_0 := (cell_far (p := ⟨gb162, 1, none⟩) (by first | (rw [add_block]; exact hn163_1) | (show (Addr.add _ _).block ≠ _; rw [add_block]; exact hn163_1) | exact hn163_1) (.int .i64 t160)).trans hx163_0
                              (try have hy163_0 := fun (n_ : Nat) => (show ((((w27.drewN n_).setCell ⟨gb162, 0, none⟩ (.int .i64 t159)).setCell ⟨gb162, 1, none⟩ (.int .i64 t160))).cell? _ = some _ from hx163_0))
                              clear hn163_0
                              clear hn163_1
                              replace p163 := eq_true p163
                              replace q163 := eq_true q163
                              go_wp2
                              repeat (go_quiet (fail); try go_wp2)
                              go_meet
                              case rel => exact ⟨_, ((t159 != (rd t154 x4_2))), (by first | rfl | (simp; done) | (simp [*]; done) | (simp; exact xEmpty_ne _) | (simp [*]; exact xEmpty_ne _)), H', ⟨by have := HJ6.out; have := HK2.out; have := HJ18.out; first | omega | exact Nat.le_refl _⟩, ⟨by (with_reducible repeat (first | apply Kd.R_alloc | apply Kd.R_drewN | apply Kd.R_drew)); exact Kd.R_mono (Kd.R_far (p := ⟨gb162, 1, none⟩) (Kd.R_far (p := ⟨gb162, 0, none⟩) (Kd.R_types HO_3.out BK162.out (by decide)) (fun _ hk => hk.2) (.int .i64 t159)) (fun _ hk => hk.2) (.int .i64 t160)) (fun _ hk => trivial)⟩, ⟨by (with_reducible repeat (first | refine blk_drewN ?_ _ | refine blk_drew ?_ | refine blk_alloc ?_ _)); refine blk_put (cs := #[.int .i64 t159, .int .i64 0]) ?_ 1 _ rfl; (with_reducible repeat (first | refine blk_drewN ?_ _ | refine blk_drew ?_ | refine blk_alloc ?_ _)); refine blk_put (cs := #[.int .i64 0, .int .i64 0]) ?_ 0 _ rfl; (with_reducible repeat (first | refine blk_drewN ?_ _ | refine blk_drew ?_ | refine blk_alloc ?_ _)); exact BK162.out⟩, ⟨by repeat (first | (with_reducible first | exact HB.out | apply below_alloc | apply pw_below_drewN | apply below_drew1 | refine below_set ?_ GE162.out) | exact HB.out)⟩⟩
                            · rw [if_neg c31] at H
                              exact absurd H (by simp)
                          · rw [if_neg c30] at H
                            exact absurd H (by simp)
                        · replace c29 := Bool.eq_false_iff.mpr c29
                          subst c29
                          have H1 : (glossatorlaw02_LinesWhole.j3 kj18 a0 t154 x4_2 true t159 t160) = some r := by rw [if_neg (show ¬ (false = true) by decide)] at H; exact H
                          clear H
                          have H := H1
                          clear H1
                          have H' := Aside0.mk H
                          clear H
                          go_wp2
                          repeat (go_quiet (fail); try go_wp2)
                          go_meet
                          case rel => exact ⟨_, (true), (by first | rfl | (simp; done) | (simp [*]; done) | (simp; exact xEmpty_ne _) | (simp [*]; exact xEmpty_ne _)), H', ⟨by have := HJ6.out; have := HK2.out; have := HJ18.out; first | omega | exact Nat.le_refl _⟩, ⟨by (with_reducible repeat (first | apply Kd.R_alloc | apply Kd.R_drewN | apply Kd.R_drew)); exact Kd.R_mono (Kd.R_far (p := ⟨gb162, 1, none⟩) (Kd.R_far (p := ⟨gb162, 0, none⟩) (Kd.R_types HO_3.out BK162.out (by decide)) (fun _ hk => hk.2) (.int .i64 t159)) (fun _ hk => hk.2) (.int .i64 t160)) (fun _ hk => trivial)⟩, ⟨by (with_reducible repeat (first | refine blk_drewN ?_ _ | refine blk_drew ?_ | refine blk_alloc ?_ _)); refine blk_put (cs := #[.int .i64 t159, .int .i64 0]) ?_ 1 _ rfl; (with_reducible repeat (first | refine blk_drewN ?_ _ | refine blk_drew ?_ | refine blk_alloc ?_ _)); refine blk_put (cs := #[.int .i64 0, .int .i64 0]) ?_ 0 _ rfl; (with_reducible repeat (first | refine blk_drewN ?_ _ | refine blk_drew ?_ | refine blk_alloc ?_ _)); exact BK162.out⟩, ⟨by repeat (first | (with_reducible first | exact HB.out | apply below_alloc | apply pw_below_drewN | apply below_drew1 | refine below_set ?_ GE162.out) | exact HB.out)⟩⟩
                      case rest =>
                        clear HC25
                        try clear c1
                        try clear p1
                        try clear q1
                        try clear hx1
                        try clear qi1
                        try clear c2
                        try clear p2
                        try clear c3
                        try clear c4
                        try clear c4b0
                        try clear c4b1
                        try clear c10
                        try clear c10b0
                        try clear c10b1
                        try clear c10b2
                        try clear c12
                        try clear c12b0
                        try clear c12b1
                        try clear c13
                        try clear c13b0
                        try clear c13b1
                        try clear p15
                        try clear q15
                        try clear hx15
                        try clear qi15
                        try clear p16
                        try clear q16
                        try clear hx16
                        try clear c18
                        try clear c20
                        try clear c20b0
                        try clear c23
                        try clear c29
                        try clear c30
                        try clear c30b0
                        try clear c31
                        try clear c31b0
                        try clear hcz28_0
                        try clear hcz28_1
                        try clear hcz32_0
                        try clear hcz32_1
                        try clear hfz28_0
                        try clear hfz28_1
                        try clear hfz32_0
                        try clear hfz32_1
                        try clear hx157_0
                        try clear hx163_0
                        try clear p1
                        try clear p15
                        try clear p157
                        try clear p163
                        try clear p2
                        try clear q1
                        try clear q15
                        try clear q157
                        try clear q163
                        obtain ⟨kq, x58_24, rfl, HA, HJ24, HO_3, BK162, HB⟩ := hcut
                        cases kq with
                        | zero => exact absurd HA.out (by simp [glossatorlaw02_LinesWhole.j3])
                        | succ kj24 =>
                          have H := HA.out
                          clear HA
                          simp only [glossatorlaw02_LinesWhole.j3] at H
                          by_cases c34 : x58_24 = true
                          · subst c34
                            have H1 : (some false) = some r := by rw [if_pos rfl] at H; exact H
                            clear H
                            have H := H1
                            clear H1
                            obtain rfl := Option.some.inj H
                            go_wp2
                            repeat (go_quiet (fail); try go_wp2)
                            go_ret
                            exact ⟨by first | rfl | (simp [errW_none, errW_some] <;> rfl) | (simp [*, errW_none, errW_some] <;> rfl), by repeat (first | (with_reducible first | exact HB.out | apply below_alloc | apply pw_below_drewN | apply below_drew1 | refine below_set ?_ GE162.out) | exact HB.out)⟩
                          · replace c34 := Bool.eq_false_iff.mpr c34
                            subst c34
                            have H1 : (glossatorlaw02_LinesWhole.l1 kj24 a0 t154 x4_2 t159 t159 t160) = some r := by rw [if_neg (show ¬ (false = true) by decide)] at H; exact H
                            clear H
                            have H := H1
                            clear H1
                            have H' := Aside0.mk H
                            clear H
                            have hcz35_0 : wc.cell? ⟨gb162, 0, none⟩ = some (.int .i64 t159) := (blk_cell BK162.out 0).trans rfl
                            have hcz35_1 : wc.cell? ⟨gb162, 1, none⟩ = some (.int .i64 t160) := (blk_cell BK162.out 1).trans rfl
                            have hfz35_0 := blk_frozen BK162.out 0
                            have hfz35_1 := blk_frozen BK162.out 1
                            go_wp2
                            repeat (go_quiet (fail); try go_wp2)
                            go_loopg [7] kj24 (fun kq v7 w' => ∃ (x7_5 : Int), v7 = .int .i64 x7_5 ∧ Aside0 (glossatorlaw02_LinesWhole.l1 kq a0 t154 x4_2 x7_5 t159 t160 = some r) ∧ Aside0 (kq ≤ kj24) ∧ Aside0 (Kd.R (Kd.int .i64) 3 w' w.heap.size (fun _ => True) v155 t154) ∧ Aside0 (w'.heap[gb162]? = some (.cells #[.int .i64 t159, .int .i64 t160] 40 (0, 0))) ∧ Aside0 (Below w.heap.size w w'))
                            case atStart => exact ⟨(t159), (by first | rfl | (simp; done) | (simp [*]; done) | (simp; exact xEmpty_ne _) | (simp [*]; exact xEmpty_ne _)), H', ⟨Nat.le_refl _⟩, ⟨by (with_reducible repeat (first | apply Kd.R_alloc | apply Kd.R_drewN | apply Kd.R_drew)); exact HO_3.out⟩, ⟨by (with_reducible repeat (first | refine blk_drewN ?_ _ | refine blk_drew ?_ | refine blk_alloc ?_ _)); exact BK162.out⟩, ⟨by repeat (first | (with_reducible first | exact HB.out | apply below_alloc | apply pw_below_drewN | apply below_drew1 | refine below_set ?_ GE162.out) | exact HB.out)⟩⟩
                            case round =>
                              clear H'
                              try clear c1
                              try clear p1
                              try clear q1
                              try clear hx1
                              try clear qi1
                              try clear c2
                              try clear p2
                              try clear c3
                              try clear c4
                              try clear c4b0
                              try clear c4b1
                              try clear c10
                              try clear c10b0
                              try clear c10b1
                              try clear c10b2
                              try clear c12
                              try clear c12b0
                              try clear c12b1
                              try clear c13
                              try clear c13b0
                              try clear c13b1
                              try clear p15
                              try clear q15
                              try clear hx15
                              try clear qi15
                              try clear p16
                              try clear q16
                              try clear hx16
                              try clear c18
                              try clear c20
                              try clear c20b0
                              try clear c23
                              try clear c29
                              try clear c30
                              try clear c30b0
                              try clear c31
                              try clear c31b0
                              try clear c34
                              try clear hcz28_0
                              try clear hcz28_1
                              try clear hcz32_0
                              try clear hcz32_1
                              try clear hcz35_0
                              try clear hcz35_1
                              try clear hfz28_0
                              try clear hfz28_1
                              try clear hfz32_0
                              try clear hfz32_1
                              try clear hfz35_0
                              try clear hfz35_1
                              try clear hx157_0
                              try clear hx163_0
                              try clear p1
                              try clear p15
                              try clear p157
                              try clear p16
                              try clear p163
                              try clear p2
                              try clear q1
                              try clear q15
                              try clear q157
                              try clear q16
                              try clear q163
                              obtain ⟨x7_5, rfl, HA, HK5, HO_3, BK162, HB⟩ := hrel
                              cases gk with
                              | zero => exact absurd HA.out (by simp [glossatorlaw02_LinesWhole.l1])
                              | succ k5 =>
                                have H := HA.out
                                clear HA
                                simp only [glossatorlaw02_LinesWhole.l1] at H
                                by_cases c36 : x7_5 < t160
                                · rw [if_pos c36] at H
                                  have c36b0 : decide (x7_5 < t160) = true := decide_eq_true c36
                                  clear c36
                                  by_cases c37 : 0 ≤ x7_5
                                  · rw [if_pos c37] at H
                                    have c37b0 : decide (0 ≤ x7_5) = true := decide_eq_true c37
                                    clear c37
                                    by_cases c38 : x7_5 < (a0.size : Int)
                                    · rw [if_pos c38] at H
                                      have c38b0 : decide (x7_5 < (a0.size : Int)) = true := decide_eq_true c38
                                      clear c38
                                      by_cases c40 : (bt a0 x7_5) = 10
                                      · rw [if_pos c40] at H
                                        have c40b0 : ((bt a0 x7_5) == 10) = true := beq_iff_eq.mpr c40
                                        have c40b1 : ((bt a0 x7_5) != 10) = false := bne_eq_false_iff_eq.mpr c40
                                        clear c40
                                        obtain rfl := Option.some.inj H
                                        have hcz41_0 : wr.cell? ⟨gb162, 0, none⟩ = some (.int .i64 t159) := (blk_cell BK162.out 0).trans rfl
                                        have hcz41_1 : wr.cell? ⟨gb162, 1, none⟩ = some (.int .i64 t160) := (blk_cell BK162.out 1).trans rfl
                                        have hfz41_0 := blk_frozen BK162.out 0
                                        have hfz41_1 := blk_frozen BK162.out 1
                                        have p39 : 0 ≤ (x7_5 : Int) := of_decide_eq_true (by first | (with_reducible assumption) | assumption)
                                        have q39 : x7_5 < (a0.size : Int) := of_decide_eq_true (by first | (with_reducible assumption) | assumption)
                                        have hx39 := bt_at a0 x7_5
                                        replace p39 := eq_true p39
                                        replace q39 := eq_true q39
                                        go_wp2
                                        repeat (go_quiet (fail); try go_wp2)
                                        go_ret
                                        exact ⟨by first | rfl | (simp [errW_none, errW_some] <;> rfl) | (simp [*, errW_none, errW_some] <;> rfl), by repeat (first | (with_reducible first | exact HB.out | apply below_alloc | apply pw_below_drewN | apply below_drew1 | refine below_set ?_ GE162.out) | exact HB.out)⟩
                                      · rw [if_neg c40] at H
                                        have c40b0 : ((bt a0 x7_5) == 10) = false := beq_eq_false_iff_ne.mpr c40
                                        have c40b1 : ((bt a0 x7_5) != 10) = true := bne_iff_ne.mpr c40
                                        by_cases c43 : (bt a0 x7_5) = 13
                                        · rw [if_pos c43] at H
                                          have c43b0 : ((bt a0 x7_5) == 13) = true := beq_iff_eq.mpr c43
                                          have c43b1 : ((bt a0 x7_5) != 13) = false := bne_eq_false_iff_eq.mpr c43
                                          clear c43
                                          obtain rfl := Option.some.inj H
                                          have hcz44_0 : wr.cell? ⟨gb162, 0, none⟩ = some (.int .i64 t159) := (blk_cell BK162.out 0).trans rfl
                                          have hcz44_1 : wr.cell? ⟨gb162, 1, none⟩ = some (.int .i64 t160) := (blk_cell BK162.out 1).trans rfl
                                          have hfz44_0 := blk_frozen BK162.out 0
                                          have hfz44_1 := blk_frozen BK162.out 1
                                          have p39 : 0 ≤ (x7_5 : Int) := of_decide_eq_true (by first | (with_reducible assumption) | assumption)
                                          have q39 : x7_5 < (a0.size : Int) := of_decide_eq_true (by first | (with_reducible assumption) | assumption)
                                          have hx39 := bt_at a0 x7_5
                                          replace p39 := eq_true p39
                                          replace q39 := eq_true q39
                                          have p42 : 0 ≤ (x7_5 : Int) := of_decide_eq_true (by first | (with_reducible assumption) | assumption)
                                          have q42 : x7_5 < (a0.size : Int) := of_decide_eq_true (by first | (with_reducible assumption) | assumption)
                                          have hx42 := bt_at a0 x7_5
                                          replace p42 := eq_true p42
                                          replace q42 := eq_true q42
                                          go_wp2
                                          repeat (go_quiet (fail); try go_wp2)
                                          go_ret
                                          exact ⟨by first | rfl | (simp [errW_none, errW_some] <;> rfl) | (simp [*, errW_none, errW_some] <;> rfl), by repeat (first | (with_reducible first | exact HB.out | apply below_alloc | apply pw_below_drewN | apply below_drew1 | refine below_set ?_ GE162.out) | exact HB.out)⟩
                                        · rw [if_neg c43] at H
                                          have c43b0 : ((bt a0 x7_5) == 13) = false := beq_eq_false_iff_ne.mpr c43
                                          have c43b1 : ((bt a0 x7_5) != 13) = true := bne_iff_ne.mpr c43
                                          have H' := Aside0.mk H
                                          clear H
                                          have hcz45_0 : wr.cell? ⟨gb162, 0, none⟩ = some (.int .i64 t159) := (blk_cell BK162.out 0).trans rfl
                                          have hcz45_1 : wr.cell? ⟨gb162, 1, none⟩ = some (.int .i64 t160) := (blk_cell BK162.out 1).trans rfl
                                          have hfz45_0 := blk_frozen BK162.out 0
                                          have hfz45_1 := blk_frozen BK162.out 1
                                          have p39 : 0 ≤ (x7_5 : Int) := of_decide_eq_true (by first | (with_reducible assumption) | assumption)
                                          have q39 : x7_5 < (a0.size : Int) := of_decide_eq_true (by first | (with_reducible assumption) | assumption)
                                          have hx39 := bt_at a0 x7_5
                                          replace p39 := eq_true p39
                                          replace q39 := eq_true q39
                                          have p42 : 0 ≤ (x7_5 : Int) := of_decide_eq_true (by first | (with_reducible assumption) | assumption)
                                          have q42 : x7_5 < (a0.size : Int) := of_decide_eq_true (by first | (with_reducible assumption) | assumption)
                                          have hx42 := bt_at a0 x7_5
                                          replace p42 := eq_true p42
                                          replace q42 := eq_true q42
                                          go_wp2
                                          repeat (go_quiet (fail); try go_wp2)
                                          go_roundg k5
                                          case measure => have := HJ6.out; have := HK2.out; have := HJ18.out; have := HJ24.out; have := HK5.out; omega
                                          case rel => exact ⟨(wrap64 (x7_5 + 1)), (by first | rfl | (simp; done) | (simp [*]; done) | (simp; exact xEmpty_ne _) | (simp [*]; exact xEmpty_ne _)), H', ⟨by have := HJ6.out; have := HK2.out; have := HJ18.out; have := HJ24.out; have := HK5.out; omega⟩, ⟨by (with_reducible repeat (first | apply Kd.R_alloc | apply Kd.R_drewN | apply Kd.R_drew)); exact HO_3.out⟩, ⟨by (with_reducible repeat (first | refine blk_drewN ?_ _ | refine blk_drew ?_ | refine blk_alloc ?_ _)); exact BK162.out⟩, ⟨by repeat (first | (with_reducible first | exact HB.out | apply below_alloc | apply pw_below_drewN | apply below_drew1 | refine below_set ?_ GE162.out) | exact HB.out)⟩⟩
                                    · rw [if_neg c38] at H
                                      exact absurd H (by simp)
                                  · rw [if_neg c37] at H
                                    exact absurd H (by simp)
                                · rw [if_neg c36] at H
                                  have c36b0 : decide (x7_5 < t160) = false := decide_eq_false c36
                                  clear c36
                                  by_cases c46 : 0 ≤ t160
                                  · rw [if_pos c46] at H
                                    have c46b0 := eq_true c46
                                    have c46b1 : decide (0 ≤ t160) = true := decide_eq_true c46
                                    clear c46
                                    by_cases c47 : t160 ≤ (a0.size : Int)
                                    · rw [if_pos c47] at H
                                      have c47b0 := eq_true c47
                                      have c47b1 : decide (t160 ≤ (a0.size : Int)) = true := decide_eq_true c47
                                      clear c47
                                      have HC48 := Aside0.mk H
                                      clear H
                                      have hcz49_0 : wr.cell? ⟨gb162, 0, none⟩ = some (.int .i64 t159) := (blk_cell BK162.out 0).trans rfl
                                      have hcz49_1 : wr.cell? ⟨gb162, 1, none⟩ = some (.int .i64 t160) := (blk_cell BK162.out 1).trans rfl
                                      have hfz49_0 := blk_frozen BK162.out 0
                                      have hfz49_1 := blk_frozen BK162.out 1
                                      obtain ⟨Ao50, co50, eo50⟩ := Kd.R_slice HO_3.out
                                      subst eo50
                                      go_upto_if 85 with (fail)
                                      repeat (go_quiet (fail); go_upto_if 85 with (fail))
                                      go_cut [8] (fun v8 wc => ∃ (kq : Nat) (x8_47 : ByteArray), v8 = .string x8_47 ∧ Aside0 (glossatorlaw02_LinesWhole.j5 kq a0 t154 x4_2 x8_47 t159 t160 = some r) ∧ Aside0 (kq ≤ k5) ∧ Aside0 (Kd.R (Kd.int .i64) 3 wc w.heap.size (fun _ => True) (.slice Ao50 t154.length co50) t154) ∧ Aside0 (wc.heap[gb162]? = some (.cells #[.int .i64 t159, .int .i64 t160] 40 (0, 0))) ∧ Aside0 (Below w.heap.size w wc))
                                      case first =>
                                        have H := HC48.out
                                        clear HC48
                                        by_cases c51 : (wrap64 (x4_2 + 1)) < (t154.length : Int)
                                        · rw [if_pos c51] at H
                                          have c51b0 : decide ((wrap64 (x4_2 + 1)) < (t154.length : Int)) = true := decide_eq_true c51
                                          clear c51
                                          (first | rw [c51b0] | (simp only [i64_w, i32_w]; rw [c51b0]) | skip)
                                          obtain ⟨ji52, hji52⟩ : ∃ j_ : Int, (wrap64 (x4_2 + 1)) = j_ := ⟨_, rfl⟩
                                          replace H : (if 0 ≤ (ji52) then (if t160 ≤ (rd t154 (ji52)) then (if (rd t154 (ji52)) ≤ (a0.size : Int) then (glossatorlaw02_LinesWhole.j5 k5 a0 t154 x4_2 (a0.extract (t160 : Int).toNat ((rd t154 (ji52)) : Int).toNat) t159 t160) else (none)) else (none)) else (none)) = some r := by first | (rw [hji52] at H; exact H) | (simp only [hji52] at H ⊢; exact H)
                                          (try rw [hji52] at c51b0)
                                          have hji52w : (IntKind.i64.wrap (x4_2 + 1)) = ji52 := (i64_w _).trans hji52
                                          by_cases c53 : 0 ≤ (ji52)
                                          · rw [if_pos c53] at H
                                            have c53b0 : decide (0 ≤ (ji52)) = true := decide_eq_true c53
                                            clear c53
                                            have c54b0 := eq_true (of_decide_eq_true (by first | (with_reducible assumption) | assumption) : 0 ≤ t160)
                                            by_cases c55 : t160 ≤ (rd t154 (ji52))
                                            · rw [if_pos c55] at H
                                              have c55b0 := eq_true c55
                                              have c55b1 : decide (t160 ≤ (rd t154 (ji52))) = true := decide_eq_true c55
                                              clear c55
                                              by_cases c56 : (rd t154 (ji52)) ≤ (a0.size : Int)
                                              · rw [if_pos c56] at H
                                                have c56b0 := eq_true c56
                                                have c56b1 : decide ((rd t154 (ji52)) ≤ (a0.size : Int)) = true := decide_eq_true c56
                                                clear c56
                                                have H' := Aside0.mk H
                                                clear H
                                                have hcz57_0 : wr.cell? ⟨gb162, 0, none⟩ = some (.int .i64 t159) := (blk_cell BK162.out 0).trans rfl
                                                have hcz57_1 : wr.cell? ⟨gb162, 1, none⟩ = some (.int .i64 t160) := (blk_cell BK162.out 1).trans rfl
                                                have hfz57_0 := blk_frozen BK162.out 0
                                                have hfz57_1 := blk_frozen BK162.out 1
                                                have p164 : 0 ≤ ((ji52) : Int) := of_decide_eq_true (by first | (with_reducible assumption) | assumption)
                                                have q164 : (ji52) < (t154.length : Int) := of_decide_eq_true (by first | (with_reducible assumption) | assumption)
                                                obtain ⟨ad164, e164, hx164_0⟩ := Kd.at_int (Kd.R_reads' HO_3.out).2.2 (ji52) p164 q164
                                                cases e164
                                                replace p164 := eq_true p164
                                                replace q164 := eq_true q164
                                                go_wp2
                                                repeat (go_quiet (fail); try go_wp2)
                                                go_meet
                                                case rel => exact ⟨_, (a0.extract (t160 : Int).toNat ((rd t154 (ji52)) : Int).toNat), (by first | rfl | (simp; done) | (simp only [← hji52] <;> (first | rfl | simp)) | (simp [*]; done)), H', ⟨by have := HJ6.out; have := HK2.out; have := HJ18.out; have := HJ24.out; have := HK5.out; first | omega | exact Nat.le_refl _⟩, ⟨by (with_reducible repeat (first | apply Kd.R_alloc | apply Kd.R_drewN | apply Kd.R_drew)); exact HO_3.out⟩, ⟨by (with_reducible repeat (first | refine blk_drewN ?_ _ | refine blk_drew ?_ | refine blk_alloc ?_ _)); exact BK162.out⟩, ⟨by repeat (first | (with_reducible first | exact HB.out | apply below_alloc | apply pw_below_drewN | apply below_drew1 | refine below_set ?_ GE162.out) | exact HB.out)⟩⟩
                                              · rw [if_neg c56] at H
                                                exact absurd H (by simp)
                                            · rw [if_neg c55] at H
                                              exact absurd H (by simp)
                                          · rw [if_neg c53] at H
                                            exact absurd H (by simp)
                                        · rw [if_neg c51] at H
                                          have c51b0 : decide ((wrap64 (x4_2 + 1)) < (t154.length : Int)) = false := decide_eq_false c51
                                          clear c51
                                          (first | rw [c51b0] | (simp only [i64_w, i32_w]; rw [c51b0]) | skip)
                                          have H' := Aside0.mk H
                                          clear H
                                          go_wp2
                                          repeat (go_quiet (fail); try go_wp2)
                                          go_meet
                                          case rel => exact ⟨_, (a0.extract (t160 : Int).toNat a0.size), (by first | rfl | (simp; done) | (simp [*]; done) | (simp; exact xEmpty_ne _) | (simp [*]; exact xEmpty_ne _)), H', ⟨by have := HJ6.out; have := HK2.out; have := HJ18.out; have := HJ24.out; have := HK5.out; first | omega | exact Nat.le_refl _⟩, ⟨by (with_reducible repeat (first | apply Kd.R_alloc | apply Kd.R_drewN | apply Kd.R_drew)); exact HO_3.out⟩, ⟨by (with_reducible repeat (first | refine blk_drewN ?_ _ | refine blk_drew ?_ | refine blk_alloc ?_ _)); exact BK162.out⟩, ⟨by repeat (first | (with_reducible first | exact HB.out | apply below_alloc | apply pw_below_drewN | apply below_drew1 | refine below_set ?_ GE162.out) | exact HB.out)⟩⟩
                                      case rest =>
                                        clear HC48
                                        try clear c1
                                        try clear p1
                                        try clear q1
                                        try clear hx1
                                        try clear qi1
                                        try clear c2
                                        try clear p2
                                        try clear c3
                                        try clear p3
                                        try clear q3
                                        try clear hx3
                                        try clear c4
                                        try clear c4b0
                                        try clear c4b1
                                        try clear p4
                                        try clear q4
                                        try clear hx4
                                        try clear c5
                                        try clear p6
                                        try clear c10
                                        try clear c10b0
                                        try clear c10b1
                                        try clear c10b2
                                        try clear c12
                                        try clear c12b0
                                        try clear c12b1
                                        try clear c13
                                        try clear c13b0
                                        try clear c13b1
                                        try clear p15
                                        try clear q15
                                        try clear hx15
                                        try clear qi15
                                        try clear p16
                                        try clear q16
                                        try clear hx16
                                        try clear c18
                                        try clear c20
                                        try clear c20b0
                                        try clear c23
                                        try clear c29
                                        try clear c30
                                        try clear c30b0
                                        try clear c31
                                        try clear c31b0
                                        try clear c34
                                        try clear c36
                                        try clear c36b0
                                        try clear c37
                                        try clear c37b0
                                        try clear c38
                                        try clear c38b0
                                        try clear p39
                                        try clear q39
                                        try clear hx39
                                        try clear c40
                                        try clear c40b0
                                        try clear c40b1
                                        try clear p42
                                        try clear q42
                                        try clear hx42
                                        try clear c43
                                        try clear c43b0
                                        try clear c43b1
                                        try clear c46
                                        try clear c46b0
                                        try clear c46b1
                                        try clear c47
                                        try clear c47b0
                                        try clear c47b1
                                        try clear c51
                                        try clear c51b0
                                        try clear c53
                                        try clear c53b0
                                        try clear c54
                                        try clear c54b0
                                        try clear c55
                                        try clear c55b0
                                        try clear c55b1
                                        try clear c56
                                        try clear c56b0
                                        try clear c56b1
                                        try clear hcz28_0
                                        try clear hcz28_1
                                        try clear hcz32_0
                                        try clear hcz32_1
                                        try clear hcz35_0
                                        try clear hcz35_1
                                        try clear hcz41_0
                                        try clear hcz41_1
                                        try clear hcz44_0
                                        try clear hcz44_1
                                        try clear hcz45_0
                                        try clear hcz45_1
                                        try clear hcz49_0
                                        try clear hcz49_1
                                        try clear hcz57_0
                                        try clear hcz57_1
                                        try clear hfz28_0
                                        try clear hfz28_1
                                        try clear hfz32_0
                                        try clear hfz32_1
                                        try clear hfz35_0
                                        try clear hfz35_1
                                        try clear hfz41_0
                                        try clear hfz41_1
                                        try clear hfz44_0
                                        try clear hfz44_1
                                        try clear hfz45_0
                                        try clear hfz45_1
                                        try clear hfz49_0
                                        try clear hfz49_1
                                        try clear hfz57_0
                                        try clear hfz57_1
                                        try clear hx157_0
                                        try clear hx163_0
                                        try clear hx164_0
                                        try clear p1
                                        try clear p15
                                        try clear p157
                                        try clear p16
                                        try clear p163
                                        try clear p164
                                        try clear p2
                                        try clear p39
                                        try clear p42
                                        try clear q1
                                        try clear q15
                                        try clear q157
                                        try clear q16
                                        try clear q163
                                        try clear q164
                                        try clear q39
                                        try clear q42
                                        obtain ⟨kq, x8_47, rfl, HA, HJ47, HO_3, BK162, HB⟩ := hcut
                                        cases kq with
                                        | zero => exact absurd HA.out (by simp [glossatorlaw02_LinesWhole.j5])
                                        | succ kj47 =>
                                          have H := HA.out
                                          clear HA
                                          simp only [glossatorlaw02_LinesWhole.j5] at H
                                          have HC58 := Aside0.mk H
                                          clear H
                                          go_upto_region 22 with (fail)
                                          repeat (go_quiet (fail); go_upto_region 22 with (fail))
                                          go_cut [122] (fun v122 wc => ∃ (kq : Nat) (x122_57 : Bool), v122 = .bool x122_57 ∧ Aside0 (glossatorlaw02_LinesWhole.j6 kq a0 t154 x4_2 x8_47 x122_57 t159 t160 = some r) ∧ Aside0 (kq ≤ kj47) ∧ Aside0 (Kd.R (Kd.int .i64) 3 wc w.heap.size (fun _ => True) (.slice Ao50 t154.length co50) t154) ∧ Aside0 (wc.heap[gb162]? = some (.cells #[.int .i64 t159, .int .i64 t160] 40 (0, 0))) ∧ Aside0 (Below w.heap.size w wc))
                                          case first =>
                                            have H := HC58.out
                                            clear HC58
                                            by_cases c59 : (wrap64 (x4_2 + 1)) < (t154.length : Int)
                                            · rw [if_pos c59] at H
                                              have c59b0 : decide ((wrap64 (x4_2 + 1)) < (t154.length : Int)) = true := decide_eq_true c59
                                              clear c59
                                              (first | rw [c59b0] | (simp only [i64_w, i32_w]; rw [c59b0]) | skip)
                                              by_cases c60 : x8_47.toList = ([10] : List UInt8)
                                              · rw [if_pos c60] at H
                                                have c60b0 : (x8_47.toList == ([10] : List UInt8)) = true := beq_iff_eq.mpr c60
                                                have c60b1 : (x8_47.toList != ([10] : List UInt8)) = false := bne_eq_false_iff_eq.mpr c60
                                                clear c60
                                                by_cases c61 : (wrap64 (x4_2 + 1)) = (t154.length : Int)
                                                · rw [if_pos c61] at H
                                                  have c61b0 : ((wrap64 (x4_2 + 1)) == (t154.length : Int)) = true := beq_iff_eq.mpr c61
                                                  have c61b1 : ((wrap64 (x4_2 + 1)) != (t154.length : Int)) = false := bne_eq_false_iff_eq.mpr c61
                                                  clear c61
                                                  have H' := Aside0.mk H
                                                  clear H
                                                  go_wp2
                                                  repeat (go_quiet (fail); try go_wp2)
                                                  go_meet
                                                  case rel => exact ⟨_, ((x8_47.toList != ([] : List UInt8))), (by first | rfl | (simp; done) | (simp [*]; done) | (simp; exact xEmpty_ne _) | (simp [*]; exact xEmpty_ne _)), H', ⟨by have := HJ6.out; have := HK2.out; have := HJ18.out; have := HJ24.out; have := HK5.out; have := HJ47.out; first | omega | exact Nat.le_refl _⟩, ⟨by (with_reducible repeat (first | apply Kd.R_alloc | apply Kd.R_drewN | apply Kd.R_drew)); exact HO_3.out⟩, ⟨by (with_reducible repeat (first | refine blk_drewN ?_ _ | refine blk_drew ?_ | refine blk_alloc ?_ _)); exact BK162.out⟩, ⟨by repeat (first | (with_reducible first | exact HB.out | apply below_alloc | apply pw_below_drewN | apply below_drew1 | refine below_set ?_ GE162.out) | exact HB.out)⟩⟩
                                                · rw [if_neg c61] at H
                                                  have c61b0 : ((wrap64 (x4_2 + 1)) == (t154.length : Int)) = false := beq_eq_false_iff_ne.mpr c61
                                                  have c61b1 : ((wrap64 (x4_2 + 1)) != (t154.length : Int)) = true := bne_iff_ne.mpr c61
                                                  have H' := Aside0.mk H
                                                  clear H
                                                  go_wp2
                                                  repeat (go_quiet (fail); try go_wp2)
                                                  go_meet
                                                  case rel => exact ⟨_, (false), (by first | rfl | (simp; done) | (simp [*]; done) | (simp; exact xEmpty_ne _) | (simp [*]; exact xEmpty_ne _)), H', ⟨by have := HJ6.out; have := HK2.out; have := HJ18.out; have := HJ24.out; have := HK5.out; have := HJ47.out; first | omega | exact Nat.le_refl _⟩, ⟨by (with_reducible repeat (first | apply Kd.R_alloc | apply Kd.R_drewN | apply Kd.R_drew)); exact HO_3.out⟩, ⟨by (with_reducible repeat (first | refine blk_drewN ?_ _ | refine blk_drew ?_ | refine blk_alloc ?_ _)); exact BK162.out⟩, ⟨by repeat (first | (with_reducible first | exact HB.out | apply below_alloc | apply pw_below_drewN | apply below_drew1 | refine below_set ?_ GE162.out) | exact HB.out)⟩⟩
                                              · rw [if_neg c60] at H
                                                have c60b0 : (x8_47.toList == ([10] : List UInt8)) = false := beq_eq_false_iff_ne.mpr c60
                                                have c60b1 : (x8_47.toList != ([10] : List UInt8)) = true := bne_iff_ne.mpr c60
                                                by_cases c62 : x8_47.toList = ([13] : List UInt8)
                                                · rw [if_pos c62] at H
                                                  have c62b0 : (x8_47.toList == ([13] : List UInt8)) = true := beq_iff_eq.mpr c62
                                                  have c62b1 : (x8_47.toList != ([13] : List UInt8)) = false := bne_eq_false_iff_eq.mpr c62
                                                  clear c62
                                                  by_cases c63 : (wrap64 (x4_2 + 1)) = (t154.length : Int)
                                                  · rw [if_pos c63] at H
                                                    have c63b0 : ((wrap64 (x4_2 + 1)) == (t154.length : Int)) = true := beq_iff_eq.mpr c63
                                                    have c63b1 : ((wrap64 (x4_2 + 1)) != (t154.length : Int)) = false := bne_eq_false_iff_eq.mpr c63
                                                    clear c63
                                                    have H' := Aside0.mk H
                                                    clear H
                                                    go_wp2
                                                    repeat (go_quiet (fail); try go_wp2)
                                                    go_meet
                                                    case rel => exact ⟨_, ((x8_47.toList != ([] : List UInt8))), (by first | rfl | (simp; done) | (simp [*]; done) | (simp; exact xEmpty_ne _) | (simp [*]; exact xEmpty_ne _)), H', ⟨by have := HJ6.out; have := HK2.out; have := HJ18.out; have := HJ24.out; have := HK5.out; have := HJ47.out; first | omega | exact Nat.le_refl _⟩, ⟨by (with_reducible repeat (first | apply Kd.R_alloc | apply Kd.R_drewN | apply Kd.R_drew)); exact HO_3.out⟩, ⟨by (with_reducible repeat (first | refine blk_drewN ?_ _ | refine blk_drew ?_ | refine blk_alloc ?_ _)); exact BK162.out⟩, ⟨by repeat (first | (with_reducible first | exact HB.out | apply below_alloc | apply pw_below_drewN | apply below_drew1 | refine below_set ?_ GE162.out) | exact HB.out)⟩⟩
                                                  · rw [if_neg c63] at H
                                                    have c63b0 : ((wrap64 (x4_2 + 1)) == (t154.length : Int)) = false := beq_eq_false_iff_ne.mpr c63
                                                    have c63b1 : ((wrap64 (x4_2 + 1)) != (t154.length : Int)) = true := bne_iff_ne.mpr c63
                                                    have H' := Aside0.mk H
                                                    clear H
                                                    go_wp2
                                                    repeat (go_quiet (fail); try go_wp2)
                                                    go_meet
                                                    case rel => exact ⟨_, (false), (by first | rfl | (simp; done) | (simp [*]; done) | (simp; exact xEmpty_ne _) | (simp [*]; exact xEmpty_ne _)), H', ⟨by have := HJ6.out; have := HK2.out; have := HJ18.out; have := HJ24.out; have := HK5.out; have := HJ47.out; first | omega | exact Nat.le_refl _⟩, ⟨by (with_reducible repeat (first | apply Kd.R_alloc | apply Kd.R_drewN | apply Kd.R_drew)); exact HO_3.out⟩, ⟨by (with_reducible repeat (first | refine blk_drewN ?_ _ | refine blk_drew ?_ | refine blk_alloc ?_ _)); exact BK162.out⟩, ⟨by repeat (first | (with_reducible first | exact HB.out | apply below_alloc | apply pw_below_drewN | apply below_drew1 | refine below_set ?_ GE162.out) | exact HB.out)⟩⟩
                                                · rw [if_neg c62] at H
                                                  have c62b0 : (x8_47.toList == ([13] : List UInt8)) = false := beq_eq_false_iff_ne.mpr c62
                                                  have c62b1 : (x8_47.toList != ([13] : List UInt8)) = true := bne_iff_ne.mpr c62
                                                  by_cases c64 : x8_47.toList = ([13, 10] : List UInt8)
                                                  · rw [if_pos c64] at H
                                                    have c64b0 : (x8_47.toList == ([13, 10] : List UInt8)) = true := beq_iff_eq.mpr c64
                                                    have c64b1 : (x8_47.toList != ([13, 10] : List UInt8)) = false := bne_eq_false_iff_eq.mpr c64
                                                    clear c64
                                                    by_cases c65 : (wrap64 (x4_2 + 1)) = (t154.length : Int)
                                                    · rw [if_pos c65] at H
                                                      have c65b0 : ((wrap64 (x4_2 + 1)) == (t154.length : Int)) = true := beq_iff_eq.mpr c65
                                                      have c65b1 : ((wrap64 (x4_2 + 1)) != (t154.length : Int)) = false := bne_eq_false_iff_eq.mpr c65
                                                      clear c65
                                                      have H' := Aside0.mk H
                                                      clear H
                                                      go_wp2
                                                      repeat (go_quiet (fail); try go_wp2)
                                                      go_meet
                                                      case rel => exact ⟨_, ((x8_47.toList != ([] : List UInt8))), (by first | rfl | (simp; done) | (simp [*]; done) | (simp; exact xEmpty_ne _) | (simp [*]; exact xEmpty_ne _)), H', ⟨by have := HJ6.out; have := HK2.out; have := HJ18.out; have := HJ24.out; have := HK5.out; have := HJ47.out; first | omega | exact Nat.le_refl _⟩, ⟨by (with_reducible repeat (first | apply Kd.R_alloc | apply Kd.R_drewN | apply Kd.R_drew)); exact HO_3.out⟩, ⟨by (with_reducible repeat (first | refine blk_drewN ?_ _ | refine blk_drew ?_ | refine blk_alloc ?_ _)); exact BK162.out⟩, ⟨by repeat (first | (with_reducible first | exact HB.out | apply below_alloc | apply pw_below_drewN | apply below_drew1 | refine below_set ?_ GE162.out) | exact HB.out)⟩⟩
                                                    · rw [if_neg c65] at H
                                                      have c65b0 : ((wrap64 (x4_2 + 1)) == (t154.length : Int)) = false := beq_eq_false_iff_ne.mpr c65
                                                      have c65b1 : ((wrap64 (x4_2 + 1)) != (t154.length : Int)) = true := bne_iff_ne.mpr c65
                                                      have H' := Aside0.mk H
                                                      clear H
                                                      go_wp2
                                                      repeat (go_quiet (fail); try go_wp2)
                                                      go_meet
                                                      case rel => exact ⟨_, (false), (by first | rfl | (simp; done) | (simp [*]; done) | (simp; exact xEmpty_ne _) | (simp [*]; exact xEmpty_ne _)), H', ⟨by have := HJ6.out; have := HK2.out; have := HJ18.out; have := HJ24.out; have := HK5.out; have := HJ47.out; first | omega | exact Nat.le_refl _⟩, ⟨by (with_reducible repeat (first | apply Kd.R_alloc | apply Kd.R_drewN | apply Kd.R_drew)); exact HO_3.out⟩, ⟨by (with_reducible repeat (first | refine blk_drewN ?_ _ | refine blk_drew ?_ | refine blk_alloc ?_ _)); exact BK162.out⟩, ⟨by repeat (first | (with_reducible first | exact HB.out | apply below_alloc | apply pw_below_drewN | apply below_drew1 | refine below_set ?_ GE162.out) | exact HB.out)⟩⟩
                                                  · rw [if_neg c64] at H
                                                    have c64b0 : (x8_47.toList == ([13, 10] : List UInt8)) = false := beq_eq_false_iff_ne.mpr c64
                                                    have c64b1 : (x8_47.toList != ([13, 10] : List UInt8)) = true := bne_iff_ne.mpr c64
                                                    have H' := Aside0.mk H
                                                    clear H
                                                    go_wp2
                                                    repeat (go_quiet (fail); try go_wp2)
                                                    go_meet
                                                    case rel => exact ⟨_, (true), (by first | rfl | (simp; done) | (simp [*]; done) | (simp; exact xEmpty_ne _) | (simp [*]; exact xEmpty_ne _)), H', ⟨by have := HJ6.out; have := HK2.out; have := HJ18.out; have := HJ24.out; have := HK5.out; have := HJ47.out; first | omega | exact Nat.le_refl _⟩, ⟨by (with_reducible repeat (first | apply Kd.R_alloc | apply Kd.R_drewN | apply Kd.R_drew)); exact HO_3.out⟩, ⟨by (with_reducible repeat (first | refine blk_drewN ?_ _ | refine blk_drew ?_ | refine blk_alloc ?_ _)); exact BK162.out⟩, ⟨by repeat (first | (with_reducible first | exact HB.out | apply below_alloc | apply pw_below_drewN | apply below_drew1 | refine below_set ?_ GE162.out) | exact HB.out)⟩⟩
                                            · rw [if_neg c59] at H
                                              have c59b0 : decide ((wrap64 (x4_2 + 1)) < (t154.length : Int)) = false := decide_eq_false c59
                                              clear c59
                                              (first | rw [c59b0] | (simp only [i64_w, i32_w]; rw [c59b0]) | skip)
                                              by_cases c66 : (wrap64 (x4_2 + 1)) = (t154.length : Int)
                                              · rw [if_pos c66] at H
                                                have c66b0 : ((wrap64 (x4_2 + 1)) == (t154.length : Int)) = true := beq_iff_eq.mpr c66
                                                have c66b1 : ((wrap64 (x4_2 + 1)) != (t154.length : Int)) = false := bne_eq_false_iff_eq.mpr c66
                                                clear c66
                                                have H' := Aside0.mk H
                                                clear H
                                                go_wp2
                                                repeat (go_quiet (fail); try go_wp2)
                                                go_meet
                                                case rel => exact ⟨_, ((x8_47.toList != ([] : List UInt8))), (by first | rfl | (simp; done) | (simp [*]; done) | (simp; exact xEmpty_ne _) | (simp [*]; exact xEmpty_ne _)), H', ⟨by have := HJ6.out; have := HK2.out; have := HJ18.out; have := HJ24.out; have := HK5.out; have := HJ47.out; first | omega | exact Nat.le_refl _⟩, ⟨by (with_reducible repeat (first | apply Kd.R_alloc | apply Kd.R_drewN | apply Kd.R_drew)); exact HO_3.out⟩, ⟨by (with_reducible repeat (first | refine blk_drewN ?_ _ | refine blk_drew ?_ | refine blk_alloc ?_ _)); exact BK162.out⟩, ⟨by repeat (first | (with_reducible first | exact HB.out | apply below_alloc | apply pw_below_drewN | apply below_drew1 | refine below_set ?_ GE162.out) | exact HB.out)⟩⟩
                                              · rw [if_neg c66] at H
                                                have c66b0 : ((wrap64 (x4_2 + 1)) == (t154.length : Int)) = false := beq_eq_false_iff_ne.mpr c66
                                                have c66b1 : ((wrap64 (x4_2 + 1)) != (t154.length : Int)) = true := bne_iff_ne.mpr c66
                                                have H' := Aside0.mk H
                                                clear H
                                                go_wp2
                                                repeat (go_quiet (fail); try go_wp2)
                                                go_meet
                                                case rel => exact ⟨_, (false), (by first | rfl | (simp; done) | (simp [*]; done) | (simp; exact xEmpty_ne _) | (simp [*]; exact xEmpty_ne _)), H', ⟨by have := HJ6.out; have := HK2.out; have := HJ18.out; have := HJ24.out; have := HK5.out; have := HJ47.out; first | omega | exact Nat.le_refl _⟩, ⟨by (with_reducible repeat (first | apply Kd.R_alloc | apply Kd.R_drewN | apply Kd.R_drew)); exact HO_3.out⟩, ⟨by (with_reducible repeat (first | refine blk_drewN ?_ _ | refine blk_drew ?_ | refine blk_alloc ?_ _)); exact BK162.out⟩, ⟨by repeat (first | (with_reducible first | exact HB.out | apply below_alloc | apply pw_below_drewN | apply below_drew1 | refine below_set ?_ GE162.out) | exact HB.out)⟩⟩
                                          case rest =>
                                            clear HC58
                                            try clear c1
                                            try clear p1
                                            try clear q1
                                            try clear hx1
                                            try clear qi1
                                            try clear c2
                                            try clear p2
                                            try clear c3
                                            try clear p3
                                            try clear q3
                                            try clear hx3
                                            try clear c4
                                            try clear c4b0
                                            try clear c4b1
                                            try clear p4
                                            try clear q4
                                            try clear hx4
                                            try clear c5
                                            try clear c6
                                            try clear p6
                                            try clear c10
                                            try clear c10b0
                                            try clear c10b1
                                            try clear c10b2
                                            try clear c12
                                            try clear c12b0
                                            try clear c12b1
                                            try clear c13
                                            try clear c13b0
                                            try clear c13b1
                                            try clear p15
                                            try clear q15
                                            try clear hx15
                                            try clear qi15
                                            try clear p16
                                            try clear q16
                                            try clear hx16
                                            try clear c18
                                            try clear c20
                                            try clear c20b0
                                            try clear c23
                                            try clear c29
                                            try clear c30
                                            try clear c30b0
                                            try clear c31
                                            try clear c31b0
                                            try clear c34
                                            try clear c36
                                            try clear c36b0
                                            try clear c37
                                            try clear c37b0
                                            try clear c38
                                            try clear c38b0
                                            try clear p39
                                            try clear q39
                                            try clear hx39
                                            try clear c40
                                            try clear c40b0
                                            try clear c40b1
                                            try clear p42
                                            try clear q42
                                            try clear hx42
                                            try clear c43
                                            try clear c43b0
                                            try clear c43b1
                                            try clear c46
                                            try clear c46b0
                                            try clear c46b1
                                            try clear c47
                                            try clear c47b0
                                            try clear c47b1
                                            try clear c51
                                            try clear c51b0
                                            try clear c53
                                            try clear c53b0
                                            try clear c54
                                            try clear c54b0
                                            try clear c55
                                            try clear c55b0
                                            try clear c55b1
                                            try clear c56
                                            try clear c56b0
                                            try clear c56b1
                                            try clear c59
                                            try clear c59b0
                                            try clear c60
                                            try clear c60b0
                                            try clear c60b1
                                            try clear c61
                                            try clear c61b0
                                            try clear c61b1
                                            try clear c62
                                            try clear c62b0
                                            try clear c62b1
                                            try clear c63
                                            try clear c63b0
                                            try clear c63b1
                                            try clear c64
                                            try clear c64b0
                                            try clear c64b1
                                            try clear p64
                                            try clear c65
                                            try clear c65b0
                                            try clear c65b1
                                            try clear c66
                                            try clear c66b0
                                            try clear c66b1
                                            try clear hcz28_0
                                            try clear hcz28_1
                                            try clear hcz32_0
                                            try clear hcz32_1
                                            try clear hcz35_0
                                            try clear hcz35_1
                                            try clear hcz41_0
                                            try clear hcz41_1
                                            try clear hcz44_0
                                            try clear hcz44_1
                                            try clear hcz45_0
                                            try clear hcz45_1
                                            try clear hcz49_0
                                            try clear hcz49_1
                                            try clear hcz57_0
                                            try clear hcz57_1
                                            try clear hfz28_0
                                            try clear hfz28_1
                                            try clear hfz32_0
                                            try clear hfz32_1
                                            try clear hfz35_0
                                            try clear hfz35_1
                                            try clear hfz41_0
                                            try clear hfz41_1
                                            try clear hfz44_0
                                            try clear hfz44_1
                                            try clear hfz45_0
                                            try clear hfz45_1
                                            try clear hfz49_0
                                            try clear hfz49_1
                                            try clear hfz57_0
                                            try clear hfz57_1
                                            try clear hx157_0
                                            try clear hx163_0
                                            try clear hx164_0
                                            try clear p1
                                            try clear p15
                                            try clear p157
                                            try clear p16
                                            try clear p163
                                            try clear p164
                                            try clear p2
                                            try clear p3
                                            try clear p39
                                            try clear p4
                                            try clear p42
                                            try clear p6
                                            try clear q1
                                            try clear q15
                                            try clear q157
                                            try clear q16
                                            try clear q163
                                            try clear q164
                                            try clear q3
                                            try clear q39
                                            try clear q4
                                            try clear q42
                                            obtain ⟨kq, x122_57, rfl, HA, HJ57, HO_3, BK162, HB⟩ := hcut
                                            cases kq with
                                            | zero => exact absurd HA.out (by simp [glossatorlaw02_LinesWhole.j6])
                                            | succ kj57 =>
                                              have H := HA.out
                                              clear HA
                                              simp only [glossatorlaw02_LinesWhole.j6] at H
                                              by_cases c67 : x122_57 = true
                                              · subst c67
                                                have H1 : (some false) = some r := by rw [if_pos rfl] at H; exact H
                                                clear H
                                                have H := H1
                                                clear H1
                                                obtain rfl := Option.some.inj H
                                                go_wp2
                                                repeat (go_quiet (fail); try go_wp2)
                                                go_ret
                                                exact ⟨by first | rfl | (simp [errW_none, errW_some] <;> rfl) | (simp [*, errW_none, errW_some] <;> rfl), by repeat (first | (with_reducible first | exact HB.out | apply below_alloc | apply pw_below_drewN | apply below_drew1 | refine below_set ?_ GE162.out) | exact HB.out)⟩
                                              · replace c67 := Bool.eq_false_iff.mpr c67
                                                subst c67
                                                have H1 : (if x8_47.toList = ([13] : List UInt8) then (if (wrap64 (t160 + 1)) < (a0.size : Int) then (if 0 ≤ (wrap64 (t160 + 1)) then (if (bt a0 (wrap64 (t160 + 1))) = 10 then (some false) else (glossatorlaw02_LinesWhole.l0 kj57 a0 t154 (wrap64 (x4_2 + 1)))) else (none)) else (glossatorlaw02_LinesWhole.l0 kj57 a0 t154 (wrap64 (x4_2 + 1)))) else (glossatorlaw02_LinesWhole.l0 kj57 a0 t154 (wrap64 (x4_2 + 1)))) = some r := by rw [if_neg (show ¬ (false = true) by decide)] at H; exact H
                                                clear H
                                                have H := H1
                                                clear H1
                                                by_cases c68 : x8_47.toList = ([13] : List UInt8)
                                                · rw [if_pos c68] at H
                                                  have c68b0 : (x8_47.toList == ([13] : List UInt8)) = true := beq_iff_eq.mpr c68
                                                  have c68b1 : (x8_47.toList != ([13] : List UInt8)) = false := bne_eq_false_iff_eq.mpr c68
                                                  clear c68
                                                  by_cases c69 : (wrap64 (t160 + 1)) < (a0.size : Int)
                                                  · rw [if_pos c69] at H
                                                    have c69b0 : decide ((wrap64 (t160 + 1)) < (a0.size : Int)) = true := decide_eq_true c69
                                                    clear c69
                                                    obtain ⟨ji70, hji70⟩ : ∃ j_ : Int, (wrap64 (t160 + 1)) = j_ := ⟨_, rfl⟩
                                                    replace H : (if 0 ≤ (ji70) then (if (bt a0 (ji70)) = 10 then (some false) else (glossatorlaw02_LinesWhole.l0 kj57 a0 t154 (wrap64 (x4_2 + 1)))) else (none)) = some r := by first | (rw [hji70] at H; exact H) | (simp only [hji70] at H ⊢; exact H)
                                                    (try rw [hji70] at c69b0)
                                                    have hji70w : (IntKind.i64.wrap (t160 + 1)) = ji70 := (i64_w _).trans hji70
                                                    by_cases c71 : 0 ≤ (ji70)
                                                    · rw [if_pos c71] at H
                                                      have c71b0 : decide (0 ≤ (ji70)) = true := decide_eq_true c71
                                                      clear c71
                                                      by_cases c73 : (bt a0 (ji70)) = 10
                                                      · rw [if_pos c73] at H
                                                        have c73b0 : ((bt a0 (ji70)) == 10) = true := beq_iff_eq.mpr c73
                                                        have c73b1 : ((bt a0 (ji70)) != 10) = false := bne_eq_false_iff_eq.mpr c73
                                                        clear c73
                                                        obtain rfl := Option.some.inj H
                                                        have hcz74_0 : wc.cell? ⟨gb162, 0, none⟩ = some (.int .i64 t159) := (blk_cell BK162.out 0).trans rfl
                                                        have hcz74_1 : wc.cell? ⟨gb162, 1, none⟩ = some (.int .i64 t160) := (blk_cell BK162.out 1).trans rfl
                                                        have hfz74_0 := blk_frozen BK162.out 0
                                                        have hfz74_1 := blk_frozen BK162.out 1
                                                        have p72 : 0 ≤ ((ji70) : Int) := of_decide_eq_true (by first | (with_reducible assumption) | assumption)
                                                        have q72 : (ji70) < (a0.size : Int) := of_decide_eq_true (by first | (with_reducible assumption) | assumption)
                                                        have hx72 := bt_at a0 (ji70)
                                                        replace p72 := eq_true p72
                                                        replace q72 := eq_true q72
                                                        go_wp2
                                                        repeat (go_quiet (fail); try go_wp2)
                                                        go_ret
                                                        exact ⟨by first | rfl | (simp [errW_none, errW_some] <;> rfl) | (simp only [← hji70]; first | rfl | (simp [errW_none, errW_some] <;> rfl)) | (simp [*, errW_none, errW_some] <;> rfl), by repeat (first | (with_reducible first | exact HB.out | apply below_alloc | apply pw_below_drewN | apply below_drew1 | refine below_set ?_ GE162.out) | exact HB.out)⟩
                                                      · rw [if_neg c73] at H
                                                        have c73b0 : ((bt a0 (ji70)) == 10) = false := beq_eq_false_iff_ne.mpr c73
                                                        have c73b1 : ((bt a0 (ji70)) != 10) = true := bne_iff_ne.mpr c73
                                                        have H' := Aside0.mk H
                                                        clear H
                                                        have hcz75_0 : wc.cell? ⟨gb162, 0, none⟩ = some (.int .i64 t159) := (blk_cell BK162.out 0).trans rfl
                                                        have hcz75_1 : wc.cell? ⟨gb162, 1, none⟩ = some (.int .i64 t160) := (blk_cell BK162.out 1).trans rfl
                                                        have hfz75_0 := blk_frozen BK162.out 0
                                                        have hfz75_1 := blk_frozen BK162.out 1
                                                        have p72 : 0 ≤ ((ji70) : Int) := of_decide_eq_true (by first | (with_reducible assumption) | assumption)
                                                        have q72 : (ji70) < (a0.size : Int) := of_decide_eq_true (by first | (with_reducible assumption) | assumption)
                                                        have hx72 := bt_at a0 (ji70)
                                                        replace p72 := eq_true p72
                                                        replace q72 := eq_true q72
                                                        go_wp2
                                                        repeat (go_quiet (fail); try go_wp2)
                                                        go_roundg kj57
                                                        case measure => have := HJ6.out; have := HK2.out; have := HJ18.out; have := HJ24.out; have := HK5.out; have := HJ47.out; have := HJ57.out; omega
                                                        case rel => exact ⟨(wrap64 (x4_2 + 1)), (by first | rfl | (simp; done) | (simp [*]; done) | (simp; exact xEmpty_ne _) | (simp [*]; exact xEmpty_ne _)), H', ⟨by have := HJ6.out; have := HK2.out; have := HJ18.out; have := HJ24.out; have := HK5.out; have := HJ47.out; have := HJ57.out; omega⟩, ⟨by (with_reducible repeat (first | apply Kd.R_alloc | apply Kd.R_drewN | apply Kd.R_drew)); exact HO_3.out⟩, ⟨by repeat (first | (with_reducible first | exact HB.out | apply below_alloc | apply pw_below_drewN | apply below_drew1 | refine below_set ?_ GE162.out) | exact HB.out)⟩⟩
                                                    · rw [if_neg c71] at H
                                                      exact absurd H (by simp)
                                                  · rw [if_neg c69] at H
                                                    have c69b0 : decide ((wrap64 (t160 + 1)) < (a0.size : Int)) = false := decide_eq_false c69
                                                    clear c69
                                                    have H' := Aside0.mk H
                                                    clear H
                                                    have hcz76_0 : wc.cell? ⟨gb162, 0, none⟩ = some (.int .i64 t159) := (blk_cell BK162.out 0).trans rfl
                                                    have hcz76_1 : wc.cell? ⟨gb162, 1, none⟩ = some (.int .i64 t160) := (blk_cell BK162.out 1).trans rfl
                                                    have hfz76_0 := blk_frozen BK162.out 0
                                                    have hfz76_1 := blk_frozen BK162.out 1
                                                    go_wp2
                                                    repeat (go_quiet (fail); try go_wp2)
                                                    go_roundg kj57
                                                    case measure => have := HJ6.out; have := HK2.out; have := HJ18.out; have := HJ24.out; have := HK5.out; have := HJ47.out; have := HJ57.out; omega
                                                    case rel => exact ⟨(wrap64 (x4_2 + 1)), (by first | rfl | (simp; done) | (simp [*]; done) | (simp; exact xEmpty_ne _) | (simp [*]; exact xEmpty_ne _)), H', ⟨by have := HJ6.out; have := HK2.out; have := HJ18.out; have := HJ24.out; have := HK5.out; have := HJ47.out; have := HJ57.out; omega⟩, ⟨by (with_reducible repeat (first | apply Kd.R_alloc | apply Kd.R_drewN | apply Kd.R_drew)); exact HO_3.out⟩, ⟨by repeat (first | (with_reducible first | exact HB.out | apply below_alloc | apply pw_below_drewN | apply below_drew1 | refine below_set ?_ GE162.out) | exact HB.out)⟩⟩
                                                · rw [if_neg c68] at H
                                                  have c68b0 : (x8_47.toList == ([13] : List UInt8)) = false := beq_eq_false_iff_ne.mpr c68
                                                  have c68b1 : (x8_47.toList != ([13] : List UInt8)) = true := bne_iff_ne.mpr c68
                                                  have H' := Aside0.mk H
                                                  clear H
                                                  go_wp2
                                                  repeat (go_quiet (fail); try go_wp2)
                                                  go_roundg kj57
                                                  case measure => have := HJ6.out; have := HK2.out; have := HJ18.out; have := HJ24.out; have := HK5.out; have := HJ47.out; have := HJ57.out; omega
                                                  case rel => exact ⟨(wrap64 (x4_2 + 1)), (by first | rfl | (simp; done) | (simp [*]; done) | (simp; exact xEmpty_ne _) | (simp [*]; exact xEmpty_ne _)), H', ⟨by have := HJ6.out; have := HK2.out; have := HJ18.out; have := HJ24.out; have := HK5.out; have := HJ47.out; have := HJ57.out; omega⟩, ⟨by (with_reducible repeat (first | apply Kd.R_alloc | apply Kd.R_drewN | apply Kd.R_drew)); exact HO_3.out⟩, ⟨by repeat (first | (with_reducible first | exact HB.out | apply below_alloc | apply pw_below_drewN | apply below_drew1 | refine below_set ?_ GE162.out) | exact HB.out)⟩⟩
                                    · rw [if_neg c47] at H
                                      exact absurd H (by simp)
                                  · rw [if_neg c46] at H
                                    exact absurd H (by simp)
                    · replace c23 := Bool.eq_false_iff.mpr c23
                      subst c23
                      have H1 : (some true) = some r := by rw [if_neg (show ¬ (false = true) by decide)] at H; exact H
                      clear H
                      have H := H1
                      clear H1
                      obtain rfl := Option.some.inj H
                      go_wp2
                      repeat (go_quiet (fail); try go_wp2)
                      go_ret
                      exact ⟨by first | rfl | (simp [errW_none, errW_some] <;> rfl) | (simp [*, errW_none, errW_some] <;> rfl), by repeat (first | (with_reducible first | exact HB.out | apply below_alloc | apply pw_below_drewN | apply below_drew1) | exact HB.out)⟩
  · replace c3 := Bool.eq_false_iff.mpr c3
    subst c3
    have H1 : (some false) = some r := by rw [if_neg (show ¬ (false = true) by decide)] at H; exact H
    clear H
    have H := H1
    clear H1
    obtain rfl := Option.some.inj H
    go_enter Tryd.func10, Tryd.ntmps10
    go_wp2_with (first | (go_at_call 30; (with_reducible refine (glossatorlaw02_awake.calls k  false _ (by first | exact HG.out | exact GlobOk.below HG.out (by repeat (first | (with_reducible first | exact HB.out | apply below_alloc | apply pw_below_drewN | apply below_drew1) | exact HB.out))) A2.out).mono ?_); rintro e w77 ⟨rfl, hb⟩; have n0_ := Aside0.mk (below_step (by repeat (first | (with_reducible first | exact HB.out | apply below_alloc | apply pw_below_drewN | apply below_drew1) | exact HB.out)) hb); clear HB; have HB := n0_; clear n0_; (try clear hb); (try clear hb2); (try clear hk); (try clear hi)))
    repeat (go_quiet (first | (go_at_call 30; (with_reducible refine (glossatorlaw02_awake.calls k  false _ (by first | exact HG.out | exact GlobOk.below HG.out (by repeat (first | (with_reducible first | exact HB.out | apply below_alloc | apply pw_below_drewN | apply below_drew1) | exact HB.out))) A2.out).mono ?_); rintro e w77 ⟨rfl, hb⟩; have n0_ := Aside0.mk (below_step (by repeat (first | (with_reducible first | exact HB.out | apply below_alloc | apply pw_below_drewN | apply below_drew1) | exact HB.out)) hb); clear HB; have HB := n0_; clear n0_; (try clear hb); (try clear hb2); (try clear hk); (try clear hi))); try go_wp2_with (first | (go_at_call 30; (with_reducible refine (glossatorlaw02_awake.calls k  false _ (by first | exact HG.out | exact GlobOk.below HG.out (by repeat (first | (with_reducible first | exact HB.out | apply below_alloc | apply pw_below_drewN | apply below_drew1) | exact HB.out))) A2.out).mono ?_); rintro e w77 ⟨rfl, hb⟩; have n0_ := Aside0.mk (below_step (by repeat (first | (with_reducible first | exact HB.out | apply below_alloc | apply pw_below_drewN | apply below_drew1) | exact HB.out)) hb); clear HB; have HB := n0_; clear n0_; (try clear hb); (try clear hb2); (try clear hk); (try clear hi))))
    go_ret
    exact ⟨by first | rfl | (simp [errW_none, errW_some] <;> rfl) | (simp [*, errW_none, errW_some] <;> rfl), by repeat (first | (with_reducible first | exact HB.out | apply below_alloc | apply pw_below_drewN | apply below_drew1) | exact HB.out)⟩

/-- THE ONE PURE STATEMENT of glossatorlaw02_LinesWhole. -/
def glossatorlaw02_LinesWhole.Pure : Prop := ∀ (p0 : ByteArray), p0.size ≤ 140737488351232 → ∃ k, glossatorlaw02_LinesWhole.f k p0 = some true
/-- The same, where what is handed in is small. -/
def glossatorlaw02_LinesWhole.PureUpto : Prop := ∀ (p0 : ByteArray), p0.size ≤ 140737488351232 → (p0.size + 1) ≤ 1048576 → ∃ k, glossatorlaw02_LinesWhole.f k p0 = some true

end Go.Proofs.YtfjanedappcolaaDoor.Q
