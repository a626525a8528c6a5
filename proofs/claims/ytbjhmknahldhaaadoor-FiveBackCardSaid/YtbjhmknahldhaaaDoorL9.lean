/- Words and walks of this claim, put together by this repo's wip/xlink.py out of Q17, PureFiveBack. -/
import Derived.Test.YtbjhmknahldhaaaDoorL1
import Derived.Test.YtbjhmknahldhaaaDoorL2
import Derived.Test.YtbjhmknahldhaaaDoorL4
import Derived.Test.YtbjhmknahldhaaaDoorL6
import Derived.Test.YtbjhmknahldhaaaDoorL8
section
namespace Go.Proofs.YtbjhmknahldhaaaDoor.Q
open Go.RowKit Go.Proofs.YtbjhmknahldhaaaDoorW.PrintWords Go.Proofs.YtbjhmknahldhaaaDoorW.PrintLast Go.Proofs.YtbjhmknahldhaaaDoorW.PrintMore
attribute [local go_sem] max2_int min2_int max_two min_two max_three min_three max_four min_four   
set_option linter.unusedVariables false
set_option linter.unusedSimpArgs false
mutual
def glossatorlaw23_FiveBack.j0 : Nat → ByteArray → List (S38) → List Int → Bool → Option (Bool)
 | 0, _, _, _, _ => none
 | k + 1, x0, x1, x2, x35 => if x35 = true then (some true) else ((five_Encode.f k x0 x1).bind fun bt365 => ((five_Pieces.f k x0 x1).bind fun bt369 => (if bt365.2 = bt369.2 then (if bt365.2 = 0 then (glossatorlaw23_FiveBack.j1 k x0 x2 bt365.1 bt365.2 bt369.1 false) else (if bt365.2 = 230 then (glossatorlaw23_FiveBack.j1 k x0 x2 bt365.1 bt365.2 bt369.1 (decide ((wrap64 ((bt365.1.length : Int) + (bt369.1.length : Int))) > 0))) else (glossatorlaw23_FiveBack.j1 k x0 x2 bt365.1 bt365.2 bt369.1 true))) else (glossatorlaw23_FiveBack.j1 k x0 x2 bt365.1 bt365.2 bt369.1 true))))
def glossatorlaw23_FiveBack.j1 : Nat → ByteArray → List Int → List Int → Int → List (S38) → Bool → Option (Bool)
 | 0, _, _, _, _, _, _ => none
 | k + 1, x0, x2, x7, x8, x9, x66 => if x66 = true then (some false) else (if x8 = 0 then ((five_Decode.f k x0 x7).bind fun bt373 => ((five_Pieces.f k x0 x9).bind fun bt377 => (if bt373.2 = 0 then ((glossatorref22_Same.f k bt373.1 x9).bind fun t381 => (if t381 = true then (if bt377.2 = 0 then ((glossatorref22_Same.f k bt377.1 x9).bind fun t382 => (if t382 = true then (if (x7.length : Int) = (wrap64 (5 * (x9.length : Int))) then (glossatorlaw23_FiveBack.j2 k x0 x2) else (some false)) else (some false))) else (some false)) else (some false))) else (some false)))) else (glossatorlaw23_FiveBack.j2 k x0 x2))
def glossatorlaw23_FiveBack.j2 : Nat → ByteArray → List Int → Option (Bool)
 | 0, _, _ => none
 | k + 1, x0, x2 => (five_Decode.f k x0 x2).bind fun bt383 => (if bt383.2 = 0 then ((five_Encode.f k x0 bt383.1).bind fun bt387 => ((five_Pieces.f k x0 bt383.1).bind fun bt391 => (if bt387.2 = 0 then ((glossatorref23_Same.f k bt387.1 x2).bind fun t395 => (if t395 = true then (if bt391.2 = 0 then ((glossatorref22_Same.f k bt391.1 bt383.1).bind fun t396 => (some t396)) else (some false)) else (some false))) else (some false)))) else (if bt383.2 = 230 then (some ((bt383.1.length : Int) == 0)) else (some false)))
end
def glossatorlaw23_FiveBack.f (k : Nat) (a0 : ByteArray) (l1 : List (S38)) (l2 : List Int) : Option (Bool) := (glossatorlaw23_awake.f k).bind fun t364 => (if t364 = true then (if (a0.size : Int) > 5000 then (glossatorlaw23_FiveBack.j0 k a0 l1 l2 true) else (if (l1.length : Int) > 1000 then (glossatorlaw23_FiveBack.j0 k a0 l1 l2 true) else (glossatorlaw23_FiveBack.j0 k a0 l1 l2 (decide ((l2.length : Int) > 5000))))) else (some false))
theorem glossatorlaw23_FiveBack.mono_l : ∀ k, (∀ y0 y1 y2 y3, LeO (glossatorlaw23_FiveBack.j0 k y0 y1 y2 y3) (glossatorlaw23_FiveBack.j0 (k + 1) y0 y1 y2 y3)) ∧ (∀ y0 y1 y2 y3 y4 y5, LeO (glossatorlaw23_FiveBack.j1 k y0 y1 y2 y3 y4 y5) (glossatorlaw23_FiveBack.j1 (k + 1) y0 y1 y2 y3 y4 y5)) ∧ (∀ y0 y1, LeO (glossatorlaw23_FiveBack.j2 k y0 y1) (glossatorlaw23_FiveBack.j2 (k + 1) y0 y1))
 | 0 => ⟨fun _ _ _ _ r h => by simp [glossatorlaw23_FiveBack.j0] at h, fun _ _ _ _ _ _ r h => by simp [glossatorlaw23_FiveBack.j1] at h, fun _ _ r h => by simp [glossatorlaw23_FiveBack.j2] at h⟩
 | k + 1 => by
  obtain ⟨ih0, ih1, ih2⟩ := glossatorlaw23_FiveBack.mono_l k
  refine ⟨?_, ?_, ?_⟩
  ·intro y0 y1 y2 y3
   unfold glossatorlaw23_FiveBack.j0
   repeat' first
   | (with_reducible exact ih0 _ _ _ _)
   | (with_reducible exact ih1 _ _ _ _ _ _)
   | (with_reducible exact ih2 _ _)
   | (with_reducible exact five_Decode.mono _ _ _)
   | (with_reducible exact five_Encode.mono _ _ _)
   | (with_reducible exact five_Pieces.mono _ _ _)
   | (with_reducible exact glossatorlaw23_awake.mono _)
   | (with_reducible exact glossatorref22_Same.mono _ _ _)
   | (with_reducible exact glossatorref23_Same.mono _ _ _)
   | (with_reducible exact LeO.refl _)
   | (with_reducible exact LeO.none _)
   | (with_reducible refine LeO.ite ?_ ?_)
   | (with_reducible refine LeO.bind ?_ (fun _ => ?_))
   | exact ih0 _ _ _ _
   | exact ih1 _ _ _ _ _ _
   | exact ih2 _ _
   | exact five_Decode.mono _ _ _
   | exact five_Encode.mono _ _ _
   | exact five_Pieces.mono _ _ _
   | exact glossatorlaw23_awake.mono _
   | exact glossatorref22_Same.mono _ _ _
   | exact glossatorref23_Same.mono _ _ _
   | exact LeO.none _
   | refine LeO.ite ?_ ?_
   | refine LeO.bind ?_ (fun _ => ?_)
  ·intro y0 y1 y2 y3 y4 y5
   unfold glossatorlaw23_FiveBack.j1
   repeat' first
   | (with_reducible exact ih0 _ _ _ _)
   | (with_reducible exact ih1 _ _ _ _ _ _)
   | (with_reducible exact ih2 _ _)
   | (with_reducible exact five_Decode.mono _ _ _)
   | (with_reducible exact five_Encode.mono _ _ _)
   | (with_reducible exact five_Pieces.mono _ _ _)
   | (with_reducible exact glossatorlaw23_awake.mono _)
   | (with_reducible exact glossatorref22_Same.mono _ _ _)
   | (with_reducible exact glossatorref23_Same.mono _ _ _)
   | (with_reducible exact LeO.refl _)
   | (with_reducible exact LeO.none _)
   | (with_reducible refine LeO.ite ?_ ?_)
   | (with_reducible refine LeO.bind ?_ (fun _ => ?_))
   | exact ih0 _ _ _ _
   | exact ih1 _ _ _ _ _ _
   | exact ih2 _ _
   | exact five_Decode.mono _ _ _
   | exact five_Encode.mono _ _ _
   | exact five_Pieces.mono _ _ _
   | exact glossatorlaw23_awake.mono _
   | exact glossatorref22_Same.mono _ _ _
   | exact glossatorref23_Same.mono _ _ _
   | exact LeO.none _
   | refine LeO.ite ?_ ?_
   | refine LeO.bind ?_ (fun _ => ?_)
  ·intro y0 y1
   unfold glossatorlaw23_FiveBack.j2
   repeat' first
   | (with_reducible exact ih0 _ _ _ _)
   | (with_reducible exact ih1 _ _ _ _ _ _)
   | (with_reducible exact ih2 _ _)
   | (with_reducible exact five_Decode.mono _ _ _)
   | (with_reducible exact five_Encode.mono _ _ _)
   | (with_reducible exact five_Pieces.mono _ _ _)
   | (with_reducible exact glossatorlaw23_awake.mono _)
   | (with_reducible exact glossatorref22_Same.mono _ _ _)
   | (with_reducible exact glossatorref23_Same.mono _ _ _)
   | (with_reducible exact LeO.refl _)
   | (with_reducible exact LeO.none _)
   | (with_reducible refine LeO.ite ?_ ?_)
   | (with_reducible refine LeO.bind ?_ (fun _ => ?_))
   | exact ih0 _ _ _ _
   | exact ih1 _ _ _ _ _ _
   | exact ih2 _ _
   | exact five_Decode.mono _ _ _
   | exact five_Encode.mono _ _ _
   | exact five_Pieces.mono _ _ _
   | exact glossatorlaw23_awake.mono _
   | exact glossatorref22_Same.mono _ _ _
   | exact glossatorref23_Same.mono _ _ _
   | exact LeO.none _
   | refine LeO.ite ?_ ?_
   | refine LeO.bind ?_ (fun _ => ?_)
theorem glossatorlaw23_FiveBack.mono : ∀ a0 a1 a2 k, LeO (glossatorlaw23_FiveBack.f k a0 a1 a2) (glossatorlaw23_FiveBack.f (k + 1) a0 a1 a2) := by
 intro a0 a1 a2 k
 obtain ⟨ih0, ih1, ih2⟩ := glossatorlaw23_FiveBack.mono_l k
 unfold glossatorlaw23_FiveBack.f
 repeat' first
   | (with_reducible exact ih0 _ _ _ _)
   | (with_reducible exact ih1 _ _ _ _ _ _)
   | (with_reducible exact ih2 _ _)
   | (with_reducible exact five_Decode.mono _ _ _)
   | (with_reducible exact five_Encode.mono _ _ _)
   | (with_reducible exact five_Pieces.mono _ _ _)
   | (with_reducible exact glossatorlaw23_awake.mono _)
   | (with_reducible exact glossatorref22_Same.mono _ _ _)
   | (with_reducible exact glossatorref23_Same.mono _ _ _)
   | (with_reducible exact LeO.refl _)
   | (with_reducible exact LeO.none _)
   | (with_reducible refine LeO.ite ?_ ?_)
   | (with_reducible refine LeO.bind ?_ (fun _ => ?_))
   | exact ih0 _ _ _ _
   | exact ih1 _ _ _ _ _ _
   | exact ih2 _ _
   | exact five_Decode.mono _ _ _
   | exact five_Encode.mono _ _ _
   | exact five_Pieces.mono _ _ _
   | exact glossatorlaw23_awake.mono _
   | exact glossatorref22_Same.mono _ _ _
   | exact glossatorref23_Same.mono _ _ _
   | exact LeO.none _
   | refine LeO.ite ?_ ?_
   | refine LeO.bind ?_ (fun _ => ?_)
set_option maxHeartbeats 8000000 in
set_option maxRecDepth 100000 in
theorem glossatorlaw23_FiveBack.calls (k : Nat) (a0 : ByteArray) (A1 : Option Addr) (c1 : Nat) (l1 : List (S38)) (A2 : Option Addr) (c2 : Nat) (l2 : List Int) (r : Bool) (w : World) (hr1 : Kd.C k38 w A1 l1.length l1) (hc1 : l1.length ≤ c1) (hr2 : Kd.C (Kd.int .i64) w A2 l2.length l2) (hc2 : l2.length ≤ c2) (hG : GlobOk w) (h : glossatorlaw23_FiveBack.f k a0 l1 l2 = some r) :
  Calls Tryd.prog 5 #[.string a0, .slice A1 l1.length c1, .slice A2 l2.length c2] w fun e w' => e = .returned (.bool r) ∧ Below w.heap.size w w' := by
 have HG := Aside0.mk hG; clear hG; have HR1 := Aside0.mk hr1; have HC1 := Aside0.mk hc1; clear hr1 hc1; have HR2 := Aside0.mk hr2; have HC2 := Aside0.mk hc2; clear hr2 hc2; have HB := Aside0.mk (Below.refl w.heap.size w)
 have H : ((glossatorlaw23_awake.f k).bind fun t364 => (if t364 = true then (if (a0.size : Int) > 5000 then (glossatorlaw23_FiveBack.j0 k a0 l1 l2 true) else (if (l1.length : Int) > 1000 then (glossatorlaw23_FiveBack.j0 k a0 l1 l2 true) else (glossatorlaw23_FiveBack.j0 k a0 l1 l2 (decide ((l2.length : Int) > 5000))))) else (some false))) = some r := h
 clear h; replace H := Option.bind_eq_some_iff.mp H
 obtain ⟨t364, A40, H⟩ := H
 replace H : (if t364 = true then (if (a0.size : Int) > 5000 then (glossatorlaw23_FiveBack.j0 k a0 l1 l2 true) else (if (l1.length : Int) > 1000 then (glossatorlaw23_FiveBack.j0 k a0 l1 l2 true) else (glossatorlaw23_FiveBack.j0 k a0 l1 l2 (decide ((l2.length : Int) > 5000))))) else (some false)) = some r := H
 have A4 := Aside0.mk A40; clear A40; by_cases c5 : t364 = true
 rotate_left
 ·replace c5 := Bool.eq_false_iff.mpr c5
  subst c5; have H1 : (some false) = some r := by rw [if_neg (show ¬ (false = true) by decide)] at H; exact H
  clear H; have H := H1
  clear H1; obtain rfl := Option.some.inj H; go_enter Tryd.func5, Tryd.ntmps5
  go_wp2_with (first | ((with_reducible refine gate_callee (f := 16) rfl ?_); refine goesL_ (some 21) rfl rfl Tryd.func16 (by kernel_rfl) rfl #[] rfl (by (try simp only [List.map_toArray, List.map_cons, List.map_nil]); first | done | rfl | (simp only [List.length_drop, List.length_take]; rfl)) ?_; (with_reducible refine (glossatorlaw23_awake.calls k  false _ (by first | exact HG.out | exact GlobOk.below HG.out (bl HB)) A4.out).mono ?_); rintro e w98 ⟨rfl, hb⟩; refine ⟨_, rfl, ?_⟩; have n0_ := Aside0.mk (below_step (bl HB) hb); clear HB; have HB := n0_; clear n0_; (try clear hb); (try clear hb2); (try clear hk); (try clear hi)))
  go_ret
  exact ⟨by first | rfl | (simp [errW_none, errW_some] <;> rfl) | (simp [*, errW_none, errW_some] <;> rfl), bl HB⟩
 subst c5; have H1 : (if (a0.size : Int) > 5000 then (glossatorlaw23_FiveBack.j0 k a0 l1 l2 true) else (if (l1.length : Int) > 1000 then (glossatorlaw23_FiveBack.j0 k a0 l1 l2 true) else (glossatorlaw23_FiveBack.j0 k a0 l1 l2 (decide ((l2.length : Int) > 5000))))) = some r := by rw [if_pos rfl] at H; exact H
 clear H; have H := H1
 clear H1; have HC6 := Aside0.mk H; clear H; go_enter Tryd.func5, Tryd.ntmps5
 go_upto_region 3 with (first | ((with_reducible refine gate_callee (f := 16) rfl ?_); refine goesL_ (some 21) rfl rfl Tryd.func16 (by kernel_rfl) rfl #[] rfl (by (try simp only [List.map_toArray, List.map_cons, List.map_nil]); first | done | rfl | (simp only [List.length_drop, List.length_take]; rfl)) ?_; (with_reducible refine (glossatorlaw23_awake.calls k  true _ (by first | exact HG.out | exact GlobOk.below HG.out (bl HB)) A4.out).mono ?_); rintro e w7 ⟨rfl, hb⟩; refine ⟨_, rfl, ?_⟩; have n0_ := Aside0.mk (below_step (bl HB) hb); clear HB; have HB := n0_; clear n0_; (try clear hb); (try clear hb2); (try clear hk); (try clear hi)))
 (try simp only [Act.put, List.setIfInBounds_toArray, List.set_cons_zero, List.set_cons_succ])
 go_cut [35] (fun v35 wc => ∃ (kq : Nat) (x35_5 : Bool), v35 = .bool x35_5 ∧ Aside0 (glossatorlaw23_FiveBack.j0 kq a0 l1 l2 x35_5 = some r) ∧ Aside0 (kq ≤ k) ∧ Aside0 (Below w.heap.size w wc))
 case first =>
  have H := HC6.out
  clear HC6; by_cases c8 : (a0.size : Int) > 5000
  ·rw [if_pos c8] at H; have c8b0 : decide (5000 < (a0.size : Int)) = true := decide_eq_true c8; have c8b1 : decide (5000 < a0.size) = true := decide_eq_true (by omega)
   have c8b2 : (5000 < a0.size) = True := eq_true (by omega)
   clear c8; (first | rw [c8b0] | rw [c8b1] | (simp only [i64_w, i32_w]; rw [c8b0]) | skip)
   have H' := Aside0.mk H; clear H; go_wp2
   go_meet
   case rel => exact ⟨_, (true), (by first | rfl | (simp; done) | (simp [*]; done) | (simp; exact xEmpty_ne _) | (simp [*]; exact xEmpty_ne _)), H', ⟨by first | omega | exact Nat.le_refl _⟩, ⟨bl HB⟩⟩
  ·rw [if_neg c8] at H; have c8b0 : decide (5000 < (a0.size : Int)) = false := decide_eq_false c8; have c8b1 : decide (5000 < a0.size) = false := decide_eq_false (by omega)
   have c8b2 : (5000 < a0.size) = False := eq_false (by omega)
   clear c8; (first | rw [c8b0] | rw [c8b1] | (simp only [i64_w, i32_w]; rw [c8b0]) | skip)
   by_cases c9 : (l1.length : Int) > 1000
   ·rw [if_pos c9] at H; have c9b0 : decide (1000 < (l1.length : Int)) = true := decide_eq_true c9; have c9b1 : decide (1000 < l1.length) = true := decide_eq_true (by omega)
    have c9b2 : (1000 < l1.length) = True := eq_true (by omega)
    clear c9; have H' := Aside0.mk H; clear H; go_wp2
    go_meet
    case rel => exact ⟨_, (true), (by first | rfl | (simp; done) | (simp [*]; done) | (simp; exact xEmpty_ne _) | (simp [*]; exact xEmpty_ne _)), H', ⟨by first | omega | exact Nat.le_refl _⟩, ⟨bl HB⟩⟩
   ·rw [if_neg c9] at H; have c9b0 : decide (1000 < (l1.length : Int)) = false := decide_eq_false c9; have c9b1 : decide (1000 < l1.length) = false := decide_eq_false (by omega)
    have c9b2 : (1000 < l1.length) = False := eq_false (by omega)
    clear c9; have H' := Aside0.mk H; clear H; go_wp2
    go_meet
    case rel => exact ⟨_, (decide ((l2.length : Int) > 5000)), (by first | rfl | (simp; done) | (simp [*]; done) | (simp; exact xEmpty_ne _) | (simp [*]; exact xEmpty_ne _)), H', ⟨by first | omega | exact Nat.le_refl _⟩, ⟨bl HB⟩⟩
 case rest =>
  clear HC6; (try clear c1); (try clear c2); (try clear p2); (try clear c5); (try clear c8); (try clear c8b0); (try clear c8b1); (try clear c8b2); (try clear c9); (try clear c9b0); (try clear c9b1); (try clear c9b2); obtain ⟨kq, x35_5, rfl, HA, HJ5, HB⟩ := hcut
  cases kq with
  | zero => exact absurd HA.out (by simp [glossatorlaw23_FiveBack.j0])
  | succ kj5 =>
   have H := HA.out
   clear HA; simp only [glossatorlaw23_FiveBack.j0] at H
   by_cases c10 : x35_5 = true
   ·subst c10; have H1 : (some true) = some r := by rw [if_pos rfl] at H; exact H
    clear H; have H := H1
    clear H1; obtain rfl := Option.some.inj H; go_wp2
    go_ret
    exact ⟨by first | rfl | (simp [errW_none, errW_some] <;> rfl) | (simp [*, errW_none, errW_some] <;> rfl), bl HB⟩
   ·replace c10 := Bool.eq_false_iff.mpr c10
    subst c10; have H1 : ((five_Encode.f kj5 a0 l1).bind fun bt365 => ((five_Pieces.f kj5 a0 l1).bind fun bt369 => (if bt365.2 = bt369.2 then (if bt365.2 = 0 then (glossatorlaw23_FiveBack.j1 kj5 a0 l2 bt365.1 bt365.2 bt369.1 false) else (if bt365.2 = 230 then (glossatorlaw23_FiveBack.j1 kj5 a0 l2 bt365.1 bt365.2 bt369.1 (decide ((wrap64 ((bt365.1.length : Int) + (bt369.1.length : Int))) > 0))) else (glossatorlaw23_FiveBack.j1 kj5 a0 l2 bt365.1 bt365.2 bt369.1 true))) else (glossatorlaw23_FiveBack.j1 kj5 a0 l2 bt365.1 bt365.2 bt369.1 true)))) = some r := by rw [if_neg (show ¬ (false = true) by decide)] at H; exact H
    clear H; have H := H1
    clear H1; replace H := Option.bind_eq_some_iff.mp H
    obtain ⟨⟨t365, t366⟩, A110, H⟩ := H
    replace H : ((five_Pieces.f kj5 a0 l1).bind fun bt369 => (if t366 = bt369.2 then (if t366 = 0 then (glossatorlaw23_FiveBack.j1 kj5 a0 l2 t365 t366 bt369.1 false) else (if t366 = 230 then (glossatorlaw23_FiveBack.j1 kj5 a0 l2 t365 t366 bt369.1 (decide ((wrap64 ((t365.length : Int) + (bt369.1.length : Int))) > 0))) else (glossatorlaw23_FiveBack.j1 kj5 a0 l2 t365 t366 bt369.1 true))) else (glossatorlaw23_FiveBack.j1 kj5 a0 l2 t365 t366 bt369.1 true))) = some r := H
    have A11 := Aside0.mk A110; clear A110; replace H := Option.bind_eq_some_iff.mp H
    obtain ⟨⟨t369, t370⟩, A120, H⟩ := H
    replace H : (if t366 = t370 then (if t366 = 0 then (glossatorlaw23_FiveBack.j1 kj5 a0 l2 t365 t366 t369 false) else (if t366 = 230 then (glossatorlaw23_FiveBack.j1 kj5 a0 l2 t365 t366 t369 (decide ((wrap64 ((t365.length : Int) + (t369.length : Int))) > 0))) else (glossatorlaw23_FiveBack.j1 kj5 a0 l2 t365 t366 t369 true))) else (glossatorlaw23_FiveBack.j1 kj5 a0 l2 t365 t366 t369 true)) = some r := H
    have A12 := Aside0.mk A120; clear A120; have HC13 := Aside0.mk H; clear H; go_upto_region 7 with (first | ((with_reducible refine gate_callee (f := 10) rfl ?_); refine goesL_ (some 39) rfl rfl Tryd.func10 (by kernel_rfl) rfl #[.string a0, .slice A1 l1.length c1] rfl (by (try simp only [List.map_toArray, List.map_cons, List.map_nil]); first | done | rfl | (simp only [List.length_drop, List.length_take]; rfl)) ?_; (with_reducible refine (five_Encode.calls kj5 a0 _ _ l1 t365 t366 _ ?side1 ?side2 (by first | exact HG.out | exact GlobOk.below HG.out (bl HB)) A11.out).mono ?_); (case side1 => repeat (first | exact (Kd.C_below HR1.out HB.out) | (with_reducible refine Kd.C_alloc ?_ _) | (with_reducible refine Kd.C_drewN ?_ _) | (with_reducible refine Kd.C_drew ?_))); (case side2 => exact HC1.out); rintro e w14 ⟨v367, rfl, ho0, hb⟩; refine ⟨_, rfl, ?_⟩; have n0_ := Aside0.mk (Kd.R_lower ho0 (below_size (bl HB))); have n1_ := Aside0.mk (below_step (bl HB) hb); clear HB; have HO368 := n0_; have HB := n1_; clear n0_ n1_; (try clear hb); (try clear hb2); (try clear hk); (try clear hi); (try clear ho0)) | ((with_reducible refine gate_callee (f := 11) rfl ?_); refine goesL_ (some 45) rfl rfl Tryd.func11 (by kernel_rfl) rfl #[.string a0, .slice A1 l1.length c1] rfl (by (try simp only [List.map_toArray, List.map_cons, List.map_nil]); first | done | rfl | (simp only [List.length_drop, List.length_take]; rfl)) ?_; (with_reducible refine (five_Pieces.calls kj5 a0 _ _ l1 t369 t370 _ ?side1 ?side2 (by first | exact HG.out | exact GlobOk.below HG.out (bl HB)) A12.out).mono ?_); (case side1 => repeat (first | exact (Kd.C_below HR1.out HB.out) | (with_reducible refine Kd.C_alloc ?_ _) | (with_reducible refine Kd.C_drewN ?_ _) | (with_reducible refine Kd.C_drew ?_))); (case side2 => exact HC1.out); rintro e w15 ⟨v371, rfl, ho0, hb⟩; refine ⟨_, rfl, ?_⟩; have n0_ := Aside0.mk (Kd.R_below (rl HO368) hb); have n1_ := Aside0.mk (Kd.R_lower ho0 (below_size (bl HB))); have n2_ := Aside0.mk (below_step (bl HB) hb); clear HO368; clear HB; have HO368 := n0_; have HO372 := n1_; have HB := n2_; clear n0_ n1_ n2_; (try clear hb); (try clear hb2); (try clear hk); (try clear hi); (try clear ho0)))
    (try simp only [Act.put, List.setIfInBounds_toArray, List.set_cons_zero, List.set_cons_succ])
    go_cut [66] (fun v66 wc => ∃ (kq : Nat) (x66_12 : Bool), v66 = .bool x66_12 ∧ Aside0 (glossatorlaw23_FiveBack.j1 kq a0 l2 t365 t366 t369 x66_12 = some r) ∧ Aside0 (kq ≤ kj5) ∧ Aside0 (Kd.R (Kd.int .i64) 3 wc w.heap.size (fun _ => True) v367 t365) ∧ Aside0 (Kd.R k38 38 wc w.heap.size (fun _ => True) v371 t369) ∧ Aside0 (Below w.heap.size w wc))
    case first =>
     have H := HC13.out
     clear HC13; by_cases c16 : t366 = t370
     rotate_left
     ·rw [if_neg c16] at H; have c16b0 : (t366 == t370) = false := beq_eq_false_iff_ne.mpr c16; have c16b1 : (t366 != t370) = true := bne_iff_ne.mpr c16; (first | rw [c16b0] | rw [c16b1] | (simp only [i64_w, i32_w]; rw [c16b0]) | skip)
      have H' := Aside0.mk H; clear H; go_wp2
      go_meet
      case rel => exact ⟨_, (true), (by first | rfl | (simp; done) | (simp [*]; done) | (simp; exact xEmpty_ne _) | (simp [*]; exact xEmpty_ne _)), H', ⟨by have := HJ5.out; first | omega | exact Nat.le_refl _⟩, ⟨rl HO368⟩, ⟨rl HO372⟩, ⟨bl HB⟩⟩
     rw [if_pos c16] at H; have c16b0 : (t366 == t370) = true := beq_iff_eq.mpr c16
     have c16b1 : (t366 != t370) = false := bne_eq_false_iff_eq.mpr c16
     clear c16; (first | rw [c16b0] | rw [c16b1] | (simp only [i64_w, i32_w]; rw [c16b0]) | skip)
     by_cases c17 : t366 = 0
     ·rw [if_pos c17] at H; have c17b0 : (t366 == 0) = true := beq_iff_eq.mpr c17
      have c17b1 : (t366 != 0) = false := bne_eq_false_iff_eq.mpr c17
      clear c17; have H' := Aside0.mk H; clear H; go_wp2
      go_meet
      case rel => exact ⟨_, (false), (by first | rfl | (simp; done) | (simp [*]; done) | (simp; exact xEmpty_ne _) | (simp [*]; exact xEmpty_ne _)), H', ⟨by have := HJ5.out; first | omega | exact Nat.le_refl _⟩, ⟨rl HO368⟩, ⟨rl HO372⟩, ⟨bl HB⟩⟩
     ·rw [if_neg c17] at H; have c17b0 : (t366 == 0) = false := beq_eq_false_iff_ne.mpr c17; have c17b1 : (t366 != 0) = true := bne_iff_ne.mpr c17; by_cases c18 : t366 = 230
      ·rw [if_pos c18] at H; have c18b0 : (t366 == 230) = true := beq_iff_eq.mpr c18
       have c18b1 : (t366 != 230) = false := bne_eq_false_iff_eq.mpr c18
       clear c18; have H' := Aside0.mk H; clear H; obtain ⟨Ao19, co19, eo19⟩ := Kd.R_slice HO368.out
       subst eo19; obtain ⟨Ao20, co20, eo20⟩ := Kd.R_slice HO372.out
       subst eo20; go_wp2
       go_meet
       case rel => exact ⟨_, (decide ((wrap64 ((t365.length : Int) + (t369.length : Int))) > 0)), (by first | rfl | (simp; done) | (simp [*]; done) | (simp; exact xEmpty_ne _) | (simp [*]; exact xEmpty_ne _)), H', ⟨by have := HJ5.out; first | omega | exact Nat.le_refl _⟩, ⟨rl HO368⟩, ⟨rl HO372⟩, ⟨bl HB⟩⟩
      ·rw [if_neg c18] at H; have c18b0 : (t366 == 230) = false := beq_eq_false_iff_ne.mpr c18; have c18b1 : (t366 != 230) = true := bne_iff_ne.mpr c18; have H' := Aside0.mk H; clear H; go_wp2
       go_meet
       case rel => exact ⟨_, (true), (by first | rfl | (simp; done) | (simp [*]; done) | (simp; exact xEmpty_ne _) | (simp [*]; exact xEmpty_ne _)), H', ⟨by have := HJ5.out; first | omega | exact Nat.le_refl _⟩, ⟨rl HO368⟩, ⟨rl HO372⟩, ⟨bl HB⟩⟩
    case rest =>
     clear HC13; (try clear c1); (try clear c2); (try clear p2); (try clear c5); (try clear p6); (try clear c8); (try clear c8b0); (try clear c8b1); (try clear c8b2); (try clear c9); (try clear c9b0); (try clear c9b1); (try clear c9b2); (try clear c10); (try clear c11); (try clear c16); (try clear c16b0); (try clear c16b1); (try clear c17); (try clear c17b0); (try clear c17b1); (try clear c18); (try clear c18b0); (try clear c18b1); (try clear p2); obtain ⟨kq, x66_12, rfl, HA, HJ12, HO_7, HO_9, HB⟩ := hcut
     cases kq with
     | zero => exact absurd HA.out (by simp [glossatorlaw23_FiveBack.j1])
     | succ kj12 =>
      have H := HA.out
      clear HA; simp only [glossatorlaw23_FiveBack.j1] at H
      by_cases c21 : x66_12 = true
      ·subst c21; have H1 : (some false) = some r := by rw [if_pos rfl] at H; exact H
       clear H; have H := H1
       clear H1; obtain rfl := Option.some.inj H; go_wp2
       go_ret
       exact ⟨by first | rfl | (simp [errW_none, errW_some] <;> rfl) | (simp [*, errW_none, errW_some] <;> rfl), bl HB⟩
      ·replace c21 := Bool.eq_false_iff.mpr c21
       subst c21; have H1 : (if t366 = 0 then ((five_Decode.f kj12 a0 t365).bind fun bt373 => ((five_Pieces.f kj12 a0 t369).bind fun bt377 => (if bt373.2 = 0 then ((glossatorref22_Same.f kj12 bt373.1 t369).bind fun t381 => (if t381 = true then (if bt377.2 = 0 then ((glossatorref22_Same.f kj12 bt377.1 t369).bind fun t382 => (if t382 = true then (if (t365.length : Int) = (wrap64 (5 * (t369.length : Int))) then (glossatorlaw23_FiveBack.j2 kj12 a0 l2) else (some false)) else (some false))) else (some false)) else (some false))) else (some false)))) else (glossatorlaw23_FiveBack.j2 kj12 a0 l2)) = some r := by rw [if_neg (show ¬ (false = true) by decide)] at H; exact H
       clear H; have H := H1
       clear H1; have HC22 := Aside0.mk H; clear H; go_upto_if 68 with (fail)
       go_cut [] (fun wc => ∃ (kq : Nat), Aside0 (glossatorlaw23_FiveBack.j2 kq a0 l2 = some r) ∧ Aside0 (kq ≤ kj12) ∧ Aside0 (Below w.heap.size w wc))
       case first =>
        have H := HC22.out
        clear HC22; by_cases c23 : t366 = 0
        rotate_left
        ·rw [if_neg c23] at H; have c23b0 : (t366 == 0) = false := beq_eq_false_iff_ne.mpr c23; have c23b1 : (t366 != 0) = true := bne_iff_ne.mpr c23; (first | rw [c23b0] | rw [c23b1] | (simp only [i64_w, i32_w]; rw [c23b0]) | skip)
         have H' := Aside0.mk H; clear H; go_wp2
         go_meet
         case rel => exact ⟨_, H', ⟨by have := HJ5.out; have := HJ12.out; first | omega | exact Nat.le_refl _⟩, ⟨bl HB⟩⟩
        rw [if_pos c23] at H; have c23b0 : (t366 == 0) = true := beq_iff_eq.mpr c23
        have c23b1 : (t366 != 0) = false := bne_eq_false_iff_eq.mpr c23
        clear c23; (first | rw [c23b0] | rw [c23b1] | (simp only [i64_w, i32_w]; rw [c23b0]) | skip)
        replace H := Option.bind_eq_some_iff.mp H
        obtain ⟨⟨t373, t374⟩, A240, H⟩ := H
        replace H : ((five_Pieces.f kj12 a0 t369).bind fun bt377 => (if t374 = 0 then ((glossatorref22_Same.f kj12 t373 t369).bind fun t381 => (if t381 = true then (if bt377.2 = 0 then ((glossatorref22_Same.f kj12 bt377.1 t369).bind fun t382 => (if t382 = true then (if (t365.length : Int) = (wrap64 (5 * (t369.length : Int))) then (glossatorlaw23_FiveBack.j2 kj12 a0 l2) else (some false)) else (some false))) else (some false)) else (some false))) else (some false))) = some r := H
        have A24 := Aside0.mk A240; clear A240; replace H := Option.bind_eq_some_iff.mp H
        obtain ⟨⟨t377, t378⟩, A250, H⟩ := H
        replace H : (if t374 = 0 then ((glossatorref22_Same.f kj12 t373 t369).bind fun t381 => (if t381 = true then (if t378 = 0 then ((glossatorref22_Same.f kj12 t377 t369).bind fun t382 => (if t382 = true then (if (t365.length : Int) = (wrap64 (5 * (t369.length : Int))) then (glossatorlaw23_FiveBack.j2 kj12 a0 l2) else (some false)) else (some false))) else (some false)) else (some false))) else (some false)) = some r := H
        have A25 := Aside0.mk A250; clear A250; by_cases c26 : t374 = 0
        rotate_left
        ·rw [if_neg c26] at H; have c26b0 : (t374 == 0) = false := beq_eq_false_iff_ne.mpr c26; have c26b1 : (t374 != 0) = true := bne_iff_ne.mpr c26; obtain rfl := Option.some.inj H; obtain ⟨Ao61, co61, eo61⟩ := Kd.R_slice HO_7.out
         subst eo61; go_wp2_with (first | ((with_reducible refine gate_callee (f := 14) rfl ?_); refine goesL_ (some 72) rfl rfl Tryd.func14 (by kernel_rfl) rfl #[.string a0, .slice Ao61 t365.length co61] rfl (by (try simp only [List.map_toArray, List.map_cons, List.map_nil]); first | done | rfl | (simp only [List.length_drop, List.length_take]; rfl)) ?_; (with_reducible refine (five_Decode.calls kj12 a0 _ _ t365 t373 t374 _ ?side1 ?side2 (by first | exact HG.out | exact GlobOk.below HG.out (bl HB)) A24.out).mono ?_); (case side1 => repeat (first | exact (Kd.R_reads' HO_7.out).2.2 | (with_reducible refine Kd.C_alloc ?_ _) | (with_reducible refine Kd.C_drewN ?_ _) | (with_reducible refine Kd.C_drew ?_))); (case side2 => exact (Kd.R_reads' HO_7.out).2.1); rintro e w62 ⟨v375, rfl, ho0, hb⟩; refine ⟨_, rfl, ?_⟩; have n0_ := Aside0.mk (Kd.R_below (rl HO_7) hb); have n1_ := Aside0.mk (Kd.R_elder' (rl HO_9) (Kd.R_base ho0) hb); have n2_ := Aside0.mk (Kd.R_lower (Kd.R_new' ho0 (Kd.R_lt (rl HO_9))) (below_size (bl HB))); have n3_ := Aside0.mk (below_step (bl HB) hb); clear HO_7; clear HO_9; clear HB; have HO_7 := n0_; have HO_9 := n1_; have HO376 := n2_; have HB := n3_; clear n0_ n1_ n2_ n3_; (try clear hb); (try clear hb2); (try clear hk); (try clear hi); (try clear ho0); obtain ⟨Ao63, co63, eo63⟩ := Kd.R_slice HO_9.out; subst eo63) | ((with_reducible refine gate_callee (f := 11) rfl ?_); refine goesL_ (some 78) rfl rfl Tryd.func11 (by kernel_rfl) rfl #[.string a0, .slice Ao63 t369.length co63] rfl (by (try simp only [List.map_toArray, List.map_cons, List.map_nil]); first | done | rfl | (simp only [List.length_drop, List.length_take]; rfl)) ?_; (with_reducible refine (five_Pieces.calls kj12 a0 _ _ t369 t377 t378 _ ?side1 ?side2 (by first | exact HG.out | exact GlobOk.below HG.out (bl HB)) A25.out).mono ?_); (case side1 => repeat (first | exact (Kd.R_reads' HO_9.out).2.2 | (with_reducible refine Kd.C_alloc ?_ _) | (with_reducible refine Kd.C_drewN ?_ _) | (with_reducible refine Kd.C_drew ?_))); (case side2 => exact (Kd.R_reads' HO_9.out).2.1); rintro e w64 ⟨v379, rfl, ho0, hb⟩; refine ⟨_, rfl, ?_⟩; have n0_ := Aside0.mk (Kd.R_below (rl HO_7) hb); have n1_ := Aside0.mk (Kd.R_elder' (rl HO_9) (Kd.R_base ho0) hb); have n2_ := Aside0.mk (Kd.R_elder' (rl HO376) (Kd.R_base ho0) hb); have n3_ := Aside0.mk (Kd.R_lower (Kd.R_new' (Kd.R_new' ho0 (Kd.R_lt (rl HO_9))) (Kd.R_lt (rl HO376))) (below_size (bl HB))); have n4_ := Aside0.mk (below_step (bl HB) hb); clear HO_7; clear HO_9; clear HO376; clear HB; have HO_7 := n0_; have HO_9 := n1_; have HO376 := n2_; have HO380 := n3_; have HB := n4_; clear n0_ n1_ n2_ n3_ n4_; (try clear hb); (try clear hb2); (try clear hk); (try clear hi); (try clear ho0)))
         go_ret
         exact ⟨by first | rfl | (simp [errW_none, errW_some] <;> rfl) | (simp [*, errW_none, errW_some] <;> rfl), bl HB⟩
        rw [if_pos c26] at H; have c26b0 : (t374 == 0) = true := beq_iff_eq.mpr c26
        have c26b1 : (t374 != 0) = false := bne_eq_false_iff_eq.mpr c26
        clear c26; replace H := Option.bind_eq_some_iff.mp H
        obtain ⟨t381, A270, H⟩ := H
        replace H : (if t381 = true then (if t378 = 0 then ((glossatorref22_Same.f kj12 t377 t369).bind fun t382 => (if t382 = true then (if (t365.length : Int) = (wrap64 (5 * (t369.length : Int))) then (glossatorlaw23_FiveBack.j2 kj12 a0 l2) else (some false)) else (some false))) else (some false)) else (some false)) = some r := H
        have A27 := Aside0.mk A270; clear A270; by_cases c28 : t381 = true
        rotate_left
        ·replace c28 := Bool.eq_false_iff.mpr c28
         subst c28; have H1 : (some false) = some r := by rw [if_neg (show ¬ (false = true) by decide)] at H; exact H
         clear H; have H := H1
         clear H1; obtain rfl := Option.some.inj H; obtain ⟨Ao56, co56, eo56⟩ := Kd.R_slice HO_7.out
         subst eo56; go_wp2_with (first | ((with_reducible refine gate_callee (f := 14) rfl ?_); refine goesL_ (some 72) rfl rfl Tryd.func14 (by kernel_rfl) rfl #[.string a0, .slice Ao56 t365.length co56] rfl (by (try simp only [List.map_toArray, List.map_cons, List.map_nil]); first | done | rfl | (simp only [List.length_drop, List.length_take]; rfl)) ?_; (with_reducible refine (five_Decode.calls kj12 a0 _ _ t365 t373 t374 _ ?side1 ?side2 (by first | exact HG.out | exact GlobOk.below HG.out (bl HB)) A24.out).mono ?_); (case side1 => repeat (first | exact (Kd.R_reads' HO_7.out).2.2 | (with_reducible refine Kd.C_alloc ?_ _) | (with_reducible refine Kd.C_drewN ?_ _) | (with_reducible refine Kd.C_drew ?_))); (case side2 => exact (Kd.R_reads' HO_7.out).2.1); rintro e w57 ⟨v375, rfl, ho0, hb⟩; refine ⟨_, rfl, ?_⟩; have n0_ := Aside0.mk (Kd.R_below (rl HO_7) hb); have n1_ := Aside0.mk (Kd.R_elder' (rl HO_9) (Kd.R_base ho0) hb); have n2_ := Aside0.mk (Kd.R_lower (Kd.R_new' ho0 (Kd.R_lt (rl HO_9))) (below_size (bl HB))); have n3_ := Aside0.mk (below_step (bl HB) hb); clear HO_7; clear HO_9; clear HB; have HO_7 := n0_; have HO_9 := n1_; have HO376 := n2_; have HB := n3_; clear n0_ n1_ n2_ n3_; (try clear hb); (try clear hb2); (try clear hk); (try clear hi); (try clear ho0); obtain ⟨Ao58, co58, eo58⟩ := Kd.R_slice HO_9.out; subst eo58) | ((with_reducible refine gate_callee (f := 11) rfl ?_); refine goesL_ (some 78) rfl rfl Tryd.func11 (by kernel_rfl) rfl #[.string a0, .slice Ao58 t369.length co58] rfl (by (try simp only [List.map_toArray, List.map_cons, List.map_nil]); first | done | rfl | (simp only [List.length_drop, List.length_take]; rfl)) ?_; (with_reducible refine (five_Pieces.calls kj12 a0 _ _ t369 t377 t378 _ ?side1 ?side2 (by first | exact HG.out | exact GlobOk.below HG.out (bl HB)) A25.out).mono ?_); (case side1 => repeat (first | exact (Kd.R_reads' HO_9.out).2.2 | (with_reducible refine Kd.C_alloc ?_ _) | (with_reducible refine Kd.C_drewN ?_ _) | (with_reducible refine Kd.C_drew ?_))); (case side2 => exact (Kd.R_reads' HO_9.out).2.1); rintro e w59 ⟨v379, rfl, ho0, hb⟩; refine ⟨_, rfl, ?_⟩; have n0_ := Aside0.mk (Kd.R_below (rl HO_7) hb); have n1_ := Aside0.mk (Kd.R_elder' (rl HO_9) (Kd.R_base ho0) hb); have n2_ := Aside0.mk (Kd.R_elder' (rl HO376) (Kd.R_base ho0) hb); have n3_ := Aside0.mk (Kd.R_lower (Kd.R_new' (Kd.R_new' ho0 (Kd.R_lt (rl HO_9))) (Kd.R_lt (rl HO376))) (below_size (bl HB))); have n4_ := Aside0.mk (below_step (bl HB) hb); clear HO_7; clear HO_9; clear HO376; clear HB; have HO_7 := n0_; have HO_9 := n1_; have HO376 := n2_; have HO380 := n3_; have HB := n4_; clear n0_ n1_ n2_ n3_ n4_; (try clear hb); (try clear hb2); (try clear hk); (try clear hi); (try clear ho0); obtain ⟨Ao60, co60, eo60⟩ := Kd.R_slice HO376.out; subst eo60) | (go_at_call 13; (with_reducible refine (glossatorref22_Same.calls kj12 _ _ t373 _ _ t369 false _ ?side1 ?side2 ?side3 ?side4 A27.out).mono ?_); (case side1 => repeat (first | exact (Kd.R_reads' HO376.out).2.2 | (with_reducible refine Kd.C_alloc ?_ _) | (with_reducible refine Kd.C_drewN ?_ _) | (with_reducible refine Kd.C_drew ?_))); (case side2 => exact (Kd.R_reads' HO376.out).2.1); (case side3 => repeat (first | exact (Kd.R_reads' HO_9.out).2.2 | (with_reducible refine Kd.C_alloc ?_ _) | (with_reducible refine Kd.C_drewN ?_ _) | (with_reducible refine Kd.C_drew ?_))); (case side4 => exact (Kd.R_reads' HO_9.out).2.1); rintro e w' ⟨rfl, ⟨nd, rfl⟩⟩))
         go_ret
         exact ⟨by first | rfl | (simp [errW_none, errW_some] <;> rfl) | (simp [*, errW_none, errW_some] <;> rfl), bl HB⟩
        subst c28; have H1 : (if t378 = 0 then ((glossatorref22_Same.f kj12 t377 t369).bind fun t382 => (if t382 = true then (if (t365.length : Int) = (wrap64 (5 * (t369.length : Int))) then (glossatorlaw23_FiveBack.j2 kj12 a0 l2) else (some false)) else (some false))) else (some false)) = some r := by rw [if_pos rfl] at H; exact H
        clear H; have H := H1
        clear H1; by_cases c29 : t378 = 0
        rotate_left
        ·rw [if_neg c29] at H; have c29b0 : (t378 == 0) = false := beq_eq_false_iff_ne.mpr c29; have c29b1 : (t378 != 0) = true := bne_iff_ne.mpr c29; obtain rfl := Option.some.inj H; obtain ⟨Ao51, co51, eo51⟩ := Kd.R_slice HO_7.out
         subst eo51; go_wp2_with (first | ((with_reducible refine gate_callee (f := 14) rfl ?_); refine goesL_ (some 72) rfl rfl Tryd.func14 (by kernel_rfl) rfl #[.string a0, .slice Ao51 t365.length co51] rfl (by (try simp only [List.map_toArray, List.map_cons, List.map_nil]); first | done | rfl | (simp only [List.length_drop, List.length_take]; rfl)) ?_; (with_reducible refine (five_Decode.calls kj12 a0 _ _ t365 t373 t374 _ ?side1 ?side2 (by first | exact HG.out | exact GlobOk.below HG.out (bl HB)) A24.out).mono ?_); (case side1 => repeat (first | exact (Kd.R_reads' HO_7.out).2.2 | (with_reducible refine Kd.C_alloc ?_ _) | (with_reducible refine Kd.C_drewN ?_ _) | (with_reducible refine Kd.C_drew ?_))); (case side2 => exact (Kd.R_reads' HO_7.out).2.1); rintro e w52 ⟨v375, rfl, ho0, hb⟩; refine ⟨_, rfl, ?_⟩; have n0_ := Aside0.mk (Kd.R_below (rl HO_7) hb); have n1_ := Aside0.mk (Kd.R_elder' (rl HO_9) (Kd.R_base ho0) hb); have n2_ := Aside0.mk (Kd.R_lower (Kd.R_new' ho0 (Kd.R_lt (rl HO_9))) (below_size (bl HB))); have n3_ := Aside0.mk (below_step (bl HB) hb); clear HO_7; clear HO_9; clear HB; have HO_7 := n0_; have HO_9 := n1_; have HO376 := n2_; have HB := n3_; clear n0_ n1_ n2_ n3_; (try clear hb); (try clear hb2); (try clear hk); (try clear hi); (try clear ho0); obtain ⟨Ao53, co53, eo53⟩ := Kd.R_slice HO_9.out; subst eo53) | ((with_reducible refine gate_callee (f := 11) rfl ?_); refine goesL_ (some 78) rfl rfl Tryd.func11 (by kernel_rfl) rfl #[.string a0, .slice Ao53 t369.length co53] rfl (by (try simp only [List.map_toArray, List.map_cons, List.map_nil]); first | done | rfl | (simp only [List.length_drop, List.length_take]; rfl)) ?_; (with_reducible refine (five_Pieces.calls kj12 a0 _ _ t369 t377 t378 _ ?side1 ?side2 (by first | exact HG.out | exact GlobOk.below HG.out (bl HB)) A25.out).mono ?_); (case side1 => repeat (first | exact (Kd.R_reads' HO_9.out).2.2 | (with_reducible refine Kd.C_alloc ?_ _) | (with_reducible refine Kd.C_drewN ?_ _) | (with_reducible refine Kd.C_drew ?_))); (case side2 => exact (Kd.R_reads' HO_9.out).2.1); rintro e w54 ⟨v379, rfl, ho0, hb⟩; refine ⟨_, rfl, ?_⟩; have n0_ := Aside0.mk (Kd.R_below (rl HO_7) hb); have n1_ := Aside0.mk (Kd.R_elder' (rl HO_9) (Kd.R_base ho0) hb); have n2_ := Aside0.mk (Kd.R_elder' (rl HO376) (Kd.R_base ho0) hb); have n3_ := Aside0.mk (Kd.R_lower (Kd.R_new' (Kd.R_new' ho0 (Kd.R_lt (rl HO_9))) (Kd.R_lt (rl HO376))) (below_size (bl HB))); have n4_ := Aside0.mk (below_step (bl HB) hb); clear HO_7; clear HO_9; clear HO376; clear HB; have HO_7 := n0_; have HO_9 := n1_; have HO376 := n2_; have HO380 := n3_; have HB := n4_; clear n0_ n1_ n2_ n3_ n4_; (try clear hb); (try clear hb2); (try clear hk); (try clear hi); (try clear ho0); obtain ⟨Ao55, co55, eo55⟩ := Kd.R_slice HO376.out; subst eo55) | (go_at_call 13; (with_reducible refine (glossatorref22_Same.calls kj12 _ _ t373 _ _ t369 true _ ?side1 ?side2 ?side3 ?side4 A27.out).mono ?_); (case side1 => repeat (first | exact (Kd.R_reads' HO376.out).2.2 | (with_reducible refine Kd.C_alloc ?_ _) | (with_reducible refine Kd.C_drewN ?_ _) | (with_reducible refine Kd.C_drew ?_))); (case side2 => exact (Kd.R_reads' HO376.out).2.1); (case side3 => repeat (first | exact (Kd.R_reads' HO_9.out).2.2 | (with_reducible refine Kd.C_alloc ?_ _) | (with_reducible refine Kd.C_drewN ?_ _) | (with_reducible refine Kd.C_drew ?_))); (case side4 => exact (Kd.R_reads' HO_9.out).2.1); rintro e w' ⟨rfl, ⟨nd, rfl⟩⟩))
         go_ret
         exact ⟨by first | rfl | (simp [errW_none, errW_some] <;> rfl) | (simp [*, errW_none, errW_some] <;> rfl), bl HB⟩
        rw [if_pos c29] at H; have c29b0 : (t378 == 0) = true := beq_iff_eq.mpr c29
        have c29b1 : (t378 != 0) = false := bne_eq_false_iff_eq.mpr c29
        clear c29; replace H := Option.bind_eq_some_iff.mp H
        obtain ⟨t382, A300, H⟩ := H
        replace H : (if t382 = true then (if (t365.length : Int) = (wrap64 (5 * (t369.length : Int))) then (glossatorlaw23_FiveBack.j2 kj12 a0 l2) else (some false)) else (some false)) = some r := H
        have A30 := Aside0.mk A300; clear A300; by_cases c31 : t382 = true
        ·subst c31; have H1 : (if (t365.length : Int) = (wrap64 (5 * (t369.length : Int))) then (glossatorlaw23_FiveBack.j2 kj12 a0 l2) else (some false)) = some r := by rw [if_pos rfl] at H; exact H
         clear H; have H := H1
         clear H1; by_cases c32 : (t365.length : Int) = (wrap64 (5 * (t369.length : Int)))
         ·rw [if_pos c32] at H; have c32b0 : ((t365.length : Int) == (wrap64 (5 * (t369.length : Int)))) = true := beq_iff_eq.mpr c32
          have c32b1 : ((t365.length : Int) != (wrap64 (5 * (t369.length : Int)))) = false := bne_eq_false_iff_eq.mpr c32
          clear c32; have H' := Aside0.mk H; clear H; obtain ⟨Ao33, co33, eo33⟩ := Kd.R_slice HO_7.out
          subst eo33; go_wp2_with (first | ((with_reducible refine gate_callee (f := 14) rfl ?_); refine goesL_ (some 72) rfl rfl Tryd.func14 (by kernel_rfl) rfl #[.string a0, .slice Ao33 t365.length co33] rfl (by (try simp only [List.map_toArray, List.map_cons, List.map_nil]); first | done | rfl | (simp only [List.length_drop, List.length_take]; rfl)) ?_; (with_reducible refine (five_Decode.calls kj12 a0 _ _ t365 t373 t374 _ ?side1 ?side2 (by first | exact HG.out | exact GlobOk.below HG.out (bl HB)) A24.out).mono ?_); (case side1 => repeat (first | exact (Kd.R_reads' HO_7.out).2.2 | (with_reducible refine Kd.C_alloc ?_ _) | (with_reducible refine Kd.C_drewN ?_ _) | (with_reducible refine Kd.C_drew ?_))); (case side2 => exact (Kd.R_reads' HO_7.out).2.1); rintro e w34 ⟨v375, rfl, ho0, hb⟩; refine ⟨_, rfl, ?_⟩; have n0_ := Aside0.mk (Kd.R_below (rl HO_7) hb); have n1_ := Aside0.mk (Kd.R_elder' (rl HO_9) (Kd.R_base ho0) hb); have n2_ := Aside0.mk (Kd.R_lower (Kd.R_new' ho0 (Kd.R_lt (rl HO_9))) (below_size (bl HB))); have n3_ := Aside0.mk (below_step (bl HB) hb); clear HO_7; clear HO_9; clear HB; have HO_7 := n0_; have HO_9 := n1_; have HO376 := n2_; have HB := n3_; clear n0_ n1_ n2_ n3_; (try clear hb); (try clear hb2); (try clear hk); (try clear hi); (try clear ho0); obtain ⟨Ao35, co35, eo35⟩ := Kd.R_slice HO_9.out; subst eo35) | ((with_reducible refine gate_callee (f := 11) rfl ?_); refine goesL_ (some 78) rfl rfl Tryd.func11 (by kernel_rfl) rfl #[.string a0, .slice Ao35 t369.length co35] rfl (by (try simp only [List.map_toArray, List.map_cons, List.map_nil]); first | done | rfl | (simp only [List.length_drop, List.length_take]; rfl)) ?_; (with_reducible refine (five_Pieces.calls kj12 a0 _ _ t369 t377 t378 _ ?side1 ?side2 (by first | exact HG.out | exact GlobOk.below HG.out (bl HB)) A25.out).mono ?_); (case side1 => repeat (first | exact (Kd.R_reads' HO_9.out).2.2 | (with_reducible refine Kd.C_alloc ?_ _) | (with_reducible refine Kd.C_drewN ?_ _) | (with_reducible refine Kd.C_drew ?_))); (case side2 => exact (Kd.R_reads' HO_9.out).2.1); rintro e w36 ⟨v379, rfl, ho0, hb⟩; refine ⟨_, rfl, ?_⟩; have n0_ := Aside0.mk (Kd.R_below (rl HO_7) hb); have n1_ := Aside0.mk (Kd.R_elder' (rl HO_9) (Kd.R_base ho0) hb); have n2_ := Aside0.mk (Kd.R_elder' (rl HO376) (Kd.R_base ho0) hb); have n3_ := Aside0.mk (Kd.R_lower (Kd.R_new' (Kd.R_new' ho0 (Kd.R_lt (rl HO_9))) (Kd.R_lt (rl HO376))) (below_size (bl HB))); have n4_ := Aside0.mk (below_step (bl HB) hb); clear HO_7; clear HO_9; clear HO376; clear HB; have HO_7 := n0_; have HO_9 := n1_; have HO376 := n2_; have HO380 := n3_; have HB := n4_; clear n0_ n1_ n2_ n3_ n4_; (try clear hb); (try clear hb2); (try clear hk); (try clear hi); (try clear ho0); obtain ⟨Ao37, co37, eo37⟩ := Kd.R_slice HO376.out; subst eo37) | (go_at_call 13; (with_reducible refine (glossatorref22_Same.calls kj12 _ _ t373 _ _ t369 true _ ?side1 ?side2 ?side3 ?side4 A27.out).mono ?_); (case side1 => repeat (first | exact (Kd.R_reads' HO376.out).2.2 | (with_reducible refine Kd.C_alloc ?_ _) | (with_reducible refine Kd.C_drewN ?_ _) | (with_reducible refine Kd.C_drew ?_))); (case side2 => exact (Kd.R_reads' HO376.out).2.1); (case side3 => repeat (first | exact (Kd.R_reads' HO_9.out).2.2 | (with_reducible refine Kd.C_alloc ?_ _) | (with_reducible refine Kd.C_drewN ?_ _) | (with_reducible refine Kd.C_drew ?_))); (case side4 => exact (Kd.R_reads' HO_9.out).2.1); rintro e w' ⟨rfl, ⟨nd, rfl⟩⟩; obtain ⟨Ao38, co38, eo38⟩ := Kd.R_slice HO380.out; subst eo38) | (go_at_call 13; (with_reducible refine (glossatorref22_Same.calls kj12 _ _ t377 _ _ t369 true _ ?side1 ?side2 ?side3 ?side4 A30.out).mono ?_); (case side1 => repeat (first | exact (Kd.R_reads' HO380.out).2.2 | (with_reducible refine Kd.C_alloc ?_ _) | (with_reducible refine Kd.C_drewN ?_ _) | (with_reducible refine Kd.C_drew ?_))); (case side2 => exact (Kd.R_reads' HO380.out).2.1); (case side3 => repeat (first | exact (Kd.R_reads' HO_9.out).2.2 | (with_reducible refine Kd.C_alloc ?_ _) | (with_reducible refine Kd.C_drewN ?_ _) | (with_reducible refine Kd.C_drew ?_))); (case side4 => exact (Kd.R_reads' HO_9.out).2.1); rintro e w' ⟨rfl, ⟨nd, rfl⟩⟩))
          go_meet
          case rel => exact ⟨_, H', ⟨by have := HJ5.out; have := HJ12.out; first | omega | exact Nat.le_refl _⟩, ⟨bl HB⟩⟩
         ·rw [if_neg c32] at H; have c32b0 : ((t365.length : Int) == (wrap64 (5 * (t369.length : Int)))) = false := beq_eq_false_iff_ne.mpr c32; have c32b1 : ((t365.length : Int) != (wrap64 (5 * (t369.length : Int)))) = true := bne_iff_ne.mpr c32; obtain rfl := Option.some.inj H; obtain ⟨Ao39, co39, eo39⟩ := Kd.R_slice HO_7.out
          subst eo39; go_wp2_with (first | ((with_reducible refine gate_callee (f := 14) rfl ?_); refine goesL_ (some 72) rfl rfl Tryd.func14 (by kernel_rfl) rfl #[.string a0, .slice Ao39 t365.length co39] rfl (by (try simp only [List.map_toArray, List.map_cons, List.map_nil]); first | done | rfl | (simp only [List.length_drop, List.length_take]; rfl)) ?_; (with_reducible refine (five_Decode.calls kj12 a0 _ _ t365 t373 t374 _ ?side1 ?side2 (by first | exact HG.out | exact GlobOk.below HG.out (bl HB)) A24.out).mono ?_); (case side1 => repeat (first | exact (Kd.R_reads' HO_7.out).2.2 | (with_reducible refine Kd.C_alloc ?_ _) | (with_reducible refine Kd.C_drewN ?_ _) | (with_reducible refine Kd.C_drew ?_))); (case side2 => exact (Kd.R_reads' HO_7.out).2.1); rintro e w40 ⟨v375, rfl, ho0, hb⟩; refine ⟨_, rfl, ?_⟩; have n0_ := Aside0.mk (Kd.R_below (rl HO_7) hb); have n1_ := Aside0.mk (Kd.R_elder' (rl HO_9) (Kd.R_base ho0) hb); have n2_ := Aside0.mk (Kd.R_lower (Kd.R_new' ho0 (Kd.R_lt (rl HO_9))) (below_size (bl HB))); have n3_ := Aside0.mk (below_step (bl HB) hb); clear HO_7; clear HO_9; clear HB; have HO_7 := n0_; have HO_9 := n1_; have HO376 := n2_; have HB := n3_; clear n0_ n1_ n2_ n3_; (try clear hb); (try clear hb2); (try clear hk); (try clear hi); (try clear ho0); obtain ⟨Ao41, co41, eo41⟩ := Kd.R_slice HO_9.out; subst eo41) | ((with_reducible refine gate_callee (f := 11) rfl ?_); refine goesL_ (some 78) rfl rfl Tryd.func11 (by kernel_rfl) rfl #[.string a0, .slice Ao41 t369.length co41] rfl (by (try simp only [List.map_toArray, List.map_cons, List.map_nil]); first | done | rfl | (simp only [List.length_drop, List.length_take]; rfl)) ?_; (with_reducible refine (five_Pieces.calls kj12 a0 _ _ t369 t377 t378 _ ?side1 ?side2 (by first | exact HG.out | exact GlobOk.below HG.out (bl HB)) A25.out).mono ?_); (case side1 => repeat (first | exact (Kd.R_reads' HO_9.out).2.2 | (with_reducible refine Kd.C_alloc ?_ _) | (with_reducible refine Kd.C_drewN ?_ _) | (with_reducible refine Kd.C_drew ?_))); (case side2 => exact (Kd.R_reads' HO_9.out).2.1); rintro e w42 ⟨v379, rfl, ho0, hb⟩; refine ⟨_, rfl, ?_⟩; have n0_ := Aside0.mk (Kd.R_below (rl HO_7) hb); have n1_ := Aside0.mk (Kd.R_elder' (rl HO_9) (Kd.R_base ho0) hb); have n2_ := Aside0.mk (Kd.R_elder' (rl HO376) (Kd.R_base ho0) hb); have n3_ := Aside0.mk (Kd.R_lower (Kd.R_new' (Kd.R_new' ho0 (Kd.R_lt (rl HO_9))) (Kd.R_lt (rl HO376))) (below_size (bl HB))); have n4_ := Aside0.mk (below_step (bl HB) hb); clear HO_7; clear HO_9; clear HO376; clear HB; have HO_7 := n0_; have HO_9 := n1_; have HO376 := n2_; have HO380 := n3_; have HB := n4_; clear n0_ n1_ n2_ n3_ n4_; (try clear hb); (try clear hb2); (try clear hk); (try clear hi); (try clear ho0); obtain ⟨Ao43, co43, eo43⟩ := Kd.R_slice HO376.out; subst eo43) | (go_at_call 13; (with_reducible refine (glossatorref22_Same.calls kj12 _ _ t373 _ _ t369 true _ ?side1 ?side2 ?side3 ?side4 A27.out).mono ?_); (case side1 => repeat (first | exact (Kd.R_reads' HO376.out).2.2 | (with_reducible refine Kd.C_alloc ?_ _) | (with_reducible refine Kd.C_drewN ?_ _) | (with_reducible refine Kd.C_drew ?_))); (case side2 => exact (Kd.R_reads' HO376.out).2.1); (case side3 => repeat (first | exact (Kd.R_reads' HO_9.out).2.2 | (with_reducible refine Kd.C_alloc ?_ _) | (with_reducible refine Kd.C_drewN ?_ _) | (with_reducible refine Kd.C_drew ?_))); (case side4 => exact (Kd.R_reads' HO_9.out).2.1); rintro e w' ⟨rfl, ⟨nd, rfl⟩⟩; obtain ⟨Ao44, co44, eo44⟩ := Kd.R_slice HO380.out; subst eo44) | (go_at_call 13; (with_reducible refine (glossatorref22_Same.calls kj12 _ _ t377 _ _ t369 true _ ?side1 ?side2 ?side3 ?side4 A30.out).mono ?_); (case side1 => repeat (first | exact (Kd.R_reads' HO380.out).2.2 | (with_reducible refine Kd.C_alloc ?_ _) | (with_reducible refine Kd.C_drewN ?_ _) | (with_reducible refine Kd.C_drew ?_))); (case side2 => exact (Kd.R_reads' HO380.out).2.1); (case side3 => repeat (first | exact (Kd.R_reads' HO_9.out).2.2 | (with_reducible refine Kd.C_alloc ?_ _) | (with_reducible refine Kd.C_drewN ?_ _) | (with_reducible refine Kd.C_drew ?_))); (case side4 => exact (Kd.R_reads' HO_9.out).2.1); rintro e w' ⟨rfl, ⟨nd, rfl⟩⟩))
          go_ret
          exact ⟨by first | rfl | (simp [errW_none, errW_some] <;> rfl) | (simp [*, errW_none, errW_some] <;> rfl), bl HB⟩
        ·replace c31 := Bool.eq_false_iff.mpr c31
         subst c31; have H1 : (some false) = some r := by rw [if_neg (show ¬ (false = true) by decide)] at H; exact H
         clear H; have H := H1
         clear H1; obtain rfl := Option.some.inj H; obtain ⟨Ao45, co45, eo45⟩ := Kd.R_slice HO_7.out
         subst eo45; go_wp2_with (first | ((with_reducible refine gate_callee (f := 14) rfl ?_); refine goesL_ (some 72) rfl rfl Tryd.func14 (by kernel_rfl) rfl #[.string a0, .slice Ao45 t365.length co45] rfl (by (try simp only [List.map_toArray, List.map_cons, List.map_nil]); first | done | rfl | (simp only [List.length_drop, List.length_take]; rfl)) ?_; (with_reducible refine (five_Decode.calls kj12 a0 _ _ t365 t373 t374 _ ?side1 ?side2 (by first | exact HG.out | exact GlobOk.below HG.out (bl HB)) A24.out).mono ?_); (case side1 => repeat (first | exact (Kd.R_reads' HO_7.out).2.2 | (with_reducible refine Kd.C_alloc ?_ _) | (with_reducible refine Kd.C_drewN ?_ _) | (with_reducible refine Kd.C_drew ?_))); (case side2 => exact (Kd.R_reads' HO_7.out).2.1); rintro e w46 ⟨v375, rfl, ho0, hb⟩; refine ⟨_, rfl, ?_⟩; have n0_ := Aside0.mk (Kd.R_below (rl HO_7) hb); have n1_ := Aside0.mk (Kd.R_elder' (rl HO_9) (Kd.R_base ho0) hb); have n2_ := Aside0.mk (Kd.R_lower (Kd.R_new' ho0 (Kd.R_lt (rl HO_9))) (below_size (bl HB))); have n3_ := Aside0.mk (below_step (bl HB) hb); clear HO_7; clear HO_9; clear HB; have HO_7 := n0_; have HO_9 := n1_; have HO376 := n2_; have HB := n3_; clear n0_ n1_ n2_ n3_; (try clear hb); (try clear hb2); (try clear hk); (try clear hi); (try clear ho0); obtain ⟨Ao47, co47, eo47⟩ := Kd.R_slice HO_9.out; subst eo47) | ((with_reducible refine gate_callee (f := 11) rfl ?_); refine goesL_ (some 78) rfl rfl Tryd.func11 (by kernel_rfl) rfl #[.string a0, .slice Ao47 t369.length co47] rfl (by (try simp only [List.map_toArray, List.map_cons, List.map_nil]); first | done | rfl | (simp only [List.length_drop, List.length_take]; rfl)) ?_; (with_reducible refine (five_Pieces.calls kj12 a0 _ _ t369 t377 t378 _ ?side1 ?side2 (by first | exact HG.out | exact GlobOk.below HG.out (bl HB)) A25.out).mono ?_); (case side1 => repeat (first | exact (Kd.R_reads' HO_9.out).2.2 | (with_reducible refine Kd.C_alloc ?_ _) | (with_reducible refine Kd.C_drewN ?_ _) | (with_reducible refine Kd.C_drew ?_))); (case side2 => exact (Kd.R_reads' HO_9.out).2.1); rintro e w48 ⟨v379, rfl, ho0, hb⟩; refine ⟨_, rfl, ?_⟩; have n0_ := Aside0.mk (Kd.R_below (rl HO_7) hb); have n1_ := Aside0.mk (Kd.R_elder' (rl HO_9) (Kd.R_base ho0) hb); have n2_ := Aside0.mk (Kd.R_elder' (rl HO376) (Kd.R_base ho0) hb); have n3_ := Aside0.mk (Kd.R_lower (Kd.R_new' (Kd.R_new' ho0 (Kd.R_lt (rl HO_9))) (Kd.R_lt (rl HO376))) (below_size (bl HB))); have n4_ := Aside0.mk (below_step (bl HB) hb); clear HO_7; clear HO_9; clear HO376; clear HB; have HO_7 := n0_; have HO_9 := n1_; have HO376 := n2_; have HO380 := n3_; have HB := n4_; clear n0_ n1_ n2_ n3_ n4_; (try clear hb); (try clear hb2); (try clear hk); (try clear hi); (try clear ho0); obtain ⟨Ao49, co49, eo49⟩ := Kd.R_slice HO376.out; subst eo49) | (go_at_call 13; (with_reducible refine (glossatorref22_Same.calls kj12 _ _ t373 _ _ t369 true _ ?side1 ?side2 ?side3 ?side4 A27.out).mono ?_); (case side1 => repeat (first | exact (Kd.R_reads' HO376.out).2.2 | (with_reducible refine Kd.C_alloc ?_ _) | (with_reducible refine Kd.C_drewN ?_ _) | (with_reducible refine Kd.C_drew ?_))); (case side2 => exact (Kd.R_reads' HO376.out).2.1); (case side3 => repeat (first | exact (Kd.R_reads' HO_9.out).2.2 | (with_reducible refine Kd.C_alloc ?_ _) | (with_reducible refine Kd.C_drewN ?_ _) | (with_reducible refine Kd.C_drew ?_))); (case side4 => exact (Kd.R_reads' HO_9.out).2.1); rintro e w' ⟨rfl, ⟨nd, rfl⟩⟩; obtain ⟨Ao50, co50, eo50⟩ := Kd.R_slice HO380.out; subst eo50) | (go_at_call 13; (with_reducible refine (glossatorref22_Same.calls kj12 _ _ t377 _ _ t369 false _ ?side1 ?side2 ?side3 ?side4 A30.out).mono ?_); (case side1 => repeat (first | exact (Kd.R_reads' HO380.out).2.2 | (with_reducible refine Kd.C_alloc ?_ _) | (with_reducible refine Kd.C_drewN ?_ _) | (with_reducible refine Kd.C_drew ?_))); (case side2 => exact (Kd.R_reads' HO380.out).2.1); (case side3 => repeat (first | exact (Kd.R_reads' HO_9.out).2.2 | (with_reducible refine Kd.C_alloc ?_ _) | (with_reducible refine Kd.C_drewN ?_ _) | (with_reducible refine Kd.C_drew ?_))); (case side4 => exact (Kd.R_reads' HO_9.out).2.1); rintro e w' ⟨rfl, ⟨nd, rfl⟩⟩))
         go_ret
         exact ⟨by first | rfl | (simp [errW_none, errW_some] <;> rfl) | (simp [*, errW_none, errW_some] <;> rfl), bl HB⟩
       case rest =>
        clear HC22; (try clear c1); (try clear c2); (try clear p2); (try clear c3); (try clear c5); (try clear p6); (try clear c8); (try clear c8b0); (try clear c8b1); (try clear c8b2); (try clear c9); (try clear c9b0); (try clear c9b1); (try clear c9b2); (try clear c10); (try clear c11); (try clear c14); (try clear c16); (try clear c16b0); (try clear c16b1); (try clear c17); (try clear c17b0); (try clear c17b1); (try clear c18); (try clear c18b0); (try clear c18b1); (try clear c21); (try clear c23); (try clear c23b0); (try clear c23b1); (try clear c26); (try clear c26b0); (try clear c26b1); (try clear c28); (try clear c29); (try clear c29b0); (try clear c29b1); (try clear c31); (try clear c32); (try clear c32b0); (try clear c32b1); (try clear p64); (try clear p2); (try clear p6); obtain ⟨kq, HA, HJ21, HB⟩ := hcut
        cases kq with
        | zero => exact absurd HA.out (by simp [glossatorlaw23_FiveBack.j2])
        | succ kj21 =>
         have H := HA.out
         clear HA; simp only [glossatorlaw23_FiveBack.j2] at H
         replace H := Option.bind_eq_some_iff.mp H
         obtain ⟨⟨t383, t384⟩, A650, H⟩ := H
         replace H : (if t384 = 0 then ((five_Encode.f kj21 a0 t383).bind fun bt387 => ((five_Pieces.f kj21 a0 t383).bind fun bt391 => (if bt387.2 = 0 then ((glossatorref23_Same.f kj21 bt387.1 l2).bind fun t395 => (if t395 = true then (if bt391.2 = 0 then ((glossatorref22_Same.f kj21 bt391.1 t383).bind fun t396 => (some t396)) else (some false)) else (some false))) else (some false)))) else (if t384 = 230 then (some ((t383.length : Int) == 0)) else (some false))) = some r := H
         have A65 := Aside0.mk A650; clear A650; by_cases c66 : t384 = 0
         rotate_left
         ·rw [if_neg c66] at H; have c66b0 : (t384 == 0) = false := beq_eq_false_iff_ne.mpr c66; have c66b1 : (t384 != 0) = true := bne_iff_ne.mpr c66; by_cases c94 : t384 = 230
          ·rw [if_pos c94] at H; have c94b0 : (t384 == 230) = true := beq_iff_eq.mpr c94
           have c94b1 : (t384 != 230) = false := bne_eq_false_iff_eq.mpr c94
           clear c94; obtain rfl := Option.some.inj H; go_wp2_with (first | ((with_reducible refine gate_callee (f := 14) rfl ?_); refine goesL_ (some 110) rfl rfl Tryd.func14 (by kernel_rfl) rfl #[.string a0, .slice A2 l2.length c2] rfl (by (try simp only [List.map_toArray, List.map_cons, List.map_nil]); first | done | rfl | (simp only [List.length_drop, List.length_take]; rfl)) ?_; (with_reducible refine (five_Decode.calls kj21 a0 _ _ l2 t383 t384 _ ?side1 ?side2 (by first | exact HG.out | exact GlobOk.below HG.out (bl HB)) A65.out).mono ?_); (case side1 => repeat (first | exact (Kd.C_below HR2.out HB.out) | (with_reducible refine Kd.C_alloc ?_ _) | (with_reducible refine Kd.C_drewN ?_ _) | (with_reducible refine Kd.C_drew ?_))); (case side2 => exact HC2.out); rintro e w95 ⟨v385, rfl, ho0, hb⟩; refine ⟨_, rfl, ?_⟩; have n0_ := Aside0.mk (Kd.R_lower ho0 (below_size (bl HB))); have n1_ := Aside0.mk (below_step (bl HB) hb); clear HB; have HO386 := n0_; have HB := n1_; clear n0_ n1_; (try clear hb); (try clear hb2); (try clear hk); (try clear hi); (try clear ho0); obtain ⟨Ao96, co96, eo96⟩ := Kd.R_slice HO386.out; subst eo96))
           go_ret
           exact ⟨by first | rfl | (simp [errW_none, errW_some] <;> rfl) | (simp [*, errW_none, errW_some] <;> rfl), bl HB⟩
          ·rw [if_neg c94] at H; have c94b0 : (t384 == 230) = false := beq_eq_false_iff_ne.mpr c94; have c94b1 : (t384 != 230) = true := bne_iff_ne.mpr c94; obtain rfl := Option.some.inj H; go_wp2_with (first | ((with_reducible refine gate_callee (f := 14) rfl ?_); refine goesL_ (some 110) rfl rfl Tryd.func14 (by kernel_rfl) rfl #[.string a0, .slice A2 l2.length c2] rfl (by (try simp only [List.map_toArray, List.map_cons, List.map_nil]); first | done | rfl | (simp only [List.length_drop, List.length_take]; rfl)) ?_; (with_reducible refine (five_Decode.calls kj21 a0 _ _ l2 t383 t384 _ ?side1 ?side2 (by first | exact HG.out | exact GlobOk.below HG.out (bl HB)) A65.out).mono ?_); (case side1 => repeat (first | exact (Kd.C_below HR2.out HB.out) | (with_reducible refine Kd.C_alloc ?_ _) | (with_reducible refine Kd.C_drewN ?_ _) | (with_reducible refine Kd.C_drew ?_))); (case side2 => exact HC2.out); rintro e w97 ⟨v385, rfl, ho0, hb⟩; refine ⟨_, rfl, ?_⟩; have n0_ := Aside0.mk (Kd.R_lower ho0 (below_size (bl HB))); have n1_ := Aside0.mk (below_step (bl HB) hb); clear HB; have HO386 := n0_; have HB := n1_; clear n0_ n1_; (try clear hb); (try clear hb2); (try clear hk); (try clear hi); (try clear ho0)))
           go_ret
           exact ⟨by first | rfl | (simp [errW_none, errW_some] <;> rfl) | (simp [*, errW_none, errW_some] <;> rfl), bl HB⟩
         rw [if_pos c66] at H; have c66b0 : (t384 == 0) = true := beq_iff_eq.mpr c66
         have c66b1 : (t384 != 0) = false := bne_eq_false_iff_eq.mpr c66
         clear c66; replace H := Option.bind_eq_some_iff.mp H
         obtain ⟨⟨t387, t388⟩, A670, H⟩ := H
         replace H : ((five_Pieces.f kj21 a0 t383).bind fun bt391 => (if t388 = 0 then ((glossatorref23_Same.f kj21 t387 l2).bind fun t395 => (if t395 = true then (if bt391.2 = 0 then ((glossatorref22_Same.f kj21 bt391.1 t383).bind fun t396 => (some t396)) else (some false)) else (some false))) else (some false))) = some r := H
         have A67 := Aside0.mk A670; clear A670; replace H := Option.bind_eq_some_iff.mp H
         obtain ⟨⟨t391, t392⟩, A680, H⟩ := H
         replace H : (if t388 = 0 then ((glossatorref23_Same.f kj21 t387 l2).bind fun t395 => (if t395 = true then (if t392 = 0 then ((glossatorref22_Same.f kj21 t391 t383).bind fun t396 => (some t396)) else (some false)) else (some false))) else (some false)) = some r := H
         have A68 := Aside0.mk A680; clear A680; by_cases c69 : t388 = 0
         rotate_left
         ·rw [if_neg c69] at H; have c69b0 : (t388 == 0) = false := beq_eq_false_iff_ne.mpr c69; have c69b1 : (t388 != 0) = true := bne_iff_ne.mpr c69; obtain rfl := Option.some.inj H; go_wp2_with (first | ((with_reducible refine gate_callee (f := 14) rfl ?_); refine goesL_ (some 110) rfl rfl Tryd.func14 (by kernel_rfl) rfl #[.string a0, .slice A2 l2.length c2] rfl (by (try simp only [List.map_toArray, List.map_cons, List.map_nil]); first | done | rfl | (simp only [List.length_drop, List.length_take]; rfl)) ?_; (with_reducible refine (five_Decode.calls kj21 a0 _ _ l2 t383 t384 _ ?side1 ?side2 (by first | exact HG.out | exact GlobOk.below HG.out (bl HB)) A65.out).mono ?_); (case side1 => repeat (first | exact (Kd.C_below HR2.out HB.out) | (with_reducible refine Kd.C_alloc ?_ _) | (with_reducible refine Kd.C_drewN ?_ _) | (with_reducible refine Kd.C_drew ?_))); (case side2 => exact HC2.out); rintro e w90 ⟨v385, rfl, ho0, hb⟩; refine ⟨_, rfl, ?_⟩; have n0_ := Aside0.mk (Kd.R_lower ho0 (below_size (bl HB))); have n1_ := Aside0.mk (below_step (bl HB) hb); clear HB; have HO386 := n0_; have HB := n1_; clear n0_ n1_; (try clear hb); (try clear hb2); (try clear hk); (try clear hi); (try clear ho0); obtain ⟨Ao91, co91, eo91⟩ := Kd.R_slice HO386.out; subst eo91) | ((with_reducible refine gate_callee (f := 10) rfl ?_); refine goesL_ (some 125) rfl rfl Tryd.func10 (by kernel_rfl) rfl #[.string a0, .slice Ao91 t383.length co91] rfl (by (try simp only [List.map_toArray, List.map_cons, List.map_nil]); first | done | rfl | (simp only [List.length_drop, List.length_take]; rfl)) ?_; (with_reducible refine (five_Encode.calls kj21 a0 _ _ t383 t387 t388 _ ?side1 ?side2 (by first | exact HG.out | exact GlobOk.below HG.out (bl HB)) A67.out).mono ?_); (case side1 => repeat (first | exact (Kd.R_reads' HO386.out).2.2 | (with_reducible refine Kd.C_alloc ?_ _) | (with_reducible refine Kd.C_drewN ?_ _) | (with_reducible refine Kd.C_drew ?_))); (case side2 => exact (Kd.R_reads' HO386.out).2.1); rintro e w92 ⟨v389, rfl, ho0, hb⟩; refine ⟨_, rfl, ?_⟩; have n0_ := Aside0.mk (Kd.R_below (rl HO386) hb); have n1_ := Aside0.mk (Kd.R_lower ho0 (below_size (bl HB))); have n2_ := Aside0.mk (below_step (bl HB) hb); clear HO386; clear HB; have HO386 := n0_; have HO390 := n1_; have HB := n2_; clear n0_ n1_ n2_; (try clear hb); (try clear hb2); (try clear hk); (try clear hi); (try clear ho0)) | ((with_reducible refine gate_callee (f := 11) rfl ?_); refine goesL_ (some 131) rfl rfl Tryd.func11 (by kernel_rfl) rfl #[.string a0, .slice Ao91 t383.length co91] rfl (by (try simp only [List.map_toArray, List.map_cons, List.map_nil]); first | done | rfl | (simp only [List.length_drop, List.length_take]; rfl)) ?_; (with_reducible refine (five_Pieces.calls kj21 a0 _ _ t383 t391 t392 _ ?side1 ?side2 (by first | exact HG.out | exact GlobOk.below HG.out (bl HB)) A68.out).mono ?_); (case side1 => repeat (first | exact (Kd.R_reads' HO386.out).2.2 | (with_reducible refine Kd.C_alloc ?_ _) | (with_reducible refine Kd.C_drewN ?_ _) | (with_reducible refine Kd.C_drew ?_))); (case side2 => exact (Kd.R_reads' HO386.out).2.1); rintro e w93 ⟨v393, rfl, ho0, hb⟩; refine ⟨_, rfl, ?_⟩; have n0_ := Aside0.mk (Kd.R_elder' (rl HO386) (Kd.R_base ho0) hb); have n1_ := Aside0.mk (Kd.R_below (rl HO390) hb); have n2_ := Aside0.mk (Kd.R_lower (Kd.R_new' ho0 (Kd.R_lt (rl HO386))) (below_size (bl HB))); have n3_ := Aside0.mk (below_step (bl HB) hb); clear HO386; clear HO390; clear HB; have HO386 := n0_; have HO390 := n1_; have HO394 := n2_; have HB := n3_; clear n0_ n1_ n2_ n3_; (try clear hb); (try clear hb2); (try clear hk); (try clear hi); (try clear ho0)))
          go_ret
          exact ⟨by first | rfl | (simp [errW_none, errW_some] <;> rfl) | (simp [*, errW_none, errW_some] <;> rfl), bl HB⟩
         rw [if_pos c69] at H; have c69b0 : (t388 == 0) = true := beq_iff_eq.mpr c69
         have c69b1 : (t388 != 0) = false := bne_eq_false_iff_eq.mpr c69
         clear c69; replace H := Option.bind_eq_some_iff.mp H
         obtain ⟨t395, A700, H⟩ := H
         replace H : (if t395 = true then (if t392 = 0 then ((glossatorref22_Same.f kj21 t391 t383).bind fun t396 => (some t396)) else (some false)) else (some false)) = some r := H
         have A70 := Aside0.mk A700; clear A700; by_cases c71 : t395 = true
         rotate_left
         ·replace c71 := Bool.eq_false_iff.mpr c71
          subst c71; have H1 : (some false) = some r := by rw [if_neg (show ¬ (false = true) by decide)] at H; exact H
          clear H; have H := H1
          clear H1; obtain rfl := Option.some.inj H; go_wp2_with (first | ((with_reducible refine gate_callee (f := 14) rfl ?_); refine goesL_ (some 110) rfl rfl Tryd.func14 (by kernel_rfl) rfl #[.string a0, .slice A2 l2.length c2] rfl (by (try simp only [List.map_toArray, List.map_cons, List.map_nil]); first | done | rfl | (simp only [List.length_drop, List.length_take]; rfl)) ?_; (with_reducible refine (five_Decode.calls kj21 a0 _ _ l2 t383 t384 _ ?side1 ?side2 (by first | exact HG.out | exact GlobOk.below HG.out (bl HB)) A65.out).mono ?_); (case side1 => repeat (first | exact (Kd.C_below HR2.out HB.out) | (with_reducible refine Kd.C_alloc ?_ _) | (with_reducible refine Kd.C_drewN ?_ _) | (with_reducible refine Kd.C_drew ?_))); (case side2 => exact HC2.out); rintro e w85 ⟨v385, rfl, ho0, hb⟩; refine ⟨_, rfl, ?_⟩; have n0_ := Aside0.mk (Kd.R_lower ho0 (below_size (bl HB))); have n1_ := Aside0.mk (below_step (bl HB) hb); clear HB; have HO386 := n0_; have HB := n1_; clear n0_ n1_; (try clear hb); (try clear hb2); (try clear hk); (try clear hi); (try clear ho0); obtain ⟨Ao86, co86, eo86⟩ := Kd.R_slice HO386.out; subst eo86) | ((with_reducible refine gate_callee (f := 10) rfl ?_); refine goesL_ (some 125) rfl rfl Tryd.func10 (by kernel_rfl) rfl #[.string a0, .slice Ao86 t383.length co86] rfl (by (try simp only [List.map_toArray, List.map_cons, List.map_nil]); first | done | rfl | (simp only [List.length_drop, List.length_take]; rfl)) ?_; (with_reducible refine (five_Encode.calls kj21 a0 _ _ t383 t387 t388 _ ?side1 ?side2 (by first | exact HG.out | exact GlobOk.below HG.out (bl HB)) A67.out).mono ?_); (case side1 => repeat (first | exact (Kd.R_reads' HO386.out).2.2 | (with_reducible refine Kd.C_alloc ?_ _) | (with_reducible refine Kd.C_drewN ?_ _) | (with_reducible refine Kd.C_drew ?_))); (case side2 => exact (Kd.R_reads' HO386.out).2.1); rintro e w87 ⟨v389, rfl, ho0, hb⟩; refine ⟨_, rfl, ?_⟩; have n0_ := Aside0.mk (Kd.R_below (rl HO386) hb); have n1_ := Aside0.mk (Kd.R_lower ho0 (below_size (bl HB))); have n2_ := Aside0.mk (below_step (bl HB) hb); clear HO386; clear HB; have HO386 := n0_; have HO390 := n1_; have HB := n2_; clear n0_ n1_ n2_; (try clear hb); (try clear hb2); (try clear hk); (try clear hi); (try clear ho0)) | ((with_reducible refine gate_callee (f := 11) rfl ?_); refine goesL_ (some 131) rfl rfl Tryd.func11 (by kernel_rfl) rfl #[.string a0, .slice Ao86 t383.length co86] rfl (by (try simp only [List.map_toArray, List.map_cons, List.map_nil]); first | done | rfl | (simp only [List.length_drop, List.length_take]; rfl)) ?_; (with_reducible refine (five_Pieces.calls kj21 a0 _ _ t383 t391 t392 _ ?side1 ?side2 (by first | exact HG.out | exact GlobOk.below HG.out (bl HB)) A68.out).mono ?_); (case side1 => repeat (first | exact (Kd.R_reads' HO386.out).2.2 | (with_reducible refine Kd.C_alloc ?_ _) | (with_reducible refine Kd.C_drewN ?_ _) | (with_reducible refine Kd.C_drew ?_))); (case side2 => exact (Kd.R_reads' HO386.out).2.1); rintro e w88 ⟨v393, rfl, ho0, hb⟩; refine ⟨_, rfl, ?_⟩; have n0_ := Aside0.mk (Kd.R_elder' (rl HO386) (Kd.R_base ho0) hb); have n1_ := Aside0.mk (Kd.R_below (rl HO390) hb); have n2_ := Aside0.mk (Kd.R_lower (Kd.R_new' ho0 (Kd.R_lt (rl HO386))) (below_size (bl HB))); have n3_ := Aside0.mk (below_step (bl HB) hb); clear HO386; clear HO390; clear HB; have HO386 := n0_; have HO390 := n1_; have HO394 := n2_; have HB := n3_; clear n0_ n1_ n2_ n3_; (try clear hb); (try clear hb2); (try clear hk); (try clear hi); (try clear ho0); obtain ⟨Ao89, co89, eo89⟩ := Kd.R_slice HO390.out; subst eo89) | (go_at_call 12; (with_reducible refine (glossatorref23_Same.calls kj21 _ _ t387 _ _ l2 false _ ?side1 ?side2 ?side3 ?side4 A70.out).mono ?_); (case side1 => repeat (first | exact (Kd.R_reads' HO390.out).2.2 | (with_reducible refine Kd.C_alloc ?_ _) | (with_reducible refine Kd.C_drewN ?_ _) | (with_reducible refine Kd.C_drew ?_))); (case side2 => exact (Kd.R_reads' HO390.out).2.1); (case side3 => repeat (first | exact (Kd.C_below HR2.out HB.out) | (with_reducible refine Kd.C_alloc ?_ _) | (with_reducible refine Kd.C_drewN ?_ _) | (with_reducible refine Kd.C_drew ?_))); (case side4 => exact HC2.out); rintro e w' ⟨rfl, ⟨nd, rfl⟩⟩))
          go_ret
          exact ⟨by first | rfl | (simp [errW_none, errW_some] <;> rfl) | (simp [*, errW_none, errW_some] <;> rfl), bl HB⟩
         subst c71; have H1 : (if t392 = 0 then ((glossatorref22_Same.f kj21 t391 t383).bind fun t396 => (some t396)) else (some false)) = some r := by rw [if_pos rfl] at H; exact H
         clear H; have H := H1
         clear H1; by_cases c72 : t392 = 0
         ·rw [if_pos c72] at H; have c72b0 : (t392 == 0) = true := beq_iff_eq.mpr c72
          have c72b1 : (t392 != 0) = false := bne_eq_false_iff_eq.mpr c72
          clear c72; replace H := Option.bind_eq_some_iff.mp H
          obtain ⟨t396, A730, H⟩ := H
          replace H : (some t396) = some r := H
          have A73 := Aside0.mk A730; clear A730; obtain rfl := Option.some.inj H; go_wp2_with (first | ((with_reducible refine gate_callee (f := 14) rfl ?_); refine goesL_ (some 110) rfl rfl Tryd.func14 (by kernel_rfl) rfl #[.string a0, .slice A2 l2.length c2] rfl (by (try simp only [List.map_toArray, List.map_cons, List.map_nil]); first | done | rfl | (simp only [List.length_drop, List.length_take]; rfl)) ?_; (with_reducible refine (five_Decode.calls kj21 a0 _ _ l2 t383 t384 _ ?side1 ?side2 (by first | exact HG.out | exact GlobOk.below HG.out (bl HB)) A65.out).mono ?_); (case side1 => repeat (first | exact (Kd.C_below HR2.out HB.out) | (with_reducible refine Kd.C_alloc ?_ _) | (with_reducible refine Kd.C_drewN ?_ _) | (with_reducible refine Kd.C_drew ?_))); (case side2 => exact HC2.out); rintro e w74 ⟨v385, rfl, ho0, hb⟩; refine ⟨_, rfl, ?_⟩; have n0_ := Aside0.mk (Kd.R_lower ho0 (below_size (bl HB))); have n1_ := Aside0.mk (below_step (bl HB) hb); clear HB; have HO386 := n0_; have HB := n1_; clear n0_ n1_; (try clear hb); (try clear hb2); (try clear hk); (try clear hi); (try clear ho0); obtain ⟨Ao75, co75, eo75⟩ := Kd.R_slice HO386.out; subst eo75) | ((with_reducible refine gate_callee (f := 10) rfl ?_); refine goesL_ (some 125) rfl rfl Tryd.func10 (by kernel_rfl) rfl #[.string a0, .slice Ao75 t383.length co75] rfl (by (try simp only [List.map_toArray, List.map_cons, List.map_nil]); first | done | rfl | (simp only [List.length_drop, List.length_take]; rfl)) ?_; (with_reducible refine (five_Encode.calls kj21 a0 _ _ t383 t387 t388 _ ?side1 ?side2 (by first | exact HG.out | exact GlobOk.below HG.out (bl HB)) A67.out).mono ?_); (case side1 => repeat (first | exact (Kd.R_reads' HO386.out).2.2 | (with_reducible refine Kd.C_alloc ?_ _) | (with_reducible refine Kd.C_drewN ?_ _) | (with_reducible refine Kd.C_drew ?_))); (case side2 => exact (Kd.R_reads' HO386.out).2.1); rintro e w76 ⟨v389, rfl, ho0, hb⟩; refine ⟨_, rfl, ?_⟩; have n0_ := Aside0.mk (Kd.R_below (rl HO386) hb); have n1_ := Aside0.mk (Kd.R_lower ho0 (below_size (bl HB))); have n2_ := Aside0.mk (below_step (bl HB) hb); clear HO386; clear HB; have HO386 := n0_; have HO390 := n1_; have HB := n2_; clear n0_ n1_ n2_; (try clear hb); (try clear hb2); (try clear hk); (try clear hi); (try clear ho0)) | ((with_reducible refine gate_callee (f := 11) rfl ?_); refine goesL_ (some 131) rfl rfl Tryd.func11 (by kernel_rfl) rfl #[.string a0, .slice Ao75 t383.length co75] rfl (by (try simp only [List.map_toArray, List.map_cons, List.map_nil]); first | done | rfl | (simp only [List.length_drop, List.length_take]; rfl)) ?_; (with_reducible refine (five_Pieces.calls kj21 a0 _ _ t383 t391 t392 _ ?side1 ?side2 (by first | exact HG.out | exact GlobOk.below HG.out (bl HB)) A68.out).mono ?_); (case side1 => repeat (first | exact (Kd.R_reads' HO386.out).2.2 | (with_reducible refine Kd.C_alloc ?_ _) | (with_reducible refine Kd.C_drewN ?_ _) | (with_reducible refine Kd.C_drew ?_))); (case side2 => exact (Kd.R_reads' HO386.out).2.1); rintro e w77 ⟨v393, rfl, ho0, hb⟩; refine ⟨_, rfl, ?_⟩; have n0_ := Aside0.mk (Kd.R_elder' (rl HO386) (Kd.R_base ho0) hb); have n1_ := Aside0.mk (Kd.R_below (rl HO390) hb); have n2_ := Aside0.mk (Kd.R_lower (Kd.R_new' ho0 (Kd.R_lt (rl HO386))) (below_size (bl HB))); have n3_ := Aside0.mk (below_step (bl HB) hb); clear HO386; clear HO390; clear HB; have HO386 := n0_; have HO390 := n1_; have HO394 := n2_; have HB := n3_; clear n0_ n1_ n2_ n3_; (try clear hb); (try clear hb2); (try clear hk); (try clear hi); (try clear ho0); obtain ⟨Ao78, co78, eo78⟩ := Kd.R_slice HO390.out; subst eo78) | (go_at_call 12; (with_reducible refine (glossatorref23_Same.calls kj21 _ _ t387 _ _ l2 true _ ?side1 ?side2 ?side3 ?side4 A70.out).mono ?_); (case side1 => repeat (first | exact (Kd.R_reads' HO390.out).2.2 | (with_reducible refine Kd.C_alloc ?_ _) | (with_reducible refine Kd.C_drewN ?_ _) | (with_reducible refine Kd.C_drew ?_))); (case side2 => exact (Kd.R_reads' HO390.out).2.1); (case side3 => repeat (first | exact (Kd.C_below HR2.out HB.out) | (with_reducible refine Kd.C_alloc ?_ _) | (with_reducible refine Kd.C_drewN ?_ _) | (with_reducible refine Kd.C_drew ?_))); (case side4 => exact HC2.out); rintro e w' ⟨rfl, ⟨nd, rfl⟩⟩; obtain ⟨Ao79, co79, eo79⟩ := Kd.R_slice HO394.out; subst eo79) | (go_at_call 13; (with_reducible refine (glossatorref22_Same.calls kj21 _ _ t391 _ _ t383 t396 _ ?side1 ?side2 ?side3 ?side4 A73.out).mono ?_); (case side1 => repeat (first | exact (Kd.R_reads' HO394.out).2.2 | (with_reducible refine Kd.C_alloc ?_ _) | (with_reducible refine Kd.C_drewN ?_ _) | (with_reducible refine Kd.C_drew ?_))); (case side2 => exact (Kd.R_reads' HO394.out).2.1); (case side3 => repeat (first | exact (Kd.R_reads' HO386.out).2.2 | (with_reducible refine Kd.C_alloc ?_ _) | (with_reducible refine Kd.C_drewN ?_ _) | (with_reducible refine Kd.C_drew ?_))); (case side4 => exact (Kd.R_reads' HO386.out).2.1); rintro e w' ⟨rfl, ⟨nd, rfl⟩⟩))
          go_ret
          exact ⟨by first | rfl | (simp [errW_none, errW_some] <;> rfl) | (simp [*, errW_none, errW_some] <;> rfl), bl HB⟩
         ·rw [if_neg c72] at H; have c72b0 : (t392 == 0) = false := beq_eq_false_iff_ne.mpr c72; have c72b1 : (t392 != 0) = true := bne_iff_ne.mpr c72; obtain rfl := Option.some.inj H; go_wp2_with (first | ((with_reducible refine gate_callee (f := 14) rfl ?_); refine goesL_ (some 110) rfl rfl Tryd.func14 (by kernel_rfl) rfl #[.string a0, .slice A2 l2.length c2] rfl (by (try simp only [List.map_toArray, List.map_cons, List.map_nil]); first | done | rfl | (simp only [List.length_drop, List.length_take]; rfl)) ?_; (with_reducible refine (five_Decode.calls kj21 a0 _ _ l2 t383 t384 _ ?side1 ?side2 (by first | exact HG.out | exact GlobOk.below HG.out (bl HB)) A65.out).mono ?_); (case side1 => repeat (first | exact (Kd.C_below HR2.out HB.out) | (with_reducible refine Kd.C_alloc ?_ _) | (with_reducible refine Kd.C_drewN ?_ _) | (with_reducible refine Kd.C_drew ?_))); (case side2 => exact HC2.out); rintro e w80 ⟨v385, rfl, ho0, hb⟩; refine ⟨_, rfl, ?_⟩; have n0_ := Aside0.mk (Kd.R_lower ho0 (below_size (bl HB))); have n1_ := Aside0.mk (below_step (bl HB) hb); clear HB; have HO386 := n0_; have HB := n1_; clear n0_ n1_; (try clear hb); (try clear hb2); (try clear hk); (try clear hi); (try clear ho0); obtain ⟨Ao81, co81, eo81⟩ := Kd.R_slice HO386.out; subst eo81) | ((with_reducible refine gate_callee (f := 10) rfl ?_); refine goesL_ (some 125) rfl rfl Tryd.func10 (by kernel_rfl) rfl #[.string a0, .slice Ao81 t383.length co81] rfl (by (try simp only [List.map_toArray, List.map_cons, List.map_nil]); first | done | rfl | (simp only [List.length_drop, List.length_take]; rfl)) ?_; (with_reducible refine (five_Encode.calls kj21 a0 _ _ t383 t387 t388 _ ?side1 ?side2 (by first | exact HG.out | exact GlobOk.below HG.out (bl HB)) A67.out).mono ?_); (case side1 => repeat (first | exact (Kd.R_reads' HO386.out).2.2 | (with_reducible refine Kd.C_alloc ?_ _) | (with_reducible refine Kd.C_drewN ?_ _) | (with_reducible refine Kd.C_drew ?_))); (case side2 => exact (Kd.R_reads' HO386.out).2.1); rintro e w82 ⟨v389, rfl, ho0, hb⟩; refine ⟨_, rfl, ?_⟩; have n0_ := Aside0.mk (Kd.R_below (rl HO386) hb); have n1_ := Aside0.mk (Kd.R_lower ho0 (below_size (bl HB))); have n2_ := Aside0.mk (below_step (bl HB) hb); clear HO386; clear HB; have HO386 := n0_; have HO390 := n1_; have HB := n2_; clear n0_ n1_ n2_; (try clear hb); (try clear hb2); (try clear hk); (try clear hi); (try clear ho0)) | ((with_reducible refine gate_callee (f := 11) rfl ?_); refine goesL_ (some 131) rfl rfl Tryd.func11 (by kernel_rfl) rfl #[.string a0, .slice Ao81 t383.length co81] rfl (by (try simp only [List.map_toArray, List.map_cons, List.map_nil]); first | done | rfl | (simp only [List.length_drop, List.length_take]; rfl)) ?_; (with_reducible refine (five_Pieces.calls kj21 a0 _ _ t383 t391 t392 _ ?side1 ?side2 (by first | exact HG.out | exact GlobOk.below HG.out (bl HB)) A68.out).mono ?_); (case side1 => repeat (first | exact (Kd.R_reads' HO386.out).2.2 | (with_reducible refine Kd.C_alloc ?_ _) | (with_reducible refine Kd.C_drewN ?_ _) | (with_reducible refine Kd.C_drew ?_))); (case side2 => exact (Kd.R_reads' HO386.out).2.1); rintro e w83 ⟨v393, rfl, ho0, hb⟩; refine ⟨_, rfl, ?_⟩; have n0_ := Aside0.mk (Kd.R_elder' (rl HO386) (Kd.R_base ho0) hb); have n1_ := Aside0.mk (Kd.R_below (rl HO390) hb); have n2_ := Aside0.mk (Kd.R_lower (Kd.R_new' ho0 (Kd.R_lt (rl HO386))) (below_size (bl HB))); have n3_ := Aside0.mk (below_step (bl HB) hb); clear HO386; clear HO390; clear HB; have HO386 := n0_; have HO390 := n1_; have HO394 := n2_; have HB := n3_; clear n0_ n1_ n2_ n3_; (try clear hb); (try clear hb2); (try clear hk); (try clear hi); (try clear ho0); obtain ⟨Ao84, co84, eo84⟩ := Kd.R_slice HO390.out; subst eo84) | (go_at_call 12; (with_reducible refine (glossatorref23_Same.calls kj21 _ _ t387 _ _ l2 true _ ?side1 ?side2 ?side3 ?side4 A70.out).mono ?_); (case side1 => repeat (first | exact (Kd.R_reads' HO390.out).2.2 | (with_reducible refine Kd.C_alloc ?_ _) | (with_reducible refine Kd.C_drewN ?_ _) | (with_reducible refine Kd.C_drew ?_))); (case side2 => exact (Kd.R_reads' HO390.out).2.1); (case side3 => repeat (first | exact (Kd.C_below HR2.out HB.out) | (with_reducible refine Kd.C_alloc ?_ _) | (with_reducible refine Kd.C_drewN ?_ _) | (with_reducible refine Kd.C_drew ?_))); (case side4 => exact HC2.out); rintro e w' ⟨rfl, ⟨nd, rfl⟩⟩))
          go_ret
          exact ⟨by first | rfl | (simp [errW_none, errW_some] <;> rfl) | (simp [*, errW_none, errW_some] <;> rfl), bl HB⟩
/-- THE ONE PURE STATEMENT of glossatorlaw23_FiveBack. -/
def glossatorlaw23_FiveBack.Pure : Prop := ∀ (p0 : ByteArray) (p1 : List (S38)) (p2 : List Int), p0.size ≤ 140737488351232 → (p1.length ≤ maxLen ∧ p1.length * 32 ≤ 140737488351232 ∧ (∀ x ∈ p1, (fun x : S38 => Wf38 x) x)) → (p2.length ≤ maxLen ∧ p2.length * 8 ≤ 140737488351232 ∧ (∀ x ∈ p2, (fun x : Int => (Lit.int .i64 x).wf = true) x)) → ∃ k, glossatorlaw23_FiveBack.f k p0 p1 p2 = some true
end Go.Proofs.YtbjhmknahldhaaaDoor.Q

end
section
namespace Go.Proofs.YtbjhmknahldhaaaDoor.Pure
open Go Go.RowKit Go.Proofs.YtbjhmknahldhaaaDoor.Q Go.Proofs.YtbjhmknahldhaaaDoorW.PrintWords Go.Proofs.YtbjhmknahldhaaaDoorW.PrintLast Go.Proofs.YtbjhmknahldhaaaDoorW.PrintMore Go.Proofs.YtbjhmknahldhaaaDoor.XEv Go.Proofs.YtbjhmknahldhaaaDoor.XFive
set_option linter.unusedVariables false
set_option linter.unusedSimpArgs false
theorem fk_len5 (s : ByteArray) (l : List Mk) : (enc s l).length = 5 * (pcs s l).length := by unfold enc; rw [flat_len, fvs_len]
theorem fk_j2 (s : ByteArray) (hs : s.size ≤ 5000) (D : List Int) (hD : D.length ≤ 5000) : Ev (fun k => glossatorlaw23_FiveBack.j2 k s D) true := by
  refine up ?_
  simp only [glossatorlaw23_FiveBack.j2]
  by_cases hex : ∃ l, Dc s D l
  case neg =>
    have c : ¬ (230 : Int) = 0 := by omega
    refine bind (decode_none s (by omega) D (by omega) hex) ?_
    simp only [if_neg c, if_true]
    exact now fun _ => rfl
  obtain ⟨m, hd⟩ := hex
  have hl := hd.len
  have hr := rgt_of_row hd.row.row
  have hp := pcs_self hd.row
  refine bind (decode_some s (by omega) D (by omega) m hd) ?_
  simp only [if_true]
  refine bind (encode s (by omega) m (by omega)) ?_
  refine bind (pieces s (by omega) m (by omega)) ?_
  have he : enc s m = D := by unfold enc; rw [hp]; exact hd.nums
  simp only [if_pos hr, if_true, he, hp]
  refine bind (same23 D (by omega)) ?_
  simp only [if_true]
  exact bind (same22 m (by omega)) (now fun _ => rfl)
theorem FiveBack : glossatorlaw23_FiveBack.Pure := by
  intro s l D hsz hl hD
  refine Ev.rounds (g := fun k => glossatorlaw23_FiveBack.f k s l D) ?_
  simp only [glossatorlaw23_FiveBack.f]
  have stop : Ev (fun k => glossatorlaw23_FiveBack.j0 k s l D true) true := by
    refine up ?_
    simp only [glossatorlaw23_FiveBack.j0, if_true]
    exact now fun _ => rfl
  refine bind awake ?_
  simp only [if_true]
  by_cases h : (s.size : Int) > 5000
  · simp only [if_pos h]; exact stop
  simp only [if_neg h]
  by_cases h2 : (l.length : Int) > 1000
  · simp only [if_pos h2]; exact stop
  simp only [if_neg h2]
  by_cases h3 : (D.length : Int) > 5000
  · simp only [decide_eq_true h3]; exact stop
  simp only [decide_eq_false h3]
  have j2 := fk_j2 s (by omega) D (by omega)
  refine up ?_
  simp only [glossatorlaw23_FiveBack.j0, Bool.false_eq_true, if_false]
  refine bind (encode s (by omega) l (by omega)) ?_
  refine bind (pieces s (by omega) l (by omega)) ?_
  by_cases hr : rgt s 0 l = true
  case neg =>
    have c : ¬ (230 : Int) = 0 := by omega
    have w0 : decide (wrap64 ((([] : List Int).length : Int) + (([] : List Mk).length : Int)) > 0) = false := decide_eq_false (by unfold wrap64; simp)
    simp only [if_neg hr, if_true, if_neg c, w0]
    refine up ?_
    simp only [glossatorlaw23_FiveBack.j1, Bool.false_eq_true, if_false, if_neg c]
    exact j2
  have hrow := pcs_row (row_of_rgt s l 0 (by omega) hr)
  have hpl := hrow.len (by omega)
  have hlen := fk_len5 s l
  have hd : Dc s (enc s l) (pcs s l) := ⟨hrow, rfl⟩
  simp only [if_pos hr, if_true]
  refine up ?_
  simp only [glossatorlaw23_FiveBack.j1, Bool.false_eq_true, if_false, if_true]
  refine bind (decode_some s (by omega) _ (by omega) _ hd) ?_
  have hp := pieces s (by omega) (pcs s l) (by omega)
  rw [if_pos (rgt_of_row hrow.row), pcs_self hrow] at hp
  refine bind hp ?_
  simp only [if_true]
  refine bind (same22 _ (by omega)) ?_
  simp only [if_true]
  refine bind (same22 _ (by omega)) ?_
  have c5 : ((enc s l).length : Int) = wrap64 (5 * ((pcs s l).length : Int)) := by
    rw [hlen, w64 (by omega) (by omega)]; omega
  simp only [if_true, if_pos c5]
  exact j2
end Go.Proofs.YtbjhmknahldhaaaDoor.Pure

end
