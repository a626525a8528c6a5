/- Words and walks of this claim, put together by this repo's wip/xlink.py out of Q16, PureFiveWhole. -/
import Derived.Test.YtbjhmknahldhaaaDoorL1
import Derived.Test.YtbjhmknahldhaaaDoorL2
import Derived.Test.YtbjhmknahldhaaaDoorL8
section
namespace Go.Proofs.YtbjhmknahldhaaaDoor.Q
open Go.RowKit Go.Proofs.YtbjhmknahldhaaaDoorW.PrintWords Go.Proofs.YtbjhmknahldhaaaDoorW.PrintLast Go.Proofs.YtbjhmknahldhaaaDoorW.PrintMore
attribute [local go_sem] max2_int min2_int max_two min_two max_three min_three max_four min_four   
set_option linter.unusedVariables false
set_option linter.unusedSimpArgs false
mutual
def glossatorlaw23_FiveWhole.j0 : Nat → ByteArray → List (S38) → Bool → Option (Bool)
 | 0, _, _, _ => none
 | k + 1, x0, x1, x22 => if x22 = true then (some true) else ((five_Pieces.f k x0 x1).bind fun bt340 => (if bt340.2 = 0 then (if 0 ≤ (x0.size : Int) then (if ((x0.size : Int) : Int).toNat ≤ 35184372088832 then (glossatorlaw23_FiveWhole.l0 k x0 x1 bt340.1 (List.replicate ((x0.size : Int) : Int).toNat 0) (List.replicate ((x0.size : Int) : Int).toNat 0) 0) else (none)) else (none)) else (some (bt340.2 == 230))))
def glossatorlaw23_FiveWhole.l0 : Nat → ByteArray → List (S38) → List (S38) → List Int → List Int → Int → Option (Bool)
 | 0, _, _, _, _, _, _ => none
 | k + 1, x0, x1, x5, x7, x8, x9 => if x9 < (x1.length : Int) then (if 0 ≤ x9 then (glossatorlaw23_FiveWhole.l1 k x0 x1 x5 x7 x8 x9 ((rd_T38 x1 x9).f0.f0)) else (none)) else (glossatorlaw23_FiveWhole.l2 k x5 x7 x8 0)
def glossatorlaw23_FiveWhole.l1 : Nat → ByteArray → List (S38) → List (S38) → List Int → List Int → Int → Int → Option (Bool)
 | 0, _, _, _, _, _, _, _ => none
 | k + 1, x0, x1, x5, x7, x8, x9, x10 => if 0 ≤ x9 then (if x9 < (x1.length : Int) then (if x10 < ((rd_T38 x1 x9).f0.f1) then (if 0 ≤ x10 then (if x10 < (x0.size : Int) then (if (bt x0 x10) = 10 then (glossatorlaw23_FiveWhole.l1 k x0 x1 x5 x7 x8 x9 (wrap64 (x10 + 1))) else (if (bt x0 x10) = 13 then (glossatorlaw23_FiveWhole.l1 k x0 x1 x5 x7 x8 x9 (wrap64 (x10 + 1))) else (if x10 < (x7.length : Int) then (glossatorlaw23_FiveWhole.l1 k x0 x1 x5 (x7.set (x10 : Int).toNat (wrap64 ((wrap64 (1 + (Int.tmod ((rd_T38 x1 x9).f1) 1000))) + (wrap64 (1000 * (Int.tmod ((rd_T38 x1 x9).f2) 1000)))))) x8 x9 (wrap64 (x10 + 1))) else (none)))) else (none)) else (none)) else (glossatorlaw23_FiveWhole.l0 k x0 x1 x5 x7 x8 (wrap64 (x9 + 1)))) else (none)) else (none)
def glossatorlaw23_FiveWhole.l2 : Nat → List (S38) → List Int → List Int → Int → Option (Bool)
 | 0, _, _, _, _ => none
 | k + 1, x5, x7, x8, x11 => if x11 < (x5.length : Int) then (if 0 ≤ x11 then (if ((rd_T38 x5 x11).f0.f0) ≥ ((rd_T38 x5 x11).f0.f1) then (some false) else (glossatorlaw23_FiveWhole.l3 k x5 x7 x8 x11 ((rd_T38 x5 x11).f0.f0))) else (none)) else ((glossatorref23_Same.f k x7 x8).bind fun t355 => (some t355))
def glossatorlaw23_FiveWhole.l3 : Nat → List (S38) → List Int → List Int → Int → Int → Option (Bool)
 | 0, _, _, _, _, _ => none
 | k + 1, x5, x7, x8, x11, x12 => if 0 ≤ x11 then (if x11 < (x5.length : Int) then (if x12 < ((rd_T38 x5 x11).f0.f1) then (if 0 ≤ x12 then (if x12 < (x8.length : Int) then (if (rd x8 x12) = 0 then (glossatorlaw23_FiveWhole.l3 k x5 x7 (x8.set (x12 : Int).toNat (wrap64 ((wrap64 (1 + (Int.tmod ((rd_T38 x5 x11).f1) 1000))) + (wrap64 (1000 * (Int.tmod ((rd_T38 x5 x11).f2) 1000)))))) x11 (wrap64 (x12 + 1))) else (some false)) else (none)) else (none)) else (glossatorlaw23_FiveWhole.l2 k x5 x7 x8 (wrap64 (x11 + 1)))) else (none)) else (none)
end
def glossatorlaw23_FiveWhole.f (k : Nat) (a0 : ByteArray) (l1 : List (S38)) : Option (Bool) := (glossatorlaw23_awake.f k).bind fun t339 => (if t339 = true then (if (a0.size : Int) > 5000 then (glossatorlaw23_FiveWhole.j0 k a0 l1 true) else (glossatorlaw23_FiveWhole.j0 k a0 l1 (decide ((l1.length : Int) > 1000)))) else (some false))
theorem glossatorlaw23_FiveWhole.mono_l : ∀ k, (∀ y0 y1 y2, LeO (glossatorlaw23_FiveWhole.j0 k y0 y1 y2) (glossatorlaw23_FiveWhole.j0 (k + 1) y0 y1 y2)) ∧ (∀ y0 y1 y2 y3 y4 y5, LeO (glossatorlaw23_FiveWhole.l0 k y0 y1 y2 y3 y4 y5) (glossatorlaw23_FiveWhole.l0 (k + 1) y0 y1 y2 y3 y4 y5)) ∧ (∀ y0 y1 y2 y3 y4 y5 y6, LeO (glossatorlaw23_FiveWhole.l1 k y0 y1 y2 y3 y4 y5 y6) (glossatorlaw23_FiveWhole.l1 (k + 1) y0 y1 y2 y3 y4 y5 y6)) ∧ (∀ y0 y1 y2 y3, LeO (glossatorlaw23_FiveWhole.l2 k y0 y1 y2 y3) (glossatorlaw23_FiveWhole.l2 (k + 1) y0 y1 y2 y3)) ∧ (∀ y0 y1 y2 y3 y4, LeO (glossatorlaw23_FiveWhole.l3 k y0 y1 y2 y3 y4) (glossatorlaw23_FiveWhole.l3 (k + 1) y0 y1 y2 y3 y4))
 | 0 => ⟨fun _ _ _ r h => by simp [glossatorlaw23_FiveWhole.j0] at h, fun _ _ _ _ _ _ r h => by simp [glossatorlaw23_FiveWhole.l0] at h, fun _ _ _ _ _ _ _ r h => by simp [glossatorlaw23_FiveWhole.l1] at h, fun _ _ _ _ r h => by simp [glossatorlaw23_FiveWhole.l2] at h, fun _ _ _ _ _ r h => by simp [glossatorlaw23_FiveWhole.l3] at h⟩
 | k + 1 => by
  obtain ⟨ih0, ih1, ih2, ih3, ih4⟩ := glossatorlaw23_FiveWhole.mono_l k
  refine ⟨?_, ?_, ?_, ?_, ?_⟩
  ·intro y0 y1 y2
   unfold glossatorlaw23_FiveWhole.j0
   repeat' first
   | (with_reducible exact ih0 _ _ _)
   | (with_reducible exact ih1 _ _ _ _ _ _)
   | (with_reducible exact ih2 _ _ _ _ _ _ _)
   | (with_reducible exact ih3 _ _ _ _)
   | (with_reducible exact ih4 _ _ _ _ _)
   | (with_reducible exact five_Pieces.mono _ _ _)
   | (with_reducible exact glossatorlaw23_awake.mono _)
   | (with_reducible exact glossatorref23_Same.mono _ _ _)
   | (with_reducible exact LeO.refl _)
   | (with_reducible exact LeO.none _)
   | (with_reducible refine LeO.ite ?_ ?_)
   | (with_reducible refine LeO.bind ?_ (fun _ => ?_))
   | exact ih0 _ _ _
   | exact ih1 _ _ _ _ _ _
   | exact ih2 _ _ _ _ _ _ _
   | exact ih3 _ _ _ _
   | exact ih4 _ _ _ _ _
   | exact five_Pieces.mono _ _ _
   | exact glossatorlaw23_awake.mono _
   | exact glossatorref23_Same.mono _ _ _
   | exact LeO.none _
   | refine LeO.ite ?_ ?_
   | refine LeO.bind ?_ (fun _ => ?_)
  ·intro y0 y1 y2 y3 y4 y5
   unfold glossatorlaw23_FiveWhole.l0
   repeat' first
   | (with_reducible exact ih0 _ _ _)
   | (with_reducible exact ih1 _ _ _ _ _ _)
   | (with_reducible exact ih2 _ _ _ _ _ _ _)
   | (with_reducible exact ih3 _ _ _ _)
   | (with_reducible exact ih4 _ _ _ _ _)
   | (with_reducible exact five_Pieces.mono _ _ _)
   | (with_reducible exact glossatorlaw23_awake.mono _)
   | (with_reducible exact glossatorref23_Same.mono _ _ _)
   | (with_reducible exact LeO.refl _)
   | (with_reducible exact LeO.none _)
   | (with_reducible refine LeO.ite ?_ ?_)
   | (with_reducible refine LeO.bind ?_ (fun _ => ?_))
   | exact ih0 _ _ _
   | exact ih1 _ _ _ _ _ _
   | exact ih2 _ _ _ _ _ _ _
   | exact ih3 _ _ _ _
   | exact ih4 _ _ _ _ _
   | exact five_Pieces.mono _ _ _
   | exact glossatorlaw23_awake.mono _
   | exact glossatorref23_Same.mono _ _ _
   | exact LeO.none _
   | refine LeO.ite ?_ ?_
   | refine LeO.bind ?_ (fun _ => ?_)
  ·intro y0 y1 y2 y3 y4 y5 y6
   unfold glossatorlaw23_FiveWhole.l1
   repeat' first
   | (with_reducible exact ih0 _ _ _)
   | (with_reducible exact ih1 _ _ _ _ _ _)
   | (with_reducible exact ih2 _ _ _ _ _ _ _)
   | (with_reducible exact ih3 _ _ _ _)
   | (with_reducible exact ih4 _ _ _ _ _)
   | (with_reducible exact five_Pieces.mono _ _ _)
   | (with_reducible exact glossatorlaw23_awake.mono _)
   | (with_reducible exact glossatorref23_Same.mono _ _ _)
   | (with_reducible exact LeO.refl _)
   | (with_reducible exact LeO.none _)
   | (with_reducible refine LeO.ite ?_ ?_)
   | (with_reducible refine LeO.bind ?_ (fun _ => ?_))
   | exact ih0 _ _ _
   | exact ih1 _ _ _ _ _ _
   | exact ih2 _ _ _ _ _ _ _
   | exact ih3 _ _ _ _
   | exact ih4 _ _ _ _ _
   | exact five_Pieces.mono _ _ _
   | exact glossatorlaw23_awake.mono _
   | exact glossatorref23_Same.mono _ _ _
   | exact LeO.none _
   | refine LeO.ite ?_ ?_
   | refine LeO.bind ?_ (fun _ => ?_)
  ·intro y0 y1 y2 y3
   unfold glossatorlaw23_FiveWhole.l2
   repeat' first
   | (with_reducible exact ih0 _ _ _)
   | (with_reducible exact ih1 _ _ _ _ _ _)
   | (with_reducible exact ih2 _ _ _ _ _ _ _)
   | (with_reducible exact ih3 _ _ _ _)
   | (with_reducible exact ih4 _ _ _ _ _)
   | (with_reducible exact five_Pieces.mono _ _ _)
   | (with_reducible exact glossatorlaw23_awake.mono _)
   | (with_reducible exact glossatorref23_Same.mono _ _ _)
   | (with_reducible exact LeO.refl _)
   | (with_reducible exact LeO.none _)
   | (with_reducible refine LeO.ite ?_ ?_)
   | (with_reducible refine LeO.bind ?_ (fun _ => ?_))
   | exact ih0 _ _ _
   | exact ih1 _ _ _ _ _ _
   | exact ih2 _ _ _ _ _ _ _
   | exact ih3 _ _ _ _
   | exact ih4 _ _ _ _ _
   | exact five_Pieces.mono _ _ _
   | exact glossatorlaw23_awake.mono _
   | exact glossatorref23_Same.mono _ _ _
   | exact LeO.none _
   | refine LeO.ite ?_ ?_
   | refine LeO.bind ?_ (fun _ => ?_)
  ·intro y0 y1 y2 y3 y4
   unfold glossatorlaw23_FiveWhole.l3
   repeat' first
   | (with_reducible exact ih0 _ _ _)
   | (with_reducible exact ih1 _ _ _ _ _ _)
   | (with_reducible exact ih2 _ _ _ _ _ _ _)
   | (with_reducible exact ih3 _ _ _ _)
   | (with_reducible exact ih4 _ _ _ _ _)
   | (with_reducible exact five_Pieces.mono _ _ _)
   | (with_reducible exact glossatorlaw23_awake.mono _)
   | (with_reducible exact glossatorref23_Same.mono _ _ _)
   | (with_reducible exact LeO.refl _)
   | (with_reducible exact LeO.none _)
   | (with_reducible refine LeO.ite ?_ ?_)
   | (with_reducible refine LeO.bind ?_ (fun _ => ?_))
   | exact ih0 _ _ _
   | exact ih1 _ _ _ _ _ _
   | exact ih2 _ _ _ _ _ _ _
   | exact ih3 _ _ _ _
   | exact ih4 _ _ _ _ _
   | exact five_Pieces.mono _ _ _
   | exact glossatorlaw23_awake.mono _
   | exact glossatorref23_Same.mono _ _ _
   | exact LeO.none _
   | refine LeO.ite ?_ ?_
   | refine LeO.bind ?_ (fun _ => ?_)
theorem glossatorlaw23_FiveWhole.mono : ∀ a0 a1 k, LeO (glossatorlaw23_FiveWhole.f k a0 a1) (glossatorlaw23_FiveWhole.f (k + 1) a0 a1) := by
 intro a0 a1 k
 obtain ⟨ih0, ih1, ih2, ih3, ih4⟩ := glossatorlaw23_FiveWhole.mono_l k
 unfold glossatorlaw23_FiveWhole.f
 repeat' first
   | (with_reducible exact ih0 _ _ _)
   | (with_reducible exact ih1 _ _ _ _ _ _)
   | (with_reducible exact ih2 _ _ _ _ _ _ _)
   | (with_reducible exact ih3 _ _ _ _)
   | (with_reducible exact ih4 _ _ _ _ _)
   | (with_reducible exact five_Pieces.mono _ _ _)
   | (with_reducible exact glossatorlaw23_awake.mono _)
   | (with_reducible exact glossatorref23_Same.mono _ _ _)
   | (with_reducible exact LeO.refl _)
   | (with_reducible exact LeO.none _)
   | (with_reducible refine LeO.ite ?_ ?_)
   | (with_reducible refine LeO.bind ?_ (fun _ => ?_))
   | exact ih0 _ _ _
   | exact ih1 _ _ _ _ _ _
   | exact ih2 _ _ _ _ _ _ _
   | exact ih3 _ _ _ _
   | exact ih4 _ _ _ _ _
   | exact five_Pieces.mono _ _ _
   | exact glossatorlaw23_awake.mono _
   | exact glossatorref23_Same.mono _ _ _
   | exact LeO.none _
   | refine LeO.ite ?_ ?_
   | refine LeO.bind ?_ (fun _ => ?_)
def glossatorlaw23_FiveWhole.T8 : Bool × List (List Nat × List Nat) := (true, [([], []), ([0], [0]), ([1, 1], [1]), ([], []), ([3], [3]), ([4, 4], [4]), ([2, 0, 1, 2], [2]), ([5, 6, 0, 1, 2, 3, 4, 5, 6], [5])])
def glossatorlaw23_FiveWhole.B8 : List Nat := [0, 1, 3, 0, 8, 24, 7, 127]
theorem glossatorlaw23_FiveWhole.tab8 : rtab .any (opsOf Tryd.f6 8) = glossatorlaw23_FiveWhole.T8 := by kernel_rfl
theorem glossatorlaw23_FiveWhole.bits8 : waitsOk glossatorlaw23_FiveWhole.T8.2 glossatorlaw23_FiveWhole.B8 = true := by kernel_rfl
def glossatorlaw23_FiveWhole.T16 : Bool × List (List Nat × List Nat) := (true, [([], []), ([], []), ([], []), ([], []), ([2, 3], [2, 3]), ([4], [4]), ([5], [5]), ([6], [6]), ([7], [7]), ([], []), ([], []), ([9, 10], [9, 10]), ([11], [11]), ([12], [12]), ([13], [13]), ([14], [14]), ([8, 15], [8, 15]), ([0, 1, 0, 1, 2, 3, 4, 5, 6, 7, 8, 9, 10, 11, 12, 13, 14, 15, 16], [0, 1]), ([17, 16, 0, 1, 2, 3, 4, 5, 6, 7, 8, 9, 10, 11, 12, 13, 14, 15, 16], [16, 17])])
def glossatorlaw23_FiveWhole.B16 : List Nat := [0, 0, 0, 0, 12, 28, 60, 124, 252, 0, 0, 1536, 3584, 7680, 15872, 32256, 65532, 131071, 262143]
theorem glossatorlaw23_FiveWhole.tab16 : rtab .any (opsOf Tryd.f6 16) = glossatorlaw23_FiveWhole.T16 := by kernel_rfl
theorem glossatorlaw23_FiveWhole.bits16 : waitsOk glossatorlaw23_FiveWhole.T16.2 glossatorlaw23_FiveWhole.B16 = true := by kernel_rfl
def glossatorlaw23_FiveWhole.T20 : Bool × List (List Nat × List Nat) := (true, [([], []), ([], []), ([0, 1], [0, 1]), ([2], [2]), ([3], [3]), ([4], [4]), ([], []), ([], []), ([6, 7], [6, 7]), ([8], [8]), ([9], [9]), ([10], [10]), ([5, 11], [5, 11])])
def glossatorlaw23_FiveWhole.B20 : List Nat := [0, 0, 3, 7, 15, 31, 0, 0, 192, 448, 960, 1984, 4095]
theorem glossatorlaw23_FiveWhole.tab20 : rtab .any (opsOf Tryd.f6 20) = glossatorlaw23_FiveWhole.T20 := by kernel_rfl
theorem glossatorlaw23_FiveWhole.bits20 : waitsOk glossatorlaw23_FiveWhole.T20.2 glossatorlaw23_FiveWhole.B20 = true := by kernel_rfl
def glossatorlaw23_FiveWhole.T27 : Bool × List (List Nat × List Nat) := (true, [([], []), ([], []), ([], []), ([], []), ([2, 3], [2, 3]), ([4], [4]), ([5], [5]), ([6], [6]), ([7], [7]), ([], []), ([], []), ([9, 10], [9, 10]), ([11], [11]), ([12], [12]), ([13], [13]), ([14], [14]), ([8, 15], [8, 15]), ([0, 1, 0, 1, 2, 3, 4, 5, 6, 7, 8, 9, 10, 11, 12, 13, 14, 15, 16], [0, 1]), ([17, 16, 0, 1, 2, 3, 4, 5, 6, 7, 8, 9, 10, 11, 12, 13, 14, 15, 16], [16, 17])])
def glossatorlaw23_FiveWhole.B27 : List Nat := [0, 0, 0, 0, 12, 28, 60, 124, 252, 0, 0, 1536, 3584, 7680, 15872, 32256, 65532, 131071, 262143]
theorem glossatorlaw23_FiveWhole.tab27 : rtab .any (opsOf Tryd.f6 27) = glossatorlaw23_FiveWhole.T27 := by kernel_rfl
theorem glossatorlaw23_FiveWhole.bits27 : waitsOk glossatorlaw23_FiveWhole.T27.2 glossatorlaw23_FiveWhole.B27 = true := by kernel_rfl
set_option maxHeartbeats 8000000 in
set_option maxRecDepth 100000 in
theorem glossatorlaw23_FiveWhole.calls (k : Nat) (a0 : ByteArray) (A1 : Option Addr) (c1 : Nat) (l1 : List (S38)) (r : Bool) (w : World) (hr1 : Kd.C k38 w A1 l1.length l1) (hc1 : l1.length ≤ c1) (hG : GlobOk w) (h : glossatorlaw23_FiveWhole.f k a0 l1 = some r) :
  Calls Tryd.prog 6 #[.string a0, .slice A1 l1.length c1] w fun e w' => e = .returned (.bool r) ∧ Below w.heap.size w w' := by
 have HG := Aside0.mk hG; clear hG; have HR1 := Aside0.mk hr1; have HC1 := Aside0.mk hc1; clear hr1 hc1; have HB := Aside0.mk (Below.refl w.heap.size w)
 have H : ((glossatorlaw23_awake.f k).bind fun t339 => (if t339 = true then (if (a0.size : Int) > 5000 then (glossatorlaw23_FiveWhole.j0 k a0 l1 true) else (glossatorlaw23_FiveWhole.j0 k a0 l1 (decide ((l1.length : Int) > 1000)))) else (some false))) = some r := h
 clear h; replace H := Option.bind_eq_some_iff.mp H
 obtain ⟨t339, A30, H⟩ := H
 replace H : (if t339 = true then (if (a0.size : Int) > 5000 then (glossatorlaw23_FiveWhole.j0 k a0 l1 true) else (glossatorlaw23_FiveWhole.j0 k a0 l1 (decide ((l1.length : Int) > 1000)))) else (some false)) = some r := H
 have A3 := Aside0.mk A30; clear A30; by_cases c4 : t339 = true
 rotate_left
 ·replace c4 := Bool.eq_false_iff.mpr c4
  subst c4; have H1 : (some false) = some r := by rw [if_neg (show ¬ (false = true) by decide)] at H; exact H
  clear H; have H := H1
  clear H1; obtain rfl := Option.some.inj H; go_enter Tryd.func6, Tryd.ntmps6
  go_wp2_with (first | ((with_reducible refine gate_callee (f := 16) rfl ?_); refine goesL_ (some 13) rfl rfl Tryd.func16 (by kernel_rfl) rfl #[] rfl (by (try simp only [List.map_toArray, List.map_cons, List.map_nil]); first | done | rfl | (simp only [List.length_drop, List.length_take]; rfl)) ?_; (with_reducible refine (glossatorlaw23_awake.calls k  false _ (by first | exact HG.out | exact GlobOk.below HG.out (bl HB)) A3.out).mono ?_); rintro e w58 ⟨rfl, hb⟩; refine ⟨_, rfl, ?_⟩; have n0_ := Aside0.mk (below_step (bl HB) hb); clear HB; have HB := n0_; clear n0_; (try clear hb); (try clear hb2); (try clear hk); (try clear hi)))
  go_ret
  exact ⟨by first | rfl | (simp [errW_none, errW_some] <;> rfl) | (simp [*, errW_none, errW_some] <;> rfl), bl HB⟩
 subst c4; have H1 : (if (a0.size : Int) > 5000 then (glossatorlaw23_FiveWhole.j0 k a0 l1 true) else (glossatorlaw23_FiveWhole.j0 k a0 l1 (decide ((l1.length : Int) > 1000)))) = some r := by rw [if_pos rfl] at H; exact H
 clear H; have H := H1
 clear H1; have HC5 := Aside0.mk H; clear H; go_enter Tryd.func6, Tryd.ntmps6
 go_upto_region 3 with (first | ((with_reducible refine gate_callee (f := 16) rfl ?_); refine goesL_ (some 13) rfl rfl Tryd.func16 (by kernel_rfl) rfl #[] rfl (by (try simp only [List.map_toArray, List.map_cons, List.map_nil]); first | done | rfl | (simp only [List.length_drop, List.length_take]; rfl)) ?_; (with_reducible refine (glossatorlaw23_awake.calls k  true _ (by first | exact HG.out | exact GlobOk.below HG.out (bl HB)) A3.out).mono ?_); rintro e w6 ⟨rfl, hb⟩; refine ⟨_, rfl, ?_⟩; have n0_ := Aside0.mk (below_step (bl HB) hb); clear HB; have HB := n0_; clear n0_; (try clear hb); (try clear hb2); (try clear hk); (try clear hi)))
 (try simp only [Act.put, List.setIfInBounds_toArray, List.set_cons_zero, List.set_cons_succ])
 go_cut [22] (fun v22 wc => ∃ (kq : Nat) (x22_4 : Bool), v22 = .bool x22_4 ∧ Aside0 (glossatorlaw23_FiveWhole.j0 kq a0 l1 x22_4 = some r) ∧ Aside0 (kq ≤ k) ∧ Aside0 (Below w.heap.size w wc))
 case first =>
  have H := HC5.out
  clear HC5; by_cases c7 : (a0.size : Int) > 5000
  ·rw [if_pos c7] at H; have c7b0 : decide (5000 < (a0.size : Int)) = true := decide_eq_true c7; have c7b1 : decide (5000 < a0.size) = true := decide_eq_true (by omega)
   have c7b2 : (5000 < a0.size) = True := eq_true (by omega)
   clear c7; (first | rw [c7b0] | rw [c7b1] | (simp only [i64_w, i32_w]; rw [c7b0]) | skip)
   have H' := Aside0.mk H; clear H; go_wp2
   go_meet
   case rel => exact ⟨_, (true), (by first | rfl | (simp; done) | (simp [*]; done) | (simp; exact xEmpty_ne _) | (simp [*]; exact xEmpty_ne _)), H', ⟨by first | omega | exact Nat.le_refl _⟩, ⟨bl HB⟩⟩
  ·rw [if_neg c7] at H; have c7b0 : decide (5000 < (a0.size : Int)) = false := decide_eq_false c7; have c7b1 : decide (5000 < a0.size) = false := decide_eq_false (by omega)
   have c7b2 : (5000 < a0.size) = False := eq_false (by omega)
   clear c7; (first | rw [c7b0] | rw [c7b1] | (simp only [i64_w, i32_w]; rw [c7b0]) | skip)
   have H' := Aside0.mk H; clear H; go_wp2
   go_meet
   case rel => exact ⟨_, (decide ((l1.length : Int) > 1000)), (by first | rfl | (simp; done) | (simp [*]; done) | (simp; exact xEmpty_ne _) | (simp [*]; exact xEmpty_ne _)), H', ⟨by first | omega | exact Nat.le_refl _⟩, ⟨bl HB⟩⟩
 case rest =>
  clear HC5; (try clear c1); (try clear p2); (try clear c4); (try clear c6); (try clear c7); (try clear c7b0); (try clear c7b1); (try clear c7b2); obtain ⟨kq, x22_4, rfl, HA, HJ4, HB⟩ := hcut
  cases kq with
  | zero => exact absurd HA.out (by simp [glossatorlaw23_FiveWhole.j0])
  | succ kj4 =>
   have H := HA.out
   clear HA; simp only [glossatorlaw23_FiveWhole.j0] at H
   by_cases c8 : x22_4 = true
   ·subst c8; have H1 : (some true) = some r := by rw [if_pos rfl] at H; exact H
    clear H; have H := H1
    clear H1; obtain rfl := Option.some.inj H; go_wp2
    go_ret
    exact ⟨by first | rfl | (simp [errW_none, errW_some] <;> rfl) | (simp [*, errW_none, errW_some] <;> rfl), bl HB⟩
   ·replace c8 := Bool.eq_false_iff.mpr c8
    subst c8; have H1 : ((five_Pieces.f kj4 a0 l1).bind fun bt340 => (if bt340.2 = 0 then (if 0 ≤ (a0.size : Int) then (if ((a0.size : Int) : Int).toNat ≤ 35184372088832 then (glossatorlaw23_FiveWhole.l0 kj4 a0 l1 bt340.1 (List.replicate ((a0.size : Int) : Int).toNat 0) (List.replicate ((a0.size : Int) : Int).toNat 0) 0) else (none)) else (none)) else (some (bt340.2 == 230)))) = some r := by rw [if_neg (show ¬ (false = true) by decide)] at H; exact H
    clear H; have H := H1
    clear H1; replace H := Option.bind_eq_some_iff.mp H
    obtain ⟨⟨t340, t341⟩, A90, H⟩ := H
    replace H : (if t341 = 0 then (if 0 ≤ (a0.size : Int) then (if ((a0.size : Int) : Int).toNat ≤ 35184372088832 then (glossatorlaw23_FiveWhole.l0 kj4 a0 l1 t340 (List.replicate ((a0.size : Int) : Int).toNat 0) (List.replicate ((a0.size : Int) : Int).toNat 0) 0) else (none)) else (none)) else (some (t341 == 230))) = some r := H
    have A9 := Aside0.mk A90; clear A90; by_cases c10 : t341 = 0
    rotate_left
    ·rw [if_neg c10] at H; have c10b0 : (t341 == 0) = false := beq_eq_false_iff_ne.mpr c10; have c10b1 : (t341 != 0) = true := bne_iff_ne.mpr c10; obtain rfl := Option.some.inj H; go_wp2_with (first | ((with_reducible refine gate_callee (f := 11) rfl ?_); refine goesL_ (some 26) rfl rfl Tryd.func11 (by kernel_rfl) rfl #[.string a0, .slice A1 l1.length c1] rfl (by (try simp only [List.map_toArray, List.map_cons, List.map_nil]); first | done | rfl | (simp only [List.length_drop, List.length_take]; rfl)) ?_; (with_reducible refine (five_Pieces.calls kj4 a0 _ _ l1 t340 t341 _ ?side1 ?side2 (by first | exact HG.out | exact GlobOk.below HG.out (bl HB)) A9.out).mono ?_); (case side1 => repeat (first | exact (Kd.C_below HR1.out HB.out) | (with_reducible refine Kd.C_alloc ?_ _) | (with_reducible refine Kd.C_drewN ?_ _) | (with_reducible refine Kd.C_drew ?_))); (case side2 => exact HC1.out); rintro e w57 ⟨v342, rfl, ho0, hb⟩; refine ⟨_, rfl, ?_⟩; have n0_ := Aside0.mk (Kd.R_lower ho0 (below_size (bl HB))); have n1_ := Aside0.mk (below_step (bl HB) hb); clear HB; have HO343 := n0_; have HB := n1_; clear n0_ n1_; (try clear hb); (try clear hb2); (try clear hk); (try clear hi); (try clear ho0)))
     go_ret
     exact ⟨by first | rfl | (simp [errW_none, errW_some] <;> rfl) | (simp [*, errW_none, errW_some] <;> rfl), bl HB⟩
    rw [if_pos c10] at H; have c10b0 : (t341 == 0) = true := beq_iff_eq.mpr c10
    have c10b1 : (t341 != 0) = false := bne_eq_false_iff_eq.mpr c10
    clear c10; by_cases c11 : 0 ≤ (a0.size : Int)
    rotate_left
    ·rw [if_neg c11] at H; exact absurd H (by simp)
    rw [if_pos c11] at H; have c11b0 := eq_true c11
    have c11b1 : decide (0 ≤ (a0.size : Int)) = true := decide_eq_true c11; clear c11; by_cases c12 : ((a0.size : Int) : Int).toNat ≤ 35184372088832
    rotate_left
    ·rw [if_neg c12] at H; exact absurd H (by simp)
    rw [if_pos c12] at H; have c12b0 := eq_true c12
    have c12b1 : decide (((a0.size : Int) : Int).toNat ≤ 35184372088832) = true := decide_eq_true c12; clear c12; obtain ⟨y344, hy344⟩ : ∃ y_ : List Int, y_ = (List.replicate ((a0.size : Int) : Int).toNat 0) := ⟨_, rfl⟩
    replace H : (glossatorlaw23_FiveWhole.l0 kj4 a0 l1 t340 y344 (List.replicate ((a0.size : Int) : Int).toNat 0) 0) = some r := by first | (rw [hy344]; with_reducible exact H) | (have H2_ := (Option.bind_some _ _).symm.trans H; rw [hy344]; with_reducible exact H2_) | (have H2_ := (Option.bind_some _ _).symm.trans H; with_reducible exact H2_) | with_reducible exact H | (rw [hy344]; exact H) | exact H
    have Ny344 := Aside0.mk hy344; clear hy344; obtain ⟨y347, hy347⟩ : ∃ y_ : List Int, y_ = (List.replicate ((a0.size : Int) : Int).toNat 0) := ⟨_, rfl⟩
    replace H : (glossatorlaw23_FiveWhole.l0 kj4 a0 l1 t340 y344 y347 0) = some r := by first | (rw [hy347]; with_reducible exact H) | (have H2_ := (Option.bind_some _ _).symm.trans H; rw [hy347]; with_reducible exact H2_) | (have H2_ := (Option.bind_some _ _).symm.trans H; with_reducible exact H2_) | with_reducible exact H | (rw [hy347]; exact H) | exact H
    have Ny347 := Aside0.mk hy347; clear hy347; have H' := Aside0.mk H; clear H; try go_wp2_with (first | ((with_reducible refine gate_callee (f := 11) rfl ?_); refine goesL_ (some 26) rfl rfl Tryd.func11 (by kernel_rfl) rfl #[.string a0, .slice A1 l1.length c1] rfl (by (try simp only [List.map_toArray, List.map_cons, List.map_nil]); first | done | rfl | (simp only [List.length_drop, List.length_take]; rfl)) ?_; (with_reducible refine (five_Pieces.calls kj4 a0 _ _ l1 t340 t341 _ ?side1 ?side2 (by first | exact HG.out | exact GlobOk.below HG.out (bl HB)) A9.out).mono ?_); (case side1 => repeat (first | exact (Kd.C_below HR1.out HB.out) | (with_reducible refine Kd.C_alloc ?_ _) | (with_reducible refine Kd.C_drewN ?_ _) | (with_reducible refine Kd.C_drew ?_))); (case side2 => exact HC1.out); rintro e w13 ⟨v342, rfl, ho0, hb⟩; refine ⟨_, rfl, ?_⟩; have n0_ := Aside0.mk (Kd.R_lower ho0 (below_size (bl HB))); have n1_ := Aside0.mk (below_step (bl HB) hb); clear HB; have HO343 := n0_; have HB := n1_; clear n0_ n1_; (try clear hb); (try clear hb2); (try clear hk); (try clear hi); (try clear ho0)))
    have n0_ := Aside0.mk (Kd.R_drew HO343.out); have n1_ := Aside0.mk (below_drew1 HB.out); clear HO343; clear HB; have HO343 := n0_; have HB := n1_; clear n0_ n1_; refine start_ (n := 8) (S := fun w' => True) (ds := []) (bz 8 0) (by kernel_rfl) rfl rfl trivial (fun hHeld => ?_); refine with_tabW glossatorlaw23_FiveWhole.tab8 glossatorlaw23_FiveWhole.bits8 (fun HT_ HW_ => ?_)
    generalize w13.drew = w14 at HO343 HB hHeld ⊢
    refine pu 0 (some 33) (bz 8 1) HT_ rfl rfl ?_; refine pu 1 (some 34) (bz 8 3) HT_ rfl rfl ?_; refine pu 3 (some 36) (bz 8 11) HT_ rfl rfl ?_; refine pu 4 (some 37) (bz 8 27) HT_ rfl rfl ?_; refine join_ (σ := Value × Value) 1 (bz 8 127) (fun s_ => [(35, s_.1), (38, s_.2), (7, s_.1)]) (fun s_ w' => (Kd.R k38 38 w' w.heap.size (fun _ => True) v342 t340) ∧ (Kd.R (Kd.int .i64) 3 w' w.heap.size (fun k_ => some k_ ≠ (s_.2 : Value).ownBlock) s_.1 y344) ∧ (Kd.R (Kd.int .i64) 3 w' w.heap.size (fun k_ => some k_ ≠ (s_.1 : Value).ownBlock) s_.2 y347) ∧ (Below w.heap.size w w')) ?_ ?_
    rotate_left
    ·intro hCont
     refine two_ (i := 2) (j := 5) (Ni := some 35) (Nj := some 38) (bz 8 31) (bz 8 59) rfl rfl rfl rfl (two_of HT_.out (by kernel_rfl)) (by decide) (by decide) (fun K hK => ?_) (fun K hK => ?_)
     ·skip
      refine Kd.R_make_step (Kd.int .i64) _ 3 (by rfl) (N := 35) rfl 23 _ _ rfl (a0.size : Int) rfl rfl Tryd.underlying23 (.int .i64 0) 8 info3 rfl (by decide) (by omega) 0 (ok := fun _ => True) (okp := fun _ => True) rfl (fun _ hk => hk) trivial (of_decide_eq_true (by first | (with_reducible assumption) | assumption)) (Nat.le_trans (Nat.mul_le_mul_right _ (of_decide_eq_true (by first | (with_reducible assumption) | assumption) : (a0.size : Int).toNat ≤ 35184372088832)) (by omega)) (Below.refl _ _) (Nat.le_refl _) ?_
      intro v345 w15 ho16 hb hg_ hnew_
      clear hg_ hnew_; (first | rw [← Ny344.out] at ho16 | (simp only [Int.reduceToNat] at ho16; rw [← Ny344.out] at ho16))
      have n0_ := Aside0.mk (Kd.R_below (rl HO343) hb); have n1_ := Aside0.mk (Kd.R_lower ho16 (below_size (bl HB))); have n2_ := Aside0.mk (below_step (bl HB) hb); clear HO343; clear HB; have HO343 := n0_; have HO346 := n1_; have HB := n2_; clear n0_ n1_ n2_; clear hb ho16; refine hK.out _ _ trivial (fun hHeld => ?_)
      clear hK K; refine norm_ (a' := ?_) ?_ ?_
      rotate_left
      ·show Act.put _ (some 35) _ = _
       simp only [Act.put, List.setIfInBounds_toArray, List.set_cons_zero, List.set_cons_succ, i64_w, i32_w]
       rfl
      refine pu 6 (some 7) (bz 8 95) HT_ rfl rfl ?_; refine one_ (i := 5) (N := some 38) (bz 8 127) rfl rfl (one_of HT_.out (by kernel_rfl)) (by decide) (fun K hK => ?_)
      refine Kd.R_make_step (Kd.int .i64) _ 3 (by rfl) (N := 38) rfl 23 _ _ rfl (a0.size : Int) rfl rfl Tryd.underlying23 (.int .i64 0) 8 info3 rfl (by decide) (by omega) 0 (ok := fun _ => True) (okp := fun _ => True) rfl (fun _ hk => hk) trivial (of_decide_eq_true (by first | (with_reducible assumption) | assumption)) (Nat.le_trans (Nat.mul_le_mul_right _ (of_decide_eq_true (by first | (with_reducible assumption) | assumption) : (a0.size : Int).toNat ≤ 35184372088832)) (by omega)) (Below.refl _ _) (Nat.le_refl _) ?_
      intro v348 w17 ho18 hb hg_ hnew_
      clear hg_ hnew_; (first | rw [← Ny347.out] at ho18 | (simp only [Int.reduceToNat] at ho18; rw [← Ny347.out] at ho18))
      have n0_ := Aside0.mk (Kd.R_below (rl HO343) hb); have n1_ := Aside0.mk (Kd.R_elder' (rl HO346) (Kd.R_base ho18) hb); have n2_ := Aside0.mk (Kd.R_lower (Kd.R_new' ho18 (Kd.R_lt (rl HO346))) (below_size (bl HB))); have n3_ := Aside0.mk (below_step (bl HB) hb); clear HO343; clear HO346; clear HB; have HO343 := n0_; have HO346 := n1_; have HO349 := n2_; have HB := n3_; clear n0_ n1_ n2_ n3_; clear hb ho18; refine hK.out _ _ trivial (fun hHeld => ?_)
      clear hK K; refine norm_ (a' := ?_) ?_ ?_
      rotate_left
      ·show Act.put _ (some 38) _ = _
       simp only [Act.put, List.setIfInBounds_toArray, List.set_cons_zero, List.set_cons_succ, i64_w, i32_w]
       rfl
      exact norm_ (by simp only [putAll, Act.put, List.setIfInBounds_toArray, List.set_cons_zero, List.set_cons_succ]) (hCont (v345, v348) _ ⟨(rl HO343), (by (with_reducible repeat (first | apply Kd.R_alloc | apply Kd.R_drewN | apply Kd.R_drew)); exact Kd.R_mono HO346.out (fun _ hk => hk.2)), (by (with_reducible repeat (first | apply Kd.R_alloc | apply Kd.R_drewN | apply Kd.R_drew)); exact Kd.R_mono HO349.out (fun _ hk => hk.2)), (bl HB)⟩)
     ·skip
      refine Kd.R_make_step (Kd.int .i64) _ 3 (by rfl) (N := 38) rfl 23 _ _ rfl (a0.size : Int) rfl rfl Tryd.underlying23 (.int .i64 0) 8 info3 rfl (by decide) (by omega) 0 (ok := fun _ => True) (okp := fun _ => True) rfl (fun _ hk => hk) trivial (of_decide_eq_true (by first | (with_reducible assumption) | assumption)) (Nat.le_trans (Nat.mul_le_mul_right _ (of_decide_eq_true (by first | (with_reducible assumption) | assumption) : (a0.size : Int).toNat ≤ 35184372088832)) (by omega)) (Below.refl _ _) (Nat.le_refl _) ?_
      intro v348 w15 ho16 hb hg_ hnew_
      clear hg_ hnew_; (first | rw [← Ny347.out] at ho16 | (simp only [Int.reduceToNat] at ho16; rw [← Ny347.out] at ho16))
      have n0_ := Aside0.mk (Kd.R_below (rl HO343) hb); have n1_ := Aside0.mk (Kd.R_lower ho16 (below_size (bl HB))); have n2_ := Aside0.mk (below_step (bl HB) hb); clear HO343; clear HB; have HO343 := n0_; have HO349 := n1_; have HB := n2_; clear n0_ n1_ n2_; clear hb ho16; refine hK.out _ _ trivial (fun hHeld => ?_)
      clear hK K; refine norm_ (a' := ?_) ?_ ?_
      rotate_left
      ·show Act.put _ (some 38) _ = _
       simp only [Act.put, List.setIfInBounds_toArray, List.set_cons_zero, List.set_cons_succ, i64_w, i32_w]
       rfl
      refine one_ (i := 2) (N := some 35) (bz 8 63) rfl rfl (one_of HT_.out (by kernel_rfl)) (by decide) (fun K hK => ?_)
      refine Kd.R_make_step (Kd.int .i64) _ 3 (by rfl) (N := 35) rfl 23 _ _ rfl (a0.size : Int) rfl rfl Tryd.underlying23 (.int .i64 0) 8 info3 rfl (by decide) (by omega) 0 (ok := fun _ => True) (okp := fun _ => True) rfl (fun _ hk => hk) trivial (of_decide_eq_true (by first | (with_reducible assumption) | assumption)) (Nat.le_trans (Nat.mul_le_mul_right _ (of_decide_eq_true (by first | (with_reducible assumption) | assumption) : (a0.size : Int).toNat ≤ 35184372088832)) (by omega)) (Below.refl _ _) (Nat.le_refl _) ?_
      intro v345 w17 ho18 hb hg_ hnew_
      clear hg_ hnew_; (first | rw [← Ny344.out] at ho18 | (simp only [Int.reduceToNat] at ho18; rw [← Ny344.out] at ho18))
      have n0_ := Aside0.mk (Kd.R_below (rl HO343) hb); have n1_ := Aside0.mk (Kd.R_elder' (rl HO349) (Kd.R_base ho18) hb); have n2_ := Aside0.mk (Kd.R_lower (Kd.R_new' ho18 (Kd.R_lt (rl HO349))) (below_size (bl HB))); have n3_ := Aside0.mk (below_step (bl HB) hb); clear HO343; clear HO349; clear HB; have HO343 := n0_; have HO349 := n1_; have HO346 := n2_; have HB := n3_; clear n0_ n1_ n2_ n3_; clear hb ho18; refine hK.out _ _ trivial (fun hHeld => ?_)
      clear hK K; refine norm_ (a' := ?_) ?_ ?_
      rotate_left
      ·show Act.put _ (some 35) _ = _
       simp only [Act.put, List.setIfInBounds_toArray, List.set_cons_zero, List.set_cons_succ, i64_w, i32_w]
       rfl
      refine pu 6 (some 7) (bz 8 127) HT_ rfl rfl ?_; exact norm_ (by simp only [putAll, Act.put, List.setIfInBounds_toArray, List.set_cons_zero, List.set_cons_succ]) (hCont (v345, v348) _ ⟨(rl HO343), (by (with_reducible repeat (first | apply Kd.R_alloc | apply Kd.R_drewN | apply Kd.R_drew)); exact Kd.R_mono HO346.out (fun _ hk => hk.2)), (by (with_reducible repeat (first | apply Kd.R_alloc | apply Kd.R_drewN | apply Kd.R_drew)); exact Kd.R_mono HO349.out (fun _ hk => hk.2)), (bl HB)⟩)
    rintro ⟨v345, v348⟩ w19 ⟨h0_, h1_, h2_, h3_⟩
    have n0_ : Aside0 (Kd.R k38 38 w19 w.heap.size (fun _ => True) v342 t340) := ⟨h0_⟩
    have n1_ : Aside0 (Kd.R (Kd.int .i64) 3 w19 w.heap.size (fun k_ => some k_ ≠ (v348 : Value).ownBlock) v345 y344) := ⟨h1_⟩
    have n2_ : Aside0 (Kd.R (Kd.int .i64) 3 w19 w.heap.size (fun k_ => some k_ ≠ (v345 : Value).ownBlock) v348 y347) := ⟨h2_⟩
    have n3_ : Aside0 (Below w.heap.size w w19) := ⟨h3_⟩
    clear HO343; clear HB; clear h0_ h1_ h2_ h3_; have HO343 := n0_; have HO346 := n1_; have HO349 := n2_; have HB := n3_; clear n0_ n1_ n2_ n3_; have hHeld := trivial
    refine norm_ (a' := ?_) ?_ ?_
    rotate_left
    ·simp only [putAll, Act.put, List.setIfInBounds_toArray, List.set_cons_zero, List.set_cons_succ]
     rfl
    refine pu 7 (some 8) (bz 8 255) HT_ rfl rfl ?_; refine done_ (done_of HT_.out (by kernel_rfl)) ?_
    try go_wp2
    go_loopg [9] kj4 (fun kq v9 w' => ∃ (x7_2 : List Int) (x9_2 : Int), v9 = .int .i64 x9_2 ∧ Aside0 (glossatorlaw23_FiveWhole.l0 kq a0 l1 t340 x7_2 y347 x9_2 = some r) ∧ Aside0 (kq ≤ kj4) ∧ Aside0 (Kd.R k38 38 w' w.heap.size (fun _ => True) v342 t340) ∧ Aside0 (Kd.R (Kd.int .i64) 3 w' w.heap.size (fun k_ => some k_ ≠ (v348 : Value).ownBlock) v345 x7_2) ∧ Aside0 (Kd.R (Kd.int .i64) 3 w' w.heap.size (fun k_ => some k_ ≠ (v345 : Value).ownBlock) v348 y347) ∧ Aside0 (Below w.heap.size w w'))
    case atStart => exact ⟨(y344), (0), (by first | rfl | (simp; done) | (simp [*]; done) | (simp; exact xEmpty_ne _) | (simp [*]; exact xEmpty_ne _)), H', ⟨Nat.le_refl _⟩, ⟨rl HO343⟩, ⟨rl HO346⟩, ⟨rl HO349⟩, ⟨bl HB⟩⟩
    case round =>
     clear H'; (try clear c1); (try clear p2); (try clear c4); (try clear c6); (try clear c7); (try clear c7b0); (try clear c7b1); (try clear c7b2); (try clear c8); (try clear c10); (try clear c10b0); (try clear c10b1); (try clear c11); (try clear c11b0); (try clear c11b1); (try clear c12); (try clear c12b0); (try clear c12b1); (try clear c16); (try clear p2); (try clear HO_5); (try clear HO_7); (try clear HO_8); (try clear HB)
     obtain ⟨x7_2, x9_2, rfl, HA, HK2, HO_5, HO_7, HO_8, HB⟩ := hrel
     cases gk with
     | zero => exact absurd HA.out (by simp [glossatorlaw23_FiveWhole.l0])
     | succ k2 =>
      have H := HA.out
      clear HA; simp only [glossatorlaw23_FiveWhole.l0] at H
      by_cases c20 : x9_2 < (l1.length : Int)
      rotate_left
      ·rw [if_neg c20] at H; have c20b0 : decide (x9_2 < (l1.length : Int)) = false := decide_eq_false c20; clear c20; have H' := Aside0.mk H; clear H; go_wp2
       go_loopg [11] k2 (fun kq v11 w' => ∃ (x8_3 : List Int) (x11_3 : Int), v11 = .int .i64 x11_3 ∧ Aside0 (glossatorlaw23_FiveWhole.l2 kq t340 x7_2 x8_3 x11_3 = some r) ∧ Aside0 (kq ≤ k2) ∧ Aside0 (Kd.R k38 38 w' w.heap.size (fun _ => True) v342 t340) ∧ Aside0 (Kd.R (Kd.int .i64) 3 w' w.heap.size (fun k_ => some k_ ≠ (v348 : Value).ownBlock) v345 x7_2) ∧ Aside0 (Kd.R (Kd.int .i64) 3 w' w.heap.size (fun k_ => some k_ ≠ (v345 : Value).ownBlock) v348 x8_3) ∧ Aside0 (Below w.heap.size w w'))
       case atStart => exact ⟨(y347), (0), (by first | rfl | (simp; done) | (simp [*]; done) | (simp; exact xEmpty_ne _) | (simp [*]; exact xEmpty_ne _)), H', ⟨Nat.le_refl _⟩, ⟨rl HO_5⟩, ⟨rl HO_7⟩, ⟨rl HO_8⟩, ⟨bl HB⟩⟩
       case round =>
        clear H'; (try clear c1); (try clear c2); (try clear p2); (try clear q2); (try clear hx2); (try clear c3); (try clear p3); (try clear q3); (try clear hx3); (try clear hf3); (try clear c4); (try clear c6); (try clear p6); (try clear c7); (try clear c7b0); (try clear c7b1); (try clear c7b2); (try clear c8); (try clear c10); (try clear c10b0); (try clear c10b1); (try clear c11); (try clear c11b0); (try clear c11b1); (try clear c12); (try clear c12b0); (try clear c12b1); (try clear c16); (try clear c20); (try clear c20b0); (try clear c21); (try clear c21b0); (try clear c22); (try clear c22b0); (try clear c23); (try clear c23b0); (try clear c24); (try clear c24b0); (try clear c25); (try clear c25b0); (try clear c26); (try clear c26b0); (try clear p27); (try clear q27); (try clear hx27); (try clear c28); (try clear c28b0); (try clear c28b1); (try clear p29); (try clear q29); (try clear hx29); (try clear c30); (try clear c30b0); (try clear c30b1); (try clear c31); (try clear c31b0); (try clear p32); (try clear q32); (try clear hx32); (try clear hf32); (try clear hx32_0); (try clear hx350_0); (try clear hx350_1); (try clear hx350_2); (try clear hx350_3); (try clear hx351_0); (try clear hx351_1); (try clear hx351_2); (try clear hx351_3); (try clear hx352_0); (try clear hx352_1); (try clear hx352_2); (try clear hx352_3); (try clear hx353_0); (try clear hx353_1); (try clear hx353_2); (try clear hx353_3); (try clear p2); (try clear p27); (try clear p29); (try clear p3); (try clear p32); (try clear p350); (try clear p351); (try clear p352); (try clear p353); (try clear q27); (try clear q29); (try clear q3); (try clear q32); (try clear q350); (try clear q351); (try clear q352); (try clear q353); (try clear HO_5); (try clear HO_7); (try clear HO_8); (try clear HB)
        obtain ⟨x8_3, x11_3, rfl, HA, HK3, HO_5, HO_7, HO_8, HB⟩ := hrel
        cases gk with
        | zero => exact absurd HA.out (by simp [glossatorlaw23_FiveWhole.l2])
        | succ k3 =>
         have H := HA.out
         clear HA; simp only [glossatorlaw23_FiveWhole.l2] at H
         by_cases c35 : x11_3 < (t340.length : Int)
         rotate_left
         ·rw [if_neg c35] at H; have c35b0 : decide (x11_3 < (t340.length : Int)) = false := decide_eq_false c35; clear c35; replace H := Option.bind_eq_some_iff.mp H
          obtain ⟨t355, A530, H⟩ := H
          replace H : (some t355) = some r := H
          have A53 := Aside0.mk A530; clear A530; obtain rfl := Option.some.inj H; obtain ⟨Ao54, co54, eo54⟩ := Kd.R_slice HO_5.out
          subst eo54; obtain ⟨Ao55, co55, eo55⟩ := Kd.R_slice HO_7.out
          subst eo55; obtain ⟨Ao56, co56, eo56⟩ := Kd.R_slice HO_8.out
          subst eo56; go_wp2_with (first | ((with_reducible refine gate_callee (f := 12) rfl ?_); refine goesL_ (some 149) rfl rfl Tryd.func12 (by kernel_rfl) rfl #[.slice Ao55 x7_2.length co55, .slice Ao56 x8_3.length co56] rfl (by (try simp only [List.map_toArray, List.map_cons, List.map_nil]); first | done | rfl | (simp only [List.length_drop, List.length_take]; rfl)) ?_; (with_reducible refine (glossatorref23_Same.calls k3 _ _ x7_2 _ _ x8_3 t355 _ ?side1 ?side2 ?side3 ?side4 A53.out).mono ?_); (case side1 => repeat (first | exact (Kd.R_reads' HO_7.out).2.2 | (with_reducible refine Kd.C_alloc ?_ _) | (with_reducible refine Kd.C_drewN ?_ _) | (with_reducible refine Kd.C_drew ?_))); (case side2 => exact (Kd.R_reads' HO_7.out).2.1); (case side3 => repeat (first | exact (Kd.R_reads' HO_8.out).2.2 | (with_reducible refine Kd.C_alloc ?_ _) | (with_reducible refine Kd.C_drewN ?_ _) | (with_reducible refine Kd.C_drew ?_))); (case side4 => exact (Kd.R_reads' HO_8.out).2.1); rintro e w' ⟨rfl, ⟨nd, rfl⟩⟩; refine ⟨_, rfl, ?_⟩))
          go_ret
          exact ⟨by first | rfl | (simp [errW_none, errW_some] <;> rfl) | (simp [*, errW_none, errW_some] <;> rfl), bl HB⟩
         rw [if_pos c35] at H; have c35b0 : decide (x11_3 < (t340.length : Int)) = true := decide_eq_true c35; clear c35; by_cases c36 : 0 ≤ x11_3
         rotate_left
         ·rw [if_neg c36] at H; exact absurd H (by simp)
         rw [if_pos c36] at H; have c36b0 : decide (0 ≤ x11_3) = true := decide_eq_true c36; clear c36; by_cases c37 : ((rd_T38 t340 x11_3).f0.f0) ≥ ((rd_T38 t340 x11_3).f0.f1)
         rotate_left
         ·rw [if_neg c37] at H; have c37b0 : decide (((rd_T38 t340 x11_3).f0.f1) ≤ ((rd_T38 t340 x11_3).f0.f0)) = false := decide_eq_false c37; clear c37; have H' := Aside0.mk H; clear H; obtain ⟨Ao40, co40, eo40⟩ := Kd.R_slice HO_5.out
          subst eo40; try go_wp2
          have n0_ := Aside0.mk (Kd.R_drew HO_5.out); have n1_ := Aside0.mk (Kd.R_drew HO_7.out); have n2_ := Aside0.mk (Kd.R_drew HO_8.out); have n3_ := Aside0.mk (below_drew1 HB.out); clear HO_5; clear HO_7; clear HO_8; clear HB; have HO_5 := n0_; have HO_7 := n1_; have HO_8 := n2_; have HB := n3_; clear n0_ n1_ n2_ n3_; have p356 : 0 ≤ (x11_3 : Int) := of_decide_eq_true (by first | (with_reducible assumption) | assumption)
          have q356 : x11_3 < (t340.length : Int) := of_decide_eq_true (by first | (with_reducible assumption) | assumption)
          obtain ⟨ad356, e356, hx356_0, hx356_1, hx356_2, hx356_3⟩ := at_T38 (Kd.R_reads' HO_5.out).2.2 x11_3 p356 q356
          cases e356; replace p356 := eq_true p356; replace q356 := eq_true q356; have p357 : 0 ≤ (x11_3 : Int) := of_decide_eq_true (by first | (with_reducible assumption) | assumption)
          have q357 : x11_3 < (t340.length : Int) := of_decide_eq_true (by first | (with_reducible assumption) | assumption)
          obtain ⟨ad357, e357, hx357_0, hx357_1, hx357_2, hx357_3⟩ := at_T38 (Kd.R_reads' HO_5.out).2.2 x11_3 p357 q357
          obtain rfl : ad356 = ad357 := (by injection e357)
          replace p357 := eq_true p357; replace q357 := eq_true q357; refine start_ (n := 13) (S := fun w' => w'.cell? (ad356.add ((x11_3).toNat * 4)) = some (.int .i64 ((rd_T38 t340 x11_3).f0.f0)) ∧ w'.cell? ⟨(ad356.add ((x11_3).toNat * 4)).block, (ad356.add ((x11_3).toNat * 4)).off + 1, none⟩ = some (.int .i64 ((rd_T38 t340 x11_3).f0.f1)) ∧ w'.cell? ⟨(ad356.add ((x11_3).toNat * 4)).block, (ad356.add ((x11_3).toNat * 4)).off + 2, none⟩ = some (.int .i64 ((rd_T38 t340 x11_3).f1)) ∧ w'.cell? ⟨(ad356.add ((x11_3).toNat * 4)).block, (ad356.add ((x11_3).toNat * 4)).off + 3, none⟩ = some (.int .i64 ((rd_T38 t340 x11_3).f2)) ∧ w'.cell? (ad356.add ((x11_3).toNat * 4)) = some (.int .i64 ((rd_T38 t340 x11_3).f0.f0)) ∧ w'.cell? ⟨(ad356.add ((x11_3).toNat * 4)).block, (ad356.add ((x11_3).toNat * 4)).off + 1, none⟩ = some (.int .i64 ((rd_T38 t340 x11_3).f0.f1)) ∧ w'.cell? ⟨(ad356.add ((x11_3).toNat * 4)).block, (ad356.add ((x11_3).toNat * 4)).off + 2, none⟩ = some (.int .i64 ((rd_T38 t340 x11_3).f1)) ∧ w'.cell? ⟨(ad356.add ((x11_3).toNat * 4)).block, (ad356.add ((x11_3).toNat * 4)).off + 3, none⟩ = some (.int .i64 ((rd_T38 t340 x11_3).f2))) (ds := []) (bz 13 0) (by kernel_rfl) rfl rfl ⟨hx356_0, hx356_1, hx356_2, hx356_3, hx357_0, hx357_1, hx357_2, hx357_3⟩ (fun hHeld => ?_); refine with_tabW glossatorlaw23_FiveWhole.tab20 glossatorlaw23_FiveWhole.bits20 (fun HT_ HW_ => ?_)
          generalize wr.drew = w41 at HO_5 HO_7 HO_8 HB hx356_0 hx356_1 hx356_2 hx356_3 hx357_0 hx357_1 hx357_2 hx357_3 hHeld ⊢
          refine pu 0 (some 95) (bz 13 1) HT_ rfl rfl ?_; refine pu 1 (some 96) (bz 13 3) HT_ rfl rfl ?_; refine pu 2 (some 97) (bz 13 7) HT_ rfl rfl ?_; refine pu 3 (some 98) (bz 13 15) HT_ rfl rfl ?_; refine pu 4 (some 99) (bz 13 31) HT_ rfl rfl ?_; refine pu 6 (some 101) (bz 13 95) HT_ rfl rfl ?_; refine pu 7 (some 102) (bz 13 223) HT_ rfl rfl ?_; refine pu 8 (some 103) (bz 13 479) HT_ rfl rfl ?_; refine pu 9 (some 104) (bz 13 991) HT_ rfl rfl ?_; refine pu 10 (some 105) (bz 13 2015) HT_ rfl rfl ?_; refine tk 5 (some 100) (bz 13 2047) HT_ HW_ rfl rfl hHeld ?_; refine tk 11 (some 106) (bz 13 4095) HT_ HW_ rfl rfl hHeld ?_; refine pu 12 (some 107) (bz 13 8191) HT_ rfl rfl ?_; refine done_ (done_of HT_.out (by kernel_rfl)) ?_
          have p358 : 0 ≤ (x11_3 : Int) := of_decide_eq_true (by first | (with_reducible assumption) | assumption)
          have q358 : x11_3 < (t340.length : Int) := of_decide_eq_true (by first | (with_reducible assumption) | assumption)
          obtain ⟨ad358, e358, hx358_0, hx358_1, hx358_2, hx358_3⟩ := at_T38 (Kd.R_reads' HO_5.out).2.2 x11_3 p358 q358
          obtain rfl : ad356 = ad358 := (by injection e358)
          replace p358 := eq_true p358; replace q358 := eq_true q358; try go_wp2
          go_loopg [12] k3 (fun kq v12 w' => ∃ (x8_4 : List Int) (x12_4 : Int), v12 = .int .i64 x12_4 ∧ Aside0 (glossatorlaw23_FiveWhole.l3 kq t340 x7_2 x8_4 x11_3 x12_4 = some r) ∧ Aside0 (kq ≤ k3) ∧ Aside0 (Kd.R k38 38 w' w.heap.size (fun _ => True) (.slice (some ad356) t340.length co40) t340) ∧ Aside0 (Kd.R (Kd.int .i64) 3 w' w.heap.size (fun k_ => some k_ ≠ (v348 : Value).ownBlock) v345 x7_2) ∧ Aside0 (Kd.R (Kd.int .i64) 3 w' w.heap.size (fun k_ => some k_ ≠ (v345 : Value).ownBlock) v348 x8_4) ∧ Aside0 (Below w.heap.size w w'))
          case atStart => exact ⟨(x8_3), ((rd_T38 t340 x11_3).f0.f0), (by first | rfl | (simp; done) | (simp [*]; done) | (simp; exact xEmpty_ne _) | (simp [*]; exact xEmpty_ne _)), H', ⟨Nat.le_refl _⟩, ⟨rl HO_5⟩, ⟨rl HO_7⟩, ⟨rl HO_8⟩, ⟨bl HB⟩⟩
          case round =>
           clear H'; (try clear c1); (try clear c2); (try clear p2); (try clear q2); (try clear hx2); (try clear c3); (try clear p3); (try clear q3); (try clear hx3); (try clear hf3); (try clear c4); (try clear c6); (try clear p6); (try clear c7); (try clear c7b0); (try clear c7b1); (try clear c7b2); (try clear c8); (try clear c10); (try clear c10b0); (try clear c10b1); (try clear c11); (try clear c11b0); (try clear c11b1); (try clear c12); (try clear c12b0); (try clear c12b1); (try clear c16); (try clear c20); (try clear c20b0); (try clear c21); (try clear c21b0); (try clear c22); (try clear c22b0); (try clear c23); (try clear c23b0); (try clear c24); (try clear c24b0); (try clear c25); (try clear c25b0); (try clear c26); (try clear c26b0); (try clear p27); (try clear q27); (try clear hx27); (try clear c28); (try clear c28b0); (try clear c28b1); (try clear p29); (try clear q29); (try clear hx29); (try clear c30); (try clear c30b0); (try clear c30b1); (try clear c31); (try clear c31b0); (try clear p32); (try clear q32); (try clear hx32); (try clear hf32); (try clear c35); (try clear c35b0); (try clear p35); (try clear q35); (try clear hx35); (try clear c36); (try clear c36b0); (try clear c37); (try clear c37b0); (try clear hx32_0); (try clear hx350_0); (try clear hx350_1); (try clear hx350_2); (try clear hx350_3); (try clear hx351_0); (try clear hx351_1); (try clear hx351_2); (try clear hx351_3); (try clear hx352_0); (try clear hx352_1); (try clear hx352_2); (try clear hx352_3); (try clear hx353_0); (try clear hx353_1); (try clear hx353_2); (try clear hx353_3); (try clear hx356_0); (try clear hx356_1); (try clear hx356_2); (try clear hx356_3); (try clear hx357_0); (try clear hx357_1); (try clear hx357_2); (try clear hx357_3); (try clear hx358_0); (try clear hx358_1); (try clear hx358_2); (try clear hx358_3); (try clear p2); (try clear p27); (try clear p29); (try clear p3); (try clear p32); (try clear p350); (try clear p351); (try clear p352); (try clear p353); (try clear p356); (try clear p357); (try clear p358); (try clear p6); (try clear q2); (try clear q27); (try clear q29); (try clear q3); (try clear q32); (try clear q350); (try clear q351); (try clear q352); (try clear q353); (try clear q356); (try clear q357); (try clear q358); (try clear HO_5); (try clear HO_7); (try clear HO_8); (try clear HB)
           obtain ⟨x8_4, x12_4, rfl, HA, HK4, HO_5, HO_7, HO_8, HB⟩ := hrel
           cases gk with
           | zero => exact absurd HA.out (by simp [glossatorlaw23_FiveWhole.l3])
           | succ k4 =>
            have H := HA.out
            clear HA; simp only [glossatorlaw23_FiveWhole.l3] at H
            by_cases c42 : 0 ≤ x11_3
            rotate_left
            ·rw [if_neg c42] at H; exact absurd H (by simp)
            rw [if_pos c42] at H; have c42b0 : decide (0 ≤ x11_3) = true := decide_eq_true c42; clear c42; by_cases c43 : x11_3 < (t340.length : Int)
            rotate_left
            ·rw [if_neg c43] at H; exact absurd H (by simp)
            rw [if_pos c43] at H; have c43b0 : decide (x11_3 < (t340.length : Int)) = true := decide_eq_true c43; clear c43; by_cases c44 : x12_4 < ((rd_T38 t340 x11_3).f0.f1)
            rotate_left
            ·rw [if_neg c44] at H; have c44b0 : decide (x12_4 < ((rd_T38 t340 x11_3).f0.f1)) = false := decide_eq_false c44; clear c44; have H' := Aside0.mk H; clear H; have p359 : 0 ≤ (x11_3 : Int) := of_decide_eq_true (by first | (with_reducible assumption) | assumption)
             have q359 : x11_3 < (t340.length : Int) := of_decide_eq_true (by first | (with_reducible assumption) | assumption)
             obtain ⟨ad359, e359, hx359_0, hx359_1, hx359_2, hx359_3⟩ := at_T38 (Kd.R_reads' HO_5.out).2.2 x11_3 p359 q359
             obtain rfl : ad356 = ad359 := (by injection e359)
             replace p359 := eq_true p359; replace q359 := eq_true q359; go_wp2
             go_roundg k4
             case measure => have := HJ4.out; have := HK2.out; have := HK3.out; have := HK4.out; omega
             case rel => exact ⟨(x8_4), (wrap64 (x11_3 + 1)), (by first | rfl | (simp; done) | (simp [*]; done) | (simp; exact xEmpty_ne _) | (simp [*]; exact xEmpty_ne _)), H', ⟨by have := HJ4.out; have := HK2.out; have := HK3.out; have := HK4.out; omega⟩, ⟨rl HO_5⟩, ⟨rl HO_7⟩, ⟨rl HO_8⟩, ⟨bl HB⟩⟩
            rw [if_pos c44] at H; have c44b0 : decide (x12_4 < ((rd_T38 t340 x11_3).f0.f1)) = true := decide_eq_true c44; clear c44; by_cases c45 : 0 ≤ x12_4
            rotate_left
            ·rw [if_neg c45] at H; exact absurd H (by simp)
            rw [if_pos c45] at H; have c45b0 : decide (0 ≤ x12_4) = true := decide_eq_true c45; clear c45; by_cases c46 : x12_4 < (x8_4.length : Int)
            rotate_left
            ·rw [if_neg c46] at H; exact absurd H (by simp)
            rw [if_pos c46] at H; have c46b0 : decide (x12_4 < (x8_4.length : Int)) = true := decide_eq_true c46; clear c46; by_cases c47 : (rd x8_4 x12_4) = 0
            rotate_left
            ·rw [if_neg c47] at H; have c47b0 : ((rd x8_4 x12_4) == 0) = false := beq_eq_false_iff_ne.mpr c47; have c47b1 : ((rd x8_4 x12_4) != 0) = true := bne_iff_ne.mpr c47; obtain rfl := Option.some.inj H; have p359 : 0 ≤ (x11_3 : Int) := of_decide_eq_true (by first | (with_reducible assumption) | assumption)
             have q359 : x11_3 < (t340.length : Int) := of_decide_eq_true (by first | (with_reducible assumption) | assumption)
             obtain ⟨ad359, e359, hx359_0, hx359_1, hx359_2, hx359_3⟩ := at_T38 (Kd.R_reads' HO_5.out).2.2 x11_3 p359 q359
             obtain rfl : ad356 = ad359 := (by injection e359)
             replace p359 := eq_true p359; replace q359 := eq_true q359; obtain ⟨Ao52, co52, eo52⟩ := Kd.R_slice HO_8.out
             subst eo52; have p360 : 0 ≤ (x12_4 : Int) := of_decide_eq_true (by first | (with_reducible assumption) | assumption)
             have q360 : x12_4 < (x8_4.length : Int) := of_decide_eq_true (by first | (with_reducible assumption) | assumption)
             obtain ⟨ad360, e360, hx360_0⟩ := Kd.at_int (Kd.R_reads' HO_8.out).2.2 x12_4 p360 q360
             cases e360; replace p360 := eq_true p360; replace q360 := eq_true q360; go_wp2
             go_ret
             exact ⟨by first | rfl | (simp [errW_none, errW_some] <;> rfl) | (simp [*, errW_none, errW_some] <;> rfl), bl HB⟩
            rw [if_pos c47] at H; have c47b0 : ((rd x8_4 x12_4) == 0) = true := beq_iff_eq.mpr c47
            have c47b1 : ((rd x8_4 x12_4) != 0) = false := bne_eq_false_iff_eq.mpr c47
            clear c47; obtain ⟨y363, hy363⟩ : ∃ y_ : List Int, y_ = (x8_4.set (x12_4 : Int).toNat (wrap64 ((wrap64 (1 + (Int.tmod ((rd_T38 t340 x11_3).f1) 1000))) + (wrap64 (1000 * (Int.tmod ((rd_T38 t340 x11_3).f2) 1000)))))) := ⟨_, rfl⟩
            replace H : (glossatorlaw23_FiveWhole.l3 k4 t340 x7_2 y363 x11_3 (wrap64 (x12_4 + 1))) = some r := by first | (rw [hy363]; with_reducible exact H) | (have H2_ := (Option.bind_some _ _).symm.trans H; rw [hy363]; with_reducible exact H2_) | (have H2_ := (Option.bind_some _ _).symm.trans H; with_reducible exact H2_) | with_reducible exact H | (rw [hy363]; exact H) | exact H
            have Ny363 := Aside0.mk hy363; clear hy363; have H' := Aside0.mk H; clear H; have p359 : 0 ≤ (x11_3 : Int) := of_decide_eq_true (by first | (with_reducible assumption) | assumption)
            have q359 : x11_3 < (t340.length : Int) := of_decide_eq_true (by first | (with_reducible assumption) | assumption)
            obtain ⟨ad359, e359, hx359_0, hx359_1, hx359_2, hx359_3⟩ := at_T38 (Kd.R_reads' HO_5.out).2.2 x11_3 p359 q359
            obtain rfl : ad356 = ad359 := (by injection e359)
            replace p359 := eq_true p359; replace q359 := eq_true q359; obtain ⟨Ao49, co49, eo49⟩ := Kd.R_slice HO_8.out
            subst eo49; have p360 : 0 ≤ (x12_4 : Int) := of_decide_eq_true (by first | (with_reducible assumption) | assumption)
            have q360 : x12_4 < (x8_4.length : Int) := of_decide_eq_true (by first | (with_reducible assumption) | assumption)
            obtain ⟨ad360, e360, hx360_0⟩ := Kd.at_int (Kd.R_reads' HO_8.out).2.2 x12_4 p360 q360
            cases e360; replace p360 := eq_true p360; replace q360 := eq_true q360; try go_wp2
            have n0_ := Aside0.mk (Kd.R_drew HO_5.out); have n1_ := Aside0.mk (Kd.R_drew HO_7.out); have n2_ := Aside0.mk (Kd.R_drew HO_8.out); have n3_ := Aside0.mk (below_drew1 HB.out); clear HO_5; clear HO_7; clear HO_8; clear HB; have HO_5 := n0_; have HO_7 := n1_; have HO_8 := n2_; have HB := n3_; clear n0_ n1_ n2_ n3_; have p361 : 0 ≤ (x11_3 : Int) := of_decide_eq_true (by first | (with_reducible assumption) | assumption)
            have q361 : x11_3 < (t340.length : Int) := of_decide_eq_true (by first | (with_reducible assumption) | assumption)
            obtain ⟨ad361, e361, hx361_0, hx361_1, hx361_2, hx361_3⟩ := at_T38 (Kd.R_reads' HO_5.out).2.2 x11_3 p361 q361
            obtain rfl : ad356 = ad361 := (by injection e361)
            replace p361 := eq_true p361; replace q361 := eq_true q361; have p362 : 0 ≤ (x11_3 : Int) := of_decide_eq_true (by first | (with_reducible assumption) | assumption)
            have q362 : x11_3 < (t340.length : Int) := of_decide_eq_true (by first | (with_reducible assumption) | assumption)
            obtain ⟨ad362, e362, hx362_0, hx362_1, hx362_2, hx362_3⟩ := at_T38 (Kd.R_reads' HO_5.out).2.2 x11_3 p362 q362
            obtain rfl : ad356 = ad362 := (by injection e362)
            replace p362 := eq_true p362; replace q362 := eq_true q362; have p48 : 0 ≤ (x12_4 : Int) := of_decide_eq_true (by first | (with_reducible assumption) | assumption)
            have q48 : (x12_4 : Int) < ((x8_4.length : Int) : Int) := of_decide_eq_true (by first | (with_reducible assumption) | assumption)
            obtain ⟨go48, co48, eo48, gb48, gl48, cl48, HG48⟩ := Kd.R_form HO_8.out (by omega)
            (first | cases eo48 | (injection eo48 with ea_ en_ ec_; (first | subst ea_ | (injection ea_ with ea_; subst ea_)); subst ec_; clear en_))
            have GB48 := Aside0.mk gb48; have GG48 := Aside0.mk HG48; clear gb48 gl48 HG48; (first | simp only [add_plain] at hx360_0 | skip)
            obtain ⟨hx48_0, hf48_0⟩ := Kd.R_celln 0 HO_8.out (x12_4 : Int) p48 q48
            replace p48 := eq_true p48; replace q48 := eq_true q48; have HP51 := Kd.R_putn HO_8.out (x12_4 : Int) (wrap64 ((wrap64 (1 + (Int.tmod ((rd_T38 t340 x11_3).f1) 1000))) + (wrap64 (1000 * (Int.tmod ((rd_T38 t340 x11_3).f2) 1000)))))
            rw [← Ny363.out] at HP51
            have HQ51 := Aside0.mk HP51; clear HP51; refine start_ (n := 19) (S := fun w' => w'.cell? (ad356.add ((x11_3).toNat * 4)) = some (.int .i64 ((rd_T38 t340 x11_3).f0.f0)) ∧ w'.cell? ⟨(ad356.add ((x11_3).toNat * 4)).block, (ad356.add ((x11_3).toNat * 4)).off + 1, none⟩ = some (.int .i64 ((rd_T38 t340 x11_3).f0.f1)) ∧ w'.cell? ⟨(ad356.add ((x11_3).toNat * 4)).block, (ad356.add ((x11_3).toNat * 4)).off + 2, none⟩ = some (.int .i64 ((rd_T38 t340 x11_3).f1)) ∧ w'.cell? ⟨(ad356.add ((x11_3).toNat * 4)).block, (ad356.add ((x11_3).toNat * 4)).off + 3, none⟩ = some (.int .i64 ((rd_T38 t340 x11_3).f2)) ∧ w'.cell? (ad356.add ((x11_3).toNat * 4)) = some (.int .i64 ((rd_T38 t340 x11_3).f0.f0)) ∧ w'.cell? ⟨(ad356.add ((x11_3).toNat * 4)).block, (ad356.add ((x11_3).toNat * 4)).off + 1, none⟩ = some (.int .i64 ((rd_T38 t340 x11_3).f0.f1)) ∧ w'.cell? ⟨(ad356.add ((x11_3).toNat * 4)).block, (ad356.add ((x11_3).toNat * 4)).off + 2, none⟩ = some (.int .i64 ((rd_T38 t340 x11_3).f1)) ∧ w'.cell? ⟨(ad356.add ((x11_3).toNat * 4)).block, (ad356.add ((x11_3).toNat * 4)).off + 3, none⟩ = some (.int .i64 ((rd_T38 t340 x11_3).f2))) (ds := [18]) (bz 19 0) (by kernel_rfl) rfl rfl ⟨hx361_0, hx361_1, hx361_2, hx361_3, hx362_0, hx362_1, hx362_2, hx362_3⟩ (fun hHeld => ?_); refine with_tabW glossatorlaw23_FiveWhole.tab27 glossatorlaw23_FiveWhole.bits27 (fun HT_ HW_ => ?_)
            generalize wr.drew = w50 at HO_5 HO_7 HO_8 HB GG48 HQ51 hf48_0 hx360_0 hx361_0 hx361_1 hx361_2 hx361_3 hx362_0 hx362_1 hx362_2 hx362_3 hx48_0 hHeld ⊢
            refine pu 0 (some 129) (bz 19 1) HT_ rfl rfl ?_; refine pu 1 (some 130) (bz 19 3) HT_ rfl rfl ?_; refine pu 2 (some 131) (bz 19 7) HT_ rfl rfl ?_; refine pu 3 (some 132) (bz 19 15) HT_ rfl rfl ?_; refine pu 4 (some 133) (bz 19 31) HT_ rfl rfl ?_; refine pu 5 (some 134) (bz 19 63) HT_ rfl rfl ?_; refine pu 9 (some 138) (bz 19 575) HT_ rfl rfl ?_; refine pu 10 (some 139) (bz 19 1599) HT_ rfl rfl ?_; refine pu 11 (some 140) (bz 19 3647) HT_ rfl rfl ?_; refine pu 12 (some 141) (bz 19 7743) HT_ rfl rfl ?_; refine tk 6 (some 135) (bz 19 7807) HT_ HW_ rfl rfl hHeld ?_; refine pu 7 (some 136) (bz 19 7935) HT_ rfl rfl ?_; refine pu 8 (some 137) (bz 19 8191) HT_ rfl rfl ?_; refine tk 13 (some 142) (bz 19 16383) HT_ HW_ rfl rfl hHeld ?_; refine pu 14 (some 143) (bz 19 32767) HT_ rfl rfl ?_; refine pu 15 (some 144) (bz 19 65535) HT_ rfl rfl ?_; refine pu 16 (some 145) (bz 19 131071) HT_ rfl rfl ?_; refine pu 17 (some 146) (bz 19 262143) HT_ rfl rfl ?_; refine last_ (i := 18) (N := none) (bz 19 524287) rfl rfl (one_of HT_.out (by kernel_rfl)) (by decide) (fun K hK => ?_)
            refine skip_ (w1 := ?_) (by rfl) rfl ?_ ?_
            rotate_left
            ·go_simp
             rfl
            refine hK.out _ _ ?_
            clear hK K; refine done_ (done_of HT_.out (by kernel_rfl)) ?_
            try go_wp2
            go_roundg k4
            case measure => have := HJ4.out; have := HK2.out; have := HK3.out; have := HK4.out; omega
            case rel => exact ⟨(y363), (wrap64 (x12_4 + 1)), (by first | rfl | (simp; done) | (simp [*]; done) | (simp; exact xEmpty_ne _) | (simp [*]; exact xEmpty_ne _)), H', ⟨by have := HJ4.out; have := HK2.out; have := HK3.out; have := HK4.out; omega⟩, ⟨by (with_reducible repeat (first | apply Kd.R_alloc | apply Kd.R_drewN | apply Kd.R_drew)); exact Kd.R_mono (Kd.R_far (p := ⟨go48, (x12_4 : Int).toNat, none⟩) (Kd.R_types HO_5.out GG48.out (by decide)) (fun _ hk => hk.2) (.int .i64 (wrap64 ((wrap64 (1 + (Int.tmod ((rd_T38 t340 x11_3).f1) 1000))) + (wrap64 (1000 * (Int.tmod ((rd_T38 t340 x11_3).f2) 1000))))))) (fun _ hk => trivial)⟩, ⟨by (with_reducible repeat (first | apply Kd.R_alloc | apply Kd.R_drewN | apply Kd.R_drew)); exact Kd.R_mono (Kd.R_far (p := ⟨go48, (x12_4 : Int).toNat, none⟩) (Kd.R_mono HO_7.out (fun k_ hk => (⟨hk, fun e_ => hk (by rw [e_]; rfl)⟩ : _ ∧ k_ ≠ go48))) (fun _ hk => hk.2) (.int .i64 (wrap64 ((wrap64 (1 + (Int.tmod ((rd_T38 t340 x11_3).f1) 1000))) + (wrap64 (1000 * (Int.tmod ((rd_T38 t340 x11_3).f2) 1000))))))) (fun _ hk => hk.1)⟩, ⟨by (with_reducible repeat (first | apply Kd.R_alloc | apply Kd.R_drewN | apply Kd.R_drew)); exact HQ51.out⟩, ⟨by repeat (first | (with_reducible first | exact HB.out | apply below_alloc | apply pw_below_drewN | apply below_drew1 | refine below_set ?_ GB48.out) | exact HB.out)⟩⟩
         rw [if_pos c37] at H; have c37b0 : decide (((rd_T38 t340 x11_3).f0.f1) ≤ ((rd_T38 t340 x11_3).f0.f0)) = true := decide_eq_true c37; clear c37; obtain rfl := Option.some.inj H; obtain ⟨Ao38, co38, eo38⟩ := Kd.R_slice HO_5.out
         subst eo38; try go_wp2
         have n0_ := Aside0.mk (Kd.R_drew HO_5.out); have n1_ := Aside0.mk (Kd.R_drew HO_7.out); have n2_ := Aside0.mk (Kd.R_drew HO_8.out); have n3_ := Aside0.mk (below_drew1 HB.out); clear HO_5; clear HO_7; clear HO_8; clear HB; have HO_5 := n0_; have HO_7 := n1_; have HO_8 := n2_; have HB := n3_; clear n0_ n1_ n2_ n3_; have p356 : 0 ≤ (x11_3 : Int) := of_decide_eq_true (by first | (with_reducible assumption) | assumption)
         have q356 : x11_3 < (t340.length : Int) := of_decide_eq_true (by first | (with_reducible assumption) | assumption)
         obtain ⟨ad356, e356, hx356_0, hx356_1, hx356_2, hx356_3⟩ := at_T38 (Kd.R_reads' HO_5.out).2.2 x11_3 p356 q356
         cases e356; replace p356 := eq_true p356; replace q356 := eq_true q356; have p357 : 0 ≤ (x11_3 : Int) := of_decide_eq_true (by first | (with_reducible assumption) | assumption)
         have q357 : x11_3 < (t340.length : Int) := of_decide_eq_true (by first | (with_reducible assumption) | assumption)
         obtain ⟨ad357, e357, hx357_0, hx357_1, hx357_2, hx357_3⟩ := at_T38 (Kd.R_reads' HO_5.out).2.2 x11_3 p357 q357
         obtain rfl : ad356 = ad357 := (by injection e357)
         replace p357 := eq_true p357; replace q357 := eq_true q357; refine start_ (n := 13) (S := fun w' => w'.cell? (ad356.add ((x11_3).toNat * 4)) = some (.int .i64 ((rd_T38 t340 x11_3).f0.f0)) ∧ w'.cell? ⟨(ad356.add ((x11_3).toNat * 4)).block, (ad356.add ((x11_3).toNat * 4)).off + 1, none⟩ = some (.int .i64 ((rd_T38 t340 x11_3).f0.f1)) ∧ w'.cell? ⟨(ad356.add ((x11_3).toNat * 4)).block, (ad356.add ((x11_3).toNat * 4)).off + 2, none⟩ = some (.int .i64 ((rd_T38 t340 x11_3).f1)) ∧ w'.cell? ⟨(ad356.add ((x11_3).toNat * 4)).block, (ad356.add ((x11_3).toNat * 4)).off + 3, none⟩ = some (.int .i64 ((rd_T38 t340 x11_3).f2)) ∧ w'.cell? (ad356.add ((x11_3).toNat * 4)) = some (.int .i64 ((rd_T38 t340 x11_3).f0.f0)) ∧ w'.cell? ⟨(ad356.add ((x11_3).toNat * 4)).block, (ad356.add ((x11_3).toNat * 4)).off + 1, none⟩ = some (.int .i64 ((rd_T38 t340 x11_3).f0.f1)) ∧ w'.cell? ⟨(ad356.add ((x11_3).toNat * 4)).block, (ad356.add ((x11_3).toNat * 4)).off + 2, none⟩ = some (.int .i64 ((rd_T38 t340 x11_3).f1)) ∧ w'.cell? ⟨(ad356.add ((x11_3).toNat * 4)).block, (ad356.add ((x11_3).toNat * 4)).off + 3, none⟩ = some (.int .i64 ((rd_T38 t340 x11_3).f2))) (ds := []) (bz 13 0) (by kernel_rfl) rfl rfl ⟨hx356_0, hx356_1, hx356_2, hx356_3, hx357_0, hx357_1, hx357_2, hx357_3⟩ (fun hHeld => ?_); refine with_tabW glossatorlaw23_FiveWhole.tab20 glossatorlaw23_FiveWhole.bits20 (fun HT_ HW_ => ?_)
         generalize wr.drew = w39 at HO_5 HO_7 HO_8 HB hx356_0 hx356_1 hx356_2 hx356_3 hx357_0 hx357_1 hx357_2 hx357_3 hHeld ⊢
         refine pu 0 (some 95) (bz 13 1) HT_ rfl rfl ?_; refine pu 1 (some 96) (bz 13 3) HT_ rfl rfl ?_; refine pu 2 (some 97) (bz 13 7) HT_ rfl rfl ?_; refine pu 3 (some 98) (bz 13 15) HT_ rfl rfl ?_; refine pu 4 (some 99) (bz 13 31) HT_ rfl rfl ?_; refine pu 6 (some 101) (bz 13 95) HT_ rfl rfl ?_; refine pu 7 (some 102) (bz 13 223) HT_ rfl rfl ?_; refine pu 8 (some 103) (bz 13 479) HT_ rfl rfl ?_; refine pu 9 (some 104) (bz 13 991) HT_ rfl rfl ?_; refine pu 10 (some 105) (bz 13 2015) HT_ rfl rfl ?_; refine tk 5 (some 100) (bz 13 2047) HT_ HW_ rfl rfl hHeld ?_; refine tk 11 (some 106) (bz 13 4095) HT_ HW_ rfl rfl hHeld ?_; refine pu 12 (some 107) (bz 13 8191) HT_ rfl rfl ?_; refine done_ (done_of HT_.out (by kernel_rfl)) ?_
         try go_wp2
         go_ret
         exact ⟨by first | rfl | (simp [errW_none, errW_some] <;> rfl) | (simp [*, errW_none, errW_some] <;> rfl), bl HB⟩
      rw [if_pos c20] at H; have c20b0 : decide (x9_2 < (l1.length : Int)) = true := decide_eq_true c20; clear c20; by_cases c21 : 0 ≤ x9_2
      rotate_left
      ·rw [if_neg c21] at H; exact absurd H (by simp)
      rw [if_pos c21] at H; have c21b0 : decide (0 ≤ x9_2) = true := decide_eq_true c21; clear c21; have H' := Aside0.mk H; clear H; have p350 : 0 ≤ (x9_2 : Int) := of_decide_eq_true (by first | (with_reducible assumption) | assumption)
      have q350 : x9_2 < (l1.length : Int) := of_decide_eq_true (by first | (with_reducible assumption) | assumption)
      obtain ⟨ad350, e350, hx350_0, hx350_1, hx350_2, hx350_3⟩ := at_T38 HR1.out x9_2 p350 q350
      cases e350; replace hx350_0 := (HB.out.cell (World.block_lt_of_cell? w _ hx350_0)).trans hx350_0; replace hx350_1 := (HB.out.cell (World.block_lt_of_cell? w _ hx350_1)).trans hx350_1; replace hx350_2 := (HB.out.cell (World.block_lt_of_cell? w _ hx350_2)).trans hx350_2; replace hx350_3 := (HB.out.cell (World.block_lt_of_cell? w _ hx350_3)).trans hx350_3; replace p350 := eq_true p350; replace q350 := eq_true q350; go_wp2
      go_loopg [10] k2 (fun kq v10 w' => ∃ (x7_3 : List Int) (x10_3 : Int), v10 = .int .i64 x10_3 ∧ Aside0 (glossatorlaw23_FiveWhole.l1 kq a0 l1 t340 x7_3 y347 x9_2 x10_3 = some r) ∧ Aside0 (kq ≤ k2) ∧ Aside0 (Kd.R k38 38 w' w.heap.size (fun _ => True) v342 t340) ∧ Aside0 (Kd.R (Kd.int .i64) 3 w' w.heap.size (fun k_ => some k_ ≠ (v348 : Value).ownBlock) v345 x7_3) ∧ Aside0 (Kd.R (Kd.int .i64) 3 w' w.heap.size (fun k_ => some k_ ≠ (v345 : Value).ownBlock) v348 y347) ∧ Aside0 (Below w.heap.size w w'))
      case atStart => exact ⟨(x7_2), ((rd_T38 l1 x9_2).f0.f0), (by first | rfl | (simp; done) | (simp [*]; done) | (simp; exact xEmpty_ne _) | (simp [*]; exact xEmpty_ne _)), H', ⟨Nat.le_refl _⟩, ⟨rl HO_5⟩, ⟨rl HO_7⟩, ⟨rl HO_8⟩, ⟨bl HB⟩⟩
      case round =>
       clear H'; (try clear c1); (try clear c2); (try clear p2); (try clear p3); (try clear q3); (try clear hx3); (try clear c4); (try clear c6); (try clear c7); (try clear c7b0); (try clear c7b1); (try clear c7b2); (try clear c8); (try clear c10); (try clear c10b0); (try clear c10b1); (try clear c11); (try clear c11b0); (try clear c11b1); (try clear c12); (try clear c12b0); (try clear c12b1); (try clear c16); (try clear c20); (try clear c20b0); (try clear c21); (try clear c21b0); (try clear hx350_0); (try clear hx350_1); (try clear hx350_2); (try clear hx350_3); (try clear p2); (try clear p350); (try clear q350); (try clear HO_5); (try clear HO_7); (try clear HO_8); (try clear HB)
       obtain ⟨x7_3, x10_3, rfl, HA, HK3, HO_5, HO_7, HO_8, HB⟩ := hrel
       cases gk with
       | zero => exact absurd HA.out (by simp [glossatorlaw23_FiveWhole.l1])
       | succ k3 =>
        have H := HA.out
        clear HA; simp only [glossatorlaw23_FiveWhole.l1] at H
        by_cases c22 : 0 ≤ x9_2
        rotate_left
        ·rw [if_neg c22] at H; exact absurd H (by simp)
        rw [if_pos c22] at H; have c22b0 : decide (0 ≤ x9_2) = true := decide_eq_true c22; clear c22; by_cases c23 : x9_2 < (l1.length : Int)
        rotate_left
        ·rw [if_neg c23] at H; exact absurd H (by simp)
        rw [if_pos c23] at H; have c23b0 : decide (x9_2 < (l1.length : Int)) = true := decide_eq_true c23; clear c23; by_cases c24 : x10_3 < ((rd_T38 l1 x9_2).f0.f1)
        rotate_left
        ·rw [if_neg c24] at H; have c24b0 : decide (x10_3 < ((rd_T38 l1 x9_2).f0.f1)) = false := decide_eq_false c24; clear c24; have H' := Aside0.mk H; clear H; have p351 : 0 ≤ (x9_2 : Int) := of_decide_eq_true (by first | (with_reducible assumption) | assumption)
         have q351 : x9_2 < (l1.length : Int) := of_decide_eq_true (by first | (with_reducible assumption) | assumption)
         obtain ⟨ad351, e351, hx351_0, hx351_1, hx351_2, hx351_3⟩ := at_T38 HR1.out x9_2 p351 q351
         obtain rfl : ad350 = ad351 := (by injection e351)
         replace hx351_0 := (HB.out.cell (World.block_lt_of_cell? w _ hx351_0)).trans hx351_0; replace hx351_1 := (HB.out.cell (World.block_lt_of_cell? w _ hx351_1)).trans hx351_1; replace hx351_2 := (HB.out.cell (World.block_lt_of_cell? w _ hx351_2)).trans hx351_2; replace hx351_3 := (HB.out.cell (World.block_lt_of_cell? w _ hx351_3)).trans hx351_3; replace p351 := eq_true p351; replace q351 := eq_true q351; go_wp2
         go_roundg k3
         case measure => have := HJ4.out; have := HK2.out; have := HK3.out; omega
         case rel => exact ⟨(x7_3), (wrap64 (x9_2 + 1)), (by first | rfl | (simp; done) | (simp [*]; done) | (simp; exact xEmpty_ne _) | (simp [*]; exact xEmpty_ne _)), H', ⟨by have := HJ4.out; have := HK2.out; have := HK3.out; omega⟩, ⟨rl HO_5⟩, ⟨rl HO_7⟩, ⟨rl HO_8⟩, ⟨bl HB⟩⟩
        rw [if_pos c24] at H; have c24b0 : decide (x10_3 < ((rd_T38 l1 x9_2).f0.f1)) = true := decide_eq_true c24; clear c24; by_cases c25 : 0 ≤ x10_3
        rotate_left
        ·rw [if_neg c25] at H; exact absurd H (by simp)
        rw [if_pos c25] at H; have c25b0 : decide (0 ≤ x10_3) = true := decide_eq_true c25; clear c25; by_cases c26 : x10_3 < (a0.size : Int)
        rotate_left
        ·rw [if_neg c26] at H; exact absurd H (by simp)
        rw [if_pos c26] at H; have c26b0 : decide (x10_3 < (a0.size : Int)) = true := decide_eq_true c26; clear c26; by_cases c28 : (bt a0 x10_3) = 10
        ·rw [if_pos c28] at H; have c28b0 : ((bt a0 x10_3) == 10) = true := beq_iff_eq.mpr c28
         have c28b1 : ((bt a0 x10_3) != 10) = false := bne_eq_false_iff_eq.mpr c28
         clear c28; have H' := Aside0.mk H; clear H; have p351 : 0 ≤ (x9_2 : Int) := of_decide_eq_true (by first | (with_reducible assumption) | assumption)
         have q351 : x9_2 < (l1.length : Int) := of_decide_eq_true (by first | (with_reducible assumption) | assumption)
         obtain ⟨ad351, e351, hx351_0, hx351_1, hx351_2, hx351_3⟩ := at_T38 HR1.out x9_2 p351 q351
         obtain rfl : ad350 = ad351 := (by injection e351)
         replace hx351_0 := (HB.out.cell (World.block_lt_of_cell? w _ hx351_0)).trans hx351_0; replace hx351_1 := (HB.out.cell (World.block_lt_of_cell? w _ hx351_1)).trans hx351_1; replace hx351_2 := (HB.out.cell (World.block_lt_of_cell? w _ hx351_2)).trans hx351_2; replace hx351_3 := (HB.out.cell (World.block_lt_of_cell? w _ hx351_3)).trans hx351_3; replace p351 := eq_true p351; replace q351 := eq_true q351; have p27 : 0 ≤ (x10_3 : Int) := of_decide_eq_true (by first | (with_reducible assumption) | assumption)
         have q27 : x10_3 < (a0.size : Int) := of_decide_eq_true (by first | (with_reducible assumption) | assumption)
         have hx27 := bt_at a0 x10_3
         replace p27 := eq_true p27; replace q27 := eq_true q27; go_wp2
         go_roundg k3
         case measure => have := HJ4.out; have := HK2.out; have := HK3.out; omega
         case rel => exact ⟨(x7_3), (wrap64 (x10_3 + 1)), (by first | rfl | (simp; done) | (simp [*]; done) | (simp; exact xEmpty_ne _) | (simp [*]; exact xEmpty_ne _)), H', ⟨by have := HJ4.out; have := HK2.out; have := HK3.out; omega⟩, ⟨rl HO_5⟩, ⟨rl HO_7⟩, ⟨rl HO_8⟩, ⟨bl HB⟩⟩
        ·rw [if_neg c28] at H; have c28b0 : ((bt a0 x10_3) == 10) = false := beq_eq_false_iff_ne.mpr c28; have c28b1 : ((bt a0 x10_3) != 10) = true := bne_iff_ne.mpr c28; by_cases c30 : (bt a0 x10_3) = 13
         ·rw [if_pos c30] at H; have c30b0 : ((bt a0 x10_3) == 13) = true := beq_iff_eq.mpr c30
          have c30b1 : ((bt a0 x10_3) != 13) = false := bne_eq_false_iff_eq.mpr c30
          clear c30; have H' := Aside0.mk H; clear H; have p351 : 0 ≤ (x9_2 : Int) := of_decide_eq_true (by first | (with_reducible assumption) | assumption)
          have q351 : x9_2 < (l1.length : Int) := of_decide_eq_true (by first | (with_reducible assumption) | assumption)
          obtain ⟨ad351, e351, hx351_0, hx351_1, hx351_2, hx351_3⟩ := at_T38 HR1.out x9_2 p351 q351
          obtain rfl : ad350 = ad351 := (by injection e351)
          replace hx351_0 := (HB.out.cell (World.block_lt_of_cell? w _ hx351_0)).trans hx351_0; replace hx351_1 := (HB.out.cell (World.block_lt_of_cell? w _ hx351_1)).trans hx351_1; replace hx351_2 := (HB.out.cell (World.block_lt_of_cell? w _ hx351_2)).trans hx351_2; replace hx351_3 := (HB.out.cell (World.block_lt_of_cell? w _ hx351_3)).trans hx351_3; replace p351 := eq_true p351; replace q351 := eq_true q351; have p27 : 0 ≤ (x10_3 : Int) := of_decide_eq_true (by first | (with_reducible assumption) | assumption)
          have q27 : x10_3 < (a0.size : Int) := of_decide_eq_true (by first | (with_reducible assumption) | assumption)
          have hx27 := bt_at a0 x10_3
          replace p27 := eq_true p27; replace q27 := eq_true q27; have p29 : 0 ≤ (x10_3 : Int) := of_decide_eq_true (by first | (with_reducible assumption) | assumption)
          have q29 : x10_3 < (a0.size : Int) := of_decide_eq_true (by first | (with_reducible assumption) | assumption)
          have hx29 := bt_at a0 x10_3
          replace p29 := eq_true p29; replace q29 := eq_true q29; go_wp2
          go_roundg k3
          case measure => have := HJ4.out; have := HK2.out; have := HK3.out; omega
          case rel => exact ⟨(x7_3), (wrap64 (x10_3 + 1)), (by first | rfl | (simp; done) | (simp [*]; done) | (simp; exact xEmpty_ne _) | (simp [*]; exact xEmpty_ne _)), H', ⟨by have := HJ4.out; have := HK2.out; have := HK3.out; omega⟩, ⟨rl HO_5⟩, ⟨rl HO_7⟩, ⟨rl HO_8⟩, ⟨bl HB⟩⟩
         ·rw [if_neg c30] at H; have c30b0 : ((bt a0 x10_3) == 13) = false := beq_eq_false_iff_ne.mpr c30; have c30b1 : ((bt a0 x10_3) != 13) = true := bne_iff_ne.mpr c30; by_cases c31 : x10_3 < (x7_3.length : Int)
          ·rw [if_pos c31] at H; have c31b0 : decide (x10_3 < (x7_3.length : Int)) = true := decide_eq_true c31; clear c31; obtain ⟨y354, hy354⟩ : ∃ y_ : List Int, y_ = (x7_3.set (x10_3 : Int).toNat (wrap64 ((wrap64 (1 + (Int.tmod ((rd_T38 l1 x9_2).f1) 1000))) + (wrap64 (1000 * (Int.tmod ((rd_T38 l1 x9_2).f2) 1000)))))) := ⟨_, rfl⟩
           replace H : (glossatorlaw23_FiveWhole.l1 k3 a0 l1 t340 y354 y347 x9_2 (wrap64 (x10_3 + 1))) = some r := by first | (rw [hy354]; with_reducible exact H) | (have H2_ := (Option.bind_some _ _).symm.trans H; rw [hy354]; with_reducible exact H2_) | (have H2_ := (Option.bind_some _ _).symm.trans H; with_reducible exact H2_) | with_reducible exact H | (rw [hy354]; exact H) | exact H
           have Ny354 := Aside0.mk hy354; clear hy354; have H' := Aside0.mk H; clear H; have p351 : 0 ≤ (x9_2 : Int) := of_decide_eq_true (by first | (with_reducible assumption) | assumption)
           have q351 : x9_2 < (l1.length : Int) := of_decide_eq_true (by first | (with_reducible assumption) | assumption)
           obtain ⟨ad351, e351, hx351_0, hx351_1, hx351_2, hx351_3⟩ := at_T38 HR1.out x9_2 p351 q351
           obtain rfl : ad350 = ad351 := (by injection e351)
           replace hx351_0 := (HB.out.cell (World.block_lt_of_cell? w _ hx351_0)).trans hx351_0; replace hx351_1 := (HB.out.cell (World.block_lt_of_cell? w _ hx351_1)).trans hx351_1; replace hx351_2 := (HB.out.cell (World.block_lt_of_cell? w _ hx351_2)).trans hx351_2; replace hx351_3 := (HB.out.cell (World.block_lt_of_cell? w _ hx351_3)).trans hx351_3; replace p351 := eq_true p351; replace q351 := eq_true q351; have p27 : 0 ≤ (x10_3 : Int) := of_decide_eq_true (by first | (with_reducible assumption) | assumption)
           have q27 : x10_3 < (a0.size : Int) := of_decide_eq_true (by first | (with_reducible assumption) | assumption)
           have hx27 := bt_at a0 x10_3
           replace p27 := eq_true p27; replace q27 := eq_true q27; have p29 : 0 ≤ (x10_3 : Int) := of_decide_eq_true (by first | (with_reducible assumption) | assumption)
           have q29 : x10_3 < (a0.size : Int) := of_decide_eq_true (by first | (with_reducible assumption) | assumption)
           have hx29 := bt_at a0 x10_3
           replace p29 := eq_true p29; replace q29 := eq_true q29; try go_wp2
           have n0_ := Aside0.mk (Kd.R_drew HO_5.out); have n1_ := Aside0.mk (Kd.R_drew HO_7.out); have n2_ := Aside0.mk (Kd.R_drew HO_8.out); have n3_ := Aside0.mk (below_drew1 HB.out); clear HO_5; clear HO_7; clear HO_8; clear HB; have HO_5 := n0_; have HO_7 := n1_; have HO_8 := n2_; have HB := n3_; clear n0_ n1_ n2_ n3_; have p352 : 0 ≤ (x9_2 : Int) := of_decide_eq_true (by first | (with_reducible assumption) | assumption)
           have q352 : x9_2 < (l1.length : Int) := of_decide_eq_true (by first | (with_reducible assumption) | assumption)
           obtain ⟨ad352, e352, hx352_0, hx352_1, hx352_2, hx352_3⟩ := at_T38 HR1.out x9_2 p352 q352
           have hw352_3 := hx352_3
           have hw352_2 := hx352_2
           have hw352_1 := hx352_1
           have hw352_0 := hx352_0
           obtain rfl : ad350 = ad352 := (by injection e352)
           replace hx352_0 := (HB.out.cell (World.block_lt_of_cell? w _ hx352_0)).trans hx352_0; replace hx352_1 := (HB.out.cell (World.block_lt_of_cell? w _ hx352_1)).trans hx352_1; replace hx352_2 := (HB.out.cell (World.block_lt_of_cell? w _ hx352_2)).trans hx352_2; replace hx352_3 := (HB.out.cell (World.block_lt_of_cell? w _ hx352_3)).trans hx352_3; replace p352 := eq_true p352; replace q352 := eq_true q352; have p353 : 0 ≤ (x9_2 : Int) := of_decide_eq_true (by first | (with_reducible assumption) | assumption)
           have q353 : x9_2 < (l1.length : Int) := of_decide_eq_true (by first | (with_reducible assumption) | assumption)
           obtain ⟨ad353, e353, hx353_0, hx353_1, hx353_2, hx353_3⟩ := at_T38 HR1.out x9_2 p353 q353
           have hw353_3 := hx353_3
           have hw353_2 := hx353_2
           have hw353_1 := hx353_1
           have hw353_0 := hx353_0
           obtain rfl : ad350 = ad353 := (by injection e353)
           replace hx353_0 := (HB.out.cell (World.block_lt_of_cell? w _ hx353_0)).trans hx353_0; replace hx353_1 := (HB.out.cell (World.block_lt_of_cell? w _ hx353_1)).trans hx353_1; replace hx353_2 := (HB.out.cell (World.block_lt_of_cell? w _ hx353_2)).trans hx353_2; replace hx353_3 := (HB.out.cell (World.block_lt_of_cell? w _ hx353_3)).trans hx353_3; replace p353 := eq_true p353; replace q353 := eq_true q353; have p32 : 0 ≤ (x10_3 : Int) := of_decide_eq_true (by first | (with_reducible assumption) | assumption)
           have q32 : (x10_3 : Int) < ((x7_3.length : Int) : Int) := of_decide_eq_true (by first | (with_reducible assumption) | assumption)
           obtain ⟨go32, co32, eo32, gb32, gl32, cl32, HG32⟩ := Kd.R_form HO_7.out (by omega)
           (first | cases eo32 | (injection eo32 with ea_ en_ ec_; (first | subst ea_ | (injection ea_ with ea_; subst ea_)); subst ec_; clear en_))
           have GB32 := Aside0.mk gb32; have GG32 := Aside0.mk HG32; clear gb32 gl32 HG32; obtain ⟨hx32_0, hf32_0⟩ := Kd.R_celln 0 HO_7.out (x10_3 : Int) p32 q32
           replace p32 := eq_true p32; replace q32 := eq_true q32; have HP34 := Kd.R_putn HO_7.out (x10_3 : Int) (wrap64 ((wrap64 (1 + (Int.tmod ((rd_T38 l1 x9_2).f1) 1000))) + (wrap64 (1000 * (Int.tmod ((rd_T38 l1 x9_2).f2) 1000)))))
           rw [← Ny354.out] at HP34
           have HQ34 := Aside0.mk HP34; clear HP34; refine start_ (n := 19) (S := fun w' => w'.cell? (ad350.add ((x9_2).toNat * 4)) = some (.int .i64 ((rd_T38 l1 x9_2).f0.f0)) ∧ w'.cell? ⟨(ad350.add ((x9_2).toNat * 4)).block, (ad350.add ((x9_2).toNat * 4)).off + 1, none⟩ = some (.int .i64 ((rd_T38 l1 x9_2).f0.f1)) ∧ w'.cell? ⟨(ad350.add ((x9_2).toNat * 4)).block, (ad350.add ((x9_2).toNat * 4)).off + 2, none⟩ = some (.int .i64 ((rd_T38 l1 x9_2).f1)) ∧ w'.cell? ⟨(ad350.add ((x9_2).toNat * 4)).block, (ad350.add ((x9_2).toNat * 4)).off + 3, none⟩ = some (.int .i64 ((rd_T38 l1 x9_2).f2)) ∧ w'.cell? (ad350.add ((x9_2).toNat * 4)) = some (.int .i64 ((rd_T38 l1 x9_2).f0.f0)) ∧ w'.cell? ⟨(ad350.add ((x9_2).toNat * 4)).block, (ad350.add ((x9_2).toNat * 4)).off + 1, none⟩ = some (.int .i64 ((rd_T38 l1 x9_2).f0.f1)) ∧ w'.cell? ⟨(ad350.add ((x9_2).toNat * 4)).block, (ad350.add ((x9_2).toNat * 4)).off + 2, none⟩ = some (.int .i64 ((rd_T38 l1 x9_2).f1)) ∧ w'.cell? ⟨(ad350.add ((x9_2).toNat * 4)).block, (ad350.add ((x9_2).toNat * 4)).off + 3, none⟩ = some (.int .i64 ((rd_T38 l1 x9_2).f2))) (ds := [18]) (bz 19 0) (by kernel_rfl) rfl rfl ⟨((HB.out.cell (World.block_lt_of_cell? w _ hw352_0)).trans hw352_0), ((HB.out.cell (World.block_lt_of_cell? w _ hw352_1)).trans hw352_1), ((HB.out.cell (World.block_lt_of_cell? w _ hw352_2)).trans hw352_2), ((HB.out.cell (World.block_lt_of_cell? w _ hw352_3)).trans hw352_3), ((HB.out.cell (World.block_lt_of_cell? w _ hw353_0)).trans hw353_0), ((HB.out.cell (World.block_lt_of_cell? w _ hw353_1)).trans hw353_1), ((HB.out.cell (World.block_lt_of_cell? w _ hw353_2)).trans hw353_2), ((HB.out.cell (World.block_lt_of_cell? w _ hw353_3)).trans hw353_3)⟩ (fun hHeld => ?_); refine with_tabW glossatorlaw23_FiveWhole.tab16 glossatorlaw23_FiveWhole.bits16 (fun HT_ HW_ => ?_)
           generalize wr.drew = w33 at HO_5 HO_7 HO_8 HB GG32 HQ34 hf32_0 hx32_0 hx352_0 hx352_1 hx352_2 hx352_3 hx353_0 hx353_1 hx353_2 hx353_3 hHeld ⊢
           refine pu 0 (some 71) (bz 19 1) HT_ rfl rfl ?_; refine pu 1 (some 72) (bz 19 3) HT_ rfl rfl ?_; refine pu 2 (some 73) (bz 19 7) HT_ rfl rfl ?_; refine pu 3 (some 74) (bz 19 15) HT_ rfl rfl ?_; refine pu 4 (some 75) (bz 19 31) HT_ rfl rfl ?_; refine pu 5 (some 76) (bz 19 63) HT_ rfl rfl ?_; refine pu 9 (some 80) (bz 19 575) HT_ rfl rfl ?_; refine pu 10 (some 81) (bz 19 1599) HT_ rfl rfl ?_; refine pu 11 (some 82) (bz 19 3647) HT_ rfl rfl ?_; refine pu 12 (some 83) (bz 19 7743) HT_ rfl rfl ?_; refine tk 6 (some 77) (bz 19 7807) HT_ HW_ rfl rfl hHeld ?_; refine pu 7 (some 78) (bz 19 7935) HT_ rfl rfl ?_; refine pu 8 (some 79) (bz 19 8191) HT_ rfl rfl ?_; refine tk 13 (some 84) (bz 19 16383) HT_ HW_ rfl rfl hHeld ?_; refine pu 14 (some 85) (bz 19 32767) HT_ rfl rfl ?_; refine pu 15 (some 86) (bz 19 65535) HT_ rfl rfl ?_; refine pu 16 (some 87) (bz 19 131071) HT_ rfl rfl ?_; refine pu 17 (some 88) (bz 19 262143) HT_ rfl rfl ?_; refine last_ (i := 18) (N := none) (bz 19 524287) rfl rfl (one_of HT_.out (by kernel_rfl)) (by decide) (fun K hK => ?_)
           refine skip_ (w1 := ?_) (by rfl) rfl ?_ ?_
           rotate_left
           ·go_simp
            rfl
           refine hK.out _ _ ?_
           clear hK K; refine done_ (done_of HT_.out (by kernel_rfl)) ?_
           try go_wp2
           go_roundg k3
           case measure => have := HJ4.out; have := HK2.out; have := HK3.out; omega
           case rel => exact ⟨(y354), (wrap64 (x10_3 + 1)), (by first | rfl | (simp; done) | (simp [*]; done) | (simp; exact xEmpty_ne _) | (simp [*]; exact xEmpty_ne _)), H', ⟨by have := HJ4.out; have := HK2.out; have := HK3.out; omega⟩, ⟨by (with_reducible repeat (first | apply Kd.R_alloc | apply Kd.R_drewN | apply Kd.R_drew)); exact Kd.R_mono (Kd.R_far (p := ⟨go32, (x10_3 : Int).toNat, none⟩) (Kd.R_types HO_5.out GG32.out (by decide)) (fun _ hk => hk.2) (.int .i64 (wrap64 ((wrap64 (1 + (Int.tmod ((rd_T38 l1 x9_2).f1) 1000))) + (wrap64 (1000 * (Int.tmod ((rd_T38 l1 x9_2).f2) 1000))))))) (fun _ hk => trivial)⟩, ⟨by (with_reducible repeat (first | apply Kd.R_alloc | apply Kd.R_drewN | apply Kd.R_drew)); exact HQ34.out⟩, ⟨by (with_reducible repeat (first | apply Kd.R_alloc | apply Kd.R_drewN | apply Kd.R_drew)); exact Kd.R_mono (Kd.R_far (p := ⟨go32, (x10_3 : Int).toNat, none⟩) (Kd.R_mono HO_8.out (fun k_ hk => (⟨hk, fun e_ => hk (by rw [e_]; rfl)⟩ : _ ∧ k_ ≠ go32))) (fun _ hk => hk.2) (.int .i64 (wrap64 ((wrap64 (1 + (Int.tmod ((rd_T38 l1 x9_2).f1) 1000))) + (wrap64 (1000 * (Int.tmod ((rd_T38 l1 x9_2).f2) 1000))))))) (fun _ hk => hk.1)⟩, ⟨by repeat (first | (with_reducible first | exact HB.out | apply below_alloc | apply pw_below_drewN | apply below_drew1 | refine below_set ?_ GB32.out) | exact HB.out)⟩⟩
          ·rw [if_neg c31] at H; exact absurd H (by simp)
/-- THE ONE PURE STATEMENT of glossatorlaw23_FiveWhole. -/
def glossatorlaw23_FiveWhole.Pure : Prop := ∀ (p0 : ByteArray) (p1 : List (S38)), p0.size ≤ 140737488351232 → (p1.length ≤ maxLen ∧ p1.length * 32 ≤ 140737488351232 ∧ (∀ x ∈ p1, (fun x : S38 => Wf38 x) x)) → ∃ k, glossatorlaw23_FiveWhole.f k p0 p1 = some true
end Go.Proofs.YtbjhmknahldhaaaDoor.Q

end
section
namespace Go.Proofs.YtbjhmknahldhaaaDoor.Pure
open Go Go.RowKit Go.Proofs.YtbjhmknahldhaaaDoor.Q Go.Proofs.YtbjhmknahldhaaaDoorW.PrintWords Go.Proofs.YtbjhmknahldhaaaDoorW.PrintLast Go.Proofs.YtbjhmknahldhaaaDoorW.PrintMore Go.Proofs.YtbjhmknahldhaaaDoor.XEv Go.Proofs.YtbjhmknahldhaaaDoor.XUtfT Go.Proofs.YtbjhmknahldhaaaDoor.XWchars Go.Proofs.YtbjhmknahldhaaaDoor.XLines Go.Proofs.YtbjhmknahldhaaaDoor.XYlines Go.Proofs.YtbjhmknahldhaaaDoor.XFive
set_option linter.unusedVariables false
set_option linter.unusedSimpArgs false
instance fwB (s : ByteArray) (j : Nat) : Decidable (isB s j) := by unfold isB; exact inferInstance
/-- What a mark is written as. -/
def fwV (m : Mk) : Int := wrap64 ((wrap64 (1 + (Int.tmod m.f1 1000))) + (wrap64 (1000 * (Int.tmod m.f2 1000))))
/-- Numbers of places. -/
def fwL (n : Nat) (w : Nat → Int) : List Int := (List.range n).map w
theorem fwL_len (n : Nat) (w : Nat → Int) : (fwL n w).length = n := by unfold fwL; rw [List.length_map, List.length_range]
theorem fwL_rd (n : Nat) (w : Nat → Int) (k : Nat) (h : k < n) : rd (fwL n w) (k : Int) = w k := by
  refine rd_of ?_
  unfold fwL
  rw [List.getElem?_map, List.getElem?_range h]; rfl
theorem fwL_set (n : Nat) (w : Nat → Int) (k : Nat) (v : Int) : (fwL n w).set k v = fwL n (fun j => if j = k then v else w j) := by
  unfold fwL
  refine List.ext_getElem (by simp) (fun i h1 h2 => ?_)
  simp only [List.getElem_set, List.getElem_map, List.getElem_range]
  by_cases h : k = i
  · rw [if_pos h, if_pos h.symm]
  · rw [if_neg h, if_neg (fun e => h e.symm)]
theorem fwL_zero (n : Nat) : List.replicate n (0 : Int) = fwL n (fun _ => 0) := by
  refine List.ext_getElem (by simp [fwL]) (fun i h1 h2 => ?_)
  simp [fwL]
/-- A mark is written over places, but for lines' ends; a piece over places. -/
def ptw (s : ByteArray) (m : Mk) (w : Nat → Int) : Nat → Int := fun j => if m.f0.f0 ≤ (j : Int) ∧ (j : Int) < m.f0.f1 ∧ ¬ isB s j then fwV m else w j
def pt (m : Mk) (w : Nat → Int) : Nat → Int := fun j => if m.f0.f0 ≤ (j : Int) ∧ (j : Int) < m.f0.f1 then fwV m else w j
/-- The line of a place that is no line's end. -/
theorem fw_line (s : ByteArray) (k : Nat) (hk : k < s.size) (hb : ¬ isB s k) : ∃ (n : Nat) (x : Ln s), (lns s)[n]? = some x ∧ x.1.2.1 ≤ k ∧ k < x.1.2.2 := by
  have key : ∀ (d n : Nat) (x : Ln s), (lns s).length = n + d → (lns s)[n]? = some x → x.1.2.1 ≤ k → ∃ (n : Nat) (x : Ln s), (lns s)[n]? = some x ∧ x.1.2.1 ≤ k ∧ ∀ y, (lns s)[n + 1]? = some y → k < y.1.2.1 := by
    intro d
    induction d with
    | zero => intro n x hd hx _; have := (List.getElem?_eq_some_iff.1 hx).1; omega
    | succ d ih =>
      intro n x hd hx hle
      cases hy : (lns s)[n + 1]? with
      | none => exact ⟨n, x, hx, hle, fun y h => by rw [hy] at h; cases h⟩
      | some y =>
        by_cases h : y.1.2.1 ≤ k
        · exact ih (n + 1) y (by omega) hy h
        · exact ⟨n, x, hx, hle, fun z hz => by rw [hy] at hz; obtain rfl := Option.some.inj hz; omega⟩
  obtain ⟨x0, h0, h00⟩ := ln_first s
  obtain ⟨n, x, hx, hle, hn⟩ := key (lns s).length 0 x0 (by omega) h0 (by omega)
  refine ⟨n, x, hx, hle, Nat.lt_of_not_le fun hge => hb ?_⟩
  obtain ⟨e, _, _, _, h4, h5, h6⟩ := st_next s n x hx
  refine h6 k hge ?_
  cases hy : (lns s)[n + 1]? with
  | none => rw [h5 hy]; omega
  | some y => have := hn y hy; rw [h4 y hy]; omega
theorem fw_fold (P : List Mk) (v : Int) (w : Nat → Int) (j : Nat) (hv : ∀ p ∈ P, fwV p = v) : (P.foldl (fun w p => pt p w) w) j = if ∃ p ∈ P, p.f0.f0 ≤ (j : Int) ∧ (j : Int) < p.f0.f1 then v else w j := by
  induction P generalizing w with
  | nil => simp
  | cons p P ih =>
    rw [List.foldl_cons, ih _ (fun q hq => hv q (List.mem_cons_of_mem _ hq))]
    by_cases h1 : ∃ q ∈ P, q.f0.f0 ≤ (j : Int) ∧ (j : Int) < q.f0.f1
    · obtain ⟨q, hq, hq2⟩ := h1
      rw [if_pos ⟨q, hq, hq2⟩, if_pos ⟨q, List.mem_cons_of_mem _ hq, hq2⟩]
    · rw [if_neg h1]
      unfold pt
      by_cases h2 : p.f0.f0 ≤ (j : Int) ∧ (j : Int) < p.f0.f1
      · rw [if_pos h2, if_pos ⟨p, List.mem_cons_self .., h2⟩, hv p (List.mem_cons_self ..)]
      · rw [if_neg h2, if_neg]
        rintro ⟨q, hq, hq2⟩
        rcases List.mem_cons.1 hq with rfl | hq
        · exact h2 hq2
        · exact h1 ⟨q, hq, hq2⟩
theorem fw_one (s : ByteArray) (m : Mk) (o : Ok s m) (w : Nat → Int) : (pcs1 s m).foldl (fun w p => pt p w) w = ptw s m w := by
  funext j
  have hp : ∀ p ∈ pcs1 s m, ∃ (n : Nat) (x : Ln s), (lns s)[n]? = some x ∧ pc s m x = some p := by
    intro p hp
    obtain ⟨x, hx, hpx⟩ := List.mem_filterMap.1 hp
    obtain ⟨n, hn, hn2⟩ := List.getElem_of_mem hx
    exact ⟨n, x, by rw [← hn2]; exact List.getElem?_eq_getElem hn, hpx⟩
  rw [fw_fold _ (fwV m) w j (fun p h => by
    obtain ⟨n, x, hx, hpx⟩ := hp p h
    obtain ⟨_, _, _, _, e1, e2⟩ := pc_in hx o hpx
    unfold fwV; rw [e1, e2])]
  unfold ptw
  have hiff : (∃ p ∈ pcs1 s m, p.f0.f0 ≤ (j : Int) ∧ (j : Int) < p.f0.f1) ↔ (m.f0.f0 ≤ (j : Int) ∧ (j : Int) < m.f0.f1 ∧ ¬ isB s j) := by
    constructor
    · rintro ⟨p, hpm, h1, h2⟩
      obtain ⟨n, x, hx, hpx⟩ := hp p hpm
      obtain ⟨hi, _, g1, g2, _, _⟩ := pc_in hx o hpx
      obtain ⟨_, _, _, _, _, hnb, _⟩ := ln s n x hx
      have := hi.lo
      have := hi.hi
      exact ⟨by omega, by omega, hnb j (by omega) (by omega)⟩
    · rintro ⟨h1, h2, h3⟩
      have := o.h2
      obtain ⟨n, x, hx, g1, g2⟩ := fw_line s j (by omega) h3
      have m1 := mx_le m.f0.f0 (x.1.2.1 : Int)
      have m2 := mn_le m.f0.f1 (x.1.2.2 : Int)
      refine ⟨_, List.mem_filterMap.2 ⟨x, List.mem_of_getElem? hx, if_pos (by omega)⟩, ?_, ?_⟩
      · show mx m.f0.f0 (x.1.2.1 : Int) ≤ _; omega
      · show _ < mn m.f0.f1 (x.1.2.2 : Int); omega
  by_cases h : ∃ p ∈ pcs1 s m, p.f0.f0 ≤ (j : Int) ∧ (j : Int) < p.f0.f1
  · rw [if_pos h, if_pos (hiff.1 h)]
  · rw [if_neg h, if_neg (fun g => h (hiff.2 g))]
theorem fw_all (s : ByteArray) : ∀ (L : List Mk) (a : Int) (w : Nat → Int), Row s a L → L.foldl (fun w m => ptw s m w) w = (pcs s L).foldl (fun w p => pt p w) w
  | [], _, _, _ => rfl
  | m :: r, a, w, h => by
    cases h with
    | cons h o t =>
      have e : pcs s (m :: r) = pcs1 s m ++ pcs s r := by unfold pcs; rw [List.flatMap_cons]
      rw [List.foldl_cons, e, List.foldl_append, fw_one s m o, fw_all s r _ _ t]
section
variable (s : ByteArray) (hs : s.size ≤ 5000) (L P : List Mk) (hL : L.length ≤ 100000) (hP : P.length ≤ 100000)
include hs hL
theorem fw_l1 {W : List Int} {i : Nat} {m : Mk} {r : Bool} (hm : L[i]? = some m) (o : Ok s m) :
    ∀ (d k : Nat) (w : Nat → Int), m.f0.f1 = (k : Int) + d → m.f0.f0 ≤ (k : Int) →
      (Ev (fun n => glossatorlaw23_FiveWhole.l0 n s L P (fwL s.size (fun j => if (k : Int) ≤ (j : Int) ∧ (j : Int) < m.f0.f1 ∧ ¬ isB s j then fwV m else w j)) W ((i + 1 : Nat) : Int)) r) →
      Ev (fun n => glossatorlaw23_FiveWhole.l1 n s L P (fwL s.size w) W (i : Int) (k : Int)) r := by
  have hi := (List.getElem?_eq_some_iff.1 hm).1
  have c1 : (0 : Int) ≤ (i : Int) := by omega
  have c2 : (i : Int) < (L.length : Int) := by omega
  have hrd : rd_T38 L (i : Int) = m := by
    unfold rd_T38
    rw [List.getD_eq_getElem?_getD, show ((i : Int)).toNat = i from rfl, hm]; rfl
  have o2 := o.h2
  have hi9 : i < 9223372036854775807 := by omega
  intro d
  induction d with
  | zero =>
    intro k w hd hk h
    have c3 : ¬ (k : Int) < m.f0.f1 := by omega
    refine up ?_
    simp only [glossatorlaw23_FiveWhole.l1, if_pos c1, if_pos c2, hrd, if_neg c3, w1 i hi9]
    have e : (fun j : Nat => if (k : Int) ≤ (j : Int) ∧ (j : Int) < m.f0.f1 ∧ ¬ isB s j then fwV m else w j) = w := by
      funext j
      exact if_neg (fun h => by omega)
    rw [e] at h
    exact h
  | succ d ih =>
    intro k w hd hk h
    have c3 : (k : Int) < m.f0.f1 := by omega
    have c4 : (0 : Int) ≤ (k : Int) := by omega
    have c5 : (k : Int) < (s.size : Int) := by omega
    have c6 : (k : Int) < ((fwL s.size w).length : Int) := by rw [fwL_len]; omega
    have hk9 : k < 9223372036854775807 := by omega
    have htk : ((k : Int)).toNat = k := rfl
    refine up ?_
    simp only [glossatorlaw23_FiveWhole.l1, if_pos c1, if_pos c2, hrd, if_pos c3, if_pos c4, if_pos c5, bt_nat, w1 k hk9]
    by_cases hb : isB s k
    · have e : (fun j : Nat => if (k : Int) ≤ (j : Int) ∧ (j : Int) < m.f0.f1 ∧ ¬ isB s j then fwV m else w j) = (fun j : Nat => if ((k + 1 : Nat) : Int) ≤ (j : Int) ∧ (j : Int) < m.f0.f1 ∧ ¬ isB s j then fwV m else w j) := by
        funext j
        by_cases hj : j = k
        · subst hj; rw [if_neg (fun h => h.2.2 hb), if_neg (fun h => h.2.2 hb)]
        · by_cases h1 : (k : Int) ≤ (j : Int) ∧ (j : Int) < m.f0.f1 ∧ ¬ isB s j
          · rw [if_pos h1, if_pos ⟨by omega, h1.2⟩]
          · rw [if_neg h1, if_neg (fun h => h1 ⟨by omega, h.2⟩)]
      rw [e] at h
      have hnext := ih (k + 1) w (by omega) (by omega) h
      rcases hb.2 with h10 | h13
      · have q : (B s k : Int) = 10 := by omega
        simp only [if_pos q]; exact hnext
      · have q : ¬ (B s k : Int) = 10 := by omega
        have q2 : (B s k : Int) = 13 := by omega
        simp only [if_neg q, if_pos q2]; exact hnext
    · have q : ¬ (B s k : Int) = 10 := fun e => hb ⟨by omega, .inl (by omega)⟩
      have q2 : ¬ (B s k : Int) = 13 := fun e => hb ⟨by omega, .inr (by omega)⟩
      simp only [if_neg q, if_neg q2, if_pos c6, htk, fwL_set]
      refine ih (k + 1) _ (by omega) (by omega) ?_
      have e : (fun j : Nat => if (k : Int) ≤ (j : Int) ∧ (j : Int) < m.f0.f1 ∧ ¬ isB s j then fwV m else w j) = (fun j : Nat => if ((k + 1 : Nat) : Int) ≤ (j : Int) ∧ (j : Int) < m.f0.f1 ∧ ¬ isB s j then fwV m else if j = k then fwV m else w j) := by
        funext j
        by_cases hj : j = k
        · subst hj; rw [if_pos ⟨by omega, c3, hb⟩, if_neg (fun h => by omega), if_pos rfl]
        · rw [if_neg hj]
          by_cases h1 : (k : Int) ≤ (j : Int) ∧ (j : Int) < m.f0.f1 ∧ ¬ isB s j
          · rw [if_pos h1, if_pos ⟨by omega, h1.2⟩]
          · rw [if_neg h1, if_neg (fun h => h1 ⟨by omega, h.2⟩)]
      rw [e] at h
      exact h
theorem fw_l0 {W : List Int} {r : Bool} : ∀ (d i : Nat) (a : Int) (w : Nat → Int), L.length = i + d → 0 ≤ a → Row s a (L.drop i) →
    Ev (fun n => glossatorlaw23_FiveWhole.l2 n P (fwL s.size ((L.drop i).foldl (fun w m => ptw s m w) w)) W 0) r → Ev (fun n => glossatorlaw23_FiveWhole.l0 n s L P (fwL s.size w) W (i : Int)) r := by
  intro d
  induction d with
  | zero =>
    intro i a w hd _ _ h
    have c1 : ¬ (i : Int) < (L.length : Int) := by omega
    rw [List.drop_eq_nil_of_le (by omega)] at h
    refine up ?_
    simp only [glossatorlaw23_FiveWhole.l0, if_neg c1]
    exact h
  | succ d ih =>
    intro i a w hd ha hrow h
    have hi : i < L.length := by omega
    have c1 : (i : Int) < (L.length : Int) := by omega
    have c2 : (0 : Int) ≤ (i : Int) := by omega
    obtain ⟨m, hm⟩ : ∃ m, L[i]? = some m := ⟨_, List.getElem?_eq_getElem hi⟩
    have hrd : rd_T38 L (i : Int) = m := by
      unfold rd_T38
      rw [List.getD_eq_getElem?_getD, show ((i : Int)).toNat = i from rfl, hm]; rfl
    rw [List.drop_eq_getElem_cons hi, show L[i] = m from Option.some.inj ((List.getElem?_eq_getElem hi).symm.trans hm)] at hrow h
    cases hrow with
    | cons hle o t =>
      have o1 := o.h1
      refine up ?_
      simp only [glossatorlaw23_FiveWhole.l0, if_pos c1, if_pos c2, hrd]
      obtain ⟨k, hk⟩ : ∃ k : Nat, m.f0.f0 = (k : Int) := ⟨m.f0.f0.toNat, by omega⟩
      rw [hk]
      refine fw_l1 s hs L P hL hm o (m.f0.f1.toNat - k) k w (by omega) (by omega) ?_
      refine ih (i + 1) m.f0.f1 _ (by omega) (by omega) t ?_
      rw [List.foldl_cons] at h
      rw [← hk]
      exact h
omit hL
include hP
theorem fw_l3 {W : List Int} {i : Nat} {p : Mk} {r : Bool} (hp : P[i]? = some p) (o : Ok s p) :
    ∀ (d k : Nat) (w : Nat → Int), p.f0.f1 = (k : Int) + d → (∀ j : Nat, k ≤ j → w j = 0) →
      (Ev (fun n => glossatorlaw23_FiveWhole.l2 n P W (fwL s.size (fun j => if (k : Int) ≤ (j : Int) ∧ (j : Int) < p.f0.f1 then fwV p else w j)) ((i + 1 : Nat) : Int)) r) →
      Ev (fun n => glossatorlaw23_FiveWhole.l3 n P W (fwL s.size w) (i : Int) (k : Int)) r := by
  have hi := (List.getElem?_eq_some_iff.1 hp).1
  have c1 : (0 : Int) ≤ (i : Int) := by omega
  have c2 : (i : Int) < (P.length : Int) := by omega
  have hrd : rd_T38 P (i : Int) = p := by
    unfold rd_T38
    rw [List.getD_eq_getElem?_getD, show ((i : Int)).toNat = i from rfl, hp]; rfl
  have o2 := o.h2
  have hi9 : i < 9223372036854775807 := by omega
  intro d
  induction d with
  | zero =>
    intro k w hd _ h
    have c3 : ¬ (k : Int) < p.f0.f1 := by omega
    refine up ?_
    simp only [glossatorlaw23_FiveWhole.l3, if_pos c1, if_pos c2, hrd, if_neg c3, w1 i hi9]
    have e : (fun j : Nat => if (k : Int) ≤ (j : Int) ∧ (j : Int) < p.f0.f1 then fwV p else w j) = w := by
      funext j
      exact if_neg (fun h => by omega)
    rw [e] at h
    exact h
  | succ d ih =>
    intro k w hd hw h
    have c3 : (k : Int) < p.f0.f1 := by omega
    have c4 : (0 : Int) ≤ (k : Int) := by omega
    have c6 : (k : Int) < ((fwL s.size w).length : Int) := by rw [fwL_len]; omega
    have hk9 : k < 9223372036854775807 := by omega
    have htk : ((k : Int)).toNat = k := rfl
    have hr0 : rd (fwL s.size w) (k : Int) = 0 := by rw [fwL_rd _ _ _ (by omega)]; exact hw k (Nat.le_refl _)
    refine up ?_
    simp only [glossatorlaw23_FiveWhole.l3, if_pos c1, if_pos c2, hrd, if_pos c3, if_pos c4, if_pos c6, hr0, if_true, w1 k hk9, htk, fwL_set]
    refine ih (k + 1) _ (by omega) (fun j hj => by rw [if_neg (by omega)]; exact hw j (by omega)) ?_
    have e : (fun j : Nat => if (k : Int) ≤ (j : Int) ∧ (j : Int) < p.f0.f1 then fwV p else w j) = (fun j : Nat => if ((k + 1 : Nat) : Int) ≤ (j : Int) ∧ (j : Int) < p.f0.f1 then fwV p else if j = k then fwV p else w j) := by
      funext j
      by_cases hj : j = k
      · subst hj; rw [if_pos ⟨by omega, c3⟩, if_neg (fun h => by omega), if_pos rfl]
      · rw [if_neg hj]
        by_cases h1 : (k : Int) ≤ (j : Int) ∧ (j : Int) < p.f0.f1
        · rw [if_pos h1, if_pos ⟨by omega, h1.2⟩]
        · rw [if_neg h1, if_neg (fun h => h1 ⟨by omega, h.2⟩)]
    rw [e] at h
    exact h
theorem fw_l2 {W : List Int} (hW : W.length ≤ 1000000) : ∀ (d i : Nat) (a : Int) (w : Nat → Int), P.length = i + d → 0 ≤ a → PRow s a (P.drop i) → (∀ j : Nat, a ≤ (j : Int) → w j = 0) →
    W = fwL s.size ((P.drop i).foldl (fun w p => pt p w) w) → Ev (fun n => glossatorlaw23_FiveWhole.l2 n P W (fwL s.size w) (i : Int)) true := by
  intro d
  induction d with
  | zero =>
    intro i a w hd _ _ _ h
    have c1 : ¬ (i : Int) < (P.length : Int) := by omega
    rw [List.drop_eq_nil_of_le (by omega)] at h
    refine up ?_
    simp only [glossatorlaw23_FiveWhole.l2, if_neg c1]
    rw [show fwL s.size w = W from h.symm]
    exact bind (same23 W (by omega)) (now fun _ => rfl)
  | succ d ih =>
    intro i a w hd ha hrow hw h
    have hi : i < P.length := by omega
    have c1 : (i : Int) < (P.length : Int) := by omega
    have c2 : (0 : Int) ≤ (i : Int) := by omega
    obtain ⟨m, hm⟩ : ∃ m, P[i]? = some m := ⟨_, List.getElem?_eq_getElem hi⟩
    have hrd : rd_T38 P (i : Int) = m := by
      unfold rd_T38
      rw [List.getD_eq_getElem?_getD, show ((i : Int)).toNat = i from rfl, hm]; rfl
    rw [List.drop_eq_getElem_cons hi, show P[i] = m from Option.some.inj ((List.getElem?_eq_getElem hi).symm.trans hm)] at hrow h
    cases hrow with
    | cons hle o hin t =>
      have o1 := o.h1
      have hlt := hin.lt
      have c3 : ¬ m.f0.f0 ≥ m.f0.f1 := by omega
      refine up ?_
      simp only [glossatorlaw23_FiveWhole.l2, if_pos c1, if_pos c2, hrd, if_neg c3]
      obtain ⟨k, hk⟩ : ∃ k : Nat, m.f0.f0 = (k : Int) := ⟨m.f0.f0.toNat, by omega⟩
      rw [hk]
      refine fw_l3 s hs P hP hm o (m.f0.f1.toNat - k) k w (by omega) (fun j hj => hw j (by omega)) ?_
      refine ih (i + 1) m.f0.f1 _ (by omega) (by omega) t (fun j hj => ?_) ?_
      · rw [if_neg (by omega)]; exact hw j (by omega)
      · rw [List.foldl_cons] at h
        rw [← hk]
        exact h
end
theorem FiveWhole : glossatorlaw23_FiveWhole.Pure := by
  intro s l hsz hl
  refine Ev.rounds (g := fun k => glossatorlaw23_FiveWhole.f k s l) ?_
  simp only [glossatorlaw23_FiveWhole.f]
  refine bind awake ?_
  simp only [if_true]
  by_cases h : (s.size : Int) > 5000
  · simp only [if_pos h]
    refine up ?_
    simp only [glossatorlaw23_FiveWhole.j0, if_true]
    exact now fun _ => rfl
  simp only [if_neg h]
  by_cases h2 : (l.length : Int) > 1000
  · simp only [decide_eq_true h2]
    refine up ?_
    simp only [glossatorlaw23_FiveWhole.j0, if_true]
    exact now fun _ => rfl
  simp only [decide_eq_false h2]
  refine up ?_
  have c1 : (0 : Int) ≤ (s.size : Int) := by omega
  have c2 : s.size ≤ 35184372088832 := by omega
  have ht : ((s.size : Int)).toNat = s.size := rfl
  simp only [glossatorlaw23_FiveWhole.j0, Bool.false_eq_true, if_false]
  refine bind (pieces s (by omega) l (by omega)) ?_
  by_cases hr : rgt s 0 l = true
  case neg =>
    have c : ¬ (230 : Int) = 0 := by omega
    simp only [if_neg hr, if_neg c]
    exact now fun _ => rfl
  have hrow := row_of_rgt s l 0 (by omega) hr
  have hprow := pcs_row hrow
  have hpl := hprow.len (by omega)
  simp only [if_pos hr, if_true, if_pos c1, ht, if_pos c2, fwL_zero]
  refine fw_l0 s (by omega) l (pcs s l) (by omega) l.length 0 0 _ (by omega) (by omega) (by rw [List.drop_zero]; exact hrow) ?_
  refine fw_l2 s (by omega) (pcs s l) (by omega) (by rw [fwL_len]; omega) (pcs s l).length 0 0 _ (by omega) (by omega) (by rw [List.drop_zero]; exact hprow) (fun _ _ => rfl) ?_
  rw [List.drop_zero, List.drop_zero, fw_all s l 0 _ hrow]
end Go.Proofs.YtbjhmknahldhaaaDoor.Pure

end
