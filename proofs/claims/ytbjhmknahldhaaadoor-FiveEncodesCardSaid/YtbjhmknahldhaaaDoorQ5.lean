-- Written by this repo's wip/xprint.py (over the kit's print.py) out of the translation. Not trusted: Lean checks it.
import Derived.Test.YtbjhmknahldhaaaDoorQ0
import Derived.Test.YtbjhmknahldhaaaDoorQ3
import Derived.Test.YtbjhmknahldhaaaDoorQ4
namespace Go.Proofs.YtbjhmknahldhaaaDoor.Q
open Go.RowKit Go.Proofs.YtbjhmknahldhaaaDoorW.PrintWords Go.Proofs.YtbjhmknahldhaaaDoorW.PrintLast Go.Proofs.YtbjhmknahldhaaaDoorW.PrintMore
attribute [local go_sem] max2_int min2_int max_two min_two max_three min_three max_four min_four   -- for this text's walks alone
set_option linter.unusedVariables false
set_option linter.unusedSimpArgs false

/-! ### glossatorref23_Pieces: function 9 -/
mutual
def glossatorref23_Pieces.l0 : Nat → ByteArray → List (S38) → List (S36) → Int → Option ((List (S38)) × Int)
 | 0, _, _, _, _ => none
 | k + 1, x0, x1, x6, x7 => (glossatorref02_Many.f k x0).bind fun t135 => (if x7 < t135 then ((glossatorref02_Line.f k x0 x7).bind fun bt136 => (if x6.length < 8796093022208 then (glossatorref23_Pieces.l0 k x0 x1 (x6 ++ [(⟨bt136.1, bt136.2.1⟩ : S36)]) (wrap64 (x7 + 1))) else (none))) else (glossatorref23_Pieces.l1 k x1 x6 ([] : List (S38)) 0))
def glossatorref23_Pieces.l1 : Nat → List (S38) → List (S36) → List (S38) → Int → Option ((List (S38)) × Int)
 | 0, _, _, _, _ => none
 | k + 1, x1, x6, x10, x11 => if x11 < (x1.length : Int) then (glossatorref23_Pieces.l2 k x1 x6 x10 x11 0) else (some (x10, 0))
def glossatorref23_Pieces.l2 : Nat → List (S38) → List (S36) → List (S38) → Int → Int → Option ((List (S38)) × Int)
 | 0, _, _, _, _, _ => none
 | k + 1, x1, x6, x10, x11, x12 => if x12 < (x6.length : Int) then (if 0 ≤ x11 then (if x11 < (x1.length : Int) then (if 0 ≤ x12 then (if ((rd_T36 x6 x12).f0) > ((rd_T38 x1 x11).f0.f0) then (glossatorref23_Pieces.j3 k x1 x6 x10 x11 x12 ((rd_T36 x6 x12).f0) ((rd_T38 x1 x11).f0.f1)) else (glossatorref23_Pieces.j3 k x1 x6 x10 x11 x12 ((rd_T38 x1 x11).f0.f0) ((rd_T38 x1 x11).f0.f1))) else (none)) else (none)) else (none)) else (glossatorref23_Pieces.l1 k x1 x6 x10 (wrap64 (x11 + 1)))
def glossatorref23_Pieces.j3 : Nat → List (S38) → List (S36) → List (S38) → Int → Int → Int → Int → Option ((List (S38)) × Int)
 | 0, _, _, _, _, _, _, _ => none
 | k + 1, x1, x6, x10, x11, x12, x145000, x145001 => if 0 ≤ x12 then (if x12 < (x6.length : Int) then (if ((rd_T36 x6 x12).f1) < x145001 then (if x145000 < ((rd_T36 x6 x12).f1) then (if 0 ≤ x11 then (if x11 < (x1.length : Int) then (if x10.length < 4398046511104 then (glossatorref23_Pieces.l2 k x1 x6 (x10 ++ [(⟨(⟨x145000, (rd_T36 x6 x12).f1⟩ : S36), (rd_T38 x1 x11).f1, (rd_T38 x1 x11).f2⟩ : S38)]) x11 (wrap64 (x12 + 1))) else (none)) else (none)) else (none)) else (glossatorref23_Pieces.l2 k x1 x6 x10 x11 (wrap64 (x12 + 1)))) else (if x145000 < x145001 then (if 0 ≤ x11 then (if x11 < (x1.length : Int) then (if x10.length < 4398046511104 then (glossatorref23_Pieces.l2 k x1 x6 (x10 ++ [(⟨(⟨x145000, x145001⟩ : S36), (rd_T38 x1 x11).f1, (rd_T38 x1 x11).f2⟩ : S38)]) x11 (wrap64 (x12 + 1))) else (none)) else (none)) else (none)) else (glossatorref23_Pieces.l2 k x1 x6 x10 x11 (wrap64 (x12 + 1))))) else (none)) else (none)
end
def glossatorref23_Pieces.f (k : Nat) (a0 : ByteArray) (l1 : List (S38)) : Option ((List (S38)) × Int) := (glossatorref23_Right.f k a0 l1).bind fun t134 => (if t134 = true then (glossatorref23_Pieces.l0 k a0 l1 ([] : List (S36)) 0) else (some (([] : List (S38)), 230)))
theorem glossatorref23_Pieces.mono_l : ∀ k, (∀ y0 y1 y2 y3, LeO (glossatorref23_Pieces.l0 k y0 y1 y2 y3) (glossatorref23_Pieces.l0 (k + 1) y0 y1 y2 y3)) ∧ (∀ y0 y1 y2 y3, LeO (glossatorref23_Pieces.l1 k y0 y1 y2 y3) (glossatorref23_Pieces.l1 (k + 1) y0 y1 y2 y3)) ∧ (∀ y0 y1 y2 y3 y4, LeO (glossatorref23_Pieces.l2 k y0 y1 y2 y3 y4) (glossatorref23_Pieces.l2 (k + 1) y0 y1 y2 y3 y4)) ∧ (∀ y0 y1 y2 y3 y4 y5 y6, LeO (glossatorref23_Pieces.j3 k y0 y1 y2 y3 y4 y5 y6) (glossatorref23_Pieces.j3 (k + 1) y0 y1 y2 y3 y4 y5 y6))
 | 0 => ⟨fun _ _ _ _ r h => by simp [glossatorref23_Pieces.l0] at h, fun _ _ _ _ r h => by simp [glossatorref23_Pieces.l1] at h, fun _ _ _ _ _ r h => by simp [glossatorref23_Pieces.l2] at h, fun _ _ _ _ _ _ _ r h => by simp [glossatorref23_Pieces.j3] at h⟩
 | k + 1 => by
  obtain ⟨ih0, ih1, ih2, ih3⟩ := glossatorref23_Pieces.mono_l k
  refine ⟨?_, ?_, ?_, ?_⟩
  ·intro y0 y1 y2 y3
   unfold glossatorref23_Pieces.l0
   repeat' first
   | (with_reducible exact ih0 _ _ _ _)
   | (with_reducible exact ih1 _ _ _ _)
   | (with_reducible exact ih2 _ _ _ _ _)
   | (with_reducible exact ih3 _ _ _ _ _ _ _)
   | (with_reducible exact glossatorref02_Line.mono _ _ _)
   | (with_reducible exact glossatorref02_Many.mono _ _)
   | (with_reducible exact glossatorref23_Right.mono _ _ _)
   | (with_reducible exact LeO.refl _)
   | (with_reducible exact LeO.none _)
   | (with_reducible refine LeO.ite ?_ ?_)
   | (with_reducible refine LeO.bind ?_ (fun _ => ?_))
   | exact ih0 _ _ _ _
   | exact ih1 _ _ _ _
   | exact ih2 _ _ _ _ _
   | exact ih3 _ _ _ _ _ _ _
   | exact glossatorref02_Line.mono _ _ _
   | exact glossatorref02_Many.mono _ _
   | exact glossatorref23_Right.mono _ _ _
   | exact LeO.none _
   | refine LeO.ite ?_ ?_
   | refine LeO.bind ?_ (fun _ => ?_)
  ·intro y0 y1 y2 y3
   unfold glossatorref23_Pieces.l1
   repeat' first
   | (with_reducible exact ih0 _ _ _ _)
   | (with_reducible exact ih1 _ _ _ _)
   | (with_reducible exact ih2 _ _ _ _ _)
   | (with_reducible exact ih3 _ _ _ _ _ _ _)
   | (with_reducible exact glossatorref02_Line.mono _ _ _)
   | (with_reducible exact glossatorref02_Many.mono _ _)
   | (with_reducible exact glossatorref23_Right.mono _ _ _)
   | (with_reducible exact LeO.refl _)
   | (with_reducible exact LeO.none _)
   | (with_reducible refine LeO.ite ?_ ?_)
   | (with_reducible refine LeO.bind ?_ (fun _ => ?_))
   | exact ih0 _ _ _ _
   | exact ih1 _ _ _ _
   | exact ih2 _ _ _ _ _
   | exact ih3 _ _ _ _ _ _ _
   | exact glossatorref02_Line.mono _ _ _
   | exact glossatorref02_Many.mono _ _
   | exact glossatorref23_Right.mono _ _ _
   | exact LeO.none _
   | refine LeO.ite ?_ ?_
   | refine LeO.bind ?_ (fun _ => ?_)
  ·intro y0 y1 y2 y3 y4
   unfold glossatorref23_Pieces.l2
   repeat' first
   | (with_reducible exact ih0 _ _ _ _)
   | (with_reducible exact ih1 _ _ _ _)
   | (with_reducible exact ih2 _ _ _ _ _)
   | (with_reducible exact ih3 _ _ _ _ _ _ _)
   | (with_reducible exact glossatorref02_Line.mono _ _ _)
   | (with_reducible exact glossatorref02_Many.mono _ _)
   | (with_reducible exact glossatorref23_Right.mono _ _ _)
   | (with_reducible exact LeO.refl _)
   | (with_reducible exact LeO.none _)
   | (with_reducible refine LeO.ite ?_ ?_)
   | (with_reducible refine LeO.bind ?_ (fun _ => ?_))
   | exact ih0 _ _ _ _
   | exact ih1 _ _ _ _
   | exact ih2 _ _ _ _ _
   | exact ih3 _ _ _ _ _ _ _
   | exact glossatorref02_Line.mono _ _ _
   | exact glossatorref02_Many.mono _ _
   | exact glossatorref23_Right.mono _ _ _
   | exact LeO.none _
   | refine LeO.ite ?_ ?_
   | refine LeO.bind ?_ (fun _ => ?_)
  ·intro y0 y1 y2 y3 y4 y5 y6
   unfold glossatorref23_Pieces.j3
   repeat' first
   | (with_reducible exact ih0 _ _ _ _)
   | (with_reducible exact ih1 _ _ _ _)
   | (with_reducible exact ih2 _ _ _ _ _)
   | (with_reducible exact ih3 _ _ _ _ _ _ _)
   | (with_reducible exact glossatorref02_Line.mono _ _ _)
   | (with_reducible exact glossatorref02_Many.mono _ _)
   | (with_reducible exact glossatorref23_Right.mono _ _ _)
   | (with_reducible exact LeO.refl _)
   | (with_reducible exact LeO.none _)
   | (with_reducible refine LeO.ite ?_ ?_)
   | (with_reducible refine LeO.bind ?_ (fun _ => ?_))
   | exact ih0 _ _ _ _
   | exact ih1 _ _ _ _
   | exact ih2 _ _ _ _ _
   | exact ih3 _ _ _ _ _ _ _
   | exact glossatorref02_Line.mono _ _ _
   | exact glossatorref02_Many.mono _ _
   | exact glossatorref23_Right.mono _ _ _
   | exact LeO.none _
   | refine LeO.ite ?_ ?_
   | refine LeO.bind ?_ (fun _ => ?_)
theorem glossatorref23_Pieces.mono : ∀ a0 a1 k, LeO (glossatorref23_Pieces.f k a0 a1) (glossatorref23_Pieces.f (k + 1) a0 a1) := by
 intro a0 a1 k
 obtain ⟨ih0, ih1, ih2, ih3⟩ := glossatorref23_Pieces.mono_l k
 unfold glossatorref23_Pieces.f
 repeat' first
   | (with_reducible exact ih0 _ _ _ _)
   | (with_reducible exact ih1 _ _ _ _)
   | (with_reducible exact ih2 _ _ _ _ _)
   | (with_reducible exact ih3 _ _ _ _ _ _ _)
   | (with_reducible exact glossatorref02_Line.mono _ _ _)
   | (with_reducible exact glossatorref02_Many.mono _ _)
   | (with_reducible exact glossatorref23_Right.mono _ _ _)
   | (with_reducible exact LeO.refl _)
   | (with_reducible exact LeO.none _)
   | (with_reducible refine LeO.ite ?_ ?_)
   | (with_reducible refine LeO.bind ?_ (fun _ => ?_))
   | exact ih0 _ _ _ _
   | exact ih1 _ _ _ _
   | exact ih2 _ _ _ _ _
   | exact ih3 _ _ _ _ _ _ _
   | exact glossatorref02_Line.mono _ _ _
   | exact glossatorref02_Many.mono _ _
   | exact glossatorref23_Right.mono _ _ _
   | exact LeO.none _
   | refine LeO.ite ?_ ?_
   | refine LeO.bind ?_ (fun _ => ?_)
def glossatorref23_Pieces.T17 : Bool × List (List Nat × List Nat) := (true, [([], []), ([], []), ([0, 1], [0, 1]), ([2], [2]), ([3], [3]), ([], []), ([5], [5]), ([4, 6], [4, 6])])
def glossatorref23_Pieces.B17 : List Nat := [0, 0, 3, 7, 15, 0, 32, 127]
theorem glossatorref23_Pieces.tab17 : rtab .any (opsOf Tryd.f9 17) = glossatorref23_Pieces.T17 := by kernel_rfl
theorem glossatorref23_Pieces.bits17 : waitsOk glossatorref23_Pieces.T17.2 glossatorref23_Pieces.B17 = true := by kernel_rfl
def glossatorref23_Pieces.T19 : Bool × List (List Nat × List Nat) := (true, [([], []), ([], []), ([0, 1], [0, 1]), ([2], [2]), ([3], [3]), ([], []), ([5], [5]), ([4, 6], [4, 6])])
def glossatorref23_Pieces.B19 : List Nat := [0, 0, 3, 7, 15, 0, 32, 127]
theorem glossatorref23_Pieces.tab19 : rtab .any (opsOf Tryd.f9 19) = glossatorref23_Pieces.T19 := by kernel_rfl
theorem glossatorref23_Pieces.bits19 : waitsOk glossatorref23_Pieces.T19.2 glossatorref23_Pieces.B19 = true := by kernel_rfl
def glossatorref23_Pieces.T22 : Bool × List (List Nat × List Nat) := (true, [([], []), ([], []), ([], []), ([], []), ([2, 3], [2, 3]), ([4], [4]), ([5], [5]), ([], []), ([], []), ([7, 8], [7, 8]), ([9], [9]), ([10], [10]), ([1, 6, 11], [1, 6, 11]), ([12], [12]), ([0, 13], [0, 13]), ([14, 14, 0, 1, 2, 3, 4, 5, 6, 7, 8, 9, 10, 11, 12, 13, 14], [0, 14])])
def glossatorref23_Pieces.B22 : List Nat := [0, 0, 0, 0, 12, 28, 60, 0, 0, 384, 896, 1920, 4094, 8190, 16383, 32767]
theorem glossatorref23_Pieces.tab22 : rtab .any (opsOf Tryd.f9 22) = glossatorref23_Pieces.T22 := by kernel_rfl
theorem glossatorref23_Pieces.bits22 : waitsOk glossatorref23_Pieces.T22.2 glossatorref23_Pieces.B22 = true := by kernel_rfl
set_option maxHeartbeats 8000000 in
set_option maxRecDepth 100000 in
theorem glossatorref23_Pieces.calls (k : Nat) (a0 : ByteArray) (A1 : Option Addr) (c1 : Nat) (l1 : List (S38)) (r1 : List (S38)) (r2 : Int) (w : World) (hr1 : Kd.C k38 w A1 l1.length l1) (hc1 : l1.length ≤ c1) (h : glossatorref23_Pieces.f k a0 l1 = some (r1, r2)) :
  Calls Tryd.prog 9 #[.string a0, .slice A1 l1.length c1] w fun e w' => ∃ v0_ : Value, e = .returned (.tuple #[v0_, .int .i64 r2]) ∧ Kd.R k38 38 w' w.heap.size (fun _ => True) v0_ r1 ∧ Below w.heap.size w w' := by
 have hu36 := Tryd.underlying36
 have hu38 := Tryd.underlying38
 have HR1 := Aside0.mk hr1; have HC1 := Aside0.mk hc1; clear hr1 hc1; have HB := Aside0.mk (Below.refl w.heap.size w)
 have H : ((glossatorref23_Right.f k a0 l1).bind fun t134 => (if t134 = true then (glossatorref23_Pieces.l0 k a0 l1 ([] : List (S36)) 0) else (some (([] : List (S38)), 230)))) = some (r1, r2) := h
 clear h; replace H := Option.bind_eq_some_iff.mp H
 obtain ⟨t134, A30, H⟩ := H
 replace H : (if t134 = true then (glossatorref23_Pieces.l0 k a0 l1 ([] : List (S36)) 0) else (some (([] : List (S38)), 230))) = some (r1, r2) := H
 have A3 := Aside0.mk A30; clear A30; by_cases c4 : t134 = true
 ·subst c4; have H1 : (glossatorref23_Pieces.l0 k a0 l1 ([] : List (S36)) 0) = some (r1, r2) := by rw [if_pos rfl] at H; exact H
  clear H; have H := H1
  clear H1; have H' := Aside0.mk H; clear H; go_enter Tryd.func9, Tryd.ntmps9
  go_wp2_with (first | ((with_reducible refine gate_callee (f := 19) rfl ?_); refine goesL_ (some 16) rfl rfl Tryd.func19 (by kernel_rfl) rfl #[.string a0, .slice A1 l1.length c1] rfl (by (try simp only [List.map_toArray, List.map_cons, List.map_nil]); first | done | rfl | (simp only [List.length_drop, List.length_take]; rfl)) ?_; (with_reducible refine (glossatorref23_Right.calls k a0 _ _ l1 true _ ?side1 ?side2 A3.out).mono ?_); (case side1 => repeat (first | exact HR1.out | (with_reducible refine Kd.C_alloc ?_ _) | (with_reducible refine Kd.C_drewN ?_ _) | (with_reducible refine Kd.C_drew ?_))); (case side2 => exact HC1.out); rintro e w5 ⟨rfl, hb⟩; refine ⟨_, rfl, ?_⟩; have n0_ := Aside0.mk (below_step (bl HB) hb); clear HB; have HB := n0_; clear n0_; (try clear hb); (try clear hb2); (try clear hk); (try clear hi)))
  go_loopg [6, 7] k (fun kq v6 v7 w' => ∃ (x6_1 : List (S36)) (x7_1 : Int), v7 = .int .i64 x7_1 ∧ Aside0 (glossatorref23_Pieces.l0 kq a0 l1 x6_1 x7_1 = some (r1, r2)) ∧ Aside0 (kq ≤ k) ∧ Aside0 (Kd.R k36 36 w' w.heap.size (fun _ => True) v6 x6_1) ∧ Aside0 (Below w.heap.size w w'))
  case atStart => exact ⟨(([] : List (S36))), (0), (by first | rfl | (simp; done) | (simp [*]; done) | (simp; exact xEmpty_ne _) | (simp [*]; exact xEmpty_ne _)), H', ⟨Nat.le_refl _⟩, ⟨by first | exact Kd.R_nil _ _ _ _ _ | exact Kd.N_nil _ _ _ _ _ | exact Kd.V_nil _ _ _ _ _ | exact Kd.Q_nil _ _ _ _ _ | exact Kd.S_nil _ _ _ _ _⟩, ⟨bl HB⟩⟩
  case round =>
   clear H'; (try clear c1); (try clear p2); (try clear c4); (try clear HO_6); (try clear HB)
   obtain ⟨x6_1, x7_1, rfl, HA, HK1, HO_6, HB⟩ := hrel
   cases gk with
   | zero => exact absurd HA.out (by simp [glossatorref23_Pieces.l0])
   | succ k1 =>
    have H := HA.out
    clear HA; simp only [glossatorref23_Pieces.l0] at H
    replace H := Option.bind_eq_some_iff.mp H
    obtain ⟨t135, A60, H⟩ := H
    replace H : (if x7_1 < t135 then ((glossatorref02_Line.f k1 a0 x7_1).bind fun bt136 => (if x6_1.length < 8796093022208 then (glossatorref23_Pieces.l0 k1 a0 l1 (x6_1 ++ [(⟨bt136.1, bt136.2.1⟩ : S36)]) (wrap64 (x7_1 + 1))) else (none))) else (glossatorref23_Pieces.l1 k1 l1 x6_1 ([] : List (S38)) 0)) = some (r1, r2) := H
    have A6 := Aside0.mk A60; clear A60; by_cases c7 : x7_1 < t135
    ·rw [if_pos c7] at H; have c7b0 : decide (x7_1 < t135) = true := decide_eq_true c7; clear c7; replace H := Option.bind_eq_some_iff.mp H
     obtain ⟨⟨t136, t137, t138⟩, A80, H⟩ := H
     replace H : (if x6_1.length < 8796093022208 then (glossatorref23_Pieces.l0 k1 a0 l1 (x6_1 ++ [(⟨t136, t137⟩ : S36)]) (wrap64 (x7_1 + 1))) else (none)) = some (r1, r2) := H
     have A8 := Aside0.mk A80; clear A80; by_cases c9 : x6_1.length < 8796093022208
     ·rw [if_pos c9] at H; have LMc9 := Aside0.mk c9; clear c9; obtain ⟨y140, hy140⟩ : ∃ y_ : List (S36), y_ = (x6_1 ++ [(⟨t136, t137⟩ : S36)]) := ⟨_, rfl⟩
      replace H : (glossatorref23_Pieces.l0 k1 a0 l1 y140 (wrap64 (x7_1 + 1))) = some (r1, r2) := by first | (rw [hy140]; with_reducible exact H) | (have H2_ := (Option.bind_some _ _).symm.trans H; rw [hy140]; with_reducible exact H2_) | (have H2_ := (Option.bind_some _ _).symm.trans H; with_reducible exact H2_) | with_reducible exact H | (rw [hy140]; exact H) | exact H
      have Ny140 := Aside0.mk hy140; clear hy140; have H' := Aside0.mk H; clear H; go_wp2_with (first | ((with_reducible refine gate_callee (f := 20) rfl ?_); refine goesL_ (some 20) rfl rfl Tryd.func20 (by kernel_rfl) rfl #[.string a0] rfl (by (try simp only [List.map_toArray, List.map_cons, List.map_nil]); first | done | rfl | (simp only [List.length_drop, List.length_take]; rfl)) ?_; (with_reducible refine (glossatorref02_Many.calls k1 a0 t135 _ A6.out).mono ?_); rintro e w10 ⟨rfl, hb⟩; refine ⟨_, rfl, ?_⟩; have n0_ := Aside0.mk (Kd.R_below (rl HO_6) hb); have n1_ := Aside0.mk (below_step (bl HB) hb); clear HO_6; clear HB; have HO_6 := n0_; have HB := n1_; clear n0_ n1_; (try clear hb); (try clear hb2); (try clear hk); (try clear hi)) | ((with_reducible refine gate_callee (f := 21) rfl ?_); refine goesL_ (some 27) rfl rfl Tryd.func21 (by kernel_rfl) rfl #[.string a0, .int .i64 x7_1] rfl (by (try simp only [List.map_toArray, List.map_cons, List.map_nil]); first | done | rfl | (simp only [List.length_drop, List.length_take]; rfl)) ?_; (with_reducible refine (glossatorref02_Line.calls k1 a0 x7_1 t136 t137 t138 _ A8.out).mono ?_); rintro e w11 ⟨rfl, hb⟩; refine ⟨_, rfl, ?_⟩; have n0_ := Aside0.mk (Kd.R_below (rl HO_6) hb); have n1_ := Aside0.mk (below_step (bl HB) hb); clear HO_6; clear HB; have HO_6 := n0_; have HB := n1_; clear n0_ n1_; (try clear hb); (try clear hb2); (try clear hk); (try clear hi)) | ((with_reducible refine gate_dst (N := 8) rfl ?_); refine box_event ?hg (N := 8) ?hd (cs := #[.int .i64 0, .int .i64 0]) (t := 36) ?hr ?_; (case hd => rfl); (case hg => rfl); (case hr => first | (go_simp; done) | (go_simp; rfl)); intro gb139 hg w12 hbox hb; have n0_ := Aside0.mk (Kd.R_below (Kd.R_elderB (rl HO_6) gb139 (Nat.le_of_eq hg.symm)) hb); have n1_ := Aside0.mk (below_step (bl HB) hb); have n2_ := Aside0.mk (hbox); have n3_ := Aside0.mk ((by rw [hg]; exact (below_size (bl HB)) : w.heap.size ≤ gb139)); have n4_ := Aside0.mk ((by rw [hg]; exact (below_size (bl HB)) : w.heap.size ≤ gb139)); clear HO_6; clear HB; have HO_6 := n0_; have HB := n1_; have BK139 := n2_; have GW139 := n3_; have GE139 := n4_; clear n0_ n1_ n2_ n3_ n4_; clear hb hbox hg; have hcz13_0 : w12.cell? ⟨gb139, 0, none⟩ = some (.int .i64 0) := (blk_cell BK139.out 0).trans rfl; have hcz13_1 : w12.cell? ⟨gb139, 1, none⟩ = some (.int .i64 0) := (blk_cell BK139.out 1).trans rfl; have hfz13_0 := blk_frozen BK139.out 0; have hfz13_1 := blk_frozen BK139.out 1) | ((with_reducible refine gate_builtin (b := .append) (xs := #[.tmp 30, .tmp 32]) rfl ?_); at_builtin; refine Kd.R_append k36 (w0 := w) w.heap.size rfl (.tmp 30) (.tmp 32) 50 36 (.agg #[(.int .i64 0), (.int .i64 0)]) 16 rfl Tryd.underlying50 info36 rfl (by decide) (by omega) u6 x6_1 (⟨t136, t137⟩ : S36) [.int .i64 t136, .int .i64 t137] (fun k_ => k_ ≠ gb139) (fun _ => False) rfl (by first | (go_simp; done) | (go_simp; rfl)) ?aP (fun _ hk => hk.elim) ?aF ?aO ?aB ?aS ?aL ?_; (case aP => exact k36_mkM _ _ _ (⟨t136, t137⟩ : S36)); (case aB => exact (by repeat (first | (with_reducible first | exact HB.out | apply below_alloc | apply pw_below_drewN | apply below_drew1 | refine below_set ?_ GE139.out) | exact HB.out))); (case aF => exact (fun k_ hk => Kd.freshB (g := gb139) (o := .cells #[.int .i64 t136, .int .i64 t137] 36 (0, 0)) (by (with_reducible repeat (first | refine blk_drewN ?_ _ | refine blk_drew ?_ | refine blk_alloc ?_ _)); refine blk_put (cs := #[.int .i64 t136, .int .i64 0]) ?_ 1 _ rfl; (with_reducible repeat (first | refine blk_drewN ?_ _ | refine blk_drew ?_ | refine blk_alloc ?_ _)); refine blk_put (cs := #[.int .i64 0, .int .i64 0]) ?_ 0 _ rfl; (with_reducible repeat (first | refine blk_drewN ?_ _ | refine blk_drew ?_ | refine blk_alloc ?_ _)); exact BK139.out) k_ hk)); (case aO => exact (by (with_reducible repeat (first | apply Kd.R_alloc | apply Kd.R_drewN | apply Kd.R_drew)); exact Kd.R_mono (Kd.R_far (p := ⟨gb139, 1, none⟩) (Kd.R_far (p := ⟨gb139, 0, none⟩) (Kd.R_mono HO_6.out (fun k_ hk => (⟨hk, hk.2⟩ : _ ∧ k_ ≠ gb139))) (fun _ hk => hk.2) (.int .i64 t136)) (fun _ hk => hk.2) (.int .i64 t137)) (fun _ hk => hk.1.2))); (case aS => exact (below_size (by repeat (first | (with_reducible first | exact HB.out | apply below_alloc | apply pw_below_drewN | apply below_drew1 | refine below_set ?_ GE139.out) | exact HB.out)))); (case aL => have := LMc9.out; omega); intro v141 w14 ho hb hg hat; rw [← Ny140.out] at ho; have n0_ := Aside0.mk (blk_grown (g := gb139) (o := .cells #[.int .i64 t136, .int .i64 t137] 36 (0, 0)) (by (with_reducible repeat (first | refine blk_drewN ?_ _ | refine blk_drew ?_ | refine blk_alloc ?_ _)); refine blk_put (cs := #[.int .i64 t136, .int .i64 0]) ?_ 1 _ rfl; (with_reducible repeat (first | refine blk_drewN ?_ _ | refine blk_drew ?_ | refine blk_alloc ?_ _)); refine blk_put (cs := #[.int .i64 0, .int .i64 0]) ?_ 0 _ rfl; (with_reducible repeat (first | refine blk_drewN ?_ _ | refine blk_drew ?_ | refine blk_alloc ?_ _)); exact BK139.out) hg (Kd.R_away HO_6.out (fun _ hk => hk.2))); have n1_ := Aside0.mk (hb); have n2_ := Aside0.mk (ho); clear BK139; clear HB; clear HO_6; have BK139 := n0_; have HB := n1_; have HO142 := n2_; clear n0_ n1_ n2_; clear ho hb hg hat))
      go_roundg k1
      case measure => have := HK1.out; omega
      case rel => exact ⟨(y140), (wrap64 (x7_1 + 1)), (by first | rfl | (simp; done) | (simp [*]; done) | (simp; exact xEmpty_ne _) | (simp [*]; exact xEmpty_ne _)), H', ⟨by have := HK1.out; omega⟩, ⟨by (with_reducible repeat (first | apply Kd.R_alloc | apply Kd.R_drewN | apply Kd.R_drew)); exact Kd.R_mono HO142.out (fun _ hk => trivial)⟩, ⟨by repeat (first | (with_reducible first | exact HB.out | apply below_alloc | apply pw_below_drewN | apply below_drew1 | refine below_set ?_ GE139.out) | exact HB.out)⟩⟩
     ·rw [if_neg c9] at H; exact absurd H (by simp)
    ·rw [if_neg c7] at H; have c7b0 : decide (x7_1 < t135) = false := decide_eq_false c7; clear c7; have H' := Aside0.mk H; clear H; go_wp2_with (first | ((with_reducible refine gate_callee (f := 20) rfl ?_); refine goesL_ (some 20) rfl rfl Tryd.func20 (by kernel_rfl) rfl #[.string a0] rfl (by (try simp only [List.map_toArray, List.map_cons, List.map_nil]); first | done | rfl | (simp only [List.length_drop, List.length_take]; rfl)) ?_; (with_reducible refine (glossatorref02_Many.calls k1 a0 t135 _ A6.out).mono ?_); rintro e w15 ⟨rfl, hb⟩; refine ⟨_, rfl, ?_⟩; have n0_ := Aside0.mk (Kd.R_below (rl HO_6) hb); have n1_ := Aside0.mk (below_step (bl HB) hb); clear HO_6; clear HB; have HO_6 := n0_; have HB := n1_; clear n0_ n1_; (try clear hb); (try clear hb2); (try clear hk); (try clear hi)))
     go_loopg [10, 11] k1 (fun kq v10 v11 w' => ∃ (x10_2 : List (S38)) (x11_2 : Int), v11 = .int .i64 x11_2 ∧ Aside0 (glossatorref23_Pieces.l1 kq l1 x6_1 x10_2 x11_2 = some (r1, r2)) ∧ Aside0 (kq ≤ k1) ∧ Aside0 (Kd.R k36 36 w' w.heap.size (fun _ => True) u6 x6_1) ∧ Aside0 (Kd.R k38 38 w' w.heap.size (fun _ => True) v10 x10_2) ∧ Aside0 (Below w.heap.size w w'))
     case atStart => exact ⟨(([] : List (S38))), (0), (by first | rfl | (simp; done) | (simp [*]; done) | (simp; exact xEmpty_ne _) | (simp [*]; exact xEmpty_ne _)), H', ⟨Nat.le_refl _⟩, ⟨rl HO_6⟩, ⟨by first | exact Kd.R_nil _ _ _ _ _ | exact Kd.N_nil _ _ _ _ _ | exact Kd.V_nil _ _ _ _ _ | exact Kd.Q_nil _ _ _ _ _ | exact Kd.S_nil _ _ _ _ _⟩, ⟨bl HB⟩⟩
     case round =>
      clear H'; (try clear c1); (try clear c2); (try clear p2); (try clear c4); (try clear p6); (try clear c7); (try clear c7b0); (try clear c9); (try clear hcz13_0); (try clear hcz13_1); (try clear hfz13_0); (try clear hfz13_1); (try clear p2); (try clear HO_6); (try clear HO_10); (try clear HB)
      obtain ⟨x10_2, x11_2, rfl, HA, HK2, HO_6, HO_10, HB⟩ := hrel
      cases gk with
      | zero => exact absurd HA.out (by simp [glossatorref23_Pieces.l1])
      | succ k2 =>
       have H := HA.out
       clear HA; simp only [glossatorref23_Pieces.l1] at H
       by_cases c16 : x11_2 < (l1.length : Int)
       ·rw [if_pos c16] at H; have c16b0 : decide (x11_2 < (l1.length : Int)) = true := decide_eq_true c16; clear c16; have H' := Aside0.mk H; clear H; go_wp2
        go_loopg [10, 12] k2 (fun kq v10 v12 w' => ∃ (x10_3 : List (S38)) (x12_3 : Int), v12 = .int .i64 x12_3 ∧ Aside0 (glossatorref23_Pieces.l2 kq l1 x6_1 x10_3 x11_2 x12_3 = some (r1, r2)) ∧ Aside0 (kq ≤ k2) ∧ Aside0 (Kd.R k36 36 w' w.heap.size (fun _ => True) u6 x6_1) ∧ Aside0 (Kd.R k38 38 w' w.heap.size (fun _ => True) v10 x10_3) ∧ Aside0 (Below w.heap.size w w'))
        case atStart => exact ⟨(x10_2), (0), (by first | rfl | (simp; done) | (simp [*]; done) | (simp; exact xEmpty_ne _) | (simp [*]; exact xEmpty_ne _)), H', ⟨Nat.le_refl _⟩, ⟨rl HO_6⟩, ⟨rl HO_10⟩, ⟨bl HB⟩⟩
        case round =>
         clear H'; (try clear c1); (try clear c2); (try clear p2); (try clear c4); (try clear p6); (try clear c7); (try clear c7b0); (try clear c9); (try clear c16); (try clear c16b0); (try clear hcz13_0); (try clear hcz13_1); (try clear hfz13_0); (try clear hfz13_1); (try clear p2); (try clear p6); (try clear HO_6); (try clear HO_10); (try clear HB)
         obtain ⟨x10_3, x12_3, rfl, HA, HK3, HO_6, HO_10, HB⟩ := hrel
         cases gk with
         | zero => exact absurd HA.out (by simp [glossatorref23_Pieces.l2])
         | succ k3 =>
          have H := HA.out
          clear HA; simp only [glossatorref23_Pieces.l2] at H
          by_cases c17 : x12_3 < (x6_1.length : Int)
          ·rw [if_pos c17] at H; have c17b0 : decide (x12_3 < (x6_1.length : Int)) = true := decide_eq_true c17; clear c17; by_cases c18 : 0 ≤ x11_2
           ·rw [if_pos c18] at H; have c18b0 : decide (0 ≤ x11_2) = true := decide_eq_true c18; clear c18; by_cases c19 : x11_2 < (l1.length : Int)
            ·rw [if_pos c19] at H; have c19b0 : decide (x11_2 < (l1.length : Int)) = true := decide_eq_true c19; clear c19; by_cases c20 : 0 ≤ x12_3
             ·rw [if_pos c20] at H; have c20b0 : decide (0 ≤ x12_3) = true := decide_eq_true c20; clear c20; have HC21 := Aside0.mk H; clear H; obtain ⟨Ao22, co22, eo22⟩ := Kd.R_slice HO_6.out
              subst eo22; have p143 : 0 ≤ (x11_2 : Int) := of_decide_eq_true (by first | (with_reducible assumption) | assumption)
              have q143 : x11_2 < (l1.length : Int) := of_decide_eq_true (by first | (with_reducible assumption) | assumption)
              obtain ⟨ad143, e143, hx143_0, hx143_1, hx143_2, hx143_3⟩ := at_T38 HR1.out x11_2 p143 q143
              cases e143; replace hx143_0 := (HB.out.cell (World.block_lt_of_cell? w _ hx143_0)).trans hx143_0; replace hx143_1 := (HB.out.cell (World.block_lt_of_cell? w _ hx143_1)).trans hx143_1; replace hx143_2 := (HB.out.cell (World.block_lt_of_cell? w _ hx143_2)).trans hx143_2; replace hx143_3 := (HB.out.cell (World.block_lt_of_cell? w _ hx143_3)).trans hx143_3; replace p143 := eq_true p143; replace q143 := eq_true q143; try go_wp2_with (first | ((with_reducible refine gate_dst (N := 13) rfl ?_); refine box_event ?hg (N := 13) ?hd (cs := #[.int .i64 0, .int .i64 0]) (t := 36) ?hr ?_; (case hd => rfl); (case hg => rfl); (case hr => first | (go_simp; done) | (go_simp; rfl)); intro gb144 hg w23 hbox hb; have n0_ := Aside0.mk (Kd.R_below (Kd.R_elderB (rl HO_6) gb144 (Nat.le_of_eq hg.symm)) hb); have n1_ := Aside0.mk (Kd.R_below (rl HO_10) hb); have n2_ := Aside0.mk (below_step (bl HB) hb); have n3_ := Aside0.mk (hbox); have n4_ := Aside0.mk ((by rw [hg]; exact (below_size (bl HB)) : w.heap.size ≤ gb144)); have n5_ := Aside0.mk ((by rw [hg]; exact (below_size (bl HB)) : w.heap.size ≤ gb144)); clear HO_6; clear HO_10; clear HB; have HO_6 := n0_; have HO_10 := n1_; have HB := n2_; have BK144 := n3_; have GW144 := n4_; have GE144 := n5_; clear n0_ n1_ n2_ n3_ n4_ n5_; clear hb hbox hg; have hcz24_0 : w23.cell? ⟨gb144, 0, none⟩ = some (.int .i64 0) := (blk_cell BK144.out 0).trans rfl; have hcz24_1 : w23.cell? ⟨gb144, 1, none⟩ = some (.int .i64 0) := (blk_cell BK144.out 1).trans rfl; have hfz24_0 := blk_frozen BK144.out 0; have hfz24_1 := blk_frozen BK144.out 1))
              have n0_ : Aside0 (Kd.R k36 36 ((w23.setCell ⟨gb144, 0, none⟩ (.int .i64 ((rd_T38 l1 x11_2).f0.f0))).setCell ⟨gb144, 1, none⟩ (.int .i64 ((rd_T38 l1 x11_2).f0.f1))) w.heap.size (fun k_ => k_ ≠ gb144) (.slice Ao22 x6_1.length co22) x6_1) := ⟨by (with_reducible repeat (first | apply Kd.R_alloc | apply Kd.R_drewN | apply Kd.R_drew)); exact Kd.R_mono (Kd.R_far (p := ⟨gb144, 1, none⟩) (Kd.R_far (p := ⟨gb144, 0, none⟩) (Kd.R_mono HO_6.out (fun k_ hk => (⟨hk, hk.2⟩ : _ ∧ k_ ≠ gb144))) (fun _ hk => hk.2) (.int .i64 ((rd_T38 l1 x11_2).f0.f0))) (fun _ hk => hk.2) (.int .i64 ((rd_T38 l1 x11_2).f0.f1))) (fun _ hk => hk.1.2)⟩
              have n1_ : Aside0 (Kd.R k38 38 ((w23.setCell ⟨gb144, 0, none⟩ (.int .i64 ((rd_T38 l1 x11_2).f0.f0))).setCell ⟨gb144, 1, none⟩ (.int .i64 ((rd_T38 l1 x11_2).f0.f1))) w.heap.size (fun _ => True) u10 x10_3) := ⟨by (with_reducible repeat (first | apply Kd.R_alloc | apply Kd.R_drewN | apply Kd.R_drew)); exact Kd.R_mono (Kd.R_far (p := ⟨gb144, 1, none⟩) (Kd.R_far (p := ⟨gb144, 0, none⟩) (Kd.R_types HO_10.out BK144.out (by decide)) (fun _ hk => hk.2) (.int .i64 ((rd_T38 l1 x11_2).f0.f0))) (fun _ hk => hk.2) (.int .i64 ((rd_T38 l1 x11_2).f0.f1))) (fun _ hk => trivial)⟩
              have n2_ : Aside0 (((w23.setCell ⟨gb144, 0, none⟩ (.int .i64 ((rd_T38 l1 x11_2).f0.f0))).setCell ⟨gb144, 1, none⟩ (.int .i64 ((rd_T38 l1 x11_2).f0.f1))).heap[gb144]? = some (.cells #[.int .i64 ((rd_T38 l1 x11_2).f0.f0), .int .i64 ((rd_T38 l1 x11_2).f0.f1)] 36 (0, 0))) := ⟨by (with_reducible repeat (first | refine blk_drewN ?_ _ | refine blk_drew ?_ | refine blk_alloc ?_ _)); refine blk_put (cs := #[.int .i64 ((rd_T38 l1 x11_2).f0.f0), .int .i64 0]) ?_ 1 _ rfl; (with_reducible repeat (first | refine blk_drewN ?_ _ | refine blk_drew ?_ | refine blk_alloc ?_ _)); refine blk_put (cs := #[.int .i64 0, .int .i64 0]) ?_ 0 _ rfl; (with_reducible repeat (first | refine blk_drewN ?_ _ | refine blk_drew ?_ | refine blk_alloc ?_ _)); exact BK144.out⟩
              have n3_ : Aside0 (Below w.heap.size w ((w23.setCell ⟨gb144, 0, none⟩ (.int .i64 ((rd_T38 l1 x11_2).f0.f0))).setCell ⟨gb144, 1, none⟩ (.int .i64 ((rd_T38 l1 x11_2).f0.f1)))) := ⟨by repeat (first | (with_reducible first | exact HB.out | apply below_alloc | apply pw_below_drewN | apply below_drew1 | refine below_set ?_ GE144.out) | exact HB.out)⟩
              (try clear HO_6); (try clear HO_10); (try clear BK144); (try clear HB); generalize ((w23.setCell ⟨gb144, 0, none⟩ (.int .i64 ((rd_T38 l1 x11_2).f0.f0))).setCell ⟨gb144, 1, none⟩ (.int .i64 ((rd_T38 l1 x11_2).f0.f1))) = w25 at n0_ n1_ n2_ n3_ ⊢
              have HO_6 := n0_; have HO_10 := n1_; have BK144 := n2_; have HB := n3_; clear n0_ n1_ n2_ n3_; have n0_ := Aside0.mk (Kd.R_drew HO_6.out); have n1_ := Aside0.mk (Kd.R_drew HO_10.out); have n2_ := Aside0.mk (blk_drew BK144.out); have n3_ := Aside0.mk (below_drew1 HB.out); clear HO_6; clear HO_10; clear BK144; clear HB; have HO_6 := n0_; have HO_10 := n1_; have BK144 := n2_; have HB := n3_; clear n0_ n1_ n2_ n3_; have p145 : 0 ≤ (x12_3 : Int) := of_decide_eq_true (by first | (with_reducible assumption) | assumption)
              have q145 : x12_3 < (x6_1.length : Int) := of_decide_eq_true (by first | (with_reducible assumption) | assumption)
              obtain ⟨ad145, e145, hx145_0, hx145_1⟩ := at_T36 (Kd.R_reads' HO_6.out).2.2 x12_3 p145 q145
              cases e145; replace p145 := eq_true p145; replace q145 := eq_true q145; refine start_ (n := 8) (S := fun w' => w'.cell? ⟨gb144, 0, none⟩ = some (.int .i64 ((rd_T38 l1 x11_2).f0.f0)) ∧ w'.cell? ⟨gb144, 1, none⟩ = some (.int .i64 ((rd_T38 l1 x11_2).f0.f1)) ∧ w'.cell? (ad145.add ((x12_3).toNat * 2)) = some (.int .i64 ((rd_T36 x6_1 x12_3).f0)) ∧ w'.cell? ⟨(ad145.add ((x12_3).toNat * 2)).block, (ad145.add ((x12_3).toNat * 2)).off + 1, none⟩ = some (.int .i64 ((rd_T36 x6_1 x12_3).f1))) (ds := []) (bz 8 0) (by kernel_rfl) rfl rfl ⟨(blk_cell BK144.out 0).trans rfl, (blk_cell BK144.out 1).trans rfl, hx145_0, hx145_1⟩ (fun hHeld => ?_); refine with_tabW glossatorref23_Pieces.tab17 glossatorref23_Pieces.bits17 (fun HT_ HW_ => ?_)
              generalize w25.drew = w26 at HO_6 HO_10 BK144 HB hx145_0 hx145_1 hHeld ⊢
              refine pu 0 (some 51) (bz 8 1) HT_ rfl rfl ?_; refine pu 1 (some 52) (bz 8 3) HT_ rfl rfl ?_; refine pu 2 (some 53) (bz 8 7) HT_ rfl rfl ?_; refine pu 3 (some 54) (bz 8 15) HT_ rfl rfl ?_; refine pu 5 (some 56) (bz 8 47) HT_ rfl rfl ?_; refine tk 4 (some 55) (bz 8 63) HT_ HW_ rfl rfl hHeld ?_; refine tk 6 (some 57) (bz 8 127) HT_ HW_ rfl rfl hHeld ?_; refine pu 7 (some 58) (bz 8 255) HT_ rfl rfl ?_; refine done_ (done_of HT_.out (by kernel_rfl)) ?_
              go_upto_if 58 with (fail)
              go_cut [] (fun wc => ∃ (kq : Nat) (x145000_20 : Int), Aside0 (glossatorref23_Pieces.j3 kq l1 x6_1 x10_3 x11_2 x12_3 x145000_20 ((rd_T38 l1 x11_2).f0.f1) = some (r1, r2)) ∧ Aside0 (kq ≤ k3) ∧ Aside0 (Kd.R k36 36 wc w.heap.size (fun k_ => k_ ≠ gb144) (.slice (some ad145) x6_1.length co22) x6_1) ∧ Aside0 (Kd.R k38 38 wc w.heap.size (fun _ => True) u10 x10_3) ∧ Aside0 (wc.heap[gb144]? = some (.cells #[.int .i64 x145000_20, .int .i64 ((rd_T38 l1 x11_2).f0.f1)] 36 (0, 0))) ∧ Aside0 (Below w.heap.size w wc))
              case first =>
               have H := HC21.out
               clear HC21; by_cases c27 : ((rd_T36 x6_1 x12_3).f0) > ((rd_T38 l1 x11_2).f0.f0)
               ·rw [if_pos c27] at H; have c27b0 : decide (((rd_T38 l1 x11_2).f0.f0) < ((rd_T36 x6_1 x12_3).f0)) = true := decide_eq_true c27; clear c27; (first | rw [c27b0] | rw [c27b1] | (simp only [i64_w, i32_w]; rw [c27b0]) | skip)
                have H' := Aside0.mk H; clear H; have p146 : 0 ≤ (x12_3 : Int) := of_decide_eq_true (by first | (with_reducible assumption) | assumption)
                have q146 : x12_3 < (x6_1.length : Int) := of_decide_eq_true (by first | (with_reducible assumption) | assumption)
                obtain ⟨ad146, e146, hx146_0, hx146_1⟩ := at_T36 (Kd.R_reads' HO_6.out).2.2 x12_3 p146 q146
                obtain rfl : ad145 = ad146 := (by injection e146)
                replace p146 := eq_true p146; replace q146 := eq_true q146; have hcz28_0 : w26.cell? ⟨gb144, 0, none⟩ = some (.int .i64 ((rd_T38 l1 x11_2).f0.f0)) := (blk_cell BK144.out 0).trans rfl
                have hcz28_1 : w26.cell? ⟨gb144, 1, none⟩ = some (.int .i64 ((rd_T38 l1 x11_2).f0.f1)) := (blk_cell BK144.out 1).trans rfl
                have hfz28_0 := blk_frozen BK144.out 0
                have hfz28_1 := blk_frozen BK144.out 1
                go_wp2
                go_meet
                case rel => exact ⟨_, ((rd_T36 x6_1 x12_3).f0), H', ⟨by have := HK1.out; have := HK2.out; have := HK3.out; first | omega | exact Nat.le_refl _⟩, ⟨by (with_reducible repeat (first | apply Kd.R_alloc | apply Kd.R_drewN | apply Kd.R_drew)); exact Kd.R_mono (Kd.R_far (p := ⟨gb144, 0, none⟩) (Kd.R_mono HO_6.out (fun k_ hk => (⟨hk, hk⟩ : _ ∧ k_ ≠ gb144))) (fun _ hk => hk.2) (.int .i64 ((rd_T36 x6_1 x12_3).f0))) (fun _ hk => hk.1)⟩, ⟨by (with_reducible repeat (first | apply Kd.R_alloc | apply Kd.R_drewN | apply Kd.R_drew)); exact Kd.R_mono (Kd.R_far (p := ⟨gb144, 0, none⟩) (Kd.R_types HO_10.out BK144.out (by decide)) (fun _ hk => hk.2) (.int .i64 ((rd_T36 x6_1 x12_3).f0))) (fun _ hk => trivial)⟩, ⟨by (with_reducible repeat (first | refine blk_drewN ?_ _ | refine blk_drew ?_ | refine blk_alloc ?_ _)); refine blk_put (cs := #[.int .i64 ((rd_T38 l1 x11_2).f0.f0), .int .i64 ((rd_T38 l1 x11_2).f0.f1)]) ?_ 0 _ rfl; (with_reducible repeat (first | refine blk_drewN ?_ _ | refine blk_drew ?_ | refine blk_alloc ?_ _)); exact BK144.out⟩, ⟨by repeat (first | (with_reducible first | exact HB.out | apply below_alloc | apply pw_below_drewN | apply below_drew1 | refine below_set ?_ GE144.out) | exact HB.out)⟩⟩
               ·rw [if_neg c27] at H; have c27b0 : decide (((rd_T38 l1 x11_2).f0.f0) < ((rd_T36 x6_1 x12_3).f0)) = false := decide_eq_false c27; clear c27; (first | rw [c27b0] | rw [c27b1] | (simp only [i64_w, i32_w]; rw [c27b0]) | skip)
                have H' := Aside0.mk H; clear H; go_wp2
                go_meet
                case rel => exact ⟨_, ((rd_T38 l1 x11_2).f0.f0), H', ⟨by have := HK1.out; have := HK2.out; have := HK3.out; first | omega | exact Nat.le_refl _⟩, ⟨rl HO_6⟩, ⟨rl HO_10⟩, ⟨kl BK144⟩, ⟨by repeat (first | (with_reducible first | exact HB.out | apply below_alloc | apply pw_below_drewN | apply below_drew1 | refine below_set ?_ GE144.out) | exact HB.out)⟩⟩
              case rest =>
               clear HC21; (try clear c1); (try clear p1); (try clear q1); (try clear hx1); (try clear c2); (try clear p2); (try clear c4); (try clear p6); (try clear c7); (try clear c7b0); (try clear c9); (try clear p14); (try clear q14); (try clear hx14); (try clear c16); (try clear c16b0); (try clear c17); (try clear c17b0); (try clear c18); (try clear c18b0); (try clear c19); (try clear c19b0); (try clear c20); (try clear c20b0); (try clear c21); (try clear c27); (try clear c27b0); (try clear hcz13_0); (try clear hcz13_1); (try clear hcz24_0); (try clear hcz24_1); (try clear hcz28_0); (try clear hcz28_1); (try clear hfz13_0); (try clear hfz13_1); (try clear hfz24_0); (try clear hfz24_1); (try clear hfz28_0); (try clear hfz28_1); (try clear hx143_0); (try clear hx143_1); (try clear hx143_2); (try clear hx143_3); (try clear hx145_0); (try clear hx145_1); (try clear hx146_0); (try clear hx146_1); (try clear p143); (try clear p145); (try clear p146); (try clear p2); (try clear p6); (try clear q143); (try clear q145); (try clear q146); obtain ⟨kq, x145000_20, HA, HJ20, HO_6, HO_10, BK144, HB⟩ := hcut
               cases kq with
               | zero => exact absurd HA.out (by simp [glossatorref23_Pieces.j3])
               | succ kj20 =>
                have H := HA.out
                clear HA; simp only [glossatorref23_Pieces.j3] at H
                by_cases c29 : 0 ≤ x12_3
                ·rw [if_pos c29] at H; have c29b0 : decide (0 ≤ x12_3) = true := decide_eq_true c29; clear c29; by_cases c30 : x12_3 < (x6_1.length : Int)
                 ·rw [if_pos c30] at H; have c30b0 : decide (x12_3 < (x6_1.length : Int)) = true := decide_eq_true c30; clear c30; by_cases c31 : ((rd_T36 x6_1 x12_3).f1) < ((rd_T38 l1 x11_2).f0.f1)
                  ·rw [if_pos c31] at H; have c31b0 : decide (((rd_T36 x6_1 x12_3).f1) < ((rd_T38 l1 x11_2).f0.f1)) = true := decide_eq_true c31; clear c31; by_cases c32 : x145000_20 < ((rd_T36 x6_1 x12_3).f1)
                   ·rw [if_pos c32] at H; have c32b0 : decide (x145000_20 < ((rd_T36 x6_1 x12_3).f1)) = true := decide_eq_true c32; clear c32; by_cases c33 : 0 ≤ x11_2
                    ·rw [if_pos c33] at H; have c33b0 : decide (0 ≤ x11_2) = true := decide_eq_true c33; clear c33; by_cases c34 : x11_2 < (l1.length : Int)
                     ·rw [if_pos c34] at H; have c34b0 : decide (x11_2 < (l1.length : Int)) = true := decide_eq_true c34; clear c34; by_cases c35 : x10_3.length < 4398046511104
                      ·rw [if_pos c35] at H; have LMc35 := Aside0.mk c35; clear c35; obtain ⟨y151, hy151⟩ : ∃ y_ : List (S38), y_ = (x10_3 ++ [(⟨(⟨x145000_20, (rd_T36 x6_1 x12_3).f1⟩ : S36), (rd_T38 l1 x11_2).f1, (rd_T38 l1 x11_2).f2⟩ : S38)]) := ⟨_, rfl⟩
                       replace H : (glossatorref23_Pieces.l2 kj20 l1 x6_1 y151 x11_2 (wrap64 (x12_3 + 1))) = some (r1, r2) := by first | (rw [hy151]; with_reducible exact H) | (have H2_ := (Option.bind_some _ _).symm.trans H; rw [hy151]; with_reducible exact H2_) | (have H2_ := (Option.bind_some _ _).symm.trans H; with_reducible exact H2_) | with_reducible exact H | (rw [hy151]; exact H) | exact H
                       have Ny151 := Aside0.mk hy151; clear hy151; have H' := Aside0.mk H; clear H; try go_wp2
                       have n0_ := Aside0.mk (Kd.R_drew HO_6.out); have n1_ := Aside0.mk (Kd.R_drew HO_10.out); have n2_ := Aside0.mk (blk_drew BK144.out); have n3_ := Aside0.mk (below_drew1 HB.out); clear HO_6; clear HO_10; clear BK144; clear HB; have HO_6 := n0_; have HO_10 := n1_; have BK144 := n2_; have HB := n3_; clear n0_ n1_ n2_ n3_; have p147 : 0 ≤ (x12_3 : Int) := of_decide_eq_true (by first | (with_reducible assumption) | assumption)
                       have q147 : x12_3 < (x6_1.length : Int) := of_decide_eq_true (by first | (with_reducible assumption) | assumption)
                       obtain ⟨ad147, e147, hx147_0, hx147_1⟩ := at_T36 (Kd.R_reads' HO_6.out).2.2 x12_3 p147 q147
                       obtain rfl : ad145 = ad147 := (by injection e147)
                       replace p147 := eq_true p147; replace q147 := eq_true q147; refine start_ (n := 8) (S := fun w' => w'.cell? ⟨gb144, 0, none⟩ = some (.int .i64 x145000_20) ∧ w'.cell? ⟨gb144, 1, none⟩ = some (.int .i64 ((rd_T38 l1 x11_2).f0.f1)) ∧ w'.cell? (ad145.add ((x12_3).toNat * 2)) = some (.int .i64 ((rd_T36 x6_1 x12_3).f0)) ∧ w'.cell? ⟨(ad145.add ((x12_3).toNat * 2)).block, (ad145.add ((x12_3).toNat * 2)).off + 1, none⟩ = some (.int .i64 ((rd_T36 x6_1 x12_3).f1))) (ds := []) (bz 8 0) (by kernel_rfl) rfl rfl ⟨(blk_cell BK144.out 0).trans rfl, (blk_cell BK144.out 1).trans rfl, hx147_0, hx147_1⟩ (fun hHeld => ?_); refine with_tabW glossatorref23_Pieces.tab19 glossatorref23_Pieces.bits19 (fun HT_ HW_ => ?_)
                       generalize wc.drew = w36 at HO_6 HO_10 BK144 HB hx147_0 hx147_1 hHeld ⊢
                       refine pu 0 (some 65) (bz 8 1) HT_ rfl rfl ?_; refine pu 1 (some 66) (bz 8 3) HT_ rfl rfl ?_; refine pu 2 (some 67) (bz 8 7) HT_ rfl rfl ?_; refine pu 3 (some 68) (bz 8 15) HT_ rfl rfl ?_; refine pu 5 (some 70) (bz 8 47) HT_ rfl rfl ?_; refine tk 4 (some 69) (bz 8 63) HT_ HW_ rfl rfl hHeld ?_; refine tk 6 (some 71) (bz 8 127) HT_ HW_ rfl rfl hHeld ?_; refine pu 7 (some 72) (bz 8 255) HT_ rfl rfl ?_; refine done_ (done_of HT_.out (by kernel_rfl)) ?_
                       have p148 : 0 ≤ (x12_3 : Int) := of_decide_eq_true (by first | (with_reducible assumption) | assumption)
                       have q148 : x12_3 < (x6_1.length : Int) := of_decide_eq_true (by first | (with_reducible assumption) | assumption)
                       obtain ⟨ad148, e148, hx148_0, hx148_1⟩ := at_T36 (Kd.R_reads' HO_6.out).2.2 x12_3 p148 q148
                       obtain rfl : ad145 = ad148 := (by injection e148)
                       replace p148 := eq_true p148; replace q148 := eq_true q148; have hcz37_0 : w36.cell? ⟨gb144, 0, none⟩ = some (.int .i64 x145000_20) := (blk_cell BK144.out 0).trans rfl
                       have hcz37_1 : w36.cell? ⟨gb144, 1, none⟩ = some (.int .i64 ((rd_T38 l1 x11_2).f0.f1)) := (blk_cell BK144.out 1).trans rfl
                       have hfz37_0 := blk_frozen BK144.out 0
                       have hfz37_1 := blk_frozen BK144.out 1
                       try go_wp2
                       have n0_ : Aside0 (Kd.R k36 36 (w36.setCell ⟨gb144, 1, none⟩ (.int .i64 ((rd_T36 x6_1 x12_3).f1))) w.heap.size (fun k_ => k_ ≠ gb144) (.slice (some ad145) x6_1.length co22) x6_1) := ⟨by (with_reducible repeat (first | apply Kd.R_alloc | apply Kd.R_drewN | apply Kd.R_drew)); exact Kd.R_mono (Kd.R_far (p := ⟨gb144, 1, none⟩) (Kd.R_mono HO_6.out (fun k_ hk => (⟨hk, hk⟩ : _ ∧ k_ ≠ gb144))) (fun _ hk => hk.2) (.int .i64 ((rd_T36 x6_1 x12_3).f1))) (fun _ hk => hk.1)⟩
                       have n1_ : Aside0 (Kd.R k38 38 (w36.setCell ⟨gb144, 1, none⟩ (.int .i64 ((rd_T36 x6_1 x12_3).f1))) w.heap.size (fun _ => True) u10 x10_3) := ⟨by (with_reducible repeat (first | apply Kd.R_alloc | apply Kd.R_drewN | apply Kd.R_drew)); exact Kd.R_mono (Kd.R_far (p := ⟨gb144, 1, none⟩) (Kd.R_types HO_10.out BK144.out (by decide)) (fun _ hk => hk.2) (.int .i64 ((rd_T36 x6_1 x12_3).f1))) (fun _ hk => trivial)⟩
                       have n2_ : Aside0 ((w36.setCell ⟨gb144, 1, none⟩ (.int .i64 ((rd_T36 x6_1 x12_3).f1))).heap[gb144]? = some (.cells #[.int .i64 x145000_20, .int .i64 ((rd_T36 x6_1 x12_3).f1)] 36 (0, 0))) := ⟨by (with_reducible repeat (first | refine blk_drewN ?_ _ | refine blk_drew ?_ | refine blk_alloc ?_ _)); refine blk_put (cs := #[.int .i64 x145000_20, .int .i64 ((rd_T38 l1 x11_2).f0.f1)]) ?_ 1 _ rfl; (with_reducible repeat (first | refine blk_drewN ?_ _ | refine blk_drew ?_ | refine blk_alloc ?_ _)); exact BK144.out⟩
                       have n3_ : Aside0 (Below w.heap.size w (w36.setCell ⟨gb144, 1, none⟩ (.int .i64 ((rd_T36 x6_1 x12_3).f1)))) := ⟨by repeat (first | (with_reducible first | exact HB.out | apply below_alloc | apply pw_below_drewN | apply below_drew1 | refine below_set ?_ GE144.out) | exact HB.out)⟩
                       (try clear HO_6); (try clear HO_10); (try clear BK144); (try clear HB); generalize (w36.setCell ⟨gb144, 1, none⟩ (.int .i64 ((rd_T36 x6_1 x12_3).f1))) = w38 at n0_ n1_ n2_ n3_ ⊢
                       have HO_6 := n0_; have HO_10 := n1_; have BK144 := n2_; have HB := n3_; clear n0_ n1_ n2_ n3_; have n0_ := Aside0.mk (Kd.R_drew HO_6.out); have n1_ := Aside0.mk (Kd.R_drew HO_10.out); have n2_ := Aside0.mk (blk_drew BK144.out); have n3_ := Aside0.mk (below_drew1 HB.out); clear HO_6; clear HO_10; clear BK144; clear HB; have HO_6 := n0_; have HO_10 := n1_; have BK144 := n2_; have HB := n3_; clear n0_ n1_ n2_ n3_; have p149 : 0 ≤ (x11_2 : Int) := of_decide_eq_true (by first | (with_reducible assumption) | assumption)
                       have q149 : x11_2 < (l1.length : Int) := of_decide_eq_true (by first | (with_reducible assumption) | assumption)
                       obtain ⟨ad149, e149, hx149_0, hx149_1, hx149_2, hx149_3⟩ := at_T38 HR1.out x11_2 p149 q149
                       have hw149_3 := hx149_3
                       have hw149_2 := hx149_2
                       have hw149_1 := hx149_1
                       have hw149_0 := hx149_0
                       obtain rfl : ad143 = ad149 := (by injection e149)
                       replace hx149_0 := (HB.out.cell (World.block_lt_of_cell? w _ hx149_0)).trans hx149_0; replace hx149_1 := (HB.out.cell (World.block_lt_of_cell? w _ hx149_1)).trans hx149_1; replace hx149_2 := (HB.out.cell (World.block_lt_of_cell? w _ hx149_2)).trans hx149_2; replace hx149_3 := (HB.out.cell (World.block_lt_of_cell? w _ hx149_3)).trans hx149_3; replace p149 := eq_true p149; replace q149 := eq_true q149; have p150 : 0 ≤ (x11_2 : Int) := of_decide_eq_true (by first | (with_reducible assumption) | assumption)
                       have q150 : x11_2 < (l1.length : Int) := of_decide_eq_true (by first | (with_reducible assumption) | assumption)
                       obtain ⟨ad150, e150, hx150_0, hx150_1, hx150_2, hx150_3⟩ := at_T38 HR1.out x11_2 p150 q150
                       have hw150_3 := hx150_3
                       have hw150_2 := hx150_2
                       have hw150_1 := hx150_1
                       have hw150_0 := hx150_0
                       obtain rfl : ad143 = ad150 := (by injection e150)
                       replace hx150_0 := (HB.out.cell (World.block_lt_of_cell? w _ hx150_0)).trans hx150_0; replace hx150_1 := (HB.out.cell (World.block_lt_of_cell? w _ hx150_1)).trans hx150_1; replace hx150_2 := (HB.out.cell (World.block_lt_of_cell? w _ hx150_2)).trans hx150_2; replace hx150_3 := (HB.out.cell (World.block_lt_of_cell? w _ hx150_3)).trans hx150_3; replace p150 := eq_true p150; replace q150 := eq_true q150; refine start_ (n := 16) (S := fun w' => w'.cell? ⟨gb144, 0, none⟩ = some (.int .i64 x145000_20) ∧ w'.cell? ⟨gb144, 1, none⟩ = some (.int .i64 ((rd_T36 x6_1 x12_3).f1)) ∧ w'.cell? (ad143.add ((x11_2).toNat * 4)) = some (.int .i64 ((rd_T38 l1 x11_2).f0.f0)) ∧ w'.cell? ⟨(ad143.add ((x11_2).toNat * 4)).block, (ad143.add ((x11_2).toNat * 4)).off + 1, none⟩ = some (.int .i64 ((rd_T38 l1 x11_2).f0.f1)) ∧ w'.cell? ⟨(ad143.add ((x11_2).toNat * 4)).block, (ad143.add ((x11_2).toNat * 4)).off + 2, none⟩ = some (.int .i64 ((rd_T38 l1 x11_2).f1)) ∧ w'.cell? ⟨(ad143.add ((x11_2).toNat * 4)).block, (ad143.add ((x11_2).toNat * 4)).off + 3, none⟩ = some (.int .i64 ((rd_T38 l1 x11_2).f2)) ∧ w'.cell? (ad143.add ((x11_2).toNat * 4)) = some (.int .i64 ((rd_T38 l1 x11_2).f0.f0)) ∧ w'.cell? ⟨(ad143.add ((x11_2).toNat * 4)).block, (ad143.add ((x11_2).toNat * 4)).off + 1, none⟩ = some (.int .i64 ((rd_T38 l1 x11_2).f0.f1)) ∧ w'.cell? ⟨(ad143.add ((x11_2).toNat * 4)).block, (ad143.add ((x11_2).toNat * 4)).off + 2, none⟩ = some (.int .i64 ((rd_T38 l1 x11_2).f1)) ∧ w'.cell? ⟨(ad143.add ((x11_2).toNat * 4)).block, (ad143.add ((x11_2).toNat * 4)).off + 3, none⟩ = some (.int .i64 ((rd_T38 l1 x11_2).f2))) (ds := []) (bz 16 0) (by kernel_rfl) rfl rfl ⟨(blk_cell BK144.out 0).trans rfl, (blk_cell BK144.out 1).trans rfl, ((HB.out.cell (World.block_lt_of_cell? w _ hw149_0)).trans hw149_0), ((HB.out.cell (World.block_lt_of_cell? w _ hw149_1)).trans hw149_1), ((HB.out.cell (World.block_lt_of_cell? w _ hw149_2)).trans hw149_2), ((HB.out.cell (World.block_lt_of_cell? w _ hw149_3)).trans hw149_3), ((HB.out.cell (World.block_lt_of_cell? w _ hw150_0)).trans hw150_0), ((HB.out.cell (World.block_lt_of_cell? w _ hw150_1)).trans hw150_1), ((HB.out.cell (World.block_lt_of_cell? w _ hw150_2)).trans hw150_2), ((HB.out.cell (World.block_lt_of_cell? w _ hw150_3)).trans hw150_3)⟩ (fun hHeld => ?_); refine with_tabW glossatorref23_Pieces.tab22 glossatorref23_Pieces.bits22 (fun HT_ HW_ => ?_)
                       generalize w38.drew = w39 at HO_6 HO_10 BK144 HB hx149_0 hx149_1 hx149_2 hx149_3 hx150_0 hx150_1 hx150_2 hx150_3 hHeld ⊢
                       refine pu 0 (some 84) (bz 16 1) HT_ rfl rfl ?_; refine pu 2 (some 86) (bz 16 5) HT_ rfl rfl ?_; refine pu 3 (some 87) (bz 16 13) HT_ rfl rfl ?_; refine pu 4 (some 88) (bz 16 29) HT_ rfl rfl ?_; refine pu 5 (some 89) (bz 16 61) HT_ rfl rfl ?_; refine pu 7 (some 91) (bz 16 189) HT_ rfl rfl ?_; refine pu 8 (some 92) (bz 16 445) HT_ rfl rfl ?_; refine pu 9 (some 93) (bz 16 957) HT_ rfl rfl ?_; refine pu 10 (some 94) (bz 16 1981) HT_ rfl rfl ?_; refine tk 1 (some 85) (bz 16 1983) HT_ HW_ rfl rfl hHeld ?_; refine tk 6 (some 90) (bz 16 2047) HT_ HW_ rfl rfl hHeld ?_; refine tk 11 (some 95) (bz 16 4095) HT_ HW_ rfl rfl hHeld ?_; refine pu 12 (some 96) (bz 16 8191) HT_ rfl rfl ?_; refine one_ (i := 13) (N := some 97) (bz 16 16383) rfl rfl (one_of HT_.out (by kernel_rfl)) (by decide) (fun K hK => ?_)
                       refine value_ (w1 := ?_) (v := ?_) (by rfl) rfl ?_ ?_
                       rotate_left 2
                       ·go_simp
                        constructor
                        ·rfl
                        ·rfl
                       refine hK.out _ _ ⟨(blk_cell (blk_alloc BK144.out _) 0).trans rfl, (blk_cell (blk_alloc BK144.out _) 1).trans rfl, (World.cell?_alloc_lt _ _ _ (World.block_lt_of_cell? _ _ (((HB.out.cell (World.block_lt_of_cell? w _ hw149_0)).trans hw149_0)))).trans (((HB.out.cell (World.block_lt_of_cell? w _ hw149_0)).trans hw149_0)), (World.cell?_alloc_lt _ _ _ (World.block_lt_of_cell? _ _ (((HB.out.cell (World.block_lt_of_cell? w _ hw149_1)).trans hw149_1)))).trans (((HB.out.cell (World.block_lt_of_cell? w _ hw149_1)).trans hw149_1)), (World.cell?_alloc_lt _ _ _ (World.block_lt_of_cell? _ _ (((HB.out.cell (World.block_lt_of_cell? w _ hw149_2)).trans hw149_2)))).trans (((HB.out.cell (World.block_lt_of_cell? w _ hw149_2)).trans hw149_2)), (World.cell?_alloc_lt _ _ _ (World.block_lt_of_cell? _ _ (((HB.out.cell (World.block_lt_of_cell? w _ hw149_3)).trans hw149_3)))).trans (((HB.out.cell (World.block_lt_of_cell? w _ hw149_3)).trans hw149_3)), (World.cell?_alloc_lt _ _ _ (World.block_lt_of_cell? _ _ (((HB.out.cell (World.block_lt_of_cell? w _ hw150_0)).trans hw150_0)))).trans (((HB.out.cell (World.block_lt_of_cell? w _ hw150_0)).trans hw150_0)), (World.cell?_alloc_lt _ _ _ (World.block_lt_of_cell? _ _ (((HB.out.cell (World.block_lt_of_cell? w _ hw150_1)).trans hw150_1)))).trans (((HB.out.cell (World.block_lt_of_cell? w _ hw150_1)).trans hw150_1)), (World.cell?_alloc_lt _ _ _ (World.block_lt_of_cell? _ _ (((HB.out.cell (World.block_lt_of_cell? w _ hw150_2)).trans hw150_2)))).trans (((HB.out.cell (World.block_lt_of_cell? w _ hw150_2)).trans hw150_2)), (World.cell?_alloc_lt _ _ _ (World.block_lt_of_cell? _ _ (((HB.out.cell (World.block_lt_of_cell? w _ hw150_3)).trans hw150_3)))).trans (((HB.out.cell (World.block_lt_of_cell? w _ hw150_3)).trans hw150_3))⟩ (fun hHeld => ?_)
                       clear hK K; refine norm_ (a' := ?_) ?_ ?_
                       rotate_left
                       ·show Act.put _ (some 97) _ = _
                        simp only [Act.put, List.setIfInBounds_toArray, List.set_cons_zero, List.set_cons_succ, i64_w, i32_w]
                        rfl
                       refine one_ (i := 14) (N := some 98) (bz 16 32767) rfl rfl (one_of HT_.out (by kernel_rfl)) (by decide) (fun K hK => ?_)
                       refine Kd.R_append_step k38 (w0 := w) w.heap.size (by rfl) (.tmp 84) (.tmp 97) 22 38 (.agg #[(.int .i64 0), (.int .i64 0), (.int .i64 0), (.int .i64 0)]) 32 rfl Tryd.underlying22 info38 rfl (by decide) (by omega) u10 x10_3 (⟨(⟨x145000_20, (rd_T36 x6_1 x12_3).f1⟩ : S36), (rd_T38 l1 x11_2).f1, (rd_T38 l1 x11_2).f2⟩ : S38) [.int .i64 x145000_20, .int .i64 ((rd_T36 x6_1 x12_3).f1), .int .i64 ((rd_T38 l1 x11_2).f1), .int .i64 ((rd_T38 l1 x11_2).f2)] (fun _ => True) (fun _ => False) rfl rfl ?aP (fun _ hk => hk.elim) ?aF ?aO ?aB ?aS ?aL ?_
                       (case aP => exact k38_mkM _ _ _ (⟨(⟨x145000_20, (rd_T36 x6_1 x12_3).f1⟩ : S36), (rd_T38 l1 x11_2).f1, (rd_T38 l1 x11_2).f2⟩ : S38))
                       (case aB => exact (by repeat (first | (with_reducible first | exact HB.out | apply below_alloc | apply pw_below_drewN | apply below_drew1 | refine below_set ?_ GE144.out) | exact HB.out)))
                       (case aF => exact (fun _ _ => trivial))
                       (case aO => exact (rl HO_10))
                       (case aS => exact (below_size (by repeat (first | (with_reducible first | exact HB.out | apply below_alloc | apply pw_below_drewN | apply below_drew1 | refine below_set ?_ GE144.out) | exact HB.out))))
                       (case aL => have := LMc35.out; omega)
                       intro v152 w40 ho hb hg hat
                       rw [← Ny151.out] at ho
                       have n0_ := Aside0.mk (Kd.R_over' (rl HO_6) (Kd.R_typed (rl HO_10)) (by decide) hg); have n1_ := Aside0.mk (blk_grown (g := gb144) (o := .cells #[.int .i64 x145000_20, .int .i64 ((rd_T36 x6_1 x12_3).f1)] 36 (0, 0)) (kl BK144) hg (Kd.R_ne HO_10.out BK144.out (by decide))); have n2_ := Aside0.mk (hb); have n3_ := Aside0.mk (ho); clear HO_6; clear BK144; clear HB; clear HO_10; have HO_6 := n0_; have BK144 := n1_; have HB := n2_; have HO153 := n3_; clear n0_ n1_ n2_ n3_; clear ho hb hg hat; refine hK.out _ _ ⟨(blk_cell BK144.out 0).trans rfl, (blk_cell BK144.out 1).trans rfl, ((HB.out.cell (World.block_lt_of_cell? w _ hw149_0)).trans hw149_0), ((HB.out.cell (World.block_lt_of_cell? w _ hw149_1)).trans hw149_1), ((HB.out.cell (World.block_lt_of_cell? w _ hw149_2)).trans hw149_2), ((HB.out.cell (World.block_lt_of_cell? w _ hw149_3)).trans hw149_3), ((HB.out.cell (World.block_lt_of_cell? w _ hw150_0)).trans hw150_0), ((HB.out.cell (World.block_lt_of_cell? w _ hw150_1)).trans hw150_1), ((HB.out.cell (World.block_lt_of_cell? w _ hw150_2)).trans hw150_2), ((HB.out.cell (World.block_lt_of_cell? w _ hw150_3)).trans hw150_3)⟩ (fun hHeld => ?_)
                       clear hK K; refine norm_ (a' := ?_) ?_ ?_
                       rotate_left
                       ·show Act.put _ (some 98) _ = _
                        simp only [Act.put, List.setIfInBounds_toArray, List.set_cons_zero, List.set_cons_succ, i64_w, i32_w]
                        rfl
                       refine pu 15 (some 10) (bz 16 65535) HT_ rfl rfl ?_; refine done_ (done_of HT_.out (by kernel_rfl)) ?_
                       try go_wp2
                       go_roundg kj20
                       case measure => have := HK1.out; have := HK2.out; have := HK3.out; have := HJ20.out; omega
                       case rel => exact ⟨(y151), (wrap64 (x12_3 + 1)), (by first | rfl | (simp; done) | (simp [*]; done) | (simp; exact xEmpty_ne _) | (simp [*]; exact xEmpty_ne _)), H', ⟨by have := HK1.out; have := HK2.out; have := HK3.out; have := HJ20.out; omega⟩, ⟨by (with_reducible repeat (first | apply Kd.R_alloc | apply Kd.R_drewN | apply Kd.R_drew)); exact Kd.R_mono HO_6.out (fun _ hk => trivial)⟩, ⟨rl HO153⟩, ⟨by repeat (first | (with_reducible first | exact HB.out | apply below_alloc | apply pw_below_drewN | apply below_drew1 | refine below_set ?_ GE144.out) | exact HB.out)⟩⟩
                      ·rw [if_neg c35] at H; exact absurd H (by simp)
                     ·rw [if_neg c34] at H; exact absurd H (by simp)
                    ·rw [if_neg c33] at H; exact absurd H (by simp)
                   ·rw [if_neg c32] at H; have c32b0 : decide (x145000_20 < ((rd_T36 x6_1 x12_3).f1)) = false := decide_eq_false c32; clear c32; have H' := Aside0.mk H; clear H; try go_wp2
                    have n0_ := Aside0.mk (Kd.R_drew HO_6.out); have n1_ := Aside0.mk (Kd.R_drew HO_10.out); have n2_ := Aside0.mk (blk_drew BK144.out); have n3_ := Aside0.mk (below_drew1 HB.out); clear HO_6; clear HO_10; clear BK144; clear HB; have HO_6 := n0_; have HO_10 := n1_; have BK144 := n2_; have HB := n3_; clear n0_ n1_ n2_ n3_; have p147 : 0 ≤ (x12_3 : Int) := of_decide_eq_true (by first | (with_reducible assumption) | assumption)
                    have q147 : x12_3 < (x6_1.length : Int) := of_decide_eq_true (by first | (with_reducible assumption) | assumption)
                    obtain ⟨ad147, e147, hx147_0, hx147_1⟩ := at_T36 (Kd.R_reads' HO_6.out).2.2 x12_3 p147 q147
                    obtain rfl : ad145 = ad147 := (by injection e147)
                    replace p147 := eq_true p147; replace q147 := eq_true q147; refine start_ (n := 8) (S := fun w' => w'.cell? ⟨gb144, 0, none⟩ = some (.int .i64 x145000_20) ∧ w'.cell? ⟨gb144, 1, none⟩ = some (.int .i64 ((rd_T38 l1 x11_2).f0.f1)) ∧ w'.cell? (ad145.add ((x12_3).toNat * 2)) = some (.int .i64 ((rd_T36 x6_1 x12_3).f0)) ∧ w'.cell? ⟨(ad145.add ((x12_3).toNat * 2)).block, (ad145.add ((x12_3).toNat * 2)).off + 1, none⟩ = some (.int .i64 ((rd_T36 x6_1 x12_3).f1))) (ds := []) (bz 8 0) (by kernel_rfl) rfl rfl ⟨(blk_cell BK144.out 0).trans rfl, (blk_cell BK144.out 1).trans rfl, hx147_0, hx147_1⟩ (fun hHeld => ?_); refine with_tabW glossatorref23_Pieces.tab19 glossatorref23_Pieces.bits19 (fun HT_ HW_ => ?_)
                    generalize wc.drew = w41 at HO_6 HO_10 BK144 HB hx147_0 hx147_1 hHeld ⊢
                    refine pu 0 (some 65) (bz 8 1) HT_ rfl rfl ?_; refine pu 1 (some 66) (bz 8 3) HT_ rfl rfl ?_; refine pu 2 (some 67) (bz 8 7) HT_ rfl rfl ?_; refine pu 3 (some 68) (bz 8 15) HT_ rfl rfl ?_; refine pu 5 (some 70) (bz 8 47) HT_ rfl rfl ?_; refine tk 4 (some 69) (bz 8 63) HT_ HW_ rfl rfl hHeld ?_; refine tk 6 (some 71) (bz 8 127) HT_ HW_ rfl rfl hHeld ?_; refine pu 7 (some 72) (bz 8 255) HT_ rfl rfl ?_; refine done_ (done_of HT_.out (by kernel_rfl)) ?_
                    have p148 : 0 ≤ (x12_3 : Int) := of_decide_eq_true (by first | (with_reducible assumption) | assumption)
                    have q148 : x12_3 < (x6_1.length : Int) := of_decide_eq_true (by first | (with_reducible assumption) | assumption)
                    obtain ⟨ad148, e148, hx148_0, hx148_1⟩ := at_T36 (Kd.R_reads' HO_6.out).2.2 x12_3 p148 q148
                    obtain rfl : ad145 = ad148 := (by injection e148)
                    replace p148 := eq_true p148; replace q148 := eq_true q148; have hcz42_0 : w41.cell? ⟨gb144, 0, none⟩ = some (.int .i64 x145000_20) := (blk_cell BK144.out 0).trans rfl
                    have hcz42_1 : w41.cell? ⟨gb144, 1, none⟩ = some (.int .i64 ((rd_T38 l1 x11_2).f0.f1)) := (blk_cell BK144.out 1).trans rfl
                    have hfz42_0 := blk_frozen BK144.out 0
                    have hfz42_1 := blk_frozen BK144.out 1
                    try go_wp2
                    go_roundg kj20
                    case measure => have := HK1.out; have := HK2.out; have := HK3.out; have := HJ20.out; omega
                    case rel => exact ⟨(x10_3), (wrap64 (x12_3 + 1)), (by first | rfl | (simp; done) | (simp [*]; done) | (simp; exact xEmpty_ne _) | (simp [*]; exact xEmpty_ne _)), H', ⟨by have := HK1.out; have := HK2.out; have := HK3.out; have := HJ20.out; omega⟩, ⟨by (with_reducible repeat (first | apply Kd.R_alloc | apply Kd.R_drewN | apply Kd.R_drew)); exact Kd.R_mono (Kd.R_far (p := ⟨gb144, 1, none⟩) (Kd.R_mono HO_6.out (fun k_ hk => (⟨hk, hk⟩ : _ ∧ k_ ≠ gb144))) (fun _ hk => hk.2) (.int .i64 ((rd_T36 x6_1 x12_3).f1))) (fun _ hk => trivial)⟩, ⟨by (with_reducible repeat (first | apply Kd.R_alloc | apply Kd.R_drewN | apply Kd.R_drew)); exact Kd.R_mono (Kd.R_far (p := ⟨gb144, 1, none⟩) (Kd.R_types HO_10.out BK144.out (by decide)) (fun _ hk => hk.2) (.int .i64 ((rd_T36 x6_1 x12_3).f1))) (fun _ hk => trivial)⟩, ⟨by repeat (first | (with_reducible first | exact HB.out | apply below_alloc | apply pw_below_drewN | apply below_drew1 | refine below_set ?_ GE144.out) | exact HB.out)⟩⟩
                  ·rw [if_neg c31] at H; have c31b0 : decide (((rd_T36 x6_1 x12_3).f1) < ((rd_T38 l1 x11_2).f0.f1)) = false := decide_eq_false c31; clear c31; by_cases c43 : x145000_20 < ((rd_T38 l1 x11_2).f0.f1)
                   ·rw [if_pos c43] at H; have c43b0 : decide (x145000_20 < ((rd_T38 l1 x11_2).f0.f1)) = true := decide_eq_true c43; clear c43; by_cases c44 : 0 ≤ x11_2
                    ·rw [if_pos c44] at H; have c44b0 : decide (0 ≤ x11_2) = true := decide_eq_true c44; clear c44; by_cases c45 : x11_2 < (l1.length : Int)
                     ·rw [if_pos c45] at H; have c45b0 : decide (x11_2 < (l1.length : Int)) = true := decide_eq_true c45; clear c45; by_cases c46 : x10_3.length < 4398046511104
                      ·rw [if_pos c46] at H; have LMc46 := Aside0.mk c46; clear c46; obtain ⟨y156, hy156⟩ : ∃ y_ : List (S38), y_ = (x10_3 ++ [(⟨(⟨x145000_20, ((rd_T38 l1 x11_2).f0.f1)⟩ : S36), (rd_T38 l1 x11_2).f1, (rd_T38 l1 x11_2).f2⟩ : S38)]) := ⟨_, rfl⟩
                       replace H : (glossatorref23_Pieces.l2 kj20 l1 x6_1 y156 x11_2 (wrap64 (x12_3 + 1))) = some (r1, r2) := by first | (rw [hy156]; with_reducible exact H) | (have H2_ := (Option.bind_some _ _).symm.trans H; rw [hy156]; with_reducible exact H2_) | (have H2_ := (Option.bind_some _ _).symm.trans H; with_reducible exact H2_) | with_reducible exact H | (rw [hy156]; exact H) | exact H
                       have Ny156 := Aside0.mk hy156; clear hy156; have H' := Aside0.mk H; clear H; try go_wp2
                       have n0_ := Aside0.mk (Kd.R_drew HO_6.out); have n1_ := Aside0.mk (Kd.R_drew HO_10.out); have n2_ := Aside0.mk (blk_drew BK144.out); have n3_ := Aside0.mk (below_drew1 HB.out); clear HO_6; clear HO_10; clear BK144; clear HB; have HO_6 := n0_; have HO_10 := n1_; have BK144 := n2_; have HB := n3_; clear n0_ n1_ n2_ n3_; have p147 : 0 ≤ (x12_3 : Int) := of_decide_eq_true (by first | (with_reducible assumption) | assumption)
                       have q147 : x12_3 < (x6_1.length : Int) := of_decide_eq_true (by first | (with_reducible assumption) | assumption)
                       obtain ⟨ad147, e147, hx147_0, hx147_1⟩ := at_T36 (Kd.R_reads' HO_6.out).2.2 x12_3 p147 q147
                       obtain rfl : ad145 = ad147 := (by injection e147)
                       replace p147 := eq_true p147; replace q147 := eq_true q147; refine start_ (n := 8) (S := fun w' => w'.cell? ⟨gb144, 0, none⟩ = some (.int .i64 x145000_20) ∧ w'.cell? ⟨gb144, 1, none⟩ = some (.int .i64 ((rd_T38 l1 x11_2).f0.f1)) ∧ w'.cell? (ad145.add ((x12_3).toNat * 2)) = some (.int .i64 ((rd_T36 x6_1 x12_3).f0)) ∧ w'.cell? ⟨(ad145.add ((x12_3).toNat * 2)).block, (ad145.add ((x12_3).toNat * 2)).off + 1, none⟩ = some (.int .i64 ((rd_T36 x6_1 x12_3).f1))) (ds := []) (bz 8 0) (by kernel_rfl) rfl rfl ⟨(blk_cell BK144.out 0).trans rfl, (blk_cell BK144.out 1).trans rfl, hx147_0, hx147_1⟩ (fun hHeld => ?_); refine with_tabW glossatorref23_Pieces.tab19 glossatorref23_Pieces.bits19 (fun HT_ HW_ => ?_)
                       generalize wc.drew = w47 at HO_6 HO_10 BK144 HB hx147_0 hx147_1 hHeld ⊢
                       refine pu 0 (some 65) (bz 8 1) HT_ rfl rfl ?_; refine pu 1 (some 66) (bz 8 3) HT_ rfl rfl ?_; refine pu 2 (some 67) (bz 8 7) HT_ rfl rfl ?_; refine pu 3 (some 68) (bz 8 15) HT_ rfl rfl ?_; refine pu 5 (some 70) (bz 8 47) HT_ rfl rfl ?_; refine tk 4 (some 69) (bz 8 63) HT_ HW_ rfl rfl hHeld ?_; refine tk 6 (some 71) (bz 8 127) HT_ HW_ rfl rfl hHeld ?_; refine pu 7 (some 72) (bz 8 255) HT_ rfl rfl ?_; refine done_ (done_of HT_.out (by kernel_rfl)) ?_
                       have hcz48_0 : w47.cell? ⟨gb144, 0, none⟩ = some (.int .i64 x145000_20) := (blk_cell BK144.out 0).trans rfl
                       have hcz48_1 : w47.cell? ⟨gb144, 1, none⟩ = some (.int .i64 ((rd_T38 l1 x11_2).f0.f1)) := (blk_cell BK144.out 1).trans rfl
                       have hfz48_0 := blk_frozen BK144.out 0
                       have hfz48_1 := blk_frozen BK144.out 1
                       try go_wp2
                       have n0_ := Aside0.mk (Kd.R_drew HO_6.out); have n1_ := Aside0.mk (Kd.R_drew HO_10.out); have n2_ := Aside0.mk (blk_drew BK144.out); have n3_ := Aside0.mk (below_drew1 HB.out); clear HO_6; clear HO_10; clear BK144; clear HB; have HO_6 := n0_; have HO_10 := n1_; have BK144 := n2_; have HB := n3_; clear n0_ n1_ n2_ n3_; have p154 : 0 ≤ (x11_2 : Int) := of_decide_eq_true (by first | (with_reducible assumption) | assumption)
                       have q154 : x11_2 < (l1.length : Int) := of_decide_eq_true (by first | (with_reducible assumption) | assumption)
                       obtain ⟨ad154, e154, hx154_0, hx154_1, hx154_2, hx154_3⟩ := at_T38 HR1.out x11_2 p154 q154
                       have hw154_3 := hx154_3
                       have hw154_2 := hx154_2
                       have hw154_1 := hx154_1
                       have hw154_0 := hx154_0
                       obtain rfl : ad143 = ad154 := (by injection e154)
                       replace hx154_0 := (HB.out.cell (World.block_lt_of_cell? w _ hx154_0)).trans hx154_0; replace hx154_1 := (HB.out.cell (World.block_lt_of_cell? w _ hx154_1)).trans hx154_1; replace hx154_2 := (HB.out.cell (World.block_lt_of_cell? w _ hx154_2)).trans hx154_2; replace hx154_3 := (HB.out.cell (World.block_lt_of_cell? w _ hx154_3)).trans hx154_3; replace p154 := eq_true p154; replace q154 := eq_true q154; have p155 : 0 ≤ (x11_2 : Int) := of_decide_eq_true (by first | (with_reducible assumption) | assumption)
                       have q155 : x11_2 < (l1.length : Int) := of_decide_eq_true (by first | (with_reducible assumption) | assumption)
                       obtain ⟨ad155, e155, hx155_0, hx155_1, hx155_2, hx155_3⟩ := at_T38 HR1.out x11_2 p155 q155
                       have hw155_3 := hx155_3
                       have hw155_2 := hx155_2
                       have hw155_1 := hx155_1
                       have hw155_0 := hx155_0
                       obtain rfl : ad143 = ad155 := (by injection e155)
                       replace hx155_0 := (HB.out.cell (World.block_lt_of_cell? w _ hx155_0)).trans hx155_0; replace hx155_1 := (HB.out.cell (World.block_lt_of_cell? w _ hx155_1)).trans hx155_1; replace hx155_2 := (HB.out.cell (World.block_lt_of_cell? w _ hx155_2)).trans hx155_2; replace hx155_3 := (HB.out.cell (World.block_lt_of_cell? w _ hx155_3)).trans hx155_3; replace p155 := eq_true p155; replace q155 := eq_true q155; refine start_ (n := 16) (S := fun w' => w'.cell? ⟨gb144, 0, none⟩ = some (.int .i64 x145000_20) ∧ w'.cell? ⟨gb144, 1, none⟩ = some (.int .i64 ((rd_T38 l1 x11_2).f0.f1)) ∧ w'.cell? (ad143.add ((x11_2).toNat * 4)) = some (.int .i64 ((rd_T38 l1 x11_2).f0.f0)) ∧ w'.cell? ⟨(ad143.add ((x11_2).toNat * 4)).block, (ad143.add ((x11_2).toNat * 4)).off + 1, none⟩ = some (.int .i64 ((rd_T38 l1 x11_2).f0.f1)) ∧ w'.cell? ⟨(ad143.add ((x11_2).toNat * 4)).block, (ad143.add ((x11_2).toNat * 4)).off + 2, none⟩ = some (.int .i64 ((rd_T38 l1 x11_2).f1)) ∧ w'.cell? ⟨(ad143.add ((x11_2).toNat * 4)).block, (ad143.add ((x11_2).toNat * 4)).off + 3, none⟩ = some (.int .i64 ((rd_T38 l1 x11_2).f2)) ∧ w'.cell? (ad143.add ((x11_2).toNat * 4)) = some (.int .i64 ((rd_T38 l1 x11_2).f0.f0)) ∧ w'.cell? ⟨(ad143.add ((x11_2).toNat * 4)).block, (ad143.add ((x11_2).toNat * 4)).off + 1, none⟩ = some (.int .i64 ((rd_T38 l1 x11_2).f0.f1)) ∧ w'.cell? ⟨(ad143.add ((x11_2).toNat * 4)).block, (ad143.add ((x11_2).toNat * 4)).off + 2, none⟩ = some (.int .i64 ((rd_T38 l1 x11_2).f1)) ∧ w'.cell? ⟨(ad143.add ((x11_2).toNat * 4)).block, (ad143.add ((x11_2).toNat * 4)).off + 3, none⟩ = some (.int .i64 ((rd_T38 l1 x11_2).f2))) (ds := []) (bz 16 0) (by kernel_rfl) rfl rfl ⟨(blk_cell BK144.out 0).trans rfl, (blk_cell BK144.out 1).trans rfl, ((HB.out.cell (World.block_lt_of_cell? w _ hw154_0)).trans hw154_0), ((HB.out.cell (World.block_lt_of_cell? w _ hw154_1)).trans hw154_1), ((HB.out.cell (World.block_lt_of_cell? w _ hw154_2)).trans hw154_2), ((HB.out.cell (World.block_lt_of_cell? w _ hw154_3)).trans hw154_3), ((HB.out.cell (World.block_lt_of_cell? w _ hw155_0)).trans hw155_0), ((HB.out.cell (World.block_lt_of_cell? w _ hw155_1)).trans hw155_1), ((HB.out.cell (World.block_lt_of_cell? w _ hw155_2)).trans hw155_2), ((HB.out.cell (World.block_lt_of_cell? w _ hw155_3)).trans hw155_3)⟩ (fun hHeld => ?_); refine with_tabW glossatorref23_Pieces.tab22 glossatorref23_Pieces.bits22 (fun HT_ HW_ => ?_)
                       generalize w47.drew = w49 at HO_6 HO_10 BK144 HB hx154_0 hx154_1 hx154_2 hx154_3 hx155_0 hx155_1 hx155_2 hx155_3 hHeld ⊢
                       refine pu 0 (some 84) (bz 16 1) HT_ rfl rfl ?_; refine pu 2 (some 86) (bz 16 5) HT_ rfl rfl ?_; refine pu 3 (some 87) (bz 16 13) HT_ rfl rfl ?_; refine pu 4 (some 88) (bz 16 29) HT_ rfl rfl ?_; refine pu 5 (some 89) (bz 16 61) HT_ rfl rfl ?_; refine pu 7 (some 91) (bz 16 189) HT_ rfl rfl ?_; refine pu 8 (some 92) (bz 16 445) HT_ rfl rfl ?_; refine pu 9 (some 93) (bz 16 957) HT_ rfl rfl ?_; refine pu 10 (some 94) (bz 16 1981) HT_ rfl rfl ?_; refine tk 1 (some 85) (bz 16 1983) HT_ HW_ rfl rfl hHeld ?_; refine tk 6 (some 90) (bz 16 2047) HT_ HW_ rfl rfl hHeld ?_; refine tk 11 (some 95) (bz 16 4095) HT_ HW_ rfl rfl hHeld ?_; refine pu 12 (some 96) (bz 16 8191) HT_ rfl rfl ?_; refine one_ (i := 13) (N := some 97) (bz 16 16383) rfl rfl (one_of HT_.out (by kernel_rfl)) (by decide) (fun K hK => ?_)
                       refine value_ (w1 := ?_) (v := ?_) (by rfl) rfl ?_ ?_
                       rotate_left 2
                       ·go_simp
                        constructor
                        ·rfl
                        ·rfl
                       refine hK.out _ _ ⟨(blk_cell (blk_alloc BK144.out _) 0).trans rfl, (blk_cell (blk_alloc BK144.out _) 1).trans rfl, (World.cell?_alloc_lt _ _ _ (World.block_lt_of_cell? _ _ (((HB.out.cell (World.block_lt_of_cell? w _ hw154_0)).trans hw154_0)))).trans (((HB.out.cell (World.block_lt_of_cell? w _ hw154_0)).trans hw154_0)), (World.cell?_alloc_lt _ _ _ (World.block_lt_of_cell? _ _ (((HB.out.cell (World.block_lt_of_cell? w _ hw154_1)).trans hw154_1)))).trans (((HB.out.cell (World.block_lt_of_cell? w _ hw154_1)).trans hw154_1)), (World.cell?_alloc_lt _ _ _ (World.block_lt_of_cell? _ _ (((HB.out.cell (World.block_lt_of_cell? w _ hw154_2)).trans hw154_2)))).trans (((HB.out.cell (World.block_lt_of_cell? w _ hw154_2)).trans hw154_2)), (World.cell?_alloc_lt _ _ _ (World.block_lt_of_cell? _ _ (((HB.out.cell (World.block_lt_of_cell? w _ hw154_3)).trans hw154_3)))).trans (((HB.out.cell (World.block_lt_of_cell? w _ hw154_3)).trans hw154_3)), (World.cell?_alloc_lt _ _ _ (World.block_lt_of_cell? _ _ (((HB.out.cell (World.block_lt_of_cell? w _ hw155_0)).trans hw155_0)))).trans (((HB.out.cell (World.block_lt_of_cell? w _ hw155_0)).trans hw155_0)), (World.cell?_alloc_lt _ _ _ (World.block_lt_of_cell? _ _ (((HB.out.cell (World.block_lt_of_cell? w _ hw155_1)).trans hw155_1)))).trans (((HB.out.cell (World.block_lt_of_cell? w _ hw155_1)).trans hw155_1)), (World.cell?_alloc_lt _ _ _ (World.block_lt_of_cell? _ _ (((HB.out.cell (World.block_lt_of_cell? w _ hw155_2)).trans hw155_2)))).trans (((HB.out.cell (World.block_lt_of_cell? w _ hw155_2)).trans hw155_2)), (World.cell?_alloc_lt _ _ _ (World.block_lt_of_cell? _ _ (((HB.out.cell (World.block_lt_of_cell? w _ hw155_3)).trans hw155_3)))).trans (((HB.out.cell (World.block_lt_of_cell? w _ hw155_3)).trans hw155_3))⟩ (fun hHeld => ?_)
                       clear hK K; refine norm_ (a' := ?_) ?_ ?_
                       rotate_left
                       ·show Act.put _ (some 97) _ = _
                        simp only [Act.put, List.setIfInBounds_toArray, List.set_cons_zero, List.set_cons_succ, i64_w, i32_w]
                        rfl
                       refine one_ (i := 14) (N := some 98) (bz 16 32767) rfl rfl (one_of HT_.out (by kernel_rfl)) (by decide) (fun K hK => ?_)
                       refine Kd.R_append_step k38 (w0 := w) w.heap.size (by rfl) (.tmp 84) (.tmp 97) 22 38 (.agg #[(.int .i64 0), (.int .i64 0), (.int .i64 0), (.int .i64 0)]) 32 rfl Tryd.underlying22 info38 rfl (by decide) (by omega) u10 x10_3 (⟨(⟨x145000_20, ((rd_T38 l1 x11_2).f0.f1)⟩ : S36), (rd_T38 l1 x11_2).f1, (rd_T38 l1 x11_2).f2⟩ : S38) [.int .i64 x145000_20, .int .i64 ((rd_T38 l1 x11_2).f0.f1), .int .i64 ((rd_T38 l1 x11_2).f1), .int .i64 ((rd_T38 l1 x11_2).f2)] (fun _ => True) (fun _ => False) rfl rfl ?aP (fun _ hk => hk.elim) ?aF ?aO ?aB ?aS ?aL ?_
                       (case aP => exact k38_mkM _ _ _ (⟨(⟨x145000_20, ((rd_T38 l1 x11_2).f0.f1)⟩ : S36), (rd_T38 l1 x11_2).f1, (rd_T38 l1 x11_2).f2⟩ : S38))
                       (case aB => exact (by repeat (first | (with_reducible first | exact HB.out | apply below_alloc | apply pw_below_drewN | apply below_drew1 | refine below_set ?_ GE144.out) | exact HB.out)))
                       (case aF => exact (fun _ _ => trivial))
                       (case aO => exact (rl HO_10))
                       (case aS => exact (below_size (by repeat (first | (with_reducible first | exact HB.out | apply below_alloc | apply pw_below_drewN | apply below_drew1 | refine below_set ?_ GE144.out) | exact HB.out))))
                       (case aL => have := LMc46.out; omega)
                       intro v157 w50 ho hb hg hat
                       rw [← Ny156.out] at ho
                       have n0_ := Aside0.mk (Kd.R_over' (rl HO_6) (Kd.R_typed (rl HO_10)) (by decide) hg); have n1_ := Aside0.mk (blk_grown (g := gb144) (o := .cells #[.int .i64 x145000_20, .int .i64 ((rd_T38 l1 x11_2).f0.f1)] 36 (0, 0)) (kl BK144) hg (Kd.R_ne HO_10.out BK144.out (by decide))); have n2_ := Aside0.mk (hb); have n3_ := Aside0.mk (ho); clear HO_6; clear BK144; clear HB; clear HO_10; have HO_6 := n0_; have BK144 := n1_; have HB := n2_; have HO158 := n3_; clear n0_ n1_ n2_ n3_; clear ho hb hg hat; refine hK.out _ _ ⟨(blk_cell BK144.out 0).trans rfl, (blk_cell BK144.out 1).trans rfl, ((HB.out.cell (World.block_lt_of_cell? w _ hw154_0)).trans hw154_0), ((HB.out.cell (World.block_lt_of_cell? w _ hw154_1)).trans hw154_1), ((HB.out.cell (World.block_lt_of_cell? w _ hw154_2)).trans hw154_2), ((HB.out.cell (World.block_lt_of_cell? w _ hw154_3)).trans hw154_3), ((HB.out.cell (World.block_lt_of_cell? w _ hw155_0)).trans hw155_0), ((HB.out.cell (World.block_lt_of_cell? w _ hw155_1)).trans hw155_1), ((HB.out.cell (World.block_lt_of_cell? w _ hw155_2)).trans hw155_2), ((HB.out.cell (World.block_lt_of_cell? w _ hw155_3)).trans hw155_3)⟩ (fun hHeld => ?_)
                       clear hK K; refine norm_ (a' := ?_) ?_ ?_
                       rotate_left
                       ·show Act.put _ (some 98) _ = _
                        simp only [Act.put, List.setIfInBounds_toArray, List.set_cons_zero, List.set_cons_succ, i64_w, i32_w]
                        rfl
                       refine pu 15 (some 10) (bz 16 65535) HT_ rfl rfl ?_; refine done_ (done_of HT_.out (by kernel_rfl)) ?_
                       try go_wp2
                       go_roundg kj20
                       case measure => have := HK1.out; have := HK2.out; have := HK3.out; have := HJ20.out; omega
                       case rel => exact ⟨(y156), (wrap64 (x12_3 + 1)), (by first | rfl | (simp; done) | (simp [*]; done) | (simp; exact xEmpty_ne _) | (simp [*]; exact xEmpty_ne _)), H', ⟨by have := HK1.out; have := HK2.out; have := HK3.out; have := HJ20.out; omega⟩, ⟨by (with_reducible repeat (first | apply Kd.R_alloc | apply Kd.R_drewN | apply Kd.R_drew)); exact Kd.R_mono HO_6.out (fun _ hk => trivial)⟩, ⟨rl HO158⟩, ⟨by repeat (first | (with_reducible first | exact HB.out | apply below_alloc | apply pw_below_drewN | apply below_drew1 | refine below_set ?_ GE144.out) | exact HB.out)⟩⟩
                      ·rw [if_neg c46] at H; exact absurd H (by simp)
                     ·rw [if_neg c45] at H; exact absurd H (by simp)
                    ·rw [if_neg c44] at H; exact absurd H (by simp)
                   ·rw [if_neg c43] at H; have c43b0 : decide (x145000_20 < ((rd_T38 l1 x11_2).f0.f1)) = false := decide_eq_false c43; clear c43; have H' := Aside0.mk H; clear H; try go_wp2
                    have n0_ := Aside0.mk (Kd.R_drew HO_6.out); have n1_ := Aside0.mk (Kd.R_drew HO_10.out); have n2_ := Aside0.mk (blk_drew BK144.out); have n3_ := Aside0.mk (below_drew1 HB.out); clear HO_6; clear HO_10; clear BK144; clear HB; have HO_6 := n0_; have HO_10 := n1_; have BK144 := n2_; have HB := n3_; clear n0_ n1_ n2_ n3_; have p147 : 0 ≤ (x12_3 : Int) := of_decide_eq_true (by first | (with_reducible assumption) | assumption)
                    have q147 : x12_3 < (x6_1.length : Int) := of_decide_eq_true (by first | (with_reducible assumption) | assumption)
                    obtain ⟨ad147, e147, hx147_0, hx147_1⟩ := at_T36 (Kd.R_reads' HO_6.out).2.2 x12_3 p147 q147
                    obtain rfl : ad145 = ad147 := (by injection e147)
                    replace p147 := eq_true p147; replace q147 := eq_true q147; refine start_ (n := 8) (S := fun w' => w'.cell? ⟨gb144, 0, none⟩ = some (.int .i64 x145000_20) ∧ w'.cell? ⟨gb144, 1, none⟩ = some (.int .i64 ((rd_T38 l1 x11_2).f0.f1)) ∧ w'.cell? (ad145.add ((x12_3).toNat * 2)) = some (.int .i64 ((rd_T36 x6_1 x12_3).f0)) ∧ w'.cell? ⟨(ad145.add ((x12_3).toNat * 2)).block, (ad145.add ((x12_3).toNat * 2)).off + 1, none⟩ = some (.int .i64 ((rd_T36 x6_1 x12_3).f1))) (ds := []) (bz 8 0) (by kernel_rfl) rfl rfl ⟨(blk_cell BK144.out 0).trans rfl, (blk_cell BK144.out 1).trans rfl, hx147_0, hx147_1⟩ (fun hHeld => ?_); refine with_tabW glossatorref23_Pieces.tab19 glossatorref23_Pieces.bits19 (fun HT_ HW_ => ?_)
                    generalize wc.drew = w51 at HO_6 HO_10 BK144 HB hx147_0 hx147_1 hHeld ⊢
                    refine pu 0 (some 65) (bz 8 1) HT_ rfl rfl ?_; refine pu 1 (some 66) (bz 8 3) HT_ rfl rfl ?_; refine pu 2 (some 67) (bz 8 7) HT_ rfl rfl ?_; refine pu 3 (some 68) (bz 8 15) HT_ rfl rfl ?_; refine pu 5 (some 70) (bz 8 47) HT_ rfl rfl ?_; refine tk 4 (some 69) (bz 8 63) HT_ HW_ rfl rfl hHeld ?_; refine tk 6 (some 71) (bz 8 127) HT_ HW_ rfl rfl hHeld ?_; refine pu 7 (some 72) (bz 8 255) HT_ rfl rfl ?_; refine done_ (done_of HT_.out (by kernel_rfl)) ?_
                    have hcz52_0 : w51.cell? ⟨gb144, 0, none⟩ = some (.int .i64 x145000_20) := (blk_cell BK144.out 0).trans rfl
                    have hcz52_1 : w51.cell? ⟨gb144, 1, none⟩ = some (.int .i64 ((rd_T38 l1 x11_2).f0.f1)) := (blk_cell BK144.out 1).trans rfl
                    have hfz52_0 := blk_frozen BK144.out 0
                    have hfz52_1 := blk_frozen BK144.out 1
                    try go_wp2
                    go_roundg kj20
                    case measure => have := HK1.out; have := HK2.out; have := HK3.out; have := HJ20.out; omega
                    case rel => exact ⟨(x10_3), (wrap64 (x12_3 + 1)), (by first | rfl | (simp; done) | (simp [*]; done) | (simp; exact xEmpty_ne _) | (simp [*]; exact xEmpty_ne _)), H', ⟨by have := HK1.out; have := HK2.out; have := HK3.out; have := HJ20.out; omega⟩, ⟨by (with_reducible repeat (first | apply Kd.R_alloc | apply Kd.R_drewN | apply Kd.R_drew)); exact Kd.R_mono HO_6.out (fun _ hk => trivial)⟩, ⟨rl HO_10⟩, ⟨by repeat (first | (with_reducible first | exact HB.out | apply below_alloc | apply pw_below_drewN | apply below_drew1 | refine below_set ?_ GE144.out) | exact HB.out)⟩⟩
                 ·rw [if_neg c30] at H; exact absurd H (by simp)
                ·rw [if_neg c29] at H; exact absurd H (by simp)
             ·rw [if_neg c20] at H; exact absurd H (by simp)
            ·rw [if_neg c19] at H; exact absurd H (by simp)
           ·rw [if_neg c18] at H; exact absurd H (by simp)
          ·rw [if_neg c17] at H; have c17b0 : decide (x12_3 < (x6_1.length : Int)) = false := decide_eq_false c17; clear c17; have H' := Aside0.mk H; clear H; obtain ⟨Ao53, co53, eo53⟩ := Kd.R_slice HO_6.out
           subst eo53; go_wp2
           go_roundg k3
           case measure => have := HK1.out; have := HK2.out; have := HK3.out; omega
           case rel => exact ⟨(x10_3), (wrap64 (x11_2 + 1)), (by first | rfl | (simp; done) | (simp [*]; done) | (simp; exact xEmpty_ne _) | (simp [*]; exact xEmpty_ne _)), H', ⟨by have := HK1.out; have := HK2.out; have := HK3.out; omega⟩, ⟨rl HO_6⟩, ⟨rl HO_10⟩, ⟨bl HB⟩⟩
       ·rw [if_neg c16] at H; have c16b0 : decide (x11_2 < (l1.length : Int)) = false := decide_eq_false c16; clear c16; simp only [Option.some.injEq, Prod.mk.injEq] at H
        obtain ⟨rfl, rfl⟩ := H
        go_wp2
        go_ret2
        exact ⟨_, by first | rfl | (simp [errW_none, errW_some] <;> rfl) | (simp [*, errW_none, errW_some] <;> rfl), rl HO_10, bl HB⟩
 ·replace c4 := Bool.eq_false_iff.mpr c4
  subst c4; have H1 : (some (([] : List (S38)), 230)) = some (r1, r2) := by rw [if_neg (show ¬ (false = true) by decide)] at H; exact H
  clear H; have H := H1
  clear H1; simp only [Option.some.injEq, Prod.mk.injEq] at H
  obtain ⟨rfl, rfl⟩ := H
  go_enter Tryd.func9, Tryd.ntmps9
  go_wp2_with (first | ((with_reducible refine gate_callee (f := 19) rfl ?_); refine goesL_ (some 16) rfl rfl Tryd.func19 (by kernel_rfl) rfl #[.string a0, .slice A1 l1.length c1] rfl (by (try simp only [List.map_toArray, List.map_cons, List.map_nil]); first | done | rfl | (simp only [List.length_drop, List.length_take]; rfl)) ?_; (with_reducible refine (glossatorref23_Right.calls k a0 _ _ l1 false _ ?side1 ?side2 A3.out).mono ?_); (case side1 => repeat (first | exact HR1.out | (with_reducible refine Kd.C_alloc ?_ _) | (with_reducible refine Kd.C_drewN ?_ _) | (with_reducible refine Kd.C_drew ?_))); (case side2 => exact HC1.out); rintro e w54 ⟨rfl, hb⟩; refine ⟨_, rfl, ?_⟩; have n0_ := Aside0.mk (below_step (bl HB) hb); clear HB; have HB := n0_; clear n0_; (try clear hb); (try clear hb2); (try clear hk); (try clear hi)))
  go_ret2
  exact ⟨_, by first | rfl | (simp [errW_none, errW_some] <;> rfl) | (simp [*, errW_none, errW_some] <;> rfl), by first | exact Kd.R_nil _ _ _ _ _ | exact Kd.N_nil _ _ _ _ _ | exact Kd.V_nil _ _ _ _ _ | exact Kd.Q_nil _ _ _ _ _ | exact Kd.S_nil _ _ _ _ _, bl HB⟩

end Go.Proofs.YtbjhmknahldhaaaDoor.Q
