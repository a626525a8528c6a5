/- Words and walks of this claim, put together by this repo's wip/xlink.py out of Q12, Q13. -/
import Derived.Test.YtbjhmknahldhaaaDoorL1
import Derived.Test.YtbjhmknahldhaaaDoorL5
import Derived.Test.YtbjhmknahldhaaaDoorL2
import Derived.Test.YtbjhmknahldhaaaDoorL3
import Derived.Test.YtbjhmknahldhaaaDoorL4
section
namespace Go.Proofs.YtbjhmknahldhaaaDoor.Q
open Go.RowKit Go.Proofs.YtbjhmknahldhaaaDoorW.PrintWords Go.Proofs.YtbjhmknahldhaaaDoorW.PrintLast Go.Proofs.YtbjhmknahldhaaaDoorW.PrintMore
attribute [local go_sem] max2_int min2_int max_two min_two max_three min_three max_four min_four   
set_option linter.unusedVariables false
set_option linter.unusedSimpArgs false
mutual
def glossatorref23_Decode.l0 : Nat → ByteArray → List Int → List (S38) → Int → Int → Int → Option ((List (S38)) × Int)
 | 0, _, _, _, _, _, _ => none
 | k + 1, x0, x1, x6, x7, x8, x9 => if x9 < (x1.length : Int) then (glossatorref23_Decode.l1 k x0 x1 x6 x7 x8 x9 0) else ((glossatorref23_Right.f k x0 x6).bind fun t191 => (if t191 = true then (some (x6, 0)) else (some (([] : List (S38)), 230))))
def glossatorref23_Decode.l1 : Nat → ByteArray → List Int → List (S38) → Int → Int → Int → Int → Option ((List (S38)) × Int)
 | 0, _, _, _, _, _, _, _ => none
 | k + 1, x0, x1, x6, x7, x8, x9, x10 => if x10 < 5 then (if 0 ≤ (wrap64 (x9 + x10)) then (if (wrap64 (x9 + x10)) < (x1.length : Int) then (if (rd x1 (wrap64 (x9 + x10))) < 0 then (some (([] : List (S38)), 230)) else (if x10 < 3 then (if (rd x1 (wrap64 (x9 + x10))) > (wrap64 ((x0.size : Int) + 1)) then (some (([] : List (S38)), 230)) else (glossatorref23_Decode.l1 k x0 x1 x6 x7 x8 x9 (wrap64 (x10 + 1)))) else (glossatorref23_Decode.l1 k x0 x1 x6 x7 x8 x9 (wrap64 (x10 + 1))))) else (none)) else (none)) else (if 0 ≤ x9 then (if x9 < (x1.length : Int) then (if (rd x1 x9) > 0 then (glossatorref23_Decode.j2 k x0 x1 x6 (wrap64 (x7 + (rd x1 x9))) 0 x9) else (glossatorref23_Decode.j2 k x0 x1 x6 x7 x8 x9)) else (none)) else (none))
def glossatorref23_Decode.j2 : Nat → ByteArray → List Int → List (S38) → Int → Int → Int → Option ((List (S38)) × Int)
 | 0, _, _, _, _, _, _ => none
 | k + 1, x0, x1, x6, x7, x8, x9 => if 0 ≤ (wrap64 (x9 + 1)) then (if (wrap64 (x9 + 1)) < (x1.length : Int) then ((glossatorref02_Line.f k x0 x7).bind fun bt197 => (if bt197.2.2 = true then (if 0 ≤ (wrap64 (x9 + 2)) then (if (wrap64 (x9 + 2)) < (x1.length : Int) then (glossatorref23_Decode.j3 k x0 x1 x6 x7 (wrap64 (x8 + (rd x1 (wrap64 (x9 + 1))))) x9 ((rd x1 (wrap64 (x9 + 2))) == 0) bt197.1 bt197.2.1) else (none)) else (none)) else (glossatorref23_Decode.j3 k x0 x1 x6 x7 (wrap64 (x8 + (rd x1 (wrap64 (x9 + 1))))) x9 true bt197.1 bt197.2.1))) else (none)) else (none)
def glossatorref23_Decode.j3 : Nat → ByteArray → List Int → List (S38) → Int → Int → Int → Bool → Int → Int → Option ((List (S38)) × Int)
 | 0, _, _, _, _, _, _, _, _, _ => none
 | k + 1, x0, x1, x6, x7, x8, x9, x86, x201000, x201001 => if x86 = true then (some (([] : List (S38)), 230)) else (if 0 ≤ x201000 then (if x201000 ≤ x201001 then (if x201001 ≤ (x0.size : Int) then ((glossatorref01_Cut.f k (x0.extract (x201000 : Int).toNat (x201001 : Int).toNat) x8).bind fun t202 => (if 0 ≤ (wrap64 (x9 + 2)) then (if (wrap64 (x9 + 2)) < (x1.length : Int) then ((glossatorref01_Cut.f k (x0.extract (x201000 : Int).toNat (x201001 : Int).toNat) (wrap64 (x8 + (rd x1 (wrap64 (x9 + 2)))))).bind fun t204 => (if 0 ≤ t202 then (if t202 ≤ ((x0.extract (x201000 : Int).toNat (x201001 : Int).toNat).size : Int) then ((glossatorref01_Units.f k ((x0.extract (x201000 : Int).toNat (x201001 : Int).toNat).extract 0 (t202 : Int).toNat)).bind fun t205 => (if t205 = x8 then (if 0 ≤ t204 then (if t204 ≤ ((x0.extract (x201000 : Int).toNat (x201001 : Int).toNat).size : Int) then ((glossatorref01_Units.f k ((x0.extract (x201000 : Int).toNat (x201001 : Int).toNat).extract 0 (t204 : Int).toNat)).bind fun t206 => (if t206 = (wrap64 (x8 + (rd x1 (wrap64 (x9 + 2))))) then (if 0 ≤ (wrap64 (x9 + 3)) then (if (wrap64 (x9 + 3)) < (x1.length : Int) then (if 0 ≤ (wrap64 (x9 + 4)) then (if (wrap64 (x9 + 4)) < (x1.length : Int) then (if x6.length < 4398046511104 then (glossatorref23_Decode.l0 k x0 x1 (x6 ++ [(⟨(⟨wrap64 (x201000 + t202), wrap64 (x201000 + t204)⟩ : S36), rd x1 (wrap64 (x9 + 3)), rd x1 (wrap64 (x9 + 4))⟩ : S38)]) x7 x8 (wrap64 (x9 + 5))) else (none)) else (none)) else (none)) else (none)) else (none)) else (some (([] : List (S38)), 230)))) else (none)) else (none)) else (some (([] : List (S38)), 230)))) else (none)) else (none))) else (none)) else (none))) else (none)) else (none)) else (none))
end
def glossatorref23_Decode.f (k : Nat) (a0 : ByteArray) (l1 : List Int) : Option ((List (S38)) × Int) := if ((l1.length : Int) % 5) = 0 then (glossatorref23_Decode.l0 k a0 l1 ([] : List (S38)) 0 0 0) else (some (([] : List (S38)), 230))
theorem glossatorref23_Decode.mono_l : ∀ k, (∀ y0 y1 y2 y3 y4 y5, LeO (glossatorref23_Decode.l0 k y0 y1 y2 y3 y4 y5) (glossatorref23_Decode.l0 (k + 1) y0 y1 y2 y3 y4 y5)) ∧ (∀ y0 y1 y2 y3 y4 y5 y6, LeO (glossatorref23_Decode.l1 k y0 y1 y2 y3 y4 y5 y6) (glossatorref23_Decode.l1 (k + 1) y0 y1 y2 y3 y4 y5 y6)) ∧ (∀ y0 y1 y2 y3 y4 y5, LeO (glossatorref23_Decode.j2 k y0 y1 y2 y3 y4 y5) (glossatorref23_Decode.j2 (k + 1) y0 y1 y2 y3 y4 y5)) ∧ (∀ y0 y1 y2 y3 y4 y5 y6 y7 y8, LeO (glossatorref23_Decode.j3 k y0 y1 y2 y3 y4 y5 y6 y7 y8) (glossatorref23_Decode.j3 (k + 1) y0 y1 y2 y3 y4 y5 y6 y7 y8))
 | 0 => ⟨fun _ _ _ _ _ _ r h => by simp [glossatorref23_Decode.l0] at h, fun _ _ _ _ _ _ _ r h => by simp [glossatorref23_Decode.l1] at h, fun _ _ _ _ _ _ r h => by simp [glossatorref23_Decode.j2] at h, fun _ _ _ _ _ _ _ _ _ r h => by simp [glossatorref23_Decode.j3] at h⟩
 | k + 1 => by
  obtain ⟨ih0, ih1, ih2, ih3⟩ := glossatorref23_Decode.mono_l k
  refine ⟨?_, ?_, ?_, ?_⟩
  ·intro y0 y1 y2 y3 y4 y5
   unfold glossatorref23_Decode.l0
   repeat' first
   | (with_reducible exact ih0 _ _ _ _ _ _)
   | (with_reducible exact ih1 _ _ _ _ _ _ _)
   | (with_reducible exact ih2 _ _ _ _ _ _)
   | (with_reducible exact ih3 _ _ _ _ _ _ _ _ _)
   | (with_reducible exact glossatorref01_Cut.mono _ _ _)
   | (with_reducible exact glossatorref01_Units.mono _ _)
   | (with_reducible exact glossatorref02_Line.mono _ _ _)
   | (with_reducible exact glossatorref23_Right.mono _ _ _)
   | (with_reducible exact LeO.refl _)
   | (with_reducible exact LeO.none _)
   | (with_reducible refine LeO.ite ?_ ?_)
   | (with_reducible refine LeO.bind ?_ (fun _ => ?_))
   | exact ih0 _ _ _ _ _ _
   | exact ih1 _ _ _ _ _ _ _
   | exact ih2 _ _ _ _ _ _
   | exact ih3 _ _ _ _ _ _ _ _ _
   | exact glossatorref01_Cut.mono _ _ _
   | exact glossatorref01_Units.mono _ _
   | exact glossatorref02_Line.mono _ _ _
   | exact glossatorref23_Right.mono _ _ _
   | exact LeO.none _
   | refine LeO.ite ?_ ?_
   | refine LeO.bind ?_ (fun _ => ?_)
  ·intro y0 y1 y2 y3 y4 y5 y6
   unfold glossatorref23_Decode.l1
   repeat' first
   | (with_reducible exact ih0 _ _ _ _ _ _)
   | (with_reducible exact ih1 _ _ _ _ _ _ _)
   | (with_reducible exact ih2 _ _ _ _ _ _)
   | (with_reducible exact ih3 _ _ _ _ _ _ _ _ _)
   | (with_reducible exact glossatorref01_Cut.mono _ _ _)
   | (with_reducible exact glossatorref01_Units.mono _ _)
   | (with_reducible exact glossatorref02_Line.mono _ _ _)
   | (with_reducible exact glossatorref23_Right.mono _ _ _)
   | (with_reducible exact LeO.refl _)
   | (with_reducible exact LeO.none _)
   | (with_reducible refine LeO.ite ?_ ?_)
   | (with_reducible refine LeO.bind ?_ (fun _ => ?_))
   | exact ih0 _ _ _ _ _ _
   | exact ih1 _ _ _ _ _ _ _
   | exact ih2 _ _ _ _ _ _
   | exact ih3 _ _ _ _ _ _ _ _ _
   | exact glossatorref01_Cut.mono _ _ _
   | exact glossatorref01_Units.mono _ _
   | exact glossatorref02_Line.mono _ _ _
   | exact glossatorref23_Right.mono _ _ _
   | exact LeO.none _
   | refine LeO.ite ?_ ?_
   | refine LeO.bind ?_ (fun _ => ?_)
  ·intro y0 y1 y2 y3 y4 y5
   unfold glossatorref23_Decode.j2
   repeat' first
   | (with_reducible exact ih0 _ _ _ _ _ _)
   | (with_reducible exact ih1 _ _ _ _ _ _ _)
   | (with_reducible exact ih2 _ _ _ _ _ _)
   | (with_reducible exact ih3 _ _ _ _ _ _ _ _ _)
   | (with_reducible exact glossatorref01_Cut.mono _ _ _)
   | (with_reducible exact glossatorref01_Units.mono _ _)
   | (with_reducible exact glossatorref02_Line.mono _ _ _)
   | (with_reducible exact glossatorref23_Right.mono _ _ _)
   | (with_reducible exact LeO.refl _)
   | (with_reducible exact LeO.none _)
   | (with_reducible refine LeO.ite ?_ ?_)
   | (with_reducible refine LeO.bind ?_ (fun _ => ?_))
   | exact ih0 _ _ _ _ _ _
   | exact ih1 _ _ _ _ _ _ _
   | exact ih2 _ _ _ _ _ _
   | exact ih3 _ _ _ _ _ _ _ _ _
   | exact glossatorref01_Cut.mono _ _ _
   | exact glossatorref01_Units.mono _ _
   | exact glossatorref02_Line.mono _ _ _
   | exact glossatorref23_Right.mono _ _ _
   | exact LeO.none _
   | refine LeO.ite ?_ ?_
   | refine LeO.bind ?_ (fun _ => ?_)
  ·intro y0 y1 y2 y3 y4 y5 y6 y7 y8
   unfold glossatorref23_Decode.j3
   repeat' first
   | (with_reducible exact ih0 _ _ _ _ _ _)
   | (with_reducible exact ih1 _ _ _ _ _ _ _)
   | (with_reducible exact ih2 _ _ _ _ _ _)
   | (with_reducible exact ih3 _ _ _ _ _ _ _ _ _)
   | (with_reducible exact glossatorref01_Cut.mono _ _ _)
   | (with_reducible exact glossatorref01_Units.mono _ _)
   | (with_reducible exact glossatorref02_Line.mono _ _ _)
   | (with_reducible exact glossatorref23_Right.mono _ _ _)
   | (with_reducible exact LeO.refl _)
   | (with_reducible exact LeO.none _)
   | (with_reducible refine LeO.ite ?_ ?_)
   | (with_reducible refine LeO.bind ?_ (fun _ => ?_))
   | exact ih0 _ _ _ _ _ _
   | exact ih1 _ _ _ _ _ _ _
   | exact ih2 _ _ _ _ _ _
   | exact ih3 _ _ _ _ _ _ _ _ _
   | exact glossatorref01_Cut.mono _ _ _
   | exact glossatorref01_Units.mono _ _
   | exact glossatorref02_Line.mono _ _ _
   | exact glossatorref23_Right.mono _ _ _
   | exact LeO.none _
   | refine LeO.ite ?_ ?_
   | refine LeO.bind ?_ (fun _ => ?_)
theorem glossatorref23_Decode.mono : ∀ a0 a1 k, LeO (glossatorref23_Decode.f k a0 a1) (glossatorref23_Decode.f (k + 1) a0 a1) := by
 intro a0 a1 k
 obtain ⟨ih0, ih1, ih2, ih3⟩ := glossatorref23_Decode.mono_l k
 unfold glossatorref23_Decode.f
 repeat' first
   | (with_reducible exact ih0 _ _ _ _ _ _)
   | (with_reducible exact ih1 _ _ _ _ _ _ _)
   | (with_reducible exact ih2 _ _ _ _ _ _)
   | (with_reducible exact ih3 _ _ _ _ _ _ _ _ _)
   | (with_reducible exact glossatorref01_Cut.mono _ _ _)
   | (with_reducible exact glossatorref01_Units.mono _ _)
   | (with_reducible exact glossatorref02_Line.mono _ _ _)
   | (with_reducible exact glossatorref23_Right.mono _ _ _)
   | (with_reducible exact LeO.refl _)
   | (with_reducible exact LeO.none _)
   | (with_reducible refine LeO.ite ?_ ?_)
   | (with_reducible refine LeO.bind ?_ (fun _ => ?_))
   | exact ih0 _ _ _ _ _ _
   | exact ih1 _ _ _ _ _ _ _
   | exact ih2 _ _ _ _ _ _
   | exact ih3 _ _ _ _ _ _ _ _ _
   | exact glossatorref01_Cut.mono _ _ _
   | exact glossatorref01_Units.mono _ _
   | exact glossatorref02_Line.mono _ _ _
   | exact glossatorref23_Right.mono _ _ _
   | exact LeO.none _
   | refine LeO.ite ?_ ?_
   | refine LeO.bind ?_ (fun _ => ?_)
def glossatorref23_Decode.T20 : Bool × List (List Nat × List Nat) := (true, [([], []), ([], []), ([0, 1], [0, 1]), ([], []), ([], []), ([], []), ([], []), ([6], [6]), ([5, 7], [5, 7]), ([8], [8]), ([4, 9], [4, 9]), ([3, 10, 2], [3, 10]), ([2, 11, 0, 1, 2], [2]), ([11, 12, 0, 1, 2, 3, 4, 5, 6, 7, 8, 9, 10, 11, 12], [11])])
def glossatorref23_Decode.B20 : List Nat := [0, 0, 3, 0, 0, 0, 0, 64, 224, 480, 1008, 2047, 4095, 8191]
theorem glossatorref23_Decode.tab20 : rtab .any (opsOf Tryd.f15 20) = glossatorref23_Decode.T20 := by kernel_rfl
theorem glossatorref23_Decode.bits20 : waitsOk glossatorref23_Decode.T20.2 glossatorref23_Decode.B20 = true := by kernel_rfl
def glossatorref23_Decode.T21 : Bool × List (List Nat × List Nat) := (true, [([], []), ([], []), ([0, 1], [0, 1]), ([2], [2]), ([], []), ([3, 4], [3, 4]), ([5, 3], [5]), ([6], [6]), ([6], [6]), ([7, 8, 6], [6, 7, 8]), ([9, 6, 6], [6, 9]), ([6], [6]), ([6], [6]), ([6], [6]), ([13, 6], [6, 13]), ([12, 14, 6], [6, 12, 14]), ([15, 6], [6, 15]), ([11, 16, 6], [6, 11, 16]), ([10, 17, 6], [6, 10, 17]), ([6, 18], [6, 18])])
def glossatorref23_Decode.B21 : List Nat := [0, 0, 3, 7, 0, 31, 63, 127, 127, 511, 1023, 127, 127, 127, 8319, 28799, 61567, 129151, 262143, 524287]
theorem glossatorref23_Decode.tab21 : rtab .any (opsOf Tryd.f15 21) = glossatorref23_Decode.T21 := by kernel_rfl
theorem glossatorref23_Decode.bits21 : waitsOk glossatorref23_Decode.T21.2 glossatorref23_Decode.B21 = true := by kernel_rfl
def glossatorref23_Decode.T23 : Bool × List (List Nat × List Nat) := (true, [([], []), ([], []), ([1], [1]), ([], []), ([2, 3], [2, 3]), ([], []), ([5], [5]), ([], []), ([6, 7], [6, 7]), ([4, 8], [4, 8]), ([], []), ([], []), ([11], [11]), ([10, 12], [10, 12]), ([13], [13]), ([], []), ([], []), ([16], [16]), ([15, 17], [15, 17]), ([18], [18]), ([9, 14, 19], [9, 14, 19]), ([20], [20]), ([0, 21], [0, 21]), ([22, 22, 0, 1, 2, 3, 4, 5, 6, 7, 8, 9, 10, 11, 12, 13, 14, 15, 16, 17, 18, 19, 20, 21, 22], [0, 22])])
def glossatorref23_Decode.B23 : List Nat := [0, 0, 2, 0, 14, 0, 32, 0, 224, 510, 0, 0, 2048, 7168, 15360, 0, 0, 65536, 229376, 491520, 1048574, 2097150, 4194303, 8388607]
theorem glossatorref23_Decode.tab23 : rtab .any (opsOf Tryd.f15 23) = glossatorref23_Decode.T23 := by kernel_rfl
theorem glossatorref23_Decode.bits23 : waitsOk glossatorref23_Decode.T23.2 glossatorref23_Decode.B23 = true := by kernel_rfl
set_option maxHeartbeats 8000000 in
set_option maxRecDepth 100000 in
theorem glossatorref23_Decode.calls (k : Nat) (a0 : ByteArray) (A1 : Option Addr) (c1 : Nat) (l1 : List Int) (r1 : List (S38)) (r2 : Int) (w : World) (hr1 : Kd.C (Kd.int .i64) w A1 l1.length l1) (hc1 : l1.length ≤ c1) (h : glossatorref23_Decode.f k a0 l1 = some (r1, r2)) :
  Calls Tryd.prog 15 #[.string a0, .slice A1 l1.length c1] w fun e w' => ∃ v0_ : Value, e = .returned (.tuple #[v0_, .int .i64 r2]) ∧ Kd.R k38 38 w' w.heap.size (fun _ => True) v0_ r1 ∧ Below w.heap.size w w' := by
 have hu36 := Tryd.underlying36
 have hu38 := Tryd.underlying38
 have HR1 := Aside0.mk hr1; have HC1 := Aside0.mk hc1; clear hr1 hc1; have HB := Aside0.mk (Below.refl w.heap.size w)
 have H : (if ((l1.length : Int) % 5) = 0 then (glossatorref23_Decode.l0 k a0 l1 ([] : List (S38)) 0 0 0) else (some (([] : List (S38)), 230))) = some (r1, r2) := h
 clear h; by_cases c3 : ((l1.length : Int) % 5) = 0
 rotate_left
 ·rw [if_neg c3] at H; have c3b0 : (((l1.length : Int) % 5) == 0) = false := beq_eq_false_iff_ne.mpr c3; have c3b1 : (((l1.length : Int) % 5) != 0) = true := bne_iff_ne.mpr c3; simp only [Option.some.injEq, Prod.mk.injEq] at H
  obtain ⟨rfl, rfl⟩ := H
  go_enter Tryd.func15, Tryd.ntmps15
  go_wp2
  go_ret2
  exact ⟨_, by first | rfl | (simp [errW_none, errW_some] <;> rfl) | (simp [*, errW_none, errW_some] <;> rfl), by first | exact Kd.R_nil _ _ _ _ _ | exact Kd.N_nil _ _ _ _ _ | exact Kd.V_nil _ _ _ _ _ | exact Kd.Q_nil _ _ _ _ _ | exact Kd.S_nil _ _ _ _ _, bl HB⟩
 rw [if_pos c3] at H; have c3b0 : (((l1.length : Int) % 5) == 0) = true := beq_iff_eq.mpr c3
 have c3b1 : (((l1.length : Int) % 5) != 0) = false := bne_eq_false_iff_eq.mpr c3
 clear c3; have H' := Aside0.mk H; clear H; go_enter Tryd.func15, Tryd.ntmps15
 go_wp2
 go_loopg [6, 7, 8, 9] k (fun kq v6 v7 v8 v9 w' => ∃ (x6_1 : List (S38)) (x7_1 : Int) (x8_1 : Int) (x9_1 : Int), v7 = .int .i64 x7_1 ∧ v8 = .int .i64 x8_1 ∧ v9 = .int .i64 x9_1 ∧ Aside0 (glossatorref23_Decode.l0 kq a0 l1 x6_1 x7_1 x8_1 x9_1 = some (r1, r2)) ∧ Aside0 (kq ≤ k) ∧ Aside0 (Kd.R k38 38 w' w.heap.size (fun _ => True) v6 x6_1) ∧ Aside0 (Below w.heap.size w w'))
 case atStart => exact ⟨(([] : List (S38))), (0), (0), (0), (by first | rfl | (simp; done) | (simp [*]; done) | (simp; exact xEmpty_ne _) | (simp [*]; exact xEmpty_ne _)), (by first | rfl | (simp; done) | (simp [*]; done) | (simp; exact xEmpty_ne _) | (simp [*]; exact xEmpty_ne _)), (by first | rfl | (simp; done) | (simp [*]; done) | (simp; exact xEmpty_ne _) | (simp [*]; exact xEmpty_ne _)), H', ⟨Nat.le_refl _⟩, ⟨by first | exact Kd.R_nil _ _ _ _ _ | exact Kd.N_nil _ _ _ _ _ | exact Kd.V_nil _ _ _ _ _ | exact Kd.Q_nil _ _ _ _ _ | exact Kd.S_nil _ _ _ _ _⟩, ⟨bl HB⟩⟩
 case round =>
  clear H'; (try clear c1); (try clear p2); (try clear c3); (try clear c3b0); (try clear c3b1); (try clear HO_6); (try clear HB)
  obtain ⟨x6_1, x7_1, x8_1, x9_1, rfl, rfl, rfl, HA, HK1, HO_6, HB⟩ := hrel
  cases gk with
  | zero => exact absurd HA.out (by simp [glossatorref23_Decode.l0])
  | succ k1 =>
   have H := HA.out
   clear HA; simp only [glossatorref23_Decode.l0] at H
   by_cases c4 : x9_1 < (l1.length : Int)
   rotate_left
   ·rw [if_neg c4] at H; have c4b0 : decide (x9_1 < (l1.length : Int)) = false := decide_eq_false c4; clear c4; replace H := Option.bind_eq_some_iff.mp H
    obtain ⟨t191, A740, H⟩ := H
    replace H : (if t191 = true then (some (x6_1, 0)) else (some (([] : List (S38)), 230))) = some (r1, r2) := H
    have A74 := Aside0.mk A740; clear A740; by_cases c75 : t191 = true
    ·subst c75; have H1 : (some (x6_1, 0)) = some (r1, r2) := by rw [if_pos rfl] at H; exact H
     clear H; have H := H1
     clear H1; simp only [Option.some.injEq, Prod.mk.injEq] at H
     obtain ⟨rfl, rfl⟩ := H
     obtain ⟨Ao76, co76, eo76⟩ := Kd.R_slice HO_6.out
     subst eo76; go_wp2_with (first | ((with_reducible refine gate_callee (f := 19) rfl ?_); refine goesL_ (some 150) rfl rfl Tryd.func19 (by kernel_rfl) rfl #[.string a0, .slice Ao76 x6_1.length co76] rfl (by (try simp only [List.map_toArray, List.map_cons, List.map_nil]); first | done | rfl | (simp only [List.length_drop, List.length_take]; rfl)) ?_; (with_reducible refine (glossatorref23_Right.calls k1 a0 _ _ x6_1 true _ ?side1 ?side2 A74.out).mono ?_); (case side1 => repeat (first | exact (Kd.R_reads' HO_6.out).2.2 | (with_reducible refine Kd.C_alloc ?_ _) | (with_reducible refine Kd.C_drewN ?_ _) | (with_reducible refine Kd.C_drew ?_))); (case side2 => exact (Kd.R_reads' HO_6.out).2.1); rintro e w77 ⟨rfl, hb⟩; refine ⟨_, rfl, ?_⟩; have n0_ := Aside0.mk (Kd.R_below (rl HO_6) hb); have n1_ := Aside0.mk (below_step (bl HB) hb); clear HO_6; clear HB; have HO_6 := n0_; have HB := n1_; clear n0_ n1_; (try clear hb); (try clear hb2); (try clear hk); (try clear hi)))
     go_ret2
     exact ⟨_, by first | rfl | (simp [errW_none, errW_some] <;> rfl) | (simp [*, errW_none, errW_some] <;> rfl), rl HO_6, bl HB⟩
    ·replace c75 := Bool.eq_false_iff.mpr c75
     subst c75; have H1 : (some (([] : List (S38)), 230)) = some (r1, r2) := by rw [if_neg (show ¬ (false = true) by decide)] at H; exact H
     clear H; have H := H1
     clear H1; simp only [Option.some.injEq, Prod.mk.injEq] at H
     obtain ⟨rfl, rfl⟩ := H
     obtain ⟨Ao78, co78, eo78⟩ := Kd.R_slice HO_6.out
     subst eo78; go_wp2_with (first | ((with_reducible refine gate_callee (f := 19) rfl ?_); refine goesL_ (some 150) rfl rfl Tryd.func19 (by kernel_rfl) rfl #[.string a0, .slice Ao78 x6_1.length co78] rfl (by (try simp only [List.map_toArray, List.map_cons, List.map_nil]); first | done | rfl | (simp only [List.length_drop, List.length_take]; rfl)) ?_; (with_reducible refine (glossatorref23_Right.calls k1 a0 _ _ x6_1 false _ ?side1 ?side2 A74.out).mono ?_); (case side1 => repeat (first | exact (Kd.R_reads' HO_6.out).2.2 | (with_reducible refine Kd.C_alloc ?_ _) | (with_reducible refine Kd.C_drewN ?_ _) | (with_reducible refine Kd.C_drew ?_))); (case side2 => exact (Kd.R_reads' HO_6.out).2.1); rintro e w79 ⟨rfl, hb⟩; refine ⟨_, rfl, ?_⟩; have n0_ := Aside0.mk (Kd.R_below (rl HO_6) hb); have n1_ := Aside0.mk (below_step (bl HB) hb); clear HO_6; clear HB; have HO_6 := n0_; have HB := n1_; clear n0_ n1_; (try clear hb); (try clear hb2); (try clear hk); (try clear hi)))
     go_ret2
     exact ⟨_, by first | rfl | (simp [errW_none, errW_some] <;> rfl) | (simp [*, errW_none, errW_some] <;> rfl), by first | exact Kd.R_nil _ _ _ _ _ | exact Kd.N_nil _ _ _ _ _ | exact Kd.V_nil _ _ _ _ _ | exact Kd.Q_nil _ _ _ _ _ | exact Kd.S_nil _ _ _ _ _, bl HB⟩
   rw [if_pos c4] at H; have c4b0 : decide (x9_1 < (l1.length : Int)) = true := decide_eq_true c4; clear c4; have H' := Aside0.mk H; clear H; go_wp2
   go_loopg [10] k1 (fun kq v10 w' => ∃ (x10_2 : Int), v10 = .int .i64 x10_2 ∧ Aside0 (glossatorref23_Decode.l1 kq a0 l1 x6_1 x7_1 x8_1 x9_1 x10_2 = some (r1, r2)) ∧ Aside0 (kq ≤ k1) ∧ Aside0 (Kd.R k38 38 w' w.heap.size (fun _ => True) u6 x6_1) ∧ Aside0 (Below w.heap.size w w'))
   case atStart => exact ⟨(0), (by first | rfl | (simp; done) | (simp [*]; done) | (simp; exact xEmpty_ne _) | (simp [*]; exact xEmpty_ne _)), H', ⟨Nat.le_refl _⟩, ⟨rl HO_6⟩, ⟨bl HB⟩⟩
   case round =>
    clear H'; (try clear c1); (try clear p2); (try clear c3); (try clear c3b0); (try clear c3b1); (try clear c4); (try clear c4b0); (try clear p2); (try clear HO_6); (try clear HB)
    obtain ⟨x10_2, rfl, HA, HK2, HO_6, HB⟩ := hrel
    cases gk with
    | zero => exact absurd HA.out (by simp [glossatorref23_Decode.l1])
    | succ k2 =>
     have H := HA.out
     clear HA; simp only [glossatorref23_Decode.l1] at H
     by_cases c5 : x10_2 < 5
     rotate_left
     ·rw [if_neg c5] at H; have c5b0 : decide (x10_2 < 5) = false := decide_eq_false c5; clear c5; by_cases c12 : 0 ≤ x9_1
      ·rw [if_pos c12] at H; have c12b0 : decide (0 ≤ x9_1) = true := decide_eq_true c12; clear c12; by_cases c13 : x9_1 < (l1.length : Int)
       ·rw [if_pos c13] at H; have c13b0 : decide (x9_1 < (l1.length : Int)) = true := decide_eq_true c13; clear c13; have HC14 := Aside0.mk H; clear H; have p194 : 0 ≤ (x9_1 : Int) := of_decide_eq_true (by first | (with_reducible assumption) | assumption)
        have q194 : x9_1 < (l1.length : Int) := of_decide_eq_true (by first | (with_reducible assumption) | assumption)
        obtain ⟨ad194, e194, hx194_0⟩ := Kd.at_int HR1.out x9_1 p194 q194
        cases e194; replace hx194_0 := (HB.out.cell (World.block_lt_of_cell? w _ hx194_0)).trans hx194_0; replace p194 := eq_true p194; replace q194 := eq_true q194; go_upto_if 57 with (fail)
        go_cut [7, 8] (fun v7 v8 wc => ∃ (kq : Nat) (x7_13 : Int) (x8_13 : Int), v7 = .int .i64 x7_13 ∧ v8 = .int .i64 x8_13 ∧ Aside0 (glossatorref23_Decode.j2 kq a0 l1 x6_1 x7_13 x8_13 x9_1 = some (r1, r2)) ∧ Aside0 (kq ≤ k2) ∧ Aside0 (Kd.R k38 38 wc w.heap.size (fun _ => True) u6 x6_1) ∧ Aside0 (Below w.heap.size w wc))
        case first =>
         have H := HC14.out
         clear HC14; by_cases c15 : (rd l1 x9_1) > 0
         ·rw [if_pos c15] at H; have c15b0 : decide (0 < (rd l1 x9_1)) = true := decide_eq_true c15; clear c15; (first | rw [c15b0] | rw [c15b1] | (simp only [i64_w, i32_w]; rw [c15b0]) | skip)
          have H' := Aside0.mk H; clear H; have p195 : 0 ≤ (x9_1 : Int) := of_decide_eq_true (by first | (with_reducible assumption) | assumption)
          have q195 : x9_1 < (l1.length : Int) := of_decide_eq_true (by first | (with_reducible assumption) | assumption)
          obtain ⟨ad195, e195, hx195_0⟩ := Kd.at_int HR1.out x9_1 p195 q195
          obtain rfl : ad194 = ad195 := (by injection e195)
          replace hx195_0 := (HB.out.cell (World.block_lt_of_cell? w _ hx195_0)).trans hx195_0; replace p195 := eq_true p195; replace q195 := eq_true q195; go_wp2
          go_meet
          case rel => exact ⟨_, (wrap64 (x7_1 + (rd l1 x9_1))), (0), (by first | rfl | (simp; done) | (simp [*]; done) | (simp; exact xEmpty_ne _) | (simp [*]; exact xEmpty_ne _)), (by first | rfl | (simp; done) | (simp [*]; done) | (simp; exact xEmpty_ne _) | (simp [*]; exact xEmpty_ne _)), H', ⟨by have := HK1.out; have := HK2.out; first | omega | exact Nat.le_refl _⟩, ⟨rl HO_6⟩, ⟨bl HB⟩⟩
         ·rw [if_neg c15] at H; have c15b0 : decide (0 < (rd l1 x9_1)) = false := decide_eq_false c15; clear c15; (first | rw [c15b0] | rw [c15b1] | (simp only [i64_w, i32_w]; rw [c15b0]) | skip)
          have H' := Aside0.mk H; clear H; go_wp2
          go_meet
          case rel => exact ⟨_, (x7_1), (x8_1), (by first | rfl | (simp; done) | (simp [*]; done) | (simp; exact xEmpty_ne _) | (simp [*]; exact xEmpty_ne _)), (by first | rfl | (simp; done) | (simp [*]; done) | (simp; exact xEmpty_ne _) | (simp [*]; exact xEmpty_ne _)), H', ⟨by have := HK1.out; have := HK2.out; first | omega | exact Nat.le_refl _⟩, ⟨rl HO_6⟩, ⟨bl HB⟩⟩
        case rest =>
         clear HC14; (try clear c1); (try clear p1); (try clear q1); (try clear hx1); (try clear p2); (try clear c3); (try clear c3b0); (try clear c3b1); (try clear c4); (try clear c4b0); (try clear c5); (try clear c5b0); (try clear p6); (try clear c7); (try clear c7b0); (try clear c8); (try clear c8b0); (try clear c9); (try clear c9b0); (try clear c10); (try clear c10b0); (try clear c11); (try clear c11b0); (try clear c12); (try clear c12b0); (try clear c13); (try clear c13b0); (try clear c15); (try clear c15b0); (try clear hx192_0); (try clear hx193_0); (try clear hx194_0); (try clear hx195_0); (try clear p192); (try clear p193); (try clear p194); (try clear p195); (try clear p2); (try clear q192); (try clear q193); (try clear q194); (try clear q195); obtain ⟨kq, x7_13, x8_13, rfl, rfl, HA, HJ13, HO_6, HB⟩ := hcut
         cases kq with
         | zero => exact absurd HA.out (by simp [glossatorref23_Decode.j2])
         | succ kj13 =>
          have H := HA.out
          clear HA; simp only [glossatorref23_Decode.j2] at H
          obtain ⟨ji16, hji16⟩ : ∃ j_ : Int, (wrap64 (x9_1 + 1)) = j_ := ⟨_, rfl⟩
          replace H : (if 0 ≤ (ji16) then (if (ji16) < (l1.length : Int) then ((glossatorref02_Line.f kj13 a0 x7_13).bind fun bt197 => (if bt197.2.2 = true then (if 0 ≤ (wrap64 (x9_1 + 2)) then (if (wrap64 (x9_1 + 2)) < (l1.length : Int) then (glossatorref23_Decode.j3 kj13 a0 l1 x6_1 x7_13 (wrap64 (x8_13 + (rd l1 (ji16)))) x9_1 ((rd l1 (wrap64 (x9_1 + 2))) == 0) bt197.1 bt197.2.1) else (none)) else (none)) else (glossatorref23_Decode.j3 kj13 a0 l1 x6_1 x7_13 (wrap64 (x8_13 + (rd l1 (ji16)))) x9_1 true bt197.1 bt197.2.1))) else (none)) else (none)) = some (r1, r2) := by first | (rw [hji16] at H; exact H) | (simp only [hji16] at H ⊢; exact H)
          have hji16w : (IntKind.i64.wrap (x9_1 + 1)) = ji16 := (i64_w _).trans hji16
          by_cases c17 : 0 ≤ (ji16)
          rotate_left
          ·rw [if_neg c17] at H; exact absurd H (by simp)
          rw [if_pos c17] at H; have c17b0 : decide (0 ≤ (ji16)) = true := decide_eq_true c17; clear c17; by_cases c18 : (ji16) < (l1.length : Int)
          rotate_left
          ·rw [if_neg c18] at H; exact absurd H (by simp)
          rw [if_pos c18] at H; have c18b0 : decide ((ji16) < (l1.length : Int)) = true := decide_eq_true c18; clear c18; replace H := Option.bind_eq_some_iff.mp H
          obtain ⟨⟨t197, t198, t199⟩, A190, H⟩ := H
          replace H : (if t199 = true then (if 0 ≤ (wrap64 (x9_1 + 2)) then (if (wrap64 (x9_1 + 2)) < (l1.length : Int) then (glossatorref23_Decode.j3 kj13 a0 l1 x6_1 x7_13 (wrap64 (x8_13 + (rd l1 (ji16)))) x9_1 ((rd l1 (wrap64 (x9_1 + 2))) == 0) t197 t198) else (none)) else (none)) else (glossatorref23_Decode.j3 kj13 a0 l1 x6_1 x7_13 (wrap64 (x8_13 + (rd l1 (ji16)))) x9_1 true t197 t198)) = some (r1, r2) := H
          have A19 := Aside0.mk A190; clear A190; have HC20 := Aside0.mk H; clear H; have p196 : 0 ≤ ((ji16) : Int) := of_decide_eq_true (by first | (with_reducible assumption) | assumption)
          have q196 : (ji16) < (l1.length : Int) := of_decide_eq_true (by first | (with_reducible assumption) | assumption)
          obtain ⟨ad196, e196, hx196_0⟩ := Kd.at_int HR1.out (ji16) p196 q196
          obtain rfl : ad194 = ad196 := (by injection e196)
          replace hx196_0 := (HB.out.cell (World.block_lt_of_cell? w _ hx196_0)).trans hx196_0; replace p196 := eq_true p196; replace q196 := eq_true q196; go_upto_region 17 with (first | ((with_reducible refine gate_callee (f := 21) rfl ?_); refine goesL_ (some 74) rfl rfl Tryd.func21 (by kernel_rfl) rfl #[.string a0, .int .i64 x7_13] rfl (by (try simp only [List.map_toArray, List.map_cons, List.map_nil]); first | done | rfl | (simp only [List.length_drop, List.length_take]; rfl)) ?_; (with_reducible refine (glossatorref02_Line.calls kj13 a0 x7_13 t197 t198 t199 _ A19.out).mono ?_); rintro e w21 ⟨rfl, hb⟩; refine ⟨_, rfl, ?_⟩; have n0_ := Aside0.mk (Kd.R_below (rl HO_6) hb); have n1_ := Aside0.mk (below_step (bl HB) hb); clear HO_6; clear HB; have HO_6 := n0_; have HB := n1_; clear n0_ n1_; (try clear hb); (try clear hb2); (try clear hk); (try clear hi)) | ((with_reducible refine gate_dst (N := 11) rfl ?_); (try (refine gate_guard (by rfl) ?_; dsimp only)); refine box_event ?hg (N := 11) ?hd (cs := #[.int .i64 0, .int .i64 0]) (t := 36) ?hr ?_; (case hd => rfl); (case hg => rfl); (case hr => first | (go_simp; done) | (go_simp; rfl)); intro gb200 hg w22 hbox hb; have n0_ := Aside0.mk (Kd.R_below (rl HO_6) hb); have n1_ := Aside0.mk (below_step (bl HB) hb); have n2_ := Aside0.mk (hbox); have n3_ := Aside0.mk ((by rw [hg]; exact (below_size (bl HB)) : w.heap.size ≤ gb200)); have n4_ := Aside0.mk ((by rw [hg]; exact (below_size (bl HB)) : w.heap.size ≤ gb200)); clear HO_6; clear HB; have HO_6 := n0_; have HB := n1_; have BK200 := n2_; have GW200 := n3_; have GE200 := n4_; clear n0_ n1_ n2_ n3_ n4_; clear hb hbox hg; have hcz23_0 : w22.cell? ⟨gb200, 0, none⟩ = some (.int .i64 0) := (blk_cell BK200.out 0).trans rfl; have hcz23_1 : w22.cell? ⟨gb200, 1, none⟩ = some (.int .i64 0) := (blk_cell BK200.out 1).trans rfl; have hfz23_0 := blk_frozen BK200.out 0; have hfz23_1 := blk_frozen BK200.out 1))
          (try simp only [Act.put, List.setIfInBounds_toArray, List.set_cons_zero, List.set_cons_succ])
          go_cut [86] (fun v86 wc => ∃ (kq : Nat) (x86_19 : Bool), v86 = .bool x86_19 ∧ Aside0 (glossatorref23_Decode.j3 kq a0 l1 x6_1 x7_13 (wrap64 (x8_13 + (rd l1 (ji16)))) x9_1 x86_19 t197 t198 = some (r1, r2)) ∧ Aside0 (kq ≤ kj13) ∧ Aside0 (Kd.R k38 38 wc w.heap.size (fun _ => True) u6 x6_1) ∧ Aside0 (wc.heap[gb200]? = some (.cells #[.int .i64 t197, .int .i64 t198] 36 (0, 0))) ∧ Aside0 (Below w.heap.size w wc))
          case first =>
           have H := HC20.out
           clear HC20; by_cases c24 : t199 = true
           rotate_left
           ·replace c24 := Bool.eq_false_iff.mpr c24
            subst c24; have H1 : (glossatorref23_Decode.j3 kj13 a0 l1 x6_1 x7_13 (wrap64 (x8_13 + (rd l1 (ji16)))) x9_1 true t197 t198) = some (r1, r2) := by rw [if_neg (show ¬ (false = true) by decide)] at H; exact H
            clear H; have H := H1
            clear H1; have H' := Aside0.mk H; clear H; go_wp2
            go_meet
            case rel => exact ⟨_, (true), (by first | rfl | (simp; done) | (simp [*]; done) | (simp; exact xEmpty_ne _) | (simp [*]; exact xEmpty_ne _)), H', ⟨by have := HK1.out; have := HK2.out; have := HJ13.out; first | omega | exact Nat.le_refl _⟩, ⟨by (with_reducible repeat (first | apply Kd.R_alloc | apply Kd.R_drewN | apply Kd.R_drew)); exact Kd.R_mono (Kd.R_far (p := ⟨gb200, 1, none⟩) (Kd.R_far (p := ⟨gb200, 0, none⟩) (Kd.R_types HO_6.out BK200.out (by decide)) (fun _ hk => hk.2) (.int .i64 t197)) (fun _ hk => hk.2) (.int .i64 t198)) (fun _ hk => trivial)⟩, ⟨by (with_reducible repeat (first | refine blk_drewN ?_ _ | refine blk_drew ?_ | refine blk_alloc ?_ _)); refine blk_put (cs := #[.int .i64 t197, .int .i64 0]) ?_ 1 _ rfl; (with_reducible repeat (first | refine blk_drewN ?_ _ | refine blk_drew ?_ | refine blk_alloc ?_ _)); refine blk_put (cs := #[.int .i64 0, .int .i64 0]) ?_ 0 _ rfl; (with_reducible repeat (first | refine blk_drewN ?_ _ | refine blk_drew ?_ | refine blk_alloc ?_ _)); exact BK200.out⟩, ⟨by repeat (first | (with_reducible first | exact HB.out | apply below_alloc | apply pw_below_drewN | apply below_drew1 | refine below_set ?_ GE200.out) | exact HB.out)⟩⟩
           subst c24; have H1 : (if 0 ≤ (wrap64 (x9_1 + 2)) then (if (wrap64 (x9_1 + 2)) < (l1.length : Int) then (glossatorref23_Decode.j3 kj13 a0 l1 x6_1 x7_13 (wrap64 (x8_13 + (rd l1 (ji16)))) x9_1 ((rd l1 (wrap64 (x9_1 + 2))) == 0) t197 t198) else (none)) else (none)) = some (r1, r2) := by rw [if_pos rfl] at H; exact H
           clear H; have H := H1
           clear H1; obtain ⟨ji25, hji25⟩ : ∃ j_ : Int, (wrap64 (x9_1 + 2)) = j_ := ⟨_, rfl⟩
           replace H : (if 0 ≤ (ji25) then (if (ji25) < (l1.length : Int) then (glossatorref23_Decode.j3 kj13 a0 l1 x6_1 x7_13 (wrap64 (x8_13 + (rd l1 (ji16)))) x9_1 ((rd l1 (ji25)) == 0) t197 t198) else (none)) else (none)) = some (r1, r2) := by first | (rw [hji25] at H; exact H) | (simp only [hji25] at H ⊢; exact H)
           have hji25w : (IntKind.i64.wrap (x9_1 + 2)) = ji25 := (i64_w _).trans hji25
           by_cases c26 : 0 ≤ (ji25)
           ·rw [if_pos c26] at H; have c26b0 : decide (0 ≤ (ji25)) = true := decide_eq_true c26; clear c26; (first | rw [c26b0] | rw [c26b1] | (simp only [i64_w, i32_w]; rw [c26b0]) | skip)
            by_cases c27 : (ji25) < (l1.length : Int)
            ·rw [if_pos c27] at H; have c27b0 : decide ((ji25) < (l1.length : Int)) = true := decide_eq_true c27; clear c27; have H' := Aside0.mk H; clear H; have p201 : 0 ≤ ((ji25) : Int) := of_decide_eq_true (by first | (with_reducible assumption) | assumption)
             have q201 : (ji25) < (l1.length : Int) := of_decide_eq_true (by first | (with_reducible assumption) | assumption)
             obtain ⟨ad201, e201, hx201_0⟩ := Kd.at_int HR1.out (ji25) p201 q201
             obtain rfl : ad194 = ad201 := (by injection e201)
             have hn201_0 : ad194.block ≠ gb200 := Nat.ne_of_lt (Nat.lt_of_lt_of_le (by have := World.block_lt_of_cell? _ _ hx201_0; first | rwa [add_block] at this | exact this) GW200.out)
             have hn201_1 : ad194.block ≠ gb200 := Nat.ne_of_lt (Nat.lt_of_lt_of_le (by have := World.block_lt_of_cell? _ _ hx201_0; first | rwa [add_block] at this | exact this) GW200.out)
             replace hx201_0 := (HB.out.cell (World.block_lt_of_cell? w _ hx201_0)).trans hx201_0; replace hx201_0 := (cell_far (p := ⟨gb200, 0, none⟩) (by first | (rw [add_block]; exact hn201_0) | (show (Addr.add _ _).block ≠ _; rw [add_block]; exact hn201_0) | exact hn201_0) (.int .i64 t197)).trans hx201_0; replace hx201_0 := (cell_far (p := ⟨gb200, 1, none⟩) (by first | (rw [add_block]; exact hn201_1) | (show (Addr.add _ _).block ≠ _; rw [add_block]; exact hn201_1) | exact hn201_1) (.int .i64 t198)).trans hx201_0; clear hn201_0; clear hn201_1; replace p201 := eq_true p201; replace q201 := eq_true q201; go_wp2
             go_meet
             case rel => exact ⟨_, (((rd l1 (ji25)) == 0)), (by first | rfl | (simp; done) | (simp only [← hji25] <;> (first | rfl | simp)) | (simp [*]; done)), H', ⟨by have := HK1.out; have := HK2.out; have := HJ13.out; first | omega | exact Nat.le_refl _⟩, ⟨by (with_reducible repeat (first | apply Kd.R_alloc | apply Kd.R_drewN | apply Kd.R_drew)); exact Kd.R_mono (Kd.R_far (p := ⟨gb200, 1, none⟩) (Kd.R_far (p := ⟨gb200, 0, none⟩) (Kd.R_types HO_6.out BK200.out (by decide)) (fun _ hk => hk.2) (.int .i64 t197)) (fun _ hk => hk.2) (.int .i64 t198)) (fun _ hk => trivial)⟩, ⟨by (with_reducible repeat (first | refine blk_drewN ?_ _ | refine blk_drew ?_ | refine blk_alloc ?_ _)); refine blk_put (cs := #[.int .i64 t197, .int .i64 0]) ?_ 1 _ rfl; (with_reducible repeat (first | refine blk_drewN ?_ _ | refine blk_drew ?_ | refine blk_alloc ?_ _)); refine blk_put (cs := #[.int .i64 0, .int .i64 0]) ?_ 0 _ rfl; (with_reducible repeat (first | refine blk_drewN ?_ _ | refine blk_drew ?_ | refine blk_alloc ?_ _)); exact BK200.out⟩, ⟨by repeat (first | (with_reducible first | exact HB.out | apply below_alloc | apply pw_below_drewN | apply below_drew1 | refine below_set ?_ GE200.out) | exact HB.out)⟩⟩
            ·rw [if_neg c27] at H; exact absurd H (by simp)
           ·rw [if_neg c26] at H; exact absurd H (by simp)
          case rest =>
           clear HC20; (try clear c1); (try clear p1); (try clear q1); (try clear hx1); (try clear c2); (try clear p2); (try clear q2); (try clear hx2); (try clear c3); (try clear c3b0); (try clear c3b1); (try clear c4); (try clear c4b0); (try clear c5); (try clear c5b0); (try clear p6); (try clear c7); (try clear c7b0); (try clear c8); (try clear c8b0); (try clear c9); (try clear c9b0); (try clear c10); (try clear c10b0); (try clear c11); (try clear c11b0); (try clear c12); (try clear c12b0); (try clear c13); (try clear c13b0); (try clear c15); (try clear c15b0); (try clear c17); (try clear c17b0); (try clear c18); (try clear c18b0); (try clear p19); (try clear q19); (try clear hx19); (try clear p20); (try clear q20); (try clear hx20); (try clear c21); (try clear c24); (try clear c26); (try clear c26b0); (try clear c27); (try clear c27b0); (try clear hcz23_0); (try clear hcz23_1); (try clear hfz23_0); (try clear hfz23_1); (try clear hx192_0); (try clear hx193_0); (try clear hx194_0); (try clear hx195_0); (try clear hx196_0); (try clear hx201_0); (try clear p1); (try clear p192); (try clear p193); (try clear p194); (try clear p195); (try clear p196); (try clear p2); (try clear p201); (try clear p6); (try clear q1); (try clear q192); (try clear q193); (try clear q194); (try clear q195); (try clear q196); (try clear q201); obtain ⟨kq, x86_19, rfl, HA, HJ19, HO_6, BK200, HB⟩ := hcut
           cases kq with
           | zero => exact absurd HA.out (by simp [glossatorref23_Decode.j3])
           | succ kj19 =>
            have H := HA.out
            clear HA; simp only [glossatorref23_Decode.j3] at H
            by_cases c28 : x86_19 = true
            ·subst c28; have H1 : (some (([] : List (S38)), 230)) = some (r1, r2) := by rw [if_pos rfl] at H; exact H
             clear H; have H := H1
             clear H1; simp only [Option.some.injEq, Prod.mk.injEq] at H
             obtain ⟨rfl, rfl⟩ := H
             go_wp2
             go_ret2
             exact ⟨_, by first | rfl | (simp [errW_none, errW_some] <;> rfl) | (simp only [← hji16]; first | rfl | (simp [errW_none, errW_some] <;> rfl)) | (simp [*, errW_none, errW_some] <;> rfl), by first | exact Kd.R_nil _ _ _ _ _ | exact Kd.N_nil _ _ _ _ _ | exact Kd.V_nil _ _ _ _ _ | exact Kd.Q_nil _ _ _ _ _ | exact Kd.S_nil _ _ _ _ _, by repeat (first | (with_reducible first | exact HB.out | apply below_alloc | apply pw_below_drewN | apply below_drew1 | refine below_set ?_ GE200.out) | exact HB.out)⟩
            ·replace c28 := Bool.eq_false_iff.mpr c28
             subst c28; have H1 : (if 0 ≤ t197 then (if t197 ≤ t198 then (if t198 ≤ (a0.size : Int) then ((glossatorref01_Cut.f kj19 (a0.extract (t197 : Int).toNat (t198 : Int).toNat) (wrap64 (x8_13 + (rd l1 (ji16))))).bind fun t202 => (if 0 ≤ (wrap64 (x9_1 + 2)) then (if (wrap64 (x9_1 + 2)) < (l1.length : Int) then ((glossatorref01_Cut.f kj19 (a0.extract (t197 : Int).toNat (t198 : Int).toNat) (wrap64 ((wrap64 (x8_13 + (rd l1 (ji16)))) + (rd l1 (wrap64 (x9_1 + 2)))))).bind fun t204 => (if 0 ≤ t202 then (if t202 ≤ ((a0.extract (t197 : Int).toNat (t198 : Int).toNat).size : Int) then ((glossatorref01_Units.f kj19 ((a0.extract (t197 : Int).toNat (t198 : Int).toNat).extract 0 (t202 : Int).toNat)).bind fun t205 => (if t205 = (wrap64 (x8_13 + (rd l1 (ji16)))) then (if 0 ≤ t204 then (if t204 ≤ ((a0.extract (t197 : Int).toNat (t198 : Int).toNat).size : Int) then ((glossatorref01_Units.f kj19 ((a0.extract (t197 : Int).toNat (t198 : Int).toNat).extract 0 (t204 : Int).toNat)).bind fun t206 => (if t206 = (wrap64 ((wrap64 (x8_13 + (rd l1 (ji16)))) + (rd l1 (wrap64 (x9_1 + 2))))) then (if 0 ≤ (wrap64 (x9_1 + 3)) then (if (wrap64 (x9_1 + 3)) < (l1.length : Int) then (if 0 ≤ (wrap64 (x9_1 + 4)) then (if (wrap64 (x9_1 + 4)) < (l1.length : Int) then (if x6_1.length < 4398046511104 then (glossatorref23_Decode.l0 kj19 a0 l1 (x6_1 ++ [(⟨(⟨wrap64 (t197 + t202), wrap64 (t197 + t204)⟩ : S36), rd l1 (wrap64 (x9_1 + 3)), rd l1 (wrap64 (x9_1 + 4))⟩ : S38)]) x7_13 (wrap64 (x8_13 + (rd l1 (ji16)))) (wrap64 (x9_1 + 5))) else (none)) else (none)) else (none)) else (none)) else (none)) else (some (([] : List (S38)), 230)))) else (none)) else (none)) else (some (([] : List (S38)), 230)))) else (none)) else (none))) else (none)) else (none))) else (none)) else (none)) else (none)) = some (r1, r2) := by rw [if_neg (show ¬ (false = true) by decide)] at H; exact H
             clear H; have H := H1
             clear H1; by_cases c29 : 0 ≤ t197
             rotate_left
             ·rw [if_neg c29] at H; exact absurd H (by simp)
             rw [if_pos c29] at H; have c29b0 := eq_true c29
             have c29b1 : decide (0 ≤ t197) = true := decide_eq_true c29; clear c29; by_cases c30 : t197 ≤ t198
             rotate_left
             ·rw [if_neg c30] at H; exact absurd H (by simp)
             rw [if_pos c30] at H; have c30b0 := eq_true c30
             have c30b1 : decide (t197 ≤ t198) = true := decide_eq_true c30; clear c30; by_cases c31 : t198 ≤ (a0.size : Int)
             rotate_left
             ·rw [if_neg c31] at H; exact absurd H (by simp)
             rw [if_pos c31] at H; have c31b0 := eq_true c31
             have c31b1 : decide (t198 ≤ (a0.size : Int)) = true := decide_eq_true c31; clear c31; replace H := Option.bind_eq_some_iff.mp H
             obtain ⟨t202, A320, H⟩ := H
             replace H : (if 0 ≤ (wrap64 (x9_1 + 2)) then (if (wrap64 (x9_1 + 2)) < (l1.length : Int) then ((glossatorref01_Cut.f kj19 (a0.extract (t197 : Int).toNat (t198 : Int).toNat) (wrap64 ((wrap64 (x8_13 + (rd l1 (ji16)))) + (rd l1 (wrap64 (x9_1 + 2)))))).bind fun t204 => (if 0 ≤ t202 then (if t202 ≤ ((a0.extract (t197 : Int).toNat (t198 : Int).toNat).size : Int) then ((glossatorref01_Units.f kj19 ((a0.extract (t197 : Int).toNat (t198 : Int).toNat).extract 0 (t202 : Int).toNat)).bind fun t205 => (if t205 = (wrap64 (x8_13 + (rd l1 (ji16)))) then (if 0 ≤ t204 then (if t204 ≤ ((a0.extract (t197 : Int).toNat (t198 : Int).toNat).size : Int) then ((glossatorref01_Units.f kj19 ((a0.extract (t197 : Int).toNat (t198 : Int).toNat).extract 0 (t204 : Int).toNat)).bind fun t206 => (if t206 = (wrap64 ((wrap64 (x8_13 + (rd l1 (ji16)))) + (rd l1 (wrap64 (x9_1 + 2))))) then (if 0 ≤ (wrap64 (x9_1 + 3)) then (if (wrap64 (x9_1 + 3)) < (l1.length : Int) then (if 0 ≤ (wrap64 (x9_1 + 4)) then (if (wrap64 (x9_1 + 4)) < (l1.length : Int) then (if x6_1.length < 4398046511104 then (glossatorref23_Decode.l0 kj19 a0 l1 (x6_1 ++ [(⟨(⟨wrap64 (t197 + t202), wrap64 (t197 + t204)⟩ : S36), rd l1 (wrap64 (x9_1 + 3)), rd l1 (wrap64 (x9_1 + 4))⟩ : S38)]) x7_13 (wrap64 (x8_13 + (rd l1 (ji16)))) (wrap64 (x9_1 + 5))) else (none)) else (none)) else (none)) else (none)) else (none)) else (some (([] : List (S38)), 230)))) else (none)) else (none)) else (some (([] : List (S38)), 230)))) else (none)) else (none))) else (none)) else (none)) = some (r1, r2) := H
             have A32 := Aside0.mk A320; clear A320; obtain ⟨ji33, hji33⟩ : ∃ j_ : Int, (wrap64 (x9_1 + 2)) = j_ := ⟨_, rfl⟩
             replace H : (if 0 ≤ (ji33) then (if (ji33) < (l1.length : Int) then ((glossatorref01_Cut.f kj19 (a0.extract (t197 : Int).toNat (t198 : Int).toNat) (wrap64 ((wrap64 (x8_13 + (rd l1 (ji16)))) + (rd l1 (ji33))))).bind fun t204 => (if 0 ≤ t202 then (if t202 ≤ ((a0.extract (t197 : Int).toNat (t198 : Int).toNat).size : Int) then ((glossatorref01_Units.f kj19 ((a0.extract (t197 : Int).toNat (t198 : Int).toNat).extract 0 (t202 : Int).toNat)).bind fun t205 => (if t205 = (wrap64 (x8_13 + (rd l1 (ji16)))) then (if 0 ≤ t204 then (if t204 ≤ ((a0.extract (t197 : Int).toNat (t198 : Int).toNat).size : Int) then ((glossatorref01_Units.f kj19 ((a0.extract (t197 : Int).toNat (t198 : Int).toNat).extract 0 (t204 : Int).toNat)).bind fun t206 => (if t206 = (wrap64 ((wrap64 (x8_13 + (rd l1 (ji16)))) + (rd l1 (ji33)))) then (if 0 ≤ (wrap64 (x9_1 + 3)) then (if (wrap64 (x9_1 + 3)) < (l1.length : Int) then (if 0 ≤ (wrap64 (x9_1 + 4)) then (if (wrap64 (x9_1 + 4)) < (l1.length : Int) then (if x6_1.length < 4398046511104 then (glossatorref23_Decode.l0 kj19 a0 l1 (x6_1 ++ [(⟨(⟨wrap64 (t197 + t202), wrap64 (t197 + t204)⟩ : S36), rd l1 (wrap64 (x9_1 + 3)), rd l1 (wrap64 (x9_1 + 4))⟩ : S38)]) x7_13 (wrap64 (x8_13 + (rd l1 (ji16)))) (wrap64 (x9_1 + 5))) else (none)) else (none)) else (none)) else (none)) else (none)) else (some (([] : List (S38)), 230)))) else (none)) else (none)) else (some (([] : List (S38)), 230)))) else (none)) else (none))) else (none)) else (none)) = some (r1, r2) := by first | (rw [hji33] at H; exact H) | (simp only [hji33] at H ⊢; exact H)
             (try rw [hji33] at A32)
             have hji33w : (IntKind.i64.wrap (x9_1 + 2)) = ji33 := (i64_w _).trans hji33
             by_cases c34 : 0 ≤ (ji33)
             rotate_left
             ·rw [if_neg c34] at H; exact absurd H (by simp)
             rw [if_pos c34] at H; have c34b0 : decide (0 ≤ (ji33)) = true := decide_eq_true c34; clear c34; by_cases c35 : (ji33) < (l1.length : Int)
             rotate_left
             ·rw [if_neg c35] at H; exact absurd H (by simp)
             rw [if_pos c35] at H; have c35b0 : decide ((ji33) < (l1.length : Int)) = true := decide_eq_true c35; clear c35; replace H := Option.bind_eq_some_iff.mp H
             obtain ⟨t204, A360, H⟩ := H
             replace H : (if 0 ≤ t202 then (if t202 ≤ ((a0.extract (t197 : Int).toNat (t198 : Int).toNat).size : Int) then ((glossatorref01_Units.f kj19 ((a0.extract (t197 : Int).toNat (t198 : Int).toNat).extract 0 (t202 : Int).toNat)).bind fun t205 => (if t205 = (wrap64 (x8_13 + (rd l1 (ji16)))) then (if 0 ≤ t204 then (if t204 ≤ ((a0.extract (t197 : Int).toNat (t198 : Int).toNat).size : Int) then ((glossatorref01_Units.f kj19 ((a0.extract (t197 : Int).toNat (t198 : Int).toNat).extract 0 (t204 : Int).toNat)).bind fun t206 => (if t206 = (wrap64 ((wrap64 (x8_13 + (rd l1 (ji16)))) + (rd l1 (ji33)))) then (if 0 ≤ (wrap64 (x9_1 + 3)) then (if (wrap64 (x9_1 + 3)) < (l1.length : Int) then (if 0 ≤ (wrap64 (x9_1 + 4)) then (if (wrap64 (x9_1 + 4)) < (l1.length : Int) then (if x6_1.length < 4398046511104 then (glossatorref23_Decode.l0 kj19 a0 l1 (x6_1 ++ [(⟨(⟨wrap64 (t197 + t202), wrap64 (t197 + t204)⟩ : S36), rd l1 (wrap64 (x9_1 + 3)), rd l1 (wrap64 (x9_1 + 4))⟩ : S38)]) x7_13 (wrap64 (x8_13 + (rd l1 (ji16)))) (wrap64 (x9_1 + 5))) else (none)) else (none)) else (none)) else (none)) else (none)) else (some (([] : List (S38)), 230)))) else (none)) else (none)) else (some (([] : List (S38)), 230)))) else (none)) else (none)) = some (r1, r2) := H
             have A36 := Aside0.mk A360; clear A360; by_cases c37 : 0 ≤ t202
             rotate_left
             ·rw [if_neg c37] at H; exact absurd H (by simp)
             rw [if_pos c37] at H; have c37b0 := eq_true c37
             have c37b1 : decide (0 ≤ t202) = true := decide_eq_true c37; clear c37; by_cases c38 : t202 ≤ ((a0.extract (t197 : Int).toNat (t198 : Int).toNat).size : Int)
             rotate_left
             ·rw [if_neg c38] at H; exact absurd H (by simp)
             rw [if_pos c38] at H; have c38b0 := eq_true c38
             have c38b2 : (t202 ≤ (((t198 : Int).toNat - (t197 : Int).toNat : Nat) : Int)) = True := eq_true (by have h_ := c38; rw [ByteArray.size_extract] at h_; omega)
             have c38b1 : decide (t202 ≤ ((a0.extract (t197 : Int).toNat (t198 : Int).toNat).size : Int)) = true := decide_eq_true c38; clear c38; replace H := Option.bind_eq_some_iff.mp H
             obtain ⟨t205, A390, H⟩ := H
             replace H : (if t205 = (wrap64 (x8_13 + (rd l1 (ji16)))) then (if 0 ≤ t204 then (if t204 ≤ ((a0.extract (t197 : Int).toNat (t198 : Int).toNat).size : Int) then ((glossatorref01_Units.f kj19 ((a0.extract (t197 : Int).toNat (t198 : Int).toNat).extract 0 (t204 : Int).toNat)).bind fun t206 => (if t206 = (wrap64 ((wrap64 (x8_13 + (rd l1 (ji16)))) + (rd l1 (ji33)))) then (if 0 ≤ (wrap64 (x9_1 + 3)) then (if (wrap64 (x9_1 + 3)) < (l1.length : Int) then (if 0 ≤ (wrap64 (x9_1 + 4)) then (if (wrap64 (x9_1 + 4)) < (l1.length : Int) then (if x6_1.length < 4398046511104 then (glossatorref23_Decode.l0 kj19 a0 l1 (x6_1 ++ [(⟨(⟨wrap64 (t197 + t202), wrap64 (t197 + t204)⟩ : S36), rd l1 (wrap64 (x9_1 + 3)), rd l1 (wrap64 (x9_1 + 4))⟩ : S38)]) x7_13 (wrap64 (x8_13 + (rd l1 (ji16)))) (wrap64 (x9_1 + 5))) else (none)) else (none)) else (none)) else (none)) else (none)) else (some (([] : List (S38)), 230)))) else (none)) else (none)) else (some (([] : List (S38)), 230))) = some (r1, r2) := H
             have A39 := Aside0.mk A390; clear A390; by_cases c40 : t205 = (wrap64 (x8_13 + (rd l1 (ji16))))
             rotate_left
             ·rw [if_neg c40] at H; have c40b0 : (t205 == (wrap64 (x8_13 + (rd l1 (ji16))))) = false := beq_eq_false_iff_ne.mpr c40; have c40b1 : (t205 != (wrap64 (x8_13 + (rd l1 (ji16))))) = true := bne_iff_ne.mpr c40; simp only [Option.some.injEq, Prod.mk.injEq] at H
              obtain ⟨rfl, rfl⟩ := H
              have hcz68_0 : wc.cell? ⟨gb200, 0, none⟩ = some (.int .i64 t197) := (blk_cell BK200.out 0).trans rfl
              have hcz68_1 : wc.cell? ⟨gb200, 1, none⟩ = some (.int .i64 t198) := (blk_cell BK200.out 1).trans rfl
              have hfz68_0 := blk_frozen BK200.out 0
              have hfz68_1 := blk_frozen BK200.out 1
              try go_wp2
              have n0_ := Aside0.mk (Kd.R_drew HO_6.out); have n1_ := Aside0.mk (blk_drew BK200.out); have n2_ := Aside0.mk (below_drew1 HB.out); clear HO_6; clear BK200; clear HB; have HO_6 := n0_; have BK200 := n1_; have HB := n2_; clear n0_ n1_ n2_; have p203 : 0 ≤ ((ji33) : Int) := of_decide_eq_true (by first | (with_reducible assumption) | assumption)
              have q203 : (ji33) < (l1.length : Int) := of_decide_eq_true (by first | (with_reducible assumption) | assumption)
              obtain ⟨ad203, e203, hx203_0⟩ := Kd.at_int HR1.out (ji33) p203 q203
              have hw203_0 := hx203_0
              obtain rfl : ad194 = ad203 := (by injection e203)
              replace hx203_0 := (HB.out.cell (World.block_lt_of_cell? w _ hx203_0)).trans hx203_0; replace p203 := eq_true p203; replace q203 := eq_true q203; refine start_ (n := 14) (S := fun w' => w'.cell? (ad194.add ((ji33)).toNat) = some (.int .i64 (rd l1 (ji33)))) (ds := []) (bz 14 0) (by kernel_rfl) rfl rfl (((HB.out.cell (World.block_lt_of_cell? w _ hw203_0)).trans hw203_0)) (fun hHeld => ?_); refine with_tabW glossatorref23_Decode.tab20 glossatorref23_Decode.bits20 (fun HT_ HW_ => ?_)
              generalize wc.drew = w69 at HO_6 BK200 HB hx203_0 hHeld ⊢
              refine pu 0 (some 93) (bz 14 1) HT_ rfl rfl ?_; refine pu 1 (some 94) (bz 14 3) HT_ rfl rfl ?_; refine pu 3 (some 96) (bz 14 11) HT_ rfl rfl ?_; refine pu 4 (some 97) (bz 14 27) HT_ rfl rfl ?_; refine pu 5 (some 98) (bz 14 59) HT_ rfl rfl ?_; refine pu 6 (some 99) (bz 14 123) HT_ rfl rfl ?_; refine pu 7 (some 100) (bz 14 251) HT_ rfl rfl ?_; refine pu 8 (some 101) (bz 14 507) HT_ rfl rfl ?_; refine take_ (i := 9) (N := some 102) (v := ?_) (a' := ?_) (bz 14 1019) rfl rfl (take_ofW HT_.out HW_.out (by kernel_rfl)) (fun _ _ _ h => h) (Or.inl ⟨by rfl, ?_⟩) hHeld ?_ ?_
              rotate_left
              ·intro w' s0
               go_simp
               with_reducible rfl
              rotate_left
              ·simp only [Act.put, List.setIfInBounds_toArray, List.set_cons_zero, List.set_cons_succ, i64_w, i32_w]
               rfl
              refine pu 10 (some 103) (bz 14 2043) HT_ rfl rfl ?_; refine one_ (i := 2) (N := some 95) (bz 14 2047) rfl rfl (one_of HT_.out (by kernel_rfl)) (by decide) (fun K hK => ?_)
              refine goes_ Tryd.func30 (by kernel_rfl) rfl #[.string (a0.extract (t197 : Int).toNat (t198 : Int).toNat), .int .i64 (wrap64 (x8_13 + (rd l1 (ji16))))] (by rfl) rfl rfl (by (try simp only [List.map_toArray, List.map_cons, List.map_nil]); first | done | (simp only [hji16]; rfl) | rfl | (simp only [List.length_drop, List.length_take]; rfl)) ?_
              with_reducible refine (glossatorref01_Cut.calls kj19 (a0.extract (t197 : Int).toNat (t198 : Int).toNat) (wrap64 (x8_13 + (rd l1 (ji16)))) t202 _ A32.out).mono ?_
              rintro e w70 ⟨rfl, hb⟩
              refine ⟨_, rfl, ?_⟩
              have n0_ := Aside0.mk (Kd.R_below (rl HO_6) hb); have n1_ := Aside0.mk (blk_below (g := gb200) (o := .cells #[.int .i64 t197, .int .i64 t198] 36 (0, 0)) (kl BK200) hb); have n2_ := Aside0.mk (below_step (by repeat (first | (with_reducible first | exact HB.out | apply below_alloc | apply pw_below_drewN | apply below_drew1 | refine below_set ?_ GE200.out) | exact HB.out)) hb); clear HO_6; clear BK200; clear HB; have HO_6 := n0_; have BK200 := n1_; have HB := n2_; clear n0_ n1_ n2_; (try clear hb); (try clear hb2); (try clear hk); (try clear hi); refine hK.out _ _ (((HB.out.cell (World.block_lt_of_cell? w _ hw203_0)).trans hw203_0)) (fun hHeld => ?_)
              clear hK K; refine norm_ (a' := ?_) ?_ ?_
              rotate_left
              ·show Act.put _ (some 95) _ = _
               simp only [Act.put, List.setIfInBounds_toArray, List.set_cons_zero, List.set_cons_succ, i64_w, i32_w]
               rfl
              refine one_ (i := 11) (N := some 104) (bz 14 4095) rfl rfl (one_of HT_.out (by kernel_rfl)) (by decide) (fun K hK => ?_)
              refine goes_ Tryd.func30 (by kernel_rfl) rfl #[.string (a0.extract (t197 : Int).toNat (t198 : Int).toNat), .int .i64 (wrap64 ((wrap64 (x8_13 + (rd l1 (ji16)))) + (rd l1 (ji33))))] (by rfl) rfl rfl (by (try simp only [List.map_toArray, List.map_cons, List.map_nil]); first | done | (simp only [hji16, hji33]; rfl) | rfl | (simp only [List.length_drop, List.length_take]; rfl)) ?_
              with_reducible refine (glossatorref01_Cut.calls kj19 (a0.extract (t197 : Int).toNat (t198 : Int).toNat) (wrap64 ((wrap64 (x8_13 + (rd l1 (ji16)))) + (rd l1 (ji33)))) t204 _ A36.out).mono ?_
              rintro e w71 ⟨rfl, hb⟩
              refine ⟨_, rfl, ?_⟩
              have n0_ := Aside0.mk (Kd.R_below (rl HO_6) hb); have n1_ := Aside0.mk (blk_below (g := gb200) (o := .cells #[.int .i64 t197, .int .i64 t198] 36 (0, 0)) (kl BK200) hb); have n2_ := Aside0.mk (below_step (by repeat (first | (with_reducible first | exact HB.out | apply below_alloc | apply pw_below_drewN | apply below_drew1 | refine below_set ?_ GE200.out) | exact HB.out)) hb); clear HO_6; clear BK200; clear HB; have HO_6 := n0_; have BK200 := n1_; have HB := n2_; clear n0_ n1_ n2_; (try clear hb); (try clear hb2); (try clear hk); (try clear hi); refine hK.out _ _ (((HB.out.cell (World.block_lt_of_cell? w _ hw203_0)).trans hw203_0)) (fun hHeld => ?_)
              clear hK K; refine norm_ (a' := ?_) ?_ ?_
              rotate_left
              ·show Act.put _ (some 104) _ = _
               simp only [Act.put, List.setIfInBounds_toArray, List.set_cons_zero, List.set_cons_succ, i64_w, i32_w]
               rfl
              refine pu 12 (some 14) (bz 14 8191) HT_ rfl rfl ?_; refine pu 13 (some 15) (bz 14 16383) HT_ rfl rfl ?_; refine done_ (done_of HT_.out (by kernel_rfl)) ?_
              try go_wp2
              have n0_ := Aside0.mk (Kd.R_drew HO_6.out); have n1_ := Aside0.mk (blk_drew BK200.out); have n2_ := Aside0.mk (below_drew1 HB.out); clear HO_6; clear BK200; clear HB; have HO_6 := n0_; have BK200 := n1_; have HB := n2_; clear n0_ n1_ n2_; refine start_ (n := 20) (S := fun w' => True) (ds := []) (bz 20 0) (by kernel_rfl) rfl rfl trivial (fun hHeld => ?_); refine with_tabW glossatorref23_Decode.tab21 glossatorref23_Decode.bits21 (fun HT_ HW_ => ?_)
              generalize w71.drew = w72 at HO_6 BK200 HB hHeld ⊢
              refine pu 0 (some 105) (bz 20 1) HT_ rfl rfl ?_; refine pu 1 (some 106) (bz 20 3) HT_ rfl rfl ?_; refine pu 2 (some 107) (bz 20 7) HT_ rfl rfl ?_; refine pu 4 (some 109) (bz 20 23) HT_ rfl rfl ?_; refine one_ (i := 3) (N := some 108) (bz 20 31) rfl rfl (one_of HT_.out (by kernel_rfl)) (by decide) (fun K hK => ?_)
              refine goes_ Tryd.func18 (by kernel_rfl) rfl #[.string ((a0.extract (t197 : Int).toNat (t198 : Int).toNat).extract 0 (t202 : Int).toNat)] (by rfl) rfl rfl (by (try simp only [List.map_toArray, List.map_cons, List.map_nil]); first | done | rfl | (simp only [List.length_drop, List.length_take]; rfl)) ?_
              with_reducible refine (glossatorref01_Units.calls kj19 ((a0.extract (t197 : Int).toNat (t198 : Int).toNat).extract 0 (t202 : Int).toNat) t205 _ A39.out).mono ?_
              rintro e w73 ⟨rfl, hb⟩
              refine ⟨_, rfl, ?_⟩
              have n0_ := Aside0.mk (Kd.R_below (rl HO_6) hb); have n1_ := Aside0.mk (blk_below (g := gb200) (o := .cells #[.int .i64 t197, .int .i64 t198] 36 (0, 0)) (kl BK200) hb); have n2_ := Aside0.mk (below_step (by repeat (first | (with_reducible first | exact HB.out | apply below_alloc | apply pw_below_drewN | apply below_drew1 | refine below_set ?_ GE200.out) | exact HB.out)) hb); clear HO_6; clear BK200; clear HB; have HO_6 := n0_; have BK200 := n1_; have HB := n2_; clear n0_ n1_ n2_; (try clear hb); (try clear hb2); (try clear hk); (try clear hi); refine hK.out _ _ trivial (fun hHeld => ?_)
              clear hK K; refine norm_ (a' := ?_) ?_ ?_
              rotate_left
              ·show Act.put _ (some 108) _ = _
               simp only [Act.put, List.setIfInBounds_toArray, List.set_cons_zero, List.set_cons_succ, i64_w, i32_w]
               rfl
              refine pu 5 (some 110) (bz 20 63) HT_ rfl rfl ?_; refine pu 6 (some 111) (bz 20 127) HT_ rfl rfl ?_; refine pf 7 (some 112) (bz 20 255) HT_ rfl rfl ?_; refine pf 8 (some 113) (bz 20 511) HT_ rfl rfl ?_; refine pf 9 (some 114) (bz 20 1023) HT_ rfl rfl ?_; refine pf 10 (some 115) (bz 20 2047) HT_ rfl rfl ?_; refine pf 11 (some 116) (bz 20 4095) HT_ rfl rfl ?_; refine pf 12 (some 117) (bz 20 8191) HT_ rfl rfl ?_; refine pf 13 (some 118) (bz 20 16383) HT_ rfl rfl ?_; refine pf 14 (some 119) (bz 20 32767) HT_ rfl rfl ?_; refine pf 15 (some 120) (bz 20 65535) HT_ rfl rfl ?_; refine pf 16 (some 121) (bz 20 131071) HT_ rfl rfl ?_; refine pf 17 (some 122) (bz 20 262143) HT_ rfl rfl ?_; refine pf 18 (some 123) (bz 20 524287) HT_ rfl rfl ?_; refine pu 19 (some 124) (bz 20 1048575) HT_ rfl rfl ?_; refine done_ (done_of HT_.out (by kernel_rfl)) ?_
              try go_wp2
              go_ret2
              exact ⟨_, by first | rfl | (simp [errW_none, errW_some] <;> rfl) | (simp only [← hji16, ← hji33]; first | rfl | (simp [errW_none, errW_some] <;> rfl)) | (simp [*, errW_none, errW_some] <;> rfl), by first | exact Kd.R_nil _ _ _ _ _ | exact Kd.N_nil _ _ _ _ _ | exact Kd.V_nil _ _ _ _ _ | exact Kd.Q_nil _ _ _ _ _ | exact Kd.S_nil _ _ _ _ _, by repeat (first | (with_reducible first | exact HB.out | apply below_alloc | apply pw_below_drewN | apply below_drew1 | refine below_set ?_ GE200.out) | exact HB.out)⟩
             rw [if_pos c40] at H; have c40b0 : (t205 == (wrap64 (x8_13 + (rd l1 (ji16))))) = true := beq_iff_eq.mpr c40
             have c40b1 : (t205 != (wrap64 (x8_13 + (rd l1 (ji16))))) = false := bne_eq_false_iff_eq.mpr c40
             clear c40; by_cases c41 : 0 ≤ t204
             rotate_left
             ·rw [if_neg c41] at H; exact absurd H (by simp)
             rw [if_pos c41] at H; have c41b0 := eq_true c41
             have c41b1 : decide (0 ≤ t204) = true := decide_eq_true c41; clear c41; by_cases c42 : t204 ≤ ((a0.extract (t197 : Int).toNat (t198 : Int).toNat).size : Int)
             rotate_left
             ·rw [if_neg c42] at H; exact absurd H (by simp)
             rw [if_pos c42] at H; have c42b0 := eq_true c42
             have c42b2 : (t204 ≤ (((t198 : Int).toNat - (t197 : Int).toNat : Nat) : Int)) = True := eq_true (by have h_ := c42; rw [ByteArray.size_extract] at h_; omega)
             have c42b1 : decide (t204 ≤ ((a0.extract (t197 : Int).toNat (t198 : Int).toNat).size : Int)) = true := decide_eq_true c42; clear c42; replace H := Option.bind_eq_some_iff.mp H
             obtain ⟨t206, A430, H⟩ := H
             replace H : (if t206 = (wrap64 ((wrap64 (x8_13 + (rd l1 (ji16)))) + (rd l1 (ji33)))) then (if 0 ≤ (wrap64 (x9_1 + 3)) then (if (wrap64 (x9_1 + 3)) < (l1.length : Int) then (if 0 ≤ (wrap64 (x9_1 + 4)) then (if (wrap64 (x9_1 + 4)) < (l1.length : Int) then (if x6_1.length < 4398046511104 then (glossatorref23_Decode.l0 kj19 a0 l1 (x6_1 ++ [(⟨(⟨wrap64 (t197 + t202), wrap64 (t197 + t204)⟩ : S36), rd l1 (wrap64 (x9_1 + 3)), rd l1 (wrap64 (x9_1 + 4))⟩ : S38)]) x7_13 (wrap64 (x8_13 + (rd l1 (ji16)))) (wrap64 (x9_1 + 5))) else (none)) else (none)) else (none)) else (none)) else (none)) else (some (([] : List (S38)), 230))) = some (r1, r2) := H
             have A43 := Aside0.mk A430; clear A430; by_cases c44 : t206 = (wrap64 ((wrap64 (x8_13 + (rd l1 (ji16)))) + (rd l1 (ji33))))
             rotate_left
             ·rw [if_neg c44] at H; have c44b0 : (t206 == (wrap64 ((wrap64 (x8_13 + (rd l1 (ji16)))) + (rd l1 (ji33))))) = false := beq_eq_false_iff_ne.mpr c44; have c44b1 : (t206 != (wrap64 ((wrap64 (x8_13 + (rd l1 (ji16)))) + (rd l1 (ji33))))) = true := bne_iff_ne.mpr c44; simp only [Option.some.injEq, Prod.mk.injEq] at H
              obtain ⟨rfl, rfl⟩ := H
              have hcz61_0 : wc.cell? ⟨gb200, 0, none⟩ = some (.int .i64 t197) := (blk_cell BK200.out 0).trans rfl
              have hcz61_1 : wc.cell? ⟨gb200, 1, none⟩ = some (.int .i64 t198) := (blk_cell BK200.out 1).trans rfl
              have hfz61_0 := blk_frozen BK200.out 0
              have hfz61_1 := blk_frozen BK200.out 1
              try go_wp2
              have n0_ := Aside0.mk (Kd.R_drew HO_6.out); have n1_ := Aside0.mk (blk_drew BK200.out); have n2_ := Aside0.mk (below_drew1 HB.out); clear HO_6; clear BK200; clear HB; have HO_6 := n0_; have BK200 := n1_; have HB := n2_; clear n0_ n1_ n2_; have p203 : 0 ≤ ((ji33) : Int) := of_decide_eq_true (by first | (with_reducible assumption) | assumption)
              have q203 : (ji33) < (l1.length : Int) := of_decide_eq_true (by first | (with_reducible assumption) | assumption)
              obtain ⟨ad203, e203, hx203_0⟩ := Kd.at_int HR1.out (ji33) p203 q203
              have hw203_0 := hx203_0
              obtain rfl : ad194 = ad203 := (by injection e203)
              replace hx203_0 := (HB.out.cell (World.block_lt_of_cell? w _ hx203_0)).trans hx203_0; replace p203 := eq_true p203; replace q203 := eq_true q203; refine start_ (n := 14) (S := fun w' => w'.cell? (ad194.add ((ji33)).toNat) = some (.int .i64 (rd l1 (ji33)))) (ds := []) (bz 14 0) (by kernel_rfl) rfl rfl (((HB.out.cell (World.block_lt_of_cell? w _ hw203_0)).trans hw203_0)) (fun hHeld => ?_); refine with_tabW glossatorref23_Decode.tab20 glossatorref23_Decode.bits20 (fun HT_ HW_ => ?_)
              generalize wc.drew = w62 at HO_6 BK200 HB hx203_0 hHeld ⊢
              refine pu 0 (some 93) (bz 14 1) HT_ rfl rfl ?_; refine pu 1 (some 94) (bz 14 3) HT_ rfl rfl ?_; refine pu 3 (some 96) (bz 14 11) HT_ rfl rfl ?_; refine pu 4 (some 97) (bz 14 27) HT_ rfl rfl ?_; refine pu 5 (some 98) (bz 14 59) HT_ rfl rfl ?_; refine pu 6 (some 99) (bz 14 123) HT_ rfl rfl ?_; refine pu 7 (some 100) (bz 14 251) HT_ rfl rfl ?_; refine pu 8 (some 101) (bz 14 507) HT_ rfl rfl ?_; refine take_ (i := 9) (N := some 102) (v := ?_) (a' := ?_) (bz 14 1019) rfl rfl (take_ofW HT_.out HW_.out (by kernel_rfl)) (fun _ _ _ h => h) (Or.inl ⟨by rfl, ?_⟩) hHeld ?_ ?_
              rotate_left
              ·intro w' s0
               go_simp
               with_reducible rfl
              rotate_left
              ·simp only [Act.put, List.setIfInBounds_toArray, List.set_cons_zero, List.set_cons_succ, i64_w, i32_w]
               rfl
              refine pu 10 (some 103) (bz 14 2043) HT_ rfl rfl ?_; refine one_ (i := 2) (N := some 95) (bz 14 2047) rfl rfl (one_of HT_.out (by kernel_rfl)) (by decide) (fun K hK => ?_)
              refine goes_ Tryd.func30 (by kernel_rfl) rfl #[.string (a0.extract (t197 : Int).toNat (t198 : Int).toNat), .int .i64 (wrap64 (x8_13 + (rd l1 (ji16))))] (by rfl) rfl rfl (by (try simp only [List.map_toArray, List.map_cons, List.map_nil]); first | done | (simp only [hji16]; rfl) | rfl | (simp only [List.length_drop, List.length_take]; rfl)) ?_
              with_reducible refine (glossatorref01_Cut.calls kj19 (a0.extract (t197 : Int).toNat (t198 : Int).toNat) (wrap64 (x8_13 + (rd l1 (ji16)))) t202 _ A32.out).mono ?_
              rintro e w63 ⟨rfl, hb⟩
              refine ⟨_, rfl, ?_⟩
              have n0_ := Aside0.mk (Kd.R_below (rl HO_6) hb); have n1_ := Aside0.mk (blk_below (g := gb200) (o := .cells #[.int .i64 t197, .int .i64 t198] 36 (0, 0)) (kl BK200) hb); have n2_ := Aside0.mk (below_step (by repeat (first | (with_reducible first | exact HB.out | apply below_alloc | apply pw_below_drewN | apply below_drew1 | refine below_set ?_ GE200.out) | exact HB.out)) hb); clear HO_6; clear BK200; clear HB; have HO_6 := n0_; have BK200 := n1_; have HB := n2_; clear n0_ n1_ n2_; (try clear hb); (try clear hb2); (try clear hk); (try clear hi); refine hK.out _ _ (((HB.out.cell (World.block_lt_of_cell? w _ hw203_0)).trans hw203_0)) (fun hHeld => ?_)
              clear hK K; refine norm_ (a' := ?_) ?_ ?_
              rotate_left
              ·show Act.put _ (some 95) _ = _
               simp only [Act.put, List.setIfInBounds_toArray, List.set_cons_zero, List.set_cons_succ, i64_w, i32_w]
               rfl
              refine one_ (i := 11) (N := some 104) (bz 14 4095) rfl rfl (one_of HT_.out (by kernel_rfl)) (by decide) (fun K hK => ?_)
              refine goes_ Tryd.func30 (by kernel_rfl) rfl #[.string (a0.extract (t197 : Int).toNat (t198 : Int).toNat), .int .i64 (wrap64 ((wrap64 (x8_13 + (rd l1 (ji16)))) + (rd l1 (ji33))))] (by rfl) rfl rfl (by (try simp only [List.map_toArray, List.map_cons, List.map_nil]); first | done | (simp only [hji16, hji33]; rfl) | rfl | (simp only [List.length_drop, List.length_take]; rfl)) ?_
              with_reducible refine (glossatorref01_Cut.calls kj19 (a0.extract (t197 : Int).toNat (t198 : Int).toNat) (wrap64 ((wrap64 (x8_13 + (rd l1 (ji16)))) + (rd l1 (ji33)))) t204 _ A36.out).mono ?_
              rintro e w64 ⟨rfl, hb⟩
              refine ⟨_, rfl, ?_⟩
              have n0_ := Aside0.mk (Kd.R_below (rl HO_6) hb); have n1_ := Aside0.mk (blk_below (g := gb200) (o := .cells #[.int .i64 t197, .int .i64 t198] 36 (0, 0)) (kl BK200) hb); have n2_ := Aside0.mk (below_step (by repeat (first | (with_reducible first | exact HB.out | apply below_alloc | apply pw_below_drewN | apply below_drew1 | refine below_set ?_ GE200.out) | exact HB.out)) hb); clear HO_6; clear BK200; clear HB; have HO_6 := n0_; have BK200 := n1_; have HB := n2_; clear n0_ n1_ n2_; (try clear hb); (try clear hb2); (try clear hk); (try clear hi); refine hK.out _ _ (((HB.out.cell (World.block_lt_of_cell? w _ hw203_0)).trans hw203_0)) (fun hHeld => ?_)
              clear hK K; refine norm_ (a' := ?_) ?_ ?_
              rotate_left
              ·show Act.put _ (some 104) _ = _
               simp only [Act.put, List.setIfInBounds_toArray, List.set_cons_zero, List.set_cons_succ, i64_w, i32_w]
               rfl
              refine pu 12 (some 14) (bz 14 8191) HT_ rfl rfl ?_; refine pu 13 (some 15) (bz 14 16383) HT_ rfl rfl ?_; refine done_ (done_of HT_.out (by kernel_rfl)) ?_
              try go_wp2
              have n0_ := Aside0.mk (Kd.R_drew HO_6.out); have n1_ := Aside0.mk (blk_drew BK200.out); have n2_ := Aside0.mk (below_drew1 HB.out); clear HO_6; clear BK200; clear HB; have HO_6 := n0_; have BK200 := n1_; have HB := n2_; clear n0_ n1_ n2_; have p207 : 0 ≤ ((ji33) : Int) := of_decide_eq_true (by first | (with_reducible assumption) | assumption)
              have q207 : (ji33) < (l1.length : Int) := of_decide_eq_true (by first | (with_reducible assumption) | assumption)
              obtain ⟨ad207, e207, hx207_0⟩ := Kd.at_int HR1.out (ji33) p207 q207
              have hw207_0 := hx207_0
              obtain rfl : ad194 = ad207 := (by injection e207)
              replace hx207_0 := (HB.out.cell (World.block_lt_of_cell? w _ hx207_0)).trans hx207_0; replace p207 := eq_true p207; replace q207 := eq_true q207; refine start_ (n := 20) (S := fun w' => w'.cell? (ad194.add ((ji33)).toNat) = some (.int .i64 (rd l1 (ji33)))) (ds := []) (bz 20 0) (by kernel_rfl) rfl rfl (((HB.out.cell (World.block_lt_of_cell? w _ hw207_0)).trans hw207_0)) (fun hHeld => ?_); refine with_tabW glossatorref23_Decode.tab21 glossatorref23_Decode.bits21 (fun HT_ HW_ => ?_)
              generalize w64.drew = w65 at HO_6 BK200 HB hx207_0 hHeld ⊢
              refine pu 0 (some 105) (bz 20 1) HT_ rfl rfl ?_; refine pu 1 (some 106) (bz 20 3) HT_ rfl rfl ?_; refine pu 2 (some 107) (bz 20 7) HT_ rfl rfl ?_; refine pu 4 (some 109) (bz 20 23) HT_ rfl rfl ?_; refine one_ (i := 3) (N := some 108) (bz 20 31) rfl rfl (one_of HT_.out (by kernel_rfl)) (by decide) (fun K hK => ?_)
              refine goes_ Tryd.func18 (by kernel_rfl) rfl #[.string ((a0.extract (t197 : Int).toNat (t198 : Int).toNat).extract 0 (t202 : Int).toNat)] (by rfl) rfl rfl (by (try simp only [List.map_toArray, List.map_cons, List.map_nil]); first | done | rfl | (simp only [List.length_drop, List.length_take]; rfl)) ?_
              with_reducible refine (glossatorref01_Units.calls kj19 ((a0.extract (t197 : Int).toNat (t198 : Int).toNat).extract 0 (t202 : Int).toNat) t205 _ A39.out).mono ?_
              rintro e w66 ⟨rfl, hb⟩
              refine ⟨_, rfl, ?_⟩
              have n0_ := Aside0.mk (Kd.R_below (rl HO_6) hb); have n1_ := Aside0.mk (blk_below (g := gb200) (o := .cells #[.int .i64 t197, .int .i64 t198] 36 (0, 0)) (kl BK200) hb); have n2_ := Aside0.mk (below_step (by repeat (first | (with_reducible first | exact HB.out | apply below_alloc | apply pw_below_drewN | apply below_drew1 | refine below_set ?_ GE200.out) | exact HB.out)) hb); clear HO_6; clear BK200; clear HB; have HO_6 := n0_; have BK200 := n1_; have HB := n2_; clear n0_ n1_ n2_; (try clear hb); (try clear hb2); (try clear hk); (try clear hi); refine hK.out _ _ (((HB.out.cell (World.block_lt_of_cell? w _ hw207_0)).trans hw207_0)) (fun hHeld => ?_)
              clear hK K; refine norm_ (a' := ?_) ?_ ?_
              rotate_left
              ·show Act.put _ (some 108) _ = _
               simp only [Act.put, List.setIfInBounds_toArray, List.set_cons_zero, List.set_cons_succ, i64_w, i32_w]
               rfl
              refine pu 5 (some 110) (bz 20 63) HT_ rfl rfl ?_; refine pu 6 (some 111) (bz 20 127) HT_ rfl rfl ?_; refine pu 7 (some 112) (bz 20 255) HT_ rfl rfl ?_; refine pu 8 (some 113) (bz 20 511) HT_ rfl rfl ?_; refine pu 9 (some 114) (bz 20 1023) HT_ rfl rfl ?_; refine pu 11 (some 116) (bz 20 3071) HT_ rfl rfl ?_; refine pu 12 (some 117) (bz 20 7167) HT_ rfl rfl ?_; refine pu 13 (some 118) (bz 20 15359) HT_ rfl rfl ?_; refine pu 14 (some 119) (bz 20 31743) HT_ rfl rfl ?_; refine pu 15 (some 120) (bz 20 64511) HT_ rfl rfl ?_; refine take_ (i := 16) (N := some 121) (v := ?_) (a' := ?_) (bz 20 130047) rfl rfl (take_ofW HT_.out HW_.out (by kernel_rfl)) (fun _ _ _ h => h) (Or.inl ⟨by rfl, ?_⟩) hHeld ?_ ?_
              rotate_left
              ·intro w' s0
               go_simp
               with_reducible rfl
              rotate_left
              ·simp only [Act.put, List.setIfInBounds_toArray, List.set_cons_zero, List.set_cons_succ, i64_w, i32_w]
               rfl
              refine pu 17 (some 122) (bz 20 261119) HT_ rfl rfl ?_; refine one_ (i := 10) (N := some 115) (bz 20 262143) rfl rfl (one_of HT_.out (by kernel_rfl)) (by decide) (fun K hK => ?_)
              refine goes_ Tryd.func18 (by kernel_rfl) rfl #[.string ((a0.extract (t197 : Int).toNat (t198 : Int).toNat).extract 0 (t204 : Int).toNat)] (by rfl) rfl rfl (by (try simp only [List.map_toArray, List.map_cons, List.map_nil]); first | done | rfl | (simp only [List.length_drop, List.length_take]; rfl)) ?_
              with_reducible refine (glossatorref01_Units.calls kj19 ((a0.extract (t197 : Int).toNat (t198 : Int).toNat).extract 0 (t204 : Int).toNat) t206 _ A43.out).mono ?_
              rintro e w67 ⟨rfl, hb⟩
              refine ⟨_, rfl, ?_⟩
              have n0_ := Aside0.mk (Kd.R_below (rl HO_6) hb); have n1_ := Aside0.mk (blk_below (g := gb200) (o := .cells #[.int .i64 t197, .int .i64 t198] 36 (0, 0)) (kl BK200) hb); have n2_ := Aside0.mk (below_step (by repeat (first | (with_reducible first | exact HB.out | apply below_alloc | apply pw_below_drewN | apply below_drew1 | refine below_set ?_ GE200.out) | exact HB.out)) hb); clear HO_6; clear BK200; clear HB; have HO_6 := n0_; have BK200 := n1_; have HB := n2_; clear n0_ n1_ n2_; (try clear hb); (try clear hb2); (try clear hk); (try clear hi); refine hK.out _ _ (((HB.out.cell (World.block_lt_of_cell? w _ hw207_0)).trans hw207_0)) (fun hHeld => ?_)
              clear hK K; refine norm_ (a' := ?_) ?_ ?_
              rotate_left
              ·show Act.put _ (some 115) _ = _
               simp only [Act.put, List.setIfInBounds_toArray, List.set_cons_zero, List.set_cons_succ, i64_w, i32_w]
               rfl
              refine pu 18 (some 123) (bz 20 524287) HT_ rfl rfl ?_; refine pu 19 (some 124) (bz 20 1048575) HT_ rfl rfl ?_; refine done_ (done_of HT_.out (by kernel_rfl)) ?_
              try go_wp2
              go_ret2
              exact ⟨_, by first | rfl | (simp [errW_none, errW_some] <;> rfl) | (simp only [← hji16, ← hji33]; first | rfl | (simp [errW_none, errW_some] <;> rfl)) | (simp [*, errW_none, errW_some] <;> rfl), by first | exact Kd.R_nil _ _ _ _ _ | exact Kd.N_nil _ _ _ _ _ | exact Kd.V_nil _ _ _ _ _ | exact Kd.Q_nil _ _ _ _ _ | exact Kd.S_nil _ _ _ _ _, by repeat (first | (with_reducible first | exact HB.out | apply below_alloc | apply pw_below_drewN | apply below_drew1 | refine below_set ?_ GE200.out) | exact HB.out)⟩
             rw [if_pos c44] at H; have c44b0 : (t206 == (wrap64 ((wrap64 (x8_13 + (rd l1 (ji16)))) + (rd l1 (ji33))))) = true := beq_iff_eq.mpr c44
             have c44b1 : (t206 != (wrap64 ((wrap64 (x8_13 + (rd l1 (ji16)))) + (rd l1 (ji33))))) = false := bne_eq_false_iff_eq.mpr c44
             clear c44; obtain ⟨ji45, hji45⟩ : ∃ j_ : Int, (wrap64 (x9_1 + 3)) = j_ := ⟨_, rfl⟩
             replace H : (if 0 ≤ (ji45) then (if (ji45) < (l1.length : Int) then (if 0 ≤ (wrap64 (x9_1 + 4)) then (if (wrap64 (x9_1 + 4)) < (l1.length : Int) then (if x6_1.length < 4398046511104 then (glossatorref23_Decode.l0 kj19 a0 l1 (x6_1 ++ [(⟨(⟨wrap64 (t197 + t202), wrap64 (t197 + t204)⟩ : S36), rd l1 (ji45), rd l1 (wrap64 (x9_1 + 4))⟩ : S38)]) x7_13 (wrap64 (x8_13 + (rd l1 (ji16)))) (wrap64 (x9_1 + 5))) else (none)) else (none)) else (none)) else (none)) else (none)) = some (r1, r2) := by first | (rw [hji45] at H; exact H) | (simp only [hji45] at H ⊢; exact H)
             (try rw [hji45] at A32)
             (try rw [hji45] at A36)
             (try rw [hji45] at A39)
             (try rw [hji45] at A43)
             have hji45w : (IntKind.i64.wrap (x9_1 + 3)) = ji45 := (i64_w _).trans hji45
             by_cases c46 : 0 ≤ (ji45)
             rotate_left
             ·rw [if_neg c46] at H; exact absurd H (by simp)
             rw [if_pos c46] at H; have c46b0 : decide (0 ≤ (ji45)) = true := decide_eq_true c46; clear c46; by_cases c47 : (ji45) < (l1.length : Int)
             rotate_left
             ·rw [if_neg c47] at H; exact absurd H (by simp)
             rw [if_pos c47] at H; have c47b0 : decide ((ji45) < (l1.length : Int)) = true := decide_eq_true c47; clear c47; obtain ⟨ji48, hji48⟩ : ∃ j_ : Int, (wrap64 (x9_1 + 4)) = j_ := ⟨_, rfl⟩
             replace H : (if 0 ≤ (ji48) then (if (ji48) < (l1.length : Int) then (if x6_1.length < 4398046511104 then (glossatorref23_Decode.l0 kj19 a0 l1 (x6_1 ++ [(⟨(⟨wrap64 (t197 + t202), wrap64 (t197 + t204)⟩ : S36), rd l1 (ji45), rd l1 (ji48)⟩ : S38)]) x7_13 (wrap64 (x8_13 + (rd l1 (ji16)))) (wrap64 (x9_1 + 5))) else (none)) else (none)) else (none)) = some (r1, r2) := by first | (rw [hji48] at H; exact H) | (simp only [hji48] at H ⊢; exact H)
             (try rw [hji48] at A32)
             (try rw [hji48] at A36)
             (try rw [hji48] at A39)
             (try rw [hji48] at A43)
             have hji48w : (IntKind.i64.wrap (x9_1 + 4)) = ji48 := (i64_w _).trans hji48
             by_cases c49 : 0 ≤ (ji48)
             rotate_left
             ·rw [if_neg c49] at H; exact absurd H (by simp)
             rw [if_pos c49] at H; have c49b0 : decide (0 ≤ (ji48)) = true := decide_eq_true c49; clear c49; by_cases c50 : (ji48) < (l1.length : Int)
             rotate_left
             ·rw [if_neg c50] at H; exact absurd H (by simp)
             rw [if_pos c50] at H; have c50b0 : decide ((ji48) < (l1.length : Int)) = true := decide_eq_true c50; clear c50; by_cases c51 : x6_1.length < 4398046511104
             rotate_left
             ·rw [if_neg c51] at H; exact absurd H (by simp)
             rw [if_pos c51] at H; have LMc51 := Aside0.mk c51; clear c51; obtain ⟨y210, hy210⟩ : ∃ y_ : List (S38), y_ = (x6_1 ++ [(⟨(⟨wrap64 (t197 + t202), wrap64 (t197 + t204)⟩ : S36), rd l1 (ji45), rd l1 (ji48)⟩ : S38)]) := ⟨_, rfl⟩
             replace H : (glossatorref23_Decode.l0 kj19 a0 l1 y210 x7_13 (wrap64 (x8_13 + (rd l1 (ji16)))) (wrap64 (x9_1 + 5))) = some (r1, r2) := by first | (rw [hy210]; with_reducible exact H) | (have H2_ := (Option.bind_some _ _).symm.trans H; rw [hy210]; with_reducible exact H2_) | (have H2_ := (Option.bind_some _ _).symm.trans H; with_reducible exact H2_) | with_reducible exact H | (rw [hy210]; exact H) | exact H
             have Ny210 := Aside0.mk hy210; clear hy210; have H' := Aside0.mk H; clear H; have hcz52_0 : wc.cell? ⟨gb200, 0, none⟩ = some (.int .i64 t197) := (blk_cell BK200.out 0).trans rfl
             have hcz52_1 : wc.cell? ⟨gb200, 1, none⟩ = some (.int .i64 t198) := (blk_cell BK200.out 1).trans rfl
             have hfz52_0 := blk_frozen BK200.out 0
             have hfz52_1 := blk_frozen BK200.out 1
             try go_wp2
             have n0_ := Aside0.mk (Kd.R_drew HO_6.out); have n1_ := Aside0.mk (blk_drew BK200.out); have n2_ := Aside0.mk (below_drew1 HB.out); clear HO_6; clear BK200; clear HB; have HO_6 := n0_; have BK200 := n1_; have HB := n2_; clear n0_ n1_ n2_; have p203 : 0 ≤ ((ji33) : Int) := of_decide_eq_true (by first | (with_reducible assumption) | assumption)
             have q203 : (ji33) < (l1.length : Int) := of_decide_eq_true (by first | (with_reducible assumption) | assumption)
             obtain ⟨ad203, e203, hx203_0⟩ := Kd.at_int HR1.out (ji33) p203 q203
             have hw203_0 := hx203_0
             obtain rfl : ad194 = ad203 := (by injection e203)
             replace hx203_0 := (HB.out.cell (World.block_lt_of_cell? w _ hx203_0)).trans hx203_0; replace p203 := eq_true p203; replace q203 := eq_true q203; refine start_ (n := 14) (S := fun w' => w'.cell? (ad194.add ((ji33)).toNat) = some (.int .i64 (rd l1 (ji33)))) (ds := []) (bz 14 0) (by kernel_rfl) rfl rfl (((HB.out.cell (World.block_lt_of_cell? w _ hw203_0)).trans hw203_0)) (fun hHeld => ?_); refine with_tabW glossatorref23_Decode.tab20 glossatorref23_Decode.bits20 (fun HT_ HW_ => ?_)
             generalize wc.drew = w53 at HO_6 BK200 HB hx203_0 hHeld ⊢
             refine pu 0 (some 93) (bz 14 1) HT_ rfl rfl ?_; refine pu 1 (some 94) (bz 14 3) HT_ rfl rfl ?_; refine pu 3 (some 96) (bz 14 11) HT_ rfl rfl ?_; refine pu 4 (some 97) (bz 14 27) HT_ rfl rfl ?_; refine pu 5 (some 98) (bz 14 59) HT_ rfl rfl ?_; refine pu 6 (some 99) (bz 14 123) HT_ rfl rfl ?_; refine pu 7 (some 100) (bz 14 251) HT_ rfl rfl ?_; refine pu 8 (some 101) (bz 14 507) HT_ rfl rfl ?_; refine take_ (i := 9) (N := some 102) (v := ?_) (a' := ?_) (bz 14 1019) rfl rfl (take_ofW HT_.out HW_.out (by kernel_rfl)) (fun _ _ _ h => h) (Or.inl ⟨by rfl, ?_⟩) hHeld ?_ ?_
             rotate_left
             ·intro w' s0
              go_simp
              with_reducible rfl
             rotate_left
             ·simp only [Act.put, List.setIfInBounds_toArray, List.set_cons_zero, List.set_cons_succ, i64_w, i32_w]
              rfl
             refine pu 10 (some 103) (bz 14 2043) HT_ rfl rfl ?_; refine one_ (i := 2) (N := some 95) (bz 14 2047) rfl rfl (one_of HT_.out (by kernel_rfl)) (by decide) (fun K hK => ?_)
             refine goes_ Tryd.func30 (by kernel_rfl) rfl #[.string (a0.extract (t197 : Int).toNat (t198 : Int).toNat), .int .i64 (wrap64 (x8_13 + (rd l1 (ji16))))] (by rfl) rfl rfl (by (try simp only [List.map_toArray, List.map_cons, List.map_nil]); first | done | (simp only [hji16]; rfl) | rfl | (simp only [List.length_drop, List.length_take]; rfl)) ?_
             with_reducible refine (glossatorref01_Cut.calls kj19 (a0.extract (t197 : Int).toNat (t198 : Int).toNat) (wrap64 (x8_13 + (rd l1 (ji16)))) t202 _ A32.out).mono ?_
             rintro e w54 ⟨rfl, hb⟩
             refine ⟨_, rfl, ?_⟩
             have n0_ := Aside0.mk (Kd.R_below (rl HO_6) hb); have n1_ := Aside0.mk (blk_below (g := gb200) (o := .cells #[.int .i64 t197, .int .i64 t198] 36 (0, 0)) (kl BK200) hb); have n2_ := Aside0.mk (below_step (by repeat (first | (with_reducible first | exact HB.out | apply below_alloc | apply pw_below_drewN | apply below_drew1 | refine below_set ?_ GE200.out) | exact HB.out)) hb); clear HO_6; clear BK200; clear HB; have HO_6 := n0_; have BK200 := n1_; have HB := n2_; clear n0_ n1_ n2_; (try clear hb); (try clear hb2); (try clear hk); (try clear hi); refine hK.out _ _ (((HB.out.cell (World.block_lt_of_cell? w _ hw203_0)).trans hw203_0)) (fun hHeld => ?_)
             clear hK K; refine norm_ (a' := ?_) ?_ ?_
             rotate_left
             ·show Act.put _ (some 95) _ = _
              simp only [Act.put, List.setIfInBounds_toArray, List.set_cons_zero, List.set_cons_succ, i64_w, i32_w]
              rfl
             refine one_ (i := 11) (N := some 104) (bz 14 4095) rfl rfl (one_of HT_.out (by kernel_rfl)) (by decide) (fun K hK => ?_)
             refine goes_ Tryd.func30 (by kernel_rfl) rfl #[.string (a0.extract (t197 : Int).toNat (t198 : Int).toNat), .int .i64 (wrap64 ((wrap64 (x8_13 + (rd l1 (ji16)))) + (rd l1 (ji33))))] (by rfl) rfl rfl (by (try simp only [List.map_toArray, List.map_cons, List.map_nil]); first | done | (simp only [hji16, hji33]; rfl) | rfl | (simp only [List.length_drop, List.length_take]; rfl)) ?_
             with_reducible refine (glossatorref01_Cut.calls kj19 (a0.extract (t197 : Int).toNat (t198 : Int).toNat) (wrap64 ((wrap64 (x8_13 + (rd l1 (ji16)))) + (rd l1 (ji33)))) t204 _ A36.out).mono ?_
             rintro e w55 ⟨rfl, hb⟩
             refine ⟨_, rfl, ?_⟩
             have n0_ := Aside0.mk (Kd.R_below (rl HO_6) hb); have n1_ := Aside0.mk (blk_below (g := gb200) (o := .cells #[.int .i64 t197, .int .i64 t198] 36 (0, 0)) (kl BK200) hb); have n2_ := Aside0.mk (below_step (by repeat (first | (with_reducible first | exact HB.out | apply below_alloc | apply pw_below_drewN | apply below_drew1 | refine below_set ?_ GE200.out) | exact HB.out)) hb); clear HO_6; clear BK200; clear HB; have HO_6 := n0_; have BK200 := n1_; have HB := n2_; clear n0_ n1_ n2_; (try clear hb); (try clear hb2); (try clear hk); (try clear hi); refine hK.out _ _ (((HB.out.cell (World.block_lt_of_cell? w _ hw203_0)).trans hw203_0)) (fun hHeld => ?_)
             clear hK K; refine norm_ (a' := ?_) ?_ ?_
             rotate_left
             ·show Act.put _ (some 104) _ = _
              simp only [Act.put, List.setIfInBounds_toArray, List.set_cons_zero, List.set_cons_succ, i64_w, i32_w]
              rfl
             refine pu 12 (some 14) (bz 14 8191) HT_ rfl rfl ?_; refine pu 13 (some 15) (bz 14 16383) HT_ rfl rfl ?_; refine done_ (done_of HT_.out (by kernel_rfl)) ?_
             try go_wp2
             have n0_ := Aside0.mk (Kd.R_drew HO_6.out); have n1_ := Aside0.mk (blk_drew BK200.out); have n2_ := Aside0.mk (below_drew1 HB.out); clear HO_6; clear BK200; clear HB; have HO_6 := n0_; have BK200 := n1_; have HB := n2_; clear n0_ n1_ n2_; have p207 : 0 ≤ ((ji33) : Int) := of_decide_eq_true (by first | (with_reducible assumption) | assumption)
             have q207 : (ji33) < (l1.length : Int) := of_decide_eq_true (by first | (with_reducible assumption) | assumption)
             obtain ⟨ad207, e207, hx207_0⟩ := Kd.at_int HR1.out (ji33) p207 q207
             have hw207_0 := hx207_0
             obtain rfl : ad194 = ad207 := (by injection e207)
             replace hx207_0 := (HB.out.cell (World.block_lt_of_cell? w _ hx207_0)).trans hx207_0; replace p207 := eq_true p207; replace q207 := eq_true q207; refine start_ (n := 20) (S := fun w' => w'.cell? (ad194.add ((ji33)).toNat) = some (.int .i64 (rd l1 (ji33)))) (ds := []) (bz 20 0) (by kernel_rfl) rfl rfl (((HB.out.cell (World.block_lt_of_cell? w _ hw207_0)).trans hw207_0)) (fun hHeld => ?_); refine with_tabW glossatorref23_Decode.tab21 glossatorref23_Decode.bits21 (fun HT_ HW_ => ?_)
             generalize w55.drew = w56 at HO_6 BK200 HB hx207_0 hHeld ⊢
             refine pu 0 (some 105) (bz 20 1) HT_ rfl rfl ?_; refine pu 1 (some 106) (bz 20 3) HT_ rfl rfl ?_; refine pu 2 (some 107) (bz 20 7) HT_ rfl rfl ?_; refine pu 4 (some 109) (bz 20 23) HT_ rfl rfl ?_; refine one_ (i := 3) (N := some 108) (bz 20 31) rfl rfl (one_of HT_.out (by kernel_rfl)) (by decide) (fun K hK => ?_)
             refine goes_ Tryd.func18 (by kernel_rfl) rfl #[.string ((a0.extract (t197 : Int).toNat (t198 : Int).toNat).extract 0 (t202 : Int).toNat)] (by rfl) rfl rfl (by (try simp only [List.map_toArray, List.map_cons, List.map_nil]); first | done | rfl | (simp only [List.length_drop, List.length_take]; rfl)) ?_
             with_reducible refine (glossatorref01_Units.calls kj19 ((a0.extract (t197 : Int).toNat (t198 : Int).toNat).extract 0 (t202 : Int).toNat) t205 _ A39.out).mono ?_
             rintro e w57 ⟨rfl, hb⟩
             refine ⟨_, rfl, ?_⟩
             have n0_ := Aside0.mk (Kd.R_below (rl HO_6) hb); have n1_ := Aside0.mk (blk_below (g := gb200) (o := .cells #[.int .i64 t197, .int .i64 t198] 36 (0, 0)) (kl BK200) hb); have n2_ := Aside0.mk (below_step (by repeat (first | (with_reducible first | exact HB.out | apply below_alloc | apply pw_below_drewN | apply below_drew1 | refine below_set ?_ GE200.out) | exact HB.out)) hb); clear HO_6; clear BK200; clear HB; have HO_6 := n0_; have BK200 := n1_; have HB := n2_; clear n0_ n1_ n2_; (try clear hb); (try clear hb2); (try clear hk); (try clear hi); refine hK.out _ _ (((HB.out.cell (World.block_lt_of_cell? w _ hw207_0)).trans hw207_0)) (fun hHeld => ?_)
             clear hK K; refine norm_ (a' := ?_) ?_ ?_
             rotate_left
             ·show Act.put _ (some 108) _ = _
              simp only [Act.put, List.setIfInBounds_toArray, List.set_cons_zero, List.set_cons_succ, i64_w, i32_w]
              rfl
             refine pu 5 (some 110) (bz 20 63) HT_ rfl rfl ?_; refine pu 6 (some 111) (bz 20 127) HT_ rfl rfl ?_; refine pu 7 (some 112) (bz 20 255) HT_ rfl rfl ?_; refine pu 8 (some 113) (bz 20 511) HT_ rfl rfl ?_; refine pu 9 (some 114) (bz 20 1023) HT_ rfl rfl ?_; refine pu 11 (some 116) (bz 20 3071) HT_ rfl rfl ?_; refine pu 12 (some 117) (bz 20 7167) HT_ rfl rfl ?_; refine pu 13 (some 118) (bz 20 15359) HT_ rfl rfl ?_; refine pu 14 (some 119) (bz 20 31743) HT_ rfl rfl ?_; refine pu 15 (some 120) (bz 20 64511) HT_ rfl rfl ?_; refine take_ (i := 16) (N := some 121) (v := ?_) (a' := ?_) (bz 20 130047) rfl rfl (take_ofW HT_.out HW_.out (by kernel_rfl)) (fun _ _ _ h => h) (Or.inl ⟨by rfl, ?_⟩) hHeld ?_ ?_
             rotate_left
             ·intro w' s0
              go_simp
              with_reducible rfl
             rotate_left
             ·simp only [Act.put, List.setIfInBounds_toArray, List.set_cons_zero, List.set_cons_succ, i64_w, i32_w]
              rfl
             refine pu 17 (some 122) (bz 20 261119) HT_ rfl rfl ?_; refine one_ (i := 10) (N := some 115) (bz 20 262143) rfl rfl (one_of HT_.out (by kernel_rfl)) (by decide) (fun K hK => ?_)
             refine goes_ Tryd.func18 (by kernel_rfl) rfl #[.string ((a0.extract (t197 : Int).toNat (t198 : Int).toNat).extract 0 (t204 : Int).toNat)] (by rfl) rfl rfl (by (try simp only [List.map_toArray, List.map_cons, List.map_nil]); first | done | rfl | (simp only [List.length_drop, List.length_take]; rfl)) ?_
             with_reducible refine (glossatorref01_Units.calls kj19 ((a0.extract (t197 : Int).toNat (t198 : Int).toNat).extract 0 (t204 : Int).toNat) t206 _ A43.out).mono ?_
             rintro e w58 ⟨rfl, hb⟩
             refine ⟨_, rfl, ?_⟩
             have n0_ := Aside0.mk (Kd.R_below (rl HO_6) hb); have n1_ := Aside0.mk (blk_below (g := gb200) (o := .cells #[.int .i64 t197, .int .i64 t198] 36 (0, 0)) (kl BK200) hb); have n2_ := Aside0.mk (below_step (by repeat (first | (with_reducible first | exact HB.out | apply below_alloc | apply pw_below_drewN | apply below_drew1 | refine below_set ?_ GE200.out) | exact HB.out)) hb); clear HO_6; clear BK200; clear HB; have HO_6 := n0_; have BK200 := n1_; have HB := n2_; clear n0_ n1_ n2_; (try clear hb); (try clear hb2); (try clear hk); (try clear hi); refine hK.out _ _ (((HB.out.cell (World.block_lt_of_cell? w _ hw207_0)).trans hw207_0)) (fun hHeld => ?_)
             clear hK K; refine norm_ (a' := ?_) ?_ ?_
             rotate_left
             ·show Act.put _ (some 115) _ = _
              simp only [Act.put, List.setIfInBounds_toArray, List.set_cons_zero, List.set_cons_succ, i64_w, i32_w]
              rfl
             refine pu 18 (some 123) (bz 20 524287) HT_ rfl rfl ?_; refine pu 19 (some 124) (bz 20 1048575) HT_ rfl rfl ?_; refine done_ (done_of HT_.out (by kernel_rfl)) ?_
             try go_wp2
             have n0_ := Aside0.mk (Kd.R_drew HO_6.out); have n1_ := Aside0.mk (blk_drew BK200.out); have n2_ := Aside0.mk (below_drew1 HB.out); clear HO_6; clear BK200; clear HB; have HO_6 := n0_; have BK200 := n1_; have HB := n2_; clear n0_ n1_ n2_; have p208 : 0 ≤ ((ji45) : Int) := of_decide_eq_true (by first | (with_reducible assumption) | assumption)
             have q208 : (ji45) < (l1.length : Int) := of_decide_eq_true (by first | (with_reducible assumption) | assumption)
             obtain ⟨ad208, e208, hx208_0⟩ := Kd.at_int HR1.out (ji45) p208 q208
             have hw208_0 := hx208_0
             obtain rfl : ad194 = ad208 := (by injection e208)
             replace hx208_0 := (HB.out.cell (World.block_lt_of_cell? w _ hx208_0)).trans hx208_0; replace p208 := eq_true p208; replace q208 := eq_true q208; have p209 : 0 ≤ ((ji48) : Int) := of_decide_eq_true (by first | (with_reducible assumption) | assumption)
             have q209 : (ji48) < (l1.length : Int) := of_decide_eq_true (by first | (with_reducible assumption) | assumption)
             obtain ⟨ad209, e209, hx209_0⟩ := Kd.at_int HR1.out (ji48) p209 q209
             have hw209_0 := hx209_0
             obtain rfl : ad194 = ad209 := (by injection e209)
             replace hx209_0 := (HB.out.cell (World.block_lt_of_cell? w _ hx209_0)).trans hx209_0; replace p209 := eq_true p209; replace q209 := eq_true q209; refine start_ (n := 24) (S := fun w' => w'.cell? ⟨gb200, 0, none⟩ = some (.int .i64 t197) ∧ w'.cell? ⟨gb200, 1, none⟩ = some (.int .i64 t198) ∧ w'.cell? (ad194.add ((ji45)).toNat) = some (.int .i64 (rd l1 (ji45))) ∧ w'.cell? (ad194.add ((ji48)).toNat) = some (.int .i64 (rd l1 (ji48)))) (ds := []) (bz 24 0) (by kernel_rfl) rfl rfl ⟨(blk_cell BK200.out 0).trans rfl, (blk_cell BK200.out 1).trans rfl, ((HB.out.cell (World.block_lt_of_cell? w _ hw208_0)).trans hw208_0), ((HB.out.cell (World.block_lt_of_cell? w _ hw209_0)).trans hw209_0)⟩ (fun hHeld => ?_); refine with_tabW glossatorref23_Decode.tab23 glossatorref23_Decode.bits23 (fun HT_ HW_ => ?_)
             generalize w58.drew = w59 at HO_6 BK200 HB hx208_0 hx209_0 hHeld ⊢
             refine pu 0 (some 125) (bz 24 1) HT_ rfl rfl ?_; refine pu 1 (some 126) (bz 24 3) HT_ rfl rfl ?_; refine pu 3 (some 128) (bz 24 11) HT_ rfl rfl ?_; refine pu 5 (some 130) (bz 24 43) HT_ rfl rfl ?_; refine pu 7 (some 132) (bz 24 171) HT_ rfl rfl ?_; refine pu 10 (some 135) (bz 24 1195) HT_ rfl rfl ?_; refine pu 11 (some 136) (bz 24 3243) HT_ rfl rfl ?_; refine pu 12 (some 137) (bz 24 7339) HT_ rfl rfl ?_; refine pu 13 (some 138) (bz 24 15531) HT_ rfl rfl ?_; refine pu 15 (some 140) (bz 24 48299) HT_ rfl rfl ?_; refine pu 16 (some 141) (bz 24 113835) HT_ rfl rfl ?_; refine pu 17 (some 142) (bz 24 244907) HT_ rfl rfl ?_; refine pu 18 (some 143) (bz 24 507051) HT_ rfl rfl ?_; refine tk 2 (some 127) (bz 24 507055) HT_ HW_ rfl rfl hHeld ?_; refine pu 4 (some 129) (bz 24 507071) HT_ rfl rfl ?_; refine tk 6 (some 131) (bz 24 507135) HT_ HW_ rfl rfl hHeld ?_; refine pu 8 (some 133) (bz 24 507391) HT_ rfl rfl ?_; refine pu 9 (some 134) (bz 24 507903) HT_ rfl rfl ?_; refine tk 14 (some 139) (bz 24 524287) HT_ HW_ rfl rfl hHeld ?_; refine tk 19 (some 144) (bz 24 1048575) HT_ HW_ rfl rfl hHeld ?_; refine pu 20 (some 145) (bz 24 2097151) HT_ rfl rfl ?_; refine one_ (i := 21) (N := some 146) (bz 24 4194303) rfl rfl (one_of HT_.out (by kernel_rfl)) (by decide) (fun K hK => ?_)
             refine value_ (w1 := ?_) (v := ?_) (by rfl) rfl ?_ ?_
             rotate_left 2
             ·go_simp
              constructor
              ·rfl
              ·rfl
             refine hK.out _ _ ⟨(blk_cell (blk_alloc BK200.out _) 0).trans rfl, (blk_cell (blk_alloc BK200.out _) 1).trans rfl, (World.cell?_alloc_lt _ _ _ (World.block_lt_of_cell? _ _ (((HB.out.cell (World.block_lt_of_cell? w _ hw208_0)).trans hw208_0)))).trans (((HB.out.cell (World.block_lt_of_cell? w _ hw208_0)).trans hw208_0)), (World.cell?_alloc_lt _ _ _ (World.block_lt_of_cell? _ _ (((HB.out.cell (World.block_lt_of_cell? w _ hw209_0)).trans hw209_0)))).trans (((HB.out.cell (World.block_lt_of_cell? w _ hw209_0)).trans hw209_0))⟩ (fun hHeld => ?_)
             clear hK K; refine norm_ (a' := ?_) ?_ ?_
             rotate_left
             ·show Act.put _ (some 146) _ = _
              simp only [Act.put, List.setIfInBounds_toArray, List.set_cons_zero, List.set_cons_succ, i64_w, i32_w]
              rfl
             refine one_ (i := 22) (N := some 147) (bz 24 8388607) rfl rfl (one_of HT_.out (by kernel_rfl)) (by decide) (fun K hK => ?_)
             refine Kd.R_append_step k38 (w0 := w) w.heap.size (by rfl) (.tmp 125) (.tmp 146) 22 38 (.agg #[(.int .i64 0), (.int .i64 0), (.int .i64 0), (.int .i64 0)]) 32 rfl Tryd.underlying22 info38 rfl (by decide) (by omega) u6 x6_1 (⟨(⟨wrap64 (t197 + t202), wrap64 (t197 + t204)⟩ : S36), rd l1 (ji45), rd l1 (ji48)⟩ : S38) [.int .i64 (wrap64 (t197 + t202)), .int .i64 (wrap64 (t197 + t204)), .int .i64 (rd l1 (ji45)), .int .i64 (rd l1 (ji48))] (fun _ => True) (fun _ => False) rfl rfl ?aP (fun _ hk => hk.elim) ?aF ?aO ?aB ?aS ?aL ?_
             (case aP => exact k38_mkM _ _ _ (⟨(⟨wrap64 (t197 + t202), wrap64 (t197 + t204)⟩ : S36), rd l1 (ji45), rd l1 (ji48)⟩ : S38))
             (case aB => exact (by repeat (first | (with_reducible first | exact HB.out | apply below_alloc | apply pw_below_drewN | apply below_drew1 | refine below_set ?_ GE200.out) | exact HB.out)))
             (case aF => exact (fun _ _ => trivial))
             (case aO => exact (rl HO_6))
             (case aS => exact (below_size (by repeat (first | (with_reducible first | exact HB.out | apply below_alloc | apply pw_below_drewN | apply below_drew1 | refine below_set ?_ GE200.out) | exact HB.out))))
             (case aL => have := LMc51.out; omega)
             intro v211 w60 ho hb hg hat
             rw [← Ny210.out] at ho
             have n0_ := Aside0.mk (blk_grown (g := gb200) (o := .cells #[.int .i64 t197, .int .i64 t198] 36 (0, 0)) (kl BK200) hg (Kd.R_ne HO_6.out BK200.out (by decide))); have n1_ := Aside0.mk (hb); have n2_ := Aside0.mk (ho); clear BK200; clear HB; clear HO_6; have BK200 := n0_; have HB := n1_; have HO212 := n2_; clear n0_ n1_ n2_; clear ho hb hg hat; refine hK.out _ _ ⟨(blk_cell BK200.out 0).trans rfl, (blk_cell BK200.out 1).trans rfl, ((HB.out.cell (World.block_lt_of_cell? w _ hw208_0)).trans hw208_0), ((HB.out.cell (World.block_lt_of_cell? w _ hw209_0)).trans hw209_0)⟩ (fun hHeld => ?_)
             clear hK K; refine norm_ (a' := ?_) ?_ ?_
             rotate_left
             ·show Act.put _ (some 147) _ = _
              simp only [Act.put, List.setIfInBounds_toArray, List.set_cons_zero, List.set_cons_succ, i64_w, i32_w]
              rfl
             refine pu 23 (some 6) (bz 24 16777215) HT_ rfl rfl ?_; refine done_ (done_of HT_.out (by kernel_rfl)) ?_
             try go_wp2
             go_roundg kj19
             case measure => have := HK1.out; have := HK2.out; have := HJ13.out; have := HJ19.out; omega
             case rel => exact ⟨(y210), (x7_13), ((wrap64 (x8_13 + (rd l1 (ji16))))), (wrap64 (x9_1 + 5)), (by first | rfl | (simp; done) | (simp [*]; done) | (simp; exact xEmpty_ne _) | (simp [*]; exact xEmpty_ne _)), (by first | rfl | (simp; done) | (simp only [← hji16] <;> (first | rfl | simp)) | (simp [*]; done)), (by first | rfl | (simp; done) | (simp [*]; done) | (simp; exact xEmpty_ne _) | (simp [*]; exact xEmpty_ne _)), H', ⟨by have := HK1.out; have := HK2.out; have := HJ13.out; have := HJ19.out; omega⟩, ⟨rl HO212⟩, ⟨by repeat (first | (with_reducible first | exact HB.out | apply below_alloc | apply pw_below_drewN | apply below_drew1 | refine below_set ?_ GE200.out) | exact HB.out)⟩⟩
       ·rw [if_neg c13] at H; exact absurd H (by simp)
      ·rw [if_neg c12] at H; exact absurd H (by simp)
     rw [if_pos c5] at H; have c5b0 : decide (x10_2 < 5) = true := decide_eq_true c5; clear c5; obtain ⟨ji6, hji6⟩ : ∃ j_ : Int, (wrap64 (x9_1 + x10_2)) = j_ := ⟨_, rfl⟩
     replace H : (if 0 ≤ (ji6) then (if (ji6) < (l1.length : Int) then (if (rd l1 (ji6)) < 0 then (some (([] : List (S38)), 230)) else (if x10_2 < 3 then (if (rd l1 (ji6)) > (wrap64 ((a0.size : Int) + 1)) then (some (([] : List (S38)), 230)) else (glossatorref23_Decode.l1 k2 a0 l1 x6_1 x7_1 x8_1 x9_1 (wrap64 (x10_2 + 1)))) else (glossatorref23_Decode.l1 k2 a0 l1 x6_1 x7_1 x8_1 x9_1 (wrap64 (x10_2 + 1))))) else (none)) else (none)) = some (r1, r2) := by first | (rw [hji6] at H; exact H) | (simp only [hji6] at H ⊢; exact H)
     have hji6w : (IntKind.i64.wrap (x9_1 + x10_2)) = ji6 := (i64_w _).trans hji6
     by_cases c7 : 0 ≤ (ji6)
     rotate_left
     ·rw [if_neg c7] at H; exact absurd H (by simp)
     rw [if_pos c7] at H; have c7b0 : decide (0 ≤ (ji6)) = true := decide_eq_true c7; clear c7; by_cases c8 : (ji6) < (l1.length : Int)
     rotate_left
     ·rw [if_neg c8] at H; exact absurd H (by simp)
     rw [if_pos c8] at H; have c8b0 : decide ((ji6) < (l1.length : Int)) = true := decide_eq_true c8; clear c8; by_cases c9 : (rd l1 (ji6)) < 0
     ·rw [if_pos c9] at H; have c9b0 : decide ((rd l1 (ji6)) < 0) = true := decide_eq_true c9; clear c9; simp only [Option.some.injEq, Prod.mk.injEq] at H
      obtain ⟨rfl, rfl⟩ := H
      have p192 : 0 ≤ ((ji6) : Int) := of_decide_eq_true (by first | (with_reducible assumption) | assumption)
      have q192 : (ji6) < (l1.length : Int) := of_decide_eq_true (by first | (with_reducible assumption) | assumption)
      obtain ⟨ad192, e192, hx192_0⟩ := Kd.at_int HR1.out (ji6) p192 q192
      cases e192; replace hx192_0 := (HB.out.cell (World.block_lt_of_cell? w _ hx192_0)).trans hx192_0; replace p192 := eq_true p192; replace q192 := eq_true q192; go_wp2
      go_ret2
      exact ⟨_, by first | rfl | (simp [errW_none, errW_some] <;> rfl) | (simp only [← hji6]; first | rfl | (simp [errW_none, errW_some] <;> rfl)) | (simp [*, errW_none, errW_some] <;> rfl), by first | exact Kd.R_nil _ _ _ _ _ | exact Kd.N_nil _ _ _ _ _ | exact Kd.V_nil _ _ _ _ _ | exact Kd.Q_nil _ _ _ _ _ | exact Kd.S_nil _ _ _ _ _, bl HB⟩
     ·rw [if_neg c9] at H; have c9b0 : decide ((rd l1 (ji6)) < 0) = false := decide_eq_false c9; clear c9; by_cases c10 : x10_2 < 3
      ·rw [if_pos c10] at H; have c10b0 : decide (x10_2 < 3) = true := decide_eq_true c10; clear c10; by_cases c11 : (rd l1 (ji6)) > (wrap64 ((a0.size : Int) + 1))
       ·rw [if_pos c11] at H; have c11b0 : decide ((wrap64 ((a0.size : Int) + 1)) < (rd l1 (ji6))) = true := decide_eq_true c11; clear c11; simp only [Option.some.injEq, Prod.mk.injEq] at H
        obtain ⟨rfl, rfl⟩ := H
        have p192 : 0 ≤ ((ji6) : Int) := of_decide_eq_true (by first | (with_reducible assumption) | assumption)
        have q192 : (ji6) < (l1.length : Int) := of_decide_eq_true (by first | (with_reducible assumption) | assumption)
        obtain ⟨ad192, e192, hx192_0⟩ := Kd.at_int HR1.out (ji6) p192 q192
        cases e192; replace hx192_0 := (HB.out.cell (World.block_lt_of_cell? w _ hx192_0)).trans hx192_0; replace p192 := eq_true p192; replace q192 := eq_true q192; have p193 : 0 ≤ ((ji6) : Int) := of_decide_eq_true (by first | (with_reducible assumption) | assumption)
        have q193 : (ji6) < (l1.length : Int) := of_decide_eq_true (by first | (with_reducible assumption) | assumption)
        obtain ⟨ad193, e193, hx193_0⟩ := Kd.at_int HR1.out (ji6) p193 q193
        obtain rfl : ad192 = ad193 := (by injection e193)
        replace hx193_0 := (HB.out.cell (World.block_lt_of_cell? w _ hx193_0)).trans hx193_0; replace p193 := eq_true p193; replace q193 := eq_true q193; go_wp2
        go_ret2
        exact ⟨_, by first | rfl | (simp [errW_none, errW_some] <;> rfl) | (simp only [← hji6]; first | rfl | (simp [errW_none, errW_some] <;> rfl)) | (simp [*, errW_none, errW_some] <;> rfl), by first | exact Kd.R_nil _ _ _ _ _ | exact Kd.N_nil _ _ _ _ _ | exact Kd.V_nil _ _ _ _ _ | exact Kd.Q_nil _ _ _ _ _ | exact Kd.S_nil _ _ _ _ _, bl HB⟩
       ·rw [if_neg c11] at H; have c11b0 : decide ((wrap64 ((a0.size : Int) + 1)) < (rd l1 (ji6))) = false := decide_eq_false c11; clear c11; have H' := Aside0.mk H; clear H; have p192 : 0 ≤ ((ji6) : Int) := of_decide_eq_true (by first | (with_reducible assumption) | assumption)
        have q192 : (ji6) < (l1.length : Int) := of_decide_eq_true (by first | (with_reducible assumption) | assumption)
        obtain ⟨ad192, e192, hx192_0⟩ := Kd.at_int HR1.out (ji6) p192 q192
        cases e192; replace hx192_0 := (HB.out.cell (World.block_lt_of_cell? w _ hx192_0)).trans hx192_0; replace p192 := eq_true p192; replace q192 := eq_true q192; have p193 : 0 ≤ ((ji6) : Int) := of_decide_eq_true (by first | (with_reducible assumption) | assumption)
        have q193 : (ji6) < (l1.length : Int) := of_decide_eq_true (by first | (with_reducible assumption) | assumption)
        obtain ⟨ad193, e193, hx193_0⟩ := Kd.at_int HR1.out (ji6) p193 q193
        obtain rfl : ad192 = ad193 := (by injection e193)
        replace hx193_0 := (HB.out.cell (World.block_lt_of_cell? w _ hx193_0)).trans hx193_0; replace p193 := eq_true p193; replace q193 := eq_true q193; go_wp2
        go_roundg k2
        case measure => have := HK1.out; have := HK2.out; omega
        case rel => exact ⟨(wrap64 (x10_2 + 1)), (by first | rfl | (simp; done) | (simp [*]; done) | (simp; exact xEmpty_ne _) | (simp [*]; exact xEmpty_ne _)), H', ⟨by have := HK1.out; have := HK2.out; omega⟩, ⟨rl HO_6⟩, ⟨bl HB⟩⟩
      ·rw [if_neg c10] at H; have c10b0 : decide (x10_2 < 3) = false := decide_eq_false c10; clear c10; have H' := Aside0.mk H; clear H; have p192 : 0 ≤ ((ji6) : Int) := of_decide_eq_true (by first | (with_reducible assumption) | assumption)
       have q192 : (ji6) < (l1.length : Int) := of_decide_eq_true (by first | (with_reducible assumption) | assumption)
       obtain ⟨ad192, e192, hx192_0⟩ := Kd.at_int HR1.out (ji6) p192 q192
       cases e192; replace hx192_0 := (HB.out.cell (World.block_lt_of_cell? w _ hx192_0)).trans hx192_0; replace p192 := eq_true p192; replace q192 := eq_true q192; go_wp2
       go_roundg k2
       case measure => have := HK1.out; have := HK2.out; omega
       case rel => exact ⟨(wrap64 (x10_2 + 1)), (by first | rfl | (simp; done) | (simp [*]; done) | (simp; exact xEmpty_ne _) | (simp [*]; exact xEmpty_ne _)), H', ⟨by have := HK1.out; have := HK2.out; omega⟩, ⟨rl HO_6⟩, ⟨bl HB⟩⟩
end Go.Proofs.YtbjhmknahldhaaaDoor.Q

end
section
namespace Go.Proofs.YtbjhmknahldhaaaDoor.Q
open Go.RowKit Go.Proofs.YtbjhmknahldhaaaDoorW.PrintWords Go.Proofs.YtbjhmknahldhaaaDoorW.PrintLast Go.Proofs.YtbjhmknahldhaaaDoorW.PrintMore
attribute [local go_sem] max2_int min2_int max_two min_two max_three min_three max_four min_four   
set_option linter.unusedVariables false
set_option linter.unusedSimpArgs false
def glossatorlaw23_FiveDecodes.j0 : Nat → ByteArray → List Int → Bool → Option (Bool)
 | 0, _, _, _ => none
 | k + 1, x0, x1, x17 => if x17 = true then (some true) else ((some (([] : List Int) : List Int)).bind fun y213 => (if y213.length + x1.length < 17592186044416 then ((some (y213 ++ x1 : List Int)).bind fun y216 => ((five_Decode.f k x0 y216).bind fun bt219 => ((glossatorref23_Decode.f k x0 x1).bind fun bt223 => ((glossatorref22_Same.f k bt219.1 bt223.1).bind fun t227 => (if t227 = true then (if bt219.2 = bt223.2 then ((glossatorref23_Same.f k y216 x1).bind fun t228 => (some t228)) else (some false)) else (some false)))))) else (none)))
def glossatorlaw23_FiveDecodes.f (k : Nat) (a0 : ByteArray) (l1 : List Int) : Option (Bool) := if (a0.size : Int) > 3000 then (glossatorlaw23_FiveDecodes.j0 k a0 l1 true) else (glossatorlaw23_FiveDecodes.j0 k a0 l1 (decide ((l1.length : Int) > 3000)))
theorem glossatorlaw23_FiveDecodes.mono_l : ∀ k, (∀ y0 y1 y2, LeO (glossatorlaw23_FiveDecodes.j0 k y0 y1 y2) (glossatorlaw23_FiveDecodes.j0 (k + 1) y0 y1 y2))
 | 0 => fun _ _ _ r h => by simp [glossatorlaw23_FiveDecodes.j0] at h
 | k + 1 => by
  have ih0 := glossatorlaw23_FiveDecodes.mono_l k
  ·intro y0 y1 y2
   unfold glossatorlaw23_FiveDecodes.j0
   repeat' first
   | (with_reducible exact ih0 _ _ _)
   | (with_reducible exact five_Decode.mono _ _ _)
   | (with_reducible exact glossatorref22_Same.mono _ _ _)
   | (with_reducible exact glossatorref23_Decode.mono _ _ _)
   | (with_reducible exact glossatorref23_Same.mono _ _ _)
   | (with_reducible exact LeO.refl _)
   | (with_reducible exact LeO.none _)
   | (with_reducible refine LeO.ite ?_ ?_)
   | (with_reducible refine LeO.bind ?_ (fun _ => ?_))
   | exact ih0 _ _ _
   | exact five_Decode.mono _ _ _
   | exact glossatorref22_Same.mono _ _ _
   | exact glossatorref23_Decode.mono _ _ _
   | exact glossatorref23_Same.mono _ _ _
   | exact LeO.none _
   | refine LeO.ite ?_ ?_
   | refine LeO.bind ?_ (fun _ => ?_)
theorem glossatorlaw23_FiveDecodes.mono : ∀ a0 a1 k, LeO (glossatorlaw23_FiveDecodes.f k a0 a1) (glossatorlaw23_FiveDecodes.f (k + 1) a0 a1) := by
 intro a0 a1 k
 have ih0 := glossatorlaw23_FiveDecodes.mono_l k
 unfold glossatorlaw23_FiveDecodes.f
 repeat' first
   | (with_reducible exact ih0 _ _ _)
   | (with_reducible exact five_Decode.mono _ _ _)
   | (with_reducible exact glossatorref22_Same.mono _ _ _)
   | (with_reducible exact glossatorref23_Decode.mono _ _ _)
   | (with_reducible exact glossatorref23_Same.mono _ _ _)
   | (with_reducible exact LeO.refl _)
   | (with_reducible exact LeO.none _)
   | (with_reducible refine LeO.ite ?_ ?_)
   | (with_reducible refine LeO.bind ?_ (fun _ => ?_))
   | exact ih0 _ _ _
   | exact five_Decode.mono _ _ _
   | exact glossatorref22_Same.mono _ _ _
   | exact glossatorref23_Decode.mono _ _ _
   | exact glossatorref23_Same.mono _ _ _
   | exact LeO.none _
   | refine LeO.ite ?_ ?_
   | refine LeO.bind ?_ (fun _ => ?_)
set_option maxHeartbeats 8000000 in
set_option maxRecDepth 100000 in
theorem glossatorlaw23_FiveDecodes.calls (k : Nat) (a0 : ByteArray) (A1 : Option Addr) (c1 : Nat) (l1 : List Int) (r : Bool) (w : World) (hr1 : Kd.C (Kd.int .i64) w A1 l1.length l1) (hc1 : l1.length ≤ c1) (hG : GlobOk w) (h : glossatorlaw23_FiveDecodes.f k a0 l1 = some r) :
  Calls Tryd.prog 4 #[.string a0, .slice A1 l1.length c1] w fun e w' => e = .returned (.bool r) ∧ Below w.heap.size w w' := by
 have HG := Aside0.mk hG; clear hG; have HR1 := Aside0.mk hr1; have HC1 := Aside0.mk hc1; clear hr1 hc1; have HB := Aside0.mk (Below.refl w.heap.size w)
 have H : (if (a0.size : Int) > 3000 then (glossatorlaw23_FiveDecodes.j0 k a0 l1 true) else (glossatorlaw23_FiveDecodes.j0 k a0 l1 (decide ((l1.length : Int) > 3000)))) = some r := h
 clear h; have HC3 := Aside0.mk H; clear H; go_enter Tryd.func4, Tryd.ntmps4
 go_upto_region 1 with (fail)
 go_cut [17] (fun v17 wc => ∃ (kq : Nat) (x17_2 : Bool), v17 = .bool x17_2 ∧ Aside0 (glossatorlaw23_FiveDecodes.j0 kq a0 l1 x17_2 = some r) ∧ Aside0 (kq ≤ k) ∧ Aside0 (Below w.heap.size w wc))
 case first =>
  have H := HC3.out
  clear HC3; by_cases c4 : (a0.size : Int) > 3000
  ·rw [if_pos c4] at H; have c4b0 : decide (3000 < (a0.size : Int)) = true := decide_eq_true c4; have c4b1 : decide (3000 < a0.size) = true := decide_eq_true (by omega)
   have c4b2 : (3000 < a0.size) = True := eq_true (by omega)
   clear c4; (first | rw [c4b0] | rw [c4b1] | (simp only [i64_w, i32_w]; rw [c4b0]) | skip)
   have H' := Aside0.mk H; clear H; go_wp2
   go_meet
   case rel => exact ⟨_, (true), (by first | rfl | (simp; done) | (simp [*]; done) | (simp; exact xEmpty_ne _) | (simp [*]; exact xEmpty_ne _)), H', ⟨by first | omega | exact Nat.le_refl _⟩, ⟨bl HB⟩⟩
  ·rw [if_neg c4] at H; have c4b0 : decide (3000 < (a0.size : Int)) = false := decide_eq_false c4; have c4b1 : decide (3000 < a0.size) = false := decide_eq_false (by omega)
   have c4b2 : (3000 < a0.size) = False := eq_false (by omega)
   clear c4; (first | rw [c4b0] | rw [c4b1] | (simp only [i64_w, i32_w]; rw [c4b0]) | skip)
   have H' := Aside0.mk H; clear H; go_wp2
   go_meet
   case rel => exact ⟨_, (decide ((l1.length : Int) > 3000)), (by first | rfl | (simp; done) | (simp [*]; done) | (simp; exact xEmpty_ne _) | (simp [*]; exact xEmpty_ne _)), H', ⟨by first | omega | exact Nat.le_refl _⟩, ⟨bl HB⟩⟩
 case rest =>
  clear HC3; (try clear c1); (try clear p2); (try clear c4); (try clear c4b0); (try clear c4b1); (try clear c4b2); obtain ⟨kq, x17_2, rfl, HA, HJ2, HB⟩ := hcut
  cases kq with
  | zero => exact absurd HA.out (by simp [glossatorlaw23_FiveDecodes.j0])
  | succ kj2 =>
   have H := HA.out
   clear HA; simp only [glossatorlaw23_FiveDecodes.j0] at H
   by_cases c5 : x17_2 = true
   ·subst c5; have H1 : (some true) = some r := by rw [if_pos rfl] at H; exact H
    clear H; have H := H1
    clear H1; obtain rfl := Option.some.inj H; go_wp2
    go_ret
    exact ⟨by first | rfl | (simp [errW_none, errW_some] <;> rfl) | (simp [*, errW_none, errW_some] <;> rfl), bl HB⟩
   ·replace c5 := Bool.eq_false_iff.mpr c5
    subst c5; have H1 : ((some (([] : List Int) : List Int)).bind fun y213 => (if y213.length + l1.length < 17592186044416 then ((some (y213 ++ l1 : List Int)).bind fun y216 => ((five_Decode.f kj2 a0 y216).bind fun bt219 => ((glossatorref23_Decode.f kj2 a0 l1).bind fun bt223 => ((glossatorref22_Same.f kj2 bt219.1 bt223.1).bind fun t227 => (if t227 = true then (if bt219.2 = bt223.2 then ((glossatorref23_Same.f kj2 y216 l1).bind fun t228 => (some t228)) else (some false)) else (some false)))))) else (none))) = some r := by rw [if_neg (show ¬ (false = true) by decide)] at H; exact H
    clear H; have H := H1
    clear H1; obtain ⟨y213, hy213⟩ : ∃ y_ : List Int, y_ = (([] : List Int)) := ⟨_, rfl⟩
    replace H : (if y213.length + l1.length < 17592186044416 then ((some (y213 ++ l1 : List Int)).bind fun y216 => ((five_Decode.f kj2 a0 y216).bind fun bt219 => ((glossatorref23_Decode.f kj2 a0 l1).bind fun bt223 => ((glossatorref22_Same.f kj2 bt219.1 bt223.1).bind fun t227 => (if t227 = true then (if bt219.2 = bt223.2 then ((glossatorref23_Same.f kj2 y216 l1).bind fun t228 => (some t228)) else (some false)) else (some false)))))) else (none)) = some r := by first | (rw [hy213]; with_reducible exact H) | (have H2_ := (Option.bind_some _ _).symm.trans H; rw [hy213]; with_reducible exact H2_) | (have H2_ := (Option.bind_some _ _).symm.trans H; with_reducible exact H2_) | with_reducible exact H | (rw [hy213]; exact H) | exact H
    have Ny213 := Aside0.mk hy213; clear hy213; by_cases c6 : y213.length + l1.length < 17592186044416
    rotate_left
    ·rw [if_neg c6] at H; exact absurd H (by simp)
    rw [if_pos c6] at H; have LMc6 := Aside0.mk c6; clear c6; obtain ⟨y216, hy216⟩ : ∃ y_ : List Int, y_ = (y213 ++ l1) := ⟨_, rfl⟩
    replace H : ((five_Decode.f kj2 a0 y216).bind fun bt219 => ((glossatorref23_Decode.f kj2 a0 l1).bind fun bt223 => ((glossatorref22_Same.f kj2 bt219.1 bt223.1).bind fun t227 => (if t227 = true then (if bt219.2 = bt223.2 then ((glossatorref23_Same.f kj2 y216 l1).bind fun t228 => (some t228)) else (some false)) else (some false))))) = some r := by first | (rw [hy216]; with_reducible exact H) | (have H2_ := (Option.bind_some _ _).symm.trans H; rw [hy216]; with_reducible exact H2_) | (have H2_ := (Option.bind_some _ _).symm.trans H; with_reducible exact H2_) | with_reducible exact H | (rw [hy216]; exact H) | exact H
    have Ny216 := Aside0.mk hy216; clear hy216; replace H := Option.bind_eq_some_iff.mp H
    obtain ⟨⟨t219, t220⟩, A70, H⟩ := H
    replace H : ((glossatorref23_Decode.f kj2 a0 l1).bind fun bt223 => ((glossatorref22_Same.f kj2 t219 bt223.1).bind fun t227 => (if t227 = true then (if t220 = bt223.2 then ((glossatorref23_Same.f kj2 y216 l1).bind fun t228 => (some t228)) else (some false)) else (some false)))) = some r := H
    have A7 := Aside0.mk A70; clear A70; replace H := Option.bind_eq_some_iff.mp H
    obtain ⟨⟨t223, t224⟩, A80, H⟩ := H
    replace H : ((glossatorref22_Same.f kj2 t219 t223).bind fun t227 => (if t227 = true then (if t220 = t224 then ((glossatorref23_Same.f kj2 y216 l1).bind fun t228 => (some t228)) else (some false)) else (some false))) = some r := H
    have A8 := Aside0.mk A80; clear A80; replace H := Option.bind_eq_some_iff.mp H
    obtain ⟨t227, A90, H⟩ := H
    replace H : (if t227 = true then (if t220 = t224 then ((glossatorref23_Same.f kj2 y216 l1).bind fun t228 => (some t228)) else (some false)) else (some false)) = some r := H
    have A9 := Aside0.mk A90; clear A90; by_cases c10 : t227 = true
    rotate_left
    ·replace c10 := Bool.eq_false_iff.mpr c10
     subst c10; have H1 : (some false) = some r := by rw [if_neg (show ¬ (false = true) by decide)] at H; exact H
     clear H; have H := H1
     clear H1; obtain rfl := Option.some.inj H; go_wp2_with (first | ((with_reducible refine gate_dst (N := 18) rfl ?_); (try (refine gate_guard (by rfl) ?_; dsimp only)); refine Kd.R_lit (Kd.int .i64) _ 3 ?hg (N := 18) ?hd (xs := ([] : List Int)) (inner := []) (ok := fun _ => True) (okp := fun _ => True) ?hr ?hp (fun _ hk => hk) trivial (Below.refl _ _) (Nat.le_refl _) (by simp) ?_; (case hd => rfl); (case hg => rfl); (case hr => first | (go_simp; done) | (go_simp; rfl)); (case hp => exact (Reps.none _ _)); intro v214 w29 ho30 hb hg_ hnew_; clear hg_ hnew_; (first | rw [← Ny213.out] at ho30 | (simp only [Int.reduceToNat] at ho30; rw [← Ny213.out] at ho30)); have n0_ := Aside0.mk (Kd.R_lower ho30 (below_size (bl HB))); have n1_ := Aside0.mk (below_step (bl HB) hb); clear HB; have HO215 := n0_; have HB := n1_; clear n0_ n1_; clear hb ho30) | ((with_reducible refine gate_builtin (b := .append) (xs := #[.tmp 18, .tmp 19]) rfl ?_); (try (refine gate_guard (by rfl) ?_; dsimp only)); at_builtin; refine Kd.R_append_rows (Kd.int .i64) (w0 := w) w.heap.size rfl (.tmp 18) (.tmp 19) 23 3 (.int .i64 0) 8 rfl Tryd.underlying23 info3 rfl (by decide) (by omega) v214 y213 l1 _ _ _ (fun _ => True) (fun _ => False) rfl rfl ?aO ?aR (fun _ _ h => h) (fun _ h => h.elim) ?aF ?aB ?aS ?aL ?_; (case aR => repeat (first | exact (Kd.C_below HR1.out HB.out) | (with_reducible refine Kd.C_alloc ?_ _) | (with_reducible refine Kd.C_drewN ?_ _) | (with_reducible refine Kd.C_drew ?_))); (case aB => exact (bl HB)); (case aF => exact (fun _ _ => trivial)); (case aO => exact (rl HO215)); (case aS => exact (below_size (bl HB))); (case aL => have := LMc6.out; omega); intro v217 w31 ho hb hg hat; rw [← Ny216.out] at ho; have n0_ := Aside0.mk (hb); have n1_ := Aside0.mk (ho); clear HB; clear HO215; have HB := n0_; have HO218 := n1_; clear n0_ n1_; clear ho hb hg hat; obtain ⟨Ao32, co32, eo32⟩ := Kd.R_slice HO218.out; subst eo32) | ((with_reducible refine gate_callee (f := 14) rfl ?_); refine goesL_ (some 24) rfl rfl Tryd.func14 (by kernel_rfl) rfl #[.string a0, .slice Ao32 y216.length co32] rfl (by (try simp only [List.map_toArray, List.map_cons, List.map_nil]); first | done | rfl | (simp only [List.length_drop, List.length_take]; rfl)) ?_; (with_reducible refine (five_Decode.calls kj2 a0 _ _ y216 t219 t220 _ ?side1 ?side2 (by first | exact HG.out | exact GlobOk.below HG.out (bl HB)) A7.out).mono ?_); (case side1 => repeat (first | exact (Kd.R_reads' HO218.out).2.2 | (with_reducible refine Kd.C_alloc ?_ _) | (with_reducible refine Kd.C_drewN ?_ _) | (with_reducible refine Kd.C_drew ?_))); (case side2 => exact (Kd.R_reads' HO218.out).2.1); rintro e w33 ⟨v221, rfl, ho0, hb⟩; refine ⟨_, rfl, ?_⟩; have n0_ := Aside0.mk (Kd.R_below (rl HO218) hb); have n1_ := Aside0.mk (Kd.R_lower ho0 (below_size (bl HB))); have n2_ := Aside0.mk (below_step (bl HB) hb); clear HO218; clear HB; have HO218 := n0_; have HO222 := n1_; have HB := n2_; clear n0_ n1_ n2_; (try clear hb); (try clear hb2); (try clear hk); (try clear hi); (try clear ho0)) | ((with_reducible refine gate_callee (f := 15) rfl ?_); refine goesL_ (some 30) rfl rfl Tryd.func15 (by kernel_rfl) rfl #[.string a0, .slice A1 l1.length c1] rfl (by (try simp only [List.map_toArray, List.map_cons, List.map_nil]); first | done | rfl | (simp only [List.length_drop, List.length_take]; rfl)) ?_; (with_reducible refine (glossatorref23_Decode.calls kj2 a0 _ _ l1 t223 t224 _ ?side1 ?side2 A8.out).mono ?_); (case side1 => repeat (first | exact (Kd.C_below HR1.out HB.out) | (with_reducible refine Kd.C_alloc ?_ _) | (with_reducible refine Kd.C_drewN ?_ _) | (with_reducible refine Kd.C_drew ?_))); (case side2 => exact HC1.out); rintro e w34 ⟨v225, rfl, ho0, hb⟩; refine ⟨_, rfl, ?_⟩; have n0_ := Aside0.mk (Kd.R_below (rl HO218) hb); have n1_ := Aside0.mk (Kd.R_elder' (rl HO222) (Kd.R_base ho0) hb); have n2_ := Aside0.mk (Kd.R_lower (Kd.R_new' ho0 (Kd.R_lt (rl HO222))) (below_size (bl HB))); have n3_ := Aside0.mk (below_step (bl HB) hb); clear HO218; clear HO222; clear HB; have HO218 := n0_; have HO222 := n1_; have HO226 := n2_; have HB := n3_; clear n0_ n1_ n2_ n3_; (try clear hb); (try clear hb2); (try clear hk); (try clear hi); (try clear ho0); obtain ⟨Ao35, co35, eo35⟩ := Kd.R_slice HO222.out; subst eo35; obtain ⟨Ao36, co36, eo36⟩ := Kd.R_slice HO226.out; subst eo36) | ((with_reducible refine gate_callee (f := 13) rfl ?_); refine goesL_ (some 35) rfl rfl Tryd.func13 (by kernel_rfl) rfl #[.slice Ao35 t219.length co35, .slice Ao36 t223.length co36] rfl (by (try simp only [List.map_toArray, List.map_cons, List.map_nil]); first | done | rfl | (simp only [List.length_drop, List.length_take]; rfl)) ?_; (with_reducible refine (glossatorref22_Same.calls kj2 _ _ t219 _ _ t223 false _ ?side1 ?side2 ?side3 ?side4 A9.out).mono ?_); (case side1 => repeat (first | exact (Kd.R_reads' HO222.out).2.2 | (with_reducible refine Kd.C_alloc ?_ _) | (with_reducible refine Kd.C_drewN ?_ _) | (with_reducible refine Kd.C_drew ?_))); (case side2 => exact (Kd.R_reads' HO222.out).2.1); (case side3 => repeat (first | exact (Kd.R_reads' HO226.out).2.2 | (with_reducible refine Kd.C_alloc ?_ _) | (with_reducible refine Kd.C_drewN ?_ _) | (with_reducible refine Kd.C_drew ?_))); (case side4 => exact (Kd.R_reads' HO226.out).2.1); rintro e w' ⟨rfl, ⟨nd, rfl⟩⟩; refine ⟨_, rfl, ?_⟩))
     go_ret
     exact ⟨by first | rfl | (simp [errW_none, errW_some] <;> rfl) | (simp [*, errW_none, errW_some] <;> rfl), bl HB⟩
    subst c10; have H1 : (if t220 = t224 then ((glossatorref23_Same.f kj2 y216 l1).bind fun t228 => (some t228)) else (some false)) = some r := by rw [if_pos rfl] at H; exact H
    clear H; have H := H1
    clear H1; by_cases c11 : t220 = t224
    ·rw [if_pos c11] at H; have c11b0 : (t220 == t224) = true := beq_iff_eq.mpr c11
     have c11b1 : (t220 != t224) = false := bne_eq_false_iff_eq.mpr c11
     clear c11; replace H := Option.bind_eq_some_iff.mp H
     obtain ⟨t228, A120, H⟩ := H
     replace H : (some t228) = some r := H
     have A12 := Aside0.mk A120; clear A120; obtain rfl := Option.some.inj H; go_wp2_with (first | ((with_reducible refine gate_dst (N := 18) rfl ?_); (try (refine gate_guard (by rfl) ?_; dsimp only)); refine Kd.R_lit (Kd.int .i64) _ 3 ?hg (N := 18) ?hd (xs := ([] : List Int)) (inner := []) (ok := fun _ => True) (okp := fun _ => True) ?hr ?hp (fun _ hk => hk) trivial (Below.refl _ _) (Nat.le_refl _) (by simp) ?_; (case hd => rfl); (case hg => rfl); (case hr => first | (go_simp; done) | (go_simp; rfl)); (case hp => exact (Reps.none _ _)); intro v214 w13 ho14 hb hg_ hnew_; clear hg_ hnew_; (first | rw [← Ny213.out] at ho14 | (simp only [Int.reduceToNat] at ho14; rw [← Ny213.out] at ho14)); have n0_ := Aside0.mk (Kd.R_lower ho14 (below_size (bl HB))); have n1_ := Aside0.mk (below_step (bl HB) hb); clear HB; have HO215 := n0_; have HB := n1_; clear n0_ n1_; clear hb ho14) | ((with_reducible refine gate_builtin (b := .append) (xs := #[.tmp 18, .tmp 19]) rfl ?_); (try (refine gate_guard (by rfl) ?_; dsimp only)); at_builtin; refine Kd.R_append_rows (Kd.int .i64) (w0 := w) w.heap.size rfl (.tmp 18) (.tmp 19) 23 3 (.int .i64 0) 8 rfl Tryd.underlying23 info3 rfl (by decide) (by omega) v214 y213 l1 _ _ _ (fun _ => True) (fun _ => False) rfl rfl ?aO ?aR (fun _ _ h => h) (fun _ h => h.elim) ?aF ?aB ?aS ?aL ?_; (case aR => repeat (first | exact (Kd.C_below HR1.out HB.out) | (with_reducible refine Kd.C_alloc ?_ _) | (with_reducible refine Kd.C_drewN ?_ _) | (with_reducible refine Kd.C_drew ?_))); (case aB => exact (bl HB)); (case aF => exact (fun _ _ => trivial)); (case aO => exact (rl HO215)); (case aS => exact (below_size (bl HB))); (case aL => have := LMc6.out; omega); intro v217 w15 ho hb hg hat; rw [← Ny216.out] at ho; have n0_ := Aside0.mk (hb); have n1_ := Aside0.mk (ho); clear HB; clear HO215; have HB := n0_; have HO218 := n1_; clear n0_ n1_; clear ho hb hg hat; obtain ⟨Ao16, co16, eo16⟩ := Kd.R_slice HO218.out; subst eo16) | ((with_reducible refine gate_callee (f := 14) rfl ?_); refine goesL_ (some 24) rfl rfl Tryd.func14 (by kernel_rfl) rfl #[.string a0, .slice Ao16 y216.length co16] rfl (by (try simp only [List.map_toArray, List.map_cons, List.map_nil]); first | done | rfl | (simp only [List.length_drop, List.length_take]; rfl)) ?_; (with_reducible refine (five_Decode.calls kj2 a0 _ _ y216 t219 t220 _ ?side1 ?side2 (by first | exact HG.out | exact GlobOk.below HG.out (bl HB)) A7.out).mono ?_); (case side1 => repeat (first | exact (Kd.R_reads' HO218.out).2.2 | (with_reducible refine Kd.C_alloc ?_ _) | (with_reducible refine Kd.C_drewN ?_ _) | (with_reducible refine Kd.C_drew ?_))); (case side2 => exact (Kd.R_reads' HO218.out).2.1); rintro e w17 ⟨v221, rfl, ho0, hb⟩; refine ⟨_, rfl, ?_⟩; have n0_ := Aside0.mk (Kd.R_below (rl HO218) hb); have n1_ := Aside0.mk (Kd.R_lower ho0 (below_size (bl HB))); have n2_ := Aside0.mk (below_step (bl HB) hb); clear HO218; clear HB; have HO218 := n0_; have HO222 := n1_; have HB := n2_; clear n0_ n1_ n2_; (try clear hb); (try clear hb2); (try clear hk); (try clear hi); (try clear ho0)) | ((with_reducible refine gate_callee (f := 15) rfl ?_); refine goesL_ (some 30) rfl rfl Tryd.func15 (by kernel_rfl) rfl #[.string a0, .slice A1 l1.length c1] rfl (by (try simp only [List.map_toArray, List.map_cons, List.map_nil]); first | done | rfl | (simp only [List.length_drop, List.length_take]; rfl)) ?_; (with_reducible refine (glossatorref23_Decode.calls kj2 a0 _ _ l1 t223 t224 _ ?side1 ?side2 A8.out).mono ?_); (case side1 => repeat (first | exact (Kd.C_below HR1.out HB.out) | (with_reducible refine Kd.C_alloc ?_ _) | (with_reducible refine Kd.C_drewN ?_ _) | (with_reducible refine Kd.C_drew ?_))); (case side2 => exact HC1.out); rintro e w18 ⟨v225, rfl, ho0, hb⟩; refine ⟨_, rfl, ?_⟩; have n0_ := Aside0.mk (Kd.R_below (rl HO218) hb); have n1_ := Aside0.mk (Kd.R_elder' (rl HO222) (Kd.R_base ho0) hb); have n2_ := Aside0.mk (Kd.R_lower (Kd.R_new' ho0 (Kd.R_lt (rl HO222))) (below_size (bl HB))); have n3_ := Aside0.mk (below_step (bl HB) hb); clear HO218; clear HO222; clear HB; have HO218 := n0_; have HO222 := n1_; have HO226 := n2_; have HB := n3_; clear n0_ n1_ n2_ n3_; (try clear hb); (try clear hb2); (try clear hk); (try clear hi); (try clear ho0); obtain ⟨Ao19, co19, eo19⟩ := Kd.R_slice HO222.out; subst eo19; obtain ⟨Ao20, co20, eo20⟩ := Kd.R_slice HO226.out; subst eo20) | ((with_reducible refine gate_callee (f := 13) rfl ?_); refine goesL_ (some 35) rfl rfl Tryd.func13 (by kernel_rfl) rfl #[.slice Ao19 t219.length co19, .slice Ao20 t223.length co20] rfl (by (try simp only [List.map_toArray, List.map_cons, List.map_nil]); first | done | rfl | (simp only [List.length_drop, List.length_take]; rfl)) ?_; (with_reducible refine (glossatorref22_Same.calls kj2 _ _ t219 _ _ t223 true _ ?side1 ?side2 ?side3 ?side4 A9.out).mono ?_); (case side1 => repeat (first | exact (Kd.R_reads' HO222.out).2.2 | (with_reducible refine Kd.C_alloc ?_ _) | (with_reducible refine Kd.C_drewN ?_ _) | (with_reducible refine Kd.C_drew ?_))); (case side2 => exact (Kd.R_reads' HO222.out).2.1); (case side3 => repeat (first | exact (Kd.R_reads' HO226.out).2.2 | (with_reducible refine Kd.C_alloc ?_ _) | (with_reducible refine Kd.C_drewN ?_ _) | (with_reducible refine Kd.C_drew ?_))); (case side4 => exact (Kd.R_reads' HO226.out).2.1); rintro e w' ⟨rfl, ⟨nd, rfl⟩⟩; refine ⟨_, rfl, ?_⟩) | (go_at_call 12; (with_reducible refine (glossatorref23_Same.calls kj2 _ _ y216 _ _ l1 t228 _ ?side1 ?side2 ?side3 ?side4 A12.out).mono ?_); (case side1 => repeat (first | exact (Kd.R_reads' HO218.out).2.2 | (with_reducible refine Kd.C_alloc ?_ _) | (with_reducible refine Kd.C_drewN ?_ _) | (with_reducible refine Kd.C_drew ?_))); (case side2 => exact (Kd.R_reads' HO218.out).2.1); (case side3 => repeat (first | exact (Kd.C_below HR1.out (bl HB)) | (with_reducible refine Kd.C_alloc ?_ _) | (with_reducible refine Kd.C_drewN ?_ _) | (with_reducible refine Kd.C_drew ?_))); (case side4 => exact HC1.out); rintro e w' ⟨rfl, ⟨nd, rfl⟩⟩))
     go_ret
     exact ⟨by first | rfl | (simp [errW_none, errW_some] <;> rfl) | (simp [*, errW_none, errW_some] <;> rfl), bl HB⟩
    ·rw [if_neg c11] at H; have c11b0 : (t220 == t224) = false := beq_eq_false_iff_ne.mpr c11; have c11b1 : (t220 != t224) = true := bne_iff_ne.mpr c11; obtain rfl := Option.some.inj H; go_wp2_with (first | ((with_reducible refine gate_dst (N := 18) rfl ?_); (try (refine gate_guard (by rfl) ?_; dsimp only)); refine Kd.R_lit (Kd.int .i64) _ 3 ?hg (N := 18) ?hd (xs := ([] : List Int)) (inner := []) (ok := fun _ => True) (okp := fun _ => True) ?hr ?hp (fun _ hk => hk) trivial (Below.refl _ _) (Nat.le_refl _) (by simp) ?_; (case hd => rfl); (case hg => rfl); (case hr => first | (go_simp; done) | (go_simp; rfl)); (case hp => exact (Reps.none _ _)); intro v214 w21 ho22 hb hg_ hnew_; clear hg_ hnew_; (first | rw [← Ny213.out] at ho22 | (simp only [Int.reduceToNat] at ho22; rw [← Ny213.out] at ho22)); have n0_ := Aside0.mk (Kd.R_lower ho22 (below_size (bl HB))); have n1_ := Aside0.mk (below_step (bl HB) hb); clear HB; have HO215 := n0_; have HB := n1_; clear n0_ n1_; clear hb ho22) | ((with_reducible refine gate_builtin (b := .append) (xs := #[.tmp 18, .tmp 19]) rfl ?_); (try (refine gate_guard (by rfl) ?_; dsimp only)); at_builtin; refine Kd.R_append_rows (Kd.int .i64) (w0 := w) w.heap.size rfl (.tmp 18) (.tmp 19) 23 3 (.int .i64 0) 8 rfl Tryd.underlying23 info3 rfl (by decide) (by omega) v214 y213 l1 _ _ _ (fun _ => True) (fun _ => False) rfl rfl ?aO ?aR (fun _ _ h => h) (fun _ h => h.elim) ?aF ?aB ?aS ?aL ?_; (case aR => repeat (first | exact (Kd.C_below HR1.out HB.out) | (with_reducible refine Kd.C_alloc ?_ _) | (with_reducible refine Kd.C_drewN ?_ _) | (with_reducible refine Kd.C_drew ?_))); (case aB => exact (bl HB)); (case aF => exact (fun _ _ => trivial)); (case aO => exact (rl HO215)); (case aS => exact (below_size (bl HB))); (case aL => have := LMc6.out; omega); intro v217 w23 ho hb hg hat; rw [← Ny216.out] at ho; have n0_ := Aside0.mk (hb); have n1_ := Aside0.mk (ho); clear HB; clear HO215; have HB := n0_; have HO218 := n1_; clear n0_ n1_; clear ho hb hg hat; obtain ⟨Ao24, co24, eo24⟩ := Kd.R_slice HO218.out; subst eo24) | ((with_reducible refine gate_callee (f := 14) rfl ?_); refine goesL_ (some 24) rfl rfl Tryd.func14 (by kernel_rfl) rfl #[.string a0, .slice Ao24 y216.length co24] rfl (by (try simp only [List.map_toArray, List.map_cons, List.map_nil]); first | done | rfl | (simp only [List.length_drop, List.length_take]; rfl)) ?_; (with_reducible refine (five_Decode.calls kj2 a0 _ _ y216 t219 t220 _ ?side1 ?side2 (by first | exact HG.out | exact GlobOk.below HG.out (bl HB)) A7.out).mono ?_); (case side1 => repeat (first | exact (Kd.R_reads' HO218.out).2.2 | (with_reducible refine Kd.C_alloc ?_ _) | (with_reducible refine Kd.C_drewN ?_ _) | (with_reducible refine Kd.C_drew ?_))); (case side2 => exact (Kd.R_reads' HO218.out).2.1); rintro e w25 ⟨v221, rfl, ho0, hb⟩; refine ⟨_, rfl, ?_⟩; have n0_ := Aside0.mk (Kd.R_below (rl HO218) hb); have n1_ := Aside0.mk (Kd.R_lower ho0 (below_size (bl HB))); have n2_ := Aside0.mk (below_step (bl HB) hb); clear HO218; clear HB; have HO218 := n0_; have HO222 := n1_; have HB := n2_; clear n0_ n1_ n2_; (try clear hb); (try clear hb2); (try clear hk); (try clear hi); (try clear ho0)) | ((with_reducible refine gate_callee (f := 15) rfl ?_); refine goesL_ (some 30) rfl rfl Tryd.func15 (by kernel_rfl) rfl #[.string a0, .slice A1 l1.length c1] rfl (by (try simp only [List.map_toArray, List.map_cons, List.map_nil]); first | done | rfl | (simp only [List.length_drop, List.length_take]; rfl)) ?_; (with_reducible refine (glossatorref23_Decode.calls kj2 a0 _ _ l1 t223 t224 _ ?side1 ?side2 A8.out).mono ?_); (case side1 => repeat (first | exact (Kd.C_below HR1.out HB.out) | (with_reducible refine Kd.C_alloc ?_ _) | (with_reducible refine Kd.C_drewN ?_ _) | (with_reducible refine Kd.C_drew ?_))); (case side2 => exact HC1.out); rintro e w26 ⟨v225, rfl, ho0, hb⟩; refine ⟨_, rfl, ?_⟩; have n0_ := Aside0.mk (Kd.R_below (rl HO218) hb); have n1_ := Aside0.mk (Kd.R_elder' (rl HO222) (Kd.R_base ho0) hb); have n2_ := Aside0.mk (Kd.R_lower (Kd.R_new' ho0 (Kd.R_lt (rl HO222))) (below_size (bl HB))); have n3_ := Aside0.mk (below_step (bl HB) hb); clear HO218; clear HO222; clear HB; have HO218 := n0_; have HO222 := n1_; have HO226 := n2_; have HB := n3_; clear n0_ n1_ n2_ n3_; (try clear hb); (try clear hb2); (try clear hk); (try clear hi); (try clear ho0); obtain ⟨Ao27, co27, eo27⟩ := Kd.R_slice HO222.out; subst eo27; obtain ⟨Ao28, co28, eo28⟩ := Kd.R_slice HO226.out; subst eo28) | ((with_reducible refine gate_callee (f := 13) rfl ?_); refine goesL_ (some 35) rfl rfl Tryd.func13 (by kernel_rfl) rfl #[.slice Ao27 t219.length co27, .slice Ao28 t223.length co28] rfl (by (try simp only [List.map_toArray, List.map_cons, List.map_nil]); first | done | rfl | (simp only [List.length_drop, List.length_take]; rfl)) ?_; (with_reducible refine (glossatorref22_Same.calls kj2 _ _ t219 _ _ t223 true _ ?side1 ?side2 ?side3 ?side4 A9.out).mono ?_); (case side1 => repeat (first | exact (Kd.R_reads' HO222.out).2.2 | (with_reducible refine Kd.C_alloc ?_ _) | (with_reducible refine Kd.C_drewN ?_ _) | (with_reducible refine Kd.C_drew ?_))); (case side2 => exact (Kd.R_reads' HO222.out).2.1); (case side3 => repeat (first | exact (Kd.R_reads' HO226.out).2.2 | (with_reducible refine Kd.C_alloc ?_ _) | (with_reducible refine Kd.C_drewN ?_ _) | (with_reducible refine Kd.C_drew ?_))); (case side4 => exact (Kd.R_reads' HO226.out).2.1); rintro e w' ⟨rfl, ⟨nd, rfl⟩⟩; refine ⟨_, rfl, ?_⟩))
     go_ret
     exact ⟨by first | rfl | (simp [errW_none, errW_some] <;> rfl) | (simp [*, errW_none, errW_some] <;> rfl), bl HB⟩
/-- THE ONE PURE STATEMENT of glossatorlaw23_FiveDecodes. -/
def glossatorlaw23_FiveDecodes.Pure : Prop := ∀ (p0 : ByteArray) (p1 : List Int), p0.size ≤ 140737488351232 → (p1.length ≤ maxLen ∧ p1.length * 8 ≤ 140737488351232 ∧ (∀ x ∈ p1, (fun x : Int => (Lit.int .i64 x).wf = true) x)) → ∃ k, glossatorlaw23_FiveDecodes.f k p0 p1 = some true
def fiveOf (x : S60) : List Int := [x.f0, x.f1, x.f2, x.f3, x.f4]
def five_row.f (l0 : List S60) : Option (List Int) := if l0.length < 3000000000000 then some (l0.flatMap fiveOf) else none
theorem flat_len (l : List S60) : (l.flatMap fiveOf).length = 5 * l.length := by
 induction l with
 | nil => rfl
 | cons x r ih => rw [List.flatMap_cons, List.length_append, ih, List.length_cons]; show 5 + _ = _; omega
theorem flat_snoc (l : List S60) (i : Nat) (h : i < l.length) : (l.take (i + 1)).flatMap fiveOf = (l.take i).flatMap fiveOf ++ fiveOf (rd_T60 l (i : Int)) := by
 unfold rd_T60
 rw [List.take_succ_eq_append_getElem h, List.flatMap_append, List.getD_eq_getElem?_getD, show ((i : Int)).toNat = i from rfl, List.getElem?_eq_getElem h]
 simp
/-- Five whole numbers in a block of their own, read as a row. -/
theorem five_reads {w : World} {g : Nat} {x0 x1 x2 x3 x4 : Int} (h0 : w.cell? ⟨g, 0, none⟩ = some (.int .i64 x0)) (h1 : w.cell? ⟨g, 1, none⟩ = some (.int .i64 x1)) (h2 : w.cell? ⟨g, 2, none⟩ = some (.int .i64 x2)) (h3 : w.cell? ⟨g, 3, none⟩ = some (.int .i64 x3)) (h4 : w.cell? ⟨g, 4, none⟩ = some (.int .i64 x4)) :
  Kd.C (Kd.int .i64) w (some ⟨g, 0, none⟩) 5 [x0, x1, x2, x3, x4] := by
 refine ⟨rfl, by omega, fun _ => ⟨_, rfl, fun j p hj => ⟨[.int .i64 p], rfl, rfl, fun i u hi => ?_⟩⟩⟩
 have hi0 : i = 0 := by
  have := (List.getElem?_eq_some_iff.1 hi).1
  simpa using this
 subst hi0; obtain rfl : Value.int .i64 p = u := by simpa using hi
 have hj5 : j < 5 := (List.getElem?_eq_some_iff.1 hj).1
 obtain rfl | rfl | rfl | rfl | rfl : j = 0 ∨ j = 1 ∨ j = 2 ∨ j = 3 ∨ j = 4 := by omega
 all_goals (obtain rfl := Option.some.inj hj; first | exact h0 | exact h1 | exact h2 | exact h3 | exact h4)
set_option maxHeartbeats 4000000 in
set_option maxRecDepth 100000 in
theorem five_row.calls (A0 : Option Addr) (c0 : Nat) (l0 : List S60) (r : List Int) (w : World) (hr0 : Kd.C k60 w A0 l0.length l0) (hc0 : l0.length ≤ c0) (h : five_row.f l0 = some r) :
  Calls Tryd.prog 22 #[.slice A0 l0.length c0] w fun e w' => ∃ v0_ : Value, e = .returned (v0_) ∧ Kd.R (Kd.int .i64) 3 w' w.heap.size (fun _ => True) v0_ r ∧ Below w.heap.size w w' := by
 unfold five_row.f at h
 by_cases hlen : l0.length < 3000000000000
 case neg => rw [if_neg hlen] at h; cases h
 rw [if_pos hlen] at h
 obtain rfl := Option.some.inj h
 have HR := Aside0.mk hr0; clear h hr0 hc0; have hu60 := Tryd.underlying60
 have hu54 := Tryd.underlying54
 have hu23 := Tryd.underlying23
 go_enter Tryd.func22, Tryd.ntmps22
 go_wp2
 go_loopw [3, 8] (fun v3 v8 w' => ∃ (v : Value) (i : Nat), v = v3 ∧ v8 = .int .i64 i ∧ i ≤ l0.length ∧ Aside0 (Kd.R (Kd.int .i64) 3 w' w.heap.size (fun _ => True) v ((l0.take i).flatMap fiveOf)) ∧ Aside0 (Below w.heap.size w w')) (fun _ v8 _ => l0.length - (intOf v8).toNat)
 case atStart => exact ⟨_, 0, rfl, rfl, Nat.zero_le _, ⟨Kd.R_nil _ _ _ _ _⟩, ⟨Below.refl _ _⟩⟩
 case round =>
  obtain ⟨v, i, rfl, rfl, hi, HA, HB⟩ := hrel
  by_cases hlt : i < l0.length
  ·obtain ⟨ad, e, hx0, hx1, hx2, hx3, hx4⟩ := at_T60 HR.out (i : Int) (by omega) (by omega)
   cases e
   have hs := flat_snoc l0 i hlt
   have hl := flat_len (l0.take i)
   have hl2 : (l0.take i).length ≤ l0.length := by rw [List.length_take]; omega
   obtain ⟨m, hm⟩ : ∃ m, rd_T60 l0 (i : Int) = m := ⟨_, rfl⟩
   rw [hm] at hs hx0 hx1 hx2 hx3 hx4
   replace hx0 := (HB.out.cell (World.block_lt_of_cell? w _ hx0)).trans hx0; replace hx1 := (HB.out.cell (World.block_lt_of_cell? w _ hx1)).trans hx1; replace hx2 := (HB.out.cell (World.block_lt_of_cell? w _ hx2)).trans hx2; replace hx3 := (HB.out.cell (World.block_lt_of_cell? w _ hx3)).trans hx3; replace hx4 := (HB.out.cell (World.block_lt_of_cell? w _ hx4)).trans hx4; simp only [Int.toNat_natCast] at hx0 hx1 hx2 hx3 hx4
   have HL : Aside0 ((((l0.take i).flatMap fiveOf).length + 5) * 8 ≤ 140737488355328) := ⟨by omega⟩
   have HS := Aside0.mk hs; clear hs hl hl2 hm; go_wp2_with (first | ((with_reducible refine gate_builtin (b := .append) (xs := #[.tmp 12, .tmp 13]) rfl ?_); at_builtin; refine Kd.R_append_rows (Kd.int .i64) (w0 := w) w.heap.size rfl (.tmp 12) (.tmp 13) 23 3 (.int .i64 0) 8 rfl Tryd.underlying23 info3 rfl (by decide) (by omega) v ((l0.take i).flatMap fiveOf) [m.f0, m.f1, m.f2, m.f3, m.f4] _ _ _ (fun _ => True) (fun _ => False) rfl rfl ?aO ?aR (fun _ _ h => h) (fun _ h => h.elim) (fun _ _ => trivial) ?aB ?aS ?aL ?_; (case aR => exact five_reads (by go_keep) (by go_keep) (by go_keep) (by go_keep) (by go_keep)); (case aB => exact below_alloc HB.out _); (case aO => exact Kd.R_alloc HA.out _); (case aS => exact below_size (below_alloc HB.out _)); (case aL => have := HL.out; simpa using this); intro v2 w4 ho hb hg hat; have HO := Aside0.mk ho; have HB2 := Aside0.mk hb; clear ho hb hg hat))
   go_roundw
   case rel => exact ⟨v2, i + 1, rfl, by go_num, by omega, ⟨by rw [HS.out]; exact HO.out⟩, HB2⟩
   case measure => simp [intOf]; omega
  ·have hii : i = l0.length := by omega
   subst hii; have h2 := HA.out
   rw [List.take_length] at h2
   have H2 := Aside0.mk h2; clear HA h2; go_wp2
   go_ret
   exact ⟨_, rfl, H2.out, HB.out⟩
def five_Encode.f (k : Nat) (a0 : ByteArray) (l1 : List (S38)) : Option (List Int × Int) := (five_Pieces.f k a0 l1).bind fun bt229 => (if bt229.2 = 0 then ((five_fives.f k a0 bt229.1).bind fun t233 => ((five_row.f t233).bind fun t236 => (some (t236, 0)))) else (some (([] : List Int), bt229.2)))
theorem five_Encode.mono : ∀ a0 a1 k, LeO (five_Encode.f k a0 a1) (five_Encode.f (k + 1) a0 a1) := by
 intro a0 a1 k
 unfold five_Encode.f
 repeat' first
   | (with_reducible exact five_Pieces.mono _ _ _)
   | (with_reducible exact five_fives.mono _ _ _)
   | (with_reducible exact LeO.refl _)
   | (with_reducible exact LeO.none _)
   | (with_reducible refine LeO.ite ?_ ?_)
   | (with_reducible refine LeO.bind ?_ (fun _ => ?_))
   | exact five_Pieces.mono _ _ _
   | exact five_fives.mono _ _ _
   | exact LeO.none _
   | refine LeO.ite ?_ ?_
   | refine LeO.bind ?_ (fun _ => ?_)
set_option maxHeartbeats 8000000 in
set_option maxRecDepth 100000 in
theorem five_Encode.calls (k : Nat) (a0 : ByteArray) (A1 : Option Addr) (c1 : Nat) (l1 : List (S38)) (r1 : List Int) (r2 : Int) (w : World) (hr1 : Kd.C k38 w A1 l1.length l1) (hc1 : l1.length ≤ c1) (hG : GlobOk w) (h : five_Encode.f k a0 l1 = some (r1, r2)) :
  Calls Tryd.prog 10 #[.string a0, .slice A1 l1.length c1] w fun e w' => ∃ v0_ : Value, e = .returned (.tuple #[v0_, .int .i64 r2]) ∧ Kd.R (Kd.int .i64) 3 w' w.heap.size (fun _ => True) v0_ r1 ∧ Below w.heap.size w w' := by
 have HG := Aside0.mk hG; clear hG; have HR1 := Aside0.mk hr1; have HC1 := Aside0.mk hc1; clear hr1 hc1; have HB := Aside0.mk (Below.refl w.heap.size w)
 have H : ((five_Pieces.f k a0 l1).bind fun bt229 => (if bt229.2 = 0 then ((five_fives.f k a0 bt229.1).bind fun t233 => ((five_row.f t233).bind fun t236 => (some (t236, 0)))) else (some (([] : List Int), bt229.2)))) = some (r1, r2) := h
 clear h; replace H := Option.bind_eq_some_iff.mp H
 obtain ⟨⟨t229, t230⟩, A30, H⟩ := H
 replace H : (if t230 = 0 then ((five_fives.f k a0 t229).bind fun t233 => ((five_row.f t233).bind fun t236 => (some (t236, 0)))) else (some (([] : List Int), t230))) = some (r1, r2) := H
 have A3 := Aside0.mk A30; clear A30; by_cases c4 : t230 = 0
 rotate_left
 ·rw [if_neg c4] at H; have c4b0 : (t230 == 0) = false := beq_eq_false_iff_ne.mpr c4; have c4b1 : (t230 != 0) = true := bne_iff_ne.mpr c4; simp only [Option.some.injEq, Prod.mk.injEq] at H
  obtain ⟨rfl, rfl⟩ := H
  go_enter Tryd.func10, Tryd.ntmps10
  go_wp2_with (first | ((with_reducible refine gate_callee (f := 11) rfl ?_); refine goesL_ (some 11) rfl rfl Tryd.func11 (by kernel_rfl) rfl #[.string a0, .slice A1 l1.length c1] rfl (by (try simp only [List.map_toArray, List.map_cons, List.map_nil]); first | done | rfl | (simp only [List.length_drop, List.length_take]; rfl)) ?_; (with_reducible refine (five_Pieces.calls k a0 _ _ l1 t229 t230 _ ?side1 ?side2 (by first | exact HG.out | exact GlobOk.below HG.out (bl HB)) A3.out).mono ?_); (case side1 => repeat (first | exact HR1.out | (with_reducible refine Kd.C_alloc ?_ _) | (with_reducible refine Kd.C_drewN ?_ _) | (with_reducible refine Kd.C_drew ?_))); (case side2 => exact HC1.out); rintro e w12 ⟨v231, rfl, ho0, hb⟩; refine ⟨_, rfl, ?_⟩; have n0_ := Aside0.mk (Kd.R_lower ho0 (below_size (bl HB))); have n1_ := Aside0.mk (below_step (bl HB) hb); clear HB; have HO232 := n0_; have HB := n1_; clear n0_ n1_; (try clear hb); (try clear hb2); (try clear hk); (try clear hi); (try clear ho0)))
  go_ret2
  exact ⟨_, by first | rfl | (simp [errW_none, errW_some] <;> rfl) | (simp [*, errW_none, errW_some] <;> rfl), by first | exact Kd.R_nil _ _ _ _ _ | exact Kd.N_nil _ _ _ _ _ | exact Kd.V_nil _ _ _ _ _ | exact Kd.Q_nil _ _ _ _ _ | exact Kd.S_nil _ _ _ _ _, bl HB⟩
 rw [if_pos c4] at H; have c4b0 : (t230 == 0) = true := beq_iff_eq.mpr c4
 have c4b1 : (t230 != 0) = false := bne_eq_false_iff_eq.mpr c4
 clear c4; replace H := Option.bind_eq_some_iff.mp H
 obtain ⟨t233, A50, H⟩ := H
 replace H : ((five_row.f t233).bind fun t236 => (some (t236, 0))) = some (r1, r2) := H
 have A5 := Aside0.mk A50; clear A50; replace H := Option.bind_eq_some_iff.mp H
 obtain ⟨t236, A60, H⟩ := H
 replace H : (some (t236, 0)) = some (r1, r2) := H
 have A6 := Aside0.mk A60; clear A60; simp only [Option.some.injEq, Prod.mk.injEq] at H
 obtain ⟨rfl, rfl⟩ := H
 go_enter Tryd.func10, Tryd.ntmps10
 go_wp2_with (first | ((with_reducible refine gate_callee (f := 11) rfl ?_); refine goesL_ (some 11) rfl rfl Tryd.func11 (by kernel_rfl) rfl #[.string a0, .slice A1 l1.length c1] rfl (by (try simp only [List.map_toArray, List.map_cons, List.map_nil]); first | done | rfl | (simp only [List.length_drop, List.length_take]; rfl)) ?_; (with_reducible refine (five_Pieces.calls k a0 _ _ l1 t229 t230 _ ?side1 ?side2 (by first | exact HG.out | exact GlobOk.below HG.out (bl HB)) A3.out).mono ?_); (case side1 => repeat (first | exact HR1.out | (with_reducible refine Kd.C_alloc ?_ _) | (with_reducible refine Kd.C_drewN ?_ _) | (with_reducible refine Kd.C_drew ?_))); (case side2 => exact HC1.out); rintro e w7 ⟨v231, rfl, ho0, hb⟩; refine ⟨_, rfl, ?_⟩; have n0_ := Aside0.mk (Kd.R_lower ho0 (below_size (bl HB))); have n1_ := Aside0.mk (below_step (bl HB) hb); clear HB; have HO232 := n0_; have HB := n1_; clear n0_ n1_; (try clear hb); (try clear hb2); (try clear hk); (try clear hi); (try clear ho0); obtain ⟨Ao8, co8, eo8⟩ := Kd.R_slice HO232.out; subst eo8) | ((with_reducible refine gate_callee (f := 23) rfl ?_); refine goesL_ (some 19) rfl rfl Tryd.func23 (by kernel_rfl) rfl #[.string a0, .slice Ao8 t229.length co8] rfl (by (try simp only [List.map_toArray, List.map_cons, List.map_nil]); first | done | rfl | (simp only [List.length_drop, List.length_take]; rfl)) ?_; (with_reducible refine (five_fives.calls k a0 _ _ t229 t233 _ ?side1 ?side2 A5.out).mono ?_); (case side1 => repeat (first | exact (Kd.R_reads' HO232.out).2.2 | (with_reducible refine Kd.C_alloc ?_ _) | (with_reducible refine Kd.C_drewN ?_ _) | (with_reducible refine Kd.C_drew ?_))); (case side2 => exact (Kd.R_reads' HO232.out).2.1); rintro e w9 ⟨v234, rfl, ho0, hb⟩; refine ⟨_, rfl, ?_⟩; have n0_ := Aside0.mk (Kd.R_below (rl HO232) hb); have n1_ := Aside0.mk (Kd.R_lower ho0 (below_size (bl HB))); have n2_ := Aside0.mk (below_step (bl HB) hb); clear HO232; clear HB; have HO232 := n0_; have HO235 := n1_; have HB := n2_; clear n0_ n1_ n2_; (try clear hb); (try clear hb2); (try clear hk); (try clear hi); (try clear ho0); obtain ⟨Ao10, co10, eo10⟩ := Kd.R_slice HO235.out; subst eo10) | ((with_reducible refine gate_callee (f := 22) rfl ?_); refine goesL_ (some 20) rfl rfl Tryd.func22 (by kernel_rfl) rfl #[.slice Ao10 t233.length co10] rfl (by (try simp only [List.map_toArray, List.map_cons, List.map_nil]); first | done | rfl | (simp only [List.length_drop, List.length_take]; rfl)) ?_; (with_reducible refine (five_row.calls _ _ t233 t236 _ ?side1 ?side2 A6.out).mono ?_); (case side1 => repeat (first | exact (Kd.R_reads' HO235.out).2.2 | (with_reducible refine Kd.C_alloc ?_ _) | (with_reducible refine Kd.C_drewN ?_ _) | (with_reducible refine Kd.C_drew ?_))); (case side2 => exact (Kd.R_reads' HO235.out).2.1); rintro e w11 ⟨v237, rfl, ho0, hb⟩; refine ⟨_, rfl, ?_⟩; have n0_ := Aside0.mk (Kd.R_below (rl HO232) hb); have n1_ := Aside0.mk (Kd.R_below (rl HO235) hb); have n2_ := Aside0.mk (Kd.R_lower ho0 (below_size (bl HB))); have n3_ := Aside0.mk (below_step (bl HB) hb); clear HO232; clear HO235; clear HB; have HO232 := n0_; have HO235 := n1_; have HO238 := n2_; have HB := n3_; clear n0_ n1_ n2_ n3_; (try clear hb); (try clear hb2); (try clear hk); (try clear hi); (try clear ho0)))
 go_ret2
 exact ⟨_, by first | rfl | (simp [errW_none, errW_some] <;> rfl) | (simp [*, errW_none, errW_some] <;> rfl), rl HO238, bl HB⟩
def glossatorlaw23_mark.f (a0 : Int) (a1 : Int) (a2 : Int) (a3 : Int) : Option (Int × Int × Int × Int) := some (a0, a1, a2, a3)
set_option maxHeartbeats 8000000 in
set_option maxRecDepth 100000 in
theorem glossatorlaw23_mark.calls (a0 : Int) (a1 : Int) (a2 : Int) (a3 : Int) (r1 : Int) (r2 : Int) (r3 : Int) (r4 : Int) (w : World) (h : glossatorlaw23_mark.f a0 a1 a2 a3 = some (r1, r2, r3, r4)) :
  Calls Tryd.prog 31 #[.int .i64 a0, .int .i64 a1, .int .i64 a2, .int .i64 a3] w fun e w' => e = .returned (.agg #[.int .i64 r1, .int .i64 r2, .int .i64 r3, .int .i64 r4]) ∧ Below w.heap.size w w' := by
 have hu38 := Tryd.underlying38
 have hu36 := Tryd.underlying36
 have HB := Aside0.mk (Below.refl w.heap.size w)
 have H : (some (a0, a1, a2, a3)) = some (r1, r2, r3, r4) := h
 clear h; simp only [Option.some.injEq, Prod.mk.injEq] at H
 obtain ⟨rfl, rfl, rfl, rfl⟩ := H
 go_enter Tryd.func31, Tryd.ntmps31
 go_wp2_with (first | ((with_reducible refine gate_dst (N := 8) rfl ?_); refine box_event ?hg (N := 8) ?hd (cs := #[.int .i64 0, .int .i64 0, .int .i64 0, .int .i64 0]) (t := 38) ?hr ?_; (case hd => rfl); (case hg => rfl); (case hr => first | (go_simp; done) | (go_simp; rfl)); intro gb239 hg w5 hbox hb; have n0_ := Aside0.mk (below_step (bl HB) hb); have n1_ := Aside0.mk (hbox); have n2_ := Aside0.mk ((by rw [hg]; exact (below_size (bl HB)) : w.heap.size ≤ gb239)); have n3_ := Aside0.mk ((by rw [hg]; exact (below_size (bl HB)) : w.heap.size ≤ gb239)); clear HB; have HB := n0_; have BK239 := n1_; have GW239 := n2_; have GE239 := n3_; clear n0_ n1_ n2_ n3_; clear hb hbox hg; have hcz6_0 : w5.cell? ⟨gb239, 0, none⟩ = some (.int .i64 0) := (blk_cell BK239.out 0).trans rfl; have hcz6_1 : w5.cell? ⟨gb239, 1, none⟩ = some (.int .i64 0) := (blk_cell BK239.out 1).trans rfl; have hcz6_2 : w5.cell? ⟨gb239, 2, none⟩ = some (.int .i64 0) := (blk_cell BK239.out 2).trans rfl; have hcz6_3 : w5.cell? ⟨gb239, 3, none⟩ = some (.int .i64 0) := (blk_cell BK239.out 3).trans rfl; have hfz6_0 := blk_frozen BK239.out 0; have hfz6_1 := blk_frozen BK239.out 1; have hfz6_2 := blk_frozen BK239.out 2; have hfz6_3 := blk_frozen BK239.out 3))
 refine bodyPost_ret (results_cell_row rfl _ _ gb239 38 #[.int .i64 a0, .int .i64 a1, .int .i64 a2, .int .i64 a3] (0, 0) _ rfl (by (with_reducible repeat (first | refine blk_drewN ?_ _ | refine blk_drew ?_ | refine blk_alloc ?_ _)); refine blk_put (cs := #[.int .i64 a0, .int .i64 a1, .int .i64 a2, .int .i64 0]) ?_ 3 _ rfl; (with_reducible repeat (first | refine blk_drewN ?_ _ | refine blk_drew ?_ | refine blk_alloc ?_ _)); refine blk_put (cs := #[.int .i64 a0, .int .i64 a1, .int .i64 0, .int .i64 0]) ?_ 2 _ rfl; (with_reducible repeat (first | refine blk_drewN ?_ _ | refine blk_drew ?_ | refine blk_alloc ?_ _)); refine blk_put (cs := #[.int .i64 a0, .int .i64 0, .int .i64 0, .int .i64 0]) ?_ 1 _ rfl; (with_reducible repeat (first | refine blk_drewN ?_ _ | refine blk_drew ?_ | refine blk_alloc ?_ _)); refine blk_put (cs := #[.int .i64 0, .int .i64 0, .int .i64 0, .int .i64 0]) ?_ 0 _ rfl; (with_reducible repeat (first | refine blk_drewN ?_ _ | refine blk_drew ?_ | refine blk_alloc ?_ _)); exact BK239.out) Tryd.underlying38 rfl (by kernel_rfl)) rfl ?_
 exact ⟨by first | rfl | (simp [errW_none, errW_some] <;> rfl) | (simp [*, errW_none, errW_some] <;> rfl), by repeat (first | (with_reducible first | exact HB.out | apply below_alloc | apply pw_below_drewN | apply below_drew1 | refine below_set ?_ GE239.out) | exact HB.out)⟩
end Go.Proofs.YtbjhmknahldhaaaDoor.Q

end
