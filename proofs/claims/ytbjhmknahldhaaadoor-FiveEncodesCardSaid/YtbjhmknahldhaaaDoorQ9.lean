-- Written by this repo's wip/xprint.py (over the kit's print.py) out of the translation. Not trusted: Lean checks it.
import Derived.Test.YtbjhmknahldhaaaDoorQ0
import Derived.Test.YtbjhmknahldhaaaDoorQ8
namespace Go.Proofs.YtbjhmknahldhaaaDoor.Q
open Go.RowKit Go.Proofs.YtbjhmknahldhaaaDoorW.PrintWords Go.Proofs.YtbjhmknahldhaaaDoorW.PrintLast Go.Proofs.YtbjhmknahldhaaaDoorW.PrintMore
attribute [local go_sem] max2_int min2_int max_two min_two max_three min_three max_four min_four   -- for this text's walks alone
set_option linter.unusedVariables false
set_option linter.unusedSimpArgs false

/-! ### five_Pieces: function 11 -/
mutual
def five_Pieces.l0 : Nat → ByteArray → List (S38) → List Int → Int → List (S38) → Int → Int → Option ((List (S38)) × Int)
 | 0, _, _, _, _, _, _, _ => none
 | k + 1, x0, x6, x7, x8, x20, x21, x22 => if x22 < x21 then (if 0 ≤ x22 then (if x22 < (x20.length : Int) then (five_Pieces.l1 k x0 x6 x7 x8 x20 x21 x22 ((rd_T38 x20 x22).f0.f0) ((rd_T38 x20 x22).f0.f1) ((rd_T38 x20 x22).f1) ((rd_T38 x20 x22).f2)) else (none)) else (none)) else (some (x6, 0))
def five_Pieces.l1 : Nat → ByteArray → List (S38) → List Int → Int → List (S38) → Int → Int → Int → Int → Int → Int → Option ((List (S38)) × Int)
 | 0, _, _, _, _, _, _, _, _, _, _, _ => none
 | k + 1, x0, x6, x7, x8, x20, x21, x22, x224000, x224001, x224002, x224003 => if 0 ≤ (wrap64 (x8 + 1)) then (if (wrap64 (x8 + 1)) < (x7.length : Int) then (if (rd x7 (wrap64 (x8 + 1))) ≤ x224000 then (five_Pieces.l1 k x0 x6 x7 (wrap64 (x8 + 1)) x20 x21 x22 x224000 x224001 x224002 x224003) else (five_Pieces.l2 k x0 x6 x7 x8 x8 x20 x21 x22 x224000 x224001 x224002 x224003)) else (none)) else (none)
def five_Pieces.l2 : Nat → ByteArray → List (S38) → List Int → Int → Int → List (S38) → Int → Int → Int → Int → Int → Int → Option ((List (S38)) × Int)
 | 0, _, _, _, _, _, _, _, _, _, _, _, _ => none
 | k + 1, x0, x6, x7, x8, x11, x20, x21, x22, x224000, x224001, x224002, x224003 => if (wrap64 (x11 + 1)) < (x7.length : Int) then (if 0 ≤ x11 then (if x11 < (x7.length : Int) then (five_Pieces.j3 k x0 x6 x7 x8 x11 x20 x21 x22 (decide ((rd x7 x11) < x224001)) x224000 x224001 x224002 x224003) else (none)) else (none)) else (five_Pieces.j3 k x0 x6 x7 x8 x11 x20 x21 x22 false x224000 x224001 x224002 x224003)
def five_Pieces.j3 : Nat → ByteArray → List (S38) → List Int → Int → Int → List (S38) → Int → Int → Bool → Int → Int → Int → Int → Option ((List (S38)) × Int)
 | 0, _, _, _, _, _, _, _, _, _, _, _, _, _ => none
 | k + 1, x0, x6, x7, x8, x11, x20, x21, x22, x52, x224000, x224001, x224002, x224003 => if x52 = true then (if 0 ≤ (wrap64 (x11 + 1)) then (if (wrap64 (x11 + 1)) < (x7.length : Int) then (five_Pieces.l3 k x0 x6 x7 x8 x11 (mn (rd x7 (wrap64 (x11 + 1))) (x0.size : Int)) x20 x21 x22 x224000 x224001 x224002 x224003) else (none)) else (none)) else (five_Pieces.l0 k x0 x6 x7 x8 x20 x21 (wrap64 (x22 + 1)))
def five_Pieces.l3 : Nat → ByteArray → List (S38) → List Int → Int → Int → Int → List (S38) → Int → Int → Int → Int → Int → Int → Option ((List (S38)) × Int)
 | 0, _, _, _, _, _, _, _, _, _, _, _, _, _ => none
 | k + 1, x0, x6, x7, x8, x11, x12, x20, x21, x22, x224000, x224001, x224002, x224003 => if 0 ≤ x11 then (if x11 < (x7.length : Int) then (if x12 > (rd x7 x11) then (if 0 ≤ (wrap64 (x12 - 1)) then (if (wrap64 (x12 - 1)) < (x0.size : Int) then (if (bt x0 (wrap64 (x12 - 1))) = 10 then (five_Pieces.l3 k x0 x6 x7 x8 x11 (wrap64 (x12 - 1)) x20 x21 x22 x224000 x224001 x224002 x224003) else (if (bt x0 (wrap64 (x12 - 1))) = 13 then (five_Pieces.l3 k x0 x6 x7 x8 x11 (wrap64 (x12 - 1)) x20 x21 x22 x224000 x224001 x224002 x224003) else (if (mx x224000 (rd x7 x11)) < (mn x224001 x12) then (if x6.length < 4398046511104 then (five_Pieces.l2 k x0 (x6 ++ [(⟨(⟨mx x224000 (rd x7 x11), mn x224001 x12⟩ : S36), x224002, x224003⟩ : S38)]) x7 x8 (wrap64 (x11 + 1)) x20 x21 x22 x224000 x224001 x224002 x224003) else (none)) else (five_Pieces.l2 k x0 x6 x7 x8 (wrap64 (x11 + 1)) x20 x21 x22 x224000 x224001 x224002 x224003)))) else (none)) else (none)) else (if (mx x224000 (rd x7 x11)) < (mn x224001 x12) then (if x6.length < 4398046511104 then (five_Pieces.l2 k x0 (x6 ++ [(⟨(⟨mx x224000 (rd x7 x11), mn x224001 x12⟩ : S36), x224002, x224003⟩ : S38)]) x7 x8 (wrap64 (x11 + 1)) x20 x21 x22 x224000 x224001 x224002 x224003) else (none)) else (five_Pieces.l2 k x0 x6 x7 x8 (wrap64 (x11 + 1)) x20 x21 x22 x224000 x224001 x224002 x224003))) else (none)) else (none)
end
def five_Pieces.f (k : Nat) (a0 : ByteArray) (l1 : List (S38)) : Option ((List (S38)) × Int) := (five_right.f k a0 l1).bind fun t218 => (if t218 = true then ((five_ends.f a0).bind fun t219 => (five_Pieces.l0 k a0 ([] : List (S38)) t219 0 l1 (l1.length : Int) 0)) else (some (([] : List (S38)), 230)))
theorem five_Pieces.mono_l : ∀ k, (∀ y0 y1 y2 y3 y4 y5 y6, LeO (five_Pieces.l0 k y0 y1 y2 y3 y4 y5 y6) (five_Pieces.l0 (k + 1) y0 y1 y2 y3 y4 y5 y6)) ∧ (∀ y0 y1 y2 y3 y4 y5 y6 y7 y8 y9 y10, LeO (five_Pieces.l1 k y0 y1 y2 y3 y4 y5 y6 y7 y8 y9 y10) (five_Pieces.l1 (k + 1) y0 y1 y2 y3 y4 y5 y6 y7 y8 y9 y10)) ∧ (∀ y0 y1 y2 y3 y4 y5 y6 y7 y8 y9 y10 y11, LeO (five_Pieces.l2 k y0 y1 y2 y3 y4 y5 y6 y7 y8 y9 y10 y11) (five_Pieces.l2 (k + 1) y0 y1 y2 y3 y4 y5 y6 y7 y8 y9 y10 y11)) ∧ (∀ y0 y1 y2 y3 y4 y5 y6 y7 y8 y9 y10 y11 y12, LeO (five_Pieces.j3 k y0 y1 y2 y3 y4 y5 y6 y7 y8 y9 y10 y11 y12) (five_Pieces.j3 (k + 1) y0 y1 y2 y3 y4 y5 y6 y7 y8 y9 y10 y11 y12)) ∧ (∀ y0 y1 y2 y3 y4 y5 y6 y7 y8 y9 y10 y11 y12, LeO (five_Pieces.l3 k y0 y1 y2 y3 y4 y5 y6 y7 y8 y9 y10 y11 y12) (five_Pieces.l3 (k + 1) y0 y1 y2 y3 y4 y5 y6 y7 y8 y9 y10 y11 y12))
 | 0 => ⟨fun _ _ _ _ _ _ _ r h => by simp [five_Pieces.l0] at h, fun _ _ _ _ _ _ _ _ _ _ _ r h => by simp [five_Pieces.l1] at h, fun _ _ _ _ _ _ _ _ _ _ _ _ r h => by simp [five_Pieces.l2] at h, fun _ _ _ _ _ _ _ _ _ _ _ _ _ r h => by simp [five_Pieces.j3] at h, fun _ _ _ _ _ _ _ _ _ _ _ _ _ r h => by simp [five_Pieces.l3] at h⟩
 | k + 1 => by
  obtain ⟨ih0, ih1, ih2, ih3, ih4⟩ := five_Pieces.mono_l k
  refine ⟨?_, ?_, ?_, ?_, ?_⟩
  ·intro y0 y1 y2 y3 y4 y5 y6
   unfold five_Pieces.l0
   repeat' first
   | (with_reducible exact ih0 _ _ _ _ _ _ _)
   | (with_reducible exact ih1 _ _ _ _ _ _ _ _ _ _ _)
   | (with_reducible exact ih2 _ _ _ _ _ _ _ _ _ _ _ _)
   | (with_reducible exact ih3 _ _ _ _ _ _ _ _ _ _ _ _ _)
   | (with_reducible exact ih4 _ _ _ _ _ _ _ _ _ _ _ _ _)
   | (with_reducible exact five_right.mono _ _ _)
   | (with_reducible exact LeO.refl _)
   | (with_reducible exact LeO.none _)
   | (with_reducible refine LeO.ite ?_ ?_)
   | (with_reducible refine LeO.bind ?_ (fun _ => ?_))
   | exact ih0 _ _ _ _ _ _ _
   | exact ih1 _ _ _ _ _ _ _ _ _ _ _
   | exact ih2 _ _ _ _ _ _ _ _ _ _ _ _
   | exact ih3 _ _ _ _ _ _ _ _ _ _ _ _ _
   | exact ih4 _ _ _ _ _ _ _ _ _ _ _ _ _
   | exact five_right.mono _ _ _
   | exact LeO.none _
   | refine LeO.ite ?_ ?_
   | refine LeO.bind ?_ (fun _ => ?_)
  ·intro y0 y1 y2 y3 y4 y5 y6 y7 y8 y9 y10
   unfold five_Pieces.l1
   repeat' first
   | (with_reducible exact ih0 _ _ _ _ _ _ _)
   | (with_reducible exact ih1 _ _ _ _ _ _ _ _ _ _ _)
   | (with_reducible exact ih2 _ _ _ _ _ _ _ _ _ _ _ _)
   | (with_reducible exact ih3 _ _ _ _ _ _ _ _ _ _ _ _ _)
   | (with_reducible exact ih4 _ _ _ _ _ _ _ _ _ _ _ _ _)
   | (with_reducible exact five_right.mono _ _ _)
   | (with_reducible exact LeO.refl _)
   | (with_reducible exact LeO.none _)
   | (with_reducible refine LeO.ite ?_ ?_)
   | (with_reducible refine LeO.bind ?_ (fun _ => ?_))
   | exact ih0 _ _ _ _ _ _ _
   | exact ih1 _ _ _ _ _ _ _ _ _ _ _
   | exact ih2 _ _ _ _ _ _ _ _ _ _ _ _
   | exact ih3 _ _ _ _ _ _ _ _ _ _ _ _ _
   | exact ih4 _ _ _ _ _ _ _ _ _ _ _ _ _
   | exact five_right.mono _ _ _
   | exact LeO.none _
   | refine LeO.ite ?_ ?_
   | refine LeO.bind ?_ (fun _ => ?_)
  ·intro y0 y1 y2 y3 y4 y5 y6 y7 y8 y9 y10 y11
   unfold five_Pieces.l2
   repeat' first
   | (with_reducible exact ih0 _ _ _ _ _ _ _)
   | (with_reducible exact ih1 _ _ _ _ _ _ _ _ _ _ _)
   | (with_reducible exact ih2 _ _ _ _ _ _ _ _ _ _ _ _)
   | (with_reducible exact ih3 _ _ _ _ _ _ _ _ _ _ _ _ _)
   | (with_reducible exact ih4 _ _ _ _ _ _ _ _ _ _ _ _ _)
   | (with_reducible exact five_right.mono _ _ _)
   | (with_reducible exact LeO.refl _)
   | (with_reducible exact LeO.none _)
   | (with_reducible refine LeO.ite ?_ ?_)
   | (with_reducible refine LeO.bind ?_ (fun _ => ?_))
   | exact ih0 _ _ _ _ _ _ _
   | exact ih1 _ _ _ _ _ _ _ _ _ _ _
   | exact ih2 _ _ _ _ _ _ _ _ _ _ _ _
   | exact ih3 _ _ _ _ _ _ _ _ _ _ _ _ _
   | exact ih4 _ _ _ _ _ _ _ _ _ _ _ _ _
   | exact five_right.mono _ _ _
   | exact LeO.none _
   | refine LeO.ite ?_ ?_
   | refine LeO.bind ?_ (fun _ => ?_)
  ·intro y0 y1 y2 y3 y4 y5 y6 y7 y8 y9 y10 y11 y12
   unfold five_Pieces.j3
   repeat' first
   | (with_reducible exact ih0 _ _ _ _ _ _ _)
   | (with_reducible exact ih1 _ _ _ _ _ _ _ _ _ _ _)
   | (with_reducible exact ih2 _ _ _ _ _ _ _ _ _ _ _ _)
   | (with_reducible exact ih3 _ _ _ _ _ _ _ _ _ _ _ _ _)
   | (with_reducible exact ih4 _ _ _ _ _ _ _ _ _ _ _ _ _)
   | (with_reducible exact five_right.mono _ _ _)
   | (with_reducible exact LeO.refl _)
   | (with_reducible exact LeO.none _)
   | (with_reducible refine LeO.ite ?_ ?_)
   | (with_reducible refine LeO.bind ?_ (fun _ => ?_))
   | exact ih0 _ _ _ _ _ _ _
   | exact ih1 _ _ _ _ _ _ _ _ _ _ _
   | exact ih2 _ _ _ _ _ _ _ _ _ _ _ _
   | exact ih3 _ _ _ _ _ _ _ _ _ _ _ _ _
   | exact ih4 _ _ _ _ _ _ _ _ _ _ _ _ _
   | exact five_right.mono _ _ _
   | exact LeO.none _
   | refine LeO.ite ?_ ?_
   | refine LeO.bind ?_ (fun _ => ?_)
  ·intro y0 y1 y2 y3 y4 y5 y6 y7 y8 y9 y10 y11 y12
   unfold five_Pieces.l3
   repeat' first
   | (with_reducible exact ih0 _ _ _ _ _ _ _)
   | (with_reducible exact ih1 _ _ _ _ _ _ _ _ _ _ _)
   | (with_reducible exact ih2 _ _ _ _ _ _ _ _ _ _ _ _)
   | (with_reducible exact ih3 _ _ _ _ _ _ _ _ _ _ _ _ _)
   | (with_reducible exact ih4 _ _ _ _ _ _ _ _ _ _ _ _ _)
   | (with_reducible exact five_right.mono _ _ _)
   | (with_reducible exact LeO.refl _)
   | (with_reducible exact LeO.none _)
   | (with_reducible refine LeO.ite ?_ ?_)
   | (with_reducible refine LeO.bind ?_ (fun _ => ?_))
   | exact ih0 _ _ _ _ _ _ _
   | exact ih1 _ _ _ _ _ _ _ _ _ _ _
   | exact ih2 _ _ _ _ _ _ _ _ _ _ _ _
   | exact ih3 _ _ _ _ _ _ _ _ _ _ _ _ _
   | exact ih4 _ _ _ _ _ _ _ _ _ _ _ _ _
   | exact five_right.mono _ _ _
   | exact LeO.none _
   | refine LeO.ite ?_ ?_
   | refine LeO.bind ?_ (fun _ => ?_)
theorem five_Pieces.mono : ∀ a0 a1 k, LeO (five_Pieces.f k a0 a1) (five_Pieces.f (k + 1) a0 a1) := by
 intro a0 a1 k
 obtain ⟨ih0, ih1, ih2, ih3, ih4⟩ := five_Pieces.mono_l k
 unfold five_Pieces.f
 repeat' first
   | (with_reducible exact ih0 _ _ _ _ _ _ _)
   | (with_reducible exact ih1 _ _ _ _ _ _ _ _ _ _ _)
   | (with_reducible exact ih2 _ _ _ _ _ _ _ _ _ _ _ _)
   | (with_reducible exact ih3 _ _ _ _ _ _ _ _ _ _ _ _ _)
   | (with_reducible exact ih4 _ _ _ _ _ _ _ _ _ _ _ _ _)
   | (with_reducible exact five_right.mono _ _ _)
   | (with_reducible exact LeO.refl _)
   | (with_reducible exact LeO.none _)
   | (with_reducible refine LeO.ite ?_ ?_)
   | (with_reducible refine LeO.bind ?_ (fun _ => ?_))
   | exact ih0 _ _ _ _ _ _ _
   | exact ih1 _ _ _ _ _ _ _ _ _ _ _
   | exact ih2 _ _ _ _ _ _ _ _ _ _ _ _
   | exact ih3 _ _ _ _ _ _ _ _ _ _ _ _ _
   | exact ih4 _ _ _ _ _ _ _ _ _ _ _ _ _
   | exact five_right.mono _ _ _
   | exact LeO.none _
   | refine LeO.ite ?_ ?_
   | refine LeO.bind ?_ (fun _ => ?_)
def five_Pieces.T9 : Bool × List (List Nat × List Nat) := (true, [([], []), ([], []), ([1], [1]), ([0, 2], [0, 2]), ([3], [3]), ([], []), ([5], [5]), ([6], [6]), ([4, 7], [4, 7])])
def five_Pieces.B9 : List Nat := [0, 0, 2, 7, 15, 0, 32, 96, 255]
theorem five_Pieces.tab9 : rtab .any (opsOf Tryd.f11 9) = five_Pieces.T9 := by kernel_rfl
theorem five_Pieces.bits9 : waitsOk five_Pieces.T9.2 five_Pieces.B9 = true := by kernel_rfl
def five_Pieces.T12 : Bool × List (List Nat × List Nat) := (true, [([], []), ([0], [0]), ([], []), ([2], [2]), ([1, 3], [1, 3]), ([4], [4]), ([5], [5]), ([5], [5]), ([6, 7, 5], [5, 6, 7]), ([8, 5], [5, 8]), ([5], [5]), ([10, 5], [5, 10]), ([11, 5], [5, 11]), ([9, 12, 5], [5, 9, 12]), ([5, 13], [5, 13])])
def five_Pieces.B12 : List Nat := [0, 1, 0, 4, 15, 31, 63, 63, 255, 511, 63, 1087, 3135, 8191, 16383]
theorem five_Pieces.tab12 : rtab .any (opsOf Tryd.f11 12) = five_Pieces.T12 := by kernel_rfl
theorem five_Pieces.bits12 : waitsOk five_Pieces.T12.2 five_Pieces.B12 = true := by kernel_rfl
def five_Pieces.T17 : Bool × List (List Nat × List Nat) := (true, [([], []), ([0], [0]), ([1], [1]), ([], []), ([], []), ([3, 4], [3, 4]), ([5], [5]), ([2, 6], [2, 6]), ([], []), ([8], [8]), ([9], [9]), ([], []), ([10, 11], [10, 11]), ([7, 12], [7, 12]), ([], []), ([14, 13, 0, 1, 2, 3, 4, 5, 6, 7, 8, 9, 10, 11, 12, 13, 14], [13, 14])])
def five_Pieces.B17 : List Nat := [0, 1, 3, 0, 0, 24, 56, 127, 0, 256, 768, 0, 3840, 8191, 0, 32767]
theorem five_Pieces.tab17 : rtab .any (opsOf Tryd.f11 17) = five_Pieces.T17 := by kernel_rfl
theorem five_Pieces.bits17 : waitsOk five_Pieces.T17.2 five_Pieces.B17 = true := by kernel_rfl
set_option maxHeartbeats 8000000 in
set_option maxRecDepth 100000 in
theorem five_Pieces.calls (k : Nat) (a0 : ByteArray) (A1 : Option Addr) (c1 : Nat) (l1 : List (S38)) (r1 : List (S38)) (r2 : Int) (w : World) (hr1 : Kd.C k38 w A1 l1.length l1) (hc1 : l1.length ≤ c1) (hG : GlobOk w) (h : five_Pieces.f k a0 l1 = some (r1, r2)) :
  Calls Tryd.prog 11 #[.string a0, .slice A1 l1.length c1] w fun e w' => ∃ v0_ : Value, e = .returned (.tuple #[v0_, .int .i64 r2]) ∧ Kd.R k38 38 w' w.heap.size (fun _ => True) v0_ r1 ∧ Below w.heap.size w w' := by
 have HG := Aside0.mk hG; clear hG; have hu38 := Tryd.underlying38
 have hu36 := Tryd.underlying36
 have HR1 := Aside0.mk hr1; have HC1 := Aside0.mk hc1; clear hr1 hc1; have HB := Aside0.mk (Below.refl w.heap.size w)
 have H : ((five_right.f k a0 l1).bind fun t218 => (if t218 = true then ((five_ends.f a0).bind fun t219 => (five_Pieces.l0 k a0 ([] : List (S38)) t219 0 l1 (l1.length : Int) 0)) else (some (([] : List (S38)), 230)))) = some (r1, r2) := h
 clear h; replace H := Option.bind_eq_some_iff.mp H
 obtain ⟨t218, A30, H⟩ := H
 replace H : (if t218 = true then ((five_ends.f a0).bind fun t219 => (five_Pieces.l0 k a0 ([] : List (S38)) t219 0 l1 (l1.length : Int) 0)) else (some (([] : List (S38)), 230))) = some (r1, r2) := H
 have A3 := Aside0.mk A30; clear A30; by_cases c4 : t218 = true
 ·subst c4; have H1 : ((five_ends.f a0).bind fun t219 => (five_Pieces.l0 k a0 ([] : List (S38)) t219 0 l1 (l1.length : Int) 0)) = some (r1, r2) := by rw [if_pos rfl] at H; exact H
  clear H; have H := H1
  clear H1; replace H := Option.bind_eq_some_iff.mp H
  obtain ⟨t219, A50, H⟩ := H
  replace H : (five_Pieces.l0 k a0 ([] : List (S38)) t219 0 l1 (l1.length : Int) 0) = some (r1, r2) := H
  have A5 := Aside0.mk A50; clear A50; have H' := Aside0.mk H; clear H; go_enter Tryd.func11, Tryd.ntmps11
  go_wp2_with (first | ((with_reducible refine gate_callee (f := 24) rfl ?_); refine goesL_ (some 16) rfl rfl Tryd.func24 (by kernel_rfl) rfl #[.string a0, .slice A1 l1.length c1] rfl (by (try simp only [List.map_toArray, List.map_cons, List.map_nil]); first | done | rfl | (simp only [List.length_drop, List.length_take]; rfl)) ?_; (with_reducible refine (five_right.calls k a0 _ _ l1 true _ ?side1 ?side2 (by first | exact HG.out | exact GlobOk.below HG.out (bl HB)) A3.out).mono ?_); (case side1 => repeat (first | exact HR1.out | (with_reducible refine Kd.C_alloc ?_ _) | (with_reducible refine Kd.C_drewN ?_ _) | (with_reducible refine Kd.C_drew ?_))); (case side2 => exact HC1.out); rintro e w6 ⟨rfl, hb⟩; refine ⟨_, rfl, ?_⟩; have n0_ := Aside0.mk (below_step (bl HB) hb); clear HB; have HB := n0_; clear n0_; (try clear hb); (try clear hb2); (try clear hk); (try clear hi)) | ((with_reducible refine gate_callee (f := 25) rfl ?_); refine goesL_ (some 19) rfl rfl Tryd.func25 (by kernel_rfl) rfl #[.string a0] rfl (by (try simp only [List.map_toArray, List.map_cons, List.map_nil]); first | done | rfl | (simp only [List.length_drop, List.length_take]; rfl)) ?_; (with_reducible refine (five_ends.calls a0 t219 _ A5.out).mono ?_); rintro e w7 ⟨v220, rfl, ho0, hb⟩; refine ⟨_, rfl, ?_⟩; have n0_ := Aside0.mk (Kd.R_lower ho0 (below_size (bl HB))); have n1_ := Aside0.mk (below_step (bl HB) hb); clear HB; have HO221 := n0_; have HB := n1_; clear n0_ n1_; (try clear hb); (try clear hb2); (try clear hk); (try clear hi); (try clear ho0)))
  go_loopg [6, 8, 22] k (fun kq v6 v8 v22 w' => ∃ (x6_1 : List (S38)) (x8_1 : Int) (x22_1 : Int), v8 = .int .i64 x8_1 ∧ v22 = .int .i64 x22_1 ∧ Aside0 (five_Pieces.l0 kq a0 x6_1 t219 x8_1 l1 (l1.length : Int) x22_1 = some (r1, r2)) ∧ Aside0 (kq ≤ k) ∧ Aside0 (Kd.R k38 38 w' w.heap.size (fun _ => True) v6 x6_1) ∧ Aside0 (Kd.R (Kd.int .i64) 3 w' w.heap.size (fun _ => True) v220 t219) ∧ Aside0 (Below w.heap.size w w'))
  case atStart => exact ⟨(([] : List (S38))), (0), (0), (by first | rfl | (simp; done) | (simp [*]; done) | (simp; exact xEmpty_ne _) | (simp [*]; exact xEmpty_ne _)), (by first | rfl | (simp; done) | (simp [*]; done) | (simp; exact xEmpty_ne _) | (simp [*]; exact xEmpty_ne _)), H', ⟨Nat.le_refl _⟩, ⟨by first | exact Kd.R_nil _ _ _ _ _ | exact Kd.N_nil _ _ _ _ _ | exact Kd.V_nil _ _ _ _ _ | exact Kd.Q_nil _ _ _ _ _ | exact Kd.S_nil _ _ _ _ _⟩, ⟨rl HO221⟩, ⟨bl HB⟩⟩
  case round =>
   clear H'; (try clear c1); (try clear c2); (try clear p2); (try clear c4); (try clear HO_6); (try clear HO_7); (try clear HB)
   obtain ⟨x6_1, x8_1, x22_1, rfl, rfl, HA, HK1, HO_6, HO_7, HB⟩ := hrel
   cases gk with
   | zero => exact absurd HA.out (by simp [five_Pieces.l0])
   | succ k1 =>
    have H := HA.out
    clear HA; simp only [five_Pieces.l0] at H
    by_cases c8 : x22_1 < (l1.length : Int)
    ·rw [if_pos c8] at H; have c8b0 : decide (x22_1 < (l1.length : Int)) = true := decide_eq_true c8; clear c8; by_cases c9 : 0 ≤ x22_1
     ·rw [if_pos c9] at H; have c9b0 : decide (0 ≤ x22_1) = true := decide_eq_true c9; clear c9; by_cases c10 : x22_1 < (l1.length : Int)
      ·rw [if_pos c10] at H; have c10b0 : decide (x22_1 < (l1.length : Int)) = true := decide_eq_true c10; clear c10; have H' := Aside0.mk H; clear H; have p222 : 0 ≤ (x22_1 : Int) := of_decide_eq_true (by first | (with_reducible assumption) | assumption)
       have q222 : x22_1 < (l1.length : Int) := of_decide_eq_true (by first | (with_reducible assumption) | assumption)
       obtain ⟨ad222, e222, hx222_0, hx222_1, hx222_2, hx222_3⟩ := at_T38 HR1.out x22_1 p222 q222
       cases e222; replace hx222_0 := (HB.out.cell (World.block_lt_of_cell? w _ hx222_0)).trans hx222_0; replace hx222_1 := (HB.out.cell (World.block_lt_of_cell? w _ hx222_1)).trans hx222_1; replace hx222_2 := (HB.out.cell (World.block_lt_of_cell? w _ hx222_2)).trans hx222_2; replace hx222_3 := (HB.out.cell (World.block_lt_of_cell? w _ hx222_3)).trans hx222_3; replace p222 := eq_true p222; replace q222 := eq_true q222; go_wp2_with (first | ((with_reducible refine gate_dst (N := 10) rfl ?_); refine box_event ?hg (N := 10) ?hd (cs := #[.int .i64 0, .int .i64 0, .int .i64 0, .int .i64 0]) (t := 38) ?hr ?_; (case hd => rfl); (case hg => rfl); (case hr => first | (go_simp; done) | (go_simp; rfl)); intro gb223 hg w11 hbox hb; have n0_ := Aside0.mk (Kd.R_below (Kd.R_elderB (rl HO_6) gb223 (Nat.le_of_eq hg.symm)) hb); have n1_ := Aside0.mk (Kd.R_below (rl HO_7) hb); have n2_ := Aside0.mk (below_step (bl HB) hb); have n3_ := Aside0.mk (hbox); have n4_ := Aside0.mk ((by rw [hg]; exact (below_size (bl HB)) : w.heap.size ≤ gb223)); have n5_ := Aside0.mk ((by rw [hg]; exact (below_size (bl HB)) : w.heap.size ≤ gb223)); clear HO_6; clear HO_7; clear HB; have HO_6 := n0_; have HO_7 := n1_; have HB := n2_; have BK223 := n3_; have GW223 := n4_; have GE223 := n5_; clear n0_ n1_ n2_ n3_ n4_ n5_; clear hb hbox hg; have hcz12_0 : w11.cell? ⟨gb223, 0, none⟩ = some (.int .i64 0) := (blk_cell BK223.out 0).trans rfl; have hcz12_1 : w11.cell? ⟨gb223, 1, none⟩ = some (.int .i64 0) := (blk_cell BK223.out 1).trans rfl; have hcz12_2 : w11.cell? ⟨gb223, 2, none⟩ = some (.int .i64 0) := (blk_cell BK223.out 2).trans rfl; have hcz12_3 : w11.cell? ⟨gb223, 3, none⟩ = some (.int .i64 0) := (blk_cell BK223.out 3).trans rfl; have hfz12_0 := blk_frozen BK223.out 0; have hfz12_1 := blk_frozen BK223.out 1; have hfz12_2 := blk_frozen BK223.out 2; have hfz12_3 := blk_frozen BK223.out 3))
       go_loopg [8] k1 (fun kq v8 w' => ∃ (x8_2 : Int), v8 = .int .i64 x8_2 ∧ Aside0 (five_Pieces.l1 kq a0 x6_1 t219 x8_2 l1 (l1.length : Int) x22_1 ((rd_T38 l1 x22_1).f0.f0) ((rd_T38 l1 x22_1).f0.f1) ((rd_T38 l1 x22_1).f1) ((rd_T38 l1 x22_1).f2) = some (r1, r2)) ∧ Aside0 (kq ≤ k1) ∧ Aside0 (Kd.R k38 38 w' w.heap.size (fun k_ => k_ ≠ gb223) u6 x6_1) ∧ Aside0 (Kd.R (Kd.int .i64) 3 w' w.heap.size (fun _ => True) v220 t219) ∧ Aside0 (w'.heap[gb223]? = some (.cells #[.int .i64 ((rd_T38 l1 x22_1).f0.f0), .int .i64 ((rd_T38 l1 x22_1).f0.f1), .int .i64 ((rd_T38 l1 x22_1).f1), .int .i64 ((rd_T38 l1 x22_1).f2)] 38 (0, 0))) ∧ Aside0 (Below w.heap.size w w'))
       case atStart => exact ⟨(x8_1), (by first | rfl | (simp; done) | (simp [*]; done) | (simp; exact xEmpty_ne _) | (simp [*]; exact xEmpty_ne _)), H', ⟨Nat.le_refl _⟩, ⟨by (with_reducible repeat (first | apply Kd.R_alloc | apply Kd.R_drewN | apply Kd.R_drew)); exact Kd.R_mono (Kd.R_far (p := ⟨gb223, 3, none⟩) (Kd.R_far (p := ⟨gb223, 2, none⟩) (Kd.R_far (p := ⟨gb223, 1, none⟩) (Kd.R_far (p := ⟨gb223, 0, none⟩) (Kd.R_mono HO_6.out (fun k_ hk => (⟨hk, hk.2⟩ : _ ∧ k_ ≠ gb223))) (fun _ hk => hk.2) (.int .i64 ((rd_T38 l1 x22_1).f0.f0))) (fun _ hk => hk.2) (.int .i64 ((rd_T38 l1 x22_1).f0.f1))) (fun _ hk => hk.2) (.int .i64 ((rd_T38 l1 x22_1).f1))) (fun _ hk => hk.2) (.int .i64 ((rd_T38 l1 x22_1).f2))) (fun _ hk => hk.1.2)⟩, ⟨by (with_reducible repeat (first | apply Kd.R_alloc | apply Kd.R_drewN | apply Kd.R_drew)); exact Kd.R_mono (Kd.R_far (p := ⟨gb223, 3, none⟩) (Kd.R_far (p := ⟨gb223, 2, none⟩) (Kd.R_far (p := ⟨gb223, 1, none⟩) (Kd.R_far (p := ⟨gb223, 0, none⟩) (Kd.R_types HO_7.out BK223.out (by decide)) (fun _ hk => hk.2) (.int .i64 ((rd_T38 l1 x22_1).f0.f0))) (fun _ hk => hk.2) (.int .i64 ((rd_T38 l1 x22_1).f0.f1))) (fun _ hk => hk.2) (.int .i64 ((rd_T38 l1 x22_1).f1))) (fun _ hk => hk.2) (.int .i64 ((rd_T38 l1 x22_1).f2))) (fun _ hk => trivial)⟩, ⟨by (with_reducible repeat (first | refine blk_drewN ?_ _ | refine blk_drew ?_ | refine blk_alloc ?_ _)); refine blk_put (cs := #[.int .i64 ((rd_T38 l1 x22_1).f0.f0), .int .i64 ((rd_T38 l1 x22_1).f0.f1), .int .i64 ((rd_T38 l1 x22_1).f1), .int .i64 0]) ?_ 3 _ rfl; (with_reducible repeat (first | refine blk_drewN ?_ _ | refine blk_drew ?_ | refine blk_alloc ?_ _)); refine blk_put (cs := #[.int .i64 ((rd_T38 l1 x22_1).f0.f0), .int .i64 ((rd_T38 l1 x22_1).f0.f1), .int .i64 0, .int .i64 0]) ?_ 2 _ rfl; (with_reducible repeat (first | refine blk_drewN ?_ _ | refine blk_drew ?_ | refine blk_alloc ?_ _)); refine blk_put (cs := #[.int .i64 ((rd_T38 l1 x22_1).f0.f0), .int .i64 0, .int .i64 0, .int .i64 0]) ?_ 1 _ rfl; (with_reducible repeat (first | refine blk_drewN ?_ _ | refine blk_drew ?_ | refine blk_alloc ?_ _)); refine blk_put (cs := #[.int .i64 0, .int .i64 0, .int .i64 0, .int .i64 0]) ?_ 0 _ rfl; (with_reducible repeat (first | refine blk_drewN ?_ _ | refine blk_drew ?_ | refine blk_alloc ?_ _)); exact BK223.out⟩, ⟨by repeat (first | (with_reducible first | exact HB.out | apply below_alloc | apply pw_below_drewN | apply below_drew1 | refine below_set ?_ GE223.out) | exact HB.out)⟩⟩
       case round =>
        clear H'; (try clear c1); (try clear c2); (try clear p2); (try clear q2); (try clear hx2); (try clear c4); (try clear c8); (try clear c8b0); (try clear c9); (try clear c9b0); (try clear c10); (try clear c10b0); (try clear c11); (try clear hcz12_0); (try clear hcz12_1); (try clear hcz12_2); (try clear hcz12_3); (try clear hfz12_0); (try clear hfz12_1); (try clear hfz12_2); (try clear hfz12_3); (try clear hx222_0); (try clear hx222_1); (try clear hx222_2); (try clear hx222_3); (try clear p2); (try clear p222); (try clear q222); (try clear HO_6); (try clear HO_7); (try clear BK223); (try clear HB)
        obtain ⟨x8_2, rfl, HA, HK2, HO_6, HO_7, BK223, HB⟩ := hrel
        cases gk with
        | zero => exact absurd HA.out (by simp [five_Pieces.l1])
        | succ k2 =>
         have H := HA.out
         clear HA; simp only [five_Pieces.l1] at H
         obtain ⟨ji13, hji13⟩ : ∃ j_ : Int, (wrap64 (x8_2 + 1)) = j_ := ⟨_, rfl⟩
         replace H : (if 0 ≤ (ji13) then (if (ji13) < (t219.length : Int) then (if (rd t219 (ji13)) ≤ ((rd_T38 l1 x22_1).f0.f0) then (five_Pieces.l1 k2 a0 x6_1 t219 ji13 l1 (l1.length : Int) x22_1 ((rd_T38 l1 x22_1).f0.f0) ((rd_T38 l1 x22_1).f0.f1) ((rd_T38 l1 x22_1).f1) ((rd_T38 l1 x22_1).f2)) else (five_Pieces.l2 k2 a0 x6_1 t219 x8_2 x8_2 l1 (l1.length : Int) x22_1 ((rd_T38 l1 x22_1).f0.f0) ((rd_T38 l1 x22_1).f0.f1) ((rd_T38 l1 x22_1).f1) ((rd_T38 l1 x22_1).f2))) else (none)) else (none)) = some (r1, r2) := by first | (rw [hji13] at H; exact H) | (simp only [hji13] at H ⊢; exact H)
         have hji13w : (IntKind.i64.wrap (x8_2 + 1)) = ji13 := (i64_w _).trans hji13
         by_cases c14 : 0 ≤ (ji13)
         ·rw [if_pos c14] at H; have c14b0 : decide (0 ≤ (ji13)) = true := decide_eq_true c14; clear c14; by_cases c15 : (ji13) < (t219.length : Int)
          ·rw [if_pos c15] at H; have c15b0 : decide ((ji13) < (t219.length : Int)) = true := decide_eq_true c15; clear c15; by_cases c16 : (rd t219 (ji13)) ≤ ((rd_T38 l1 x22_1).f0.f0)
           ·rw [if_pos c16] at H; have c16b0 : decide ((rd t219 (ji13)) ≤ ((rd_T38 l1 x22_1).f0.f0)) = true := decide_eq_true c16; clear c16; have H' := Aside0.mk H; clear H; try go_wp2
            have n0_ := Aside0.mk (Kd.R_drew HO_6.out); have n1_ := Aside0.mk (Kd.R_drew HO_7.out); have n2_ := Aside0.mk (blk_drew BK223.out); have n3_ := Aside0.mk (below_drew1 HB.out); clear HO_6; clear HO_7; clear BK223; clear HB; have HO_6 := n0_; have HO_7 := n1_; have BK223 := n2_; have HB := n3_; clear n0_ n1_ n2_ n3_; obtain ⟨Ao18, co18, eo18⟩ := Kd.R_slice HO_7.out
            (first | subst eo18 | (injection eo18 with f1_ f2_ f3_; have f4_ := f1_.symm; have f5_ := f3_.symm; clear f1_ f2_ f3_; subst f4_; subst f5_))
            have p224 : 0 ≤ ((ji13) : Int) := of_decide_eq_true (by first | (with_reducible assumption) | assumption)
            have q224 : (ji13) < (t219.length : Int) := of_decide_eq_true (by first | (with_reducible assumption) | assumption)
            obtain ⟨ad224, e224, hx224_0⟩ := Kd.at_int (Kd.R_reads' HO_7.out).2.2 (ji13) p224 q224
            cases e224; replace p224 := eq_true p224; replace q224 := eq_true q224; refine start_ (n := 9) (S := fun w' => w'.cell? ⟨gb223, 0, none⟩ = some (.int .i64 ((rd_T38 l1 x22_1).f0.f0)) ∧ w'.cell? ⟨gb223, 1, none⟩ = some (.int .i64 ((rd_T38 l1 x22_1).f0.f1)) ∧ w'.cell? ⟨gb223, 2, none⟩ = some (.int .i64 ((rd_T38 l1 x22_1).f1)) ∧ w'.cell? ⟨gb223, 3, none⟩ = some (.int .i64 ((rd_T38 l1 x22_1).f2)) ∧ w'.cell? (ad224.add ((ji13)).toNat) = some (.int .i64 (rd t219 (ji13)))) (ds := []) (bz 9 0) (by kernel_rfl) rfl rfl ⟨(blk_cell BK223.out 0).trans rfl, (blk_cell BK223.out 1).trans rfl, (blk_cell BK223.out 2).trans rfl, (blk_cell BK223.out 3).trans rfl, hx224_0⟩ (fun hHeld => ?_); refine with_tabW five_Pieces.tab9 five_Pieces.bits9 (fun HT_ HW_ => ?_)
            generalize wr.drew = w17 at HO_6 HO_7 BK223 HB hx224_0 hHeld ⊢
            refine pu 0 (some 26) (bz 9 1) HT_ rfl rfl ?_; refine pu 1 (some 27) (bz 9 3) HT_ rfl rfl ?_; refine pu 2 (some 28) (bz 9 7) HT_ rfl rfl ?_; refine pu 3 (some 29) (bz 9 15) HT_ rfl rfl ?_; refine pu 5 (some 31) (bz 9 47) HT_ rfl rfl ?_; refine pu 6 (some 32) (bz 9 111) HT_ rfl rfl ?_; refine tk 4 (some 30) (bz 9 127) HT_ HW_ rfl rfl hHeld ?_; refine tk 7 (some 33) (bz 9 255) HT_ HW_ rfl rfl hHeld ?_; refine pu 8 (some 34) (bz 9 511) HT_ rfl rfl ?_; refine done_ (done_of HT_.out (by kernel_rfl)) ?_
            try go_wp2
            go_roundg k2
            case measure => have := HK1.out; have := HK2.out; omega
            case rel => exact ⟨(ji13), (by first | rfl | (simp; done) | (simp only [← hji13] <;> (first | rfl | simp)) | (simp [*]; done)), H', ⟨by have := HK1.out; have := HK2.out; omega⟩, ⟨rl HO_6⟩, ⟨rl HO_7⟩, ⟨kl BK223⟩, ⟨by repeat (first | (with_reducible first | exact HB.out | apply below_alloc | apply pw_below_drewN | apply below_drew1 | refine below_set ?_ GE223.out) | exact HB.out)⟩⟩
           ·rw [if_neg c16] at H; have c16b0 : decide ((rd t219 (ji13)) ≤ ((rd_T38 l1 x22_1).f0.f0)) = false := decide_eq_false c16; clear c16; have H' := Aside0.mk H; clear H; try go_wp2
            have n0_ := Aside0.mk (Kd.R_drew HO_6.out); have n1_ := Aside0.mk (Kd.R_drew HO_7.out); have n2_ := Aside0.mk (blk_drew BK223.out); have n3_ := Aside0.mk (below_drew1 HB.out); clear HO_6; clear HO_7; clear BK223; clear HB; have HO_6 := n0_; have HO_7 := n1_; have BK223 := n2_; have HB := n3_; clear n0_ n1_ n2_ n3_; obtain ⟨Ao20, co20, eo20⟩ := Kd.R_slice HO_7.out
            (first | subst eo20 | (injection eo20 with f1_ f2_ f3_; have f4_ := f1_.symm; have f5_ := f3_.symm; clear f1_ f2_ f3_; subst f4_; subst f5_))
            have p224 : 0 ≤ ((ji13) : Int) := of_decide_eq_true (by first | (with_reducible assumption) | assumption)
            have q224 : (ji13) < (t219.length : Int) := of_decide_eq_true (by first | (with_reducible assumption) | assumption)
            obtain ⟨ad224, e224, hx224_0⟩ := Kd.at_int (Kd.R_reads' HO_7.out).2.2 (ji13) p224 q224
            cases e224; replace p224 := eq_true p224; replace q224 := eq_true q224; refine start_ (n := 9) (S := fun w' => w'.cell? ⟨gb223, 0, none⟩ = some (.int .i64 ((rd_T38 l1 x22_1).f0.f0)) ∧ w'.cell? ⟨gb223, 1, none⟩ = some (.int .i64 ((rd_T38 l1 x22_1).f0.f1)) ∧ w'.cell? ⟨gb223, 2, none⟩ = some (.int .i64 ((rd_T38 l1 x22_1).f1)) ∧ w'.cell? ⟨gb223, 3, none⟩ = some (.int .i64 ((rd_T38 l1 x22_1).f2)) ∧ w'.cell? (ad224.add ((ji13)).toNat) = some (.int .i64 (rd t219 (ji13)))) (ds := []) (bz 9 0) (by kernel_rfl) rfl rfl ⟨(blk_cell BK223.out 0).trans rfl, (blk_cell BK223.out 1).trans rfl, (blk_cell BK223.out 2).trans rfl, (blk_cell BK223.out 3).trans rfl, hx224_0⟩ (fun hHeld => ?_); refine with_tabW five_Pieces.tab9 five_Pieces.bits9 (fun HT_ HW_ => ?_)
            generalize wr.drew = w19 at HO_6 HO_7 BK223 HB hx224_0 hHeld ⊢
            refine pu 0 (some 26) (bz 9 1) HT_ rfl rfl ?_; refine pu 1 (some 27) (bz 9 3) HT_ rfl rfl ?_; refine pu 2 (some 28) (bz 9 7) HT_ rfl rfl ?_; refine pu 3 (some 29) (bz 9 15) HT_ rfl rfl ?_; refine pu 5 (some 31) (bz 9 47) HT_ rfl rfl ?_; refine pu 6 (some 32) (bz 9 111) HT_ rfl rfl ?_; refine tk 4 (some 30) (bz 9 127) HT_ HW_ rfl rfl hHeld ?_; refine tk 7 (some 33) (bz 9 255) HT_ HW_ rfl rfl hHeld ?_; refine pu 8 (some 34) (bz 9 511) HT_ rfl rfl ?_; refine done_ (done_of HT_.out (by kernel_rfl)) ?_
            try go_wp2
            go_loopg [6, 11] k2 (fun kq v6 v11 w' => ∃ (x6_3 : List (S38)) (x11_3 : Int), v11 = .int .i64 x11_3 ∧ Aside0 (five_Pieces.l2 kq a0 x6_3 t219 x8_2 x11_3 l1 (l1.length : Int) x22_1 ((rd_T38 l1 x22_1).f0.f0) ((rd_T38 l1 x22_1).f0.f1) ((rd_T38 l1 x22_1).f1) ((rd_T38 l1 x22_1).f2) = some (r1, r2)) ∧ Aside0 (kq ≤ k2) ∧ Aside0 (Kd.R k38 38 w' w.heap.size (fun k_ => k_ ≠ gb223) v6 x6_3) ∧ Aside0 (Kd.R (Kd.int .i64) 3 w' w.heap.size (fun _ => True) (.slice (some ad224) t219.length co20) t219) ∧ Aside0 (w'.heap[gb223]? = some (.cells #[.int .i64 ((rd_T38 l1 x22_1).f0.f0), .int .i64 ((rd_T38 l1 x22_1).f0.f1), .int .i64 ((rd_T38 l1 x22_1).f1), .int .i64 ((rd_T38 l1 x22_1).f2)] 38 (0, 0))) ∧ Aside0 (Below w.heap.size w w'))
            case atStart => exact ⟨(x6_1), (x8_2), (by first | rfl | (simp; done) | (simp [*]; done) | (simp; exact xEmpty_ne _) | (simp [*]; exact xEmpty_ne _)), H', ⟨Nat.le_refl _⟩, ⟨rl HO_6⟩, ⟨rl HO_7⟩, ⟨kl BK223⟩, ⟨by repeat (first | (with_reducible first | exact HB.out | apply below_alloc | apply pw_below_drewN | apply below_drew1 | refine below_set ?_ GE223.out) | exact HB.out)⟩⟩
            case round =>
             clear H'; (try clear c1); (try clear c2); (try clear p2); (try clear q2); (try clear hx2); (try clear c4); (try clear p6); (try clear c8); (try clear c8b0); (try clear c9); (try clear c9b0); (try clear c10); (try clear c10b0); (try clear c11); (try clear c14); (try clear c14b0); (try clear c15); (try clear c15b0); (try clear c16); (try clear c16b0); (try clear hcz12_0); (try clear hcz12_1); (try clear hcz12_2); (try clear hcz12_3); (try clear hfz12_0); (try clear hfz12_1); (try clear hfz12_2); (try clear hfz12_3); (try clear hx222_0); (try clear hx222_1); (try clear hx222_2); (try clear hx222_3); (try clear hx224_0); (try clear p2); (try clear p222); (try clear p224); (try clear q2); (try clear q222); (try clear q224); (try clear HO_6); (try clear HO_7); (try clear BK223); (try clear HB)
             obtain ⟨x6_3, x11_3, rfl, HA, HK3, HO_6, HO_7, BK223, HB⟩ := hrel
             cases gk with
             | zero => exact absurd HA.out (by simp [five_Pieces.l2])
             | succ k3 =>
              have H := HA.out
              clear HA; simp only [five_Pieces.l2] at H
              have HC21 := Aside0.mk H; clear H; go_upto_region 12 with (fail)
              go_cut [52] (fun v52 wc => ∃ (kq : Nat) (x52_20 : Bool), v52 = .bool x52_20 ∧ Aside0 (five_Pieces.j3 kq a0 x6_3 t219 x8_2 x11_3 l1 (l1.length : Int) x22_1 x52_20 ((rd_T38 l1 x22_1).f0.f0) ((rd_T38 l1 x22_1).f0.f1) ((rd_T38 l1 x22_1).f1) ((rd_T38 l1 x22_1).f2) = some (r1, r2)) ∧ Aside0 (kq ≤ k3) ∧ Aside0 (Kd.R k38 38 wc w.heap.size (fun k_ => k_ ≠ gb223) u6 x6_3) ∧ Aside0 (Kd.R (Kd.int .i64) 3 wc w.heap.size (fun _ => True) (.slice (some ad224) t219.length co20) t219) ∧ Aside0 (wc.heap[gb223]? = some (.cells #[.int .i64 ((rd_T38 l1 x22_1).f0.f0), .int .i64 ((rd_T38 l1 x22_1).f0.f1), .int .i64 ((rd_T38 l1 x22_1).f1), .int .i64 ((rd_T38 l1 x22_1).f2)] 38 (0, 0))) ∧ Aside0 (Below w.heap.size w wc))
              case first =>
               have H := HC21.out
               clear HC21; by_cases c22 : (wrap64 (x11_3 + 1)) < (t219.length : Int)
               ·rw [if_pos c22] at H; have c22b0 : decide ((wrap64 (x11_3 + 1)) < (t219.length : Int)) = true := decide_eq_true c22; clear c22; (first | rw [c22b0] | rw [c22b1] | (simp only [i64_w, i32_w]; rw [c22b0]) | skip)
                by_cases c23 : 0 ≤ x11_3
                ·rw [if_pos c23] at H; have c23b0 : decide (0 ≤ x11_3) = true := decide_eq_true c23; clear c23; by_cases c24 : x11_3 < (t219.length : Int)
                 ·rw [if_pos c24] at H; have c24b0 : decide (x11_3 < (t219.length : Int)) = true := decide_eq_true c24; clear c24; have H' := Aside0.mk H; clear H; try go_wp2
                  have n0_ := Aside0.mk (Kd.R_drew HO_6.out); have n1_ := Aside0.mk (Kd.R_drew HO_7.out); have n2_ := Aside0.mk (blk_drew BK223.out); have n3_ := Aside0.mk (below_drew1 HB.out); clear HO_6; clear HO_7; clear BK223; clear HB; have HO_6 := n0_; have HO_7 := n1_; have BK223 := n2_; have HB := n3_; clear n0_ n1_ n2_ n3_; have p225 : 0 ≤ (x11_3 : Int) := of_decide_eq_true (by first | (with_reducible assumption) | assumption)
                  have q225 : x11_3 < (t219.length : Int) := of_decide_eq_true (by first | (with_reducible assumption) | assumption)
                  obtain ⟨ad225, e225, hx225_0⟩ := Kd.at_int (Kd.R_reads' HO_7.out).2.2 x11_3 p225 q225
                  obtain rfl : ad224 = ad225 := (by injection e225)
                  replace p225 := eq_true p225; replace q225 := eq_true q225; refine start_ (n := 15) (S := fun w' => w'.cell? ⟨gb223, 0, none⟩ = some (.int .i64 ((rd_T38 l1 x22_1).f0.f0)) ∧ w'.cell? ⟨gb223, 1, none⟩ = some (.int .i64 ((rd_T38 l1 x22_1).f0.f1)) ∧ w'.cell? ⟨gb223, 2, none⟩ = some (.int .i64 ((rd_T38 l1 x22_1).f1)) ∧ w'.cell? ⟨gb223, 3, none⟩ = some (.int .i64 ((rd_T38 l1 x22_1).f2)) ∧ w'.cell? (ad224.add (x11_3).toNat) = some (.int .i64 (rd t219 x11_3))) (ds := []) (bz 15 0) (by kernel_rfl) rfl rfl ⟨(blk_cell BK223.out 0).trans rfl, (blk_cell BK223.out 1).trans rfl, (blk_cell BK223.out 2).trans rfl, (blk_cell BK223.out 3).trans rfl, hx225_0⟩ (fun hHeld => ?_); refine with_tabW five_Pieces.tab12 five_Pieces.bits12 (fun HT_ HW_ => ?_)
                  generalize wr.drew = w25 at HO_6 HO_7 BK223 HB hx225_0 hHeld ⊢
                  refine pu 0 (some 38) (bz 15 1) HT_ rfl rfl ?_; refine pu 1 (some 39) (bz 15 3) HT_ rfl rfl ?_; refine pu 2 (some 40) (bz 15 7) HT_ rfl rfl ?_; refine pu 3 (some 41) (bz 15 15) HT_ rfl rfl ?_; refine pu 4 (some 42) (bz 15 31) HT_ rfl rfl ?_; refine pu 5 (some 43) (bz 15 63) HT_ rfl rfl ?_; refine pu 6 (some 44) (bz 15 127) HT_ rfl rfl ?_; refine pu 7 (some 45) (bz 15 255) HT_ rfl rfl ?_; refine pu 8 (some 46) (bz 15 511) HT_ rfl rfl ?_; refine pu 10 (some 48) (bz 15 1535) HT_ rfl rfl ?_; refine pu 11 (some 49) (bz 15 3583) HT_ rfl rfl ?_; refine tk 9 (some 47) (bz 15 4095) HT_ HW_ rfl rfl hHeld ?_; refine tk 12 (some 50) (bz 15 8191) HT_ HW_ rfl rfl hHeld ?_; refine pu 13 (some 51) (bz 15 16383) HT_ rfl rfl ?_; refine pu 14 (some 52) (bz 15 32767) HT_ rfl rfl ?_; refine done_ (done_of HT_.out (by kernel_rfl)) ?_
                  try go_wp2
                  go_meet
                  case rel => exact ⟨_, (decide ((rd t219 x11_3) < ((rd_T38 l1 x22_1).f0.f1))), (by first | rfl | (simp; done) | (simp [*]; done) | (simp; exact xEmpty_ne _) | (simp [*]; exact xEmpty_ne _)), H', ⟨by have := HK1.out; have := HK2.out; have := HK3.out; first | omega | exact Nat.le_refl _⟩, ⟨rl HO_6⟩, ⟨rl HO_7⟩, ⟨kl BK223⟩, ⟨by repeat (first | (with_reducible first | exact HB.out | apply below_alloc | apply pw_below_drewN | apply below_drew1 | refine below_set ?_ GE223.out) | exact HB.out)⟩⟩
                 ·rw [if_neg c24] at H; exact absurd H (by simp)
                ·rw [if_neg c23] at H; exact absurd H (by simp)
               ·rw [if_neg c22] at H; have c22b0 : decide ((wrap64 (x11_3 + 1)) < (t219.length : Int)) = false := decide_eq_false c22; clear c22; (first | rw [c22b0] | rw [c22b1] | (simp only [i64_w, i32_w]; rw [c22b0]) | skip)
                have H' := Aside0.mk H; clear H; try go_wp2
                have n0_ := Aside0.mk (Kd.R_drew HO_6.out); have n1_ := Aside0.mk (Kd.R_drew HO_7.out); have n2_ := Aside0.mk (blk_drew BK223.out); have n3_ := Aside0.mk (below_drew1 HB.out); clear HO_6; clear HO_7; clear BK223; clear HB; have HO_6 := n0_; have HO_7 := n1_; have BK223 := n2_; have HB := n3_; clear n0_ n1_ n2_ n3_; refine start_ (n := 15) (S := fun w' => True) (ds := []) (bz 15 0) (by kernel_rfl) rfl rfl trivial (fun hHeld => ?_); refine with_tabW five_Pieces.tab12 five_Pieces.bits12 (fun HT_ HW_ => ?_)
                generalize wr.drew = w26 at HO_6 HO_7 BK223 HB hHeld ⊢
                refine pu 0 (some 38) (bz 15 1) HT_ rfl rfl ?_; refine pu 1 (some 39) (bz 15 3) HT_ rfl rfl ?_; refine pu 2 (some 40) (bz 15 7) HT_ rfl rfl ?_; refine pu 3 (some 41) (bz 15 15) HT_ rfl rfl ?_; refine pu 4 (some 42) (bz 15 31) HT_ rfl rfl ?_; refine pu 5 (some 43) (bz 15 63) HT_ rfl rfl ?_; refine pf 6 (some 44) (bz 15 127) HT_ rfl rfl ?_; refine pf 7 (some 45) (bz 15 255) HT_ rfl rfl ?_; refine pf 8 (some 46) (bz 15 511) HT_ rfl rfl ?_; refine pf 9 (some 47) (bz 15 1023) HT_ rfl rfl ?_; refine pf 10 (some 48) (bz 15 2047) HT_ rfl rfl ?_; refine pf 11 (some 49) (bz 15 4095) HT_ rfl rfl ?_; refine pf 12 (some 50) (bz 15 8191) HT_ rfl rfl ?_; refine pf 13 (some 51) (bz 15 16383) HT_ rfl rfl ?_; refine pu 14 (some 52) (bz 15 32767) HT_ rfl rfl ?_; refine done_ (done_of HT_.out (by kernel_rfl)) ?_
                try go_wp2
                go_meet
                case rel => exact ⟨_, (false), (by first | rfl | (simp; done) | (simp [*]; done) | (simp; exact xEmpty_ne _) | (simp [*]; exact xEmpty_ne _)), H', ⟨by have := HK1.out; have := HK2.out; have := HK3.out; first | omega | exact Nat.le_refl _⟩, ⟨rl HO_6⟩, ⟨rl HO_7⟩, ⟨kl BK223⟩, ⟨by repeat (first | (with_reducible first | exact HB.out | apply below_alloc | apply pw_below_drewN | apply below_drew1 | refine below_set ?_ GE223.out) | exact HB.out)⟩⟩
              case rest =>
               clear HC21; (try clear c1); (try clear c2); (try clear p2); (try clear q2); (try clear hx2); (try clear c4); (try clear p6); (try clear c8); (try clear c8b0); (try clear c9); (try clear c9b0); (try clear c10); (try clear c10b0); (try clear c11); (try clear c14); (try clear c14b0); (try clear c15); (try clear c15b0); (try clear c16); (try clear c16b0); (try clear c22); (try clear c22b0); (try clear p22); (try clear q22); (try clear hx22); (try clear c23); (try clear c23b0); (try clear c24); (try clear c24b0); (try clear hcz12_0); (try clear hcz12_1); (try clear hcz12_2); (try clear hcz12_3); (try clear hfz12_0); (try clear hfz12_1); (try clear hfz12_2); (try clear hfz12_3); (try clear hx222_0); (try clear hx222_1); (try clear hx222_2); (try clear hx222_3); (try clear hx224_0); (try clear hx225_0); (try clear p2); (try clear p222); (try clear p224); (try clear p225); (try clear p6); (try clear q2); (try clear q222); (try clear q224); (try clear q225); obtain ⟨kq, x52_20, rfl, HA, HJ20, HO_6, HO_7, BK223, HB⟩ := hcut
               cases kq with
               | zero => exact absurd HA.out (by simp [five_Pieces.j3])
               | succ kj20 =>
                have H := HA.out
                clear HA; simp only [five_Pieces.j3] at H
                by_cases c27 : x52_20 = true
                ·subst c27; have H1 : (if 0 ≤ (wrap64 (x11_3 + 1)) then (if (wrap64 (x11_3 + 1)) < (t219.length : Int) then (five_Pieces.l3 kj20 a0 x6_3 t219 x8_2 x11_3 (mn (rd t219 (wrap64 (x11_3 + 1))) (a0.size : Int)) l1 (l1.length : Int) x22_1 ((rd_T38 l1 x22_1).f0.f0) ((rd_T38 l1 x22_1).f0.f1) ((rd_T38 l1 x22_1).f1) ((rd_T38 l1 x22_1).f2)) else (none)) else (none)) = some (r1, r2) := by rw [if_pos rfl] at H; exact H
                 clear H; have H := H1
                 clear H1; obtain ⟨ji28, hji28⟩ : ∃ j_ : Int, (wrap64 (x11_3 + 1)) = j_ := ⟨_, rfl⟩
                 replace H : (if 0 ≤ (ji28) then (if (ji28) < (t219.length : Int) then (five_Pieces.l3 kj20 a0 x6_3 t219 x8_2 x11_3 (mn (rd t219 (ji28)) (a0.size : Int)) l1 (l1.length : Int) x22_1 ((rd_T38 l1 x22_1).f0.f0) ((rd_T38 l1 x22_1).f0.f1) ((rd_T38 l1 x22_1).f1) ((rd_T38 l1 x22_1).f2)) else (none)) else (none)) = some (r1, r2) := by first | (rw [hji28] at H; exact H) | (simp only [hji28] at H ⊢; exact H)
                 have hji28w : (IntKind.i64.wrap (x11_3 + 1)) = ji28 := (i64_w _).trans hji28
                 by_cases c29 : 0 ≤ (ji28)
                 ·rw [if_pos c29] at H; have c29b0 : decide (0 ≤ (ji28)) = true := decide_eq_true c29; clear c29; by_cases c30 : (ji28) < (t219.length : Int)
                  ·rw [if_pos c30] at H; have c30b0 : decide ((ji28) < (t219.length : Int)) = true := decide_eq_true c30; clear c30; obtain ⟨ji31, hji31⟩ : ∃ j_ : Int, (mn (rd t219 (ji28)) (a0.size : Int)) = j_ := ⟨_, rfl⟩
                   replace H : (five_Pieces.l3 kj20 a0 x6_3 t219 x8_2 x11_3 ji31 l1 (l1.length : Int) x22_1 ((rd_T38 l1 x22_1).f0.f0) ((rd_T38 l1 x22_1).f0.f1) ((rd_T38 l1 x22_1).f1) ((rd_T38 l1 x22_1).f2)) = some (r1, r2) := by first | (rw [hji31] at H; exact H) | (simp only [hji31] at H ⊢; exact H)
                   have hji31_ : (if (a0.size : Int) < (rd t219 (ji28)) then (a0.size : Int) else (rd t219 (ji28))) = ji31 := hji31
                   have H' := Aside0.mk H; clear H; have p226 : 0 ≤ ((ji28) : Int) := of_decide_eq_true (by first | (with_reducible assumption) | assumption)
                   have q226 : (ji28) < (t219.length : Int) := of_decide_eq_true (by first | (with_reducible assumption) | assumption)
                   obtain ⟨ad226, e226, hx226_0⟩ := Kd.at_int (Kd.R_reads' HO_7.out).2.2 (ji28) p226 q226
                   obtain rfl : ad224 = ad226 := (by injection e226)
                   replace p226 := eq_true p226; replace q226 := eq_true q226; go_wp2
                   go_loopg [12] kj20 (fun kq v12 w' => ∃ (x12_5 : Int), v12 = .int .i64 x12_5 ∧ Aside0 (five_Pieces.l3 kq a0 x6_3 t219 x8_2 x11_3 x12_5 l1 (l1.length : Int) x22_1 ((rd_T38 l1 x22_1).f0.f0) ((rd_T38 l1 x22_1).f0.f1) ((rd_T38 l1 x22_1).f1) ((rd_T38 l1 x22_1).f2) = some (r1, r2)) ∧ Aside0 (kq ≤ kj20) ∧ Aside0 (Kd.R k38 38 w' w.heap.size (fun k_ => k_ ≠ gb223) u6 x6_3) ∧ Aside0 (Kd.R (Kd.int .i64) 3 w' w.heap.size (fun _ => True) (.slice (some ad224) t219.length co20) t219) ∧ Aside0 (w'.heap[gb223]? = some (.cells #[.int .i64 ((rd_T38 l1 x22_1).f0.f0), .int .i64 ((rd_T38 l1 x22_1).f0.f1), .int .i64 ((rd_T38 l1 x22_1).f1), .int .i64 ((rd_T38 l1 x22_1).f2)] 38 (0, 0))) ∧ Aside0 (Below w.heap.size w w'))
                   case atStart => exact ⟨(ji31), (by first | rfl | (simp; done) | (simp only [← hji31] <;> (first | rfl | simp)) | (simp [*]; done)), H', ⟨Nat.le_refl _⟩, ⟨rl HO_6⟩, ⟨rl HO_7⟩, ⟨kl BK223⟩, ⟨by repeat (first | (with_reducible first | exact HB.out | apply below_alloc | apply pw_below_drewN | apply below_drew1 | refine below_set ?_ GE223.out) | exact HB.out)⟩⟩
                   case round =>
                    clear H'; (try clear c1); (try clear c2); (try clear p2); (try clear q2); (try clear hx2); (try clear c3); (try clear c4); (try clear p6); (try clear c8); (try clear c8b0); (try clear c9); (try clear c9b0); (try clear c10); (try clear c10b0); (try clear c11); (try clear c14); (try clear c14b0); (try clear c15); (try clear c15b0); (try clear c16); (try clear c16b0); (try clear c22); (try clear c22b0); (try clear p22); (try clear q22); (try clear hx22); (try clear c23); (try clear c23b0); (try clear c24); (try clear c24b0); (try clear c27); (try clear c29); (try clear c29b0); (try clear c30); (try clear c30b0); (try clear hcz12_0); (try clear hcz12_1); (try clear hcz12_2); (try clear hcz12_3); (try clear hfz12_0); (try clear hfz12_1); (try clear hfz12_2); (try clear hfz12_3); (try clear hx222_0); (try clear hx222_1); (try clear hx222_2); (try clear hx222_3); (try clear hx224_0); (try clear hx225_0); (try clear hx226_0); (try clear p2); (try clear p22); (try clear p222); (try clear p224); (try clear p225); (try clear p226); (try clear p6); (try clear q2); (try clear q22); (try clear q222); (try clear q224); (try clear q225); (try clear q226); (try clear HO_6); (try clear HO_7); (try clear BK223); (try clear HB)
                    obtain ⟨x12_5, rfl, HA, HK5, HO_6, HO_7, BK223, HB⟩ := hrel
                    cases gk with
                    | zero => exact absurd HA.out (by simp [five_Pieces.l3])
                    | succ k5 =>
                     have H := HA.out
                     clear HA; simp only [five_Pieces.l3] at H
                     by_cases c32 : 0 ≤ x11_3
                     ·rw [if_pos c32] at H; have c32b0 : decide (0 ≤ x11_3) = true := decide_eq_true c32; clear c32; by_cases c33 : x11_3 < (t219.length : Int)
                      ·rw [if_pos c33] at H; have c33b0 : decide (x11_3 < (t219.length : Int)) = true := decide_eq_true c33; clear c33; by_cases c34 : x12_5 > (rd t219 x11_3)
                       ·rw [if_pos c34] at H; have c34b0 : decide ((rd t219 x11_3) < x12_5) = true := decide_eq_true c34; clear c34; obtain ⟨ji35, hji35⟩ : ∃ j_ : Int, (wrap64 (x12_5 - 1)) = j_ := ⟨_, rfl⟩
                        replace H : (if 0 ≤ (ji35) then (if (ji35) < (a0.size : Int) then (if (bt a0 (ji35)) = 10 then (five_Pieces.l3 k5 a0 x6_3 t219 x8_2 x11_3 ji35 l1 (l1.length : Int) x22_1 ((rd_T38 l1 x22_1).f0.f0) ((rd_T38 l1 x22_1).f0.f1) ((rd_T38 l1 x22_1).f1) ((rd_T38 l1 x22_1).f2)) else (if (bt a0 (ji35)) = 13 then (five_Pieces.l3 k5 a0 x6_3 t219 x8_2 x11_3 ji35 l1 (l1.length : Int) x22_1 ((rd_T38 l1 x22_1).f0.f0) ((rd_T38 l1 x22_1).f0.f1) ((rd_T38 l1 x22_1).f1) ((rd_T38 l1 x22_1).f2)) else (if (mx ((rd_T38 l1 x22_1).f0.f0) (rd t219 x11_3)) < (mn ((rd_T38 l1 x22_1).f0.f1) x12_5) then (if x6_3.length < 4398046511104 then (five_Pieces.l2 k5 a0 (x6_3 ++ [(⟨(⟨mx ((rd_T38 l1 x22_1).f0.f0) (rd t219 x11_3), mn ((rd_T38 l1 x22_1).f0.f1) x12_5⟩ : S36), ((rd_T38 l1 x22_1).f1), ((rd_T38 l1 x22_1).f2)⟩ : S38)]) t219 x8_2 (wrap64 (x11_3 + 1)) l1 (l1.length : Int) x22_1 ((rd_T38 l1 x22_1).f0.f0) ((rd_T38 l1 x22_1).f0.f1) ((rd_T38 l1 x22_1).f1) ((rd_T38 l1 x22_1).f2)) else (none)) else (five_Pieces.l2 k5 a0 x6_3 t219 x8_2 (wrap64 (x11_3 + 1)) l1 (l1.length : Int) x22_1 ((rd_T38 l1 x22_1).f0.f0) ((rd_T38 l1 x22_1).f0.f1) ((rd_T38 l1 x22_1).f1) ((rd_T38 l1 x22_1).f2))))) else (none)) else (none)) = some (r1, r2) := by first | (rw [hji35] at H; exact H) | (simp only [hji35] at H ⊢; exact H)
                        have hji35w : (IntKind.i64.wrap (x12_5 - 1)) = ji35 := (i64_w _).trans hji35
                        by_cases c36 : 0 ≤ (ji35)
                        ·rw [if_pos c36] at H; have c36b0 : decide (0 ≤ (ji35)) = true := decide_eq_true c36; clear c36; by_cases c37 : (ji35) < (a0.size : Int)
                         ·rw [if_pos c37] at H; have c37b0 : decide ((ji35) < (a0.size : Int)) = true := decide_eq_true c37; clear c37; by_cases c39 : (bt a0 (ji35)) = 10
                          ·rw [if_pos c39] at H; have c39b0 : ((bt a0 (ji35)) == 10) = true := beq_iff_eq.mpr c39
                           have c39b1 : ((bt a0 (ji35)) != 10) = false := bne_eq_false_iff_eq.mpr c39
                           clear c39; have H' := Aside0.mk H; clear H; have p227 : 0 ≤ (x11_3 : Int) := of_decide_eq_true (by first | (with_reducible assumption) | assumption)
                           have q227 : x11_3 < (t219.length : Int) := of_decide_eq_true (by first | (with_reducible assumption) | assumption)
                           obtain ⟨ad227, e227, hx227_0⟩ := Kd.at_int (Kd.R_reads' HO_7.out).2.2 x11_3 p227 q227
                           obtain rfl : ad224 = ad227 := (by injection e227)
                           replace p227 := eq_true p227; replace q227 := eq_true q227; have p38 : 0 ≤ ((ji35) : Int) := of_decide_eq_true (by first | (with_reducible assumption) | assumption)
                           have q38 : (ji35) < (a0.size : Int) := of_decide_eq_true (by first | (with_reducible assumption) | assumption)
                           have hx38 := bt_at a0 (ji35)
                           replace p38 := eq_true p38; replace q38 := eq_true q38; go_wp2
                           go_roundg k5
                           case measure => have := HK1.out; have := HK2.out; have := HK3.out; have := HJ20.out; have := HK5.out; omega
                           case rel => exact ⟨(ji35), (by first | rfl | (simp; done) | (simp only [← hji35] <;> (first | rfl | simp)) | (simp [*]; done)), H', ⟨by have := HK1.out; have := HK2.out; have := HK3.out; have := HJ20.out; have := HK5.out; omega⟩, ⟨rl HO_6⟩, ⟨rl HO_7⟩, ⟨kl BK223⟩, ⟨by repeat (first | (with_reducible first | exact HB.out | apply below_alloc | apply pw_below_drewN | apply below_drew1 | refine below_set ?_ GE223.out) | exact HB.out)⟩⟩
                          ·rw [if_neg c39] at H; have c39b0 : ((bt a0 (ji35)) == 10) = false := beq_eq_false_iff_ne.mpr c39; have c39b1 : ((bt a0 (ji35)) != 10) = true := bne_iff_ne.mpr c39; by_cases c41 : (bt a0 (ji35)) = 13
                           ·rw [if_pos c41] at H; have c41b0 : ((bt a0 (ji35)) == 13) = true := beq_iff_eq.mpr c41
                            have c41b1 : ((bt a0 (ji35)) != 13) = false := bne_eq_false_iff_eq.mpr c41
                            clear c41; have H' := Aside0.mk H; clear H; have p227 : 0 ≤ (x11_3 : Int) := of_decide_eq_true (by first | (with_reducible assumption) | assumption)
                            have q227 : x11_3 < (t219.length : Int) := of_decide_eq_true (by first | (with_reducible assumption) | assumption)
                            obtain ⟨ad227, e227, hx227_0⟩ := Kd.at_int (Kd.R_reads' HO_7.out).2.2 x11_3 p227 q227
                            obtain rfl : ad224 = ad227 := (by injection e227)
                            replace p227 := eq_true p227; replace q227 := eq_true q227; have p38 : 0 ≤ ((ji35) : Int) := of_decide_eq_true (by first | (with_reducible assumption) | assumption)
                            have q38 : (ji35) < (a0.size : Int) := of_decide_eq_true (by first | (with_reducible assumption) | assumption)
                            have hx38 := bt_at a0 (ji35)
                            replace p38 := eq_true p38; replace q38 := eq_true q38; have p40 : 0 ≤ ((ji35) : Int) := of_decide_eq_true (by first | (with_reducible assumption) | assumption)
                            have q40 : (ji35) < (a0.size : Int) := of_decide_eq_true (by first | (with_reducible assumption) | assumption)
                            have hx40 := bt_at a0 (ji35)
                            replace p40 := eq_true p40; replace q40 := eq_true q40; go_wp2
                            go_roundg k5
                            case measure => have := HK1.out; have := HK2.out; have := HK3.out; have := HJ20.out; have := HK5.out; omega
                            case rel => exact ⟨(ji35), (by first | rfl | (simp; done) | (simp only [← hji35] <;> (first | rfl | simp)) | (simp [*]; done)), H', ⟨by have := HK1.out; have := HK2.out; have := HK3.out; have := HJ20.out; have := HK5.out; omega⟩, ⟨rl HO_6⟩, ⟨rl HO_7⟩, ⟨kl BK223⟩, ⟨by repeat (first | (with_reducible first | exact HB.out | apply below_alloc | apply pw_below_drewN | apply below_drew1 | refine below_set ?_ GE223.out) | exact HB.out)⟩⟩
                           ·rw [if_neg c41] at H; have c41b0 : ((bt a0 (ji35)) == 13) = false := beq_eq_false_iff_ne.mpr c41; have c41b1 : ((bt a0 (ji35)) != 13) = true := bne_iff_ne.mpr c41; obtain ⟨ji42, hji42⟩ : ∃ j_ : Int, (mx ((rd_T38 l1 x22_1).f0.f0) (rd t219 x11_3)) = j_ := ⟨_, rfl⟩
                            replace H : (if (ji42) < (mn ((rd_T38 l1 x22_1).f0.f1) x12_5) then (if x6_3.length < 4398046511104 then (five_Pieces.l2 k5 a0 (x6_3 ++ [(⟨(⟨ji42, mn ((rd_T38 l1 x22_1).f0.f1) x12_5⟩ : S36), ((rd_T38 l1 x22_1).f1), ((rd_T38 l1 x22_1).f2)⟩ : S38)]) t219 x8_2 (wrap64 (x11_3 + 1)) l1 (l1.length : Int) x22_1 ((rd_T38 l1 x22_1).f0.f0) ((rd_T38 l1 x22_1).f0.f1) ((rd_T38 l1 x22_1).f1) ((rd_T38 l1 x22_1).f2)) else (none)) else (five_Pieces.l2 k5 a0 x6_3 t219 x8_2 (wrap64 (x11_3 + 1)) l1 (l1.length : Int) x22_1 ((rd_T38 l1 x22_1).f0.f0) ((rd_T38 l1 x22_1).f0.f1) ((rd_T38 l1 x22_1).f1) ((rd_T38 l1 x22_1).f2))) = some (r1, r2) := by first | (rw [hji42] at H; exact H) | (simp only [hji42] at H ⊢; exact H)
                            have hji42_ : (if ((rd_T38 l1 x22_1).f0.f0) < (rd t219 x11_3) then (rd t219 x11_3) else ((rd_T38 l1 x22_1).f0.f0)) = ji42 := hji42
                            obtain ⟨ji43, hji43⟩ : ∃ j_ : Int, (mn ((rd_T38 l1 x22_1).f0.f1) x12_5) = j_ := ⟨_, rfl⟩
                            replace H : (if (ji42) < (ji43) then (if x6_3.length < 4398046511104 then (five_Pieces.l2 k5 a0 (x6_3 ++ [(⟨(⟨ji42, ji43⟩ : S36), ((rd_T38 l1 x22_1).f1), ((rd_T38 l1 x22_1).f2)⟩ : S38)]) t219 x8_2 (wrap64 (x11_3 + 1)) l1 (l1.length : Int) x22_1 ((rd_T38 l1 x22_1).f0.f0) ((rd_T38 l1 x22_1).f0.f1) ((rd_T38 l1 x22_1).f1) ((rd_T38 l1 x22_1).f2)) else (none)) else (five_Pieces.l2 k5 a0 x6_3 t219 x8_2 (wrap64 (x11_3 + 1)) l1 (l1.length : Int) x22_1 ((rd_T38 l1 x22_1).f0.f0) ((rd_T38 l1 x22_1).f0.f1) ((rd_T38 l1 x22_1).f1) ((rd_T38 l1 x22_1).f2))) = some (r1, r2) := by first | (rw [hji43] at H; exact H) | (simp only [hji43] at H ⊢; exact H)
                            have hji43_ : (if x12_5 < ((rd_T38 l1 x22_1).f0.f1) then x12_5 else ((rd_T38 l1 x22_1).f0.f1)) = ji43 := hji43
                            by_cases c44 : (ji42) < (ji43)
                            ·rw [if_pos c44] at H; have c44b0 : decide ((ji42) < (ji43)) = true := decide_eq_true c44; clear c44; by_cases c45 : x6_3.length < 4398046511104
                             ·rw [if_pos c45] at H; have LMc45 := Aside0.mk c45; clear c45; obtain ⟨y230, hy230⟩ : ∃ y_ : List (S38), y_ = (x6_3 ++ [(⟨(⟨ji42, ji43⟩ : S36), ((rd_T38 l1 x22_1).f1), ((rd_T38 l1 x22_1).f2)⟩ : S38)]) := ⟨_, rfl⟩
                              replace H : (five_Pieces.l2 k5 a0 y230 t219 x8_2 (wrap64 (x11_3 + 1)) l1 (l1.length : Int) x22_1 ((rd_T38 l1 x22_1).f0.f0) ((rd_T38 l1 x22_1).f0.f1) ((rd_T38 l1 x22_1).f1) ((rd_T38 l1 x22_1).f2)) = some (r1, r2) := by first | (rw [hy230]; with_reducible exact H) | (have H2_ := (Option.bind_some _ _).symm.trans H; rw [hy230]; with_reducible exact H2_) | (have H2_ := (Option.bind_some _ _).symm.trans H; with_reducible exact H2_) | with_reducible exact H | (rw [hy230]; exact H) | exact H
                              have Ny230 := Aside0.mk hy230; clear hy230; have H' := Aside0.mk H; clear H; have p227 : 0 ≤ (x11_3 : Int) := of_decide_eq_true (by first | (with_reducible assumption) | assumption)
                              have q227 : x11_3 < (t219.length : Int) := of_decide_eq_true (by first | (with_reducible assumption) | assumption)
                              obtain ⟨ad227, e227, hx227_0⟩ := Kd.at_int (Kd.R_reads' HO_7.out).2.2 x11_3 p227 q227
                              obtain rfl : ad224 = ad227 := (by injection e227)
                              replace p227 := eq_true p227; replace q227 := eq_true q227; have p38 : 0 ≤ ((ji35) : Int) := of_decide_eq_true (by first | (with_reducible assumption) | assumption)
                              have q38 : (ji35) < (a0.size : Int) := of_decide_eq_true (by first | (with_reducible assumption) | assumption)
                              have hx38 := bt_at a0 (ji35)
                              replace p38 := eq_true p38; replace q38 := eq_true q38; have p40 : 0 ≤ ((ji35) : Int) := of_decide_eq_true (by first | (with_reducible assumption) | assumption)
                              have q40 : (ji35) < (a0.size : Int) := of_decide_eq_true (by first | (with_reducible assumption) | assumption)
                              have hx40 := bt_at a0 (ji35)
                              replace p40 := eq_true p40; replace q40 := eq_true q40; try go_wp2
                              have n0_ := Aside0.mk (Kd.R_drew HO_6.out); have n1_ := Aside0.mk (Kd.R_drew HO_7.out); have n2_ := Aside0.mk (blk_drew BK223.out); have n3_ := Aside0.mk (below_drew1 HB.out); clear HO_6; clear HO_7; clear BK223; clear HB; have HO_6 := n0_; have HO_7 := n1_; have BK223 := n2_; have HB := n3_; clear n0_ n1_ n2_ n3_; have p228 : 0 ≤ (x11_3 : Int) := of_decide_eq_true (by first | (with_reducible assumption) | assumption)
                              have q228 : x11_3 < (t219.length : Int) := of_decide_eq_true (by first | (with_reducible assumption) | assumption)
                              obtain ⟨ad228, e228, hx228_0⟩ := Kd.at_int (Kd.R_reads' HO_7.out).2.2 x11_3 p228 q228
                              obtain rfl : ad224 = ad228 := (by injection e228)
                              replace p228 := eq_true p228; replace q228 := eq_true q228; refine start_ (n := 16) (S := fun w' => w'.cell? ⟨gb223, 0, none⟩ = some (.int .i64 ((rd_T38 l1 x22_1).f0.f0)) ∧ w'.cell? ⟨gb223, 1, none⟩ = some (.int .i64 ((rd_T38 l1 x22_1).f0.f1)) ∧ w'.cell? ⟨gb223, 2, none⟩ = some (.int .i64 ((rd_T38 l1 x22_1).f1)) ∧ w'.cell? ⟨gb223, 3, none⟩ = some (.int .i64 ((rd_T38 l1 x22_1).f2)) ∧ w'.cell? (ad224.add (x11_3).toNat) = some (.int .i64 (rd t219 x11_3))) (ds := []) (bz 16 0) (by kernel_rfl) rfl rfl ⟨(blk_cell BK223.out 0).trans rfl, (blk_cell BK223.out 1).trans rfl, (blk_cell BK223.out 2).trans rfl, (blk_cell BK223.out 3).trans rfl, hx228_0⟩ (fun hHeld => ?_); refine with_tabW five_Pieces.tab17 five_Pieces.bits17 (fun HT_ HW_ => ?_)
                              generalize wr.drew = w46 at HO_6 HO_7 BK223 HB hx228_0 hHeld ⊢
                              refine pu 0 (some 85) (bz 16 1) HT_ rfl rfl ?_; refine pu 1 (some 86) (bz 16 3) HT_ rfl rfl ?_; refine pu 3 (some 88) (bz 16 11) HT_ rfl rfl ?_; refine pu 4 (some 89) (bz 16 27) HT_ rfl rfl ?_; refine pu 5 (some 90) (bz 16 59) HT_ rfl rfl ?_; refine pu 8 (some 93) (bz 16 315) HT_ rfl rfl ?_; refine pu 9 (some 94) (bz 16 827) HT_ rfl rfl ?_; refine pu 11 (some 96) (bz 16 2875) HT_ rfl rfl ?_; refine tk 2 (some 87) (bz 16 2879) HT_ HW_ rfl rfl hHeld ?_; refine tk 6 (some 91) (bz 16 2943) HT_ HW_ rfl rfl hHeld ?_; refine pu 7 (some 92) (bz 16 3071) HT_ rfl rfl ?_; refine tk 10 (some 95) (bz 16 4095) HT_ HW_ rfl rfl hHeld ?_; refine pu 12 (some 97) (bz 16 8191) HT_ rfl rfl ?_; refine pu 13 (some 98) (bz 16 16383) HT_ rfl rfl ?_; refine one_ (i := 14) (N := some 13) (bz 16 32767) rfl rfl (one_of HT_.out (by kernel_rfl)) (by decide) (fun K hK => ?_)
                              refine box_step ?hg (N := 13) ?hd (cs := #[.int .i64 0, .int .i64 0]) (t := 36) ?hr ?_; (case hd => rfl); (case hg => rfl); (case hr => first | (go_simp; done) | (go_simp; rfl))
                              intro gb229 hg w47 hbox hb
                              have HS4_ := (hb.cell (World.block_lt_of_cell? _ _ (hHeld.2.2.2.2))).trans (hHeld.2.2.2.2)
                              have n0_ := Aside0.mk (Kd.R_below (rl HO_6) hb); have n1_ := Aside0.mk (Kd.R_below (rl HO_7) hb); have n2_ := Aside0.mk (blk_below (g := gb223) (o := .cells #[.int .i64 ((rd_T38 l1 x22_1).f0.f0), .int .i64 ((rd_T38 l1 x22_1).f0.f1), .int .i64 ((rd_T38 l1 x22_1).f1), .int .i64 ((rd_T38 l1 x22_1).f2)] 38 (0, 0)) (kl BK223) hb); have n3_ := Aside0.mk (below_step (by repeat (first | (with_reducible first | exact HB.out | apply below_alloc | apply pw_below_drewN | apply below_drew1 | refine below_set ?_ GE223.out) | exact HB.out)) hb); have n4_ := Aside0.mk (hbox); have n5_ := Aside0.mk ((by rw [hg]; exact (below_size (by repeat (first | (with_reducible first | exact HB.out | apply below_alloc | apply pw_below_drewN | apply below_drew1 | refine below_set ?_ GE223.out) | exact HB.out))) : w.heap.size ≤ gb229)); have n6_ := Aside0.mk ((by rw [hg]; exact (below_size (by repeat (first | (with_reducible first | exact HB.out | apply below_alloc | apply pw_below_drewN | apply below_drew1 | refine below_set ?_ GE223.out) | exact HB.out))) : w.heap.size ≤ gb229)); have n7_ := Aside0.mk ((by rw [hg]; exact Nat.ne_of_lt (blk_lt (g := gb223) (o := .cells #[.int .i64 ((rd_T38 l1 x22_1).f0.f0), .int .i64 ((rd_T38 l1 x22_1).f0.f1), .int .i64 ((rd_T38 l1 x22_1).f1), .int .i64 ((rd_T38 l1 x22_1).f2)] 38 (0, 0)) (kl BK223)) : gb223 ≠ gb229)); have n8_ := Aside0.mk ((by rw [hg]; exact Nat.ne_of_gt (blk_lt (g := gb223) (o := .cells #[.int .i64 ((rd_T38 l1 x22_1).f0.f0), .int .i64 ((rd_T38 l1 x22_1).f0.f1), .int .i64 ((rd_T38 l1 x22_1).f1), .int .i64 ((rd_T38 l1 x22_1).f2)] 38 (0, 0)) (kl BK223)) : gb229 ≠ gb223)); clear HO_6; clear HO_7; clear BK223; clear HB; have HO_6 := n0_; have HO_7 := n1_; have BK223 := n2_; have HB := n3_; have BK229 := n4_; have GW229 := n5_; have GE229 := n6_; have NB223_229 := n7_; have NB229_223 := n8_; clear n0_ n1_ n2_ n3_ n4_ n5_ n6_ n7_ n8_; clear hb hbox hg; refine hK.out _ _ ⟨(blk_cell BK223.out 0).trans rfl, (blk_cell BK223.out 1).trans rfl, (blk_cell BK223.out 2).trans rfl, (blk_cell BK223.out 3).trans rfl, HS4_⟩ (fun hHeld => ?_)
                              clear hK K; refine norm_ (a' := ?_) ?_ ?_
                              rotate_left
                              ·show Act.put _ (some 13) _ = _
                               simp only [Act.put, List.setIfInBounds_toArray, List.set_cons_zero, List.set_cons_succ, i64_w, i32_w]
                               rfl
                              refine one_ (i := 15) (N := none) (bz 16 65535) rfl rfl (one_of HT_.out (by kernel_rfl)) (by decide) (fun K hK => ?_)
                              have hs48 : w47.cell? ⟨gb229, 0, none⟩ = some (.int .i64 0) := (blk_cell BK229.out 0).trans rfl
                              have hfs48 := blk_frozen BK229.out 0
                              have hns48_0 := NB223_229.out
                              have hms48_0 := NB229_223.out
                              have hs49 : w47.cell? ⟨gb229, 1, none⟩ = some (.int .i64 0) := (blk_cell BK229.out 1).trans rfl
                              have hfs49 := blk_frozen BK229.out 1
                              have hns49_0 := NB223_229.out
                              have hms49_0 := NB229_223.out
                              refine skip_ (w1 := ?_) (by rfl) rfl ?_ ?_
                              rotate_left
                              ·go_simp
                               rfl
                              refine hK.out _ _ ⟨((cell_far (p := ⟨gb229, _, none⟩) NB223_229.out _).trans (((cell_far (p := ⟨gb229, _, none⟩) NB223_229.out _).trans (hHeld.1)))), ((cell_far (p := ⟨gb229, _, none⟩) NB223_229.out _).trans (((cell_far (p := ⟨gb229, _, none⟩) NB223_229.out _).trans (hHeld.2.1)))), ((cell_far (p := ⟨gb229, _, none⟩) NB223_229.out _).trans (((cell_far (p := ⟨gb229, _, none⟩) NB223_229.out _).trans (hHeld.2.2.1)))), ((cell_far (p := ⟨gb229, _, none⟩) NB223_229.out _).trans (((cell_far (p := ⟨gb229, _, none⟩) NB223_229.out _).trans (hHeld.2.2.2.1)))), ((cell_far (p := ⟨gb229, _, none⟩) (by first | exact Kd.own_blk (Kd.R_ne HO_7.out BK229.out (by decide)) | (rw [add_block]; exact Kd.own_blk (Kd.R_ne HO_7.out BK229.out (by decide))) | (show (Addr.add _ _).block ≠ _; rw [add_block]; exact Kd.own_blk (Kd.R_ne HO_7.out BK229.out (by decide))) | (dsimp only; exact Kd.own_blk (Kd.R_ne HO_7.out BK229.out (by decide)))) _).trans (((cell_far (p := ⟨gb229, _, none⟩) (by first | exact Kd.own_blk (Kd.R_ne HO_7.out BK229.out (by decide)) | (rw [add_block]; exact Kd.own_blk (Kd.R_ne HO_7.out BK229.out (by decide))) | (show (Addr.add _ _).block ≠ _; rw [add_block]; exact Kd.own_blk (Kd.R_ne HO_7.out BK229.out (by decide))) | (dsimp only; exact Kd.own_blk (Kd.R_ne HO_7.out BK229.out (by decide)))) _).trans (hHeld.2.2.2.2))))⟩ (fun hHeld => ?_)
                              clear hK K; refine done_ (done_of HT_.out (by kernel_rfl)) ?_
                              have hnb50 := NB229_223.out
                              have hnc50 := NB223_229.out
                              have hcz51_0 : w47.cell? ⟨gb229, 0, none⟩ = some (.int .i64 0) := (blk_cell BK229.out 0).trans rfl
                              have hcz51_1 : w47.cell? ⟨gb229, 1, none⟩ = some (.int .i64 0) := (blk_cell BK229.out 1).trans rfl
                              have hfz51_0 := blk_frozen BK229.out 0
                              have hfz51_1 := blk_frozen BK229.out 1
                              have hcz52_0 : w47.cell? ⟨gb223, 0, none⟩ = some (.int .i64 ((rd_T38 l1 x22_1).f0.f0)) := (blk_cell BK223.out 0).trans rfl
                              have hcz52_1 : w47.cell? ⟨gb223, 1, none⟩ = some (.int .i64 ((rd_T38 l1 x22_1).f0.f1)) := (blk_cell BK223.out 1).trans rfl
                              have hcz52_2 : w47.cell? ⟨gb223, 2, none⟩ = some (.int .i64 ((rd_T38 l1 x22_1).f1)) := (blk_cell BK223.out 2).trans rfl
                              have hcz52_3 : w47.cell? ⟨gb223, 3, none⟩ = some (.int .i64 ((rd_T38 l1 x22_1).f2)) := (blk_cell BK223.out 3).trans rfl
                              have hfz52_0 := blk_frozen BK223.out 0
                              have hfz52_1 := blk_frozen BK223.out 1
                              have hfz52_2 := blk_frozen BK223.out 2
                              have hfz52_3 := blk_frozen BK223.out 3
                              try go_wp2_with (first | ((with_reducible refine gate_builtin (b := .append) (xs := #[.tmp 104, .tmp 111]) rfl ?_); at_builtin; refine Kd.R_append k38 (w0 := w) w.heap.size rfl (.tmp 104) (.tmp 111) 22 38 (.agg #[(.int .i64 0), (.int .i64 0), (.int .i64 0), (.int .i64 0)]) 32 rfl Tryd.underlying22 info38 rfl (by decide) (by omega) u6 x6_3 (⟨(⟨ji42, ji43⟩ : S36), ((rd_T38 l1 x22_1).f1), ((rd_T38 l1 x22_1).f2)⟩ : S38) [.int .i64 ji42, .int .i64 ji43, .int .i64 ((rd_T38 l1 x22_1).f1), .int .i64 ((rd_T38 l1 x22_1).f2)] (fun k_ => k_ ≠ gb223) (fun _ => False) rfl (by first | (go_simp; done) | (go_simp; rfl)) ?aP (fun _ hk => hk.elim) ?aF ?aO ?aB ?aS ?aL ?_; (case aP => exact k38_mkM _ _ _ (⟨(⟨ji42, ji43⟩ : S36), ((rd_T38 l1 x22_1).f1), ((rd_T38 l1 x22_1).f2)⟩ : S38)); (case aB => exact (by repeat (first | (with_reducible first | exact HB.out | apply below_alloc | apply pw_below_drewN | apply below_drew1 | refine below_set ?_ GE223.out | refine below_set ?_ GE229.out) | exact HB.out))); (case aF => exact (fun k_ hk => Kd.freshB (g := gb223) (o := .cells #[.int .i64 ((rd_T38 l1 x22_1).f0.f0), .int .i64 ((rd_T38 l1 x22_1).f0.f1), .int .i64 ((rd_T38 l1 x22_1).f1), .int .i64 ((rd_T38 l1 x22_1).f2)] 38 (0, 0)) (by (with_reducible repeat (first | refine blk_drewN ?_ _ | refine blk_drew ?_ | refine blk_alloc ?_ _)); refine blk_far ?_ NB223_229.out _; (with_reducible repeat (first | refine blk_drewN ?_ _ | refine blk_drew ?_ | refine blk_alloc ?_ _)); refine blk_far ?_ NB223_229.out _; (with_reducible repeat (first | refine blk_drewN ?_ _ | refine blk_drew ?_ | refine blk_alloc ?_ _)); exact BK223.out) k_ hk)); (case aO => exact (by (with_reducible repeat (first | apply Kd.R_alloc | apply Kd.R_drewN | apply Kd.R_drew)); exact Kd.R_mono (Kd.R_far (p := ⟨gb229, 1, none⟩) (Kd.R_far (p := ⟨gb229, 0, none⟩) (Kd.R_types HO_6.out BK229.out (by decide)) (fun _ hk => hk.2) (.int .i64 ji42)) (fun _ hk => hk.2) (.int .i64 ji43)) (fun _ hk => hk.1))); (case aS => exact (below_size (by repeat (first | (with_reducible first | exact HB.out | apply below_alloc | apply pw_below_drewN | apply below_drew1 | refine below_set ?_ GE223.out | refine below_set ?_ GE229.out) | exact HB.out)))); (case aL => have := LMc45.out; omega); intro v231 w53 ho hb hg hat; rw [← Ny230.out] at ho; have n0_ := Aside0.mk (Kd.R_over' (by (with_reducible repeat (first | apply Kd.R_alloc | apply Kd.R_drewN | apply Kd.R_drew)); exact (Kd.R_mono (Kd.R_far (p := ⟨gb229, 1, none⟩) (Kd.R_far (p := ⟨gb229, 0, none⟩) (Kd.R_types HO_7.out BK229.out (by decide)) (fun _ hk => hk.2) (.int .i64 ji42)) (fun _ hk => hk.2) (.int .i64 ji43)) (fun _ h_ => h_.1))) (Kd.R_typed (by (with_reducible repeat (first | apply Kd.R_alloc | apply Kd.R_drewN | apply Kd.R_drew)); exact (Kd.R_mono (Kd.R_far (p := ⟨gb229, 1, none⟩) (Kd.R_far (p := ⟨gb229, 0, none⟩) (Kd.R_types HO_6.out BK229.out (by decide)) (fun _ hk => hk.2) (.int .i64 ji42)) (fun _ hk => hk.2) (.int .i64 ji43)) (fun _ h_ => h_.1)))) (by decide) hg); have n1_ := Aside0.mk (blk_grown (g := gb223) (o := .cells #[.int .i64 ((rd_T38 l1 x22_1).f0.f0), .int .i64 ((rd_T38 l1 x22_1).f0.f1), .int .i64 ((rd_T38 l1 x22_1).f1), .int .i64 ((rd_T38 l1 x22_1).f2)] 38 (0, 0)) (by (with_reducible repeat (first | refine blk_drewN ?_ _ | refine blk_drew ?_ | refine blk_alloc ?_ _)); refine blk_far ?_ NB223_229.out _; (with_reducible repeat (first | refine blk_drewN ?_ _ | refine blk_drew ?_ | refine blk_alloc ?_ _)); refine blk_far ?_ NB223_229.out _; (with_reducible repeat (first | refine blk_drewN ?_ _ | refine blk_drew ?_ | refine blk_alloc ?_ _)); exact BK223.out) hg (Kd.R_away HO_6.out (fun _ hk => hk))); have n2_ := Aside0.mk (blk_grown (g := gb229) (o := .cells #[.int .i64 ji42, .int .i64 ji43] 36 (0, 0)) (by (with_reducible repeat (first | refine blk_drewN ?_ _ | refine blk_drew ?_ | refine blk_alloc ?_ _)); refine blk_put (cs := #[.int .i64 ji42, .int .i64 0]) ?_ 1 _ rfl; (with_reducible repeat (first | refine blk_drewN ?_ _ | refine blk_drew ?_ | refine blk_alloc ?_ _)); refine blk_put (cs := #[.int .i64 0, .int .i64 0]) ?_ 0 _ rfl; (with_reducible repeat (first | refine blk_drewN ?_ _ | refine blk_drew ?_ | refine blk_alloc ?_ _)); exact BK229.out) hg (Kd.R_ne HO_6.out BK229.out (by decide))); have n3_ := Aside0.mk (hb); have n4_ := Aside0.mk (ho); clear HO_7; clear BK223; clear BK229; clear HB; clear HO_6; have HO_7 := n0_; have BK223 := n1_; have BK229 := n2_; have HB := n3_; have HO232 := n4_; clear n0_ n1_ n2_ n3_ n4_; clear ho hb hg hat))
                              go_roundg k5
                              case measure => have := HK1.out; have := HK2.out; have := HK3.out; have := HJ20.out; have := HK5.out; omega
                              case rel => exact ⟨(y230), (wrap64 (x11_3 + 1)), (by first | rfl | (simp; done) | (simp [*]; done) | (simp; exact xEmpty_ne _) | (simp [*]; exact xEmpty_ne _)), H', ⟨by have := HK1.out; have := HK2.out; have := HK3.out; have := HJ20.out; have := HK5.out; omega⟩, ⟨rl HO232⟩, ⟨rl HO_7⟩, ⟨kl BK223⟩, ⟨by repeat (first | (with_reducible first | exact HB.out | apply below_alloc | apply pw_below_drewN | apply below_drew1 | refine below_set ?_ GE223.out | refine below_set ?_ GE229.out) | exact HB.out)⟩⟩
                             ·rw [if_neg c45] at H; exact absurd H (by simp)
                            ·rw [if_neg c44] at H; have c44b0 : decide ((ji42) < (ji43)) = false := decide_eq_false c44; clear c44; have H' := Aside0.mk H; clear H; have p227 : 0 ≤ (x11_3 : Int) := of_decide_eq_true (by first | (with_reducible assumption) | assumption)
                             have q227 : x11_3 < (t219.length : Int) := of_decide_eq_true (by first | (with_reducible assumption) | assumption)
                             obtain ⟨ad227, e227, hx227_0⟩ := Kd.at_int (Kd.R_reads' HO_7.out).2.2 x11_3 p227 q227
                             obtain rfl : ad224 = ad227 := (by injection e227)
                             replace p227 := eq_true p227; replace q227 := eq_true q227; have p38 : 0 ≤ ((ji35) : Int) := of_decide_eq_true (by first | (with_reducible assumption) | assumption)
                             have q38 : (ji35) < (a0.size : Int) := of_decide_eq_true (by first | (with_reducible assumption) | assumption)
                             have hx38 := bt_at a0 (ji35)
                             replace p38 := eq_true p38; replace q38 := eq_true q38; have p40 : 0 ≤ ((ji35) : Int) := of_decide_eq_true (by first | (with_reducible assumption) | assumption)
                             have q40 : (ji35) < (a0.size : Int) := of_decide_eq_true (by first | (with_reducible assumption) | assumption)
                             have hx40 := bt_at a0 (ji35)
                             replace p40 := eq_true p40; replace q40 := eq_true q40; try go_wp2
                             have n0_ := Aside0.mk (Kd.R_drew HO_6.out); have n1_ := Aside0.mk (Kd.R_drew HO_7.out); have n2_ := Aside0.mk (blk_drew BK223.out); have n3_ := Aside0.mk (below_drew1 HB.out); clear HO_6; clear HO_7; clear BK223; clear HB; have HO_6 := n0_; have HO_7 := n1_; have BK223 := n2_; have HB := n3_; clear n0_ n1_ n2_ n3_; have p228 : 0 ≤ (x11_3 : Int) := of_decide_eq_true (by first | (with_reducible assumption) | assumption)
                             have q228 : x11_3 < (t219.length : Int) := of_decide_eq_true (by first | (with_reducible assumption) | assumption)
                             obtain ⟨ad228, e228, hx228_0⟩ := Kd.at_int (Kd.R_reads' HO_7.out).2.2 x11_3 p228 q228
                             obtain rfl : ad224 = ad228 := (by injection e228)
                             replace p228 := eq_true p228; replace q228 := eq_true q228; refine start_ (n := 16) (S := fun w' => w'.cell? ⟨gb223, 0, none⟩ = some (.int .i64 ((rd_T38 l1 x22_1).f0.f0)) ∧ w'.cell? ⟨gb223, 1, none⟩ = some (.int .i64 ((rd_T38 l1 x22_1).f0.f1)) ∧ w'.cell? ⟨gb223, 2, none⟩ = some (.int .i64 ((rd_T38 l1 x22_1).f1)) ∧ w'.cell? ⟨gb223, 3, none⟩ = some (.int .i64 ((rd_T38 l1 x22_1).f2)) ∧ w'.cell? (ad224.add (x11_3).toNat) = some (.int .i64 (rd t219 x11_3))) (ds := []) (bz 16 0) (by kernel_rfl) rfl rfl ⟨(blk_cell BK223.out 0).trans rfl, (blk_cell BK223.out 1).trans rfl, (blk_cell BK223.out 2).trans rfl, (blk_cell BK223.out 3).trans rfl, hx228_0⟩ (fun hHeld => ?_); refine with_tabW five_Pieces.tab17 five_Pieces.bits17 (fun HT_ HW_ => ?_)
                             generalize wr.drew = w54 at HO_6 HO_7 BK223 HB hx228_0 hHeld ⊢
                             refine pu 0 (some 85) (bz 16 1) HT_ rfl rfl ?_; refine pu 1 (some 86) (bz 16 3) HT_ rfl rfl ?_; refine pu 3 (some 88) (bz 16 11) HT_ rfl rfl ?_; refine pu 4 (some 89) (bz 16 27) HT_ rfl rfl ?_; refine pu 5 (some 90) (bz 16 59) HT_ rfl rfl ?_; refine pu 8 (some 93) (bz 16 315) HT_ rfl rfl ?_; refine pu 9 (some 94) (bz 16 827) HT_ rfl rfl ?_; refine pu 11 (some 96) (bz 16 2875) HT_ rfl rfl ?_; refine tk 2 (some 87) (bz 16 2879) HT_ HW_ rfl rfl hHeld ?_; refine tk 6 (some 91) (bz 16 2943) HT_ HW_ rfl rfl hHeld ?_; refine pu 7 (some 92) (bz 16 3071) HT_ rfl rfl ?_; refine tk 10 (some 95) (bz 16 4095) HT_ HW_ rfl rfl hHeld ?_; refine pu 12 (some 97) (bz 16 8191) HT_ rfl rfl ?_; refine pu 13 (some 98) (bz 16 16383) HT_ rfl rfl ?_; refine one_ (i := 14) (N := some 13) (bz 16 32767) rfl rfl (one_of HT_.out (by kernel_rfl)) (by decide) (fun K hK => ?_)
                             refine box_step ?hg (N := 13) ?hd (cs := #[.int .i64 0, .int .i64 0]) (t := 36) ?hr ?_; (case hd => rfl); (case hg => rfl); (case hr => first | (go_simp; done) | (go_simp; rfl))
                             intro gb229 hg w55 hbox hb
                             have HS4_ := (hb.cell (World.block_lt_of_cell? _ _ (hHeld.2.2.2.2))).trans (hHeld.2.2.2.2)
                             have n0_ := Aside0.mk (Kd.R_below (rl HO_6) hb); have n1_ := Aside0.mk (Kd.R_below (rl HO_7) hb); have n2_ := Aside0.mk (blk_below (g := gb223) (o := .cells #[.int .i64 ((rd_T38 l1 x22_1).f0.f0), .int .i64 ((rd_T38 l1 x22_1).f0.f1), .int .i64 ((rd_T38 l1 x22_1).f1), .int .i64 ((rd_T38 l1 x22_1).f2)] 38 (0, 0)) (kl BK223) hb); have n3_ := Aside0.mk (below_step (by repeat (first | (with_reducible first | exact HB.out | apply below_alloc | apply pw_below_drewN | apply below_drew1 | refine below_set ?_ GE223.out) | exact HB.out)) hb); have n4_ := Aside0.mk (hbox); have n5_ := Aside0.mk ((by rw [hg]; exact (below_size (by repeat (first | (with_reducible first | exact HB.out | apply below_alloc | apply pw_below_drewN | apply below_drew1 | refine below_set ?_ GE223.out) | exact HB.out))) : w.heap.size ≤ gb229)); have n6_ := Aside0.mk ((by rw [hg]; exact (below_size (by repeat (first | (with_reducible first | exact HB.out | apply below_alloc | apply pw_below_drewN | apply below_drew1 | refine below_set ?_ GE223.out) | exact HB.out))) : w.heap.size ≤ gb229)); have n7_ := Aside0.mk ((by rw [hg]; exact Nat.ne_of_lt (blk_lt (g := gb223) (o := .cells #[.int .i64 ((rd_T38 l1 x22_1).f0.f0), .int .i64 ((rd_T38 l1 x22_1).f0.f1), .int .i64 ((rd_T38 l1 x22_1).f1), .int .i64 ((rd_T38 l1 x22_1).f2)] 38 (0, 0)) (kl BK223)) : gb223 ≠ gb229)); have n8_ := Aside0.mk ((by rw [hg]; exact Nat.ne_of_gt (blk_lt (g := gb223) (o := .cells #[.int .i64 ((rd_T38 l1 x22_1).f0.f0), .int .i64 ((rd_T38 l1 x22_1).f0.f1), .int .i64 ((rd_T38 l1 x22_1).f1), .int .i64 ((rd_T38 l1 x22_1).f2)] 38 (0, 0)) (kl BK223)) : gb229 ≠ gb223)); clear HO_6; clear HO_7; clear BK223; clear HB; have HO_6 := n0_; have HO_7 := n1_; have BK223 := n2_; have HB := n3_; have BK229 := n4_; have GW229 := n5_; have GE229 := n6_; have NB223_229 := n7_; have NB229_223 := n8_; clear n0_ n1_ n2_ n3_ n4_ n5_ n6_ n7_ n8_; clear hb hbox hg; refine hK.out _ _ ⟨(blk_cell BK223.out 0).trans rfl, (blk_cell BK223.out 1).trans rfl, (blk_cell BK223.out 2).trans rfl, (blk_cell BK223.out 3).trans rfl, HS4_⟩ (fun hHeld => ?_)
                             clear hK K; refine norm_ (a' := ?_) ?_ ?_
                             rotate_left
                             ·show Act.put _ (some 13) _ = _
                              simp only [Act.put, List.setIfInBounds_toArray, List.set_cons_zero, List.set_cons_succ, i64_w, i32_w]
                              rfl
                             refine one_ (i := 15) (N := none) (bz 16 65535) rfl rfl (one_of HT_.out (by kernel_rfl)) (by decide) (fun K hK => ?_)
                             have hs56 : w55.cell? ⟨gb229, 0, none⟩ = some (.int .i64 0) := (blk_cell BK229.out 0).trans rfl
                             have hfs56 := blk_frozen BK229.out 0
                             have hns56_0 := NB223_229.out
                             have hms56_0 := NB229_223.out
                             have hs57 : w55.cell? ⟨gb229, 1, none⟩ = some (.int .i64 0) := (blk_cell BK229.out 1).trans rfl
                             have hfs57 := blk_frozen BK229.out 1
                             have hns57_0 := NB223_229.out
                             have hms57_0 := NB229_223.out
                             refine skip_ (w1 := ?_) (by rfl) rfl ?_ ?_
                             rotate_left
                             ·go_simp
                              rfl
                             refine hK.out _ _ ⟨((cell_far (p := ⟨gb229, _, none⟩) NB223_229.out _).trans (((cell_far (p := ⟨gb229, _, none⟩) NB223_229.out _).trans (hHeld.1)))), ((cell_far (p := ⟨gb229, _, none⟩) NB223_229.out _).trans (((cell_far (p := ⟨gb229, _, none⟩) NB223_229.out _).trans (hHeld.2.1)))), ((cell_far (p := ⟨gb229, _, none⟩) NB223_229.out _).trans (((cell_far (p := ⟨gb229, _, none⟩) NB223_229.out _).trans (hHeld.2.2.1)))), ((cell_far (p := ⟨gb229, _, none⟩) NB223_229.out _).trans (((cell_far (p := ⟨gb229, _, none⟩) NB223_229.out _).trans (hHeld.2.2.2.1)))), ((cell_far (p := ⟨gb229, _, none⟩) (by first | exact Kd.own_blk (Kd.R_ne HO_7.out BK229.out (by decide)) | (rw [add_block]; exact Kd.own_blk (Kd.R_ne HO_7.out BK229.out (by decide))) | (show (Addr.add _ _).block ≠ _; rw [add_block]; exact Kd.own_blk (Kd.R_ne HO_7.out BK229.out (by decide))) | (dsimp only; exact Kd.own_blk (Kd.R_ne HO_7.out BK229.out (by decide)))) _).trans (((cell_far (p := ⟨gb229, _, none⟩) (by first | exact Kd.own_blk (Kd.R_ne HO_7.out BK229.out (by decide)) | (rw [add_block]; exact Kd.own_blk (Kd.R_ne HO_7.out BK229.out (by decide))) | (show (Addr.add _ _).block ≠ _; rw [add_block]; exact Kd.own_blk (Kd.R_ne HO_7.out BK229.out (by decide))) | (dsimp only; exact Kd.own_blk (Kd.R_ne HO_7.out BK229.out (by decide)))) _).trans (hHeld.2.2.2.2))))⟩ (fun hHeld => ?_)
                             clear hK K; refine done_ (done_of HT_.out (by kernel_rfl)) ?_
                             have hnb58 := NB229_223.out
                             have hnc58 := NB223_229.out
                             have hcz59_0 : w55.cell? ⟨gb229, 0, none⟩ = some (.int .i64 0) := (blk_cell BK229.out 0).trans rfl
                             have hcz59_1 : w55.cell? ⟨gb229, 1, none⟩ = some (.int .i64 0) := (blk_cell BK229.out 1).trans rfl
                             have hfz59_0 := blk_frozen BK229.out 0
                             have hfz59_1 := blk_frozen BK229.out 1
                             try go_wp2
                             go_roundg k5
                             case measure => have := HK1.out; have := HK2.out; have := HK3.out; have := HJ20.out; have := HK5.out; omega
                             case rel => exact ⟨(x6_3), (wrap64 (x11_3 + 1)), (by first | rfl | (simp; done) | (simp [*]; done) | (simp; exact xEmpty_ne _) | (simp [*]; exact xEmpty_ne _)), H', ⟨by have := HK1.out; have := HK2.out; have := HK3.out; have := HJ20.out; have := HK5.out; omega⟩, ⟨by (with_reducible repeat (first | apply Kd.R_alloc | apply Kd.R_drewN | apply Kd.R_drew)); exact Kd.R_mono (Kd.R_far (p := ⟨gb229, 1, none⟩) (Kd.R_far (p := ⟨gb229, 0, none⟩) (Kd.R_types HO_6.out BK229.out (by decide)) (fun _ hk => hk.2) (.int .i64 ji42)) (fun _ hk => hk.2) (.int .i64 ji43)) (fun _ hk => hk.1)⟩, ⟨by (with_reducible repeat (first | apply Kd.R_alloc | apply Kd.R_drewN | apply Kd.R_drew)); exact Kd.R_mono (Kd.R_far (p := ⟨gb229, 1, none⟩) (Kd.R_far (p := ⟨gb229, 0, none⟩) (Kd.R_types HO_7.out BK229.out (by decide)) (fun _ hk => hk.2) (.int .i64 ji42)) (fun _ hk => hk.2) (.int .i64 ji43)) (fun _ hk => trivial)⟩, ⟨by (with_reducible repeat (first | refine blk_drewN ?_ _ | refine blk_drew ?_ | refine blk_alloc ?_ _)); refine blk_far ?_ NB223_229.out _; (with_reducible repeat (first | refine blk_drewN ?_ _ | refine blk_drew ?_ | refine blk_alloc ?_ _)); refine blk_far ?_ NB223_229.out _; (with_reducible repeat (first | refine blk_drewN ?_ _ | refine blk_drew ?_ | refine blk_alloc ?_ _)); exact BK223.out⟩, ⟨by repeat (first | (with_reducible first | exact HB.out | apply below_alloc | apply pw_below_drewN | apply below_drew1 | refine below_set ?_ GE223.out | refine below_set ?_ GE229.out) | exact HB.out)⟩⟩
                         ·rw [if_neg c37] at H; exact absurd H (by simp)
                        ·rw [if_neg c36] at H; exact absurd H (by simp)
                       ·rw [if_neg c34] at H; have c34b0 : decide ((rd t219 x11_3) < x12_5) = false := decide_eq_false c34; clear c34; obtain ⟨ji60, hji60⟩ : ∃ j_ : Int, (mx ((rd_T38 l1 x22_1).f0.f0) (rd t219 x11_3)) = j_ := ⟨_, rfl⟩
                        replace H : (if (ji60) < (mn ((rd_T38 l1 x22_1).f0.f1) x12_5) then (if x6_3.length < 4398046511104 then (five_Pieces.l2 k5 a0 (x6_3 ++ [(⟨(⟨ji60, mn ((rd_T38 l1 x22_1).f0.f1) x12_5⟩ : S36), ((rd_T38 l1 x22_1).f1), ((rd_T38 l1 x22_1).f2)⟩ : S38)]) t219 x8_2 (wrap64 (x11_3 + 1)) l1 (l1.length : Int) x22_1 ((rd_T38 l1 x22_1).f0.f0) ((rd_T38 l1 x22_1).f0.f1) ((rd_T38 l1 x22_1).f1) ((rd_T38 l1 x22_1).f2)) else (none)) else (five_Pieces.l2 k5 a0 x6_3 t219 x8_2 (wrap64 (x11_3 + 1)) l1 (l1.length : Int) x22_1 ((rd_T38 l1 x22_1).f0.f0) ((rd_T38 l1 x22_1).f0.f1) ((rd_T38 l1 x22_1).f1) ((rd_T38 l1 x22_1).f2))) = some (r1, r2) := by first | (rw [hji60] at H; exact H) | (simp only [hji60] at H ⊢; exact H)
                        have hji60_ : (if ((rd_T38 l1 x22_1).f0.f0) < (rd t219 x11_3) then (rd t219 x11_3) else ((rd_T38 l1 x22_1).f0.f0)) = ji60 := hji60
                        obtain ⟨ji61, hji61⟩ : ∃ j_ : Int, (mn ((rd_T38 l1 x22_1).f0.f1) x12_5) = j_ := ⟨_, rfl⟩
                        replace H : (if (ji60) < (ji61) then (if x6_3.length < 4398046511104 then (five_Pieces.l2 k5 a0 (x6_3 ++ [(⟨(⟨ji60, ji61⟩ : S36), ((rd_T38 l1 x22_1).f1), ((rd_T38 l1 x22_1).f2)⟩ : S38)]) t219 x8_2 (wrap64 (x11_3 + 1)) l1 (l1.length : Int) x22_1 ((rd_T38 l1 x22_1).f0.f0) ((rd_T38 l1 x22_1).f0.f1) ((rd_T38 l1 x22_1).f1) ((rd_T38 l1 x22_1).f2)) else (none)) else (five_Pieces.l2 k5 a0 x6_3 t219 x8_2 (wrap64 (x11_3 + 1)) l1 (l1.length : Int) x22_1 ((rd_T38 l1 x22_1).f0.f0) ((rd_T38 l1 x22_1).f0.f1) ((rd_T38 l1 x22_1).f1) ((rd_T38 l1 x22_1).f2))) = some (r1, r2) := by first | (rw [hji61] at H; exact H) | (simp only [hji61] at H ⊢; exact H)
                        have hji61_ : (if x12_5 < ((rd_T38 l1 x22_1).f0.f1) then x12_5 else ((rd_T38 l1 x22_1).f0.f1)) = ji61 := hji61
                        by_cases c62 : (ji60) < (ji61)
                        ·rw [if_pos c62] at H; have c62b0 : decide ((ji60) < (ji61)) = true := decide_eq_true c62; clear c62; by_cases c63 : x6_3.length < 4398046511104
                         ·rw [if_pos c63] at H; have LMc63 := Aside0.mk c63; clear c63; obtain ⟨y235, hy235⟩ : ∃ y_ : List (S38), y_ = (x6_3 ++ [(⟨(⟨ji60, ji61⟩ : S36), ((rd_T38 l1 x22_1).f1), ((rd_T38 l1 x22_1).f2)⟩ : S38)]) := ⟨_, rfl⟩
                          replace H : (five_Pieces.l2 k5 a0 y235 t219 x8_2 (wrap64 (x11_3 + 1)) l1 (l1.length : Int) x22_1 ((rd_T38 l1 x22_1).f0.f0) ((rd_T38 l1 x22_1).f0.f1) ((rd_T38 l1 x22_1).f1) ((rd_T38 l1 x22_1).f2)) = some (r1, r2) := by first | (rw [hy235]; with_reducible exact H) | (have H2_ := (Option.bind_some _ _).symm.trans H; rw [hy235]; with_reducible exact H2_) | (have H2_ := (Option.bind_some _ _).symm.trans H; with_reducible exact H2_) | with_reducible exact H | (rw [hy235]; exact H) | exact H
                          have Ny235 := Aside0.mk hy235; clear hy235; have H' := Aside0.mk H; clear H; have p227 : 0 ≤ (x11_3 : Int) := of_decide_eq_true (by first | (with_reducible assumption) | assumption)
                          have q227 : x11_3 < (t219.length : Int) := of_decide_eq_true (by first | (with_reducible assumption) | assumption)
                          obtain ⟨ad227, e227, hx227_0⟩ := Kd.at_int (Kd.R_reads' HO_7.out).2.2 x11_3 p227 q227
                          obtain rfl : ad224 = ad227 := (by injection e227)
                          replace p227 := eq_true p227; replace q227 := eq_true q227; try go_wp2
                          have n0_ := Aside0.mk (Kd.R_drew HO_6.out); have n1_ := Aside0.mk (Kd.R_drew HO_7.out); have n2_ := Aside0.mk (blk_drew BK223.out); have n3_ := Aside0.mk (below_drew1 HB.out); clear HO_6; clear HO_7; clear BK223; clear HB; have HO_6 := n0_; have HO_7 := n1_; have BK223 := n2_; have HB := n3_; clear n0_ n1_ n2_ n3_; have p233 : 0 ≤ (x11_3 : Int) := of_decide_eq_true (by first | (with_reducible assumption) | assumption)
                          have q233 : x11_3 < (t219.length : Int) := of_decide_eq_true (by first | (with_reducible assumption) | assumption)
                          obtain ⟨ad233, e233, hx233_0⟩ := Kd.at_int (Kd.R_reads' HO_7.out).2.2 x11_3 p233 q233
                          obtain rfl : ad224 = ad233 := (by injection e233)
                          replace p233 := eq_true p233; replace q233 := eq_true q233; refine start_ (n := 16) (S := fun w' => w'.cell? ⟨gb223, 0, none⟩ = some (.int .i64 ((rd_T38 l1 x22_1).f0.f0)) ∧ w'.cell? ⟨gb223, 1, none⟩ = some (.int .i64 ((rd_T38 l1 x22_1).f0.f1)) ∧ w'.cell? ⟨gb223, 2, none⟩ = some (.int .i64 ((rd_T38 l1 x22_1).f1)) ∧ w'.cell? ⟨gb223, 3, none⟩ = some (.int .i64 ((rd_T38 l1 x22_1).f2)) ∧ w'.cell? (ad224.add (x11_3).toNat) = some (.int .i64 (rd t219 x11_3))) (ds := []) (bz 16 0) (by kernel_rfl) rfl rfl ⟨(blk_cell BK223.out 0).trans rfl, (blk_cell BK223.out 1).trans rfl, (blk_cell BK223.out 2).trans rfl, (blk_cell BK223.out 3).trans rfl, hx233_0⟩ (fun hHeld => ?_); refine with_tabW five_Pieces.tab17 five_Pieces.bits17 (fun HT_ HW_ => ?_)
                          generalize wr.drew = w64 at HO_6 HO_7 BK223 HB hx233_0 hHeld ⊢
                          refine pu 0 (some 85) (bz 16 1) HT_ rfl rfl ?_; refine pu 1 (some 86) (bz 16 3) HT_ rfl rfl ?_; refine pu 3 (some 88) (bz 16 11) HT_ rfl rfl ?_; refine pu 4 (some 89) (bz 16 27) HT_ rfl rfl ?_; refine pu 5 (some 90) (bz 16 59) HT_ rfl rfl ?_; refine pu 8 (some 93) (bz 16 315) HT_ rfl rfl ?_; refine pu 9 (some 94) (bz 16 827) HT_ rfl rfl ?_; refine pu 11 (some 96) (bz 16 2875) HT_ rfl rfl ?_; refine tk 2 (some 87) (bz 16 2879) HT_ HW_ rfl rfl hHeld ?_; refine tk 6 (some 91) (bz 16 2943) HT_ HW_ rfl rfl hHeld ?_; refine pu 7 (some 92) (bz 16 3071) HT_ rfl rfl ?_; refine tk 10 (some 95) (bz 16 4095) HT_ HW_ rfl rfl hHeld ?_; refine pu 12 (some 97) (bz 16 8191) HT_ rfl rfl ?_; refine pu 13 (some 98) (bz 16 16383) HT_ rfl rfl ?_; refine one_ (i := 14) (N := some 13) (bz 16 32767) rfl rfl (one_of HT_.out (by kernel_rfl)) (by decide) (fun K hK => ?_)
                          refine box_step ?hg (N := 13) ?hd (cs := #[.int .i64 0, .int .i64 0]) (t := 36) ?hr ?_; (case hd => rfl); (case hg => rfl); (case hr => first | (go_simp; done) | (go_simp; rfl))
                          intro gb234 hg w65 hbox hb
                          have HS4_ := (hb.cell (World.block_lt_of_cell? _ _ (hHeld.2.2.2.2))).trans (hHeld.2.2.2.2)
                          have n0_ := Aside0.mk (Kd.R_below (rl HO_6) hb); have n1_ := Aside0.mk (Kd.R_below (rl HO_7) hb); have n2_ := Aside0.mk (blk_below (g := gb223) (o := .cells #[.int .i64 ((rd_T38 l1 x22_1).f0.f0), .int .i64 ((rd_T38 l1 x22_1).f0.f1), .int .i64 ((rd_T38 l1 x22_1).f1), .int .i64 ((rd_T38 l1 x22_1).f2)] 38 (0, 0)) (kl BK223) hb); have n3_ := Aside0.mk (below_step (by repeat (first | (with_reducible first | exact HB.out | apply below_alloc | apply pw_below_drewN | apply below_drew1 | refine below_set ?_ GE223.out) | exact HB.out)) hb); have n4_ := Aside0.mk (hbox); have n5_ := Aside0.mk ((by rw [hg]; exact (below_size (by repeat (first | (with_reducible first | exact HB.out | apply below_alloc | apply pw_below_drewN | apply below_drew1 | refine below_set ?_ GE223.out) | exact HB.out))) : w.heap.size ≤ gb234)); have n6_ := Aside0.mk ((by rw [hg]; exact (below_size (by repeat (first | (with_reducible first | exact HB.out | apply below_alloc | apply pw_below_drewN | apply below_drew1 | refine below_set ?_ GE223.out) | exact HB.out))) : w.heap.size ≤ gb234)); have n7_ := Aside0.mk ((by rw [hg]; exact Nat.ne_of_lt (blk_lt (g := gb223) (o := .cells #[.int .i64 ((rd_T38 l1 x22_1).f0.f0), .int .i64 ((rd_T38 l1 x22_1).f0.f1), .int .i64 ((rd_T38 l1 x22_1).f1), .int .i64 ((rd_T38 l1 x22_1).f2)] 38 (0, 0)) (kl BK223)) : gb223 ≠ gb234)); have n8_ := Aside0.mk ((by rw [hg]; exact Nat.ne_of_gt (blk_lt (g := gb223) (o := .cells #[.int .i64 ((rd_T38 l1 x22_1).f0.f0), .int .i64 ((rd_T38 l1 x22_1).f0.f1), .int .i64 ((rd_T38 l1 x22_1).f1), .int .i64 ((rd_T38 l1 x22_1).f2)] 38 (0, 0)) (kl BK223)) : gb234 ≠ gb223)); clear HO_6; clear HO_7; clear BK223; clear HB; have HO_6 := n0_; have HO_7 := n1_; have BK223 := n2_; have HB := n3_; have BK234 := n4_; have GW234 := n5_; have GE234 := n6_; have NB223_234 := n7_; have NB234_223 := n8_; clear n0_ n1_ n2_ n3_ n4_ n5_ n6_ n7_ n8_; clear hb hbox hg; refine hK.out _ _ ⟨(blk_cell BK223.out 0).trans rfl, (blk_cell BK223.out 1).trans rfl, (blk_cell BK223.out 2).trans rfl, (blk_cell BK223.out 3).trans rfl, HS4_⟩ (fun hHeld => ?_)
                          clear hK K; refine norm_ (a' := ?_) ?_ ?_
                          rotate_left
                          ·show Act.put _ (some 13) _ = _
                           simp only [Act.put, List.setIfInBounds_toArray, List.set_cons_zero, List.set_cons_succ, i64_w, i32_w]
                           rfl
                          refine one_ (i := 15) (N := none) (bz 16 65535) rfl rfl (one_of HT_.out (by kernel_rfl)) (by decide) (fun K hK => ?_)
                          have hs66 : w65.cell? ⟨gb234, 0, none⟩ = some (.int .i64 0) := (blk_cell BK234.out 0).trans rfl
                          have hfs66 := blk_frozen BK234.out 0
                          have hns66_0 := NB223_234.out
                          have hms66_0 := NB234_223.out
                          have hs67 : w65.cell? ⟨gb234, 1, none⟩ = some (.int .i64 0) := (blk_cell BK234.out 1).trans rfl
                          have hfs67 := blk_frozen BK234.out 1
                          have hns67_0 := NB223_234.out
                          have hms67_0 := NB234_223.out
                          refine skip_ (w1 := ?_) (by rfl) rfl ?_ ?_
                          rotate_left
                          ·go_simp
                           rfl
                          refine hK.out _ _ ⟨((cell_far (p := ⟨gb234, _, none⟩) NB223_234.out _).trans (((cell_far (p := ⟨gb234, _, none⟩) NB223_234.out _).trans (hHeld.1)))), ((cell_far (p := ⟨gb234, _, none⟩) NB223_234.out _).trans (((cell_far (p := ⟨gb234, _, none⟩) NB223_234.out _).trans (hHeld.2.1)))), ((cell_far (p := ⟨gb234, _, none⟩) NB223_234.out _).trans (((cell_far (p := ⟨gb234, _, none⟩) NB223_234.out _).trans (hHeld.2.2.1)))), ((cell_far (p := ⟨gb234, _, none⟩) NB223_234.out _).trans (((cell_far (p := ⟨gb234, _, none⟩) NB223_234.out _).trans (hHeld.2.2.2.1)))), ((cell_far (p := ⟨gb234, _, none⟩) (by first | exact Kd.own_blk (Kd.R_ne HO_7.out BK234.out (by decide)) | (rw [add_block]; exact Kd.own_blk (Kd.R_ne HO_7.out BK234.out (by decide))) | (show (Addr.add _ _).block ≠ _; rw [add_block]; exact Kd.own_blk (Kd.R_ne HO_7.out BK234.out (by decide))) | (dsimp only; exact Kd.own_blk (Kd.R_ne HO_7.out BK234.out (by decide)))) _).trans (((cell_far (p := ⟨gb234, _, none⟩) (by first | exact Kd.own_blk (Kd.R_ne HO_7.out BK234.out (by decide)) | (rw [add_block]; exact Kd.own_blk (Kd.R_ne HO_7.out BK234.out (by decide))) | (show (Addr.add _ _).block ≠ _; rw [add_block]; exact Kd.own_blk (Kd.R_ne HO_7.out BK234.out (by decide))) | (dsimp only; exact Kd.own_blk (Kd.R_ne HO_7.out BK234.out (by decide)))) _).trans (hHeld.2.2.2.2))))⟩ (fun hHeld => ?_)
                          clear hK K; refine done_ (done_of HT_.out (by kernel_rfl)) ?_
                          have hnb68 := NB234_223.out
                          have hnc68 := NB223_234.out
                          have hcz69_0 : w65.cell? ⟨gb234, 0, none⟩ = some (.int .i64 0) := (blk_cell BK234.out 0).trans rfl
                          have hcz69_1 : w65.cell? ⟨gb234, 1, none⟩ = some (.int .i64 0) := (blk_cell BK234.out 1).trans rfl
                          have hfz69_0 := blk_frozen BK234.out 0
                          have hfz69_1 := blk_frozen BK234.out 1
                          have hcz70_0 : w65.cell? ⟨gb223, 0, none⟩ = some (.int .i64 ((rd_T38 l1 x22_1).f0.f0)) := (blk_cell BK223.out 0).trans rfl
                          have hcz70_1 : w65.cell? ⟨gb223, 1, none⟩ = some (.int .i64 ((rd_T38 l1 x22_1).f0.f1)) := (blk_cell BK223.out 1).trans rfl
                          have hcz70_2 : w65.cell? ⟨gb223, 2, none⟩ = some (.int .i64 ((rd_T38 l1 x22_1).f1)) := (blk_cell BK223.out 2).trans rfl
                          have hcz70_3 : w65.cell? ⟨gb223, 3, none⟩ = some (.int .i64 ((rd_T38 l1 x22_1).f2)) := (blk_cell BK223.out 3).trans rfl
                          have hfz70_0 := blk_frozen BK223.out 0
                          have hfz70_1 := blk_frozen BK223.out 1
                          have hfz70_2 := blk_frozen BK223.out 2
                          have hfz70_3 := blk_frozen BK223.out 3
                          try go_wp2_with (first | ((with_reducible refine gate_builtin (b := .append) (xs := #[.tmp 104, .tmp 111]) rfl ?_); at_builtin; refine Kd.R_append k38 (w0 := w) w.heap.size rfl (.tmp 104) (.tmp 111) 22 38 (.agg #[(.int .i64 0), (.int .i64 0), (.int .i64 0), (.int .i64 0)]) 32 rfl Tryd.underlying22 info38 rfl (by decide) (by omega) u6 x6_3 (⟨(⟨ji60, ji61⟩ : S36), ((rd_T38 l1 x22_1).f1), ((rd_T38 l1 x22_1).f2)⟩ : S38) [.int .i64 ji60, .int .i64 ji61, .int .i64 ((rd_T38 l1 x22_1).f1), .int .i64 ((rd_T38 l1 x22_1).f2)] (fun k_ => k_ ≠ gb223) (fun _ => False) rfl (by first | (go_simp; done) | (go_simp; rfl)) ?aP (fun _ hk => hk.elim) ?aF ?aO ?aB ?aS ?aL ?_; (case aP => exact k38_mkM _ _ _ (⟨(⟨ji60, ji61⟩ : S36), ((rd_T38 l1 x22_1).f1), ((rd_T38 l1 x22_1).f2)⟩ : S38)); (case aB => exact (by repeat (first | (with_reducible first | exact HB.out | apply below_alloc | apply pw_below_drewN | apply below_drew1 | refine below_set ?_ GE223.out | refine below_set ?_ GE234.out) | exact HB.out))); (case aF => exact (fun k_ hk => Kd.freshB (g := gb223) (o := .cells #[.int .i64 ((rd_T38 l1 x22_1).f0.f0), .int .i64 ((rd_T38 l1 x22_1).f0.f1), .int .i64 ((rd_T38 l1 x22_1).f1), .int .i64 ((rd_T38 l1 x22_1).f2)] 38 (0, 0)) (by (with_reducible repeat (first | refine blk_drewN ?_ _ | refine blk_drew ?_ | refine blk_alloc ?_ _)); refine blk_far ?_ NB223_234.out _; (with_reducible repeat (first | refine blk_drewN ?_ _ | refine blk_drew ?_ | refine blk_alloc ?_ _)); refine blk_far ?_ NB223_234.out _; (with_reducible repeat (first | refine blk_drewN ?_ _ | refine blk_drew ?_ | refine blk_alloc ?_ _)); exact BK223.out) k_ hk)); (case aO => exact (by (with_reducible repeat (first | apply Kd.R_alloc | apply Kd.R_drewN | apply Kd.R_drew)); exact Kd.R_mono (Kd.R_far (p := ⟨gb234, 1, none⟩) (Kd.R_far (p := ⟨gb234, 0, none⟩) (Kd.R_types HO_6.out BK234.out (by decide)) (fun _ hk => hk.2) (.int .i64 ji60)) (fun _ hk => hk.2) (.int .i64 ji61)) (fun _ hk => hk.1))); (case aS => exact (below_size (by repeat (first | (with_reducible first | exact HB.out | apply below_alloc | apply pw_below_drewN | apply below_drew1 | refine below_set ?_ GE223.out | refine below_set ?_ GE234.out) | exact HB.out)))); (case aL => have := LMc63.out; omega); intro v236 w71 ho hb hg hat; rw [← Ny235.out] at ho; have n0_ := Aside0.mk (Kd.R_over' (by (with_reducible repeat (first | apply Kd.R_alloc | apply Kd.R_drewN | apply Kd.R_drew)); exact (Kd.R_mono (Kd.R_far (p := ⟨gb234, 1, none⟩) (Kd.R_far (p := ⟨gb234, 0, none⟩) (Kd.R_types HO_7.out BK234.out (by decide)) (fun _ hk => hk.2) (.int .i64 ji60)) (fun _ hk => hk.2) (.int .i64 ji61)) (fun _ h_ => h_.1))) (Kd.R_typed (by (with_reducible repeat (first | apply Kd.R_alloc | apply Kd.R_drewN | apply Kd.R_drew)); exact (Kd.R_mono (Kd.R_far (p := ⟨gb234, 1, none⟩) (Kd.R_far (p := ⟨gb234, 0, none⟩) (Kd.R_types HO_6.out BK234.out (by decide)) (fun _ hk => hk.2) (.int .i64 ji60)) (fun _ hk => hk.2) (.int .i64 ji61)) (fun _ h_ => h_.1)))) (by decide) hg); have n1_ := Aside0.mk (blk_grown (g := gb223) (o := .cells #[.int .i64 ((rd_T38 l1 x22_1).f0.f0), .int .i64 ((rd_T38 l1 x22_1).f0.f1), .int .i64 ((rd_T38 l1 x22_1).f1), .int .i64 ((rd_T38 l1 x22_1).f2)] 38 (0, 0)) (by (with_reducible repeat (first | refine blk_drewN ?_ _ | refine blk_drew ?_ | refine blk_alloc ?_ _)); refine blk_far ?_ NB223_234.out _; (with_reducible repeat (first | refine blk_drewN ?_ _ | refine blk_drew ?_ | refine blk_alloc ?_ _)); refine blk_far ?_ NB223_234.out _; (with_reducible repeat (first | refine blk_drewN ?_ _ | refine blk_drew ?_ | refine blk_alloc ?_ _)); exact BK223.out) hg (Kd.R_away HO_6.out (fun _ hk => hk))); have n2_ := Aside0.mk (blk_grown (g := gb234) (o := .cells #[.int .i64 ji60, .int .i64 ji61] 36 (0, 0)) (by (with_reducible repeat (first | refine blk_drewN ?_ _ | refine blk_drew ?_ | refine blk_alloc ?_ _)); refine blk_put (cs := #[.int .i64 ji60, .int .i64 0]) ?_ 1 _ rfl; (with_reducible repeat (first | refine blk_drewN ?_ _ | refine blk_drew ?_ | refine blk_alloc ?_ _)); refine blk_put (cs := #[.int .i64 0, .int .i64 0]) ?_ 0 _ rfl; (with_reducible repeat (first | refine blk_drewN ?_ _ | refine blk_drew ?_ | refine blk_alloc ?_ _)); exact BK234.out) hg (Kd.R_ne HO_6.out BK234.out (by decide))); have n3_ := Aside0.mk (hb); have n4_ := Aside0.mk (ho); clear HO_7; clear BK223; clear BK234; clear HB; clear HO_6; have HO_7 := n0_; have BK223 := n1_; have BK234 := n2_; have HB := n3_; have HO237 := n4_; clear n0_ n1_ n2_ n3_ n4_; clear ho hb hg hat))
                          go_roundg k5
                          case measure => have := HK1.out; have := HK2.out; have := HK3.out; have := HJ20.out; have := HK5.out; omega
                          case rel => exact ⟨(y235), (wrap64 (x11_3 + 1)), (by first | rfl | (simp; done) | (simp [*]; done) | (simp; exact xEmpty_ne _) | (simp [*]; exact xEmpty_ne _)), H', ⟨by have := HK1.out; have := HK2.out; have := HK3.out; have := HJ20.out; have := HK5.out; omega⟩, ⟨rl HO237⟩, ⟨rl HO_7⟩, ⟨kl BK223⟩, ⟨by repeat (first | (with_reducible first | exact HB.out | apply below_alloc | apply pw_below_drewN | apply below_drew1 | refine below_set ?_ GE223.out | refine below_set ?_ GE234.out) | exact HB.out)⟩⟩
                         ·rw [if_neg c63] at H; exact absurd H (by simp)
                        ·rw [if_neg c62] at H; have c62b0 : decide ((ji60) < (ji61)) = false := decide_eq_false c62; clear c62; have H' := Aside0.mk H; clear H; have p227 : 0 ≤ (x11_3 : Int) := of_decide_eq_true (by first | (with_reducible assumption) | assumption)
                         have q227 : x11_3 < (t219.length : Int) := of_decide_eq_true (by first | (with_reducible assumption) | assumption)
                         obtain ⟨ad227, e227, hx227_0⟩ := Kd.at_int (Kd.R_reads' HO_7.out).2.2 x11_3 p227 q227
                         obtain rfl : ad224 = ad227 := (by injection e227)
                         replace p227 := eq_true p227; replace q227 := eq_true q227; try go_wp2
                         have n0_ := Aside0.mk (Kd.R_drew HO_6.out); have n1_ := Aside0.mk (Kd.R_drew HO_7.out); have n2_ := Aside0.mk (blk_drew BK223.out); have n3_ := Aside0.mk (below_drew1 HB.out); clear HO_6; clear HO_7; clear BK223; clear HB; have HO_6 := n0_; have HO_7 := n1_; have BK223 := n2_; have HB := n3_; clear n0_ n1_ n2_ n3_; have p233 : 0 ≤ (x11_3 : Int) := of_decide_eq_true (by first | (with_reducible assumption) | assumption)
                         have q233 : x11_3 < (t219.length : Int) := of_decide_eq_true (by first | (with_reducible assumption) | assumption)
                         obtain ⟨ad233, e233, hx233_0⟩ := Kd.at_int (Kd.R_reads' HO_7.out).2.2 x11_3 p233 q233
                         obtain rfl : ad224 = ad233 := (by injection e233)
                         replace p233 := eq_true p233; replace q233 := eq_true q233; refine start_ (n := 16) (S := fun w' => w'.cell? ⟨gb223, 0, none⟩ = some (.int .i64 ((rd_T38 l1 x22_1).f0.f0)) ∧ w'.cell? ⟨gb223, 1, none⟩ = some (.int .i64 ((rd_T38 l1 x22_1).f0.f1)) ∧ w'.cell? ⟨gb223, 2, none⟩ = some (.int .i64 ((rd_T38 l1 x22_1).f1)) ∧ w'.cell? ⟨gb223, 3, none⟩ = some (.int .i64 ((rd_T38 l1 x22_1).f2)) ∧ w'.cell? (ad224.add (x11_3).toNat) = some (.int .i64 (rd t219 x11_3))) (ds := []) (bz 16 0) (by kernel_rfl) rfl rfl ⟨(blk_cell BK223.out 0).trans rfl, (blk_cell BK223.out 1).trans rfl, (blk_cell BK223.out 2).trans rfl, (blk_cell BK223.out 3).trans rfl, hx233_0⟩ (fun hHeld => ?_); refine with_tabW five_Pieces.tab17 five_Pieces.bits17 (fun HT_ HW_ => ?_)
                         generalize wr.drew = w72 at HO_6 HO_7 BK223 HB hx233_0 hHeld ⊢
                         refine pu 0 (some 85) (bz 16 1) HT_ rfl rfl ?_; refine pu 1 (some 86) (bz 16 3) HT_ rfl rfl ?_; refine pu 3 (some 88) (bz 16 11) HT_ rfl rfl ?_; refine pu 4 (some 89) (bz 16 27) HT_ rfl rfl ?_; refine pu 5 (some 90) (bz 16 59) HT_ rfl rfl ?_; refine pu 8 (some 93) (bz 16 315) HT_ rfl rfl ?_; refine pu 9 (some 94) (bz 16 827) HT_ rfl rfl ?_; refine pu 11 (some 96) (bz 16 2875) HT_ rfl rfl ?_; refine tk 2 (some 87) (bz 16 2879) HT_ HW_ rfl rfl hHeld ?_; refine tk 6 (some 91) (bz 16 2943) HT_ HW_ rfl rfl hHeld ?_; refine pu 7 (some 92) (bz 16 3071) HT_ rfl rfl ?_; refine tk 10 (some 95) (bz 16 4095) HT_ HW_ rfl rfl hHeld ?_; refine pu 12 (some 97) (bz 16 8191) HT_ rfl rfl ?_; refine pu 13 (some 98) (bz 16 16383) HT_ rfl rfl ?_; refine one_ (i := 14) (N := some 13) (bz 16 32767) rfl rfl (one_of HT_.out (by kernel_rfl)) (by decide) (fun K hK => ?_)
                         refine box_step ?hg (N := 13) ?hd (cs := #[.int .i64 0, .int .i64 0]) (t := 36) ?hr ?_; (case hd => rfl); (case hg => rfl); (case hr => first | (go_simp; done) | (go_simp; rfl))
                         intro gb234 hg w73 hbox hb
                         have HS4_ := (hb.cell (World.block_lt_of_cell? _ _ (hHeld.2.2.2.2))).trans (hHeld.2.2.2.2)
                         have n0_ := Aside0.mk (Kd.R_below (rl HO_6) hb); have n1_ := Aside0.mk (Kd.R_below (rl HO_7) hb); have n2_ := Aside0.mk (blk_below (g := gb223) (o := .cells #[.int .i64 ((rd_T38 l1 x22_1).f0.f0), .int .i64 ((rd_T38 l1 x22_1).f0.f1), .int .i64 ((rd_T38 l1 x22_1).f1), .int .i64 ((rd_T38 l1 x22_1).f2)] 38 (0, 0)) (kl BK223) hb); have n3_ := Aside0.mk (below_step (by repeat (first | (with_reducible first | exact HB.out | apply below_alloc | apply pw_below_drewN | apply below_drew1 | refine below_set ?_ GE223.out) | exact HB.out)) hb); have n4_ := Aside0.mk (hbox); have n5_ := Aside0.mk ((by rw [hg]; exact (below_size (by repeat (first | (with_reducible first | exact HB.out | apply below_alloc | apply pw_below_drewN | apply below_drew1 | refine below_set ?_ GE223.out) | exact HB.out))) : w.heap.size ≤ gb234)); have n6_ := Aside0.mk ((by rw [hg]; exact (below_size (by repeat (first | (with_reducible first | exact HB.out | apply below_alloc | apply pw_below_drewN | apply below_drew1 | refine below_set ?_ GE223.out) | exact HB.out))) : w.heap.size ≤ gb234)); have n7_ := Aside0.mk ((by rw [hg]; exact Nat.ne_of_lt (blk_lt (g := gb223) (o := .cells #[.int .i64 ((rd_T38 l1 x22_1).f0.f0), .int .i64 ((rd_T38 l1 x22_1).f0.f1), .int .i64 ((rd_T38 l1 x22_1).f1), .int .i64 ((rd_T38 l1 x22_1).f2)] 38 (0, 0)) (kl BK223)) : gb223 ≠ gb234)); have n8_ := Aside0.mk ((by rw [hg]; exact Nat.ne_of_gt (blk_lt (g := gb223) (o := .cells #[.int .i64 ((rd_T38 l1 x22_1).f0.f0), .int .i64 ((rd_T38 l1 x22_1).f0.f1), .int .i64 ((rd_T38 l1 x22_1).f1), .int .i64 ((rd_T38 l1 x22_1).f2)] 38 (0, 0)) (kl BK223)) : gb234 ≠ gb223)); clear HO_6; clear HO_7; clear BK223; clear HB; have HO_6 := n0_; have HO_7 := n1_; have BK223 := n2_; have HB := n3_; have BK234 := n4_; have GW234 := n5_; have GE234 := n6_; have NB223_234 := n7_; have NB234_223 := n8_; clear n0_ n1_ n2_ n3_ n4_ n5_ n6_ n7_ n8_; clear hb hbox hg; refine hK.out _ _ ⟨(blk_cell BK223.out 0).trans rfl, (blk_cell BK223.out 1).trans rfl, (blk_cell BK223.out 2).trans rfl, (blk_cell BK223.out 3).trans rfl, HS4_⟩ (fun hHeld => ?_)
                         clear hK K; refine norm_ (a' := ?_) ?_ ?_
                         rotate_left
                         ·show Act.put _ (some 13) _ = _
                          simp only [Act.put, List.setIfInBounds_toArray, List.set_cons_zero, List.set_cons_succ, i64_w, i32_w]
                          rfl
                         refine one_ (i := 15) (N := none) (bz 16 65535) rfl rfl (one_of HT_.out (by kernel_rfl)) (by decide) (fun K hK => ?_)
                         have hs74 : w73.cell? ⟨gb234, 0, none⟩ = some (.int .i64 0) := (blk_cell BK234.out 0).trans rfl
                         have hfs74 := blk_frozen BK234.out 0
                         have hns74_0 := NB223_234.out
                         have hms74_0 := NB234_223.out
                         have hs75 : w73.cell? ⟨gb234, 1, none⟩ = some (.int .i64 0) := (blk_cell BK234.out 1).trans rfl
                         have hfs75 := blk_frozen BK234.out 1
                         have hns75_0 := NB223_234.out
                         have hms75_0 := NB234_223.out
                         refine skip_ (w1 := ?_) (by rfl) rfl ?_ ?_
                         rotate_left
                         ·go_simp
                          rfl
                         refine hK.out _ _ ⟨((cell_far (p := ⟨gb234, _, none⟩) NB223_234.out _).trans (((cell_far (p := ⟨gb234, _, none⟩) NB223_234.out _).trans (hHeld.1)))), ((cell_far (p := ⟨gb234, _, none⟩) NB223_234.out _).trans (((cell_far (p := ⟨gb234, _, none⟩) NB223_234.out _).trans (hHeld.2.1)))), ((cell_far (p := ⟨gb234, _, none⟩) NB223_234.out _).trans (((cell_far (p := ⟨gb234, _, none⟩) NB223_234.out _).trans (hHeld.2.2.1)))), ((cell_far (p := ⟨gb234, _, none⟩) NB223_234.out _).trans (((cell_far (p := ⟨gb234, _, none⟩) NB223_234.out _).trans (hHeld.2.2.2.1)))), ((cell_far (p := ⟨gb234, _, none⟩) (by first | exact Kd.own_blk (Kd.R_ne HO_7.out BK234.out (by decide)) | (rw [add_block]; exact Kd.own_blk (Kd.R_ne HO_7.out BK234.out (by decide))) | (show (Addr.add _ _).block ≠ _; rw [add_block]; exact Kd.own_blk (Kd.R_ne HO_7.out BK234.out (by decide))) | (dsimp only; exact Kd.own_blk (Kd.R_ne HO_7.out BK234.out (by decide)))) _).trans (((cell_far (p := ⟨gb234, _, none⟩) (by first | exact Kd.own_blk (Kd.R_ne HO_7.out BK234.out (by decide)) | (rw [add_block]; exact Kd.own_blk (Kd.R_ne HO_7.out BK234.out (by decide))) | (show (Addr.add _ _).block ≠ _; rw [add_block]; exact Kd.own_blk (Kd.R_ne HO_7.out BK234.out (by decide))) | (dsimp only; exact Kd.own_blk (Kd.R_ne HO_7.out BK234.out (by decide)))) _).trans (hHeld.2.2.2.2))))⟩ (fun hHeld => ?_)
                         clear hK K; refine done_ (done_of HT_.out (by kernel_rfl)) ?_
                         have hnb76 := NB234_223.out
                         have hnc76 := NB223_234.out
                         have hcz77_0 : w73.cell? ⟨gb234, 0, none⟩ = some (.int .i64 0) := (blk_cell BK234.out 0).trans rfl
                         have hcz77_1 : w73.cell? ⟨gb234, 1, none⟩ = some (.int .i64 0) := (blk_cell BK234.out 1).trans rfl
                         have hfz77_0 := blk_frozen BK234.out 0
                         have hfz77_1 := blk_frozen BK234.out 1
                         try go_wp2
                         go_roundg k5
                         case measure => have := HK1.out; have := HK2.out; have := HK3.out; have := HJ20.out; have := HK5.out; omega
                         case rel => exact ⟨(x6_3), (wrap64 (x11_3 + 1)), (by first | rfl | (simp; done) | (simp [*]; done) | (simp; exact xEmpty_ne _) | (simp [*]; exact xEmpty_ne _)), H', ⟨by have := HK1.out; have := HK2.out; have := HK3.out; have := HJ20.out; have := HK5.out; omega⟩, ⟨by (with_reducible repeat (first | apply Kd.R_alloc | apply Kd.R_drewN | apply Kd.R_drew)); exact Kd.R_mono (Kd.R_far (p := ⟨gb234, 1, none⟩) (Kd.R_far (p := ⟨gb234, 0, none⟩) (Kd.R_types HO_6.out BK234.out (by decide)) (fun _ hk => hk.2) (.int .i64 ji60)) (fun _ hk => hk.2) (.int .i64 ji61)) (fun _ hk => hk.1)⟩, ⟨by (with_reducible repeat (first | apply Kd.R_alloc | apply Kd.R_drewN | apply Kd.R_drew)); exact Kd.R_mono (Kd.R_far (p := ⟨gb234, 1, none⟩) (Kd.R_far (p := ⟨gb234, 0, none⟩) (Kd.R_types HO_7.out BK234.out (by decide)) (fun _ hk => hk.2) (.int .i64 ji60)) (fun _ hk => hk.2) (.int .i64 ji61)) (fun _ hk => trivial)⟩, ⟨by (with_reducible repeat (first | refine blk_drewN ?_ _ | refine blk_drew ?_ | refine blk_alloc ?_ _)); refine blk_far ?_ NB223_234.out _; (with_reducible repeat (first | refine blk_drewN ?_ _ | refine blk_drew ?_ | refine blk_alloc ?_ _)); refine blk_far ?_ NB223_234.out _; (with_reducible repeat (first | refine blk_drewN ?_ _ | refine blk_drew ?_ | refine blk_alloc ?_ _)); exact BK223.out⟩, ⟨by repeat (first | (with_reducible first | exact HB.out | apply below_alloc | apply pw_below_drewN | apply below_drew1 | refine below_set ?_ GE223.out | refine below_set ?_ GE234.out) | exact HB.out)⟩⟩
                      ·rw [if_neg c33] at H; exact absurd H (by simp)
                     ·rw [if_neg c32] at H; exact absurd H (by simp)
                  ·rw [if_neg c30] at H; exact absurd H (by simp)
                 ·rw [if_neg c29] at H; exact absurd H (by simp)
                ·replace c27 := Bool.eq_false_iff.mpr c27
                 subst c27; have H1 : (five_Pieces.l0 kj20 a0 x6_3 t219 x8_2 l1 (l1.length : Int) (wrap64 (x22_1 + 1))) = some (r1, r2) := by rw [if_neg (show ¬ (false = true) by decide)] at H; exact H
                 clear H; have H := H1
                 clear H1; have H' := Aside0.mk H; clear H; go_wp2
                 go_roundg kj20
                 case measure => have := HK1.out; have := HK2.out; have := HK3.out; have := HJ20.out; omega
                 case rel => exact ⟨(x6_3), (x8_2), (wrap64 (x22_1 + 1)), (by first | rfl | (simp; done) | (simp [*]; done) | (simp; exact xEmpty_ne _) | (simp [*]; exact xEmpty_ne _)), (by first | rfl | (simp; done) | (simp [*]; done) | (simp; exact xEmpty_ne _) | (simp [*]; exact xEmpty_ne _)), H', ⟨by have := HK1.out; have := HK2.out; have := HK3.out; have := HJ20.out; omega⟩, ⟨by (with_reducible repeat (first | apply Kd.R_alloc | apply Kd.R_drewN | apply Kd.R_drew)); exact Kd.R_mono HO_6.out (fun _ hk => trivial)⟩, ⟨rl HO_7⟩, ⟨by repeat (first | (with_reducible first | exact HB.out | apply below_alloc | apply pw_below_drewN | apply below_drew1 | refine below_set ?_ GE223.out) | exact HB.out)⟩⟩
          ·rw [if_neg c15] at H; exact absurd H (by simp)
         ·rw [if_neg c14] at H; exact absurd H (by simp)
      ·rw [if_neg c10] at H; exact absurd H (by simp)
     ·rw [if_neg c9] at H; exact absurd H (by simp)
    ·rw [if_neg c8] at H; have c8b0 : decide (x22_1 < (l1.length : Int)) = false := decide_eq_false c8; clear c8; simp only [Option.some.injEq, Prod.mk.injEq] at H
     obtain ⟨rfl, rfl⟩ := H
     go_wp2
     go_ret2
     exact ⟨_, by first | rfl | (simp [errW_none, errW_some] <;> rfl) | (simp [*, errW_none, errW_some] <;> rfl), rl HO_6, bl HB⟩
 ·replace c4 := Bool.eq_false_iff.mpr c4
  subst c4; have H1 : (some (([] : List (S38)), 230)) = some (r1, r2) := by rw [if_neg (show ¬ (false = true) by decide)] at H; exact H
  clear H; have H := H1
  clear H1; simp only [Option.some.injEq, Prod.mk.injEq] at H
  obtain ⟨rfl, rfl⟩ := H
  go_enter Tryd.func11, Tryd.ntmps11
  go_wp2_with (first | ((with_reducible refine gate_callee (f := 24) rfl ?_); refine goesL_ (some 16) rfl rfl Tryd.func24 (by kernel_rfl) rfl #[.string a0, .slice A1 l1.length c1] rfl (by (try simp only [List.map_toArray, List.map_cons, List.map_nil]); first | done | rfl | (simp only [List.length_drop, List.length_take]; rfl)) ?_; (with_reducible refine (five_right.calls k a0 _ _ l1 false _ ?side1 ?side2 (by first | exact HG.out | exact GlobOk.below HG.out (bl HB)) A3.out).mono ?_); (case side1 => repeat (first | exact HR1.out | (with_reducible refine Kd.C_alloc ?_ _) | (with_reducible refine Kd.C_drewN ?_ _) | (with_reducible refine Kd.C_drew ?_))); (case side2 => exact HC1.out); rintro e w78 ⟨rfl, hb⟩; refine ⟨_, rfl, ?_⟩; have n0_ := Aside0.mk (below_step (bl HB) hb); clear HB; have HB := n0_; clear n0_; (try clear hb); (try clear hb2); (try clear hk); (try clear hi)))
  go_ret2
  exact ⟨_, by first | rfl | (simp [errW_none, errW_some] <;> rfl) | (simp [*, errW_none, errW_some] <;> rfl), by first | exact Kd.R_nil _ _ _ _ _ | exact Kd.N_nil _ _ _ _ _ | exact Kd.V_nil _ _ _ _ _ | exact Kd.Q_nil _ _ _ _ _ | exact Kd.S_nil _ _ _ _ _, bl HB⟩

end Go.Proofs.YtbjhmknahldhaaaDoor.Q
