/- Words and walks of this claim, put together by this repo's wip/xlink.py out of Q16. -/
import Derived.Test.YtebmgmagdhedgaaGreatDoorL8
namespace Go.Proofs.YtebmgmagdhedgaaGreatDoor.Q
open Go.RowKit Go.Proofs.YtebmgmagdhedgaaGreatDoorW.PrintWords Go.Proofs.YtebmgmagdhedgaaGreatDoorW.PrintLast Go.Proofs.YtebmgmagdhedgaaGreatDoorW.PrintMore
attribute [local go_sem] max2_int min2_int max_two min_two max_three min_three max_four min_four   
set_option linter.unusedVariables false
set_option linter.unusedSimpArgs false
mutual
def glossatorref03_Same.j0 : Nat → Bool → Int → ByteArray → List (S25) → List (S45) → Int → ByteArray → List (S25) → List (S45) → Option (Bool)
 | 0, _, _, _, _, _, _, _, _, _ => none
 | k + 1, x36, x175000, x175001, x175002, x175003, x176000, x176001, x176002, x176003 => if x36 = true then (some false) else (glossatorref03_Same.l0 k 0 x175000 x175001 x175002 x175003 x176000 x176001 x176002 x176003)
def glossatorref03_Same.l0 : Nat → Int → Int → ByteArray → List (S25) → List (S45) → Int → ByteArray → List (S25) → List (S45) → Option (Bool)
 | 0, _, _, _, _, _, _, _, _, _ => none
 | k + 1, x5, x175000, x175001, x175002, x175003, x176000, x176001, x176002, x176003 => if x5 < (x175002.length : Int) then (if 0 ≤ x5 then (if x5 < (x176002.length : Int) then ((glossatorref03_Same.f k ((rd_T25 x175002 x5).f0) ((rd_T25 x175002 x5).f1) ((rd_T25 x175002 x5).f2) ((rd_T25 x175002 x5).f3) ((rd_T25 x176002 x5).f0) ((rd_T25 x176002 x5).f1) ((rd_T25 x176002 x5).f2) ((rd_T25 x176002 x5).f3)).bind fun t178 => (if t178 = true then (glossatorref03_Same.l0 k (wrap64 (x5 + 1)) x175000 x175001 x175002 x175003 x176000 x176001 x176002 x176003) else (some false))) else (none)) else (none)) else (glossatorref03_Same.l1 k 0 x175000 x175001 x175002 x175003 x176000 x176001 x176002 x176003)
def glossatorref03_Same.l1 : Nat → Int → Int → ByteArray → List (S25) → List (S45) → Int → ByteArray → List (S25) → List (S45) → Option (Bool)
 | 0, _, _, _, _, _, _, _, _, _ => none
 | k + 1, x6, x175000, x175001, x175002, x175003, x176000, x176001, x176002, x176003 => if x6 < (x175003.length : Int) then (if 0 ≤ x6 then (if x6 < (x176003.length : Int) then (if ((rd_T45 x175003 x6).f0).toList = ((rd_T45 x176003 x6).f0).toList then ((glossatorref03_Same.f k ((rd_T45 x175003 x6).f1.f0) ((rd_T45 x175003 x6).f1.f1) ((rd_T45 x175003 x6).f1.f2) ((rd_T45 x175003 x6).f1.f3) ((rd_T45 x176003 x6).f1.f0) ((rd_T45 x176003 x6).f1.f1) ((rd_T45 x176003 x6).f1.f2) ((rd_T45 x176003 x6).f1.f3)).bind fun t183 => (if t183 = true then (glossatorref03_Same.l1 k (wrap64 (x6 + 1)) x175000 x175001 x175002 x175003 x176000 x176001 x176002 x176003) else (some false))) else (some false)) else (none)) else (none)) else (some true)
def glossatorref03_Same.f : Nat → Int → ByteArray → List (S25) → List (S45) → Int → ByteArray → List (S25) → List (S45) → Option (Bool)
 | 0, _, _, _, _, _, _, _, _ => none
 | k + 1, a0_0, a0_1, l0_2, l0_3, a1_0, a1_1, l1_2, l1_3 => if a0_0 = a1_0 then (if a0_1.toList = a1_1.toList then (if (l0_2.length : Int) = (l1_2.length : Int) then (glossatorref03_Same.j0 k ((l0_3.length : Int) != (l1_3.length : Int)) a0_0 a0_1 l0_2 l0_3 a1_0 a1_1 l1_2 l1_3) else (glossatorref03_Same.j0 k true a0_0 a0_1 l0_2 l0_3 a1_0 a1_1 l1_2 l1_3)) else (glossatorref03_Same.j0 k true a0_0 a0_1 l0_2 l0_3 a1_0 a1_1 l1_2 l1_3)) else (glossatorref03_Same.j0 k true a0_0 a0_1 l0_2 l0_3 a1_0 a1_1 l1_2 l1_3)
end
theorem glossatorref03_Same.mono_l : ∀ k, (∀ y0 y1 y2 y3 y4 y5 y6 y7, LeO (glossatorref03_Same.f k y0 y1 y2 y3 y4 y5 y6 y7) (glossatorref03_Same.f (k + 1) y0 y1 y2 y3 y4 y5 y6 y7)) ∧ (∀ y0 y1 y2 y3 y4 y5 y6 y7 y8, LeO (glossatorref03_Same.j0 k y0 y1 y2 y3 y4 y5 y6 y7 y8) (glossatorref03_Same.j0 (k + 1) y0 y1 y2 y3 y4 y5 y6 y7 y8)) ∧ (∀ y0 y1 y2 y3 y4 y5 y6 y7 y8, LeO (glossatorref03_Same.l0 k y0 y1 y2 y3 y4 y5 y6 y7 y8) (glossatorref03_Same.l0 (k + 1) y0 y1 y2 y3 y4 y5 y6 y7 y8)) ∧ (∀ y0 y1 y2 y3 y4 y5 y6 y7 y8, LeO (glossatorref03_Same.l1 k y0 y1 y2 y3 y4 y5 y6 y7 y8) (glossatorref03_Same.l1 (k + 1) y0 y1 y2 y3 y4 y5 y6 y7 y8))
 | 0 => ⟨fun _ _ _ _ _ _ _ _ r h => by simp [glossatorref03_Same.f] at h, fun _ _ _ _ _ _ _ _ _ r h => by simp [glossatorref03_Same.j0] at h, fun _ _ _ _ _ _ _ _ _ r h => by simp [glossatorref03_Same.l0] at h, fun _ _ _ _ _ _ _ _ _ r h => by simp [glossatorref03_Same.l1] at h⟩
 | k + 1 => by
  obtain ⟨ih0, ih1, ih2, ih3⟩ := glossatorref03_Same.mono_l k
  refine ⟨?_, ?_, ?_, ?_⟩
  ·intro y0 y1 y2 y3 y4 y5 y6 y7
   unfold glossatorref03_Same.f
   repeat' first
   | (with_reducible exact ih0 _ _ _ _ _ _ _ _)
   | (with_reducible exact ih1 _ _ _ _ _ _ _ _ _)
   | (with_reducible exact ih2 _ _ _ _ _ _ _ _ _)
   | (with_reducible exact ih3 _ _ _ _ _ _ _ _ _)
   | (with_reducible exact LeO.refl _)
   | (with_reducible exact LeO.none _)
   | (with_reducible refine LeO.ite ?_ ?_)
   | (with_reducible refine LeO.bind ?_ (fun _ => ?_))
   | exact ih0 _ _ _ _ _ _ _ _
   | exact ih1 _ _ _ _ _ _ _ _ _
   | exact ih2 _ _ _ _ _ _ _ _ _
   | exact ih3 _ _ _ _ _ _ _ _ _
   | exact LeO.none _
   | refine LeO.ite ?_ ?_
   | refine LeO.bind ?_ (fun _ => ?_)
  ·intro y0 y1 y2 y3 y4 y5 y6 y7 y8
   unfold glossatorref03_Same.j0
   repeat' first
   | (with_reducible exact ih0 _ _ _ _ _ _ _ _)
   | (with_reducible exact ih1 _ _ _ _ _ _ _ _ _)
   | (with_reducible exact ih2 _ _ _ _ _ _ _ _ _)
   | (with_reducible exact ih3 _ _ _ _ _ _ _ _ _)
   | (with_reducible exact LeO.refl _)
   | (with_reducible exact LeO.none _)
   | (with_reducible refine LeO.ite ?_ ?_)
   | (with_reducible refine LeO.bind ?_ (fun _ => ?_))
   | exact ih0 _ _ _ _ _ _ _ _
   | exact ih1 _ _ _ _ _ _ _ _ _
   | exact ih2 _ _ _ _ _ _ _ _ _
   | exact ih3 _ _ _ _ _ _ _ _ _
   | exact LeO.none _
   | refine LeO.ite ?_ ?_
   | refine LeO.bind ?_ (fun _ => ?_)
  ·intro y0 y1 y2 y3 y4 y5 y6 y7 y8
   unfold glossatorref03_Same.l0
   repeat' first
   | (with_reducible exact ih0 _ _ _ _ _ _ _ _)
   | (with_reducible exact ih1 _ _ _ _ _ _ _ _ _)
   | (with_reducible exact ih2 _ _ _ _ _ _ _ _ _)
   | (with_reducible exact ih3 _ _ _ _ _ _ _ _ _)
   | (with_reducible exact LeO.refl _)
   | (with_reducible exact LeO.none _)
   | (with_reducible refine LeO.ite ?_ ?_)
   | (with_reducible refine LeO.bind ?_ (fun _ => ?_))
   | exact ih0 _ _ _ _ _ _ _ _
   | exact ih1 _ _ _ _ _ _ _ _ _
   | exact ih2 _ _ _ _ _ _ _ _ _
   | exact ih3 _ _ _ _ _ _ _ _ _
   | exact LeO.none _
   | refine LeO.ite ?_ ?_
   | refine LeO.bind ?_ (fun _ => ?_)
  ·intro y0 y1 y2 y3 y4 y5 y6 y7 y8
   unfold glossatorref03_Same.l1
   repeat' first
   | (with_reducible exact ih0 _ _ _ _ _ _ _ _)
   | (with_reducible exact ih1 _ _ _ _ _ _ _ _ _)
   | (with_reducible exact ih2 _ _ _ _ _ _ _ _ _)
   | (with_reducible exact ih3 _ _ _ _ _ _ _ _ _)
   | (with_reducible exact LeO.refl _)
   | (with_reducible exact LeO.none _)
   | (with_reducible refine LeO.ite ?_ ?_)
   | (with_reducible refine LeO.bind ?_ (fun _ => ?_))
   | exact ih0 _ _ _ _ _ _ _ _
   | exact ih1 _ _ _ _ _ _ _ _ _
   | exact ih2 _ _ _ _ _ _ _ _ _
   | exact ih3 _ _ _ _ _ _ _ _ _
   | exact LeO.none _
   | refine LeO.ite ?_ ?_
   | refine LeO.bind ?_ (fun _ => ?_)
theorem glossatorref03_Same.mono : ∀ a0 a1 a2 a3 a4 a5 a6 a7 k, LeO (glossatorref03_Same.f k a0 a1 a2 a3 a4 a5 a6 a7) (glossatorref03_Same.f (k + 1) a0 a1 a2 a3 a4 a5 a6 a7) := by
 intro a0 a1 a2 a3 a4 a5 a6 a7 k
 obtain ⟨ih0, ih1, ih2, ih3⟩ := glossatorref03_Same.mono_l k
 exact ih0 a0 a1 a2 a3 a4 a5 a6 a7
def glossatorref03_Same.T6 : Bool × List (List Nat × List Nat) := (true, [([], []), ([0], [0]), ([], []), ([1, 2], [1, 2]), ([3], [3]), ([], []), ([5], [5]), ([], []), ([6, 7], [6, 7]), ([8], [8]), ([4, 9], [4, 9]), ([10], [10])])
def glossatorref03_Same.B6 : List Nat := [0, 1, 0, 7, 15, 0, 32, 0, 224, 480, 1023, 2047]
theorem glossatorref03_Same.tab6 : rtab .any (opsOf Tryz.f11 6) = glossatorref03_Same.T6 := by kernel_rfl
theorem glossatorref03_Same.bits6 : waitsOk glossatorref03_Same.T6.2 glossatorref03_Same.B6 = true := by kernel_rfl
def glossatorref03_Same.T11 : Bool × List (List Nat × List Nat) := (true, [([], []), ([0], [0]), ([], []), ([1, 2], [1, 2]), ([3], [3]), ([4], [4]), ([], []), ([6], [6]), ([], []), ([7, 8], [7, 8]), ([9], [9]), ([10], [10]), ([5, 11], [5, 11]), ([12], [12]), ([13], [13]), ([14, 13], [13, 14]), ([13], [13]), ([15, 16, 13], [13, 15, 16]), ([17, 13], [13, 17]), ([18, 13], [13, 18]), ([13], [13]), ([20, 13], [13, 20]), ([13], [13]), ([21, 22, 13], [13, 21, 22]), ([23, 13], [13, 23]), ([24, 13], [13, 24]), ([19, 25, 13, 13], [13, 19, 25]), ([26, 13], [13, 26]), ([13, 27], [13, 27])])
def glossatorref03_Same.B11 : List Nat := [0, 1, 0, 7, 15, 31, 0, 64, 0, 448, 960, 1984, 4095, 8191, 16383, 32767, 16383, 131071, 262143, 524287, 16383, 1064959, 16383, 7356415, 15745023, 32522239, 67108863, 134217727, 268435455]
theorem glossatorref03_Same.tab11 : rtab .any (opsOf Tryz.f11 11) = glossatorref03_Same.T11 := by kernel_rfl
theorem glossatorref03_Same.bits11 : waitsOk glossatorref03_Same.T11.2 glossatorref03_Same.B11 = true := by kernel_rfl
set_option maxHeartbeats 8000000 in
set_option maxRecDepth 100000 in
theorem glossatorref03_Same.calls (k : Nat) : ∀ (a0_0 : Int) (a0_1 : ByteArray) (A0_2 : Option Addr) (c0_2 : Nat) (l0_2 : List (S25)) (A0_3 : Option Addr) (c0_3 : Nat) (l0_3 : List (S45)) (a1_0 : Int) (a1_1 : ByteArray) (A1_2 : Option Addr) (c1_2 : Nat) (l1_2 : List (S25)) (A1_3 : Option Addr) (c1_3 : Nat) (l1_3 : List (S45)) (r : Bool) (w : World) (hr0_2 : Kd.C k25 w A0_2 l0_2.length l0_2) (hc0_2 : l0_2.length ≤ c0_2) (hr0_3 : Kd.C k45 w A0_3 l0_3.length l0_3) (hc0_3 : l0_3.length ≤ c0_3) (hr1_2 : Kd.C k25 w A1_2 l1_2.length l1_2) (hc1_2 : l1_2.length ≤ c1_2) (hr1_3 : Kd.C k45 w A1_3 l1_3.length l1_3) (hc1_3 : l1_3.length ≤ c1_3) (h : glossatorref03_Same.f k a0_0 a0_1 l0_2 l0_3 a1_0 a1_1 l1_2 l1_3 = some r),
  Calls Tryz.prog 11 #[.agg #[.int .u8 a0_0, .string a0_1, .slice A0_2 l0_2.length c0_2, .slice A0_3 l0_3.length c0_3], .agg #[.int .u8 a1_0, .string a1_1, .slice A1_2 l1_2.length c1_2, .slice A1_3 l1_3.length c1_3]] w fun e w' => e = .returned (.bool r) ∧ Below w.heap.size w w' := by
 induction k using Nat.strongRecOn with
 | _ k ih =>
 intro a0_0 a0_1 A0_2 c0_2 l0_2 A0_3 c0_3 l0_3 a1_0 a1_1 A1_2 c1_2 l1_2 A1_3 c1_3 l1_3 r w hr0_2 hc0_2 hr0_3 hc0_3 hr1_2 hc1_2 hr1_3 hc1_3 h
 cases k with
 | zero => exact absurd h (by simp [glossatorref03_Same.f])
 | succ k =>
 simp only [glossatorref03_Same.f] at h
 have hu25 := Tryz.underlying25
 have HR0_2 := Aside0.mk hr0_2; have HC0_2 := Aside0.mk hc0_2; clear hr0_2 hc0_2; have HR0_3 := Aside0.mk hr0_3; have HC0_3 := Aside0.mk hc0_3; clear hr0_3 hc0_3; have HR1_2 := Aside0.mk hr1_2; have HC1_2 := Aside0.mk hc1_2; clear hr1_2 hc1_2; have HR1_3 := Aside0.mk hr1_3; have HC1_3 := Aside0.mk hc1_3; clear hr1_3 hc1_3; have HB := Aside0.mk (Below.refl w.heap.size w)
 have H : (if a0_0 = a1_0 then (if a0_1.toList = a1_1.toList then (if (l0_2.length : Int) = (l1_2.length : Int) then (glossatorref03_Same.j0 k ((l0_3.length : Int) != (l1_3.length : Int)) a0_0 a0_1 l0_2 l0_3 a1_0 a1_1 l1_2 l1_3) else (glossatorref03_Same.j0 k true a0_0 a0_1 l0_2 l0_3 a1_0 a1_1 l1_2 l1_3)) else (glossatorref03_Same.j0 k true a0_0 a0_1 l0_2 l0_3 a1_0 a1_1 l1_2 l1_3)) else (glossatorref03_Same.j0 k true a0_0 a0_1 l0_2 l0_3 a1_0 a1_1 l1_2 l1_3)) = some r := h
 clear h; have HC3 := Aside0.mk H; clear H; go_enter Tryz.func11, Tryz.ntmps11
 go_upto_region 1 with (first | ((with_reducible refine gate_dst (N := 2) rfl ?_); (try (refine gate_guard (by rfl) ?_; dsimp only)); refine box_event ?hg (N := 2) ?hd (cs := #[.int .u8 a0_0, .string a0_1, .slice A0_2 l0_2.length c0_2, .slice A0_3 l0_3.length c0_3]) (t := 25) ?hr ?_; (case hd => rfl); (case hg => rfl); (case hr => first | (go_simp; done) | (go_simp; rfl)); intro gb174 hg w4 hbox hb; have n0_ := Aside0.mk (below_step (bl HB) hb); have n1_ := Aside0.mk (hbox); have n2_ := Aside0.mk ((by rw [hg]; exact (below_size (bl HB)) : w.heap.size ≤ gb174)); have n3_ := Aside0.mk ((by rw [hg]; exact (below_size (bl HB)) : w.heap.size ≤ gb174)); clear HB; have HB := n0_; have BK174 := n1_; have GW174 := n2_; have GE174 := n3_; clear n0_ n1_ n2_ n3_; clear hb hbox hg) | ((with_reducible refine gate_dst (N := 3) rfl ?_); (try (refine gate_guard (by rfl) ?_; dsimp only)); refine box_event ?hg (N := 3) ?hd (cs := #[.int .u8 a1_0, .string a1_1, .slice A1_2 l1_2.length c1_2, .slice A1_3 l1_3.length c1_3]) (t := 25) ?hr ?_; (case hd => rfl); (case hg => rfl); (case hr => first | (go_simp; done) | (go_simp; rfl)); intro gb175 hg w5 hbox hb; have n0_ := Aside0.mk (blk_below (g := gb174) (o := .cells #[.int .u8 a0_0, .string a0_1, .slice A0_2 l0_2.length c0_2, .slice A0_3 l0_3.length c0_3] 25 (0, 0)) (kl BK174) hb); have n1_ := Aside0.mk (below_step (by repeat (first | (with_reducible first | exact HB.out | apply below_alloc | apply pw_below_drewN | apply below_drew1 | refine below_set ?_ GE174.out) | exact HB.out)) hb); have n2_ := Aside0.mk (hbox); have n3_ := Aside0.mk ((by rw [hg]; exact (below_size (by repeat (first | (with_reducible first | exact HB.out | apply below_alloc | apply pw_below_drewN | apply below_drew1 | refine below_set ?_ GE174.out) | exact HB.out))) : w.heap.size ≤ gb175)); have n4_ := Aside0.mk ((by rw [hg]; exact (below_size (by repeat (first | (with_reducible first | exact HB.out | apply below_alloc | apply pw_below_drewN | apply below_drew1 | refine below_set ?_ GE174.out) | exact HB.out))) : w.heap.size ≤ gb175)); have n5_ := Aside0.mk ((by rw [hg]; exact Nat.ne_of_lt (blk_lt (g := gb174) (o := .cells #[.int .u8 a0_0, .string a0_1, .slice A0_2 l0_2.length c0_2, .slice A0_3 l0_3.length c0_3] 25 (0, 0)) (kl BK174)) : gb174 ≠ gb175)); have n6_ := Aside0.mk ((by rw [hg]; exact Nat.ne_of_gt (blk_lt (g := gb174) (o := .cells #[.int .u8 a0_0, .string a0_1, .slice A0_2 l0_2.length c0_2, .slice A0_3 l0_3.length c0_3] 25 (0, 0)) (kl BK174)) : gb175 ≠ gb174)); clear BK174; clear HB; have BK174 := n0_; have HB := n1_; have BK175 := n2_; have GW175 := n3_; have GE175 := n4_; have NB174_175 := n5_; have NB175_174 := n6_; clear n0_ n1_ n2_ n3_ n4_ n5_ n6_; clear hb hbox hg))
 (try simp only [Act.put, List.setIfInBounds_toArray, List.set_cons_zero, List.set_cons_succ])
 go_cut [36] (fun v36 wc => ∃ (kq : Nat) (x36_2 : Bool), v36 = .bool x36_2 ∧ Aside0 (glossatorref03_Same.j0 kq x36_2 a0_0 a0_1 l0_2 l0_3 a1_0 a1_1 l1_2 l1_3 = some r) ∧ Aside0 (kq ≤ k) ∧ Aside0 (wc.heap[gb174]? = some (.cells #[.int .u8 a0_0, .string a0_1, (.slice A0_2 l0_2.length c0_2), (.slice A0_3 l0_3.length c0_3)] 25 (0, 0))) ∧ Aside0 (wc.heap[gb175]? = some (.cells #[.int .u8 a1_0, .string a1_1, (.slice A1_2 l1_2.length c1_2), (.slice A1_3 l1_3.length c1_3)] 25 (0, 0))) ∧ Aside0 (Below w.heap.size w wc))
 case first =>
  have H := HC3.out
  clear HC3; by_cases c6 : a0_0 = a1_0
  rotate_left
  ·rw [if_neg c6] at H; have c6b0 : (a0_0 == a1_0) = false := beq_eq_false_iff_ne.mpr c6; have c6b1 : (a0_0 != a1_0) = true := bne_iff_ne.mpr c6; (first | rw [c6b0] | rw [c6b1] | (simp only [i64_w, i32_w]; rw [c6b0]) | skip)
   have H' := Aside0.mk H; clear H; have hnb18 := NB174_175.out
   have hnc18 := NB175_174.out
   have hcz19_0 : w5.cell? ⟨gb174, 0, none⟩ = some (.int .u8 a0_0) := (blk_cell BK174.out 0).trans rfl
   have hcz19_1 : w5.cell? ⟨gb174, 1, none⟩ = some (.string a0_1) := (blk_cell BK174.out 1).trans rfl
   have hcz19_2 : w5.cell? ⟨gb174, 2, none⟩ = some (.slice A0_2 l0_2.length c0_2) := (blk_cell BK174.out 2).trans rfl
   have hcz19_3 : w5.cell? ⟨gb174, 3, none⟩ = some (.slice A0_3 l0_3.length c0_3) := (blk_cell BK174.out 3).trans rfl
   have hfz19_0 := blk_frozen BK174.out 0
   have hfz19_1 := blk_frozen BK174.out 1
   have hfz19_2 := blk_frozen BK174.out 2
   have hfz19_3 := blk_frozen BK174.out 3
   have hcz20_0 : w5.cell? ⟨gb175, 0, none⟩ = some (.int .u8 a1_0) := (blk_cell BK175.out 0).trans rfl
   have hcz20_1 : w5.cell? ⟨gb175, 1, none⟩ = some (.string a1_1) := (blk_cell BK175.out 1).trans rfl
   have hcz20_2 : w5.cell? ⟨gb175, 2, none⟩ = some (.slice A1_2 l1_2.length c1_2) := (blk_cell BK175.out 2).trans rfl
   have hcz20_3 : w5.cell? ⟨gb175, 3, none⟩ = some (.slice A1_3 l1_3.length c1_3) := (blk_cell BK175.out 3).trans rfl
   have hfz20_0 := blk_frozen BK175.out 0
   have hfz20_1 := blk_frozen BK175.out 1
   have hfz20_2 := blk_frozen BK175.out 2
   have hfz20_3 := blk_frozen BK175.out 3
   go_wp2
   go_meet
   case rel => exact ⟨_, (true), (by first | rfl | (simp; done) | (simp [*]; done) | (simp; exact xEmpty_ne _) | (simp [*]; exact xEmpty_ne _)), H', ⟨by first | omega | exact Nat.le_refl _⟩, ⟨kl BK174⟩, ⟨kl BK175⟩, ⟨by repeat (first | (with_reducible first | exact HB.out | apply below_alloc | apply pw_below_drewN | apply below_drew1 | refine below_set ?_ GE174.out | refine below_set ?_ GE175.out) | exact HB.out)⟩⟩
  rw [if_pos c6] at H; have c6b0 : (a0_0 == a1_0) = true := beq_iff_eq.mpr c6
  have c6b1 : (a0_0 != a1_0) = false := bne_eq_false_iff_eq.mpr c6
  clear c6; (first | rw [c6b0] | rw [c6b1] | (simp only [i64_w, i32_w]; rw [c6b0]) | skip)
  by_cases c7 : a0_1.toList = a1_1.toList
  rotate_left
  ·rw [if_neg c7] at H; have c7b0 : (a0_1.toList == a1_1.toList) = false := beq_eq_false_iff_ne.mpr c7; have c7b1 : (a0_1.toList != a1_1.toList) = true := bne_iff_ne.mpr c7; have H' := Aside0.mk H; clear H; have hnb15 := NB174_175.out
   have hnc15 := NB175_174.out
   have hcz16_0 : w5.cell? ⟨gb174, 0, none⟩ = some (.int .u8 a0_0) := (blk_cell BK174.out 0).trans rfl
   have hcz16_1 : w5.cell? ⟨gb174, 1, none⟩ = some (.string a0_1) := (blk_cell BK174.out 1).trans rfl
   have hcz16_2 : w5.cell? ⟨gb174, 2, none⟩ = some (.slice A0_2 l0_2.length c0_2) := (blk_cell BK174.out 2).trans rfl
   have hcz16_3 : w5.cell? ⟨gb174, 3, none⟩ = some (.slice A0_3 l0_3.length c0_3) := (blk_cell BK174.out 3).trans rfl
   have hfz16_0 := blk_frozen BK174.out 0
   have hfz16_1 := blk_frozen BK174.out 1
   have hfz16_2 := blk_frozen BK174.out 2
   have hfz16_3 := blk_frozen BK174.out 3
   have hcz17_0 : w5.cell? ⟨gb175, 0, none⟩ = some (.int .u8 a1_0) := (blk_cell BK175.out 0).trans rfl
   have hcz17_1 : w5.cell? ⟨gb175, 1, none⟩ = some (.string a1_1) := (blk_cell BK175.out 1).trans rfl
   have hcz17_2 : w5.cell? ⟨gb175, 2, none⟩ = some (.slice A1_2 l1_2.length c1_2) := (blk_cell BK175.out 2).trans rfl
   have hcz17_3 : w5.cell? ⟨gb175, 3, none⟩ = some (.slice A1_3 l1_3.length c1_3) := (blk_cell BK175.out 3).trans rfl
   have hfz17_0 := blk_frozen BK175.out 0
   have hfz17_1 := blk_frozen BK175.out 1
   have hfz17_2 := blk_frozen BK175.out 2
   have hfz17_3 := blk_frozen BK175.out 3
   go_wp2
   go_meet
   case rel => exact ⟨_, (true), (by first | rfl | (simp; done) | (simp [*]; done) | (simp; exact xEmpty_ne _) | (simp [*]; exact xEmpty_ne _)), H', ⟨by first | omega | exact Nat.le_refl _⟩, ⟨kl BK174⟩, ⟨kl BK175⟩, ⟨by repeat (first | (with_reducible first | exact HB.out | apply below_alloc | apply pw_below_drewN | apply below_drew1 | refine below_set ?_ GE174.out | refine below_set ?_ GE175.out) | exact HB.out)⟩⟩
  rw [if_pos c7] at H; have c7b0 : (a0_1.toList == a1_1.toList) = true := beq_iff_eq.mpr c7
  have c7b1 : (a0_1.toList != a1_1.toList) = false := bne_eq_false_iff_eq.mpr c7
  clear c7; by_cases c8 : (l0_2.length : Int) = (l1_2.length : Int)
  rotate_left
  ·rw [if_neg c8] at H; have c8b0 : ((l0_2.length : Int) == (l1_2.length : Int)) = false := beq_eq_false_iff_ne.mpr c8; have c8b1 : ((l0_2.length : Int) != (l1_2.length : Int)) = true := bne_iff_ne.mpr c8; have c8b2 : (l0_2.length == l1_2.length) = false := by first | simpa using c8 | (simp at c8 ⊢; omega)
   have H' := Aside0.mk H; clear H; have hnb12 := NB174_175.out
   have hnc12 := NB175_174.out
   have hcz13_0 : w5.cell? ⟨gb174, 0, none⟩ = some (.int .u8 a0_0) := (blk_cell BK174.out 0).trans rfl
   have hcz13_1 : w5.cell? ⟨gb174, 1, none⟩ = some (.string a0_1) := (blk_cell BK174.out 1).trans rfl
   have hcz13_2 : w5.cell? ⟨gb174, 2, none⟩ = some (.slice A0_2 l0_2.length c0_2) := (blk_cell BK174.out 2).trans rfl
   have hcz13_3 : w5.cell? ⟨gb174, 3, none⟩ = some (.slice A0_3 l0_3.length c0_3) := (blk_cell BK174.out 3).trans rfl
   have hfz13_0 := blk_frozen BK174.out 0
   have hfz13_1 := blk_frozen BK174.out 1
   have hfz13_2 := blk_frozen BK174.out 2
   have hfz13_3 := blk_frozen BK174.out 3
   have hcz14_0 : w5.cell? ⟨gb175, 0, none⟩ = some (.int .u8 a1_0) := (blk_cell BK175.out 0).trans rfl
   have hcz14_1 : w5.cell? ⟨gb175, 1, none⟩ = some (.string a1_1) := (blk_cell BK175.out 1).trans rfl
   have hcz14_2 : w5.cell? ⟨gb175, 2, none⟩ = some (.slice A1_2 l1_2.length c1_2) := (blk_cell BK175.out 2).trans rfl
   have hcz14_3 : w5.cell? ⟨gb175, 3, none⟩ = some (.slice A1_3 l1_3.length c1_3) := (blk_cell BK175.out 3).trans rfl
   have hfz14_0 := blk_frozen BK175.out 0
   have hfz14_1 := blk_frozen BK175.out 1
   have hfz14_2 := blk_frozen BK175.out 2
   have hfz14_3 := blk_frozen BK175.out 3
   go_wp2
   go_meet
   case rel => exact ⟨_, (true), (by first | rfl | (simp; done) | (simp [*]; done) | (simp; exact xEmpty_ne _) | (simp [*]; exact xEmpty_ne _)), H', ⟨by first | omega | exact Nat.le_refl _⟩, ⟨kl BK174⟩, ⟨kl BK175⟩, ⟨by repeat (first | (with_reducible first | exact HB.out | apply below_alloc | apply pw_below_drewN | apply below_drew1 | refine below_set ?_ GE174.out | refine below_set ?_ GE175.out) | exact HB.out)⟩⟩
  rw [if_pos c8] at H; have c8b0 : ((l0_2.length : Int) == (l1_2.length : Int)) = true := beq_iff_eq.mpr c8
  have c8b1 : ((l0_2.length : Int) != (l1_2.length : Int)) = false := bne_eq_false_iff_eq.mpr c8
  have c8b2 : (l0_2.length == l1_2.length) = true := by first | simpa using c8 | (simp at c8 ⊢; omega)
  clear c8; have H' := Aside0.mk H; clear H; have hnb9 := NB174_175.out
  have hnc9 := NB175_174.out
  have hcz10_0 : w5.cell? ⟨gb174, 0, none⟩ = some (.int .u8 a0_0) := (blk_cell BK174.out 0).trans rfl
  have hcz10_1 : w5.cell? ⟨gb174, 1, none⟩ = some (.string a0_1) := (blk_cell BK174.out 1).trans rfl
  have hcz10_2 : w5.cell? ⟨gb174, 2, none⟩ = some (.slice A0_2 l0_2.length c0_2) := (blk_cell BK174.out 2).trans rfl
  have hcz10_3 : w5.cell? ⟨gb174, 3, none⟩ = some (.slice A0_3 l0_3.length c0_3) := (blk_cell BK174.out 3).trans rfl
  have hfz10_0 := blk_frozen BK174.out 0
  have hfz10_1 := blk_frozen BK174.out 1
  have hfz10_2 := blk_frozen BK174.out 2
  have hfz10_3 := blk_frozen BK174.out 3
  have hcz11_0 : w5.cell? ⟨gb175, 0, none⟩ = some (.int .u8 a1_0) := (blk_cell BK175.out 0).trans rfl
  have hcz11_1 : w5.cell? ⟨gb175, 1, none⟩ = some (.string a1_1) := (blk_cell BK175.out 1).trans rfl
  have hcz11_2 : w5.cell? ⟨gb175, 2, none⟩ = some (.slice A1_2 l1_2.length c1_2) := (blk_cell BK175.out 2).trans rfl
  have hcz11_3 : w5.cell? ⟨gb175, 3, none⟩ = some (.slice A1_3 l1_3.length c1_3) := (blk_cell BK175.out 3).trans rfl
  have hfz11_0 := blk_frozen BK175.out 0
  have hfz11_1 := blk_frozen BK175.out 1
  have hfz11_2 := blk_frozen BK175.out 2
  have hfz11_3 := blk_frozen BK175.out 3
  go_wp2
  go_meet
  case rel => exact ⟨_, (((l0_3.length : Int) != (l1_3.length : Int))), (by first | rfl | (simp; done) | (simp [*]; done) | (simp; exact xEmpty_ne _) | (simp [*]; exact xEmpty_ne _)), H', ⟨by first | omega | exact Nat.le_refl _⟩, ⟨kl BK174⟩, ⟨kl BK175⟩, ⟨by repeat (first | (with_reducible first | exact HB.out | apply below_alloc | apply pw_below_drewN | apply below_drew1 | refine below_set ?_ GE174.out | refine below_set ?_ GE175.out) | exact HB.out)⟩⟩
 case rest =>
  clear HC3; (try clear c1); (try clear p2); (try clear c6); (try clear c6b0); (try clear c6b1); (try clear c7); (try clear c7b0); (try clear c7b1); (try clear c8); (try clear c8b0); (try clear c8b1); (try clear c8b2); (try clear c9); (try clear c11); (try clear c12); (try clear c15); (try clear c18); (try clear hcz10_0); (try clear hcz10_1); (try clear hcz10_2); (try clear hcz10_3); (try clear hcz11_0); (try clear hcz11_1); (try clear hcz11_2); (try clear hcz11_3); (try clear hcz13_0); (try clear hcz13_1); (try clear hcz13_2); (try clear hcz13_3); (try clear hcz14_0); (try clear hcz14_1); (try clear hcz14_2); (try clear hcz14_3); (try clear hcz16_0); (try clear hcz16_1); (try clear hcz16_2); (try clear hcz16_3); (try clear hcz17_0); (try clear hcz17_1); (try clear hcz17_2); (try clear hcz17_3); (try clear hcz19_0); (try clear hcz19_1); (try clear hcz19_2); (try clear hcz19_3); (try clear hcz20_0); (try clear hcz20_1); (try clear hcz20_2); (try clear hcz20_3); (try clear hfz10_0); (try clear hfz10_1); (try clear hfz10_2); (try clear hfz10_3); (try clear hfz11_0); (try clear hfz11_1); (try clear hfz11_2); (try clear hfz11_3); (try clear hfz13_0); (try clear hfz13_1); (try clear hfz13_2); (try clear hfz13_3); (try clear hfz14_0); (try clear hfz14_1); (try clear hfz14_2); (try clear hfz14_3); (try clear hfz16_0); (try clear hfz16_1); (try clear hfz16_2); (try clear hfz16_3); (try clear hfz17_0); (try clear hfz17_1); (try clear hfz17_2); (try clear hfz17_3); (try clear hfz19_0); (try clear hfz19_1); (try clear hfz19_2); (try clear hfz19_3); (try clear hfz20_0); (try clear hfz20_1); (try clear hfz20_2); (try clear hfz20_3); obtain ⟨kq, x36_2, rfl, HA, HJ2, BK174, BK175, HB⟩ := hcut
  cases kq with
  | zero => exact absurd HA.out (by simp [glossatorref03_Same.j0])
  | succ kj2 =>
   have H := HA.out
   clear HA; simp only [glossatorref03_Same.j0] at H
   by_cases c21 : x36_2 = true
   ·subst c21; have H1 : (some false) = some r := by rw [if_pos rfl] at H; exact H
    clear H; have H := H1
    clear H1; obtain rfl := Option.some.inj H; go_wp2
    go_ret
    exact ⟨by first | rfl | (simp [errW_none, errW_some] <;> rfl) | (simp [*, errW_none, errW_some] <;> rfl), by repeat (first | (with_reducible first | exact HB.out | apply below_alloc | apply pw_below_drewN | apply below_drew1 | refine below_set ?_ GE174.out | refine below_set ?_ GE175.out) | exact HB.out)⟩
   ·replace c21 := Bool.eq_false_iff.mpr c21
    subst c21; have H1 : (glossatorref03_Same.l0 kj2 0 a0_0 a0_1 l0_2 l0_3 a1_0 a1_1 l1_2 l1_3) = some r := by rw [if_neg (show ¬ (false = true) by decide)] at H; exact H
    clear H; have H := H1
    clear H1; have H' := Aside0.mk H; clear H; go_wp2
    go_loopg [5] kj2 (fun kq v5 w' => ∃ (x5_2 : Int), v5 = .int .i64 x5_2 ∧ Aside0 (glossatorref03_Same.l0 kq x5_2 a0_0 a0_1 l0_2 l0_3 a1_0 a1_1 l1_2 l1_3 = some r) ∧ Aside0 (kq ≤ kj2) ∧ Aside0 (w'.heap[gb174]? = some (.cells #[.int .u8 a0_0, .string a0_1, (.slice A0_2 l0_2.length c0_2), (.slice A0_3 l0_3.length c0_3)] 25 (0, 0))) ∧ Aside0 (w'.heap[gb175]? = some (.cells #[.int .u8 a1_0, .string a1_1, (.slice A1_2 l1_2.length c1_2), (.slice A1_3 l1_3.length c1_3)] 25 (0, 0))) ∧ Aside0 (Below w.heap.size w w'))
    case atStart => exact ⟨(0), (by first | rfl | (simp; done) | (simp [*]; done) | (simp; exact xEmpty_ne _) | (simp [*]; exact xEmpty_ne _)), H', ⟨Nat.le_refl _⟩, ⟨kl BK174⟩, ⟨kl BK175⟩, ⟨by repeat (first | (with_reducible first | exact HB.out | apply below_alloc | apply pw_below_drewN | apply below_drew1 | refine below_set ?_ GE174.out | refine below_set ?_ GE175.out) | exact HB.out)⟩⟩
    case round =>
     clear H'; (try clear c1); (try clear c2); (try clear p2); (try clear c6); (try clear c6b0); (try clear c6b1); (try clear c7); (try clear c7b0); (try clear c7b1); (try clear c8); (try clear c8b0); (try clear c8b1); (try clear c8b2); (try clear c9); (try clear c11); (try clear c12); (try clear c15); (try clear c18); (try clear c21); (try clear hcz10_0); (try clear hcz10_1); (try clear hcz10_2); (try clear hcz10_3); (try clear hcz11_0); (try clear hcz11_1); (try clear hcz11_2); (try clear hcz11_3); (try clear hcz13_0); (try clear hcz13_1); (try clear hcz13_2); (try clear hcz13_3); (try clear hcz14_0); (try clear hcz14_1); (try clear hcz14_2); (try clear hcz14_3); (try clear hcz16_0); (try clear hcz16_1); (try clear hcz16_2); (try clear hcz16_3); (try clear hcz17_0); (try clear hcz17_1); (try clear hcz17_2); (try clear hcz17_3); (try clear hcz19_0); (try clear hcz19_1); (try clear hcz19_2); (try clear hcz19_3); (try clear hcz20_0); (try clear hcz20_1); (try clear hcz20_2); (try clear hcz20_3); (try clear hfz10_0); (try clear hfz10_1); (try clear hfz10_2); (try clear hfz10_3); (try clear hfz11_0); (try clear hfz11_1); (try clear hfz11_2); (try clear hfz11_3); (try clear hfz13_0); (try clear hfz13_1); (try clear hfz13_2); (try clear hfz13_3); (try clear hfz14_0); (try clear hfz14_1); (try clear hfz14_2); (try clear hfz14_3); (try clear hfz16_0); (try clear hfz16_1); (try clear hfz16_2); (try clear hfz16_3); (try clear hfz17_0); (try clear hfz17_1); (try clear hfz17_2); (try clear hfz17_3); (try clear hfz19_0); (try clear hfz19_1); (try clear hfz19_2); (try clear hfz19_3); (try clear hfz20_0); (try clear hfz20_1); (try clear hfz20_2); (try clear hfz20_3); (try clear p2); (try clear BK174); (try clear BK175); (try clear HB)
     obtain ⟨x5_2, rfl, HA, HK2, BK174, BK175, HB⟩ := hrel
     cases gk with
     | zero => exact absurd HA.out (by simp [glossatorref03_Same.l0])
     | succ k2 =>
      have H := HA.out
      clear HA; simp only [glossatorref03_Same.l0] at H
      by_cases c22 : x5_2 < (l0_2.length : Int)
      rotate_left
      ·rw [if_neg c22] at H; have c22b0 : decide (x5_2 < (l0_2.length : Int)) = false := decide_eq_false c22; clear c22; have H' := Aside0.mk H; clear H; have hnb35 := NB174_175.out
       have hnc35 := NB175_174.out
       have hcz36_0 : wr.cell? ⟨gb174, 0, none⟩ = some (.int .u8 a0_0) := (blk_cell BK174.out 0).trans rfl
       have hcz36_1 : wr.cell? ⟨gb174, 1, none⟩ = some (.string a0_1) := (blk_cell BK174.out 1).trans rfl
       have hcz36_2 : wr.cell? ⟨gb174, 2, none⟩ = some (.slice A0_2 l0_2.length c0_2) := (blk_cell BK174.out 2).trans rfl
       have hcz36_3 : wr.cell? ⟨gb174, 3, none⟩ = some (.slice A0_3 l0_3.length c0_3) := (blk_cell BK174.out 3).trans rfl
       have hfz36_0 := blk_frozen BK174.out 0
       have hfz36_1 := blk_frozen BK174.out 1
       have hfz36_2 := blk_frozen BK174.out 2
       have hfz36_3 := blk_frozen BK174.out 3
       go_wp2
       go_loopg [6] k2 (fun kq v6 w' => ∃ (x6_3 : Int), v6 = .int .i64 x6_3 ∧ Aside0 (glossatorref03_Same.l1 kq x6_3 a0_0 a0_1 l0_2 l0_3 a1_0 a1_1 l1_2 l1_3 = some r) ∧ Aside0 (kq ≤ k2) ∧ Aside0 (w'.heap[gb174]? = some (.cells #[.int .u8 a0_0, .string a0_1, (.slice A0_2 l0_2.length c0_2), (.slice A0_3 l0_3.length c0_3)] 25 (0, 0))) ∧ Aside0 (w'.heap[gb175]? = some (.cells #[.int .u8 a1_0, .string a1_1, (.slice A1_2 l1_2.length c1_2), (.slice A1_3 l1_3.length c1_3)] 25 (0, 0))) ∧ Aside0 (Below w.heap.size w w'))
       case atStart => exact ⟨(0), (by first | rfl | (simp; done) | (simp [*]; done) | (simp; exact xEmpty_ne _) | (simp [*]; exact xEmpty_ne _)), H', ⟨Nat.le_refl _⟩, ⟨kl BK174⟩, ⟨kl BK175⟩, ⟨by repeat (first | (with_reducible first | exact HB.out | apply below_alloc | apply pw_below_drewN | apply below_drew1 | refine below_set ?_ GE174.out | refine below_set ?_ GE175.out) | exact HB.out)⟩⟩
       case round =>
        clear H'; (try clear c1); (try clear p1); (try clear q1); (try clear hx1); (try clear c2); (try clear p2); (try clear c3); (try clear c6); (try clear c6b0); (try clear c6b1); (try clear p6); (try clear c7); (try clear c7b0); (try clear c7b1); (try clear c8); (try clear c8b0); (try clear c8b1); (try clear c8b2); (try clear c9); (try clear c11); (try clear c12); (try clear c15); (try clear c17); (try clear p17); (try clear q17); (try clear hx17); (try clear c18); (try clear c21); (try clear c22); (try clear c22b0); (try clear c23); (try clear c23b0); (try clear c24); (try clear c24b0); (try clear c26); (try clear c27); (try clear c31); (try clear c35); (try clear hcz10_0); (try clear hcz10_1); (try clear hcz10_2); (try clear hcz10_3); (try clear hcz11_0); (try clear hcz11_1); (try clear hcz11_2); (try clear hcz11_3); (try clear hcz13_0); (try clear hcz13_1); (try clear hcz13_2); (try clear hcz13_3); (try clear hcz14_0); (try clear hcz14_1); (try clear hcz14_2); (try clear hcz14_3); (try clear hcz16_0); (try clear hcz16_1); (try clear hcz16_2); (try clear hcz16_3); (try clear hcz17_0); (try clear hcz17_1); (try clear hcz17_2); (try clear hcz17_3); (try clear hcz19_0); (try clear hcz19_1); (try clear hcz19_2); (try clear hcz19_3); (try clear hcz20_0); (try clear hcz20_1); (try clear hcz20_2); (try clear hcz20_3); (try clear hcz28_0); (try clear hcz28_1); (try clear hcz28_2); (try clear hcz28_3); (try clear hcz32_0); (try clear hcz32_1); (try clear hcz32_2); (try clear hcz32_3); (try clear hcz36_0); (try clear hcz36_1); (try clear hcz36_2); (try clear hcz36_3); (try clear hfz10_0); (try clear hfz10_1); (try clear hfz10_2); (try clear hfz10_3); (try clear hfz11_0); (try clear hfz11_1); (try clear hfz11_2); (try clear hfz11_3); (try clear hfz13_0); (try clear hfz13_1); (try clear hfz13_2); (try clear hfz13_3); (try clear hfz14_0); (try clear hfz14_1); (try clear hfz14_2); (try clear hfz14_3); (try clear hfz16_0); (try clear hfz16_1); (try clear hfz16_2); (try clear hfz16_3); (try clear hfz17_0); (try clear hfz17_1); (try clear hfz17_2); (try clear hfz17_3); (try clear hfz19_0); (try clear hfz19_1); (try clear hfz19_2); (try clear hfz19_3); (try clear hfz20_0); (try clear hfz20_1); (try clear hfz20_2); (try clear hfz20_3); (try clear hfz28_0); (try clear hfz28_1); (try clear hfz28_2); (try clear hfz28_3); (try clear hfz32_0); (try clear hfz32_1); (try clear hfz32_2); (try clear hfz32_3); (try clear hfz36_0); (try clear hfz36_1); (try clear hfz36_2); (try clear hfz36_3); (try clear hx176_0); (try clear hx176_1); (try clear hx176_2); (try clear hx176_3); (try clear hx177_0); (try clear hx177_1); (try clear hx177_2); (try clear hx177_3); (try clear p176); (try clear p177); (try clear p2); (try clear q176); (try clear q177); (try clear BK174); (try clear BK175); (try clear HB)
        obtain ⟨x6_3, rfl, HA, HK3, BK174, BK175, HB⟩ := hrel
        cases gk with
        | zero => exact absurd HA.out (by simp [glossatorref03_Same.l1])
        | succ k3 =>
         have H := HA.out
         clear HA; simp only [glossatorref03_Same.l1] at H
         by_cases c37 : x6_3 < (l0_3.length : Int)
         rotate_left
         ·rw [if_neg c37] at H; have c37b0 : decide (x6_3 < (l0_3.length : Int)) = false := decide_eq_false c37; clear c37; obtain rfl := Option.some.inj H; have hnb54 := NB174_175.out
          have hnc54 := NB175_174.out
          have hcz55_0 : wr.cell? ⟨gb174, 0, none⟩ = some (.int .u8 a0_0) := (blk_cell BK174.out 0).trans rfl
          have hcz55_1 : wr.cell? ⟨gb174, 1, none⟩ = some (.string a0_1) := (blk_cell BK174.out 1).trans rfl
          have hcz55_2 : wr.cell? ⟨gb174, 2, none⟩ = some (.slice A0_2 l0_2.length c0_2) := (blk_cell BK174.out 2).trans rfl
          have hcz55_3 : wr.cell? ⟨gb174, 3, none⟩ = some (.slice A0_3 l0_3.length c0_3) := (blk_cell BK174.out 3).trans rfl
          have hfz55_0 := blk_frozen BK174.out 0
          have hfz55_1 := blk_frozen BK174.out 1
          have hfz55_2 := blk_frozen BK174.out 2
          have hfz55_3 := blk_frozen BK174.out 3
          go_wp2
          go_ret
          exact ⟨by first | rfl | (simp [errW_none, errW_some] <;> rfl) | (simp [*, errW_none, errW_some] <;> rfl), by repeat (first | (with_reducible first | exact HB.out | apply below_alloc | apply pw_below_drewN | apply below_drew1 | refine below_set ?_ GE174.out | refine below_set ?_ GE175.out) | exact HB.out)⟩
         rw [if_pos c37] at H; have c37b0 : decide (x6_3 < (l0_3.length : Int)) = true := decide_eq_true c37; clear c37; by_cases c38 : 0 ≤ x6_3
         rotate_left
         ·rw [if_neg c38] at H; exact absurd H (by simp)
         rw [if_pos c38] at H; have c38b0 : decide (0 ≤ x6_3) = true := decide_eq_true c38; clear c38; by_cases c39 : x6_3 < (l1_3.length : Int)
         rotate_left
         ·rw [if_neg c39] at H; exact absurd H (by simp)
         rw [if_pos c39] at H; have c39b0 : decide (x6_3 < (l1_3.length : Int)) = true := decide_eq_true c39; clear c39; by_cases c40 : ((rd_T45 l0_3 x6_3).f0).toList = ((rd_T45 l1_3 x6_3).f0).toList
         rotate_left
         ·rw [if_neg c40] at H; have c40b0 : (((rd_T45 l0_3 x6_3).f0).toList == ((rd_T45 l1_3 x6_3).f0).toList) = false := beq_eq_false_iff_ne.mpr c40; have c40b1 : (((rd_T45 l0_3 x6_3).f0).toList != ((rd_T45 l1_3 x6_3).f0).toList) = true := bne_iff_ne.mpr c40; obtain rfl := Option.some.inj H; have hnb51 := NB174_175.out
          have hnc51 := NB175_174.out
          have hcz52_0 : wr.cell? ⟨gb174, 0, none⟩ = some (.int .u8 a0_0) := (blk_cell BK174.out 0).trans rfl
          have hcz52_1 : wr.cell? ⟨gb174, 1, none⟩ = some (.string a0_1) := (blk_cell BK174.out 1).trans rfl
          have hcz52_2 : wr.cell? ⟨gb174, 2, none⟩ = some (.slice A0_2 l0_2.length c0_2) := (blk_cell BK174.out 2).trans rfl
          have hcz52_3 : wr.cell? ⟨gb174, 3, none⟩ = some (.slice A0_3 l0_3.length c0_3) := (blk_cell BK174.out 3).trans rfl
          have hfz52_0 := blk_frozen BK174.out 0
          have hfz52_1 := blk_frozen BK174.out 1
          have hfz52_2 := blk_frozen BK174.out 2
          have hfz52_3 := blk_frozen BK174.out 3
          try go_wp2
          have n0_ := Aside0.mk (blk_drew BK174.out); have n1_ := Aside0.mk (blk_drew BK175.out); have n2_ := Aside0.mk (below_drew1 HB.out); clear BK174; clear BK175; clear HB; have BK174 := n0_; have BK175 := n1_; have HB := n2_; clear n0_ n1_ n2_; have p179 : 0 ≤ (x6_3 : Int) := of_decide_eq_true (by first | (with_reducible assumption) | assumption)
          have q179 : x6_3 < (l0_3.length : Int) := of_decide_eq_true (by first | (with_reducible assumption) | assumption)
          obtain ⟨ad179, A179_3, c179_3, A179_4, c179_4, e179, hx179_0, hx179_1, hx179_2, hx179_3, hx179_4, hl179_3, hi179_3, hl179_4, hi179_4⟩ := at_T45 HR0_3.out x6_3 p179 q179
          have hw179_4 := hx179_4
          have hw179_3 := hx179_3
          have hw179_2 := hx179_2
          have hw179_1 := hx179_1
          have hw179_0 := hx179_0
          cases e179; replace hx179_0 := (HB.out.cell (World.block_lt_of_cell? w _ hx179_0)).trans hx179_0; replace hx179_1 := (HB.out.cell (World.block_lt_of_cell? w _ hx179_1)).trans hx179_1; replace hx179_2 := (HB.out.cell (World.block_lt_of_cell? w _ hx179_2)).trans hx179_2; replace hx179_3 := (HB.out.cell (World.block_lt_of_cell? w _ hx179_3)).trans hx179_3; replace hx179_4 := (HB.out.cell (World.block_lt_of_cell? w _ hx179_4)).trans hx179_4; have HR179_3 := Aside0.mk hi179_3; have HC179_3 := Aside0.mk hl179_3; clear hi179_3 hl179_3; have HR179_4 := Aside0.mk hi179_4; have HC179_4 := Aside0.mk hl179_4; clear hi179_4 hl179_4; replace p179 := eq_true p179; replace q179 := eq_true q179; have p180 : 0 ≤ (x6_3 : Int) := of_decide_eq_true (by first | (with_reducible assumption) | assumption)
          have q180 : x6_3 < (l1_3.length : Int) := of_decide_eq_true (by first | (with_reducible assumption) | assumption)
          obtain ⟨ad180, A180_3, c180_3, A180_4, c180_4, e180, hx180_0, hx180_1, hx180_2, hx180_3, hx180_4, hl180_3, hi180_3, hl180_4, hi180_4⟩ := at_T45 HR1_3.out x6_3 p180 q180
          have hw180_4 := hx180_4
          have hw180_3 := hx180_3
          have hw180_2 := hx180_2
          have hw180_1 := hx180_1
          have hw180_0 := hx180_0
          cases e180; replace hx180_0 := (HB.out.cell (World.block_lt_of_cell? w _ hx180_0)).trans hx180_0; replace hx180_1 := (HB.out.cell (World.block_lt_of_cell? w _ hx180_1)).trans hx180_1; replace hx180_2 := (HB.out.cell (World.block_lt_of_cell? w _ hx180_2)).trans hx180_2; replace hx180_3 := (HB.out.cell (World.block_lt_of_cell? w _ hx180_3)).trans hx180_3; replace hx180_4 := (HB.out.cell (World.block_lt_of_cell? w _ hx180_4)).trans hx180_4; have HR180_3 := Aside0.mk hi180_3; have HC180_3 := Aside0.mk hl180_3; clear hi180_3 hl180_3; have HR180_4 := Aside0.mk hi180_4; have HC180_4 := Aside0.mk hl180_4; clear hi180_4 hl180_4; replace p180 := eq_true p180; replace q180 := eq_true q180; refine start_ (n := 29) (S := fun w' => w'.cell? ⟨gb174, 0, none⟩ = some (.int .u8 a0_0) ∧ w'.cell? ⟨gb174, 1, none⟩ = some (.string a0_1) ∧ w'.cell? ⟨gb174, 2, none⟩ = some (.slice A0_2 l0_2.length c0_2) ∧ w'.cell? ⟨gb174, 3, none⟩ = some (.slice (some ad179) l0_3.length c0_3) ∧ w'.cell? ⟨gb175, 0, none⟩ = some (.int .u8 a1_0) ∧ w'.cell? ⟨gb175, 1, none⟩ = some (.string a1_1) ∧ w'.cell? ⟨gb175, 2, none⟩ = some (.slice A1_2 l1_2.length c1_2) ∧ w'.cell? ⟨gb175, 3, none⟩ = some (.slice (some ad180) l1_3.length c1_3) ∧ w'.cell? (ad179.add ((x6_3).toNat * 5)) = some (.string ((rd_T45 l0_3 x6_3).f0)) ∧ w'.cell? ⟨(ad179.add ((x6_3).toNat * 5)).block, (ad179.add ((x6_3).toNat * 5)).off + 1, none⟩ = some (.int .u8 ((rd_T45 l0_3 x6_3).f1.f0)) ∧ w'.cell? ⟨(ad179.add ((x6_3).toNat * 5)).block, (ad179.add ((x6_3).toNat * 5)).off + 2, none⟩ = some (.string ((rd_T45 l0_3 x6_3).f1.f1)) ∧ w'.cell? ⟨(ad179.add ((x6_3).toNat * 5)).block, (ad179.add ((x6_3).toNat * 5)).off + 3, none⟩ = some (.slice A179_3 ((rd_T45 l0_3 x6_3).f1.f2).length c179_3) ∧ w'.cell? ⟨(ad179.add ((x6_3).toNat * 5)).block, (ad179.add ((x6_3).toNat * 5)).off + 4, none⟩ = some (.slice A179_4 ((rd_T45 l0_3 x6_3).f1.f3).length c179_4) ∧ w'.cell? (ad180.add ((x6_3).toNat * 5)) = some (.string ((rd_T45 l1_3 x6_3).f0)) ∧ w'.cell? ⟨(ad180.add ((x6_3).toNat * 5)).block, (ad180.add ((x6_3).toNat * 5)).off + 1, none⟩ = some (.int .u8 ((rd_T45 l1_3 x6_3).f1.f0)) ∧ w'.cell? ⟨(ad180.add ((x6_3).toNat * 5)).block, (ad180.add ((x6_3).toNat * 5)).off + 2, none⟩ = some (.string ((rd_T45 l1_3 x6_3).f1.f1)) ∧ w'.cell? ⟨(ad180.add ((x6_3).toNat * 5)).block, (ad180.add ((x6_3).toNat * 5)).off + 3, none⟩ = some (.slice A180_3 ((rd_T45 l1_3 x6_3).f1.f2).length c180_3) ∧ w'.cell? ⟨(ad180.add ((x6_3).toNat * 5)).block, (ad180.add ((x6_3).toNat * 5)).off + 4, none⟩ = some (.slice A180_4 ((rd_T45 l1_3 x6_3).f1.f3).length c180_4)) (ds := []) (bz 29 0) (by kernel_rfl) rfl rfl ⟨(blk_cell BK174.out 0).trans rfl, (blk_cell BK174.out 1).trans rfl, (blk_cell BK174.out 2).trans rfl, (blk_cell BK174.out 3).trans rfl, (blk_cell BK175.out 0).trans rfl, (blk_cell BK175.out 1).trans rfl, (blk_cell BK175.out 2).trans rfl, (blk_cell BK175.out 3).trans rfl, ((HB.out.cell (World.block_lt_of_cell? w _ hw179_0)).trans hw179_0), ((HB.out.cell (World.block_lt_of_cell? w _ hw179_1)).trans hw179_1), ((HB.out.cell (World.block_lt_of_cell? w _ hw179_2)).trans hw179_2), ((HB.out.cell (World.block_lt_of_cell? w _ hw179_3)).trans hw179_3), ((HB.out.cell (World.block_lt_of_cell? w _ hw179_4)).trans hw179_4), ((HB.out.cell (World.block_lt_of_cell? w _ hw180_0)).trans hw180_0), ((HB.out.cell (World.block_lt_of_cell? w _ hw180_1)).trans hw180_1), ((HB.out.cell (World.block_lt_of_cell? w _ hw180_2)).trans hw180_2), ((HB.out.cell (World.block_lt_of_cell? w _ hw180_3)).trans hw180_3), ((HB.out.cell (World.block_lt_of_cell? w _ hw180_4)).trans hw180_4)⟩ (fun hHeld => ?_); refine with_tabW glossatorref03_Same.tab11 glossatorref03_Same.bits11 (fun HT_ HW_ => ?_)
          generalize wr.drew = w53 at BK174 BK175 HB HR179_3 HR179_4 HR180_3 HR180_4 hx179_0 hx179_1 hx179_2 hx179_3 hx179_4 hx180_0 hx180_1 hx180_2 hx180_3 hx180_4 hHeld ⊢
          refine pu 0 (some 63) (bz 29 1) HT_ rfl rfl ?_; refine pu 2 (some 65) (bz 29 5) HT_ rfl rfl ?_; refine pu 6 (some 69) (bz 29 69) HT_ rfl rfl ?_; refine pu 8 (some 71) (bz 29 325) HT_ rfl rfl ?_; refine tk 1 (some 64) (bz 29 327) HT_ HW_ rfl rfl hHeld ?_; refine pu 3 (some 66) (bz 29 335) HT_ rfl rfl ?_; refine pu 4 (some 67) (bz 29 351) HT_ rfl rfl ?_; refine tk 5 (some 68) (bz 29 383) HT_ HW_ rfl rfl hHeld ?_; refine tk 7 (some 70) (bz 29 511) HT_ HW_ rfl rfl hHeld ?_; refine pu 9 (some 72) (bz 29 1023) HT_ rfl rfl ?_; refine pu 10 (some 73) (bz 29 2047) HT_ rfl rfl ?_; refine tk 11 (some 74) (bz 29 4095) HT_ HW_ rfl rfl hHeld ?_; refine pu 12 (some 75) (bz 29 8191) HT_ rfl rfl ?_; refine pu 13 (some 76) (bz 29 16383) HT_ rfl rfl ?_; refine pf 14 (some 77) (bz 29 32767) HT_ rfl rfl ?_; refine pf 15 (some 78) (bz 29 65535) HT_ rfl rfl ?_; refine pf 16 (some 79) (bz 29 131071) HT_ rfl rfl ?_; refine pf 17 (some 80) (bz 29 262143) HT_ rfl rfl ?_; refine pf 18 (some 81) (bz 29 524287) HT_ rfl rfl ?_; refine pf 19 (some 82) (bz 29 1048575) HT_ rfl rfl ?_; refine pf 20 (some 83) (bz 29 2097151) HT_ rfl rfl ?_; refine pf 21 (some 84) (bz 29 4194303) HT_ rfl rfl ?_; refine pf 22 (some 85) (bz 29 8388607) HT_ rfl rfl ?_; refine pf 23 (some 86) (bz 29 16777215) HT_ rfl rfl ?_; refine pf 24 (some 87) (bz 29 33554431) HT_ rfl rfl ?_; refine pf 25 (some 88) (bz 29 67108863) HT_ rfl rfl ?_; refine pf 26 (some 89) (bz 29 134217727) HT_ rfl rfl ?_; refine pf 27 (some 90) (bz 29 268435455) HT_ rfl rfl ?_; refine pu 28 (some 91) (bz 29 536870911) HT_ rfl rfl ?_; refine done_ (done_of HT_.out (by kernel_rfl)) ?_
          try go_wp2
          go_ret
          exact ⟨by first | rfl | (simp [errW_none, errW_some] <;> rfl) | (simp [*, errW_none, errW_some] <;> rfl), by repeat (first | (with_reducible first | exact HB.out | apply below_alloc | apply pw_below_drewN | apply below_drew1 | refine below_set ?_ GE174.out | refine below_set ?_ GE175.out) | exact HB.out)⟩
         rw [if_pos c40] at H; have c40b0 : (((rd_T45 l0_3 x6_3).f0).toList == ((rd_T45 l1_3 x6_3).f0).toList) = true := beq_iff_eq.mpr c40
         have c40b1 : (((rd_T45 l0_3 x6_3).f0).toList != ((rd_T45 l1_3 x6_3).f0).toList) = false := bne_eq_false_iff_eq.mpr c40
         clear c40; replace H := Option.bind_eq_some_iff.mp H
         obtain ⟨t183, A410, H⟩ := H
         replace H : (if t183 = true then (glossatorref03_Same.l1 k3 (wrap64 (x6_3 + 1)) a0_0 a0_1 l0_2 l0_3 a1_0 a1_1 l1_2 l1_3) else (some false)) = some r := H
         have A41 := Aside0.mk A410; clear A410; by_cases c42 : t183 = true
         rotate_left
         ·replace c42 := Bool.eq_false_iff.mpr c42
          subst c42; have H1 : (some false) = some r := by rw [if_neg (show ¬ (false = true) by decide)] at H; exact H
          clear H; have H := H1
          clear H1; obtain rfl := Option.some.inj H; have hnb47 := NB174_175.out
          have hnc47 := NB175_174.out
          have hcz48_0 : wr.cell? ⟨gb174, 0, none⟩ = some (.int .u8 a0_0) := (blk_cell BK174.out 0).trans rfl
          have hcz48_1 : wr.cell? ⟨gb174, 1, none⟩ = some (.string a0_1) := (blk_cell BK174.out 1).trans rfl
          have hcz48_2 : wr.cell? ⟨gb174, 2, none⟩ = some (.slice A0_2 l0_2.length c0_2) := (blk_cell BK174.out 2).trans rfl
          have hcz48_3 : wr.cell? ⟨gb174, 3, none⟩ = some (.slice A0_3 l0_3.length c0_3) := (blk_cell BK174.out 3).trans rfl
          have hfz48_0 := blk_frozen BK174.out 0
          have hfz48_1 := blk_frozen BK174.out 1
          have hfz48_2 := blk_frozen BK174.out 2
          have hfz48_3 := blk_frozen BK174.out 3
          try go_wp2
          have n0_ := Aside0.mk (blk_drew BK174.out); have n1_ := Aside0.mk (blk_drew BK175.out); have n2_ := Aside0.mk (below_drew1 HB.out); clear BK174; clear BK175; clear HB; have BK174 := n0_; have BK175 := n1_; have HB := n2_; clear n0_ n1_ n2_; have p179 : 0 ≤ (x6_3 : Int) := of_decide_eq_true (by first | (with_reducible assumption) | assumption)
          have q179 : x6_3 < (l0_3.length : Int) := of_decide_eq_true (by first | (with_reducible assumption) | assumption)
          obtain ⟨ad179, A179_3, c179_3, A179_4, c179_4, e179, hx179_0, hx179_1, hx179_2, hx179_3, hx179_4, hl179_3, hi179_3, hl179_4, hi179_4⟩ := at_T45 HR0_3.out x6_3 p179 q179
          have hw179_4 := hx179_4
          have hw179_3 := hx179_3
          have hw179_2 := hx179_2
          have hw179_1 := hx179_1
          have hw179_0 := hx179_0
          cases e179; replace hx179_0 := (HB.out.cell (World.block_lt_of_cell? w _ hx179_0)).trans hx179_0; replace hx179_1 := (HB.out.cell (World.block_lt_of_cell? w _ hx179_1)).trans hx179_1; replace hx179_2 := (HB.out.cell (World.block_lt_of_cell? w _ hx179_2)).trans hx179_2; replace hx179_3 := (HB.out.cell (World.block_lt_of_cell? w _ hx179_3)).trans hx179_3; replace hx179_4 := (HB.out.cell (World.block_lt_of_cell? w _ hx179_4)).trans hx179_4; have HR179_3 := Aside0.mk hi179_3; have HC179_3 := Aside0.mk hl179_3; clear hi179_3 hl179_3; have HR179_4 := Aside0.mk hi179_4; have HC179_4 := Aside0.mk hl179_4; clear hi179_4 hl179_4; replace p179 := eq_true p179; replace q179 := eq_true q179; have p180 : 0 ≤ (x6_3 : Int) := of_decide_eq_true (by first | (with_reducible assumption) | assumption)
          have q180 : x6_3 < (l1_3.length : Int) := of_decide_eq_true (by first | (with_reducible assumption) | assumption)
          obtain ⟨ad180, A180_3, c180_3, A180_4, c180_4, e180, hx180_0, hx180_1, hx180_2, hx180_3, hx180_4, hl180_3, hi180_3, hl180_4, hi180_4⟩ := at_T45 HR1_3.out x6_3 p180 q180
          have hw180_4 := hx180_4
          have hw180_3 := hx180_3
          have hw180_2 := hx180_2
          have hw180_1 := hx180_1
          have hw180_0 := hx180_0
          cases e180; replace hx180_0 := (HB.out.cell (World.block_lt_of_cell? w _ hx180_0)).trans hx180_0; replace hx180_1 := (HB.out.cell (World.block_lt_of_cell? w _ hx180_1)).trans hx180_1; replace hx180_2 := (HB.out.cell (World.block_lt_of_cell? w _ hx180_2)).trans hx180_2; replace hx180_3 := (HB.out.cell (World.block_lt_of_cell? w _ hx180_3)).trans hx180_3; replace hx180_4 := (HB.out.cell (World.block_lt_of_cell? w _ hx180_4)).trans hx180_4; have HR180_3 := Aside0.mk hi180_3; have HC180_3 := Aside0.mk hl180_3; clear hi180_3 hl180_3; have HR180_4 := Aside0.mk hi180_4; have HC180_4 := Aside0.mk hl180_4; clear hi180_4 hl180_4; replace p180 := eq_true p180; replace q180 := eq_true q180; have p181 : 0 ≤ (x6_3 : Int) := of_decide_eq_true (by first | (with_reducible assumption) | assumption)
          have q181 : x6_3 < (l0_3.length : Int) := of_decide_eq_true (by first | (with_reducible assumption) | assumption)
          obtain ⟨ad181, A181_3, c181_3, A181_4, c181_4, e181, hx181_0, hx181_1, hx181_2, hx181_3, hx181_4, hl181_3, hi181_3, hl181_4, hi181_4⟩ := at_T45 HR0_3.out x6_3 p181 q181
          have hw181_4 := hx181_4
          have hw181_3 := hx181_3
          have hw181_2 := hx181_2
          have hw181_1 := hx181_1
          have hw181_0 := hx181_0
          obtain rfl : ad179 = ad181 := (by injection e181)
          replace hx181_0 := (HB.out.cell (World.block_lt_of_cell? w _ hx181_0)).trans hx181_0; replace hx181_1 := (HB.out.cell (World.block_lt_of_cell? w _ hx181_1)).trans hx181_1; replace hx181_2 := (HB.out.cell (World.block_lt_of_cell? w _ hx181_2)).trans hx181_2; replace hx181_3 := (HB.out.cell (World.block_lt_of_cell? w _ hx181_3)).trans hx181_3; replace hx181_4 := (HB.out.cell (World.block_lt_of_cell? w _ hx181_4)).trans hx181_4; have HR181_3 := Aside0.mk hi181_3; have HC181_3 := Aside0.mk hl181_3; clear hi181_3 hl181_3; have HR181_4 := Aside0.mk hi181_4; have HC181_4 := Aside0.mk hl181_4; clear hi181_4 hl181_4; replace p181 := eq_true p181; replace q181 := eq_true q181; have ea_ := Option.some.inj (hx179_3.symm.trans hx181_3)
          injection ea_ with ea_ en_ ec_
          subst ea_; subst ec_; clear en_; have ea_ := Option.some.inj (hx179_4.symm.trans hx181_4)
          injection ea_ with ea_ en_ ec_
          subst ea_; subst ec_; clear en_; have p182 : 0 ≤ (x6_3 : Int) := of_decide_eq_true (by first | (with_reducible assumption) | assumption)
          have q182 : x6_3 < (l1_3.length : Int) := of_decide_eq_true (by first | (with_reducible assumption) | assumption)
          obtain ⟨ad182, A182_3, c182_3, A182_4, c182_4, e182, hx182_0, hx182_1, hx182_2, hx182_3, hx182_4, hl182_3, hi182_3, hl182_4, hi182_4⟩ := at_T45 HR1_3.out x6_3 p182 q182
          have hw182_4 := hx182_4
          have hw182_3 := hx182_3
          have hw182_2 := hx182_2
          have hw182_1 := hx182_1
          have hw182_0 := hx182_0
          obtain rfl : ad180 = ad182 := (by injection e182)
          replace hx182_0 := (HB.out.cell (World.block_lt_of_cell? w _ hx182_0)).trans hx182_0; replace hx182_1 := (HB.out.cell (World.block_lt_of_cell? w _ hx182_1)).trans hx182_1; replace hx182_2 := (HB.out.cell (World.block_lt_of_cell? w _ hx182_2)).trans hx182_2; replace hx182_3 := (HB.out.cell (World.block_lt_of_cell? w _ hx182_3)).trans hx182_3; replace hx182_4 := (HB.out.cell (World.block_lt_of_cell? w _ hx182_4)).trans hx182_4; have HR182_3 := Aside0.mk hi182_3; have HC182_3 := Aside0.mk hl182_3; clear hi182_3 hl182_3; have HR182_4 := Aside0.mk hi182_4; have HC182_4 := Aside0.mk hl182_4; clear hi182_4 hl182_4; replace p182 := eq_true p182; replace q182 := eq_true q182; have ea_ := Option.some.inj (hx180_3.symm.trans hx182_3)
          injection ea_ with ea_ en_ ec_
          subst ea_; subst ec_; clear en_; have ea_ := Option.some.inj (hx180_4.symm.trans hx182_4)
          injection ea_ with ea_ en_ ec_
          subst ea_; subst ec_; clear en_; refine start_ (n := 29) (S := fun w' => w'.cell? ⟨gb174, 0, none⟩ = some (.int .u8 a0_0) ∧ w'.cell? ⟨gb174, 1, none⟩ = some (.string a0_1) ∧ w'.cell? ⟨gb174, 2, none⟩ = some (.slice A0_2 l0_2.length c0_2) ∧ w'.cell? ⟨gb174, 3, none⟩ = some (.slice (some ad179) l0_3.length c0_3) ∧ w'.cell? ⟨gb175, 0, none⟩ = some (.int .u8 a1_0) ∧ w'.cell? ⟨gb175, 1, none⟩ = some (.string a1_1) ∧ w'.cell? ⟨gb175, 2, none⟩ = some (.slice A1_2 l1_2.length c1_2) ∧ w'.cell? ⟨gb175, 3, none⟩ = some (.slice (some ad180) l1_3.length c1_3) ∧ w'.cell? (ad179.add ((x6_3).toNat * 5)) = some (.string ((rd_T45 l0_3 x6_3).f0)) ∧ w'.cell? ⟨(ad179.add ((x6_3).toNat * 5)).block, (ad179.add ((x6_3).toNat * 5)).off + 1, none⟩ = some (.int .u8 ((rd_T45 l0_3 x6_3).f1.f0)) ∧ w'.cell? ⟨(ad179.add ((x6_3).toNat * 5)).block, (ad179.add ((x6_3).toNat * 5)).off + 2, none⟩ = some (.string ((rd_T45 l0_3 x6_3).f1.f1)) ∧ w'.cell? ⟨(ad179.add ((x6_3).toNat * 5)).block, (ad179.add ((x6_3).toNat * 5)).off + 3, none⟩ = some (.slice A179_3 ((rd_T45 l0_3 x6_3).f1.f2).length c179_3) ∧ w'.cell? ⟨(ad179.add ((x6_3).toNat * 5)).block, (ad179.add ((x6_3).toNat * 5)).off + 4, none⟩ = some (.slice A179_4 ((rd_T45 l0_3 x6_3).f1.f3).length c179_4) ∧ w'.cell? (ad180.add ((x6_3).toNat * 5)) = some (.string ((rd_T45 l1_3 x6_3).f0)) ∧ w'.cell? ⟨(ad180.add ((x6_3).toNat * 5)).block, (ad180.add ((x6_3).toNat * 5)).off + 1, none⟩ = some (.int .u8 ((rd_T45 l1_3 x6_3).f1.f0)) ∧ w'.cell? ⟨(ad180.add ((x6_3).toNat * 5)).block, (ad180.add ((x6_3).toNat * 5)).off + 2, none⟩ = some (.string ((rd_T45 l1_3 x6_3).f1.f1)) ∧ w'.cell? ⟨(ad180.add ((x6_3).toNat * 5)).block, (ad180.add ((x6_3).toNat * 5)).off + 3, none⟩ = some (.slice A180_3 ((rd_T45 l1_3 x6_3).f1.f2).length c180_3) ∧ w'.cell? ⟨(ad180.add ((x6_3).toNat * 5)).block, (ad180.add ((x6_3).toNat * 5)).off + 4, none⟩ = some (.slice A180_4 ((rd_T45 l1_3 x6_3).f1.f3).length c180_4) ∧ w'.cell? (ad179.add ((x6_3).toNat * 5)) = some (.string ((rd_T45 l0_3 x6_3).f0)) ∧ w'.cell? ⟨(ad179.add ((x6_3).toNat * 5)).block, (ad179.add ((x6_3).toNat * 5)).off + 1, none⟩ = some (.int .u8 ((rd_T45 l0_3 x6_3).f1.f0)) ∧ w'.cell? ⟨(ad179.add ((x6_3).toNat * 5)).block, (ad179.add ((x6_3).toNat * 5)).off + 2, none⟩ = some (.string ((rd_T45 l0_3 x6_3).f1.f1)) ∧ w'.cell? ⟨(ad179.add ((x6_3).toNat * 5)).block, (ad179.add ((x6_3).toNat * 5)).off + 3, none⟩ = some (.slice A179_3 ((rd_T45 l0_3 x6_3).f1.f2).length c179_3) ∧ w'.cell? ⟨(ad179.add ((x6_3).toNat * 5)).block, (ad179.add ((x6_3).toNat * 5)).off + 4, none⟩ = some (.slice A179_4 ((rd_T45 l0_3 x6_3).f1.f3).length c179_4) ∧ w'.cell? (ad180.add ((x6_3).toNat * 5)) = some (.string ((rd_T45 l1_3 x6_3).f0)) ∧ w'.cell? ⟨(ad180.add ((x6_3).toNat * 5)).block, (ad180.add ((x6_3).toNat * 5)).off + 1, none⟩ = some (.int .u8 ((rd_T45 l1_3 x6_3).f1.f0)) ∧ w'.cell? ⟨(ad180.add ((x6_3).toNat * 5)).block, (ad180.add ((x6_3).toNat * 5)).off + 2, none⟩ = some (.string ((rd_T45 l1_3 x6_3).f1.f1)) ∧ w'.cell? ⟨(ad180.add ((x6_3).toNat * 5)).block, (ad180.add ((x6_3).toNat * 5)).off + 3, none⟩ = some (.slice A180_3 ((rd_T45 l1_3 x6_3).f1.f2).length c180_3) ∧ w'.cell? ⟨(ad180.add ((x6_3).toNat * 5)).block, (ad180.add ((x6_3).toNat * 5)).off + 4, none⟩ = some (.slice A180_4 ((rd_T45 l1_3 x6_3).f1.f3).length c180_4)) (ds := []) (bz 29 0) (by kernel_rfl) rfl rfl ⟨(blk_cell BK174.out 0).trans rfl, (blk_cell BK174.out 1).trans rfl, (blk_cell BK174.out 2).trans rfl, (blk_cell BK174.out 3).trans rfl, (blk_cell BK175.out 0).trans rfl, (blk_cell BK175.out 1).trans rfl, (blk_cell BK175.out 2).trans rfl, (blk_cell BK175.out 3).trans rfl, ((HB.out.cell (World.block_lt_of_cell? w _ hw179_0)).trans hw179_0), ((HB.out.cell (World.block_lt_of_cell? w _ hw179_1)).trans hw179_1), ((HB.out.cell (World.block_lt_of_cell? w _ hw179_2)).trans hw179_2), ((HB.out.cell (World.block_lt_of_cell? w _ hw179_3)).trans hw179_3), ((HB.out.cell (World.block_lt_of_cell? w _ hw179_4)).trans hw179_4), ((HB.out.cell (World.block_lt_of_cell? w _ hw180_0)).trans hw180_0), ((HB.out.cell (World.block_lt_of_cell? w _ hw180_1)).trans hw180_1), ((HB.out.cell (World.block_lt_of_cell? w _ hw180_2)).trans hw180_2), ((HB.out.cell (World.block_lt_of_cell? w _ hw180_3)).trans hw180_3), ((HB.out.cell (World.block_lt_of_cell? w _ hw180_4)).trans hw180_4), ((HB.out.cell (World.block_lt_of_cell? w _ hw181_0)).trans hw181_0), ((HB.out.cell (World.block_lt_of_cell? w _ hw181_1)).trans hw181_1), ((HB.out.cell (World.block_lt_of_cell? w _ hw181_2)).trans hw181_2), ((HB.out.cell (World.block_lt_of_cell? w _ hw181_3)).trans hw181_3), ((HB.out.cell (World.block_lt_of_cell? w _ hw181_4)).trans hw181_4), ((HB.out.cell (World.block_lt_of_cell? w _ hw182_0)).trans hw182_0), ((HB.out.cell (World.block_lt_of_cell? w _ hw182_1)).trans hw182_1), ((HB.out.cell (World.block_lt_of_cell? w _ hw182_2)).trans hw182_2), ((HB.out.cell (World.block_lt_of_cell? w _ hw182_3)).trans hw182_3), ((HB.out.cell (World.block_lt_of_cell? w _ hw182_4)).trans hw182_4)⟩ (fun hHeld => ?_); refine with_tabW glossatorref03_Same.tab11 glossatorref03_Same.bits11 (fun HT_ HW_ => ?_)
          generalize wr.drew = w49 at BK174 BK175 HB HR179_3 HR179_4 HR180_3 HR180_4 HR181_3 HR181_4 HR182_3 HR182_4 hx179_0 hx179_1 hx179_2 hx179_3 hx179_4 hx180_0 hx180_1 hx180_2 hx180_3 hx180_4 hx181_0 hx181_1 hx181_2 hx181_3 hx181_4 hx182_0 hx182_1 hx182_2 hx182_3 hx182_4 hHeld ⊢
          refine pu 0 (some 63) (bz 29 1) HT_ rfl rfl ?_; refine pu 2 (some 65) (bz 29 5) HT_ rfl rfl ?_; refine pu 6 (some 69) (bz 29 69) HT_ rfl rfl ?_; refine pu 8 (some 71) (bz 29 325) HT_ rfl rfl ?_; refine tk 1 (some 64) (bz 29 327) HT_ HW_ rfl rfl hHeld ?_; refine pu 3 (some 66) (bz 29 335) HT_ rfl rfl ?_; refine pu 4 (some 67) (bz 29 351) HT_ rfl rfl ?_; refine tk 5 (some 68) (bz 29 383) HT_ HW_ rfl rfl hHeld ?_; refine tk 7 (some 70) (bz 29 511) HT_ HW_ rfl rfl hHeld ?_; refine pu 9 (some 72) (bz 29 1023) HT_ rfl rfl ?_; refine pu 10 (some 73) (bz 29 2047) HT_ rfl rfl ?_; refine tk 11 (some 74) (bz 29 4095) HT_ HW_ rfl rfl hHeld ?_; refine pu 12 (some 75) (bz 29 8191) HT_ rfl rfl ?_; refine pu 13 (some 76) (bz 29 16383) HT_ rfl rfl ?_; refine pu 14 (some 77) (bz 29 32767) HT_ rfl rfl ?_; refine pu 16 (some 79) (bz 29 98303) HT_ rfl rfl ?_; refine pu 20 (some 83) (bz 29 1146879) HT_ rfl rfl ?_; refine pu 22 (some 85) (bz 29 5341183) HT_ rfl rfl ?_; refine tk 15 (some 78) (bz 29 5373951) HT_ HW_ rfl rfl hHeld ?_; refine pu 17 (some 80) (bz 29 5505023) HT_ rfl rfl ?_; refine pu 18 (some 81) (bz 29 5767167) HT_ rfl rfl ?_; refine tk 19 (some 82) (bz 29 6291455) HT_ HW_ rfl rfl hHeld ?_; refine tk 21 (some 84) (bz 29 8388607) HT_ HW_ rfl rfl hHeld ?_; refine pu 23 (some 86) (bz 29 16777215) HT_ rfl rfl ?_; refine pu 24 (some 87) (bz 29 33554431) HT_ rfl rfl ?_; refine tk 25 (some 88) (bz 29 67108863) HT_ HW_ rfl rfl hHeld ?_; refine one_ (i := 26) (N := some 89) (bz 29 134217727) rfl rfl (one_of HT_.out (by kernel_rfl)) (by decide) (fun K hK => ?_)
          refine goes_ Tryz.func11 (by kernel_rfl) rfl #[.agg #[.int .u8 ((rd_T45 l0_3 x6_3).f1.f0), .string ((rd_T45 l0_3 x6_3).f1.f1), .slice A179_3 ((rd_T45 l0_3 x6_3).f1.f2).length c179_3, .slice A179_4 ((rd_T45 l0_3 x6_3).f1.f3).length c179_4], .agg #[.int .u8 ((rd_T45 l1_3 x6_3).f1.f0), .string ((rd_T45 l1_3 x6_3).f1.f1), .slice A180_3 ((rd_T45 l1_3 x6_3).f1.f2).length c180_3, .slice A180_4 ((rd_T45 l1_3 x6_3).f1.f3).length c180_4]] (by rfl) rfl rfl (by (try simp only [List.map_toArray, List.map_cons, List.map_nil]); first | done | rfl | (simp only [List.length_drop, List.length_take]; rfl)) ?_
          with_reducible refine (ih k3 (by have := HJ2.out; have := HK2.out; have := HK3.out; omega) ((rd_T45 l0_3 x6_3).f1.f0) ((rd_T45 l0_3 x6_3).f1.f1) _ _ ((rd_T45 l0_3 x6_3).f1.f2) _ _ ((rd_T45 l0_3 x6_3).f1.f3) ((rd_T45 l1_3 x6_3).f1.f0) ((rd_T45 l1_3 x6_3).f1.f1) _ _ ((rd_T45 l1_3 x6_3).f1.f2) _ _ ((rd_T45 l1_3 x6_3).f1.f3) false _ ?side1 ?side2 ?side3 ?side4 ?side5 ?side6 ?side7 ?side8 A41.out).mono ?_
          (case side1 => repeat (first | exact (Kd.C_below HR181_3.out HB.out) | (with_reducible refine Kd.C_alloc ?_ _) | (with_reducible refine Kd.C_drewN ?_ _) | (with_reducible refine Kd.C_drew ?_)))
          (case side2 => exact HC181_3.out)
          (case side3 => repeat (first | exact (Kd.C_below HR181_4.out HB.out) | (with_reducible refine Kd.C_alloc ?_ _) | (with_reducible refine Kd.C_drewN ?_ _) | (with_reducible refine Kd.C_drew ?_)))
          (case side4 => exact HC181_4.out)
          (case side5 => repeat (first | exact (Kd.C_below HR182_3.out HB.out) | (with_reducible refine Kd.C_alloc ?_ _) | (with_reducible refine Kd.C_drewN ?_ _) | (with_reducible refine Kd.C_drew ?_)))
          (case side6 => exact HC182_3.out)
          (case side7 => repeat (first | exact (Kd.C_below HR182_4.out HB.out) | (with_reducible refine Kd.C_alloc ?_ _) | (with_reducible refine Kd.C_drewN ?_ _) | (with_reducible refine Kd.C_drew ?_)))
          (case side8 => exact HC182_4.out)
          rintro e w50 ⟨rfl, hb⟩
          refine ⟨_, rfl, ?_⟩
          have n0_ := Aside0.mk (blk_below (g := gb174) (o := .cells #[.int .u8 a0_0, .string a0_1, .slice A0_2 l0_2.length c0_2, .slice (some ad179) l0_3.length c0_3] 25 (0, 0)) (kl BK174) hb); have n1_ := Aside0.mk (blk_below (g := gb175) (o := .cells #[.int .u8 a1_0, .string a1_1, .slice A1_2 l1_2.length c1_2, .slice (some ad180) l1_3.length c1_3] 25 (0, 0)) (kl BK175) hb); have n2_ := Aside0.mk (below_step (by repeat (first | (with_reducible first | exact HB.out | apply below_alloc | apply pw_below_drewN | apply below_drew1 | refine below_set ?_ GE174.out | refine below_set ?_ GE175.out) | exact HB.out)) hb); clear BK174; clear BK175; clear HB; have BK174 := n0_; have BK175 := n1_; have HB := n2_; clear n0_ n1_ n2_; (try clear hb); (try clear hb2); (try clear hk); (try clear hi); refine hK.out _ _ ⟨(blk_cell BK174.out 0).trans rfl, (blk_cell BK174.out 1).trans rfl, (blk_cell BK174.out 2).trans rfl, (blk_cell BK174.out 3).trans rfl, (blk_cell BK175.out 0).trans rfl, (blk_cell BK175.out 1).trans rfl, (blk_cell BK175.out 2).trans rfl, (blk_cell BK175.out 3).trans rfl, ((HB.out.cell (World.block_lt_of_cell? w _ hw179_0)).trans hw179_0), ((HB.out.cell (World.block_lt_of_cell? w _ hw179_1)).trans hw179_1), ((HB.out.cell (World.block_lt_of_cell? w _ hw179_2)).trans hw179_2), ((HB.out.cell (World.block_lt_of_cell? w _ hw179_3)).trans hw179_3), ((HB.out.cell (World.block_lt_of_cell? w _ hw179_4)).trans hw179_4), ((HB.out.cell (World.block_lt_of_cell? w _ hw180_0)).trans hw180_0), ((HB.out.cell (World.block_lt_of_cell? w _ hw180_1)).trans hw180_1), ((HB.out.cell (World.block_lt_of_cell? w _ hw180_2)).trans hw180_2), ((HB.out.cell (World.block_lt_of_cell? w _ hw180_3)).trans hw180_3), ((HB.out.cell (World.block_lt_of_cell? w _ hw180_4)).trans hw180_4), ((HB.out.cell (World.block_lt_of_cell? w _ hw181_0)).trans hw181_0), ((HB.out.cell (World.block_lt_of_cell? w _ hw181_1)).trans hw181_1), ((HB.out.cell (World.block_lt_of_cell? w _ hw181_2)).trans hw181_2), ((HB.out.cell (World.block_lt_of_cell? w _ hw181_3)).trans hw181_3), ((HB.out.cell (World.block_lt_of_cell? w _ hw181_4)).trans hw181_4), ((HB.out.cell (World.block_lt_of_cell? w _ hw182_0)).trans hw182_0), ((HB.out.cell (World.block_lt_of_cell? w _ hw182_1)).trans hw182_1), ((HB.out.cell (World.block_lt_of_cell? w _ hw182_2)).trans hw182_2), ((HB.out.cell (World.block_lt_of_cell? w _ hw182_3)).trans hw182_3), ((HB.out.cell (World.block_lt_of_cell? w _ hw182_4)).trans hw182_4)⟩ (fun hHeld => ?_)
          clear hK K; refine norm_ (a' := ?_) ?_ ?_
          rotate_left
          ·show Act.put _ (some 89) _ = _
           simp only [Act.put, List.setIfInBounds_toArray, List.set_cons_zero, List.set_cons_succ, i64_w, i32_w]
           rfl
          refine pu 27 (some 90) (bz 29 268435455) HT_ rfl rfl ?_; refine pu 28 (some 91) (bz 29 536870911) HT_ rfl rfl ?_; refine done_ (done_of HT_.out (by kernel_rfl)) ?_
          try go_wp2
          go_ret
          exact ⟨by first | rfl | (simp [errW_none, errW_some] <;> rfl) | (simp [*, errW_none, errW_some] <;> rfl), by repeat (first | (with_reducible first | exact HB.out | apply below_alloc | apply pw_below_drewN | apply below_drew1 | refine below_set ?_ GE174.out | refine below_set ?_ GE175.out) | exact HB.out)⟩
         subst c42; have H1 : (glossatorref03_Same.l1 k3 (wrap64 (x6_3 + 1)) a0_0 a0_1 l0_2 l0_3 a1_0 a1_1 l1_2 l1_3) = some r := by rw [if_pos rfl] at H; exact H
         clear H; have H := H1
         clear H1; have H' := Aside0.mk H; clear H; have hnb43 := NB174_175.out
         have hnc43 := NB175_174.out
         have hcz44_0 : wr.cell? ⟨gb174, 0, none⟩ = some (.int .u8 a0_0) := (blk_cell BK174.out 0).trans rfl
         have hcz44_1 : wr.cell? ⟨gb174, 1, none⟩ = some (.string a0_1) := (blk_cell BK174.out 1).trans rfl
         have hcz44_2 : wr.cell? ⟨gb174, 2, none⟩ = some (.slice A0_2 l0_2.length c0_2) := (blk_cell BK174.out 2).trans rfl
         have hcz44_3 : wr.cell? ⟨gb174, 3, none⟩ = some (.slice A0_3 l0_3.length c0_3) := (blk_cell BK174.out 3).trans rfl
         have hfz44_0 := blk_frozen BK174.out 0
         have hfz44_1 := blk_frozen BK174.out 1
         have hfz44_2 := blk_frozen BK174.out 2
         have hfz44_3 := blk_frozen BK174.out 3
         try go_wp2
         have n0_ := Aside0.mk (blk_drew BK174.out); have n1_ := Aside0.mk (blk_drew BK175.out); have n2_ := Aside0.mk (below_drew1 HB.out); clear BK174; clear BK175; clear HB; have BK174 := n0_; have BK175 := n1_; have HB := n2_; clear n0_ n1_ n2_; have p179 : 0 ≤ (x6_3 : Int) := of_decide_eq_true (by first | (with_reducible assumption) | assumption)
         have q179 : x6_3 < (l0_3.length : Int) := of_decide_eq_true (by first | (with_reducible assumption) | assumption)
         obtain ⟨ad179, A179_3, c179_3, A179_4, c179_4, e179, hx179_0, hx179_1, hx179_2, hx179_3, hx179_4, hl179_3, hi179_3, hl179_4, hi179_4⟩ := at_T45 HR0_3.out x6_3 p179 q179
         have hw179_4 := hx179_4
         have hw179_3 := hx179_3
         have hw179_2 := hx179_2
         have hw179_1 := hx179_1
         have hw179_0 := hx179_0
         cases e179; replace hx179_0 := (HB.out.cell (World.block_lt_of_cell? w _ hx179_0)).trans hx179_0; replace hx179_1 := (HB.out.cell (World.block_lt_of_cell? w _ hx179_1)).trans hx179_1; replace hx179_2 := (HB.out.cell (World.block_lt_of_cell? w _ hx179_2)).trans hx179_2; replace hx179_3 := (HB.out.cell (World.block_lt_of_cell? w _ hx179_3)).trans hx179_3; replace hx179_4 := (HB.out.cell (World.block_lt_of_cell? w _ hx179_4)).trans hx179_4; have HR179_3 := Aside0.mk hi179_3; have HC179_3 := Aside0.mk hl179_3; clear hi179_3 hl179_3; have HR179_4 := Aside0.mk hi179_4; have HC179_4 := Aside0.mk hl179_4; clear hi179_4 hl179_4; replace p179 := eq_true p179; replace q179 := eq_true q179; have p180 : 0 ≤ (x6_3 : Int) := of_decide_eq_true (by first | (with_reducible assumption) | assumption)
         have q180 : x6_3 < (l1_3.length : Int) := of_decide_eq_true (by first | (with_reducible assumption) | assumption)
         obtain ⟨ad180, A180_3, c180_3, A180_4, c180_4, e180, hx180_0, hx180_1, hx180_2, hx180_3, hx180_4, hl180_3, hi180_3, hl180_4, hi180_4⟩ := at_T45 HR1_3.out x6_3 p180 q180
         have hw180_4 := hx180_4
         have hw180_3 := hx180_3
         have hw180_2 := hx180_2
         have hw180_1 := hx180_1
         have hw180_0 := hx180_0
         cases e180; replace hx180_0 := (HB.out.cell (World.block_lt_of_cell? w _ hx180_0)).trans hx180_0; replace hx180_1 := (HB.out.cell (World.block_lt_of_cell? w _ hx180_1)).trans hx180_1; replace hx180_2 := (HB.out.cell (World.block_lt_of_cell? w _ hx180_2)).trans hx180_2; replace hx180_3 := (HB.out.cell (World.block_lt_of_cell? w _ hx180_3)).trans hx180_3; replace hx180_4 := (HB.out.cell (World.block_lt_of_cell? w _ hx180_4)).trans hx180_4; have HR180_3 := Aside0.mk hi180_3; have HC180_3 := Aside0.mk hl180_3; clear hi180_3 hl180_3; have HR180_4 := Aside0.mk hi180_4; have HC180_4 := Aside0.mk hl180_4; clear hi180_4 hl180_4; replace p180 := eq_true p180; replace q180 := eq_true q180; have p181 : 0 ≤ (x6_3 : Int) := of_decide_eq_true (by first | (with_reducible assumption) | assumption)
         have q181 : x6_3 < (l0_3.length : Int) := of_decide_eq_true (by first | (with_reducible assumption) | assumption)
         obtain ⟨ad181, A181_3, c181_3, A181_4, c181_4, e181, hx181_0, hx181_1, hx181_2, hx181_3, hx181_4, hl181_3, hi181_3, hl181_4, hi181_4⟩ := at_T45 HR0_3.out x6_3 p181 q181
         have hw181_4 := hx181_4
         have hw181_3 := hx181_3
         have hw181_2 := hx181_2
         have hw181_1 := hx181_1
         have hw181_0 := hx181_0
         obtain rfl : ad179 = ad181 := (by injection e181)
         replace hx181_0 := (HB.out.cell (World.block_lt_of_cell? w _ hx181_0)).trans hx181_0; replace hx181_1 := (HB.out.cell (World.block_lt_of_cell? w _ hx181_1)).trans hx181_1; replace hx181_2 := (HB.out.cell (World.block_lt_of_cell? w _ hx181_2)).trans hx181_2; replace hx181_3 := (HB.out.cell (World.block_lt_of_cell? w _ hx181_3)).trans hx181_3; replace hx181_4 := (HB.out.cell (World.block_lt_of_cell? w _ hx181_4)).trans hx181_4; have HR181_3 := Aside0.mk hi181_3; have HC181_3 := Aside0.mk hl181_3; clear hi181_3 hl181_3; have HR181_4 := Aside0.mk hi181_4; have HC181_4 := Aside0.mk hl181_4; clear hi181_4 hl181_4; replace p181 := eq_true p181; replace q181 := eq_true q181; have ea_ := Option.some.inj (hx179_3.symm.trans hx181_3)
         injection ea_ with ea_ en_ ec_
         subst ea_; subst ec_; clear en_; have ea_ := Option.some.inj (hx179_4.symm.trans hx181_4)
         injection ea_ with ea_ en_ ec_
         subst ea_; subst ec_; clear en_; have p182 : 0 ≤ (x6_3 : Int) := of_decide_eq_true (by first | (with_reducible assumption) | assumption)
         have q182 : x6_3 < (l1_3.length : Int) := of_decide_eq_true (by first | (with_reducible assumption) | assumption)
         obtain ⟨ad182, A182_3, c182_3, A182_4, c182_4, e182, hx182_0, hx182_1, hx182_2, hx182_3, hx182_4, hl182_3, hi182_3, hl182_4, hi182_4⟩ := at_T45 HR1_3.out x6_3 p182 q182
         have hw182_4 := hx182_4
         have hw182_3 := hx182_3
         have hw182_2 := hx182_2
         have hw182_1 := hx182_1
         have hw182_0 := hx182_0
         obtain rfl : ad180 = ad182 := (by injection e182)
         replace hx182_0 := (HB.out.cell (World.block_lt_of_cell? w _ hx182_0)).trans hx182_0; replace hx182_1 := (HB.out.cell (World.block_lt_of_cell? w _ hx182_1)).trans hx182_1; replace hx182_2 := (HB.out.cell (World.block_lt_of_cell? w _ hx182_2)).trans hx182_2; replace hx182_3 := (HB.out.cell (World.block_lt_of_cell? w _ hx182_3)).trans hx182_3; replace hx182_4 := (HB.out.cell (World.block_lt_of_cell? w _ hx182_4)).trans hx182_4; have HR182_3 := Aside0.mk hi182_3; have HC182_3 := Aside0.mk hl182_3; clear hi182_3 hl182_3; have HR182_4 := Aside0.mk hi182_4; have HC182_4 := Aside0.mk hl182_4; clear hi182_4 hl182_4; replace p182 := eq_true p182; replace q182 := eq_true q182; have ea_ := Option.some.inj (hx180_3.symm.trans hx182_3)
         injection ea_ with ea_ en_ ec_
         subst ea_; subst ec_; clear en_; have ea_ := Option.some.inj (hx180_4.symm.trans hx182_4)
         injection ea_ with ea_ en_ ec_
         subst ea_; subst ec_; clear en_; refine start_ (n := 29) (S := fun w' => w'.cell? ⟨gb174, 0, none⟩ = some (.int .u8 a0_0) ∧ w'.cell? ⟨gb174, 1, none⟩ = some (.string a0_1) ∧ w'.cell? ⟨gb174, 2, none⟩ = some (.slice A0_2 l0_2.length c0_2) ∧ w'.cell? ⟨gb174, 3, none⟩ = some (.slice (some ad179) l0_3.length c0_3) ∧ w'.cell? ⟨gb175, 0, none⟩ = some (.int .u8 a1_0) ∧ w'.cell? ⟨gb175, 1, none⟩ = some (.string a1_1) ∧ w'.cell? ⟨gb175, 2, none⟩ = some (.slice A1_2 l1_2.length c1_2) ∧ w'.cell? ⟨gb175, 3, none⟩ = some (.slice (some ad180) l1_3.length c1_3) ∧ w'.cell? (ad179.add ((x6_3).toNat * 5)) = some (.string ((rd_T45 l0_3 x6_3).f0)) ∧ w'.cell? ⟨(ad179.add ((x6_3).toNat * 5)).block, (ad179.add ((x6_3).toNat * 5)).off + 1, none⟩ = some (.int .u8 ((rd_T45 l0_3 x6_3).f1.f0)) ∧ w'.cell? ⟨(ad179.add ((x6_3).toNat * 5)).block, (ad179.add ((x6_3).toNat * 5)).off + 2, none⟩ = some (.string ((rd_T45 l0_3 x6_3).f1.f1)) ∧ w'.cell? ⟨(ad179.add ((x6_3).toNat * 5)).block, (ad179.add ((x6_3).toNat * 5)).off + 3, none⟩ = some (.slice A179_3 ((rd_T45 l0_3 x6_3).f1.f2).length c179_3) ∧ w'.cell? ⟨(ad179.add ((x6_3).toNat * 5)).block, (ad179.add ((x6_3).toNat * 5)).off + 4, none⟩ = some (.slice A179_4 ((rd_T45 l0_3 x6_3).f1.f3).length c179_4) ∧ w'.cell? (ad180.add ((x6_3).toNat * 5)) = some (.string ((rd_T45 l1_3 x6_3).f0)) ∧ w'.cell? ⟨(ad180.add ((x6_3).toNat * 5)).block, (ad180.add ((x6_3).toNat * 5)).off + 1, none⟩ = some (.int .u8 ((rd_T45 l1_3 x6_3).f1.f0)) ∧ w'.cell? ⟨(ad180.add ((x6_3).toNat * 5)).block, (ad180.add ((x6_3).toNat * 5)).off + 2, none⟩ = some (.string ((rd_T45 l1_3 x6_3).f1.f1)) ∧ w'.cell? ⟨(ad180.add ((x6_3).toNat * 5)).block, (ad180.add ((x6_3).toNat * 5)).off + 3, none⟩ = some (.slice A180_3 ((rd_T45 l1_3 x6_3).f1.f2).length c180_3) ∧ w'.cell? ⟨(ad180.add ((x6_3).toNat * 5)).block, (ad180.add ((x6_3).toNat * 5)).off + 4, none⟩ = some (.slice A180_4 ((rd_T45 l1_3 x6_3).f1.f3).length c180_4) ∧ w'.cell? (ad179.add ((x6_3).toNat * 5)) = some (.string ((rd_T45 l0_3 x6_3).f0)) ∧ w'.cell? ⟨(ad179.add ((x6_3).toNat * 5)).block, (ad179.add ((x6_3).toNat * 5)).off + 1, none⟩ = some (.int .u8 ((rd_T45 l0_3 x6_3).f1.f0)) ∧ w'.cell? ⟨(ad179.add ((x6_3).toNat * 5)).block, (ad179.add ((x6_3).toNat * 5)).off + 2, none⟩ = some (.string ((rd_T45 l0_3 x6_3).f1.f1)) ∧ w'.cell? ⟨(ad179.add ((x6_3).toNat * 5)).block, (ad179.add ((x6_3).toNat * 5)).off + 3, none⟩ = some (.slice A179_3 ((rd_T45 l0_3 x6_3).f1.f2).length c179_3) ∧ w'.cell? ⟨(ad179.add ((x6_3).toNat * 5)).block, (ad179.add ((x6_3).toNat * 5)).off + 4, none⟩ = some (.slice A179_4 ((rd_T45 l0_3 x6_3).f1.f3).length c179_4) ∧ w'.cell? (ad180.add ((x6_3).toNat * 5)) = some (.string ((rd_T45 l1_3 x6_3).f0)) ∧ w'.cell? ⟨(ad180.add ((x6_3).toNat * 5)).block, (ad180.add ((x6_3).toNat * 5)).off + 1, none⟩ = some (.int .u8 ((rd_T45 l1_3 x6_3).f1.f0)) ∧ w'.cell? ⟨(ad180.add ((x6_3).toNat * 5)).block, (ad180.add ((x6_3).toNat * 5)).off + 2, none⟩ = some (.string ((rd_T45 l1_3 x6_3).f1.f1)) ∧ w'.cell? ⟨(ad180.add ((x6_3).toNat * 5)).block, (ad180.add ((x6_3).toNat * 5)).off + 3, none⟩ = some (.slice A180_3 ((rd_T45 l1_3 x6_3).f1.f2).length c180_3) ∧ w'.cell? ⟨(ad180.add ((x6_3).toNat * 5)).block, (ad180.add ((x6_3).toNat * 5)).off + 4, none⟩ = some (.slice A180_4 ((rd_T45 l1_3 x6_3).f1.f3).length c180_4)) (ds := []) (bz 29 0) (by kernel_rfl) rfl rfl ⟨(blk_cell BK174.out 0).trans rfl, (blk_cell BK174.out 1).trans rfl, (blk_cell BK174.out 2).trans rfl, (blk_cell BK174.out 3).trans rfl, (blk_cell BK175.out 0).trans rfl, (blk_cell BK175.out 1).trans rfl, (blk_cell BK175.out 2).trans rfl, (blk_cell BK175.out 3).trans rfl, ((HB.out.cell (World.block_lt_of_cell? w _ hw179_0)).trans hw179_0), ((HB.out.cell (World.block_lt_of_cell? w _ hw179_1)).trans hw179_1), ((HB.out.cell (World.block_lt_of_cell? w _ hw179_2)).trans hw179_2), ((HB.out.cell (World.block_lt_of_cell? w _ hw179_3)).trans hw179_3), ((HB.out.cell (World.block_lt_of_cell? w _ hw179_4)).trans hw179_4), ((HB.out.cell (World.block_lt_of_cell? w _ hw180_0)).trans hw180_0), ((HB.out.cell (World.block_lt_of_cell? w _ hw180_1)).trans hw180_1), ((HB.out.cell (World.block_lt_of_cell? w _ hw180_2)).trans hw180_2), ((HB.out.cell (World.block_lt_of_cell? w _ hw180_3)).trans hw180_3), ((HB.out.cell (World.block_lt_of_cell? w _ hw180_4)).trans hw180_4), ((HB.out.cell (World.block_lt_of_cell? w _ hw181_0)).trans hw181_0), ((HB.out.cell (World.block_lt_of_cell? w _ hw181_1)).trans hw181_1), ((HB.out.cell (World.block_lt_of_cell? w _ hw181_2)).trans hw181_2), ((HB.out.cell (World.block_lt_of_cell? w _ hw181_3)).trans hw181_3), ((HB.out.cell (World.block_lt_of_cell? w _ hw181_4)).trans hw181_4), ((HB.out.cell (World.block_lt_of_cell? w _ hw182_0)).trans hw182_0), ((HB.out.cell (World.block_lt_of_cell? w _ hw182_1)).trans hw182_1), ((HB.out.cell (World.block_lt_of_cell? w _ hw182_2)).trans hw182_2), ((HB.out.cell (World.block_lt_of_cell? w _ hw182_3)).trans hw182_3), ((HB.out.cell (World.block_lt_of_cell? w _ hw182_4)).trans hw182_4)⟩ (fun hHeld => ?_); refine with_tabW glossatorref03_Same.tab11 glossatorref03_Same.bits11 (fun HT_ HW_ => ?_)
         generalize wr.drew = w45 at BK174 BK175 HB HR179_3 HR179_4 HR180_3 HR180_4 HR181_3 HR181_4 HR182_3 HR182_4 hx179_0 hx179_1 hx179_2 hx179_3 hx179_4 hx180_0 hx180_1 hx180_2 hx180_3 hx180_4 hx181_0 hx181_1 hx181_2 hx181_3 hx181_4 hx182_0 hx182_1 hx182_2 hx182_3 hx182_4 hHeld ⊢
         refine pu 0 (some 63) (bz 29 1) HT_ rfl rfl ?_; refine pu 2 (some 65) (bz 29 5) HT_ rfl rfl ?_; refine pu 6 (some 69) (bz 29 69) HT_ rfl rfl ?_; refine pu 8 (some 71) (bz 29 325) HT_ rfl rfl ?_; refine tk 1 (some 64) (bz 29 327) HT_ HW_ rfl rfl hHeld ?_; refine pu 3 (some 66) (bz 29 335) HT_ rfl rfl ?_; refine pu 4 (some 67) (bz 29 351) HT_ rfl rfl ?_; refine tk 5 (some 68) (bz 29 383) HT_ HW_ rfl rfl hHeld ?_; refine tk 7 (some 70) (bz 29 511) HT_ HW_ rfl rfl hHeld ?_; refine pu 9 (some 72) (bz 29 1023) HT_ rfl rfl ?_; refine pu 10 (some 73) (bz 29 2047) HT_ rfl rfl ?_; refine tk 11 (some 74) (bz 29 4095) HT_ HW_ rfl rfl hHeld ?_; refine pu 12 (some 75) (bz 29 8191) HT_ rfl rfl ?_; refine pu 13 (some 76) (bz 29 16383) HT_ rfl rfl ?_; refine pu 14 (some 77) (bz 29 32767) HT_ rfl rfl ?_; refine pu 16 (some 79) (bz 29 98303) HT_ rfl rfl ?_; refine pu 20 (some 83) (bz 29 1146879) HT_ rfl rfl ?_; refine pu 22 (some 85) (bz 29 5341183) HT_ rfl rfl ?_; refine tk 15 (some 78) (bz 29 5373951) HT_ HW_ rfl rfl hHeld ?_; refine pu 17 (some 80) (bz 29 5505023) HT_ rfl rfl ?_; refine pu 18 (some 81) (bz 29 5767167) HT_ rfl rfl ?_; refine tk 19 (some 82) (bz 29 6291455) HT_ HW_ rfl rfl hHeld ?_; refine tk 21 (some 84) (bz 29 8388607) HT_ HW_ rfl rfl hHeld ?_; refine pu 23 (some 86) (bz 29 16777215) HT_ rfl rfl ?_; refine pu 24 (some 87) (bz 29 33554431) HT_ rfl rfl ?_; refine tk 25 (some 88) (bz 29 67108863) HT_ HW_ rfl rfl hHeld ?_; refine one_ (i := 26) (N := some 89) (bz 29 134217727) rfl rfl (one_of HT_.out (by kernel_rfl)) (by decide) (fun K hK => ?_)
         refine goes_ Tryz.func11 (by kernel_rfl) rfl #[.agg #[.int .u8 ((rd_T45 l0_3 x6_3).f1.f0), .string ((rd_T45 l0_3 x6_3).f1.f1), .slice A179_3 ((rd_T45 l0_3 x6_3).f1.f2).length c179_3, .slice A179_4 ((rd_T45 l0_3 x6_3).f1.f3).length c179_4], .agg #[.int .u8 ((rd_T45 l1_3 x6_3).f1.f0), .string ((rd_T45 l1_3 x6_3).f1.f1), .slice A180_3 ((rd_T45 l1_3 x6_3).f1.f2).length c180_3, .slice A180_4 ((rd_T45 l1_3 x6_3).f1.f3).length c180_4]] (by rfl) rfl rfl (by (try simp only [List.map_toArray, List.map_cons, List.map_nil]); first | done | rfl | (simp only [List.length_drop, List.length_take]; rfl)) ?_
         with_reducible refine (ih k3 (by have := HJ2.out; have := HK2.out; have := HK3.out; omega) ((rd_T45 l0_3 x6_3).f1.f0) ((rd_T45 l0_3 x6_3).f1.f1) _ _ ((rd_T45 l0_3 x6_3).f1.f2) _ _ ((rd_T45 l0_3 x6_3).f1.f3) ((rd_T45 l1_3 x6_3).f1.f0) ((rd_T45 l1_3 x6_3).f1.f1) _ _ ((rd_T45 l1_3 x6_3).f1.f2) _ _ ((rd_T45 l1_3 x6_3).f1.f3) true _ ?side1 ?side2 ?side3 ?side4 ?side5 ?side6 ?side7 ?side8 A41.out).mono ?_
         (case side1 => repeat (first | exact (Kd.C_below HR181_3.out HB.out) | (with_reducible refine Kd.C_alloc ?_ _) | (with_reducible refine Kd.C_drewN ?_ _) | (with_reducible refine Kd.C_drew ?_)))
         (case side2 => exact HC181_3.out)
         (case side3 => repeat (first | exact (Kd.C_below HR181_4.out HB.out) | (with_reducible refine Kd.C_alloc ?_ _) | (with_reducible refine Kd.C_drewN ?_ _) | (with_reducible refine Kd.C_drew ?_)))
         (case side4 => exact HC181_4.out)
         (case side5 => repeat (first | exact (Kd.C_below HR182_3.out HB.out) | (with_reducible refine Kd.C_alloc ?_ _) | (with_reducible refine Kd.C_drewN ?_ _) | (with_reducible refine Kd.C_drew ?_)))
         (case side6 => exact HC182_3.out)
         (case side7 => repeat (first | exact (Kd.C_below HR182_4.out HB.out) | (with_reducible refine Kd.C_alloc ?_ _) | (with_reducible refine Kd.C_drewN ?_ _) | (with_reducible refine Kd.C_drew ?_)))
         (case side8 => exact HC182_4.out)
         rintro e w46 ⟨rfl, hb⟩
         refine ⟨_, rfl, ?_⟩
         have n0_ := Aside0.mk (blk_below (g := gb174) (o := .cells #[.int .u8 a0_0, .string a0_1, .slice A0_2 l0_2.length c0_2, .slice (some ad179) l0_3.length c0_3] 25 (0, 0)) (kl BK174) hb); have n1_ := Aside0.mk (blk_below (g := gb175) (o := .cells #[.int .u8 a1_0, .string a1_1, .slice A1_2 l1_2.length c1_2, .slice (some ad180) l1_3.length c1_3] 25 (0, 0)) (kl BK175) hb); have n2_ := Aside0.mk (below_step (by repeat (first | (with_reducible first | exact HB.out | apply below_alloc | apply pw_below_drewN | apply below_drew1 | refine below_set ?_ GE174.out | refine below_set ?_ GE175.out) | exact HB.out)) hb); clear BK174; clear BK175; clear HB; have BK174 := n0_; have BK175 := n1_; have HB := n2_; clear n0_ n1_ n2_; (try clear hb); (try clear hb2); (try clear hk); (try clear hi); refine hK.out _ _ ⟨(blk_cell BK174.out 0).trans rfl, (blk_cell BK174.out 1).trans rfl, (blk_cell BK174.out 2).trans rfl, (blk_cell BK174.out 3).trans rfl, (blk_cell BK175.out 0).trans rfl, (blk_cell BK175.out 1).trans rfl, (blk_cell BK175.out 2).trans rfl, (blk_cell BK175.out 3).trans rfl, ((HB.out.cell (World.block_lt_of_cell? w _ hw179_0)).trans hw179_0), ((HB.out.cell (World.block_lt_of_cell? w _ hw179_1)).trans hw179_1), ((HB.out.cell (World.block_lt_of_cell? w _ hw179_2)).trans hw179_2), ((HB.out.cell (World.block_lt_of_cell? w _ hw179_3)).trans hw179_3), ((HB.out.cell (World.block_lt_of_cell? w _ hw179_4)).trans hw179_4), ((HB.out.cell (World.block_lt_of_cell? w _ hw180_0)).trans hw180_0), ((HB.out.cell (World.block_lt_of_cell? w _ hw180_1)).trans hw180_1), ((HB.out.cell (World.block_lt_of_cell? w _ hw180_2)).trans hw180_2), ((HB.out.cell (World.block_lt_of_cell? w _ hw180_3)).trans hw180_3), ((HB.out.cell (World.block_lt_of_cell? w _ hw180_4)).trans hw180_4), ((HB.out.cell (World.block_lt_of_cell? w _ hw181_0)).trans hw181_0), ((HB.out.cell (World.block_lt_of_cell? w _ hw181_1)).trans hw181_1), ((HB.out.cell (World.block_lt_of_cell? w _ hw181_2)).trans hw181_2), ((HB.out.cell (World.block_lt_of_cell? w _ hw181_3)).trans hw181_3), ((HB.out.cell (World.block_lt_of_cell? w _ hw181_4)).trans hw181_4), ((HB.out.cell (World.block_lt_of_cell? w _ hw182_0)).trans hw182_0), ((HB.out.cell (World.block_lt_of_cell? w _ hw182_1)).trans hw182_1), ((HB.out.cell (World.block_lt_of_cell? w _ hw182_2)).trans hw182_2), ((HB.out.cell (World.block_lt_of_cell? w _ hw182_3)).trans hw182_3), ((HB.out.cell (World.block_lt_of_cell? w _ hw182_4)).trans hw182_4)⟩ (fun hHeld => ?_)
         clear hK K; refine norm_ (a' := ?_) ?_ ?_
         rotate_left
         ·show Act.put _ (some 89) _ = _
          simp only [Act.put, List.setIfInBounds_toArray, List.set_cons_zero, List.set_cons_succ, i64_w, i32_w]
          rfl
         refine pu 27 (some 90) (bz 29 268435455) HT_ rfl rfl ?_; refine pu 28 (some 91) (bz 29 536870911) HT_ rfl rfl ?_; refine done_ (done_of HT_.out (by kernel_rfl)) ?_
         try go_wp2
         go_roundg k3
         case measure => have := HJ2.out; have := HK2.out; have := HK3.out; omega
         case rel => exact ⟨(wrap64 (x6_3 + 1)), (by first | rfl | (simp; done) | (simp [*]; done) | (simp; exact xEmpty_ne _) | (simp [*]; exact xEmpty_ne _)), H', ⟨by have := HJ2.out; have := HK2.out; have := HK3.out; omega⟩, ⟨kl BK174⟩, ⟨kl BK175⟩, ⟨by repeat (first | (with_reducible first | exact HB.out | apply below_alloc | apply pw_below_drewN | apply below_drew1 | refine below_set ?_ GE174.out | refine below_set ?_ GE175.out) | exact HB.out)⟩⟩
      rw [if_pos c22] at H; have c22b0 : decide (x5_2 < (l0_2.length : Int)) = true := decide_eq_true c22; clear c22; by_cases c23 : 0 ≤ x5_2
      rotate_left
      ·rw [if_neg c23] at H; exact absurd H (by simp)
      rw [if_pos c23] at H; have c23b0 : decide (0 ≤ x5_2) = true := decide_eq_true c23; clear c23; by_cases c24 : x5_2 < (l1_2.length : Int)
      rotate_left
      ·rw [if_neg c24] at H; exact absurd H (by simp)
      rw [if_pos c24] at H; have c24b0 : decide (x5_2 < (l1_2.length : Int)) = true := decide_eq_true c24; clear c24; replace H := Option.bind_eq_some_iff.mp H
      obtain ⟨t178, A250, H⟩ := H
      replace H : (if t178 = true then (glossatorref03_Same.l0 k2 (wrap64 (x5_2 + 1)) a0_0 a0_1 l0_2 l0_3 a1_0 a1_1 l1_2 l1_3) else (some false)) = some r := H
      have A25 := Aside0.mk A250; clear A250; by_cases c26 : t178 = true
      rotate_left
      ·replace c26 := Bool.eq_false_iff.mpr c26
       subst c26; have H1 : (some false) = some r := by rw [if_neg (show ¬ (false = true) by decide)] at H; exact H
       clear H; have H := H1
       clear H1; obtain rfl := Option.some.inj H; have hnb31 := NB174_175.out
       have hnc31 := NB175_174.out
       have hcz32_0 : wr.cell? ⟨gb174, 0, none⟩ = some (.int .u8 a0_0) := (blk_cell BK174.out 0).trans rfl
       have hcz32_1 : wr.cell? ⟨gb174, 1, none⟩ = some (.string a0_1) := (blk_cell BK174.out 1).trans rfl
       have hcz32_2 : wr.cell? ⟨gb174, 2, none⟩ = some (.slice A0_2 l0_2.length c0_2) := (blk_cell BK174.out 2).trans rfl
       have hcz32_3 : wr.cell? ⟨gb174, 3, none⟩ = some (.slice A0_3 l0_3.length c0_3) := (blk_cell BK174.out 3).trans rfl
       have hfz32_0 := blk_frozen BK174.out 0
       have hfz32_1 := blk_frozen BK174.out 1
       have hfz32_2 := blk_frozen BK174.out 2
       have hfz32_3 := blk_frozen BK174.out 3
       try go_wp2
       have n0_ := Aside0.mk (blk_drew BK174.out); have n1_ := Aside0.mk (blk_drew BK175.out); have n2_ := Aside0.mk (below_drew1 HB.out); clear BK174; clear BK175; clear HB; have BK174 := n0_; have BK175 := n1_; have HB := n2_; clear n0_ n1_ n2_; have p176 : 0 ≤ (x5_2 : Int) := of_decide_eq_true (by first | (with_reducible assumption) | assumption)
       have q176 : x5_2 < (l0_2.length : Int) := of_decide_eq_true (by first | (with_reducible assumption) | assumption)
       obtain ⟨ad176, A176_2, c176_2, A176_3, c176_3, e176, hx176_0, hx176_1, hx176_2, hx176_3, hl176_2, hi176_2, hl176_3, hi176_3⟩ := at_T25 HR0_2.out x5_2 p176 q176
       have hw176_3 := hx176_3
       have hw176_2 := hx176_2
       have hw176_1 := hx176_1
       have hw176_0 := hx176_0
       cases e176; replace hx176_0 := (HB.out.cell (World.block_lt_of_cell? w _ hx176_0)).trans hx176_0; replace hx176_1 := (HB.out.cell (World.block_lt_of_cell? w _ hx176_1)).trans hx176_1; replace hx176_2 := (HB.out.cell (World.block_lt_of_cell? w _ hx176_2)).trans hx176_2; replace hx176_3 := (HB.out.cell (World.block_lt_of_cell? w _ hx176_3)).trans hx176_3; have HR176_2 := Aside0.mk hi176_2; have HC176_2 := Aside0.mk hl176_2; clear hi176_2 hl176_2; have HR176_3 := Aside0.mk hi176_3; have HC176_3 := Aside0.mk hl176_3; clear hi176_3 hl176_3; replace p176 := eq_true p176; replace q176 := eq_true q176; have p177 : 0 ≤ (x5_2 : Int) := of_decide_eq_true (by first | (with_reducible assumption) | assumption)
       have q177 : x5_2 < (l1_2.length : Int) := of_decide_eq_true (by first | (with_reducible assumption) | assumption)
       obtain ⟨ad177, A177_2, c177_2, A177_3, c177_3, e177, hx177_0, hx177_1, hx177_2, hx177_3, hl177_2, hi177_2, hl177_3, hi177_3⟩ := at_T25 HR1_2.out x5_2 p177 q177
       have hw177_3 := hx177_3
       have hw177_2 := hx177_2
       have hw177_1 := hx177_1
       have hw177_0 := hx177_0
       cases e177; replace hx177_0 := (HB.out.cell (World.block_lt_of_cell? w _ hx177_0)).trans hx177_0; replace hx177_1 := (HB.out.cell (World.block_lt_of_cell? w _ hx177_1)).trans hx177_1; replace hx177_2 := (HB.out.cell (World.block_lt_of_cell? w _ hx177_2)).trans hx177_2; replace hx177_3 := (HB.out.cell (World.block_lt_of_cell? w _ hx177_3)).trans hx177_3; have HR177_2 := Aside0.mk hi177_2; have HC177_2 := Aside0.mk hl177_2; clear hi177_2 hl177_2; have HR177_3 := Aside0.mk hi177_3; have HC177_3 := Aside0.mk hl177_3; clear hi177_3 hl177_3; replace p177 := eq_true p177; replace q177 := eq_true q177; refine start_ (n := 12) (S := fun w' => w'.cell? ⟨gb174, 0, none⟩ = some (.int .u8 a0_0) ∧ w'.cell? ⟨gb174, 1, none⟩ = some (.string a0_1) ∧ w'.cell? ⟨gb174, 2, none⟩ = some (.slice (some ad176) l0_2.length c0_2) ∧ w'.cell? ⟨gb174, 3, none⟩ = some (.slice A0_3 l0_3.length c0_3) ∧ w'.cell? ⟨gb175, 0, none⟩ = some (.int .u8 a1_0) ∧ w'.cell? ⟨gb175, 1, none⟩ = some (.string a1_1) ∧ w'.cell? ⟨gb175, 2, none⟩ = some (.slice (some ad177) l1_2.length c1_2) ∧ w'.cell? ⟨gb175, 3, none⟩ = some (.slice A1_3 l1_3.length c1_3) ∧ w'.cell? (ad176.add ((x5_2).toNat * 4)) = some (.int .u8 ((rd_T25 l0_2 x5_2).f0)) ∧ w'.cell? ⟨(ad176.add ((x5_2).toNat * 4)).block, (ad176.add ((x5_2).toNat * 4)).off + 1, none⟩ = some (.string ((rd_T25 l0_2 x5_2).f1)) ∧ w'.cell? ⟨(ad176.add ((x5_2).toNat * 4)).block, (ad176.add ((x5_2).toNat * 4)).off + 2, none⟩ = some (.slice A176_2 ((rd_T25 l0_2 x5_2).f2).length c176_2) ∧ w'.cell? ⟨(ad176.add ((x5_2).toNat * 4)).block, (ad176.add ((x5_2).toNat * 4)).off + 3, none⟩ = some (.slice A176_3 ((rd_T25 l0_2 x5_2).f3).length c176_3) ∧ w'.cell? (ad177.add ((x5_2).toNat * 4)) = some (.int .u8 ((rd_T25 l1_2 x5_2).f0)) ∧ w'.cell? ⟨(ad177.add ((x5_2).toNat * 4)).block, (ad177.add ((x5_2).toNat * 4)).off + 1, none⟩ = some (.string ((rd_T25 l1_2 x5_2).f1)) ∧ w'.cell? ⟨(ad177.add ((x5_2).toNat * 4)).block, (ad177.add ((x5_2).toNat * 4)).off + 2, none⟩ = some (.slice A177_2 ((rd_T25 l1_2 x5_2).f2).length c177_2) ∧ w'.cell? ⟨(ad177.add ((x5_2).toNat * 4)).block, (ad177.add ((x5_2).toNat * 4)).off + 3, none⟩ = some (.slice A177_3 ((rd_T25 l1_2 x5_2).f3).length c177_3)) (ds := []) (bz 12 0) (by kernel_rfl) rfl rfl ⟨(blk_cell BK174.out 0).trans rfl, (blk_cell BK174.out 1).trans rfl, (blk_cell BK174.out 2).trans rfl, (blk_cell BK174.out 3).trans rfl, (blk_cell BK175.out 0).trans rfl, (blk_cell BK175.out 1).trans rfl, (blk_cell BK175.out 2).trans rfl, (blk_cell BK175.out 3).trans rfl, ((HB.out.cell (World.block_lt_of_cell? w _ hw176_0)).trans hw176_0), ((HB.out.cell (World.block_lt_of_cell? w _ hw176_1)).trans hw176_1), ((HB.out.cell (World.block_lt_of_cell? w _ hw176_2)).trans hw176_2), ((HB.out.cell (World.block_lt_of_cell? w _ hw176_3)).trans hw176_3), ((HB.out.cell (World.block_lt_of_cell? w _ hw177_0)).trans hw177_0), ((HB.out.cell (World.block_lt_of_cell? w _ hw177_1)).trans hw177_1), ((HB.out.cell (World.block_lt_of_cell? w _ hw177_2)).trans hw177_2), ((HB.out.cell (World.block_lt_of_cell? w _ hw177_3)).trans hw177_3)⟩ (fun hHeld => ?_); refine with_tabW glossatorref03_Same.tab6 glossatorref03_Same.bits6 (fun HT_ HW_ => ?_)
       generalize wr.drew = w33 at BK174 BK175 HB HR176_2 HR176_3 HR177_2 HR177_3 hx176_0 hx176_1 hx176_2 hx176_3 hx177_0 hx177_1 hx177_2 hx177_3 hHeld ⊢
       refine pu 0 (some 44) (bz 12 1) HT_ rfl rfl ?_; refine pu 2 (some 46) (bz 12 5) HT_ rfl rfl ?_; refine pu 5 (some 49) (bz 12 37) HT_ rfl rfl ?_; refine pu 7 (some 51) (bz 12 165) HT_ rfl rfl ?_; refine tk 1 (some 45) (bz 12 167) HT_ HW_ rfl rfl hHeld ?_; refine pu 3 (some 47) (bz 12 175) HT_ rfl rfl ?_; refine tk 4 (some 48) (bz 12 191) HT_ HW_ rfl rfl hHeld ?_; refine tk 6 (some 50) (bz 12 255) HT_ HW_ rfl rfl hHeld ?_; refine pu 8 (some 52) (bz 12 511) HT_ rfl rfl ?_; refine tk 9 (some 53) (bz 12 1023) HT_ HW_ rfl rfl hHeld ?_; refine one_ (i := 10) (N := some 54) (bz 12 2047) rfl rfl (one_of HT_.out (by kernel_rfl)) (by decide) (fun K hK => ?_)
       refine goes_ Tryz.func11 (by kernel_rfl) rfl #[.agg #[.int .u8 ((rd_T25 l0_2 x5_2).f0), .string ((rd_T25 l0_2 x5_2).f1), .slice A176_2 ((rd_T25 l0_2 x5_2).f2).length c176_2, .slice A176_3 ((rd_T25 l0_2 x5_2).f3).length c176_3], .agg #[.int .u8 ((rd_T25 l1_2 x5_2).f0), .string ((rd_T25 l1_2 x5_2).f1), .slice A177_2 ((rd_T25 l1_2 x5_2).f2).length c177_2, .slice A177_3 ((rd_T25 l1_2 x5_2).f3).length c177_3]] (by rfl) rfl rfl (by (try simp only [List.map_toArray, List.map_cons, List.map_nil]); first | done | rfl | (simp only [List.length_drop, List.length_take]; rfl)) ?_
       with_reducible refine (ih k2 (by have := HJ2.out; have := HK2.out; omega) ((rd_T25 l0_2 x5_2).f0) ((rd_T25 l0_2 x5_2).f1) _ _ ((rd_T25 l0_2 x5_2).f2) _ _ ((rd_T25 l0_2 x5_2).f3) ((rd_T25 l1_2 x5_2).f0) ((rd_T25 l1_2 x5_2).f1) _ _ ((rd_T25 l1_2 x5_2).f2) _ _ ((rd_T25 l1_2 x5_2).f3) false _ ?side1 ?side2 ?side3 ?side4 ?side5 ?side6 ?side7 ?side8 A25.out).mono ?_
       (case side1 => repeat (first | exact (Kd.C_below HR176_2.out HB.out) | (with_reducible refine Kd.C_alloc ?_ _) | (with_reducible refine Kd.C_drewN ?_ _) | (with_reducible refine Kd.C_drew ?_)))
       (case side2 => exact HC176_2.out)
       (case side3 => repeat (first | exact (Kd.C_below HR176_3.out HB.out) | (with_reducible refine Kd.C_alloc ?_ _) | (with_reducible refine Kd.C_drewN ?_ _) | (with_reducible refine Kd.C_drew ?_)))
       (case side4 => exact HC176_3.out)
       (case side5 => repeat (first | exact (Kd.C_below HR177_2.out HB.out) | (with_reducible refine Kd.C_alloc ?_ _) | (with_reducible refine Kd.C_drewN ?_ _) | (with_reducible refine Kd.C_drew ?_)))
       (case side6 => exact HC177_2.out)
       (case side7 => repeat (first | exact (Kd.C_below HR177_3.out HB.out) | (with_reducible refine Kd.C_alloc ?_ _) | (with_reducible refine Kd.C_drewN ?_ _) | (with_reducible refine Kd.C_drew ?_)))
       (case side8 => exact HC177_3.out)
       rintro e w34 ⟨rfl, hb⟩
       refine ⟨_, rfl, ?_⟩
       have n0_ := Aside0.mk (blk_below (g := gb174) (o := .cells #[.int .u8 a0_0, .string a0_1, .slice (some ad176) l0_2.length c0_2, .slice A0_3 l0_3.length c0_3] 25 (0, 0)) (kl BK174) hb); have n1_ := Aside0.mk (blk_below (g := gb175) (o := .cells #[.int .u8 a1_0, .string a1_1, .slice (some ad177) l1_2.length c1_2, .slice A1_3 l1_3.length c1_3] 25 (0, 0)) (kl BK175) hb); have n2_ := Aside0.mk (below_step (by repeat (first | (with_reducible first | exact HB.out | apply below_alloc | apply pw_below_drewN | apply below_drew1 | refine below_set ?_ GE174.out | refine below_set ?_ GE175.out) | exact HB.out)) hb); clear BK174; clear BK175; clear HB; have BK174 := n0_; have BK175 := n1_; have HB := n2_; clear n0_ n1_ n2_; (try clear hb); (try clear hb2); (try clear hk); (try clear hi); refine hK.out _ _ ⟨(blk_cell BK174.out 0).trans rfl, (blk_cell BK174.out 1).trans rfl, (blk_cell BK174.out 2).trans rfl, (blk_cell BK174.out 3).trans rfl, (blk_cell BK175.out 0).trans rfl, (blk_cell BK175.out 1).trans rfl, (blk_cell BK175.out 2).trans rfl, (blk_cell BK175.out 3).trans rfl, ((HB.out.cell (World.block_lt_of_cell? w _ hw176_0)).trans hw176_0), ((HB.out.cell (World.block_lt_of_cell? w _ hw176_1)).trans hw176_1), ((HB.out.cell (World.block_lt_of_cell? w _ hw176_2)).trans hw176_2), ((HB.out.cell (World.block_lt_of_cell? w _ hw176_3)).trans hw176_3), ((HB.out.cell (World.block_lt_of_cell? w _ hw177_0)).trans hw177_0), ((HB.out.cell (World.block_lt_of_cell? w _ hw177_1)).trans hw177_1), ((HB.out.cell (World.block_lt_of_cell? w _ hw177_2)).trans hw177_2), ((HB.out.cell (World.block_lt_of_cell? w _ hw177_3)).trans hw177_3)⟩ (fun hHeld => ?_)
       clear hK K; refine norm_ (a' := ?_) ?_ ?_
       rotate_left
       ·show Act.put _ (some 54) _ = _
        simp only [Act.put, List.setIfInBounds_toArray, List.set_cons_zero, List.set_cons_succ, i64_w, i32_w]
        rfl
       refine pu 11 (some 55) (bz 12 4095) HT_ rfl rfl ?_; refine done_ (done_of HT_.out (by kernel_rfl)) ?_
       try go_wp2
       go_ret
       exact ⟨by first | rfl | (simp [errW_none, errW_some] <;> rfl) | (simp [*, errW_none, errW_some] <;> rfl), by repeat (first | (with_reducible first | exact HB.out | apply below_alloc | apply pw_below_drewN | apply below_drew1 | refine below_set ?_ GE174.out | refine below_set ?_ GE175.out) | exact HB.out)⟩
      subst c26; have H1 : (glossatorref03_Same.l0 k2 (wrap64 (x5_2 + 1)) a0_0 a0_1 l0_2 l0_3 a1_0 a1_1 l1_2 l1_3) = some r := by rw [if_pos rfl] at H; exact H
      clear H; have H := H1
      clear H1; have H' := Aside0.mk H; clear H; have hnb27 := NB174_175.out
      have hnc27 := NB175_174.out
      have hcz28_0 : wr.cell? ⟨gb174, 0, none⟩ = some (.int .u8 a0_0) := (blk_cell BK174.out 0).trans rfl
      have hcz28_1 : wr.cell? ⟨gb174, 1, none⟩ = some (.string a0_1) := (blk_cell BK174.out 1).trans rfl
      have hcz28_2 : wr.cell? ⟨gb174, 2, none⟩ = some (.slice A0_2 l0_2.length c0_2) := (blk_cell BK174.out 2).trans rfl
      have hcz28_3 : wr.cell? ⟨gb174, 3, none⟩ = some (.slice A0_3 l0_3.length c0_3) := (blk_cell BK174.out 3).trans rfl
      have hfz28_0 := blk_frozen BK174.out 0
      have hfz28_1 := blk_frozen BK174.out 1
      have hfz28_2 := blk_frozen BK174.out 2
      have hfz28_3 := blk_frozen BK174.out 3
      try go_wp2
      have n0_ := Aside0.mk (blk_drew BK174.out); have n1_ := Aside0.mk (blk_drew BK175.out); have n2_ := Aside0.mk (below_drew1 HB.out); clear BK174; clear BK175; clear HB; have BK174 := n0_; have BK175 := n1_; have HB := n2_; clear n0_ n1_ n2_; have p176 : 0 ≤ (x5_2 : Int) := of_decide_eq_true (by first | (with_reducible assumption) | assumption)
      have q176 : x5_2 < (l0_2.length : Int) := of_decide_eq_true (by first | (with_reducible assumption) | assumption)
      obtain ⟨ad176, A176_2, c176_2, A176_3, c176_3, e176, hx176_0, hx176_1, hx176_2, hx176_3, hl176_2, hi176_2, hl176_3, hi176_3⟩ := at_T25 HR0_2.out x5_2 p176 q176
      have hw176_3 := hx176_3
      have hw176_2 := hx176_2
      have hw176_1 := hx176_1
      have hw176_0 := hx176_0
      cases e176; replace hx176_0 := (HB.out.cell (World.block_lt_of_cell? w _ hx176_0)).trans hx176_0; replace hx176_1 := (HB.out.cell (World.block_lt_of_cell? w _ hx176_1)).trans hx176_1; replace hx176_2 := (HB.out.cell (World.block_lt_of_cell? w _ hx176_2)).trans hx176_2; replace hx176_3 := (HB.out.cell (World.block_lt_of_cell? w _ hx176_3)).trans hx176_3; have HR176_2 := Aside0.mk hi176_2; have HC176_2 := Aside0.mk hl176_2; clear hi176_2 hl176_2; have HR176_3 := Aside0.mk hi176_3; have HC176_3 := Aside0.mk hl176_3; clear hi176_3 hl176_3; replace p176 := eq_true p176; replace q176 := eq_true q176; have p177 : 0 ≤ (x5_2 : Int) := of_decide_eq_true (by first | (with_reducible assumption) | assumption)
      have q177 : x5_2 < (l1_2.length : Int) := of_decide_eq_true (by first | (with_reducible assumption) | assumption)
      obtain ⟨ad177, A177_2, c177_2, A177_3, c177_3, e177, hx177_0, hx177_1, hx177_2, hx177_3, hl177_2, hi177_2, hl177_3, hi177_3⟩ := at_T25 HR1_2.out x5_2 p177 q177
      have hw177_3 := hx177_3
      have hw177_2 := hx177_2
      have hw177_1 := hx177_1
      have hw177_0 := hx177_0
      cases e177; replace hx177_0 := (HB.out.cell (World.block_lt_of_cell? w _ hx177_0)).trans hx177_0; replace hx177_1 := (HB.out.cell (World.block_lt_of_cell? w _ hx177_1)).trans hx177_1; replace hx177_2 := (HB.out.cell (World.block_lt_of_cell? w _ hx177_2)).trans hx177_2; replace hx177_3 := (HB.out.cell (World.block_lt_of_cell? w _ hx177_3)).trans hx177_3; have HR177_2 := Aside0.mk hi177_2; have HC177_2 := Aside0.mk hl177_2; clear hi177_2 hl177_2; have HR177_3 := Aside0.mk hi177_3; have HC177_3 := Aside0.mk hl177_3; clear hi177_3 hl177_3; replace p177 := eq_true p177; replace q177 := eq_true q177; refine start_ (n := 12) (S := fun w' => w'.cell? ⟨gb174, 0, none⟩ = some (.int .u8 a0_0) ∧ w'.cell? ⟨gb174, 1, none⟩ = some (.string a0_1) ∧ w'.cell? ⟨gb174, 2, none⟩ = some (.slice (some ad176) l0_2.length c0_2) ∧ w'.cell? ⟨gb174, 3, none⟩ = some (.slice A0_3 l0_3.length c0_3) ∧ w'.cell? ⟨gb175, 0, none⟩ = some (.int .u8 a1_0) ∧ w'.cell? ⟨gb175, 1, none⟩ = some (.string a1_1) ∧ w'.cell? ⟨gb175, 2, none⟩ = some (.slice (some ad177) l1_2.length c1_2) ∧ w'.cell? ⟨gb175, 3, none⟩ = some (.slice A1_3 l1_3.length c1_3) ∧ w'.cell? (ad176.add ((x5_2).toNat * 4)) = some (.int .u8 ((rd_T25 l0_2 x5_2).f0)) ∧ w'.cell? ⟨(ad176.add ((x5_2).toNat * 4)).block, (ad176.add ((x5_2).toNat * 4)).off + 1, none⟩ = some (.string ((rd_T25 l0_2 x5_2).f1)) ∧ w'.cell? ⟨(ad176.add ((x5_2).toNat * 4)).block, (ad176.add ((x5_2).toNat * 4)).off + 2, none⟩ = some (.slice A176_2 ((rd_T25 l0_2 x5_2).f2).length c176_2) ∧ w'.cell? ⟨(ad176.add ((x5_2).toNat * 4)).block, (ad176.add ((x5_2).toNat * 4)).off + 3, none⟩ = some (.slice A176_3 ((rd_T25 l0_2 x5_2).f3).length c176_3) ∧ w'.cell? (ad177.add ((x5_2).toNat * 4)) = some (.int .u8 ((rd_T25 l1_2 x5_2).f0)) ∧ w'.cell? ⟨(ad177.add ((x5_2).toNat * 4)).block, (ad177.add ((x5_2).toNat * 4)).off + 1, none⟩ = some (.string ((rd_T25 l1_2 x5_2).f1)) ∧ w'.cell? ⟨(ad177.add ((x5_2).toNat * 4)).block, (ad177.add ((x5_2).toNat * 4)).off + 2, none⟩ = some (.slice A177_2 ((rd_T25 l1_2 x5_2).f2).length c177_2) ∧ w'.cell? ⟨(ad177.add ((x5_2).toNat * 4)).block, (ad177.add ((x5_2).toNat * 4)).off + 3, none⟩ = some (.slice A177_3 ((rd_T25 l1_2 x5_2).f3).length c177_3)) (ds := []) (bz 12 0) (by kernel_rfl) rfl rfl ⟨(blk_cell BK174.out 0).trans rfl, (blk_cell BK174.out 1).trans rfl, (blk_cell BK174.out 2).trans rfl, (blk_cell BK174.out 3).trans rfl, (blk_cell BK175.out 0).trans rfl, (blk_cell BK175.out 1).trans rfl, (blk_cell BK175.out 2).trans rfl, (blk_cell BK175.out 3).trans rfl, ((HB.out.cell (World.block_lt_of_cell? w _ hw176_0)).trans hw176_0), ((HB.out.cell (World.block_lt_of_cell? w _ hw176_1)).trans hw176_1), ((HB.out.cell (World.block_lt_of_cell? w _ hw176_2)).trans hw176_2), ((HB.out.cell (World.block_lt_of_cell? w _ hw176_3)).trans hw176_3), ((HB.out.cell (World.block_lt_of_cell? w _ hw177_0)).trans hw177_0), ((HB.out.cell (World.block_lt_of_cell? w _ hw177_1)).trans hw177_1), ((HB.out.cell (World.block_lt_of_cell? w _ hw177_2)).trans hw177_2), ((HB.out.cell (World.block_lt_of_cell? w _ hw177_3)).trans hw177_3)⟩ (fun hHeld => ?_); refine with_tabW glossatorref03_Same.tab6 glossatorref03_Same.bits6 (fun HT_ HW_ => ?_)
      generalize wr.drew = w29 at BK174 BK175 HB HR176_2 HR176_3 HR177_2 HR177_3 hx176_0 hx176_1 hx176_2 hx176_3 hx177_0 hx177_1 hx177_2 hx177_3 hHeld ⊢
      refine pu 0 (some 44) (bz 12 1) HT_ rfl rfl ?_; refine pu 2 (some 46) (bz 12 5) HT_ rfl rfl ?_; refine pu 5 (some 49) (bz 12 37) HT_ rfl rfl ?_; refine pu 7 (some 51) (bz 12 165) HT_ rfl rfl ?_; refine tk 1 (some 45) (bz 12 167) HT_ HW_ rfl rfl hHeld ?_; refine pu 3 (some 47) (bz 12 175) HT_ rfl rfl ?_; refine tk 4 (some 48) (bz 12 191) HT_ HW_ rfl rfl hHeld ?_; refine tk 6 (some 50) (bz 12 255) HT_ HW_ rfl rfl hHeld ?_; refine pu 8 (some 52) (bz 12 511) HT_ rfl rfl ?_; refine tk 9 (some 53) (bz 12 1023) HT_ HW_ rfl rfl hHeld ?_; refine one_ (i := 10) (N := some 54) (bz 12 2047) rfl rfl (one_of HT_.out (by kernel_rfl)) (by decide) (fun K hK => ?_)
      refine goes_ Tryz.func11 (by kernel_rfl) rfl #[.agg #[.int .u8 ((rd_T25 l0_2 x5_2).f0), .string ((rd_T25 l0_2 x5_2).f1), .slice A176_2 ((rd_T25 l0_2 x5_2).f2).length c176_2, .slice A176_3 ((rd_T25 l0_2 x5_2).f3).length c176_3], .agg #[.int .u8 ((rd_T25 l1_2 x5_2).f0), .string ((rd_T25 l1_2 x5_2).f1), .slice A177_2 ((rd_T25 l1_2 x5_2).f2).length c177_2, .slice A177_3 ((rd_T25 l1_2 x5_2).f3).length c177_3]] (by rfl) rfl rfl (by (try simp only [List.map_toArray, List.map_cons, List.map_nil]); first | done | rfl | (simp only [List.length_drop, List.length_take]; rfl)) ?_
      with_reducible refine (ih k2 (by have := HJ2.out; have := HK2.out; omega) ((rd_T25 l0_2 x5_2).f0) ((rd_T25 l0_2 x5_2).f1) _ _ ((rd_T25 l0_2 x5_2).f2) _ _ ((rd_T25 l0_2 x5_2).f3) ((rd_T25 l1_2 x5_2).f0) ((rd_T25 l1_2 x5_2).f1) _ _ ((rd_T25 l1_2 x5_2).f2) _ _ ((rd_T25 l1_2 x5_2).f3) true _ ?side1 ?side2 ?side3 ?side4 ?side5 ?side6 ?side7 ?side8 A25.out).mono ?_
      (case side1 => repeat (first | exact (Kd.C_below HR176_2.out HB.out) | (with_reducible refine Kd.C_alloc ?_ _) | (with_reducible refine Kd.C_drewN ?_ _) | (with_reducible refine Kd.C_drew ?_)))
      (case side2 => exact HC176_2.out)
      (case side3 => repeat (first | exact (Kd.C_below HR176_3.out HB.out) | (with_reducible refine Kd.C_alloc ?_ _) | (with_reducible refine Kd.C_drewN ?_ _) | (with_reducible refine Kd.C_drew ?_)))
      (case side4 => exact HC176_3.out)
      (case side5 => repeat (first | exact (Kd.C_below HR177_2.out HB.out) | (with_reducible refine Kd.C_alloc ?_ _) | (with_reducible refine Kd.C_drewN ?_ _) | (with_reducible refine Kd.C_drew ?_)))
      (case side6 => exact HC177_2.out)
      (case side7 => repeat (first | exact (Kd.C_below HR177_3.out HB.out) | (with_reducible refine Kd.C_alloc ?_ _) | (with_reducible refine Kd.C_drewN ?_ _) | (with_reducible refine Kd.C_drew ?_)))
      (case side8 => exact HC177_3.out)
      rintro e w30 ⟨rfl, hb⟩
      refine ⟨_, rfl, ?_⟩
      have n0_ := Aside0.mk (blk_below (g := gb174) (o := .cells #[.int .u8 a0_0, .string a0_1, .slice (some ad176) l0_2.length c0_2, .slice A0_3 l0_3.length c0_3] 25 (0, 0)) (kl BK174) hb); have n1_ := Aside0.mk (blk_below (g := gb175) (o := .cells #[.int .u8 a1_0, .string a1_1, .slice (some ad177) l1_2.length c1_2, .slice A1_3 l1_3.length c1_3] 25 (0, 0)) (kl BK175) hb); have n2_ := Aside0.mk (below_step (by repeat (first | (with_reducible first | exact HB.out | apply below_alloc | apply pw_below_drewN | apply below_drew1 | refine below_set ?_ GE174.out | refine below_set ?_ GE175.out) | exact HB.out)) hb); clear BK174; clear BK175; clear HB; have BK174 := n0_; have BK175 := n1_; have HB := n2_; clear n0_ n1_ n2_; (try clear hb); (try clear hb2); (try clear hk); (try clear hi); refine hK.out _ _ ⟨(blk_cell BK174.out 0).trans rfl, (blk_cell BK174.out 1).trans rfl, (blk_cell BK174.out 2).trans rfl, (blk_cell BK174.out 3).trans rfl, (blk_cell BK175.out 0).trans rfl, (blk_cell BK175.out 1).trans rfl, (blk_cell BK175.out 2).trans rfl, (blk_cell BK175.out 3).trans rfl, ((HB.out.cell (World.block_lt_of_cell? w _ hw176_0)).trans hw176_0), ((HB.out.cell (World.block_lt_of_cell? w _ hw176_1)).trans hw176_1), ((HB.out.cell (World.block_lt_of_cell? w _ hw176_2)).trans hw176_2), ((HB.out.cell (World.block_lt_of_cell? w _ hw176_3)).trans hw176_3), ((HB.out.cell (World.block_lt_of_cell? w _ hw177_0)).trans hw177_0), ((HB.out.cell (World.block_lt_of_cell? w _ hw177_1)).trans hw177_1), ((HB.out.cell (World.block_lt_of_cell? w _ hw177_2)).trans hw177_2), ((HB.out.cell (World.block_lt_of_cell? w _ hw177_3)).trans hw177_3)⟩ (fun hHeld => ?_)
      clear hK K; refine norm_ (a' := ?_) ?_ ?_
      rotate_left
      ·show Act.put _ (some 54) _ = _
       simp only [Act.put, List.setIfInBounds_toArray, List.set_cons_zero, List.set_cons_succ, i64_w, i32_w]
       rfl
      refine pu 11 (some 55) (bz 12 4095) HT_ rfl rfl ?_; refine done_ (done_of HT_.out (by kernel_rfl)) ?_
      try go_wp2
      go_roundg k2
      case measure => have := HJ2.out; have := HK2.out; omega
      case rel => exact ⟨(wrap64 (x5_2 + 1)), (by first | rfl | (simp; done) | (simp [*]; done) | (simp; exact xEmpty_ne _) | (simp [*]; exact xEmpty_ne _)), H', ⟨by have := HJ2.out; have := HK2.out; omega⟩, ⟨kl BK174⟩, ⟨kl BK175⟩, ⟨by repeat (first | (with_reducible first | exact HB.out | apply below_alloc | apply pw_below_drewN | apply below_drew1 | refine below_set ?_ GE174.out | refine below_set ?_ GE175.out) | exact HB.out)⟩⟩
end Go.Proofs.YtebmgmagdhedgaaGreatDoor.Q
