/- Words and walks of this claim, put together by this repo's wip/xlink.py out of Q4. -/
import Derived.Test.YtjmchpkmhidejaaDoorL5
namespace Go.Proofs.YtjmchpkmhidejaaDoor.Q
open Go.RowKit Go.Proofs.YtjmchpkmhidejaaDoorW.PrintWords Go.Proofs.YtjmchpkmhidejaaDoorW.PrintLast Go.Proofs.YtjmchpkmhidejaaDoorW.PrintMore
attribute [local go_sem] max2_int min2_int max_two min_two max_three min_three max_four min_four   
set_option linter.unusedVariables false
set_option linter.unusedSimpArgs false
mutual
def glossatorref03_Same.j0 : Nat → Bool → Int → ByteArray → List (S40) → List (S58) → Int → ByteArray → List (S40) → List (S58) → Option (Bool)
 | 0, _, _, _, _, _, _, _, _, _ => none
 | k + 1, x36, x170000, x170001, x170002, x170003, x171000, x171001, x171002, x171003 => if x36 = true then (some false) else (glossatorref03_Same.l0 k 0 x170000 x170001 x170002 x170003 x171000 x171001 x171002 x171003)
def glossatorref03_Same.l0 : Nat → Int → Int → ByteArray → List (S40) → List (S58) → Int → ByteArray → List (S40) → List (S58) → Option (Bool)
 | 0, _, _, _, _, _, _, _, _, _ => none
 | k + 1, x5, x170000, x170001, x170002, x170003, x171000, x171001, x171002, x171003 => if x5 < (x170002.length : Int) then (if 0 ≤ x5 then (if x5 < (x171002.length : Int) then ((glossatorref03_Same.f k ((rd_T40 x170002 x5).f0) ((rd_T40 x170002 x5).f1) ((rd_T40 x170002 x5).f2) ((rd_T40 x170002 x5).f3) ((rd_T40 x171002 x5).f0) ((rd_T40 x171002 x5).f1) ((rd_T40 x171002 x5).f2) ((rd_T40 x171002 x5).f3)).bind fun t173 => (if t173 = true then (glossatorref03_Same.l0 k (wrap64 (x5 + 1)) x170000 x170001 x170002 x170003 x171000 x171001 x171002 x171003) else (some false))) else (none)) else (none)) else (glossatorref03_Same.l1 k 0 x170000 x170001 x170002 x170003 x171000 x171001 x171002 x171003)
def glossatorref03_Same.l1 : Nat → Int → Int → ByteArray → List (S40) → List (S58) → Int → ByteArray → List (S40) → List (S58) → Option (Bool)
 | 0, _, _, _, _, _, _, _, _, _ => none
 | k + 1, x6, x170000, x170001, x170002, x170003, x171000, x171001, x171002, x171003 => if x6 < (x170003.length : Int) then (if 0 ≤ x6 then (if x6 < (x171003.length : Int) then (if ((rd_T58 x170003 x6).f0).toList = ((rd_T58 x171003 x6).f0).toList then ((glossatorref03_Same.f k ((rd_T58 x170003 x6).f1.f0) ((rd_T58 x170003 x6).f1.f1) ((rd_T58 x170003 x6).f1.f2) ((rd_T58 x170003 x6).f1.f3) ((rd_T58 x171003 x6).f1.f0) ((rd_T58 x171003 x6).f1.f1) ((rd_T58 x171003 x6).f1.f2) ((rd_T58 x171003 x6).f1.f3)).bind fun t178 => (if t178 = true then (glossatorref03_Same.l1 k (wrap64 (x6 + 1)) x170000 x170001 x170002 x170003 x171000 x171001 x171002 x171003) else (some false))) else (some false)) else (none)) else (none)) else (some true)
def glossatorref03_Same.f : Nat → Int → ByteArray → List (S40) → List (S58) → Int → ByteArray → List (S40) → List (S58) → Option (Bool)
 | 0, _, _, _, _, _, _, _, _ => none
 | k + 1, a0_0, a0_1, l0_2, l0_3, a1_0, a1_1, l1_2, l1_3 => if a0_0 = a1_0 then (if a0_1.toList = a1_1.toList then (if (l0_2.length : Int) = (l1_2.length : Int) then (glossatorref03_Same.j0 k ((l0_3.length : Int) != (l1_3.length : Int)) a0_0 a0_1 l0_2 l0_3 a1_0 a1_1 l1_2 l1_3) else (glossatorref03_Same.j0 k true a0_0 a0_1 l0_2 l0_3 a1_0 a1_1 l1_2 l1_3)) else (glossatorref03_Same.j0 k true a0_0 a0_1 l0_2 l0_3 a1_0 a1_1 l1_2 l1_3)) else (glossatorref03_Same.j0 k true a0_0 a0_1 l0_2 l0_3 a1_0 a1_1 l1_2 l1_3)
end
theorem glossatorref03_Same.mono_l : ∀ k, (∀ y0 y1 y2 y3 y4 y5 y6 y7, LeO (glossatorref03_Same.f k y0 y1 y2 y3 y4 y5 y6 y7) (glossatorref03_Same.f (k + 1) y0 y1 y2 y3 y4 y5 y6 y7)) ∧ (∀ y0 y1 y2 y3 y4 y5 y6 y7 y8, LeO (glossatorref03_Same.j0 k y0 y1 y2 y3 y4 y5 y6 y7 y8) (glossatorref03_Same.j0 (k + 1) y0 y1 y2 y3 y4 y5 y6 y7 y8)) ∧ (∀ y0 y1 y2 y3 y4 y5 y6 y7 y8, LeO (glossatorref03_Same.l0 k y0 y1 y2 y3 y4 y5 y6 y7 y8) (glossatorref03_Same.l0 (k + 1) y0 y1 y2 y3 y4 y5 y6 y7 y8)) ∧ (∀ y0 y1 y2 y3 y4 y5 y6 y7 y8, LeO (glossatorref03_Same.l1 k y0 y1 y2 y3 y4 y5 y6 y7 y8) (glossatorref03_Same.l1 (k + 1) y0 y1 y2 y3 y4 y5 y6 y7 y8))
 | 0 => ⟨fun _ _ _ _ _ _ _ _ r h => by simp [glossatorref03_Same.f] at h, fun _ _ _ _ _ _ _ _ _ r h => by simp [glossatorref03_Same.j0] at h, fun _ _ _ _ _ _ _ _ _ r h => by simp [glossatorref03_Same.l0] at h, fun _ _ _ _ _ _ _ _ _ r h => by simp [glossatorref03_Same.l1] at h⟩
 | k + 1 => by
  obtain ⟨ih0, ih1, ih2, ih3⟩ := glossatorref03_Same.mono_l k
  refine ⟨?_, ?_, ?_, ?_⟩
  ·intro y0 y1 y2 y3 y4 y5 y6 y7
   unfold glossatorref03_Same.f
   repeat' first
   | (with_reducible exact ih0 _ _ _ _ _ _ _ _)
   | (with_reducible exact ih1 _ _ _ _ _ _ _ _ _)
   | (with_reducible exact ih2 _ _ _ _ _ _ _ _ _)
   | (with_reducible exact ih3 _ _ _ _ _ _ _ _ _)
   | (with_reducible exact LeO.refl _)
   | (with_reducible exact LeO.none _)
   | (with_reducible refine LeO.ite ?_ ?_)
   | (with_reducible refine LeO.bind ?_ (fun _ => ?_))
   | exact ih0 _ _ _ _ _ _ _ _
   | exact ih1 _ _ _ _ _ _ _ _ _
   | exact ih2 _ _ _ _ _ _ _ _ _
   | exact ih3 _ _ _ _ _ _ _ _ _
   | exact LeO.none _
   | refine LeO.ite ?_ ?_
   | refine LeO.bind ?_ (fun _ => ?_)
  ·intro y0 y1 y2 y3 y4 y5 y6 y7 y8
   unfold glossatorref03_Same.j0
   repeat' first
   | (with_reducible exact ih0 _ _ _ _ _ _ _ _)
   | (with_reducible exact ih1 _ _ _ _ _ _ _ _ _)
   | (with_reducible exact ih2 _ _ _ _ _ _ _ _ _)
   | (with_reducible exact ih3 _ _ _ _ _ _ _ _ _)
   | (with_reducible exact LeO.refl _)
   | (with_reducible exact LeO.none _)
   | (with_reducible refine LeO.ite ?_ ?_)
   | (with_reducible refine LeO.bind ?_ (fun _ => ?_))
   | exact ih0 _ _ _ _ _ _ _ _
   | exact ih1 _ _ _ _ _ _ _ _ _
   | exact ih2 _ _ _ _ _ _ _ _ _
   | exact ih3 _ _ _ _ _ _ _ _ _
   | exact LeO.none _
   | refine LeO.ite ?_ ?_
   | refine LeO.bind ?_ (fun _ => ?_)
  ·intro y0 y1 y2 y3 y4 y5 y6 y7 y8
   unfold glossatorref03_Same.l0
   repeat' first
   | (with_reducible exact ih0 _ _ _ _ _ _ _ _)
   | (with_reducible exact ih1 _ _ _ _ _ _ _ _ _)
   | (with_reducible exact ih2 _ _ _ _ _ _ _ _ _)
   | (with_reducible exact ih3 _ _ _ _ _ _ _ _ _)
   | (with_reducible exact LeO.refl _)
   | (with_reducible exact LeO.none _)
   | (with_reducible refine LeO.ite ?_ ?_)
   | (with_reducible refine LeO.bind ?_ (fun _ => ?_))
   | exact ih0 _ _ _ _ _ _ _ _
   | exact ih1 _ _ _ _ _ _ _ _ _
   | exact ih2 _ _ _ _ _ _ _ _ _
   | exact ih3 _ _ _ _ _ _ _ _ _
   | exact LeO.none _
   | refine LeO.ite ?_ ?_
   | refine LeO.bind ?_ (fun _ => ?_)
  ·intro y0 y1 y2 y3 y4 y5 y6 y7 y8
   unfold glossatorref03_Same.l1
   repeat' first
   | (with_reducible exact ih0 _ _ _ _ _ _ _ _)
   | (with_reducible exact ih1 _ _ _ _ _ _ _ _ _)
   | (with_reducible exact ih2 _ _ _ _ _ _ _ _ _)
   | (with_reducible exact ih3 _ _ _ _ _ _ _ _ _)
   | (with_reducible exact LeO.refl _)
   | (with_reducible exact LeO.none _)
   | (with_reducible refine LeO.ite ?_ ?_)
   | (with_reducible refine LeO.bind ?_ (fun _ => ?_))
   | exact ih0 _ _ _ _ _ _ _ _
   | exact ih1 _ _ _ _ _ _ _ _ _
   | exact ih2 _ _ _ _ _ _ _ _ _
   | exact ih3 _ _ _ _ _ _ _ _ _
   | exact LeO.none _
   | refine LeO.ite ?_ ?_
   | refine LeO.bind ?_ (fun _ => ?_)
theorem glossatorref03_Same.mono : ∀ a0 a1 a2 a3 a4 a5 a6 a7 k, LeO (glossatorref03_Same.f k a0 a1 a2 a3 a4 a5 a6 a7) (glossatorref03_Same.f (k + 1) a0 a1 a2 a3 a4 a5 a6 a7) := by
 intro a0 a1 a2 a3 a4 a5 a6 a7 k
 obtain ⟨ih0, ih1, ih2, ih3⟩ := glossatorref03_Same.mono_l k
 exact ih0 a0 a1 a2 a3 a4 a5 a6 a7
def glossatorref03_Same.T6 : Bool × List (List Nat × List Nat) := (true, [([], []), ([0], [0]), ([], []), ([1, 2], [1, 2]), ([3], [3]), ([], []), ([5], [5]), ([], []), ([6, 7], [6, 7]), ([8], [8]), ([4, 9], [4, 9]), ([10], [10])])
def glossatorref03_Same.B6 : List Nat := [0, 1, 0, 7, 15, 0, 32, 0, 224, 480, 1023, 2047]
theorem glossatorref03_Same.tab6 : rtab .any (opsOf Tryd.f12 6) = glossatorref03_Same.T6 := by kernel_rfl
theorem glossatorref03_Same.bits6 : waitsOk glossatorref03_Same.T6.2 glossatorref03_Same.B6 = true := by kernel_rfl
def glossatorref03_Same.T11 : Bool × List (List Nat × List Nat) := (true, [([], []), ([0], [0]), ([], []), ([1, 2], [1, 2]), ([3], [3]), ([4], [4]), ([], []), ([6], [6]), ([], []), ([7, 8], [7, 8]), ([9], [9]), ([10], [10]), ([5, 11], [5, 11]), ([12], [12]), ([13], [13]), ([14, 13], [13, 14]), ([13], [13]), ([15, 16, 13], [13, 15, 16]), ([17, 13], [13, 17]), ([18, 13], [13, 18]), ([13], [13]), ([20, 13], [13, 20]), ([13], [13]), ([21, 22, 13], [13, 21, 22]), ([23, 13], [13, 23]), ([24, 13], [13, 24]), ([19, 25, 13, 13], [13, 19, 25]), ([26, 13], [13, 26]), ([13, 27], [13, 27])])
def glossatorref03_Same.B11 : List Nat := [0, 1, 0, 7, 15, 31, 0, 64, 0, 448, 960, 1984, 4095, 8191, 16383, 32767, 16383, 131071, 262143, 524287, 16383, 1064959, 16383, 7356415, 15745023, 32522239, 67108863, 134217727, 268435455]
theorem glossatorref03_Same.tab11 : rtab .any (opsOf Tryd.f12 11) = glossatorref03_Same.T11 := by kernel_rfl
theorem glossatorref03_Same.bits11 : waitsOk glossatorref03_Same.T11.2 glossatorref03_Same.B11 = true := by kernel_rfl
set_option maxHeartbeats 8000000 in
set_option maxRecDepth 100000 in
theorem glossatorref03_Same.calls (k : Nat) : ∀ (a0_0 : Int) (a0_1 : ByteArray) (A0_2 : Option Addr) (c0_2 : Nat) (l0_2 : List (S40)) (A0_3 : Option Addr) (c0_3 : Nat) (l0_3 : List (S58)) (a1_0 : Int) (a1_1 : ByteArray) (A1_2 : Option Addr) (c1_2 : Nat) (l1_2 : List (S40)) (A1_3 : Option Addr) (c1_3 : Nat) (l1_3 : List (S58)) (r : Bool) (w : World) (hr0_2 : Kd.C k40 w A0_2 l0_2.length l0_2) (hc0_2 : l0_2.length ≤ c0_2) (hr0_3 : Kd.C k58 w A0_3 l0_3.length l0_3) (hc0_3 : l0_3.length ≤ c0_3) (hr1_2 : Kd.C k40 w A1_2 l1_2.length l1_2) (hc1_2 : l1_2.length ≤ c1_2) (hr1_3 : Kd.C k58 w A1_3 l1_3.length l1_3) (hc1_3 : l1_3.length ≤ c1_3) (h : glossatorref03_Same.f k a0_0 a0_1 l0_2 l0_3 a1_0 a1_1 l1_2 l1_3 = some r),
  Calls Tryd.prog 12 #[.agg #[.int .u8 a0_0, .string a0_1, .slice A0_2 l0_2.length c0_2, .slice A0_3 l0_3.length c0_3], .agg #[.int .u8 a1_0, .string a1_1, .slice A1_2 l1_2.length c1_2, .slice A1_3 l1_3.length c1_3]] w fun e w' => e = .returned (.bool r) ∧ Below w.heap.size w w' := by
 induction k using Nat.strongRecOn with
 | _ k ih =>
 intro a0_0 a0_1 A0_2 c0_2 l0_2 A0_3 c0_3 l0_3 a1_0 a1_1 A1_2 c1_2 l1_2 A1_3 c1_3 l1_3 r w hr0_2 hc0_2 hr0_3 hc0_3 hr1_2 hc1_2 hr1_3 hc1_3 h
 cases k with
 | zero => exact absurd h (by simp [glossatorref03_Same.f])
 | succ k =>
 simp only [glossatorref03_Same.f] at h
 have hu40 := Tryd.underlying40
 have HR0_2 := Aside0.mk hr0_2; have HC0_2 := Aside0.mk hc0_2; clear hr0_2 hc0_2; have HR0_3 := Aside0.mk hr0_3; have HC0_3 := Aside0.mk hc0_3; clear hr0_3 hc0_3; have HR1_2 := Aside0.mk hr1_2; have HC1_2 := Aside0.mk hc1_2; clear hr1_2 hc1_2; have HR1_3 := Aside0.mk hr1_3; have HC1_3 := Aside0.mk hc1_3; clear hr1_3 hc1_3; have HB := Aside0.mk (Below.refl w.heap.size w)
 have H : (if a0_0 = a1_0 then (if a0_1.toList = a1_1.toList then (if (l0_2.length : Int) = (l1_2.length : Int) then (glossatorref03_Same.j0 k ((l0_3.length : Int) != (l1_3.length : Int)) a0_0 a0_1 l0_2 l0_3 a1_0 a1_1 l1_2 l1_3) else (glossatorref03_Same.j0 k true a0_0 a0_1 l0_2 l0_3 a1_0 a1_1 l1_2 l1_3)) else (glossatorref03_Same.j0 k true a0_0 a0_1 l0_2 l0_3 a1_0 a1_1 l1_2 l1_3)) else (glossatorref03_Same.j0 k true a0_0 a0_1 l0_2 l0_3 a1_0 a1_1 l1_2 l1_3)) = some r := h
 clear h; have HC3 := Aside0.mk H; clear H; go_enter Tryd.func12, Tryd.ntmps12
 go_upto_region 1 with (first | ((with_reducible refine gate_dst (N := 2) rfl ?_); (try (refine gate_guard (by rfl) ?_; dsimp only)); refine box_event ?hg (N := 2) ?hd (cs := #[.int .u8 a0_0, .string a0_1, .slice A0_2 l0_2.length c0_2, .slice A0_3 l0_3.length c0_3]) (t := 40) ?hr ?_; (case hd => rfl); (case hg => rfl); (case hr => first | (go_simp; done) | (go_simp; rfl)); intro gb169 hg w4 hbox hb; have n0_ := Aside0.mk (below_step (bl HB) hb); have n1_ := Aside0.mk (hbox); have n2_ := Aside0.mk ((by rw [hg]; exact (below_size (bl HB)) : w.heap.size ≤ gb169)); have n3_ := Aside0.mk ((by rw [hg]; exact (below_size (bl HB)) : w.heap.size ≤ gb169)); clear HB; have HB := n0_; have BK169 := n1_; have GW169 := n2_; have GE169 := n3_; clear n0_ n1_ n2_ n3_; clear hb hbox hg) | ((with_reducible refine gate_dst (N := 3) rfl ?_); (try (refine gate_guard (by rfl) ?_; dsimp only)); refine box_event ?hg (N := 3) ?hd (cs := #[.int .u8 a1_0, .string a1_1, .slice A1_2 l1_2.length c1_2, .slice A1_3 l1_3.length c1_3]) (t := 40) ?hr ?_; (case hd => rfl); (case hg => rfl); (case hr => first | (go_simp; done) | (go_simp; rfl)); intro gb170 hg w5 hbox hb; have n0_ := Aside0.mk (blk_below (g := gb169) (o := .cells #[.int .u8 a0_0, .string a0_1, .slice A0_2 l0_2.length c0_2, .slice A0_3 l0_3.length c0_3] 40 (0, 0)) (kl BK169) hb); have n1_ := Aside0.mk (below_step (by repeat (first | (with_reducible first | exact HB.out | apply below_alloc | apply pw_below_drewN | apply below_drew1 | refine below_set ?_ GE169.out) | exact HB.out)) hb); have n2_ := Aside0.mk (hbox); have n3_ := Aside0.mk ((by rw [hg]; exact (below_size (by repeat (first | (with_reducible first | exact HB.out | apply below_alloc | apply pw_below_drewN | apply below_drew1 | refine below_set ?_ GE169.out) | exact HB.out))) : w.heap.size ≤ gb170)); have n4_ := Aside0.mk ((by rw [hg]; exact (below_size (by repeat (first | (with_reducible first | exact HB.out | apply below_alloc | apply pw_below_drewN | apply below_drew1 | refine below_set ?_ GE169.out) | exact HB.out))) : w.heap.size ≤ gb170)); have n5_ := Aside0.mk ((by rw [hg]; exact Nat.ne_of_lt (blk_lt (g := gb169) (o := .cells #[.int .u8 a0_0, .string a0_1, .slice A0_2 l0_2.length c0_2, .slice A0_3 l0_3.length c0_3] 40 (0, 0)) (kl BK169)) : gb169 ≠ gb170)); have n6_ := Aside0.mk ((by rw [hg]; exact Nat.ne_of_gt (blk_lt (g := gb169) (o := .cells #[.int .u8 a0_0, .string a0_1, .slice A0_2 l0_2.length c0_2, .slice A0_3 l0_3.length c0_3] 40 (0, 0)) (kl BK169)) : gb170 ≠ gb169)); clear BK169; clear HB; have BK169 := n0_; have HB := n1_; have BK170 := n2_; have GW170 := n3_; have GE170 := n4_; have NB169_170 := n5_; have NB170_169 := n6_; clear n0_ n1_ n2_ n3_ n4_ n5_ n6_; clear hb hbox hg))
 (try simp only [Act.put, List.setIfInBounds_toArray, List.set_cons_zero, List.set_cons_succ])
 go_cut [36] (fun v36 wc => ∃ (kq : Nat) (x36_2 : Bool), v36 = .bool x36_2 ∧ Aside0 (glossatorref03_Same.j0 kq x36_2 a0_0 a0_1 l0_2 l0_3 a1_0 a1_1 l1_2 l1_3 = some r) ∧ Aside0 (kq ≤ k) ∧ Aside0 (wc.heap[gb169]? = some (.cells #[.int .u8 a0_0, .string a0_1, (.slice A0_2 l0_2.length c0_2), (.slice A0_3 l0_3.length c0_3)] 40 (0, 0))) ∧ Aside0 (wc.heap[gb170]? = some (.cells #[.int .u8 a1_0, .string a1_1, (.slice A1_2 l1_2.length c1_2), (.slice A1_3 l1_3.length c1_3)] 40 (0, 0))) ∧ Aside0 (Below w.heap.size w wc))
 case first =>
  have H := HC3.out
  clear HC3; by_cases c6 : a0_0 = a1_0
  rotate_left
  ·rw [if_neg c6] at H; have c6b0 : (a0_0 == a1_0) = false := beq_eq_false_iff_ne.mpr c6; have c6b1 : (a0_0 != a1_0) = true := bne_iff_ne.mpr c6; (first | rw [c6b0] | rw [c6b1] | (simp only [i64_w, i32_w]; rw [c6b0]) | skip)
   have H' := Aside0.mk H; clear H; have hnb18 := NB169_170.out
   have hnc18 := NB170_169.out
   have hcz19_0 : w5.cell? ⟨gb169, 0, none⟩ = some (.int .u8 a0_0) := (blk_cell BK169.out 0).trans rfl
   have hcz19_1 : w5.cell? ⟨gb169, 1, none⟩ = some (.string a0_1) := (blk_cell BK169.out 1).trans rfl
   have hcz19_2 : w5.cell? ⟨gb169, 2, none⟩ = some (.slice A0_2 l0_2.length c0_2) := (blk_cell BK169.out 2).trans rfl
   have hcz19_3 : w5.cell? ⟨gb169, 3, none⟩ = some (.slice A0_3 l0_3.length c0_3) := (blk_cell BK169.out 3).trans rfl
   have hfz19_0 := blk_frozen BK169.out 0
   have hfz19_1 := blk_frozen BK169.out 1
   have hfz19_2 := blk_frozen BK169.out 2
   have hfz19_3 := blk_frozen BK169.out 3
   have hcz20_0 : w5.cell? ⟨gb170, 0, none⟩ = some (.int .u8 a1_0) := (blk_cell BK170.out 0).trans rfl
   have hcz20_1 : w5.cell? ⟨gb170, 1, none⟩ = some (.string a1_1) := (blk_cell BK170.out 1).trans rfl
   have hcz20_2 : w5.cell? ⟨gb170, 2, none⟩ = some (.slice A1_2 l1_2.length c1_2) := (blk_cell BK170.out 2).trans rfl
   have hcz20_3 : w5.cell? ⟨gb170, 3, none⟩ = some (.slice A1_3 l1_3.length c1_3) := (blk_cell BK170.out 3).trans rfl
   have hfz20_0 := blk_frozen BK170.out 0
   have hfz20_1 := blk_frozen BK170.out 1
   have hfz20_2 := blk_frozen BK170.out 2
   have hfz20_3 := blk_frozen BK170.out 3
   go_wp2
   go_meet
   case rel => exact ⟨_, (true), (by first | rfl | (simp; done) | (simp [*]; done) | (simp; exact xEmpty_ne _) | (simp [*]; exact xEmpty_ne _)), H', ⟨by first | omega | exact Nat.le_refl _⟩, ⟨kl BK169⟩, ⟨kl BK170⟩, ⟨by repeat (first | (with_reducible first | exact HB.out | apply below_alloc | apply pw_below_drewN | apply below_drew1 | refine below_set ?_ GE169.out | refine below_set ?_ GE170.out) | exact HB.out)⟩⟩
  rw [if_pos c6] at H; have c6b0 : (a0_0 == a1_0) = true := beq_iff_eq.mpr c6
  have c6b1 : (a0_0 != a1_0) = false := bne_eq_false_iff_eq.mpr c6
  clear c6; (first | rw [c6b0] | rw [c6b1] | (simp only [i64_w, i32_w]; rw [c6b0]) | skip)
  by_cases c7 : a0_1.toList = a1_1.toList
  rotate_left
  ·rw [if_neg c7] at H; have c7b0 : (a0_1.toList == a1_1.toList) = false := beq_eq_false_iff_ne.mpr c7; have c7b1 : (a0_1.toList != a1_1.toList) = true := bne_iff_ne.mpr c7; have H' := Aside0.mk H; clear H; have hnb15 := NB169_170.out
   have hnc15 := NB170_169.out
   have hcz16_0 : w5.cell? ⟨gb169, 0, none⟩ = some (.int .u8 a0_0) := (blk_cell BK169.out 0).trans rfl
   have hcz16_1 : w5.cell? ⟨gb169, 1, none⟩ = some (.string a0_1) := (blk_cell BK169.out 1).trans rfl
   have hcz16_2 : w5.cell? ⟨gb169, 2, none⟩ = some (.slice A0_2 l0_2.length c0_2) := (blk_cell BK169.out 2).trans rfl
   have hcz16_3 : w5.cell? ⟨gb169, 3, none⟩ = some (.slice A0_3 l0_3.length c0_3) := (blk_cell BK169.out 3).trans rfl
   have hfz16_0 := blk_frozen BK169.out 0
   have hfz16_1 := blk_frozen BK169.out 1
   have hfz16_2 := blk_frozen BK169.out 2
   have hfz16_3 := blk_frozen BK169.out 3
   have hcz17_0 : w5.cell? ⟨gb170, 0, none⟩ = some (.int .u8 a1_0) := (blk_cell BK170.out 0).trans rfl
   have hcz17_1 : w5.cell? ⟨gb170, 1, none⟩ = some (.string a1_1) := (blk_cell BK170.out 1).trans rfl
   have hcz17_2 : w5.cell? ⟨gb170, 2, none⟩ = some (.slice A1_2 l1_2.length c1_2) := (blk_cell BK170.out 2).trans rfl
   have hcz17_3 : w5.cell? ⟨gb170, 3, none⟩ = some (.slice A1_3 l1_3.length c1_3) := (blk_cell BK170.out 3).trans rfl
   have hfz17_0 := blk_frozen BK170.out 0
   have hfz17_1 := blk_frozen BK170.out 1
   have hfz17_2 := blk_frozen BK170.out 2
   have hfz17_3 := blk_frozen BK170.out 3
   go_wp2
   go_meet
   case rel => exact ⟨_, (true), (by first | rfl | (simp; done) | (simp [*]; done) | (simp; exact xEmpty_ne _) | (simp [*]; exact xEmpty_ne _)), H', ⟨by first | omega | exact Nat.le_refl _⟩, ⟨kl BK169⟩, ⟨kl BK170⟩, ⟨by repeat (first | (with_reducible first | exact HB.out | apply below_alloc | apply pw_below_drewN | apply below_drew1 | refine below_set ?_ GE169.out | refine below_set ?_ GE170.out) | exact HB.out)⟩⟩
  rw [if_pos c7] at H; have c7b0 : (a0_1.toList == a1_1.toList) = true := beq_iff_eq.mpr c7
  have c7b1 : (a0_1.toList != a1_1.toList) = false := bne_eq_false_iff_eq.mpr c7
  clear c7; by_cases c8 : (l0_2.length : Int) = (l1_2.length : Int)
  rotate_left
  ·rw [if_neg c8] at H; have c8b0 : ((l0_2.length : Int) == (l1_2.length : Int)) = false := beq_eq_false_iff_ne.mpr c8; have c8b1 : ((l0_2.length : Int) != (l1_2.length : Int)) = true := bne_iff_ne.mpr c8; have c8b2 : (l0_2.length == l1_2.length) = false := by first | simpa using c8 | (simp at c8 ⊢; omega)
   have H' := Aside0.mk H; clear H; have hnb12 := NB169_170.out
   have hnc12 := NB170_169.out
   have hcz13_0 : w5.cell? ⟨gb169, 0, none⟩ = some (.int .u8 a0_0) := (blk_cell BK169.out 0).trans rfl
   have hcz13_1 : w5.cell? ⟨gb169, 1, none⟩ = some (.string a0_1) := (blk_cell BK169.out 1).trans rfl
   have hcz13_2 : w5.cell? ⟨gb169, 2, none⟩ = some (.slice A0_2 l0_2.length c0_2) := (blk_cell BK169.out 2).trans rfl
   have hcz13_3 : w5.cell? ⟨gb169, 3, none⟩ = some (.slice A0_3 l0_3.length c0_3) := (blk_cell BK169.out 3).trans rfl
   have hfz13_0 := blk_frozen BK169.out 0
   have hfz13_1 := blk_frozen BK169.out 1
   have hfz13_2 := blk_frozen BK169.out 2
   have hfz13_3 := blk_frozen BK169.out 3
   have hcz14_0 : w5.cell? ⟨gb170, 0, none⟩ = some (.int .u8 a1_0) := (blk_cell BK170.out 0).trans rfl
   have hcz14_1 : w5.cell? ⟨gb170, 1, none⟩ = some (.string a1_1) := (blk_cell BK170.out 1).trans rfl
   have hcz14_2 : w5.cell? ⟨gb170, 2, none⟩ = some (.slice A1_2 l1_2.length c1_2) := (blk_cell BK170.out 2).trans rfl
   have hcz14_3 : w5.cell? ⟨gb170, 3, none⟩ = some (.slice A1_3 l1_3.length c1_3) := (blk_cell BK170.out 3).trans rfl
   have hfz14_0 := blk_frozen BK170.out 0
   have hfz14_1 := blk_frozen BK170.out 1
   have hfz14_2 := blk_frozen BK170.out 2
   have hfz14_3 := blk_frozen BK170.out 3
   go_wp2
   go_meet
   case rel => exact ⟨_, (true), (by first | rfl | (simp; done) | (simp [*]; done) | (simp; exact xEmpty_ne _) | (simp [*]; exact xEmpty_ne _)), H', ⟨by first | omega | exact Nat.le_refl _⟩, ⟨kl BK169⟩, ⟨kl BK170⟩, ⟨by repeat (first | (with_reducible first | exact HB.out | apply below_alloc | apply pw_below_drewN | apply below_drew1 | refine below_set ?_ GE169.out | refine below_set ?_ GE170.out) | exact HB.out)⟩⟩
  rw [if_pos c8] at H; have c8b0 : ((l0_2.length : Int) == (l1_2.length : Int)) = true := beq_iff_eq.mpr c8
  have c8b1 : ((l0_2.length : Int) != (l1_2.length : Int)) = false := bne_eq_false_iff_eq.mpr c8
  have c8b2 : (l0_2.length == l1_2.length) = true := by first | simpa using c8 | (simp at c8 ⊢; omega)
  clear c8; have H' := Aside0.mk H; clear H; have hnb9 := NB169_170.out
  have hnc9 := NB170_169.out
  have hcz10_0 : w5.cell? ⟨gb169, 0, none⟩ = some (.int .u8 a0_0) := (blk_cell BK169.out 0).trans rfl
  have hcz10_1 : w5.cell? ⟨gb169, 1, none⟩ = some (.string a0_1) := (blk_cell BK169.out 1).trans rfl
  have hcz10_2 : w5.cell? ⟨gb169, 2, none⟩ = some (.slice A0_2 l0_2.length c0_2) := (blk_cell BK169.out 2).trans rfl
  have hcz10_3 : w5.cell? ⟨gb169, 3, none⟩ = some (.slice A0_3 l0_3.length c0_3) := (blk_cell BK169.out 3).trans rfl
  have hfz10_0 := blk_frozen BK169.out 0
  have hfz10_1 := blk_frozen BK169.out 1
  have hfz10_2 := blk_frozen BK169.out 2
  have hfz10_3 := blk_frozen BK169.out 3
  have hcz11_0 : w5.cell? ⟨gb170, 0, none⟩ = some (.int .u8 a1_0) := (blk_cell BK170.out 0).trans rfl
  have hcz11_1 : w5.cell? ⟨gb170, 1, none⟩ = some (.string a1_1) := (blk_cell BK170.out 1).trans rfl
  have hcz11_2 : w5.cell? ⟨gb170, 2, none⟩ = some (.slice A1_2 l1_2.length c1_2) := (blk_cell BK170.out 2).trans rfl
  have hcz11_3 : w5.cell? ⟨gb170, 3, none⟩ = some (.slice A1_3 l1_3.length c1_3) := (blk_cell BK170.out 3).trans rfl
  have hfz11_0 := blk_frozen BK170.out 0
  have hfz11_1 := blk_frozen BK170.out 1
  have hfz11_2 := blk_frozen BK170.out 2
  have hfz11_3 := blk_frozen BK170.out 3
  go_wp2
  go_meet
  case rel => exact ⟨_, (((l0_3.length : Int) != (l1_3.length : Int))), (by first | rfl | (simp; done) | (simp [*]; done) | (simp; exact xEmpty_ne _) | (simp [*]; exact xEmpty_ne _)), H', ⟨by first | omega | exact Nat.le_refl _⟩, ⟨kl BK169⟩, ⟨kl BK170⟩, ⟨by repeat (first | (with_reducible first | exact HB.out | apply below_alloc | apply pw_below_drewN | apply below_drew1 | refine below_set ?_ GE169.out | refine below_set ?_ GE170.out) | exact HB.out)⟩⟩
 case rest =>
  clear HC3; (try clear c1); (try clear p2); (try clear c6); (try clear c6b0); (try clear c6b1); (try clear c7); (try clear c7b0); (try clear c7b1); (try clear c8); (try clear c8b0); (try clear c8b1); (try clear c8b2); (try clear c9); (try clear c12); (try clear c15); (try clear c18); (try clear hcz10_0); (try clear hcz10_1); (try clear hcz10_2); (try clear hcz10_3); (try clear hcz11_0); (try clear hcz11_1); (try clear hcz11_2); (try clear hcz11_3); (try clear hcz13_0); (try clear hcz13_1); (try clear hcz13_2); (try clear hcz13_3); (try clear hcz14_0); (try clear hcz14_1); (try clear hcz14_2); (try clear hcz14_3); (try clear hcz16_0); (try clear hcz16_1); (try clear hcz16_2); (try clear hcz16_3); (try clear hcz17_0); (try clear hcz17_1); (try clear hcz17_2); (try clear hcz17_3); (try clear hcz19_0); (try clear hcz19_1); (try clear hcz19_2); (try clear hcz19_3); (try clear hcz20_0); (try clear hcz20_1); (try clear hcz20_2); (try clear hcz20_3); (try clear hfz10_0); (try clear hfz10_1); (try clear hfz10_2); (try clear hfz10_3); (try clear hfz11_0); (try clear hfz11_1); (try clear hfz11_2); (try clear hfz11_3); (try clear hfz13_0); (try clear hfz13_1); (try clear hfz13_2); (try clear hfz13_3); (try clear hfz14_0); (try clear hfz14_1); (try clear hfz14_2); (try clear hfz14_3); (try clear hfz16_0); (try clear hfz16_1); (try clear hfz16_2); (try clear hfz16_3); (try clear hfz17_0); (try clear hfz17_1); (try clear hfz17_2); (try clear hfz17_3); (try clear hfz19_0); (try clear hfz19_1); (try clear hfz19_2); (try clear hfz19_3); (try clear hfz20_0); (try clear hfz20_1); (try clear hfz20_2); (try clear hfz20_3); obtain ⟨kq, x36_2, rfl, HA, HJ2, BK169, BK170, HB⟩ := hcut
  cases kq with
  | zero => exact absurd HA.out (by simp [glossatorref03_Same.j0])
  | succ kj2 =>
   have H := HA.out
   clear HA; simp only [glossatorref03_Same.j0] at H
   by_cases c21 : x36_2 = true
   ·subst c21; have H1 : (some false) = some r := by rw [if_pos rfl] at H; exact H
    clear H; have H := H1
    clear H1; obtain rfl := Option.some.inj H; go_wp2
    go_ret
    exact ⟨by first | rfl | (simp [errW_none, errW_some] <;> rfl) | (simp [*, errW_none, errW_some] <;> rfl), by repeat (first | (with_reducible first | exact HB.out | apply below_alloc | apply pw_below_drewN | apply below_drew1 | refine below_set ?_ GE169.out | refine below_set ?_ GE170.out) | exact HB.out)⟩
   ·replace c21 := Bool.eq_false_iff.mpr c21
    subst c21; have H1 : (glossatorref03_Same.l0 kj2 0 a0_0 a0_1 l0_2 l0_3 a1_0 a1_1 l1_2 l1_3) = some r := by rw [if_neg (show ¬ (false = true) by decide)] at H; exact H
    clear H; have H := H1
    clear H1; have H' := Aside0.mk H; clear H; go_wp2
    go_loopg [5] kj2 (fun kq v5 w' => ∃ (x5_2 : Int), v5 = .int .i64 x5_2 ∧ Aside0 (glossatorref03_Same.l0 kq x5_2 a0_0 a0_1 l0_2 l0_3 a1_0 a1_1 l1_2 l1_3 = some r) ∧ Aside0 (kq ≤ kj2) ∧ Aside0 (w'.heap[gb169]? = some (.cells #[.int .u8 a0_0, .string a0_1, (.slice A0_2 l0_2.length c0_2), (.slice A0_3 l0_3.length c0_3)] 40 (0, 0))) ∧ Aside0 (w'.heap[gb170]? = some (.cells #[.int .u8 a1_0, .string a1_1, (.slice A1_2 l1_2.length c1_2), (.slice A1_3 l1_3.length c1_3)] 40 (0, 0))) ∧ Aside0 (Below w.heap.size w w'))
    case atStart => exact ⟨(0), (by first | rfl | (simp; done) | (simp [*]; done) | (simp; exact xEmpty_ne _) | (simp [*]; exact xEmpty_ne _)), H', ⟨Nat.le_refl _⟩, ⟨kl BK169⟩, ⟨kl BK170⟩, ⟨by repeat (first | (with_reducible first | exact HB.out | apply below_alloc | apply pw_below_drewN | apply below_drew1 | refine below_set ?_ GE169.out | refine below_set ?_ GE170.out) | exact HB.out)⟩⟩
    case round =>
     clear H'; (try clear c1); (try clear c2); (try clear p2); (try clear c6); (try clear c6b0); (try clear c6b1); (try clear c7); (try clear c7b0); (try clear c7b1); (try clear c8); (try clear c8b0); (try clear c8b1); (try clear c8b2); (try clear c9); (try clear c12); (try clear c15); (try clear c18); (try clear c21); (try clear hcz10_0); (try clear hcz10_1); (try clear hcz10_2); (try clear hcz10_3); (try clear hcz11_0); (try clear hcz11_1); (try clear hcz11_2); (try clear hcz11_3); (try clear hcz13_0); (try clear hcz13_1); (try clear hcz13_2); (try clear hcz13_3); (try clear hcz14_0); (try clear hcz14_1); (try clear hcz14_2); (try clear hcz14_3); (try clear hcz16_0); (try clear hcz16_1); (try clear hcz16_2); (try clear hcz16_3); (try clear hcz17_0); (try clear hcz17_1); (try clear hcz17_2); (try clear hcz17_3); (try clear hcz19_0); (try clear hcz19_1); (try clear hcz19_2); (try clear hcz19_3); (try clear hcz20_0); (try clear hcz20_1); (try clear hcz20_2); (try clear hcz20_3); (try clear hfz10_0); (try clear hfz10_1); (try clear hfz10_2); (try clear hfz10_3); (try clear hfz11_0); (try clear hfz11_1); (try clear hfz11_2); (try clear hfz11_3); (try clear hfz13_0); (try clear hfz13_1); (try clear hfz13_2); (try clear hfz13_3); (try clear hfz14_0); (try clear hfz14_1); (try clear hfz14_2); (try clear hfz14_3); (try clear hfz16_0); (try clear hfz16_1); (try clear hfz16_2); (try clear hfz16_3); (try clear hfz17_0); (try clear hfz17_1); (try clear hfz17_2); (try clear hfz17_3); (try clear hfz19_0); (try clear hfz19_1); (try clear hfz19_2); (try clear hfz19_3); (try clear hfz20_0); (try clear hfz20_1); (try clear hfz20_2); (try clear hfz20_3); (try clear p2); (try clear BK169); (try clear BK170); (try clear HB)
     obtain ⟨x5_2, rfl, HA, HK2, BK169, BK170, HB⟩ := hrel
     cases gk with
     | zero => exact absurd HA.out (by simp [glossatorref03_Same.l0])
     | succ k2 =>
      have H := HA.out
      clear HA; simp only [glossatorref03_Same.l0] at H
      by_cases c22 : x5_2 < (l0_2.length : Int)
      rotate_left
      ·rw [if_neg c22] at H; have c22b0 : decide (x5_2 < (l0_2.length : Int)) = false := decide_eq_false c22; clear c22; have H' := Aside0.mk H; clear H; have hnb35 := NB169_170.out
       have hnc35 := NB170_169.out
       have hcz36_0 : wr.cell? ⟨gb169, 0, none⟩ = some (.int .u8 a0_0) := (blk_cell BK169.out 0).trans rfl
       have hcz36_1 : wr.cell? ⟨gb169, 1, none⟩ = some (.string a0_1) := (blk_cell BK169.out 1).trans rfl
       have hcz36_2 : wr.cell? ⟨gb169, 2, none⟩ = some (.slice A0_2 l0_2.length c0_2) := (blk_cell BK169.out 2).trans rfl
       have hcz36_3 : wr.cell? ⟨gb169, 3, none⟩ = some (.slice A0_3 l0_3.length c0_3) := (blk_cell BK169.out 3).trans rfl
       have hfz36_0 := blk_frozen BK169.out 0
       have hfz36_1 := blk_frozen BK169.out 1
       have hfz36_2 := blk_frozen BK169.out 2
       have hfz36_3 := blk_frozen BK169.out 3
       go_wp2
       go_loopg [6] k2 (fun kq v6 w' => ∃ (x6_3 : Int), v6 = .int .i64 x6_3 ∧ Aside0 (glossatorref03_Same.l1 kq x6_3 a0_0 a0_1 l0_2 l0_3 a1_0 a1_1 l1_2 l1_3 = some r) ∧ Aside0 (kq ≤ k2) ∧ Aside0 (w'.heap[gb169]? = some (.cells #[.int .u8 a0_0, .string a0_1, (.slice A0_2 l0_2.length c0_2), (.slice A0_3 l0_3.length c0_3)] 40 (0, 0))) ∧ Aside0 (w'.heap[gb170]? = some (.cells #[.int .u8 a1_0, .string a1_1, (.slice A1_2 l1_2.length c1_2), (.slice A1_3 l1_3.length c1_3)] 40 (0, 0))) ∧ Aside0 (Below w.heap.size w w'))
       case atStart => exact ⟨(0), (by first | rfl | (simp; done) | (simp [*]; done) | (simp; exact xEmpty_ne _) | (simp [*]; exact xEmpty_ne _)), H', ⟨Nat.le_refl _⟩, ⟨kl BK169⟩, ⟨kl BK170⟩, ⟨by repeat (first | (with_reducible first | exact HB.out | apply below_alloc | apply pw_below_drewN | apply below_drew1 | refine below_set ?_ GE169.out | refine below_set ?_ GE170.out) | exact HB.out)⟩⟩
       case round =>
        clear H'; (try clear c1); (try clear p1); (try clear q1); (try clear hx1); (try clear c2); (try clear p2); (try clear c3); (try clear c6); (try clear c6b0); (try clear c6b1); (try clear p6); (try clear c7); (try clear c7b0); (try clear c7b1); (try clear c8); (try clear c8b0); (try clear c8b1); (try clear c8b2); (try clear c9); (try clear c12); (try clear c15); (try clear c17); (try clear p17); (try clear q17); (try clear hx17); (try clear c18); (try clear c21); (try clear c22); (try clear c22b0); (try clear c23); (try clear c23b0); (try clear c24); (try clear c24b0); (try clear c26); (try clear c27); (try clear c31); (try clear c35); (try clear hcz10_0); (try clear hcz10_1); (try clear hcz10_2); (try clear hcz10_3); (try clear hcz11_0); (try clear hcz11_1); (try clear hcz11_2); (try clear hcz11_3); (try clear hcz13_0); (try clear hcz13_1); (try clear hcz13_2); (try clear hcz13_3); (try clear hcz14_0); (try clear hcz14_1); (try clear hcz14_2); (try clear hcz14_3); (try clear hcz16_0); (try clear hcz16_1); (try clear hcz16_2); (try clear hcz16_3); (try clear hcz17_0); (try clear hcz17_1); (try clear hcz17_2); (try clear hcz17_3); (try clear hcz19_0); (try clear hcz19_1); (try clear hcz19_2); (try clear hcz19_3); (try clear hcz20_0); (try clear hcz20_1); (try clear hcz20_2); (try clear hcz20_3); (try clear hcz28_0); (try clear hcz28_1); (try clear hcz28_2); (try clear hcz28_3); (try clear hcz32_0); (try clear hcz32_1); (try clear hcz32_2); (try clear hcz32_3); (try clear hcz36_0); (try clear hcz36_1); (try clear hcz36_2); (try clear hcz36_3); (try clear hfz10_0); (try clear hfz10_1); (try clear hfz10_2); (try clear hfz10_3); (try clear hfz11_0); (try clear hfz11_1); (try clear hfz11_2); (try clear hfz11_3); (try clear hfz13_0); (try clear hfz13_1); (try clear hfz13_2); (try clear hfz13_3); (try clear hfz14_0); (try clear hfz14_1); (try clear hfz14_2); (try clear hfz14_3); (try clear hfz16_0); (try clear hfz16_1); (try clear hfz16_2); (try clear hfz16_3); (try clear hfz17_0); (try clear hfz17_1); (try clear hfz17_2); (try clear hfz17_3); (try clear hfz19_0); (try clear hfz19_1); (try clear hfz19_2); (try clear hfz19_3); (try clear hfz20_0); (try clear hfz20_1); (try clear hfz20_2); (try clear hfz20_3); (try clear hfz28_0); (try clear hfz28_1); (try clear hfz28_2); (try clear hfz28_3); (try clear hfz32_0); (try clear hfz32_1); (try clear hfz32_2); (try clear hfz32_3); (try clear hfz36_0); (try clear hfz36_1); (try clear hfz36_2); (try clear hfz36_3); (try clear hx171_0); (try clear hx171_1); (try clear hx171_2); (try clear hx171_3); (try clear hx172_0); (try clear hx172_1); (try clear hx172_2); (try clear hx172_3); (try clear p171); (try clear p172); (try clear p2); (try clear q171); (try clear q172); (try clear BK169); (try clear BK170); (try clear HB)
        obtain ⟨x6_3, rfl, HA, HK3, BK169, BK170, HB⟩ := hrel
        cases gk with
        | zero => exact absurd HA.out (by simp [glossatorref03_Same.l1])
        | succ k3 =>
         have H := HA.out
         clear HA; simp only [glossatorref03_Same.l1] at H
         by_cases c37 : x6_3 < (l0_3.length : Int)
         rotate_left
         ·rw [if_neg c37] at H; have c37b0 : decide (x6_3 < (l0_3.length : Int)) = false := decide_eq_false c37; clear c37; obtain rfl := Option.some.inj H; have hnb54 := NB169_170.out
          have hnc54 := NB170_169.out
          have hcz55_0 : wr.cell? ⟨gb169, 0, none⟩ = some (.int .u8 a0_0) := (blk_cell BK169.out 0).trans rfl
          have hcz55_1 : wr.cell? ⟨gb169, 1, none⟩ = some (.string a0_1) := (blk_cell BK169.out 1).trans rfl
          have hcz55_2 : wr.cell? ⟨gb169, 2, none⟩ = some (.slice A0_2 l0_2.length c0_2) := (blk_cell BK169.out 2).trans rfl
          have hcz55_3 : wr.cell? ⟨gb169, 3, none⟩ = some (.slice A0_3 l0_3.length c0_3) := (blk_cell BK169.out 3).trans rfl
          have hfz55_0 := blk_frozen BK169.out 0
          have hfz55_1 := blk_frozen BK169.out 1
          have hfz55_2 := blk_frozen BK169.out 2
          have hfz55_3 := blk_frozen BK169.out 3
          go_wp2
          go_ret
          exact ⟨by first | rfl | (simp [errW_none, errW_some] <;> rfl) | (simp [*, errW_none, errW_some] <;> rfl), by repeat (first | (with_reducible first | exact HB.out | apply below_alloc | apply pw_below_drewN | apply below_drew1 | refine below_set ?_ GE169.out | refine below_set ?_ GE170.out) | exact HB.out)⟩
         rw [if_pos c37] at H; have c37b0 : decide (x6_3 < (l0_3.length : Int)) = true := decide_eq_true c37; clear c37; by_cases c38 : 0 ≤ x6_3
         rotate_left
         ·rw [if_neg c38] at H; exact absurd H (by simp)
         rw [if_pos c38] at H; have c38b0 : decide (0 ≤ x6_3) = true := decide_eq_true c38; clear c38; by_cases c39 : x6_3 < (l1_3.length : Int)
         rotate_left
         ·rw [if_neg c39] at H; exact absurd H (by simp)
         rw [if_pos c39] at H; have c39b0 : decide (x6_3 < (l1_3.length : Int)) = true := decide_eq_true c39; clear c39; by_cases c40 : ((rd_T58 l0_3 x6_3).f0).toList = ((rd_T58 l1_3 x6_3).f0).toList
         rotate_left
         ·rw [if_neg c40] at H; have c40b0 : (((rd_T58 l0_3 x6_3).f0).toList == ((rd_T58 l1_3 x6_3).f0).toList) = false := beq_eq_false_iff_ne.mpr c40; have c40b1 : (((rd_T58 l0_3 x6_3).f0).toList != ((rd_T58 l1_3 x6_3).f0).toList) = true := bne_iff_ne.mpr c40; obtain rfl := Option.some.inj H; have hnb51 := NB169_170.out
          have hnc51 := NB170_169.out
          have hcz52_0 : wr.cell? ⟨gb169, 0, none⟩ = some (.int .u8 a0_0) := (blk_cell BK169.out 0).trans rfl
          have hcz52_1 : wr.cell? ⟨gb169, 1, none⟩ = some (.string a0_1) := (blk_cell BK169.out 1).trans rfl
          have hcz52_2 : wr.cell? ⟨gb169, 2, none⟩ = some (.slice A0_2 l0_2.length c0_2) := (blk_cell BK169.out 2).trans rfl
          have hcz52_3 : wr.cell? ⟨gb169, 3, none⟩ = some (.slice A0_3 l0_3.length c0_3) := (blk_cell BK169.out 3).trans rfl
          have hfz52_0 := blk_frozen BK169.out 0
          have hfz52_1 := blk_frozen BK169.out 1
          have hfz52_2 := blk_frozen BK169.out 2
          have hfz52_3 := blk_frozen BK169.out 3
          try go_wp2
          have n0_ := Aside0.mk (blk_drew BK169.out); have n1_ := Aside0.mk (blk_drew BK170.out); have n2_ := Aside0.mk (below_drew1 HB.out); clear BK169; clear BK170; clear HB; have BK169 := n0_; have BK170 := n1_; have HB := n2_; clear n0_ n1_ n2_; have p174 : 0 ≤ (x6_3 : Int) := of_decide_eq_true (by first | (with_reducible assumption) | assumption)
          have q174 : x6_3 < (l0_3.length : Int) := of_decide_eq_true (by first | (with_reducible assumption) | assumption)
          obtain ⟨ad174, A174_3, c174_3, A174_4, c174_4, e174, hx174_0, hx174_1, hx174_2, hx174_3, hx174_4, hl174_3, hi174_3, hl174_4, hi174_4⟩ := at_T58 HR0_3.out x6_3 p174 q174
          have hw174_4 := hx174_4
          have hw174_3 := hx174_3
          have hw174_2 := hx174_2
          have hw174_1 := hx174_1
          have hw174_0 := hx174_0
          cases e174; replace hx174_0 := (HB.out.cell (World.block_lt_of_cell? w _ hx174_0)).trans hx174_0; replace hx174_1 := (HB.out.cell (World.block_lt_of_cell? w _ hx174_1)).trans hx174_1; replace hx174_2 := (HB.out.cell (World.block_lt_of_cell? w _ hx174_2)).trans hx174_2; replace hx174_3 := (HB.out.cell (World.block_lt_of_cell? w _ hx174_3)).trans hx174_3; replace hx174_4 := (HB.out.cell (World.block_lt_of_cell? w _ hx174_4)).trans hx174_4; have HR174_3 := Aside0.mk hi174_3; have HC174_3 := Aside0.mk hl174_3; clear hi174_3 hl174_3; have HR174_4 := Aside0.mk hi174_4; have HC174_4 := Aside0.mk hl174_4; clear hi174_4 hl174_4; replace p174 := eq_true p174; replace q174 := eq_true q174; have p175 : 0 ≤ (x6_3 : Int) := of_decide_eq_true (by first | (with_reducible assumption) | assumption)
          have q175 : x6_3 < (l1_3.length : Int) := of_decide_eq_true (by first | (with_reducible assumption) | assumption)
          obtain ⟨ad175, A175_3, c175_3, A175_4, c175_4, e175, hx175_0, hx175_1, hx175_2, hx175_3, hx175_4, hl175_3, hi175_3, hl175_4, hi175_4⟩ := at_T58 HR1_3.out x6_3 p175 q175
          have hw175_4 := hx175_4
          have hw175_3 := hx175_3
          have hw175_2 := hx175_2
          have hw175_1 := hx175_1
          have hw175_0 := hx175_0
          cases e175; replace hx175_0 := (HB.out.cell (World.block_lt_of_cell? w _ hx175_0)).trans hx175_0; replace hx175_1 := (HB.out.cell (World.block_lt_of_cell? w _ hx175_1)).trans hx175_1; replace hx175_2 := (HB.out.cell (World.block_lt_of_cell? w _ hx175_2)).trans hx175_2; replace hx175_3 := (HB.out.cell (World.block_lt_of_cell? w _ hx175_3)).trans hx175_3; replace hx175_4 := (HB.out.cell (World.block_lt_of_cell? w _ hx175_4)).trans hx175_4; have HR175_3 := Aside0.mk hi175_3; have HC175_3 := Aside0.mk hl175_3; clear hi175_3 hl175_3; have HR175_4 := Aside0.mk hi175_4; have HC175_4 := Aside0.mk hl175_4; clear hi175_4 hl175_4; replace p175 := eq_true p175; replace q175 := eq_true q175; refine start_ (n := 29) (S := fun w' => w'.cell? ⟨gb169, 0, none⟩ = some (.int .u8 a0_0) ∧ w'.cell? ⟨gb169, 1, none⟩ = some (.string a0_1) ∧ w'.cell? ⟨gb169, 2, none⟩ = some (.slice A0_2 l0_2.length c0_2) ∧ w'.cell? ⟨gb169, 3, none⟩ = some (.slice (some ad174) l0_3.length c0_3) ∧ w'.cell? ⟨gb170, 0, none⟩ = some (.int .u8 a1_0) ∧ w'.cell? ⟨gb170, 1, none⟩ = some (.string a1_1) ∧ w'.cell? ⟨gb170, 2, none⟩ = some (.slice A1_2 l1_2.length c1_2) ∧ w'.cell? ⟨gb170, 3, none⟩ = some (.slice (some ad175) l1_3.length c1_3) ∧ w'.cell? (ad174.add ((x6_3).toNat * 5)) = some (.string ((rd_T58 l0_3 x6_3).f0)) ∧ w'.cell? ⟨(ad174.add ((x6_3).toNat * 5)).block, (ad174.add ((x6_3).toNat * 5)).off + 1, none⟩ = some (.int .u8 ((rd_T58 l0_3 x6_3).f1.f0)) ∧ w'.cell? ⟨(ad174.add ((x6_3).toNat * 5)).block, (ad174.add ((x6_3).toNat * 5)).off + 2, none⟩ = some (.string ((rd_T58 l0_3 x6_3).f1.f1)) ∧ w'.cell? ⟨(ad174.add ((x6_3).toNat * 5)).block, (ad174.add ((x6_3).toNat * 5)).off + 3, none⟩ = some (.slice A174_3 ((rd_T58 l0_3 x6_3).f1.f2).length c174_3) ∧ w'.cell? ⟨(ad174.add ((x6_3).toNat * 5)).block, (ad174.add ((x6_3).toNat * 5)).off + 4, none⟩ = some (.slice A174_4 ((rd_T58 l0_3 x6_3).f1.f3).length c174_4) ∧ w'.cell? (ad175.add ((x6_3).toNat * 5)) = some (.string ((rd_T58 l1_3 x6_3).f0)) ∧ w'.cell? ⟨(ad175.add ((x6_3).toNat * 5)).block, (ad175.add ((x6_3).toNat * 5)).off + 1, none⟩ = some (.int .u8 ((rd_T58 l1_3 x6_3).f1.f0)) ∧ w'.cell? ⟨(ad175.add ((x6_3).toNat * 5)).block, (ad175.add ((x6_3).toNat * 5)).off + 2, none⟩ = some (.string ((rd_T58 l1_3 x6_3).f1.f1)) ∧ w'.cell? ⟨(ad175.add ((x6_3).toNat * 5)).block, (ad175.add ((x6_3).toNat * 5)).off + 3, none⟩ = some (.slice A175_3 ((rd_T58 l1_3 x6_3).f1.f2).length c175_3) ∧ w'.cell? ⟨(ad175.add ((x6_3).toNat * 5)).block, (ad175.add ((x6_3).toNat * 5)).off + 4, none⟩ = some (.slice A175_4 ((rd_T58 l1_3 x6_3).f1.f3).length c175_4)) (ds := []) (bz 29 0) (by kernel_rfl) rfl rfl ⟨(blk_cell BK169.out 0).trans rfl, (blk_cell BK169.out 1).trans rfl, (blk_cell BK169.out 2).trans rfl, (blk_cell BK169.out 3).trans rfl, (blk_cell BK170.out 0).trans rfl, (blk_cell BK170.out 1).trans rfl, (blk_cell BK170.out 2).trans rfl, (blk_cell BK170.out 3).trans rfl, ((HB.out.cell (World.block_lt_of_cell? w _ hw174_0)).trans hw174_0), ((HB.out.cell (World.block_lt_of_cell? w _ hw174_1)).trans hw174_1), ((HB.out.cell (World.block_lt_of_cell? w _ hw174_2)).trans hw174_2), ((HB.out.cell (World.block_lt_of_cell? w _ hw174_3)).trans hw174_3), ((HB.out.cell (World.block_lt_of_cell? w _ hw174_4)).trans hw174_4), ((HB.out.cell (World.block_lt_of_cell? w _ hw175_0)).trans hw175_0), ((HB.out.cell (World.block_lt_of_cell? w _ hw175_1)).trans hw175_1), ((HB.out.cell (World.block_lt_of_cell? w _ hw175_2)).trans hw175_2), ((HB.out.cell (World.block_lt_of_cell? w _ hw175_3)).trans hw175_3), ((HB.out.cell (World.block_lt_of_cell? w _ hw175_4)).trans hw175_4)⟩ (fun hHeld => ?_); refine with_tabW glossatorref03_Same.tab11 glossatorref03_Same.bits11 (fun HT_ HW_ => ?_)
          generalize wr.drew = w53 at BK169 BK170 HB HR174_3 HR174_4 HR175_3 HR175_4 hx174_0 hx174_1 hx174_2 hx174_3 hx174_4 hx175_0 hx175_1 hx175_2 hx175_3 hx175_4 hHeld ⊢
          refine pu 0 (some 63) (bz 29 1) HT_ rfl rfl ?_; refine pu 2 (some 65) (bz 29 5) HT_ rfl rfl ?_; refine pu 6 (some 69) (bz 29 69) HT_ rfl rfl ?_; refine pu 8 (some 71) (bz 29 325) HT_ rfl rfl ?_; refine tk 1 (some 64) (bz 29 327) HT_ HW_ rfl rfl hHeld ?_; refine pu 3 (some 66) (bz 29 335) HT_ rfl rfl ?_; refine pu 4 (some 67) (bz 29 351) HT_ rfl rfl ?_; refine tk 5 (some 68) (bz 29 383) HT_ HW_ rfl rfl hHeld ?_; refine tk 7 (some 70) (bz 29 511) HT_ HW_ rfl rfl hHeld ?_; refine pu 9 (some 72) (bz 29 1023) HT_ rfl rfl ?_; refine pu 10 (some 73) (bz 29 2047) HT_ rfl rfl ?_; refine tk 11 (some 74) (bz 29 4095) HT_ HW_ rfl rfl hHeld ?_; refine pu 12 (some 75) (bz 29 8191) HT_ rfl rfl ?_; refine pu 13 (some 76) (bz 29 16383) HT_ rfl rfl ?_; refine pf 14 (some 77) (bz 29 32767) HT_ rfl rfl ?_; refine pf 15 (some 78) (bz 29 65535) HT_ rfl rfl ?_; refine pf 16 (some 79) (bz 29 131071) HT_ rfl rfl ?_; refine pf 17 (some 80) (bz 29 262143) HT_ rfl rfl ?_; refine pf 18 (some 81) (bz 29 524287) HT_ rfl rfl ?_; refine pf 19 (some 82) (bz 29 1048575) HT_ rfl rfl ?_; refine pf 20 (some 83) (bz 29 2097151) HT_ rfl rfl ?_; refine pf 21 (some 84) (bz 29 4194303) HT_ rfl rfl ?_; refine pf 22 (some 85) (bz 29 8388607) HT_ rfl rfl ?_; refine pf 23 (some 86) (bz 29 16777215) HT_ rfl rfl ?_; refine pf 24 (some 87) (bz 29 33554431) HT_ rfl rfl ?_; refine pf 25 (some 88) (bz 29 67108863) HT_ rfl rfl ?_; refine pf 26 (some 89) (bz 29 134217727) HT_ rfl rfl ?_; refine pf 27 (some 90) (bz 29 268435455) HT_ rfl rfl ?_; refine pu 28 (some 91) (bz 29 536870911) HT_ rfl rfl ?_; refine done_ (done_of HT_.out (by kernel_rfl)) ?_
          try go_wp2
          go_ret
          exact ⟨by first | rfl | (simp [errW_none, errW_some] <;> rfl) | (simp [*, errW_none, errW_some] <;> rfl), by repeat (first | (with_reducible first | exact HB.out | apply below_alloc | apply pw_below_drewN | apply below_drew1 | refine below_set ?_ GE169.out | refine below_set ?_ GE170.out) | exact HB.out)⟩
         rw [if_pos c40] at H; have c40b0 : (((rd_T58 l0_3 x6_3).f0).toList == ((rd_T58 l1_3 x6_3).f0).toList) = true := beq_iff_eq.mpr c40
         have c40b1 : (((rd_T58 l0_3 x6_3).f0).toList != ((rd_T58 l1_3 x6_3).f0).toList) = false := bne_eq_false_iff_eq.mpr c40
         clear c40; replace H := Option.bind_eq_some_iff.mp H
         obtain ⟨t178, A410, H⟩ := H
         replace H : (if t178 = true then (glossatorref03_Same.l1 k3 (wrap64 (x6_3 + 1)) a0_0 a0_1 l0_2 l0_3 a1_0 a1_1 l1_2 l1_3) else (some false)) = some r := H
         have A41 := Aside0.mk A410; clear A410; by_cases c42 : t178 = true
         rotate_left
         ·replace c42 := Bool.eq_false_iff.mpr c42
          subst c42; have H1 : (some false) = some r := by rw [if_neg (show ¬ (false = true) by decide)] at H; exact H
          clear H; have H := H1
          clear H1; obtain rfl := Option.some.inj H; have hnb47 := NB169_170.out
          have hnc47 := NB170_169.out
          have hcz48_0 : wr.cell? ⟨gb169, 0, none⟩ = some (.int .u8 a0_0) := (blk_cell BK169.out 0).trans rfl
          have hcz48_1 : wr.cell? ⟨gb169, 1, none⟩ = some (.string a0_1) := (blk_cell BK169.out 1).trans rfl
          have hcz48_2 : wr.cell? ⟨gb169, 2, none⟩ = some (.slice A0_2 l0_2.length c0_2) := (blk_cell BK169.out 2).trans rfl
          have hcz48_3 : wr.cell? ⟨gb169, 3, none⟩ = some (.slice A0_3 l0_3.length c0_3) := (blk_cell BK169.out 3).trans rfl
          have hfz48_0 := blk_frozen BK169.out 0
          have hfz48_1 := blk_frozen BK169.out 1
          have hfz48_2 := blk_frozen BK169.out 2
          have hfz48_3 := blk_frozen BK169.out 3
          try go_wp2
          have n0_ := Aside0.mk (blk_drew BK169.out); have n1_ := Aside0.mk (blk_drew BK170.out); have n2_ := Aside0.mk (below_drew1 HB.out); clear BK169; clear BK170; clear HB; have BK169 := n0_; have BK170 := n1_; have HB := n2_; clear n0_ n1_ n2_; have p174 : 0 ≤ (x6_3 : Int) := of_decide_eq_true (by first | (with_reducible assumption) | assumption)
          have q174 : x6_3 < (l0_3.length : Int) := of_decide_eq_true (by first | (with_reducible assumption) | assumption)
          obtain ⟨ad174, A174_3, c174_3, A174_4, c174_4, e174, hx174_0, hx174_1, hx174_2, hx174_3, hx174_4, hl174_3, hi174_3, hl174_4, hi174_4⟩ := at_T58 HR0_3.out x6_3 p174 q174
          have hw174_4 := hx174_4
          have hw174_3 := hx174_3
          have hw174_2 := hx174_2
          have hw174_1 := hx174_1
          have hw174_0 := hx174_0
          cases e174; replace hx174_0 := (HB.out.cell (World.block_lt_of_cell? w _ hx174_0)).trans hx174_0; replace hx174_1 := (HB.out.cell (World.block_lt_of_cell? w _ hx174_1)).trans hx174_1; replace hx174_2 := (HB.out.cell (World.block_lt_of_cell? w _ hx174_2)).trans hx174_2; replace hx174_3 := (HB.out.cell (World.block_lt_of_cell? w _ hx174_3)).trans hx174_3; replace hx174_4 := (HB.out.cell (World.block_lt_of_cell? w _ hx174_4)).trans hx174_4; have HR174_3 := Aside0.mk hi174_3; have HC174_3 := Aside0.mk hl174_3; clear hi174_3 hl174_3; have HR174_4 := Aside0.mk hi174_4; have HC174_4 := Aside0.mk hl174_4; clear hi174_4 hl174_4; replace p174 := eq_true p174; replace q174 := eq_true q174; have p175 : 0 ≤ (x6_3 : Int) := of_decide_eq_true (by first | (with_reducible assumption) | assumption)
          have q175 : x6_3 < (l1_3.length : Int) := of_decide_eq_true (by first | (with_reducible assumption) | assumption)
          obtain ⟨ad175, A175_3, c175_3, A175_4, c175_4, e175, hx175_0, hx175_1, hx175_2, hx175_3, hx175_4, hl175_3, hi175_3, hl175_4, hi175_4⟩ := at_T58 HR1_3.out x6_3 p175 q175
          have hw175_4 := hx175_4
          have hw175_3 := hx175_3
          have hw175_2 := hx175_2
          have hw175_1 := hx175_1
          have hw175_0 := hx175_0
          cases e175; replace hx175_0 := (HB.out.cell (World.block_lt_of_cell? w _ hx175_0)).trans hx175_0; replace hx175_1 := (HB.out.cell (World.block_lt_of_cell? w _ hx175_1)).trans hx175_1; replace hx175_2 := (HB.out.cell (World.block_lt_of_cell? w _ hx175_2)).trans hx175_2; replace hx175_3 := (HB.out.cell (World.block_lt_of_cell? w _ hx175_3)).trans hx175_3; replace hx175_4 := (HB.out.cell (World.block_lt_of_cell? w _ hx175_4)).trans hx175_4; have HR175_3 := Aside0.mk hi175_3; have HC175_3 := Aside0.mk hl175_3; clear hi175_3 hl175_3; have HR175_4 := Aside0.mk hi175_4; have HC175_4 := Aside0.mk hl175_4; clear hi175_4 hl175_4; replace p175 := eq_true p175; replace q175 := eq_true q175; have p176 : 0 ≤ (x6_3 : Int) := of_decide_eq_true (by first | (with_reducible assumption) | assumption)
          have q176 : x6_3 < (l0_3.length : Int) := of_decide_eq_true (by first | (with_reducible assumption) | assumption)
          obtain ⟨ad176, A176_3, c176_3, A176_4, c176_4, e176, hx176_0, hx176_1, hx176_2, hx176_3, hx176_4, hl176_3, hi176_3, hl176_4, hi176_4⟩ := at_T58 HR0_3.out x6_3 p176 q176
          have hw176_4 := hx176_4
          have hw176_3 := hx176_3
          have hw176_2 := hx176_2
          have hw176_1 := hx176_1
          have hw176_0 := hx176_0
          obtain rfl : ad174 = ad176 := (by injection e176)
          replace hx176_0 := (HB.out.cell (World.block_lt_of_cell? w _ hx176_0)).trans hx176_0; replace hx176_1 := (HB.out.cell (World.block_lt_of_cell? w _ hx176_1)).trans hx176_1; replace hx176_2 := (HB.out.cell (World.block_lt_of_cell? w _ hx176_2)).trans hx176_2; replace hx176_3 := (HB.out.cell (World.block_lt_of_cell? w _ hx176_3)).trans hx176_3; replace hx176_4 := (HB.out.cell (World.block_lt_of_cell? w _ hx176_4)).trans hx176_4; have HR176_3 := Aside0.mk hi176_3; have HC176_3 := Aside0.mk hl176_3; clear hi176_3 hl176_3; have HR176_4 := Aside0.mk hi176_4; have HC176_4 := Aside0.mk hl176_4; clear hi176_4 hl176_4; replace p176 := eq_true p176; replace q176 := eq_true q176; have ea_ := Option.some.inj (hx174_3.symm.trans hx176_3)
          injection ea_ with ea_ en_ ec_
          subst ea_; subst ec_; clear en_; have ea_ := Option.some.inj (hx174_4.symm.trans hx176_4)
          injection ea_ with ea_ en_ ec_
          subst ea_; subst ec_; clear en_; have p177 : 0 ≤ (x6_3 : Int) := of_decide_eq_true (by first | (with_reducible assumption) | assumption)
          have q177 : x6_3 < (l1_3.length : Int) := of_decide_eq_true (by first | (with_reducible assumption) | assumption)
          obtain ⟨ad177, A177_3, c177_3, A177_4, c177_4, e177, hx177_0, hx177_1, hx177_2, hx177_3, hx177_4, hl177_3, hi177_3, hl177_4, hi177_4⟩ := at_T58 HR1_3.out x6_3 p177 q177
          have hw177_4 := hx177_4
          have hw177_3 := hx177_3
          have hw177_2 := hx177_2
          have hw177_1 := hx177_1
          have hw177_0 := hx177_0
          obtain rfl : ad175 = ad177 := (by injection e177)
          replace hx177_0 := (HB.out.cell (World.block_lt_of_cell? w _ hx177_0)).trans hx177_0; replace hx177_1 := (HB.out.cell (World.block_lt_of_cell? w _ hx177_1)).trans hx177_1; replace hx177_2 := (HB.out.cell (World.block_lt_of_cell? w _ hx177_2)).trans hx177_2; replace hx177_3 := (HB.out.cell (World.block_lt_of_cell? w _ hx177_3)).trans hx177_3; replace hx177_4 := (HB.out.cell (World.block_lt_of_cell? w _ hx177_4)).trans hx177_4; have HR177_3 := Aside0.mk hi177_3; have HC177_3 := Aside0.mk hl177_3; clear hi177_3 hl177_3; have HR177_4 := Aside0.mk hi177_4; have HC177_4 := Aside0.mk hl177_4; clear hi177_4 hl177_4; replace p177 := eq_true p177; replace q177 := eq_true q177; have ea_ := Option.some.inj (hx175_3.symm.trans hx177_3)
          injection ea_ with ea_ en_ ec_
          subst ea_; subst ec_; clear en_; have ea_ := Option.some.inj (hx175_4.symm.trans hx177_4)
          injection ea_ with ea_ en_ ec_
          subst ea_; subst ec_; clear en_; refine start_ (n := 29) (S := fun w' => w'.cell? ⟨gb169, 0, none⟩ = some (.int .u8 a0_0) ∧ w'.cell? ⟨gb169, 1, none⟩ = some (.string a0_1) ∧ w'.cell? ⟨gb169, 2, none⟩ = some (.slice A0_2 l0_2.length c0_2) ∧ w'.cell? ⟨gb169, 3, none⟩ = some (.slice (some ad174) l0_3.length c0_3) ∧ w'.cell? ⟨gb170, 0, none⟩ = some (.int .u8 a1_0) ∧ w'.cell? ⟨gb170, 1, none⟩ = some (.string a1_1) ∧ w'.cell? ⟨gb170, 2, none⟩ = some (.slice A1_2 l1_2.length c1_2) ∧ w'.cell? ⟨gb170, 3, none⟩ = some (.slice (some ad175) l1_3.length c1_3) ∧ w'.cell? (ad174.add ((x6_3).toNat * 5)) = some (.string ((rd_T58 l0_3 x6_3).f0)) ∧ w'.cell? ⟨(ad174.add ((x6_3).toNat * 5)).block, (ad174.add ((x6_3).toNat * 5)).off + 1, none⟩ = some (.int .u8 ((rd_T58 l0_3 x6_3).f1.f0)) ∧ w'.cell? ⟨(ad174.add ((x6_3).toNat * 5)).block, (ad174.add ((x6_3).toNat * 5)).off + 2, none⟩ = some (.string ((rd_T58 l0_3 x6_3).f1.f1)) ∧ w'.cell? ⟨(ad174.add ((x6_3).toNat * 5)).block, (ad174.add ((x6_3).toNat * 5)).off + 3, none⟩ = some (.slice A174_3 ((rd_T58 l0_3 x6_3).f1.f2).length c174_3) ∧ w'.cell? ⟨(ad174.add ((x6_3).toNat * 5)).block, (ad174.add ((x6_3).toNat * 5)).off + 4, none⟩ = some (.slice A174_4 ((rd_T58 l0_3 x6_3).f1.f3).length c174_4) ∧ w'.cell? (ad175.add ((x6_3).toNat * 5)) = some (.string ((rd_T58 l1_3 x6_3).f0)) ∧ w'.cell? ⟨(ad175.add ((x6_3).toNat * 5)).block, (ad175.add ((x6_3).toNat * 5)).off + 1, none⟩ = some (.int .u8 ((rd_T58 l1_3 x6_3).f1.f0)) ∧ w'.cell? ⟨(ad175.add ((x6_3).toNat * 5)).block, (ad175.add ((x6_3).toNat * 5)).off + 2, none⟩ = some (.string ((rd_T58 l1_3 x6_3).f1.f1)) ∧ w'.cell? ⟨(ad175.add ((x6_3).toNat * 5)).block, (ad175.add ((x6_3).toNat * 5)).off + 3, none⟩ = some (.slice A175_3 ((rd_T58 l1_3 x6_3).f1.f2).length c175_3) ∧ w'.cell? ⟨(ad175.add ((x6_3).toNat * 5)).block, (ad175.add ((x6_3).toNat * 5)).off + 4, none⟩ = some (.slice A175_4 ((rd_T58 l1_3 x6_3).f1.f3).length c175_4) ∧ w'.cell? (ad174.add ((x6_3).toNat * 5)) = some (.string ((rd_T58 l0_3 x6_3).f0)) ∧ w'.cell? ⟨(ad174.add ((x6_3).toNat * 5)).block, (ad174.add ((x6_3).toNat * 5)).off + 1, none⟩ = some (.int .u8 ((rd_T58 l0_3 x6_3).f1.f0)) ∧ w'.cell? ⟨(ad174.add ((x6_3).toNat * 5)).block, (ad174.add ((x6_3).toNat * 5)).off + 2, none⟩ = some (.string ((rd_T58 l0_3 x6_3).f1.f1)) ∧ w'.cell? ⟨(ad174.add ((x6_3).toNat * 5)).block, (ad174.add ((x6_3).toNat * 5)).off + 3, none⟩ = some (.slice A174_3 ((rd_T58 l0_3 x6_3).f1.f2).length c174_3) ∧ w'.cell? ⟨(ad174.add ((x6_3).toNat * 5)).block, (ad174.add ((x6_3).toNat * 5)).off + 4, none⟩ = some (.slice A174_4 ((rd_T58 l0_3 x6_3).f1.f3).length c174_4) ∧ w'.cell? (ad175.add ((x6_3).toNat * 5)) = some (.string ((rd_T58 l1_3 x6_3).f0)) ∧ w'.cell? ⟨(ad175.add ((x6_3).toNat * 5)).block, (ad175.add ((x6_3).toNat * 5)).off + 1, none⟩ = some (.int .u8 ((rd_T58 l1_3 x6_3).f1.f0)) ∧ w'.cell? ⟨(ad175.add ((x6_3).toNat * 5)).block, (ad175.add ((x6_3).toNat * 5)).off + 2, none⟩ = some (.string ((rd_T58 l1_3 x6_3).f1.f1)) ∧ w'.cell? ⟨(ad175.add ((x6_3).toNat * 5)).block, (ad175.add ((x6_3).toNat * 5)).off + 3, none⟩ = some (.slice A175_3 ((rd_T58 l1_3 x6_3).f1.f2).length c175_3) ∧ w'.cell? ⟨(ad175.add ((x6_3).toNat * 5)).block, (ad175.add ((x6_3).toNat * 5)).off + 4, none⟩ = some (.slice A175_4 ((rd_T58 l1_3 x6_3).f1.f3).length c175_4)) (ds := []) (bz 29 0) (by kernel_rfl) rfl rfl ⟨(blk_cell BK169.out 0).trans rfl, (blk_cell BK169.out 1).trans rfl, (blk_cell BK169.out 2).trans rfl, (blk_cell BK169.out 3).trans rfl, (blk_cell BK170.out 0).trans rfl, (blk_cell BK170.out 1).trans rfl, (blk_cell BK170.out 2).trans rfl, (blk_cell BK170.out 3).trans rfl, ((HB.out.cell (World.block_lt_of_cell? w _ hw174_0)).trans hw174_0), ((HB.out.cell (World.block_lt_of_cell? w _ hw174_1)).trans hw174_1), ((HB.out.cell (World.block_lt_of_cell? w _ hw174_2)).trans hw174_2), ((HB.out.cell (World.block_lt_of_cell? w _ hw174_3)).trans hw174_3), ((HB.out.cell (World.block_lt_of_cell? w _ hw174_4)).trans hw174_4), ((HB.out.cell (World.block_lt_of_cell? w _ hw175_0)).trans hw175_0), ((HB.out.cell (World.block_lt_of_cell? w _ hw175_1)).trans hw175_1), ((HB.out.cell (World.block_lt_of_cell? w _ hw175_2)).trans hw175_2), ((HB.out.cell (World.block_lt_of_cell? w _ hw175_3)).trans hw175_3), ((HB.out.cell (World.block_lt_of_cell? w _ hw175_4)).trans hw175_4), ((HB.out.cell (World.block_lt_of_cell? w _ hw176_0)).trans hw176_0), ((HB.out.cell (World.block_lt_of_cell? w _ hw176_1)).trans hw176_1), ((HB.out.cell (World.block_lt_of_cell? w _ hw176_2)).trans hw176_2), ((HB.out.cell (World.block_lt_of_cell? w _ hw176_3)).trans hw176_3), ((HB.out.cell (World.block_lt_of_cell? w _ hw176_4)).trans hw176_4), ((HB.out.cell (World.block_lt_of_cell? w _ hw177_0)).trans hw177_0), ((HB.out.cell (World.block_lt_of_cell? w _ hw177_1)).trans hw177_1), ((HB.out.cell (World.block_lt_of_cell? w _ hw177_2)).trans hw177_2), ((HB.out.cell (World.block_lt_of_cell? w _ hw177_3)).trans hw177_3), ((HB.out.cell (World.block_lt_of_cell? w _ hw177_4)).trans hw177_4)⟩ (fun hHeld => ?_); refine with_tabW glossatorref03_Same.tab11 glossatorref03_Same.bits11 (fun HT_ HW_ => ?_)
          generalize wr.drew = w49 at BK169 BK170 HB HR174_3 HR174_4 HR175_3 HR175_4 HR176_3 HR176_4 HR177_3 HR177_4 hx174_0 hx174_1 hx174_2 hx174_3 hx174_4 hx175_0 hx175_1 hx175_2 hx175_3 hx175_4 hx176_0 hx176_1 hx176_2 hx176_3 hx176_4 hx177_0 hx177_1 hx177_2 hx177_3 hx177_4 hHeld ⊢
          refine pu 0 (some 63) (bz 29 1) HT_ rfl rfl ?_; refine pu 2 (some 65) (bz 29 5) HT_ rfl rfl ?_; refine pu 6 (some 69) (bz 29 69) HT_ rfl rfl ?_; refine pu 8 (some 71) (bz 29 325) HT_ rfl rfl ?_; refine tk 1 (some 64) (bz 29 327) HT_ HW_ rfl rfl hHeld ?_; refine pu 3 (some 66) (bz 29 335) HT_ rfl rfl ?_; refine pu 4 (some 67) (bz 29 351) HT_ rfl rfl ?_; refine tk 5 (some 68) (bz 29 383) HT_ HW_ rfl rfl hHeld ?_; refine tk 7 (some 70) (bz 29 511) HT_ HW_ rfl rfl hHeld ?_; refine pu 9 (some 72) (bz 29 1023) HT_ rfl rfl ?_; refine pu 10 (some 73) (bz 29 2047) HT_ rfl rfl ?_; refine tk 11 (some 74) (bz 29 4095) HT_ HW_ rfl rfl hHeld ?_; refine pu 12 (some 75) (bz 29 8191) HT_ rfl rfl ?_; refine pu 13 (some 76) (bz 29 16383) HT_ rfl rfl ?_; refine pu 14 (some 77) (bz 29 32767) HT_ rfl rfl ?_; refine pu 16 (some 79) (bz 29 98303) HT_ rfl rfl ?_; refine pu 20 (some 83) (bz 29 1146879) HT_ rfl rfl ?_; refine pu 22 (some 85) (bz 29 5341183) HT_ rfl rfl ?_; refine tk 15 (some 78) (bz 29 5373951) HT_ HW_ rfl rfl hHeld ?_; refine pu 17 (some 80) (bz 29 5505023) HT_ rfl rfl ?_; refine pu 18 (some 81) (bz 29 5767167) HT_ rfl rfl ?_; refine tk 19 (some 82) (bz 29 6291455) HT_ HW_ rfl rfl hHeld ?_; refine tk 21 (some 84) (bz 29 8388607) HT_ HW_ rfl rfl hHeld ?_; refine pu 23 (some 86) (bz 29 16777215) HT_ rfl rfl ?_; refine pu 24 (some 87) (bz 29 33554431) HT_ rfl rfl ?_; refine tk 25 (some 88) (bz 29 67108863) HT_ HW_ rfl rfl hHeld ?_; refine one_ (i := 26) (N := some 89) (bz 29 134217727) rfl rfl (one_of HT_.out (by kernel_rfl)) (by decide) (fun K hK => ?_)
          refine goes_ Tryd.func12 (by kernel_rfl) rfl #[.agg #[.int .u8 ((rd_T58 l0_3 x6_3).f1.f0), .string ((rd_T58 l0_3 x6_3).f1.f1), .slice A174_3 ((rd_T58 l0_3 x6_3).f1.f2).length c174_3, .slice A174_4 ((rd_T58 l0_3 x6_3).f1.f3).length c174_4], .agg #[.int .u8 ((rd_T58 l1_3 x6_3).f1.f0), .string ((rd_T58 l1_3 x6_3).f1.f1), .slice A175_3 ((rd_T58 l1_3 x6_3).f1.f2).length c175_3, .slice A175_4 ((rd_T58 l1_3 x6_3).f1.f3).length c175_4]] (by rfl) rfl rfl (by (try simp only [List.map_toArray, List.map_cons, List.map_nil]); first | done | rfl | (simp only [List.length_drop, List.length_take]; rfl)) ?_
          with_reducible refine (ih k3 (by have := HJ2.out; have := HK2.out; have := HK3.out; omega) ((rd_T58 l0_3 x6_3).f1.f0) ((rd_T58 l0_3 x6_3).f1.f1) _ _ ((rd_T58 l0_3 x6_3).f1.f2) _ _ ((rd_T58 l0_3 x6_3).f1.f3) ((rd_T58 l1_3 x6_3).f1.f0) ((rd_T58 l1_3 x6_3).f1.f1) _ _ ((rd_T58 l1_3 x6_3).f1.f2) _ _ ((rd_T58 l1_3 x6_3).f1.f3) false _ ?side1 ?side2 ?side3 ?side4 ?side5 ?side6 ?side7 ?side8 A41.out).mono ?_
          (case side1 => repeat (first | exact (Kd.C_below HR176_3.out HB.out) | (with_reducible refine Kd.C_alloc ?_ _) | (with_reducible refine Kd.C_drewN ?_ _) | (with_reducible refine Kd.C_drew ?_)))
          (case side2 => exact HC176_3.out)
          (case side3 => repeat (first | exact (Kd.C_below HR176_4.out HB.out) | (with_reducible refine Kd.C_alloc ?_ _) | (with_reducible refine Kd.C_drewN ?_ _) | (with_reducible refine Kd.C_drew ?_)))
          (case side4 => exact HC176_4.out)
          (case side5 => repeat (first | exact (Kd.C_below HR177_3.out HB.out) | (with_reducible refine Kd.C_alloc ?_ _) | (with_reducible refine Kd.C_drewN ?_ _) | (with_reducible refine Kd.C_drew ?_)))
          (case side6 => exact HC177_3.out)
          (case side7 => repeat (first | exact (Kd.C_below HR177_4.out HB.out) | (with_reducible refine Kd.C_alloc ?_ _) | (with_reducible refine Kd.C_drewN ?_ _) | (with_reducible refine Kd.C_drew ?_)))
          (case side8 => exact HC177_4.out)
          rintro e w50 ⟨rfl, hb⟩
          refine ⟨_, rfl, ?_⟩
          have n0_ := Aside0.mk (blk_below (g := gb169) (o := .cells #[.int .u8 a0_0, .string a0_1, .slice A0_2 l0_2.length c0_2, .slice (some ad174) l0_3.length c0_3] 40 (0, 0)) (kl BK169) hb); have n1_ := Aside0.mk (blk_below (g := gb170) (o := .cells #[.int .u8 a1_0, .string a1_1, .slice A1_2 l1_2.length c1_2, .slice (some ad175) l1_3.length c1_3] 40 (0, 0)) (kl BK170) hb); have n2_ := Aside0.mk (below_step (by repeat (first | (with_reducible first | exact HB.out | apply below_alloc | apply pw_below_drewN | apply below_drew1 | refine below_set ?_ GE169.out | refine below_set ?_ GE170.out) | exact HB.out)) hb); clear BK169; clear BK170; clear HB; have BK169 := n0_; have BK170 := n1_; have HB := n2_; clear n0_ n1_ n2_; (try clear hb); (try clear hb2); (try clear hk); (try clear hi); refine hK.out _ _ ⟨(blk_cell BK169.out 0).trans rfl, (blk_cell BK169.out 1).trans rfl, (blk_cell BK169.out 2).trans rfl, (blk_cell BK169.out 3).trans rfl, (blk_cell BK170.out 0).trans rfl, (blk_cell BK170.out 1).trans rfl, (blk_cell BK170.out 2).trans rfl, (blk_cell BK170.out 3).trans rfl, ((HB.out.cell (World.block_lt_of_cell? w _ hw174_0)).trans hw174_0), ((HB.out.cell (World.block_lt_of_cell? w _ hw174_1)).trans hw174_1), ((HB.out.cell (World.block_lt_of_cell? w _ hw174_2)).trans hw174_2), ((HB.out.cell (World.block_lt_of_cell? w _ hw174_3)).trans hw174_3), ((HB.out.cell (World.block_lt_of_cell? w _ hw174_4)).trans hw174_4), ((HB.out.cell (World.block_lt_of_cell? w _ hw175_0)).trans hw175_0), ((HB.out.cell (World.block_lt_of_cell? w _ hw175_1)).trans hw175_1), ((HB.out.cell (World.block_lt_of_cell? w _ hw175_2)).trans hw175_2), ((HB.out.cell (World.block_lt_of_cell? w _ hw175_3)).trans hw175_3), ((HB.out.cell (World.block_lt_of_cell? w _ hw175_4)).trans hw175_4), ((HB.out.cell (World.block_lt_of_cell? w _ hw176_0)).trans hw176_0), ((HB.out.cell (World.block_lt_of_cell? w _ hw176_1)).trans hw176_1), ((HB.out.cell (World.block_lt_of_cell? w _ hw176_2)).trans hw176_2), ((HB.out.cell (World.block_lt_of_cell? w _ hw176_3)).trans hw176_3), ((HB.out.cell (World.block_lt_of_cell? w _ hw176_4)).trans hw176_4), ((HB.out.cell (World.block_lt_of_cell? w _ hw177_0)).trans hw177_0), ((HB.out.cell (World.block_lt_of_cell? w _ hw177_1)).trans hw177_1), ((HB.out.cell (World.block_lt_of_cell? w _ hw177_2)).trans hw177_2), ((HB.out.cell (World.block_lt_of_cell? w _ hw177_3)).trans hw177_3), ((HB.out.cell (World.block_lt_of_cell? w _ hw177_4)).trans hw177_4)⟩ (fun hHeld => ?_)
          clear hK K; refine norm_ (a' := ?_) ?_ ?_
          rotate_left
          ·show Act.put _ (some 89) _ = _
           simp only [Act.put, List.setIfInBounds_toArray, List.set_cons_zero, List.set_cons_succ, i64_w, i32_w]
           rfl
          refine pu 27 (some 90) (bz 29 268435455) HT_ rfl rfl ?_; refine pu 28 (some 91) (bz 29 536870911) HT_ rfl rfl ?_; refine done_ (done_of HT_.out (by kernel_rfl)) ?_
          try go_wp2
          go_ret
          exact ⟨by first | rfl | (simp [errW_none, errW_some] <;> rfl) | (simp [*, errW_none, errW_some] <;> rfl), by repeat (first | (with_reducible first | exact HB.out | apply below_alloc | apply pw_below_drewN | apply below_drew1 | refine below_set ?_ GE169.out | refine below_set ?_ GE170.out) | exact HB.out)⟩
         subst c42; have H1 : (glossatorref03_Same.l1 k3 (wrap64 (x6_3 + 1)) a0_0 a0_1 l0_2 l0_3 a1_0 a1_1 l1_2 l1_3) = some r := by rw [if_pos rfl] at H; exact H
         clear H; have H := H1
         clear H1; have H' := Aside0.mk H; clear H; have hnb43 := NB169_170.out
         have hnc43 := NB170_169.out
         have hcz44_0 : wr.cell? ⟨gb169, 0, none⟩ = some (.int .u8 a0_0) := (blk_cell BK169.out 0).trans rfl
         have hcz44_1 : wr.cell? ⟨gb169, 1, none⟩ = some (.string a0_1) := (blk_cell BK169.out 1).trans rfl
         have hcz44_2 : wr.cell? ⟨gb169, 2, none⟩ = some (.slice A0_2 l0_2.length c0_2) := (blk_cell BK169.out 2).trans rfl
         have hcz44_3 : wr.cell? ⟨gb169, 3, none⟩ = some (.slice A0_3 l0_3.length c0_3) := (blk_cell BK169.out 3).trans rfl
         have hfz44_0 := blk_frozen BK169.out 0
         have hfz44_1 := blk_frozen BK169.out 1
         have hfz44_2 := blk_frozen BK169.out 2
         have hfz44_3 := blk_frozen BK169.out 3
         try go_wp2
         have n0_ := Aside0.mk (blk_drew BK169.out); have n1_ := Aside0.mk (blk_drew BK170.out); have n2_ := Aside0.mk (below_drew1 HB.out); clear BK169; clear BK170; clear HB; have BK169 := n0_; have BK170 := n1_; have HB := n2_; clear n0_ n1_ n2_; have p174 : 0 ≤ (x6_3 : Int) := of_decide_eq_true (by first | (with_reducible assumption) | assumption)
         have q174 : x6_3 < (l0_3.length : Int) := of_decide_eq_true (by first | (with_reducible assumption) | assumption)
         obtain ⟨ad174, A174_3, c174_3, A174_4, c174_4, e174, hx174_0, hx174_1, hx174_2, hx174_3, hx174_4, hl174_3, hi174_3, hl174_4, hi174_4⟩ := at_T58 HR0_3.out x6_3 p174 q174
         have hw174_4 := hx174_4
         have hw174_3 := hx174_3
         have hw174_2 := hx174_2
         have hw174_1 := hx174_1
         have hw174_0 := hx174_0
         cases e174; replace hx174_0 := (HB.out.cell (World.block_lt_of_cell? w _ hx174_0)).trans hx174_0; replace hx174_1 := (HB.out.cell (World.block_lt_of_cell? w _ hx174_1)).trans hx174_1; replace hx174_2 := (HB.out.cell (World.block_lt_of_cell? w _ hx174_2)).trans hx174_2; replace hx174_3 := (HB.out.cell (World.block_lt_of_cell? w _ hx174_3)).trans hx174_3; replace hx174_4 := (HB.out.cell (World.block_lt_of_cell? w _ hx174_4)).trans hx174_4; have HR174_3 := Aside0.mk hi174_3; have HC174_3 := Aside0.mk hl174_3; clear hi174_3 hl174_3; have HR174_4 := Aside0.mk hi174_4; have HC174_4 := Aside0.mk hl174_4; clear hi174_4 hl174_4; replace p174 := eq_true p174; replace q174 := eq_true q174; have p175 : 0 ≤ (x6_3 : Int) := of_decide_eq_true (by first | (with_reducible assumption) | assumption)
         have q175 : x6_3 < (l1_3.length : Int) := of_decide_eq_true (by first | (with_reducible assumption) | assumption)
         obtain ⟨ad175, A175_3, c175_3, A175_4, c175_4, e175, hx175_0, hx175_1, hx175_2, hx175_3, hx175_4, hl175_3, hi175_3, hl175_4, hi175_4⟩ := at_T58 HR1_3.out x6_3 p175 q175
         have hw175_4 := hx175_4
         have hw175_3 := hx175_3
         have hw175_2 := hx175_2
         have hw175_1 := hx175_1
         have hw175_0 := hx175_0
         cases e175; replace hx175_0 := (HB.out.cell (World.block_lt_of_cell? w _ hx175_0)).trans hx175_0; replace hx175_1 := (HB.out.cell (World.block_lt_of_cell? w _ hx175_1)).trans hx175_1; replace hx175_2 := (HB.out.cell (World.block_lt_of_cell? w _ hx175_2)).trans hx175_2; replace hx175_3 := (HB.out.cell (World.block_lt_of_cell? w _ hx175_3)).trans hx175_3; replace hx175_4 := (HB.out.cell (World.block_lt_of_cell? w _ hx175_4)).trans hx175_4; have HR175_3 := Aside0.mk hi175_3; have HC175_3 := Aside0.mk hl175_3; clear hi175_3 hl175_3; have HR175_4 := Aside0.mk hi175_4; have HC175_4 := Aside0.mk hl175_4; clear hi175_4 hl175_4; replace p175 := eq_true p175; replace q175 := eq_true q175; have p176 : 0 ≤ (x6_3 : Int) := of_decide_eq_true (by first | (with_reducible assumption) | assumption)
         have q176 : x6_3 < (l0_3.length : Int) := of_decide_eq_true (by first | (with_reducible assumption) | assumption)
         obtain ⟨ad176, A176_3, c176_3, A176_4, c176_4, e176, hx176_0, hx176_1, hx176_2, hx176_3, hx176_4, hl176_3, hi176_3, hl176_4, hi176_4⟩ := at_T58 HR0_3.out x6_3 p176 q176
         have hw176_4 := hx176_4
         have hw176_3 := hx176_3
         have hw176_2 := hx176_2
         have hw176_1 := hx176_1
         have hw176_0 := hx176_0
         obtain rfl : ad174 = ad176 := (by injection e176)
         replace hx176_0 := (HB.out.cell (World.block_lt_of_cell? w _ hx176_0)).trans hx176_0; replace hx176_1 := (HB.out.cell (World.block_lt_of_cell? w _ hx176_1)).trans hx176_1; replace hx176_2 := (HB.out.cell (World.block_lt_of_cell? w _ hx176_2)).trans hx176_2; replace hx176_3 := (HB.out.cell (World.block_lt_of_cell? w _ hx176_3)).trans hx176_3; replace hx176_4 := (HB.out.cell (World.block_lt_of_cell? w _ hx176_4)).trans hx176_4; have HR176_3 := Aside0.mk hi176_3; have HC176_3 := Aside0.mk hl176_3; clear hi176_3 hl176_3; have HR176_4 := Aside0.mk hi176_4; have HC176_4 := Aside0.mk hl176_4; clear hi176_4 hl176_4; replace p176 := eq_true p176; replace q176 := eq_true q176; have ea_ := Option.some.inj (hx174_3.symm.trans hx176_3)
         injection ea_ with ea_ en_ ec_
         subst ea_; subst ec_; clear en_; have ea_ := Option.some.inj (hx174_4.symm.trans hx176_4)
         injection ea_ with ea_ en_ ec_
         subst ea_; subst ec_; clear en_; have p177 : 0 ≤ (x6_3 : Int) := of_decide_eq_true (by first | (with_reducible assumption) | assumption)
         have q177 : x6_3 < (l1_3.length : Int) := of_decide_eq_true (by first | (with_reducible assumption) | assumption)
         obtain ⟨ad177, A177_3, c177_3, A177_4, c177_4, e177, hx177_0, hx177_1, hx177_2, hx177_3, hx177_4, hl177_3, hi177_3, hl177_4, hi177_4⟩ := at_T58 HR1_3.out x6_3 p177 q177
         have hw177_4 := hx177_4
         have hw177_3 := hx177_3
         have hw177_2 := hx177_2
         have hw177_1 := hx177_1
         have hw177_0 := hx177_0
         obtain rfl : ad175 = ad177 := (by injection e177)
         replace hx177_0 := (HB.out.cell (World.block_lt_of_cell? w _ hx177_0)).trans hx177_0; replace hx177_1 := (HB.out.cell (World.block_lt_of_cell? w _ hx177_1)).trans hx177_1; replace hx177_2 := (HB.out.cell (World.block_lt_of_cell? w _ hx177_2)).trans hx177_2; replace hx177_3 := (HB.out.cell (World.block_lt_of_cell? w _ hx177_3)).trans hx177_3; replace hx177_4 := (HB.out.cell (World.block_lt_of_cell? w _ hx177_4)).trans hx177_4; have HR177_3 := Aside0.mk hi177_3; have HC177_3 := Aside0.mk hl177_3; clear hi177_3 hl177_3; have HR177_4 := Aside0.mk hi177_4; have HC177_4 := Aside0.mk hl177_4; clear hi177_4 hl177_4; replace p177 := eq_true p177; replace q177 := eq_true q177; have ea_ := Option.some.inj (hx175_3.symm.trans hx177_3)
         injection ea_ with ea_ en_ ec_
         subst ea_; subst ec_; clear en_; have ea_ := Option.some.inj (hx175_4.symm.trans hx177_4)
         injection ea_ with ea_ en_ ec_
         subst ea_; subst ec_; clear en_; refine start_ (n := 29) (S := fun w' => w'.cell? ⟨gb169, 0, none⟩ = some (.int .u8 a0_0) ∧ w'.cell? ⟨gb169, 1, none⟩ = some (.string a0_1) ∧ w'.cell? ⟨gb169, 2, none⟩ = some (.slice A0_2 l0_2.length c0_2) ∧ w'.cell? ⟨gb169, 3, none⟩ = some (.slice (some ad174) l0_3.length c0_3) ∧ w'.cell? ⟨gb170, 0, none⟩ = some (.int .u8 a1_0) ∧ w'.cell? ⟨gb170, 1, none⟩ = some (.string a1_1) ∧ w'.cell? ⟨gb170, 2, none⟩ = some (.slice A1_2 l1_2.length c1_2) ∧ w'.cell? ⟨gb170, 3, none⟩ = some (.slice (some ad175) l1_3.length c1_3) ∧ w'.cell? (ad174.add ((x6_3).toNat * 5)) = some (.string ((rd_T58 l0_3 x6_3).f0)) ∧ w'.cell? ⟨(ad174.add ((x6_3).toNat * 5)).block, (ad174.add ((x6_3).toNat * 5)).off + 1, none⟩ = some (.int .u8 ((rd_T58 l0_3 x6_3).f1.f0)) ∧ w'.cell? ⟨(ad174.add ((x6_3).toNat * 5)).block, (ad174.add ((x6_3).toNat * 5)).off + 2, none⟩ = some (.string ((rd_T58 l0_3 x6_3).f1.f1)) ∧ w'.cell? ⟨(ad174.add ((x6_3).toNat * 5)).block, (ad174.add ((x6_3).toNat * 5)).off + 3, none⟩ = some (.slice A174_3 ((rd_T58 l0_3 x6_3).f1.f2).length c174_3) ∧ w'.cell? ⟨(ad174.add ((x6_3).toNat * 5)).block, (ad174.add ((x6_3).toNat * 5)).off + 4, none⟩ = some (.slice A174_4 ((rd_T58 l0_3 x6_3).f1.f3).length c174_4) ∧ w'.cell? (ad175.add ((x6_3).toNat * 5)) = some (.string ((rd_T58 l1_3 x6_3).f0)) ∧ w'.cell? ⟨(ad175.add ((x6_3).toNat * 5)).block, (ad175.add ((x6_3).toNat * 5)).off + 1, none⟩ = some (.int .u8 ((rd_T58 l1_3 x6_3).f1.f0)) ∧ w'.cell? ⟨(ad175.add ((x6_3).toNat * 5)).block, (ad175.add ((x6_3).toNat * 5)).off + 2, none⟩ = some (.string ((rd_T58 l1_3 x6_3).f1.f1)) ∧ w'.cell? ⟨(ad175.add ((x6_3).toNat * 5)).block, (ad175.add ((x6_3).toNat * 5)).off + 3, none⟩ = some (.slice A175_3 ((rd_T58 l1_3 x6_3).f1.f2).length c175_3) ∧ w'.cell? ⟨(ad175.add ((x6_3).toNat * 5)).block, (ad175.add ((x6_3).toNat * 5)).off + 4, none⟩ = some (.slice A175_4 ((rd_T58 l1_3 x6_3).f1.f3).length c175_4) ∧ w'.cell? (ad174.add ((x6_3).toNat * 5)) = some (.string ((rd_T58 l0_3 x6_3).f0)) ∧ w'.cell? ⟨(ad174.add ((x6_3).toNat * 5)).block, (ad174.add ((x6_3).toNat * 5)).off + 1, none⟩ = some (.int .u8 ((rd_T58 l0_3 x6_3).f1.f0)) ∧ w'.cell? ⟨(ad174.add ((x6_3).toNat * 5)).block, (ad174.add ((x6_3).toNat * 5)).off + 2, none⟩ = some (.string ((rd_T58 l0_3 x6_3).f1.f1)) ∧ w'.cell? ⟨(ad174.add ((x6_3).toNat * 5)).block, (ad174.add ((x6_3).toNat * 5)).off + 3, none⟩ = some (.slice A174_3 ((rd_T58 l0_3 x6_3).f1.f2).length c174_3) ∧ w'.cell? ⟨(ad174.add ((x6_3).toNat * 5)).block, (ad174.add ((x6_3).toNat * 5)).off + 4, none⟩ = some (.slice A174_4 ((rd_T58 l0_3 x6_3).f1.f3).length c174_4) ∧ w'.cell? (ad175.add ((x6_3).toNat * 5)) = some (.string ((rd_T58 l1_3 x6_3).f0)) ∧ w'.cell? ⟨(ad175.add ((x6_3).toNat * 5)).block, (ad175.add ((x6_3).toNat * 5)).off + 1, none⟩ = some (.int .u8 ((rd_T58 l1_3 x6_3).f1.f0)) ∧ w'.cell? ⟨(ad175.add ((x6_3).toNat * 5)).block, (ad175.add ((x6_3).toNat * 5)).off + 2, none⟩ = some (.string ((rd_T58 l1_3 x6_3).f1.f1)) ∧ w'.cell? ⟨(ad175.add ((x6_3).toNat * 5)).block, (ad175.add ((x6_3).toNat * 5)).off + 3, none⟩ = some (.slice A175_3 ((rd_T58 l1_3 x6_3).f1.f2).length c175_3) ∧ w'.cell? ⟨(ad175.add ((x6_3).toNat * 5)).block, (ad175.add ((x6_3).toNat * 5)).off + 4, none⟩ = some (.slice A175_4 ((rd_T58 l1_3 x6_3).f1.f3).length c175_4)) (ds := []) (bz 29 0) (by kernel_rfl) rfl rfl ⟨(blk_cell BK169.out 0).trans rfl, (blk_cell BK169.out 1).trans rfl, (blk_cell BK169.out 2).trans rfl, (blk_cell BK169.out 3).trans rfl, (blk_cell BK170.out 0).trans rfl, (blk_cell BK170.out 1).trans rfl, (blk_cell BK170.out 2).trans rfl, (blk_cell BK170.out 3).trans rfl, ((HB.out.cell (World.block_lt_of_cell? w _ hw174_0)).trans hw174_0), ((HB.out.cell (World.block_lt_of_cell? w _ hw174_1)).trans hw174_1), ((HB.out.cell (World.block_lt_of_cell? w _ hw174_2)).trans hw174_2), ((HB.out.cell (World.block_lt_of_cell? w _ hw174_3)).trans hw174_3), ((HB.out.cell (World.block_lt_of_cell? w _ hw174_4)).trans hw174_4), ((HB.out.cell (World.block_lt_of_cell? w _ hw175_0)).trans hw175_0), ((HB.out.cell (World.block_lt_of_cell? w _ hw175_1)).trans hw175_1), ((HB.out.cell (World.block_lt_of_cell? w _ hw175_2)).trans hw175_2), ((HB.out.cell (World.block_lt_of_cell? w _ hw175_3)).trans hw175_3), ((HB.out.cell (World.block_lt_of_cell? w _ hw175_4)).trans hw175_4), ((HB.out.cell (World.block_lt_of_cell? w _ hw176_0)).trans hw176_0), ((HB.out.cell (World.block_lt_of_cell? w _ hw176_1)).trans hw176_1), ((HB.out.cell (World.block_lt_of_cell? w _ hw176_2)).trans hw176_2), ((HB.out.cell (World.block_lt_of_cell? w _ hw176_3)).trans hw176_3), ((HB.out.cell (World.block_lt_of_cell? w _ hw176_4)).trans hw176_4), ((HB.out.cell (World.block_lt_of_cell? w _ hw177_0)).trans hw177_0), ((HB.out.cell (World.block_lt_of_cell? w _ hw177_1)).trans hw177_1), ((HB.out.cell (World.block_lt_of_cell? w _ hw177_2)).trans hw177_2), ((HB.out.cell (World.block_lt_of_cell? w _ hw177_3)).trans hw177_3), ((HB.out.cell (World.block_lt_of_cell? w _ hw177_4)).trans hw177_4)⟩ (fun hHeld => ?_); refine with_tabW glossatorref03_Same.tab11 glossatorref03_Same.bits11 (fun HT_ HW_ => ?_)
         generalize wr.drew = w45 at BK169 BK170 HB HR174_3 HR174_4 HR175_3 HR175_4 HR176_3 HR176_4 HR177_3 HR177_4 hx174_0 hx174_1 hx174_2 hx174_3 hx174_4 hx175_0 hx175_1 hx175_2 hx175_3 hx175_4 hx176_0 hx176_1 hx176_2 hx176_3 hx176_4 hx177_0 hx177_1 hx177_2 hx177_3 hx177_4 hHeld ⊢
         refine pu 0 (some 63) (bz 29 1) HT_ rfl rfl ?_; refine pu 2 (some 65) (bz 29 5) HT_ rfl rfl ?_; refine pu 6 (some 69) (bz 29 69) HT_ rfl rfl ?_; refine pu 8 (some 71) (bz 29 325) HT_ rfl rfl ?_; refine tk 1 (some 64) (bz 29 327) HT_ HW_ rfl rfl hHeld ?_; refine pu 3 (some 66) (bz 29 335) HT_ rfl rfl ?_; refine pu 4 (some 67) (bz 29 351) HT_ rfl rfl ?_; refine tk 5 (some 68) (bz 29 383) HT_ HW_ rfl rfl hHeld ?_; refine tk 7 (some 70) (bz 29 511) HT_ HW_ rfl rfl hHeld ?_; refine pu 9 (some 72) (bz 29 1023) HT_ rfl rfl ?_; refine pu 10 (some 73) (bz 29 2047) HT_ rfl rfl ?_; refine tk 11 (some 74) (bz 29 4095) HT_ HW_ rfl rfl hHeld ?_; refine pu 12 (some 75) (bz 29 8191) HT_ rfl rfl ?_; refine pu 13 (some 76) (bz 29 16383) HT_ rfl rfl ?_; refine pu 14 (some 77) (bz 29 32767) HT_ rfl rfl ?_; refine pu 16 (some 79) (bz 29 98303) HT_ rfl rfl ?_; refine pu 20 (some 83) (bz 29 1146879) HT_ rfl rfl ?_; refine pu 22 (some 85) (bz 29 5341183) HT_ rfl rfl ?_; refine tk 15 (some 78) (bz 29 5373951) HT_ HW_ rfl rfl hHeld ?_; refine pu 17 (some 80) (bz 29 5505023) HT_ rfl rfl ?_; refine pu 18 (some 81) (bz 29 5767167) HT_ rfl rfl ?_; refine tk 19 (some 82) (bz 29 6291455) HT_ HW_ rfl rfl hHeld ?_; refine tk 21 (some 84) (bz 29 8388607) HT_ HW_ rfl rfl hHeld ?_; refine pu 23 (some 86) (bz 29 16777215) HT_ rfl rfl ?_; refine pu 24 (some 87) (bz 29 33554431) HT_ rfl rfl ?_; refine tk 25 (some 88) (bz 29 67108863) HT_ HW_ rfl rfl hHeld ?_; refine one_ (i := 26) (N := some 89) (bz 29 134217727) rfl rfl (one_of HT_.out (by kernel_rfl)) (by decide) (fun K hK => ?_)
         refine goes_ Tryd.func12 (by kernel_rfl) rfl #[.agg #[.int .u8 ((rd_T58 l0_3 x6_3).f1.f0), .string ((rd_T58 l0_3 x6_3).f1.f1), .slice A174_3 ((rd_T58 l0_3 x6_3).f1.f2).length c174_3, .slice A174_4 ((rd_T58 l0_3 x6_3).f1.f3).length c174_4], .agg #[.int .u8 ((rd_T58 l1_3 x6_3).f1.f0), .string ((rd_T58 l1_3 x6_3).f1.f1), .slice A175_3 ((rd_T58 l1_3 x6_3).f1.f2).length c175_3, .slice A175_4 ((rd_T58 l1_3 x6_3).f1.f3).length c175_4]] (by rfl) rfl rfl (by (try simp only [List.map_toArray, List.map_cons, List.map_nil]); first | done | rfl | (simp only [List.length_drop, List.length_take]; rfl)) ?_
         with_reducible refine (ih k3 (by have := HJ2.out; have := HK2.out; have := HK3.out; omega) ((rd_T58 l0_3 x6_3).f1.f0) ((rd_T58 l0_3 x6_3).f1.f1) _ _ ((rd_T58 l0_3 x6_3).f1.f2) _ _ ((rd_T58 l0_3 x6_3).f1.f3) ((rd_T58 l1_3 x6_3).f1.f0) ((rd_T58 l1_3 x6_3).f1.f1) _ _ ((rd_T58 l1_3 x6_3).f1.f2) _ _ ((rd_T58 l1_3 x6_3).f1.f3) true _ ?side1 ?side2 ?side3 ?side4 ?side5 ?side6 ?side7 ?side8 A41.out).mono ?_
         (case side1 => repeat (first | exact (Kd.C_below HR176_3.out HB.out) | (with_reducible refine Kd.C_alloc ?_ _) | (with_reducible refine Kd.C_drewN ?_ _) | (with_reducible refine Kd.C_drew ?_)))
         (case side2 => exact HC176_3.out)
         (case side3 => repeat (first | exact (Kd.C_below HR176_4.out HB.out) | (with_reducible refine Kd.C_alloc ?_ _) | (with_reducible refine Kd.C_drewN ?_ _) | (with_reducible refine Kd.C_drew ?_)))
         (case side4 => exact HC176_4.out)
         (case side5 => repeat (first | exact (Kd.C_below HR177_3.out HB.out) | (with_reducible refine Kd.C_alloc ?_ _) | (with_reducible refine Kd.C_drewN ?_ _) | (with_reducible refine Kd.C_drew ?_)))
         (case side6 => exact HC177_3.out)
         (case side7 => repeat (first | exact (Kd.C_below HR177_4.out HB.out) | (with_reducible refine Kd.C_alloc ?_ _) | (with_reducible refine Kd.C_drewN ?_ _) | (with_reducible refine Kd.C_drew ?_)))
         (case side8 => exact HC177_4.out)
         rintro e w46 ⟨rfl, hb⟩
         refine ⟨_, rfl, ?_⟩
         have n0_ := Aside0.mk (blk_below (g := gb169) (o := .cells #[.int .u8 a0_0, .string a0_1, .slice A0_2 l0_2.length c0_2, .slice (some ad174) l0_3.length c0_3] 40 (0, 0)) (kl BK169) hb); have n1_ := Aside0.mk (blk_below (g := gb170) (o := .cells #[.int .u8 a1_0, .string a1_1, .slice A1_2 l1_2.length c1_2, .slice (some ad175) l1_3.length c1_3] 40 (0, 0)) (kl BK170) hb); have n2_ := Aside0.mk (below_step (by repeat (first | (with_reducible first | exact HB.out | apply below_alloc | apply pw_below_drewN | apply below_drew1 | refine below_set ?_ GE169.out | refine below_set ?_ GE170.out) | exact HB.out)) hb); clear BK169; clear BK170; clear HB; have BK169 := n0_; have BK170 := n1_; have HB := n2_; clear n0_ n1_ n2_; (try clear hb); (try clear hb2); (try clear hk); (try clear hi); refine hK.out _ _ ⟨(blk_cell BK169.out 0).trans rfl, (blk_cell BK169.out 1).trans rfl, (blk_cell BK169.out 2).trans rfl, (blk_cell BK169.out 3).trans rfl, (blk_cell BK170.out 0).trans rfl, (blk_cell BK170.out 1).trans rfl, (blk_cell BK170.out 2).trans rfl, (blk_cell BK170.out 3).trans rfl, ((HB.out.cell (World.block_lt_of_cell? w _ hw174_0)).trans hw174_0), ((HB.out.cell (World.block_lt_of_cell? w _ hw174_1)).trans hw174_1), ((HB.out.cell (World.block_lt_of_cell? w _ hw174_2)).trans hw174_2), ((HB.out.cell (World.block_lt_of_cell? w _ hw174_3)).trans hw174_3), ((HB.out.cell (World.block_lt_of_cell? w _ hw174_4)).trans hw174_4), ((HB.out.cell (World.block_lt_of_cell? w _ hw175_0)).trans hw175_0), ((HB.out.cell (World.block_lt_of_cell? w _ hw175_1)).trans hw175_1), ((HB.out.cell (World.block_lt_of_cell? w _ hw175_2)).trans hw175_2), ((HB.out.cell (World.block_lt_of_cell? w _ hw175_3)).trans hw175_3), ((HB.out.cell (World.block_lt_of_cell? w _ hw175_4)).trans hw175_4), ((HB.out.cell (World.block_lt_of_cell? w _ hw176_0)).trans hw176_0), ((HB.out.cell (World.block_lt_of_cell? w _ hw176_1)).trans hw176_1), ((HB.out.cell (World.block_lt_of_cell? w _ hw176_2)).trans hw176_2), ((HB.out.cell (World.block_lt_of_cell? w _ hw176_3)).trans hw176_3), ((HB.out.cell (World.block_lt_of_cell? w _ hw176_4)).trans hw176_4), ((HB.out.cell (World.block_lt_of_cell? w _ hw177_0)).trans hw177_0), ((HB.out.cell (World.block_lt_of_cell? w _ hw177_1)).trans hw177_1), ((HB.out.cell (World.block_lt_of_cell? w _ hw177_2)).trans hw177_2), ((HB.out.cell (World.block_lt_of_cell? w _ hw177_3)).trans hw177_3), ((HB.out.cell (World.block_lt_of_cell? w _ hw177_4)).trans hw177_4)⟩ (fun hHeld => ?_)
         clear hK K; refine norm_ (a' := ?_) ?_ ?_
         rotate_left
         ·show Act.put _ (some 89) _ = _
          simp only [Act.put, List.setIfInBounds_toArray, List.set_cons_zero, List.set_cons_succ, i64_w, i32_w]
          rfl
         refine pu 27 (some 90) (bz 29 268435455) HT_ rfl rfl ?_; refine pu 28 (some 91) (bz 29 536870911) HT_ rfl rfl ?_; refine done_ (done_of HT_.out (by kernel_rfl)) ?_
         try go_wp2
         go_roundg k3
         case measure => have := HJ2.out; have := HK2.out; have := HK3.out; omega
         case rel => exact ⟨(wrap64 (x6_3 + 1)), (by first | rfl | (simp; done) | (simp [*]; done) | (simp; exact xEmpty_ne _) | (simp [*]; exact xEmpty_ne _)), H', ⟨by have := HJ2.out; have := HK2.out; have := HK3.out; omega⟩, ⟨kl BK169⟩, ⟨kl BK170⟩, ⟨by repeat (first | (with_reducible first | exact HB.out | apply below_alloc | apply pw_below_drewN | apply below_drew1 | refine below_set ?_ GE169.out | refine below_set ?_ GE170.out) | exact HB.out)⟩⟩
      rw [if_pos c22] at H; have c22b0 : decide (x5_2 < (l0_2.length : Int)) = true := decide_eq_true c22; clear c22; by_cases c23 : 0 ≤ x5_2
      rotate_left
      ·rw [if_neg c23] at H; exact absurd H (by simp)
      rw [if_pos c23] at H; have c23b0 : decide (0 ≤ x5_2) = true := decide_eq_true c23; clear c23; by_cases c24 : x5_2 < (l1_2.length : Int)
      rotate_left
      ·rw [if_neg c24] at H; exact absurd H (by simp)
      rw [if_pos c24] at H; have c24b0 : decide (x5_2 < (l1_2.length : Int)) = true := decide_eq_true c24; clear c24; replace H := Option.bind_eq_some_iff.mp H
      obtain ⟨t173, A250, H⟩ := H
      replace H : (if t173 = true then (glossatorref03_Same.l0 k2 (wrap64 (x5_2 + 1)) a0_0 a0_1 l0_2 l0_3 a1_0 a1_1 l1_2 l1_3) else (some false)) = some r := H
      have A25 := Aside0.mk A250; clear A250; by_cases c26 : t173 = true
      rotate_left
      ·replace c26 := Bool.eq_false_iff.mpr c26
       subst c26; have H1 : (some false) = some r := by rw [if_neg (show ¬ (false = true) by decide)] at H; exact H
       clear H; have H := H1
       clear H1; obtain rfl := Option.some.inj H; have hnb31 := NB169_170.out
       have hnc31 := NB170_169.out
       have hcz32_0 : wr.cell? ⟨gb169, 0, none⟩ = some (.int .u8 a0_0) := (blk_cell BK169.out 0).trans rfl
       have hcz32_1 : wr.cell? ⟨gb169, 1, none⟩ = some (.string a0_1) := (blk_cell BK169.out 1).trans rfl
       have hcz32_2 : wr.cell? ⟨gb169, 2, none⟩ = some (.slice A0_2 l0_2.length c0_2) := (blk_cell BK169.out 2).trans rfl
       have hcz32_3 : wr.cell? ⟨gb169, 3, none⟩ = some (.slice A0_3 l0_3.length c0_3) := (blk_cell BK169.out 3).trans rfl
       have hfz32_0 := blk_frozen BK169.out 0
       have hfz32_1 := blk_frozen BK169.out 1
       have hfz32_2 := blk_frozen BK169.out 2
       have hfz32_3 := blk_frozen BK169.out 3
       try go_wp2
       have n0_ := Aside0.mk (blk_drew BK169.out); have n1_ := Aside0.mk (blk_drew BK170.out); have n2_ := Aside0.mk (below_drew1 HB.out); clear BK169; clear BK170; clear HB; have BK169 := n0_; have BK170 := n1_; have HB := n2_; clear n0_ n1_ n2_; have p171 : 0 ≤ (x5_2 : Int) := of_decide_eq_true (by first | (with_reducible assumption) | assumption)
       have q171 : x5_2 < (l0_2.length : Int) := of_decide_eq_true (by first | (with_reducible assumption) | assumption)
       obtain ⟨ad171, A171_2, c171_2, A171_3, c171_3, e171, hx171_0, hx171_1, hx171_2, hx171_3, hl171_2, hi171_2, hl171_3, hi171_3⟩ := at_T40 HR0_2.out x5_2 p171 q171
       have hw171_3 := hx171_3
       have hw171_2 := hx171_2
       have hw171_1 := hx171_1
       have hw171_0 := hx171_0
       cases e171; replace hx171_0 := (HB.out.cell (World.block_lt_of_cell? w _ hx171_0)).trans hx171_0; replace hx171_1 := (HB.out.cell (World.block_lt_of_cell? w _ hx171_1)).trans hx171_1; replace hx171_2 := (HB.out.cell (World.block_lt_of_cell? w _ hx171_2)).trans hx171_2; replace hx171_3 := (HB.out.cell (World.block_lt_of_cell? w _ hx171_3)).trans hx171_3; have HR171_2 := Aside0.mk hi171_2; have HC171_2 := Aside0.mk hl171_2; clear hi171_2 hl171_2; have HR171_3 := Aside0.mk hi171_3; have HC171_3 := Aside0.mk hl171_3; clear hi171_3 hl171_3; replace p171 := eq_true p171; replace q171 := eq_true q171; have p172 : 0 ≤ (x5_2 : Int) := of_decide_eq_true (by first | (with_reducible assumption) | assumption)
       have q172 : x5_2 < (l1_2.length : Int) := of_decide_eq_true (by first | (with_reducible assumption) | assumption)
       obtain ⟨ad172, A172_2, c172_2, A172_3, c172_3, e172, hx172_0, hx172_1, hx172_2, hx172_3, hl172_2, hi172_2, hl172_3, hi172_3⟩ := at_T40 HR1_2.out x5_2 p172 q172
       have hw172_3 := hx172_3
       have hw172_2 := hx172_2
       have hw172_1 := hx172_1
       have hw172_0 := hx172_0
       cases e172; replace hx172_0 := (HB.out.cell (World.block_lt_of_cell? w _ hx172_0)).trans hx172_0; replace hx172_1 := (HB.out.cell (World.block_lt_of_cell? w _ hx172_1)).trans hx172_1; replace hx172_2 := (HB.out.cell (World.block_lt_of_cell? w _ hx172_2)).trans hx172_2; replace hx172_3 := (HB.out.cell (World.block_lt_of_cell? w _ hx172_3)).trans hx172_3; have HR172_2 := Aside0.mk hi172_2; have HC172_2 := Aside0.mk hl172_2; clear hi172_2 hl172_2; have HR172_3 := Aside0.mk hi172_3; have HC172_3 := Aside0.mk hl172_3; clear hi172_3 hl172_3; replace p172 := eq_true p172; replace q172 := eq_true q172; refine start_ (n := 12) (S := fun w' => w'.cell? ⟨gb169, 0, none⟩ = some (.int .u8 a0_0) ∧ w'.cell? ⟨gb169, 1, none⟩ = some (.string a0_1) ∧ w'.cell? ⟨gb169, 2, none⟩ = some (.slice (some ad171) l0_2.length c0_2) ∧ w'.cell? ⟨gb169, 3, none⟩ = some (.slice A0_3 l0_3.length c0_3) ∧ w'.cell? ⟨gb170, 0, none⟩ = some (.int .u8 a1_0) ∧ w'.cell? ⟨gb170, 1, none⟩ = some (.string a1_1) ∧ w'.cell? ⟨gb170, 2, none⟩ = some (.slice (some ad172) l1_2.length c1_2) ∧ w'.cell? ⟨gb170, 3, none⟩ = some (.slice A1_3 l1_3.length c1_3) ∧ w'.cell? (ad171.add ((x5_2).toNat * 4)) = some (.int .u8 ((rd_T40 l0_2 x5_2).f0)) ∧ w'.cell? ⟨(ad171.add ((x5_2).toNat * 4)).block, (ad171.add ((x5_2).toNat * 4)).off + 1, none⟩ = some (.string ((rd_T40 l0_2 x5_2).f1)) ∧ w'.cell? ⟨(ad171.add ((x5_2).toNat * 4)).block, (ad171.add ((x5_2).toNat * 4)).off + 2, none⟩ = some (.slice A171_2 ((rd_T40 l0_2 x5_2).f2).length c171_2) ∧ w'.cell? ⟨(ad171.add ((x5_2).toNat * 4)).block, (ad171.add ((x5_2).toNat * 4)).off + 3, none⟩ = some (.slice A171_3 ((rd_T40 l0_2 x5_2).f3).length c171_3) ∧ w'.cell? (ad172.add ((x5_2).toNat * 4)) = some (.int .u8 ((rd_T40 l1_2 x5_2).f0)) ∧ w'.cell? ⟨(ad172.add ((x5_2).toNat * 4)).block, (ad172.add ((x5_2).toNat * 4)).off + 1, none⟩ = some (.string ((rd_T40 l1_2 x5_2).f1)) ∧ w'.cell? ⟨(ad172.add ((x5_2).toNat * 4)).block, (ad172.add ((x5_2).toNat * 4)).off + 2, none⟩ = some (.slice A172_2 ((rd_T40 l1_2 x5_2).f2).length c172_2) ∧ w'.cell? ⟨(ad172.add ((x5_2).toNat * 4)).block, (ad172.add ((x5_2).toNat * 4)).off + 3, none⟩ = some (.slice A172_3 ((rd_T40 l1_2 x5_2).f3).length c172_3)) (ds := []) (bz 12 0) (by kernel_rfl) rfl rfl ⟨(blk_cell BK169.out 0).trans rfl, (blk_cell BK169.out 1).trans rfl, (blk_cell BK169.out 2).trans rfl, (blk_cell BK169.out 3).trans rfl, (blk_cell BK170.out 0).trans rfl, (blk_cell BK170.out 1).trans rfl, (blk_cell BK170.out 2).trans rfl, (blk_cell BK170.out 3).trans rfl, ((HB.out.cell (World.block_lt_of_cell? w _ hw171_0)).trans hw171_0), ((HB.out.cell (World.block_lt_of_cell? w _ hw171_1)).trans hw171_1), ((HB.out.cell (World.block_lt_of_cell? w _ hw171_2)).trans hw171_2), ((HB.out.cell (World.block_lt_of_cell? w _ hw171_3)).trans hw171_3), ((HB.out.cell (World.block_lt_of_cell? w _ hw172_0)).trans hw172_0), ((HB.out.cell (World.block_lt_of_cell? w _ hw172_1)).trans hw172_1), ((HB.out.cell (World.block_lt_of_cell? w _ hw172_2)).trans hw172_2), ((HB.out.cell (World.block_lt_of_cell? w _ hw172_3)).trans hw172_3)⟩ (fun hHeld => ?_); refine with_tabW glossatorref03_Same.tab6 glossatorref03_Same.bits6 (fun HT_ HW_ => ?_)
       generalize wr.drew = w33 at BK169 BK170 HB HR171_2 HR171_3 HR172_2 HR172_3 hx171_0 hx171_1 hx171_2 hx171_3 hx172_0 hx172_1 hx172_2 hx172_3 hHeld ⊢
       refine pu 0 (some 44) (bz 12 1) HT_ rfl rfl ?_; refine pu 2 (some 46) (bz 12 5) HT_ rfl rfl ?_; refine pu 5 (some 49) (bz 12 37) HT_ rfl rfl ?_; refine pu 7 (some 51) (bz 12 165) HT_ rfl rfl ?_; refine tk 1 (some 45) (bz 12 167) HT_ HW_ rfl rfl hHeld ?_; refine pu 3 (some 47) (bz 12 175) HT_ rfl rfl ?_; refine tk 4 (some 48) (bz 12 191) HT_ HW_ rfl rfl hHeld ?_; refine tk 6 (some 50) (bz 12 255) HT_ HW_ rfl rfl hHeld ?_; refine pu 8 (some 52) (bz 12 511) HT_ rfl rfl ?_; refine tk 9 (some 53) (bz 12 1023) HT_ HW_ rfl rfl hHeld ?_; refine one_ (i := 10) (N := some 54) (bz 12 2047) rfl rfl (one_of HT_.out (by kernel_rfl)) (by decide) (fun K hK => ?_)
       refine goes_ Tryd.func12 (by kernel_rfl) rfl #[.agg #[.int .u8 ((rd_T40 l0_2 x5_2).f0), .string ((rd_T40 l0_2 x5_2).f1), .slice A171_2 ((rd_T40 l0_2 x5_2).f2).length c171_2, .slice A171_3 ((rd_T40 l0_2 x5_2).f3).length c171_3], .agg #[.int .u8 ((rd_T40 l1_2 x5_2).f0), .string ((rd_T40 l1_2 x5_2).f1), .slice A172_2 ((rd_T40 l1_2 x5_2).f2).length c172_2, .slice A172_3 ((rd_T40 l1_2 x5_2).f3).length c172_3]] (by rfl) rfl rfl (by (try simp only [List.map_toArray, List.map_cons, List.map_nil]); first | done | rfl | (simp only [List.length_drop, List.length_take]; rfl)) ?_
       with_reducible refine (ih k2 (by have := HJ2.out; have := HK2.out; omega) ((rd_T40 l0_2 x5_2).f0) ((rd_T40 l0_2 x5_2).f1) _ _ ((rd_T40 l0_2 x5_2).f2) _ _ ((rd_T40 l0_2 x5_2).f3) ((rd_T40 l1_2 x5_2).f0) ((rd_T40 l1_2 x5_2).f1) _ _ ((rd_T40 l1_2 x5_2).f2) _ _ ((rd_T40 l1_2 x5_2).f3) false _ ?side1 ?side2 ?side3 ?side4 ?side5 ?side6 ?side7 ?side8 A25.out).mono ?_
       (case side1 => repeat (first | exact (Kd.C_below HR171_2.out HB.out) | (with_reducible refine Kd.C_alloc ?_ _) | (with_reducible refine Kd.C_drewN ?_ _) | (with_reducible refine Kd.C_drew ?_)))
       (case side2 => exact HC171_2.out)
       (case side3 => repeat (first | exact (Kd.C_below HR171_3.out HB.out) | (with_reducible refine Kd.C_alloc ?_ _) | (with_reducible refine Kd.C_drewN ?_ _) | (with_reducible refine Kd.C_drew ?_)))
       (case side4 => exact HC171_3.out)
       (case side5 => repeat (first | exact (Kd.C_below HR172_2.out HB.out) | (with_reducible refine Kd.C_alloc ?_ _) | (with_reducible refine Kd.C_drewN ?_ _) | (with_reducible refine Kd.C_drew ?_)))
       (case side6 => exact HC172_2.out)
       (case side7 => repeat (first | exact (Kd.C_below HR172_3.out HB.out) | (with_reducible refine Kd.C_alloc ?_ _) | (with_reducible refine Kd.C_drewN ?_ _) | (with_reducible refine Kd.C_drew ?_)))
       (case side8 => exact HC172_3.out)
       rintro e w34 ⟨rfl, hb⟩
       refine ⟨_, rfl, ?_⟩
       have n0_ := Aside0.mk (blk_below (g := gb169) (o := .cells #[.int .u8 a0_0, .string a0_1, .slice (some ad171) l0_2.length c0_2, .slice A0_3 l0_3.length c0_3] 40 (0, 0)) (kl BK169) hb); have n1_ := Aside0.mk (blk_below (g := gb170) (o := .cells #[.int .u8 a1_0, .string a1_1, .slice (some ad172) l1_2.length c1_2, .slice A1_3 l1_3.length c1_3] 40 (0, 0)) (kl BK170) hb); have n2_ := Aside0.mk (below_step (by repeat (first | (with_reducible first | exact HB.out | apply below_alloc | apply pw_below_drewN | apply below_drew1 | refine below_set ?_ GE169.out | refine below_set ?_ GE170.out) | exact HB.out)) hb); clear BK169; clear BK170; clear HB; have BK169 := n0_; have BK170 := n1_; have HB := n2_; clear n0_ n1_ n2_; (try clear hb); (try clear hb2); (try clear hk); (try clear hi); refine hK.out _ _ ⟨(blk_cell BK169.out 0).trans rfl, (blk_cell BK169.out 1).trans rfl, (blk_cell BK169.out 2).trans rfl, (blk_cell BK169.out 3).trans rfl, (blk_cell BK170.out 0).trans rfl, (blk_cell BK170.out 1).trans rfl, (blk_cell BK170.out 2).trans rfl, (blk_cell BK170.out 3).trans rfl, ((HB.out.cell (World.block_lt_of_cell? w _ hw171_0)).trans hw171_0), ((HB.out.cell (World.block_lt_of_cell? w _ hw171_1)).trans hw171_1), ((HB.out.cell (World.block_lt_of_cell? w _ hw171_2)).trans hw171_2), ((HB.out.cell (World.block_lt_of_cell? w _ hw171_3)).trans hw171_3), ((HB.out.cell (World.block_lt_of_cell? w _ hw172_0)).trans hw172_0), ((HB.out.cell (World.block_lt_of_cell? w _ hw172_1)).trans hw172_1), ((HB.out.cell (World.block_lt_of_cell? w _ hw172_2)).trans hw172_2), ((HB.out.cell (World.block_lt_of_cell? w _ hw172_3)).trans hw172_3)⟩ (fun hHeld => ?_)
       clear hK K; refine norm_ (a' := ?_) ?_ ?_
       rotate_left
       ·show Act.put _ (some 54) _ = _
        simp only [Act.put, List.setIfInBounds_toArray, List.set_cons_zero, List.set_cons_succ, i64_w, i32_w]
        rfl
       refine pu 11 (some 55) (bz 12 4095) HT_ rfl rfl ?_; refine done_ (done_of HT_.out (by kernel_rfl)) ?_
       try go_wp2
       go_ret
       exact ⟨by first | rfl | (simp [errW_none, errW_some] <;> rfl) | (simp [*, errW_none, errW_some] <;> rfl), by repeat (first | (with_reducible first | exact HB.out | apply below_alloc | apply pw_below_drewN | apply below_drew1 | refine below_set ?_ GE169.out | refine below_set ?_ GE170.out) | exact HB.out)⟩
      subst c26; have H1 : (glossatorref03_Same.l0 k2 (wrap64 (x5_2 + 1)) a0_0 a0_1 l0_2 l0_3 a1_0 a1_1 l1_2 l1_3) = some r := by rw [if_pos rfl] at H; exact H
      clear H; have H := H1
      clear H1; have H' := Aside0.mk H; clear H; have hnb27 := NB169_170.out
      have hnc27 := NB170_169.out
      have hcz28_0 : wr.cell? ⟨gb169, 0, none⟩ = some (.int .u8 a0_0) := (blk_cell BK169.out 0).trans rfl
      have hcz28_1 : wr.cell? ⟨gb169, 1, none⟩ = some (.string a0_1) := (blk_cell BK169.out 1).trans rfl
      have hcz28_2 : wr.cell? ⟨gb169, 2, none⟩ = some (.slice A0_2 l0_2.length c0_2) := (blk_cell BK169.out 2).trans rfl
      have hcz28_3 : wr.cell? ⟨gb169, 3, none⟩ = some (.slice A0_3 l0_3.length c0_3) := (blk_cell BK169.out 3).trans rfl
      have hfz28_0 := blk_frozen BK169.out 0
      have hfz28_1 := blk_frozen BK169.out 1
      have hfz28_2 := blk_frozen BK169.out 2
      have hfz28_3 := blk_frozen BK169.out 3
      try go_wp2
      have n0_ := Aside0.mk (blk_drew BK169.out); have n1_ := Aside0.mk (blk_drew BK170.out); have n2_ := Aside0.mk (below_drew1 HB.out); clear BK169; clear BK170; clear HB; have BK169 := n0_; have BK170 := n1_; have HB := n2_; clear n0_ n1_ n2_; have p171 : 0 ≤ (x5_2 : Int) := of_decide_eq_true (by first | (with_reducible assumption) | assumption)
      have q171 : x5_2 < (l0_2.length : Int) := of_decide_eq_true (by first | (with_reducible assumption) | assumption)
      obtain ⟨ad171, A171_2, c171_2, A171_3, c171_3, e171, hx171_0, hx171_1, hx171_2, hx171_3, hl171_2, hi171_2, hl171_3, hi171_3⟩ := at_T40 HR0_2.out x5_2 p171 q171
      have hw171_3 := hx171_3
      have hw171_2 := hx171_2
      have hw171_1 := hx171_1
      have hw171_0 := hx171_0
      cases e171; replace hx171_0 := (HB.out.cell (World.block_lt_of_cell? w _ hx171_0)).trans hx171_0; replace hx171_1 := (HB.out.cell (World.block_lt_of_cell? w _ hx171_1)).trans hx171_1; replace hx171_2 := (HB.out.cell (World.block_lt_of_cell? w _ hx171_2)).trans hx171_2; replace hx171_3 := (HB.out.cell (World.block_lt_of_cell? w _ hx171_3)).trans hx171_3; have HR171_2 := Aside0.mk hi171_2; have HC171_2 := Aside0.mk hl171_2; clear hi171_2 hl171_2; have HR171_3 := Aside0.mk hi171_3; have HC171_3 := Aside0.mk hl171_3; clear hi171_3 hl171_3; replace p171 := eq_true p171; replace q171 := eq_true q171; have p172 : 0 ≤ (x5_2 : Int) := of_decide_eq_true (by first | (with_reducible assumption) | assumption)
      have q172 : x5_2 < (l1_2.length : Int) := of_decide_eq_true (by first | (with_reducible assumption) | assumption)
      obtain ⟨ad172, A172_2, c172_2, A172_3, c172_3, e172, hx172_0, hx172_1, hx172_2, hx172_3, hl172_2, hi172_2, hl172_3, hi172_3⟩ := at_T40 HR1_2.out x5_2 p172 q172
      have hw172_3 := hx172_3
      have hw172_2 := hx172_2
      have hw172_1 := hx172_1
      have hw172_0 := hx172_0
      cases e172; replace hx172_0 := (HB.out.cell (World.block_lt_of_cell? w _ hx172_0)).trans hx172_0; replace hx172_1 := (HB.out.cell (World.block_lt_of_cell? w _ hx172_1)).trans hx172_1; replace hx172_2 := (HB.out.cell (World.block_lt_of_cell? w _ hx172_2)).trans hx172_2; replace hx172_3 := (HB.out.cell (World.block_lt_of_cell? w _ hx172_3)).trans hx172_3; have HR172_2 := Aside0.mk hi172_2; have HC172_2 := Aside0.mk hl172_2; clear hi172_2 hl172_2; have HR172_3 := Aside0.mk hi172_3; have HC172_3 := Aside0.mk hl172_3; clear hi172_3 hl172_3; replace p172 := eq_true p172; replace q172 := eq_true q172; refine start_ (n := 12) (S := fun w' => w'.cell? ⟨gb169, 0, none⟩ = some (.int .u8 a0_0) ∧ w'.cell? ⟨gb169, 1, none⟩ = some (.string a0_1) ∧ w'.cell? ⟨gb169, 2, none⟩ = some (.slice (some ad171) l0_2.length c0_2) ∧ w'.cell? ⟨gb169, 3, none⟩ = some (.slice A0_3 l0_3.length c0_3) ∧ w'.cell? ⟨gb170, 0, none⟩ = some (.int .u8 a1_0) ∧ w'.cell? ⟨gb170, 1, none⟩ = some (.string a1_1) ∧ w'.cell? ⟨gb170, 2, none⟩ = some (.slice (some ad172) l1_2.length c1_2) ∧ w'.cell? ⟨gb170, 3, none⟩ = some (.slice A1_3 l1_3.length c1_3) ∧ w'.cell? (ad171.add ((x5_2).toNat * 4)) = some (.int .u8 ((rd_T40 l0_2 x5_2).f0)) ∧ w'.cell? ⟨(ad171.add ((x5_2).toNat * 4)).block, (ad171.add ((x5_2).toNat * 4)).off + 1, none⟩ = some (.string ((rd_T40 l0_2 x5_2).f1)) ∧ w'.cell? ⟨(ad171.add ((x5_2).toNat * 4)).block, (ad171.add ((x5_2).toNat * 4)).off + 2, none⟩ = some (.slice A171_2 ((rd_T40 l0_2 x5_2).f2).length c171_2) ∧ w'.cell? ⟨(ad171.add ((x5_2).toNat * 4)).block, (ad171.add ((x5_2).toNat * 4)).off + 3, none⟩ = some (.slice A171_3 ((rd_T40 l0_2 x5_2).f3).length c171_3) ∧ w'.cell? (ad172.add ((x5_2).toNat * 4)) = some (.int .u8 ((rd_T40 l1_2 x5_2).f0)) ∧ w'.cell? ⟨(ad172.add ((x5_2).toNat * 4)).block, (ad172.add ((x5_2).toNat * 4)).off + 1, none⟩ = some (.string ((rd_T40 l1_2 x5_2).f1)) ∧ w'.cell? ⟨(ad172.add ((x5_2).toNat * 4)).block, (ad172.add ((x5_2).toNat * 4)).off + 2, none⟩ = some (.slice A172_2 ((rd_T40 l1_2 x5_2).f2).length c172_2) ∧ w'.cell? ⟨(ad172.add ((x5_2).toNat * 4)).block, (ad172.add ((x5_2).toNat * 4)).off + 3, none⟩ = some (.slice A172_3 ((rd_T40 l1_2 x5_2).f3).length c172_3)) (ds := []) (bz 12 0) (by kernel_rfl) rfl rfl ⟨(blk_cell BK169.out 0).trans rfl, (blk_cell BK169.out 1).trans rfl, (blk_cell BK169.out 2).trans rfl, (blk_cell BK169.out 3).trans rfl, (blk_cell BK170.out 0).trans rfl, (blk_cell BK170.out 1).trans rfl, (blk_cell BK170.out 2).trans rfl, (blk_cell BK170.out 3).trans rfl, ((HB.out.cell (World.block_lt_of_cell? w _ hw171_0)).trans hw171_0), ((HB.out.cell (World.block_lt_of_cell? w _ hw171_1)).trans hw171_1), ((HB.out.cell (World.block_lt_of_cell? w _ hw171_2)).trans hw171_2), ((HB.out.cell (World.block_lt_of_cell? w _ hw171_3)).trans hw171_3), ((HB.out.cell (World.block_lt_of_cell? w _ hw172_0)).trans hw172_0), ((HB.out.cell (World.block_lt_of_cell? w _ hw172_1)).trans hw172_1), ((HB.out.cell (World.block_lt_of_cell? w _ hw172_2)).trans hw172_2), ((HB.out.cell (World.block_lt_of_cell? w _ hw172_3)).trans hw172_3)⟩ (fun hHeld => ?_); refine with_tabW glossatorref03_Same.tab6 glossatorref03_Same.bits6 (fun HT_ HW_ => ?_)
      generalize wr.drew = w29 at BK169 BK170 HB HR171_2 HR171_3 HR172_2 HR172_3 hx171_0 hx171_1 hx171_2 hx171_3 hx172_0 hx172_1 hx172_2 hx172_3 hHeld ⊢
      refine pu 0 (some 44) (bz 12 1) HT_ rfl rfl ?_; refine pu 2 (some 46) (bz 12 5) HT_ rfl rfl ?_; refine pu 5 (some 49) (bz 12 37) HT_ rfl rfl ?_; refine pu 7 (some 51) (bz 12 165) HT_ rfl rfl ?_; refine tk 1 (some 45) (bz 12 167) HT_ HW_ rfl rfl hHeld ?_; refine pu 3 (some 47) (bz 12 175) HT_ rfl rfl ?_; refine tk 4 (some 48) (bz 12 191) HT_ HW_ rfl rfl hHeld ?_; refine tk 6 (some 50) (bz 12 255) HT_ HW_ rfl rfl hHeld ?_; refine pu 8 (some 52) (bz 12 511) HT_ rfl rfl ?_; refine tk 9 (some 53) (bz 12 1023) HT_ HW_ rfl rfl hHeld ?_; refine one_ (i := 10) (N := some 54) (bz 12 2047) rfl rfl (one_of HT_.out (by kernel_rfl)) (by decide) (fun K hK => ?_)
      refine goes_ Tryd.func12 (by kernel_rfl) rfl #[.agg #[.int .u8 ((rd_T40 l0_2 x5_2).f0), .string ((rd_T40 l0_2 x5_2).f1), .slice A171_2 ((rd_T40 l0_2 x5_2).f2).length c171_2, .slice A171_3 ((rd_T40 l0_2 x5_2).f3).length c171_3], .agg #[.int .u8 ((rd_T40 l1_2 x5_2).f0), .string ((rd_T40 l1_2 x5_2).f1), .slice A172_2 ((rd_T40 l1_2 x5_2).f2).length c172_2, .slice A172_3 ((rd_T40 l1_2 x5_2).f3).length c172_3]] (by rfl) rfl rfl (by (try simp only [List.map_toArray, List.map_cons, List.map_nil]); first | done | rfl | (simp only [List.length_drop, List.length_take]; rfl)) ?_
      with_reducible refine (ih k2 (by have := HJ2.out; have := HK2.out; omega) ((rd_T40 l0_2 x5_2).f0) ((rd_T40 l0_2 x5_2).f1) _ _ ((rd_T40 l0_2 x5_2).f2) _ _ ((rd_T40 l0_2 x5_2).f3) ((rd_T40 l1_2 x5_2).f0) ((rd_T40 l1_2 x5_2).f1) _ _ ((rd_T40 l1_2 x5_2).f2) _ _ ((rd_T40 l1_2 x5_2).f3) true _ ?side1 ?side2 ?side3 ?side4 ?side5 ?side6 ?side7 ?side8 A25.out).mono ?_
      (case side1 => repeat (first | exact (Kd.C_below HR171_2.out HB.out) | (with_reducible refine Kd.C_alloc ?_ _) | (with_reducible refine Kd.C_drewN ?_ _) | (with_reducible refine Kd.C_drew ?_)))
      (case side2 => exact HC171_2.out)
      (case side3 => repeat (first | exact (Kd.C_below HR171_3.out HB.out) | (with_reducible refine Kd.C_alloc ?_ _) | (with_reducible refine Kd.C_drewN ?_ _) | (with_reducible refine Kd.C_drew ?_)))
      (case side4 => exact HC171_3.out)
      (case side5 => repeat (first | exact (Kd.C_below HR172_2.out HB.out) | (with_reducible refine Kd.C_alloc ?_ _) | (with_reducible refine Kd.C_drewN ?_ _) | (with_reducible refine Kd.C_drew ?_)))
      (case side6 => exact HC172_2.out)
      (case side7 => repeat (first | exact (Kd.C_below HR172_3.out HB.out) | (with_reducible refine Kd.C_alloc ?_ _) | (with_reducible refine Kd.C_drewN ?_ _) | (with_reducible refine Kd.C_drew ?_)))
      (case side8 => exact HC172_3.out)
      rintro e w30 ⟨rfl, hb⟩
      refine ⟨_, rfl, ?_⟩
      have n0_ := Aside0.mk (blk_below (g := gb169) (o := .cells #[.int .u8 a0_0, .string a0_1, .slice (some ad171) l0_2.length c0_2, .slice A0_3 l0_3.length c0_3] 40 (0, 0)) (kl BK169) hb); have n1_ := Aside0.mk (blk_below (g := gb170) (o := .cells #[.int .u8 a1_0, .string a1_1, .slice (some ad172) l1_2.length c1_2, .slice A1_3 l1_3.length c1_3] 40 (0, 0)) (kl BK170) hb); have n2_ := Aside0.mk (below_step (by repeat (first | (with_reducible first | exact HB.out | apply below_alloc | apply pw_below_drewN | apply below_drew1 | refine below_set ?_ GE169.out | refine below_set ?_ GE170.out) | exact HB.out)) hb); clear BK169; clear BK170; clear HB; have BK169 := n0_; have BK170 := n1_; have HB := n2_; clear n0_ n1_ n2_; (try clear hb); (try clear hb2); (try clear hk); (try clear hi); refine hK.out _ _ ⟨(blk_cell BK169.out 0).trans rfl, (blk_cell BK169.out 1).trans rfl, (blk_cell BK169.out 2).trans rfl, (blk_cell BK169.out 3).trans rfl, (blk_cell BK170.out 0).trans rfl, (blk_cell BK170.out 1).trans rfl, (blk_cell BK170.out 2).trans rfl, (blk_cell BK170.out 3).trans rfl, ((HB.out.cell (World.block_lt_of_cell? w _ hw171_0)).trans hw171_0), ((HB.out.cell (World.block_lt_of_cell? w _ hw171_1)).trans hw171_1), ((HB.out.cell (World.block_lt_of_cell? w _ hw171_2)).trans hw171_2), ((HB.out.cell (World.block_lt_of_cell? w _ hw171_3)).trans hw171_3), ((HB.out.cell (World.block_lt_of_cell? w _ hw172_0)).trans hw172_0), ((HB.out.cell (World.block_lt_of_cell? w _ hw172_1)).trans hw172_1), ((HB.out.cell (World.block_lt_of_cell? w _ hw172_2)).trans hw172_2), ((HB.out.cell (World.block_lt_of_cell? w _ hw172_3)).trans hw172_3)⟩ (fun hHeld => ?_)
      clear hK K; refine norm_ (a' := ?_) ?_ ?_
      rotate_left
      ·show Act.put _ (some 54) _ = _
       simp only [Act.put, List.setIfInBounds_toArray, List.set_cons_zero, List.set_cons_succ, i64_w, i32_w]
       rfl
      refine pu 11 (some 55) (bz 12 4095) HT_ rfl rfl ?_; refine done_ (done_of HT_.out (by kernel_rfl)) ?_
      try go_wp2
      go_roundg k2
      case measure => have := HJ2.out; have := HK2.out; omega
      case rel => exact ⟨(wrap64 (x5_2 + 1)), (by first | rfl | (simp; done) | (simp [*]; done) | (simp; exact xEmpty_ne _) | (simp [*]; exact xEmpty_ne _)), H', ⟨by have := HJ2.out; have := HK2.out; omega⟩, ⟨kl BK169⟩, ⟨kl BK170⟩, ⟨by repeat (first | (with_reducible first | exact HB.out | apply below_alloc | apply pw_below_drewN | apply below_drew1 | refine below_set ?_ GE169.out | refine below_set ?_ GE170.out) | exact HB.out)⟩⟩
end Go.Proofs.YtjmchpkmhidejaaDoor.Q
