/- Words and walks of this claim, put together by this repo's wip/xlink.py out of Q19. -/
import Derived.Test.YtebmgmagdhedgaaGreatDoorL8
namespace Go.Proofs.YtebmgmagdhedgaaGreatDoor.Q
open Go.RowKit Go.Proofs.YtebmgmagdhedgaaGreatDoorW.PrintWords Go.Proofs.YtebmgmagdhedgaaGreatDoorW.PrintLast Go.Proofs.YtebmgmagdhedgaaGreatDoorW.PrintMore
attribute [local go_sem] max2_int min2_int max_two min_two max_three min_three max_four min_four   
set_option linter.unusedVariables false
set_option linter.unusedSimpArgs false
mutual
def glossatorref03_Twin.l0 : Nat → Int → Int → ByteArray → List (S25) → List (S45) → Int → ByteArray → List (S25) → Option (Int × ByteArray × (List (S25)) × (List (S45)))
 | 0, _, _, _, _, _, _, _, _ => none
 | k + 1, x4, x185000, x185001, x185002, x185003, x187000, x187001, x187002 => if x4 < (x185002.length : Int) then (if 0 ≤ x4 then ((glossatorref03_Twin.f k ((rd_T25 x185002 x4).f0) ((rd_T25 x185002 x4).f1) ((rd_T25 x185002 x4).f2) ((rd_T25 x185002 x4).f3)).bind fun bt188 => (if x187002.length < 1954687338268 then (glossatorref03_Twin.l0 k (wrap64 (x4 + 1)) x185000 x185001 x185002 x185003 x187000 x187001 (x187002 ++ [(⟨bt188.1, bt188.2.1, bt188.2.2.1, bt188.2.2.2⟩ : S25)])) else (none))) else (none)) else (glossatorref03_Twin.l1 k 0 x185000 x185001 x185002 x185003 x187000 x187001 x187002 ([] : List (S45)))
def glossatorref03_Twin.l1 : Nat → Int → Int → ByteArray → List (S25) → List (S45) → Int → ByteArray → List (S25) → List (S45) → Option (Int × ByteArray × (List (S25)) × (List (S45)))
 | 0, _, _, _, _, _, _, _, _, _ => none
 | k + 1, x5, x185000, x185001, x185002, x185003, x187000, x187001, x187002, x187003 => if x5 < (x185003.length : Int) then (if 0 ≤ x5 then ((glossatorref03_Twin.f k ((rd_T45 x185003 x5).f1.f0) ((rd_T45 x185003 x5).f1.f1) ((rd_T45 x185003 x5).f1.f2) ((rd_T45 x185003 x5).f1.f3)).bind fun bt201 => (if x187003.length < 1599289640401 then (glossatorref03_Twin.l1 k (wrap64 (x5 + 1)) x185000 x185001 x185002 x185003 x187000 x187001 x187002 (x187003 ++ [(⟨(rd_T45 x185003 x5).f0, (⟨bt201.1, bt201.2.1, bt201.2.2.1, bt201.2.2.2⟩ : S25)⟩ : S45)])) else (none))) else (none)) else (some (x187000, x187001, x187002, x187003))
def glossatorref03_Twin.f : Nat → Int → ByteArray → List (S25) → List (S45) → Option (Int × ByteArray × (List (S25)) × (List (S45)))
 | 0, _, _, _, _ => none
 | k + 1, a0_0, a0_1, l0_2, l0_3 => glossatorref03_Twin.l0 k 0 a0_0 a0_1 l0_2 l0_3 a0_0 a0_1 ([] : List (S25))
end
theorem glossatorref03_Twin.mono_l : ∀ k, (∀ y0 y1 y2 y3, LeO (glossatorref03_Twin.f k y0 y1 y2 y3) (glossatorref03_Twin.f (k + 1) y0 y1 y2 y3)) ∧ (∀ y0 y1 y2 y3 y4 y5 y6 y7, LeO (glossatorref03_Twin.l0 k y0 y1 y2 y3 y4 y5 y6 y7) (glossatorref03_Twin.l0 (k + 1) y0 y1 y2 y3 y4 y5 y6 y7)) ∧ (∀ y0 y1 y2 y3 y4 y5 y6 y7 y8, LeO (glossatorref03_Twin.l1 k y0 y1 y2 y3 y4 y5 y6 y7 y8) (glossatorref03_Twin.l1 (k + 1) y0 y1 y2 y3 y4 y5 y6 y7 y8))
 | 0 => ⟨fun _ _ _ _ r h => by simp [glossatorref03_Twin.f] at h, fun _ _ _ _ _ _ _ _ r h => by simp [glossatorref03_Twin.l0] at h, fun _ _ _ _ _ _ _ _ _ r h => by simp [glossatorref03_Twin.l1] at h⟩
 | k + 1 => by
  obtain ⟨ih0, ih1, ih2⟩ := glossatorref03_Twin.mono_l k
  refine ⟨?_, ?_, ?_⟩
  ·intro y0 y1 y2 y3
   unfold glossatorref03_Twin.f
   repeat' first
   | (with_reducible exact ih0 _ _ _ _)
   | (with_reducible exact ih1 _ _ _ _ _ _ _ _)
   | (with_reducible exact ih2 _ _ _ _ _ _ _ _ _)
   | (with_reducible exact LeO.refl _)
   | (with_reducible exact LeO.none _)
   | (with_reducible refine LeO.ite ?_ ?_)
   | (with_reducible refine LeO.bind ?_ (fun _ => ?_))
   | exact ih0 _ _ _ _
   | exact ih1 _ _ _ _ _ _ _ _
   | exact ih2 _ _ _ _ _ _ _ _ _
   | exact LeO.none _
   | refine LeO.ite ?_ ?_
   | refine LeO.bind ?_ (fun _ => ?_)
  ·intro y0 y1 y2 y3 y4 y5 y6 y7
   unfold glossatorref03_Twin.l0
   repeat' first
   | (with_reducible exact ih0 _ _ _ _)
   | (with_reducible exact ih1 _ _ _ _ _ _ _ _)
   | (with_reducible exact ih2 _ _ _ _ _ _ _ _ _)
   | (with_reducible exact LeO.refl _)
   | (with_reducible exact LeO.none _)
   | (with_reducible refine LeO.ite ?_ ?_)
   | (with_reducible refine LeO.bind ?_ (fun _ => ?_))
   | exact ih0 _ _ _ _
   | exact ih1 _ _ _ _ _ _ _ _
   | exact ih2 _ _ _ _ _ _ _ _ _
   | exact LeO.none _
   | refine LeO.ite ?_ ?_
   | refine LeO.bind ?_ (fun _ => ?_)
  ·intro y0 y1 y2 y3 y4 y5 y6 y7 y8
   unfold glossatorref03_Twin.l1
   repeat' first
   | (with_reducible exact ih0 _ _ _ _)
   | (with_reducible exact ih1 _ _ _ _ _ _ _ _)
   | (with_reducible exact ih2 _ _ _ _ _ _ _ _ _)
   | (with_reducible exact LeO.refl _)
   | (with_reducible exact LeO.none _)
   | (with_reducible refine LeO.ite ?_ ?_)
   | (with_reducible refine LeO.bind ?_ (fun _ => ?_))
   | exact ih0 _ _ _ _
   | exact ih1 _ _ _ _ _ _ _ _
   | exact ih2 _ _ _ _ _ _ _ _ _
   | exact LeO.none _
   | refine LeO.ite ?_ ?_
   | refine LeO.bind ?_ (fun _ => ?_)
theorem glossatorref03_Twin.mono : ∀ a0 a1 a2 a3 k, LeO (glossatorref03_Twin.f k a0 a1 a2 a3) (glossatorref03_Twin.f (k + 1) a0 a1 a2 a3) := by
 intro a0 a1 a2 a3 k
 obtain ⟨ih0, ih1, ih2⟩ := glossatorref03_Twin.mono_l k
 exact ih0 a0 a1 a2 a3
def glossatorref03_Twin.T5 : Bool × List (List Nat × List Nat) := (true, [([], []), ([0], [0]), ([], []), ([2], [2]), ([], []), ([3, 4], [3, 4]), ([5], [5]), ([6], [6]), ([7], [7]), ([1, 8, 7], [1, 8]), ([0, 1, 2, 3, 4, 5, 6, 7, 8, 9], []), ([10, 9, 9, 0, 1, 2, 3, 4, 5, 6, 7, 8, 9], [9, 10])])
def glossatorref03_Twin.B5 : List Nat := [0, 1, 0, 4, 0, 28, 60, 124, 252, 511, 1023, 2047]
theorem glossatorref03_Twin.tab5 : rtab .any (opsOf Tryz.f17 5) = glossatorref03_Twin.T5 := by kernel_rfl
theorem glossatorref03_Twin.bits5 : waitsOk glossatorref03_Twin.T5.2 glossatorref03_Twin.B5 = true := by kernel_rfl
def glossatorref03_Twin.T9 : Bool × List (List Nat × List Nat) := (true, [([], []), ([0], [0]), ([], []), ([2], [2]), ([], []), ([3, 4], [3, 4]), ([5], [5]), ([6], [6]), ([], []), ([8], [8]), ([], []), ([9, 10], [9, 10]), ([11], [11]), ([12], [12]), ([13], [13]), ([7, 14], [7, 14]), ([15], [15]), ([1, 16, 14], [1, 16]), ([0, 1, 2, 3, 4, 5, 6, 7, 8, 9, 10, 11, 12, 13, 14, 15, 16, 17], []), ([18, 17, 17, 0, 1, 2, 3, 4, 5, 6, 7, 8, 9, 10, 11, 12, 13, 14, 15, 16, 17], [17, 18])])
def glossatorref03_Twin.B9 : List Nat := [0, 1, 0, 4, 0, 28, 60, 124, 0, 256, 0, 1792, 3840, 7936, 16128, 32764, 65532, 131071, 262143, 524287]
theorem glossatorref03_Twin.tab9 : rtab .any (opsOf Tryz.f17 9) = glossatorref03_Twin.T9 := by kernel_rfl
theorem glossatorref03_Twin.bits9 : waitsOk glossatorref03_Twin.T9.2 glossatorref03_Twin.B9 = true := by kernel_rfl
set_option maxHeartbeats 8000000 in
set_option maxRecDepth 100000 in
theorem glossatorref03_Twin.calls (k : Nat) : ∀ (a0_0 : Int) (a0_1 : ByteArray) (A0_2 : Option Addr) (c0_2 : Nat) (l0_2 : List (S25)) (A0_3 : Option Addr) (c0_3 : Nat) (l0_3 : List (S45)) (r1 : Int) (r2 : ByteArray) (r3 : List (S25)) (r4 : List (S45)) (w : World) (hr0_2 : Kd.C k25 w A0_2 l0_2.length l0_2) (hc0_2 : l0_2.length ≤ c0_2) (hr0_3 : Kd.C k45 w A0_3 l0_3.length l0_3) (hc0_3 : l0_3.length ≤ c0_3) (h : glossatorref03_Twin.f k a0_0 a0_1 l0_2 l0_3 = some (r1, r2, r3, r4)),
  Calls Tryz.prog 17 #[.agg #[.int .u8 a0_0, .string a0_1, .slice A0_2 l0_2.length c0_2, .slice A0_3 l0_3.length c0_3]] w fun e w' => ∃ v2_ v3_ : Value, e = .returned (.agg #[.int .u8 r1, .string r2, v2_, v3_]) ∧ Kd.R k25 25 w' w.heap.size (fun k_ => some k_ ≠ (v3_ : Value).ownBlock) v2_ r3 ∧ Kd.R k45 45 w' w.heap.size (fun k_ => some k_ ≠ (v2_ : Value).ownBlock) v3_ r4 ∧ Below w.heap.size w w' := by
 induction k using Nat.strongRecOn with
 | _ k ih =>
 intro a0_0 a0_1 A0_2 c0_2 l0_2 A0_3 c0_3 l0_3 r1 r2 r3 r4 w hr0_2 hc0_2 hr0_3 hc0_3 h
 cases k with
 | zero => exact absurd h (by simp [glossatorref03_Twin.f])
 | succ k =>
 simp only [glossatorref03_Twin.f] at h
 have hu25 := Tryz.underlying25
 have hu45 := Tryz.underlying45
 have HR0_2 := Aside0.mk hr0_2; have HC0_2 := Aside0.mk hc0_2; clear hr0_2 hc0_2; have HR0_3 := Aside0.mk hr0_3; have HC0_3 := Aside0.mk hc0_3; clear hr0_3 hc0_3; have HB := Aside0.mk (Below.refl w.heap.size w)
 have H : (glossatorref03_Twin.l0 k 0 a0_0 a0_1 l0_2 l0_3 a0_0 a0_1 ([] : List (S25))) = some (r1, r2, r3, r4) := h
 clear h; have H' := Aside0.mk H; clear H; go_enter Tryz.func17, Tryz.ntmps17
 go_wp2_with (first | ((with_reducible refine gate_dst (N := 1) rfl ?_); refine box_event ?hg (N := 1) ?hd (cs := #[.int .u8 a0_0, .string a0_1, .slice A0_2 l0_2.length c0_2, .slice A0_3 l0_3.length c0_3]) (t := 25) ?hr ?_; (case hd => rfl); (case hg => rfl); (case hr => first | (go_simp; done) | (go_simp; rfl)); intro gb184 hg w2 hbox hb; have n0_ := Aside0.mk (below_step (bl HB) hb); have n1_ := Aside0.mk (hbox); have n2_ := Aside0.mk ((by rw [hg]; exact (below_size (bl HB)) : w.heap.size ≤ gb184)); have n3_ := Aside0.mk ((by rw [hg]; exact (below_size (bl HB)) : w.heap.size ≤ gb184)); clear HB; have HB := n0_; have BK184 := n1_; have GW184 := n2_; have GE184 := n3_; clear n0_ n1_ n2_ n3_; clear hb hbox hg) | ((with_reducible refine gate_dst (N := 2) rfl ?_); refine box_event ?hg (N := 2) ?hd (cs := #[.int .u8 0, .string (⟨#[]⟩ : ByteArray), .slice none 0 0, .slice none 0 0]) (t := 25) ?hr ?_; (case hd => rfl); (case hg => rfl); (case hr => first | (go_simp; done) | (go_simp; rfl)); intro gb185 hg w3 hbox hb; have n0_ := Aside0.mk (blk_below (g := gb184) (o := .cells #[.int .u8 a0_0, .string a0_1, .slice A0_2 l0_2.length c0_2, .slice A0_3 l0_3.length c0_3] 25 (0, 0)) (kl BK184) hb); have n1_ := Aside0.mk (below_step (by repeat (first | (with_reducible first | exact HB.out | apply below_alloc | apply pw_below_drewN | apply below_drew1 | refine below_set ?_ GE184.out) | exact HB.out)) hb); have n2_ := Aside0.mk (hbox); have n3_ := Aside0.mk ((by rw [hg]; exact (below_size (by repeat (first | (with_reducible first | exact HB.out | apply below_alloc | apply pw_below_drewN | apply below_drew1 | refine below_set ?_ GE184.out) | exact HB.out))) : w.heap.size ≤ gb185)); have n4_ := Aside0.mk ((by rw [hg]; exact (below_size (by repeat (first | (with_reducible first | exact HB.out | apply below_alloc | apply pw_below_drewN | apply below_drew1 | refine below_set ?_ GE184.out) | exact HB.out))) : w.heap.size ≤ gb185)); have n5_ := Aside0.mk ((by rw [hg]; exact Nat.ne_of_lt (blk_lt (g := gb184) (o := .cells #[.int .u8 a0_0, .string a0_1, .slice A0_2 l0_2.length c0_2, .slice A0_3 l0_3.length c0_3] 25 (0, 0)) (kl BK184)) : gb184 ≠ gb185)); have n6_ := Aside0.mk ((by rw [hg]; exact Nat.ne_of_gt (blk_lt (g := gb184) (o := .cells #[.int .u8 a0_0, .string a0_1, .slice A0_2 l0_2.length c0_2, .slice A0_3 l0_3.length c0_3] 25 (0, 0)) (kl BK184)) : gb185 ≠ gb184)); clear BK184; clear HB; have BK184 := n0_; have HB := n1_; have BK185 := n2_; have GW185 := n3_; have GE185 := n4_; have NB184_185 := n5_; have NB185_184 := n6_; clear n0_ n1_ n2_ n3_ n4_ n5_ n6_; clear hb hbox hg; have hnb4 := NB184_185.out; have hnc4 := NB185_184.out; have hcz5_0 : w3.cell? ⟨gb184, 0, none⟩ = some (.int .u8 a0_0) := (blk_cell BK184.out 0).trans rfl; have hcz5_1 : w3.cell? ⟨gb184, 1, none⟩ = some (.string a0_1) := (blk_cell BK184.out 1).trans rfl; have hcz5_2 : w3.cell? ⟨gb184, 2, none⟩ = some (.slice A0_2 l0_2.length c0_2) := (blk_cell BK184.out 2).trans rfl; have hcz5_3 : w3.cell? ⟨gb184, 3, none⟩ = some (.slice A0_3 l0_3.length c0_3) := (blk_cell BK184.out 3).trans rfl; have hfz5_0 := blk_frozen BK184.out 0; have hfz5_1 := blk_frozen BK184.out 1; have hfz5_2 := blk_frozen BK184.out 2; have hfz5_3 := blk_frozen BK184.out 3) | ((with_reducible refine gate_dst (N := 3) rfl ?_); refine box_event ?hg (N := 3) ?hd (cs := #[.int .u8 0, .string (⟨#[]⟩ : ByteArray), .slice none 0 0, .slice none 0 0]) (t := 25) ?hr ?_; (case hd => rfl); (case hg => rfl); (case hr => first | (go_simp; done) | (go_simp; rfl)); intro gb186 hg w6 hbox hb; have n0_ := Aside0.mk (blk_below (g := gb184) (o := .cells #[.int .u8 a0_0, .string a0_1, .slice A0_2 l0_2.length c0_2, .slice A0_3 l0_3.length c0_3] 25 (0, 0)) (kl BK184) hb); have n1_ := Aside0.mk (blk_below (g := gb185) (o := .cells #[.int .u8 0, .string (⟨#[]⟩ : ByteArray), .slice none 0 0, .slice none 0 0] 25 (0, 0)) (kl BK185) hb); have n2_ := Aside0.mk (below_step (by repeat (first | (with_reducible first | exact HB.out | apply below_alloc | apply pw_below_drewN | apply below_drew1 | refine below_set ?_ GE184.out | refine below_set ?_ GE185.out) | exact HB.out)) hb); have n3_ := Aside0.mk (hbox); have n4_ := Aside0.mk ((by rw [hg]; exact (below_size (by repeat (first | (with_reducible first | exact HB.out | apply below_alloc | apply pw_below_drewN | apply below_drew1 | refine below_set ?_ GE184.out | refine below_set ?_ GE185.out) | exact HB.out))) : w.heap.size ≤ gb186)); have n5_ := Aside0.mk ((by rw [hg]; exact (below_size (by repeat (first | (with_reducible first | exact HB.out | apply below_alloc | apply pw_below_drewN | apply below_drew1 | refine below_set ?_ GE184.out | refine below_set ?_ GE185.out) | exact HB.out))) : w.heap.size ≤ gb186)); have n6_ := Aside0.mk ((by rw [hg]; exact Nat.ne_of_lt (blk_lt (g := gb184) (o := .cells #[.int .u8 a0_0, .string a0_1, .slice A0_2 l0_2.length c0_2, .slice A0_3 l0_3.length c0_3] 25 (0, 0)) (kl BK184)) : gb184 ≠ gb186)); have n7_ := Aside0.mk ((by rw [hg]; exact Nat.ne_of_gt (blk_lt (g := gb184) (o := .cells #[.int .u8 a0_0, .string a0_1, .slice A0_2 l0_2.length c0_2, .slice A0_3 l0_3.length c0_3] 25 (0, 0)) (kl BK184)) : gb186 ≠ gb184)); have n8_ := Aside0.mk ((by rw [hg]; exact Nat.ne_of_lt (blk_lt (g := gb185) (o := .cells #[.int .u8 0, .string (⟨#[]⟩ : ByteArray), .slice none 0 0, .slice none 0 0] 25 (0, 0)) (kl BK185)) : gb185 ≠ gb186)); have n9_ := Aside0.mk ((by rw [hg]; exact Nat.ne_of_gt (blk_lt (g := gb185) (o := .cells #[.int .u8 0, .string (⟨#[]⟩ : ByteArray), .slice none 0 0, .slice none 0 0] 25 (0, 0)) (kl BK185)) : gb186 ≠ gb185)); clear BK184; clear BK185; clear HB; have BK184 := n0_; have BK185 := n1_; have HB := n2_; have BK186 := n3_; have GW186 := n4_; have GE186 := n5_; have NB184_186 := n6_; have NB186_184 := n7_; have NB185_186 := n8_; have NB186_185 := n9_; clear n0_ n1_ n2_ n3_ n4_ n5_ n6_ n7_ n8_ n9_; clear hb hbox hg; have hnb7 := NB186_184.out; have hnc7 := NB184_186.out; have hnb8 := NB186_185.out; have hnc8 := NB185_186.out; have hcz9_0 : w6.cell? ⟨gb186, 0, none⟩ = some (.int .u8 0) := (blk_cell BK186.out 0).trans rfl; have hcz9_1 : w6.cell? ⟨gb186, 1, none⟩ = some (.string (⟨#[]⟩ : ByteArray)) := (blk_cell BK186.out 1).trans rfl; have hcz9_2 : w6.cell? ⟨gb186, 2, none⟩ = some (.slice none 0 0) := (blk_cell BK186.out 2).trans rfl; have hcz9_3 : w6.cell? ⟨gb186, 3, none⟩ = some (.slice none 0 0) := (blk_cell BK186.out 3).trans rfl; have hfz9_0 := blk_frozen BK186.out 0; have hfz9_1 := blk_frozen BK186.out 1; have hfz9_2 := blk_frozen BK186.out 2; have hfz9_3 := blk_frozen BK186.out 3))
 go_loopg [4] k (fun kq v4 w' => ∃ (x4_1 : Int) (x187002_1 : List (S25)) (u187002 : Value), v4 = .int .i64 x4_1 ∧ Aside0 (glossatorref03_Twin.l0 kq x4_1 a0_0 a0_1 l0_2 l0_3 a0_0 a0_1 x187002_1 = some (r1, r2, r3, r4)) ∧ Aside0 (kq ≤ k) ∧ Aside0 (Kd.R k25 25 w' w.heap.size (fun k_ => k_ ≠ gb184 ∧ k_ ≠ gb185 ∧ k_ ≠ gb186) u187002 x187002_1) ∧ Aside0 (w'.heap[gb184]? = some (.cells #[.int .u8 a0_0, .string a0_1, (.slice A0_2 l0_2.length c0_2), (.slice A0_3 l0_3.length c0_3)] 25 (0, 0))) ∧ Aside0 (w'.heap[gb185]? = some (.cells #[.int .u8 0, .string (⟨#[]⟩ : ByteArray), (.slice none 0 0), (.slice none 0 0)] 25 (0, 0))) ∧ Aside0 (w'.heap[gb186]? = some (.cells #[.int .u8 a0_0, .string a0_1, u187002, (.slice none 0 0)] 25 (0, 0))) ∧ Aside0 (Below w.heap.size w w'))
 case atStart => exact ⟨(0), (([] : List (S25))), (.slice none 0 0), (by first | rfl | (simp; done) | (simp [*]; done) | (simp; exact xEmpty_ne _) | (simp [*]; exact xEmpty_ne _)), H', ⟨Nat.le_refl _⟩, ⟨by first | exact Kd.R_nil _ _ _ _ _ | exact Kd.N_nil _ _ _ _ _ | exact Kd.V_nil _ _ _ _ _ | exact Kd.Q_nil _ _ _ _ _ | exact Kd.S_nil _ _ _ _ _⟩, ⟨by (with_reducible repeat (first | refine blk_drewN ?_ _ | refine blk_drew ?_ | refine blk_alloc ?_ _)); refine blk_far ?_ NB184_186.out _; (with_reducible repeat (first | refine blk_drewN ?_ _ | refine blk_drew ?_ | refine blk_alloc ?_ _)); refine blk_far ?_ NB184_186.out _; (with_reducible repeat (first | refine blk_drewN ?_ _ | refine blk_drew ?_ | refine blk_alloc ?_ _)); refine blk_far ?_ NB184_186.out _; (with_reducible repeat (first | refine blk_drewN ?_ _ | refine blk_drew ?_ | refine blk_alloc ?_ _)); refine blk_far ?_ NB184_186.out _; (with_reducible repeat (first | refine blk_drewN ?_ _ | refine blk_drew ?_ | refine blk_alloc ?_ _)); exact BK184.out⟩, ⟨by (with_reducible repeat (first | refine blk_drewN ?_ _ | refine blk_drew ?_ | refine blk_alloc ?_ _)); refine blk_far ?_ NB185_186.out _; (with_reducible repeat (first | refine blk_drewN ?_ _ | refine blk_drew ?_ | refine blk_alloc ?_ _)); refine blk_far ?_ NB185_186.out _; (with_reducible repeat (first | refine blk_drewN ?_ _ | refine blk_drew ?_ | refine blk_alloc ?_ _)); refine blk_far ?_ NB185_186.out _; (with_reducible repeat (first | refine blk_drewN ?_ _ | refine blk_drew ?_ | refine blk_alloc ?_ _)); refine blk_far ?_ NB185_186.out _; (with_reducible repeat (first | refine blk_drewN ?_ _ | refine blk_drew ?_ | refine blk_alloc ?_ _)); exact BK185.out⟩, ⟨by (with_reducible repeat (first | refine blk_drewN ?_ _ | refine blk_drew ?_ | refine blk_alloc ?_ _)); refine blk_put (cs := #[.int .u8 a0_0, .string a0_1, .slice none 0 0, .slice none 0 0]) ?_ 3 _ rfl; (with_reducible repeat (first | refine blk_drewN ?_ _ | refine blk_drew ?_ | refine blk_alloc ?_ _)); refine blk_put (cs := #[.int .u8 a0_0, .string a0_1, .slice none 0 0, .slice none 0 0]) ?_ 2 _ rfl; (with_reducible repeat (first | refine blk_drewN ?_ _ | refine blk_drew ?_ | refine blk_alloc ?_ _)); refine blk_put (cs := #[.int .u8 a0_0, .string (⟨#[]⟩ : ByteArray), .slice none 0 0, .slice none 0 0]) ?_ 1 _ rfl; (with_reducible repeat (first | refine blk_drewN ?_ _ | refine blk_drew ?_ | refine blk_alloc ?_ _)); refine blk_put (cs := #[.int .u8 0, .string (⟨#[]⟩ : ByteArray), .slice none 0 0, .slice none 0 0]) ?_ 0 _ rfl; (with_reducible repeat (first | refine blk_drewN ?_ _ | refine blk_drew ?_ | refine blk_alloc ?_ _)); exact BK186.out⟩, ⟨by repeat (first | (with_reducible first | exact HB.out | apply below_alloc | apply pw_below_drewN | apply below_drew1 | refine below_set ?_ GE184.out | refine below_set ?_ GE185.out | refine below_set ?_ GE186.out) | exact HB.out)⟩⟩
 case round =>
  clear H'; (try clear c1); (try clear p2); (try clear c4); (try clear c7); (try clear c8); (try clear hcz5_0); (try clear hcz5_1); (try clear hcz5_2); (try clear hcz5_3); (try clear hcz9_0); (try clear hcz9_1); (try clear hcz9_2); (try clear hcz9_3); (try clear hfz5_0); (try clear hfz5_1); (try clear hfz5_2); (try clear hfz5_3); (try clear hfz9_0); (try clear hfz9_1); (try clear hfz9_2); (try clear hfz9_3); (try clear HO_187002); (try clear BK184); (try clear BK185); (try clear BK186); (try clear HB)
  obtain ⟨x4_1, x187002_1, u187002, rfl, HA, HK1, HO_187002, BK184, BK185, BK186, HB⟩ := hrel
  cases gk with
  | zero => exact absurd HA.out (by simp [glossatorref03_Twin.l0])
  | succ k1 =>
   have H := HA.out
   clear HA; simp only [glossatorref03_Twin.l0] at H
   by_cases c10 : x4_1 < (l0_2.length : Int)
   rotate_left
   ·rw [if_neg c10] at H; have c10b0 : decide (x4_1 < (l0_2.length : Int)) = false := decide_eq_false c10; clear c10; have H' := Aside0.mk H; clear H; have hnb24 := NB184_185.out
    have hnc24 := NB185_184.out
    have hnb25 := NB184_186.out
    have hnc25 := NB186_184.out
    have hcz26_0 : wr.cell? ⟨gb184, 0, none⟩ = some (.int .u8 a0_0) := (blk_cell BK184.out 0).trans rfl
    have hcz26_1 : wr.cell? ⟨gb184, 1, none⟩ = some (.string a0_1) := (blk_cell BK184.out 1).trans rfl
    have hcz26_2 : wr.cell? ⟨gb184, 2, none⟩ = some (.slice A0_2 l0_2.length c0_2) := (blk_cell BK184.out 2).trans rfl
    have hcz26_3 : wr.cell? ⟨gb184, 3, none⟩ = some (.slice A0_3 l0_3.length c0_3) := (blk_cell BK184.out 3).trans rfl
    have hfz26_0 := blk_frozen BK184.out 0
    have hfz26_1 := blk_frozen BK184.out 1
    have hfz26_2 := blk_frozen BK184.out 2
    have hfz26_3 := blk_frozen BK184.out 3
    go_wp2
    go_loopg [5] k1 (fun kq v5 w' => ∃ (x5_2 : Int) (x187003_2 : List (S45)) (u187003 : Value), v5 = .int .i64 x5_2 ∧ Aside0 (glossatorref03_Twin.l1 kq x5_2 a0_0 a0_1 l0_2 l0_3 a0_0 a0_1 x187002_1 x187003_2 = some (r1, r2, r3, r4)) ∧ Aside0 (kq ≤ k1) ∧ Aside0 (Kd.R k25 25 w' w.heap.size (fun k_ => some k_ ≠ (u187003 : Value).ownBlock ∧ k_ ≠ gb184 ∧ k_ ≠ gb185 ∧ k_ ≠ gb186) u187002 x187002_1) ∧ Aside0 (Kd.R k45 45 w' w.heap.size (fun k_ => some k_ ≠ (u187002 : Value).ownBlock ∧ k_ ≠ gb184 ∧ k_ ≠ gb185 ∧ k_ ≠ gb186) u187003 x187003_2) ∧ Aside0 (w'.heap[gb184]? = some (.cells #[.int .u8 a0_0, .string a0_1, (.slice A0_2 l0_2.length c0_2), (.slice A0_3 l0_3.length c0_3)] 25 (0, 0))) ∧ Aside0 (w'.heap[gb185]? = some (.cells #[.int .u8 0, .string (⟨#[]⟩ : ByteArray), (.slice none 0 0), (.slice none 0 0)] 25 (0, 0))) ∧ Aside0 (w'.heap[gb186]? = some (.cells #[.int .u8 a0_0, .string a0_1, u187002, u187003] 25 (0, 0))) ∧ Aside0 (Below w.heap.size w w'))
    case atStart => exact ⟨(0), (([] : List (S45))), (.slice none 0 0), (by first | rfl | (simp; done) | (simp [*]; done) | (simp; exact xEmpty_ne _) | (simp [*]; exact xEmpty_ne _)), H', ⟨Nat.le_refl _⟩, ⟨by (with_reducible repeat (first | apply Kd.R_alloc | apply Kd.R_drewN | apply Kd.R_drew)); exact Kd.R_mono HO_187002.out (fun _ hk => ⟨(by simp [Value.ownBlock]), ⟨hk.1, ⟨hk.2.1, hk.2.2⟩⟩⟩)⟩, ⟨by first | exact Kd.R_nil _ _ _ _ _ | exact Kd.N_nil _ _ _ _ _ | exact Kd.V_nil _ _ _ _ _ | exact Kd.Q_nil _ _ _ _ _ | exact Kd.S_nil _ _ _ _ _⟩, ⟨kl BK184⟩, ⟨kl BK185⟩, ⟨kl BK186⟩, ⟨by repeat (first | (with_reducible first | exact HB.out | apply below_alloc | apply pw_below_drewN | apply below_drew1 | refine below_set ?_ GE184.out | refine below_set ?_ GE185.out | refine below_set ?_ GE186.out) | exact HB.out)⟩⟩
    case round =>
     clear H'; (try clear c1); (try clear p1); (try clear q1); (try clear hx1); (try clear c2); (try clear p2); (try clear c4); (try clear p6); (try clear c7); (try clear c8); (try clear c10); (try clear c10b0); (try clear c11); (try clear c11b0); (try clear c13); (try clear c14); (try clear c15); (try clear c17); (try clear c18); (try clear p18); (try clear q18); (try clear hx18); (try clear c24); (try clear c25); (try clear hcz16_0); (try clear hcz16_1); (try clear hcz16_2); (try clear hcz16_3); (try clear hcz26_0); (try clear hcz26_1); (try clear hcz26_2); (try clear hcz26_3); (try clear hcz5_0); (try clear hcz5_1); (try clear hcz5_2); (try clear hcz5_3); (try clear hcz9_0); (try clear hcz9_1); (try clear hcz9_2); (try clear hcz9_3); (try clear hfz16_0); (try clear hfz16_1); (try clear hfz16_2); (try clear hfz16_3); (try clear hfz26_0); (try clear hfz26_1); (try clear hfz26_2); (try clear hfz26_3); (try clear hfz5_0); (try clear hfz5_1); (try clear hfz5_2); (try clear hfz5_3); (try clear hfz9_0); (try clear hfz9_1); (try clear hfz9_2); (try clear hfz9_3); (try clear hx187_0); (try clear hx187_1); (try clear hx187_2); (try clear hx187_3); (try clear p187); (try clear p2); (try clear q187); (try clear HO_187002); (try clear HO_187003); (try clear BK184); (try clear BK185); (try clear BK186); (try clear HB)
     obtain ⟨x5_2, x187003_2, u187003, rfl, HA, HK2, HO_187002, HO_187003, BK184, BK185, BK186, HB⟩ := hrel
     cases gk with
     | zero => exact absurd HA.out (by simp [glossatorref03_Twin.l1])
     | succ k2 =>
      have H := HA.out
      clear HA; simp only [glossatorref03_Twin.l1] at H
      by_cases c27 : x5_2 < (l0_3.length : Int)
      rotate_left
      ·rw [if_neg c27] at H; have c27b0 : decide (x5_2 < (l0_3.length : Int)) = false := decide_eq_false c27; clear c27; simp only [Option.some.injEq, Prod.mk.injEq] at H
       obtain ⟨rfl, rfl, rfl, rfl⟩ := H
       have hnb41 := NB184_185.out
       have hnc41 := NB185_184.out
       have hnb42 := NB184_186.out
       have hnc42 := NB186_184.out
       have hcz43_0 : wr.cell? ⟨gb184, 0, none⟩ = some (.int .u8 a0_0) := (blk_cell BK184.out 0).trans rfl
       have hcz43_1 : wr.cell? ⟨gb184, 1, none⟩ = some (.string a0_1) := (blk_cell BK184.out 1).trans rfl
       have hcz43_2 : wr.cell? ⟨gb184, 2, none⟩ = some (.slice A0_2 l0_2.length c0_2) := (blk_cell BK184.out 2).trans rfl
       have hcz43_3 : wr.cell? ⟨gb184, 3, none⟩ = some (.slice A0_3 l0_3.length c0_3) := (blk_cell BK184.out 3).trans rfl
       have hfz43_0 := blk_frozen BK184.out 0
       have hfz43_1 := blk_frozen BK184.out 1
       have hfz43_2 := blk_frozen BK184.out 2
       have hfz43_3 := blk_frozen BK184.out 3
       have hnb44 := NB186_185.out
       have hnc44 := NB185_186.out
       have hcz45_0 : wr.cell? ⟨gb186, 0, none⟩ = some (.int .u8 a0_0) := (blk_cell BK186.out 0).trans rfl
       have hcz45_1 : wr.cell? ⟨gb186, 1, none⟩ = some (.string a0_1) := (blk_cell BK186.out 1).trans rfl
       have hcz45_2 : wr.cell? ⟨gb186, 2, none⟩ = some (u187002) := (blk_cell BK186.out 2).trans rfl
       have hcz45_3 : wr.cell? ⟨gb186, 3, none⟩ = some (u187003) := (blk_cell BK186.out 3).trans rfl
       have hfz45_0 := blk_frozen BK186.out 0
       have hfz45_1 := blk_frozen BK186.out 1
       have hfz45_2 := blk_frozen BK186.out 2
       have hfz45_3 := blk_frozen BK186.out 3
       have hcz46_0 : wr.cell? ⟨gb185, 0, none⟩ = some (.int .u8 0) := (blk_cell BK185.out 0).trans rfl
       have hcz46_1 : wr.cell? ⟨gb185, 1, none⟩ = some (.string (⟨#[]⟩ : ByteArray)) := (blk_cell BK185.out 1).trans rfl
       have hcz46_2 : wr.cell? ⟨gb185, 2, none⟩ = some (.slice none 0 0) := (blk_cell BK185.out 2).trans rfl
       have hcz46_3 : wr.cell? ⟨gb185, 3, none⟩ = some (.slice none 0 0) := (blk_cell BK185.out 3).trans rfl
       have hfz46_0 := blk_frozen BK185.out 0
       have hfz46_1 := blk_frozen BK185.out 1
       have hfz46_2 := blk_frozen BK185.out 2
       have hfz46_3 := blk_frozen BK185.out 3
       obtain ⟨Ao47, co47, eo47⟩ := Kd.R_slice HO_187002.out
       subst eo47; obtain ⟨Ao48, co48, eo48⟩ := Kd.R_slice HO_187003.out
       subst eo48; go_wp2
       refine bodyPost_ret (results_cell_row rfl _ _ gb185 25 #[.int .u8 a0_0, .string a0_1, .slice Ao47 x187002_1.length co47, .slice Ao48 x187003_2.length co48] (0, 0) _ rfl (by (with_reducible repeat (first | refine blk_drewN ?_ _ | refine blk_drew ?_ | refine blk_alloc ?_ _)); refine blk_put (cs := #[.int .u8 a0_0, .string a0_1, .slice Ao47 x187002_1.length co47, .slice none 0 0]) ?_ 3 _ rfl; (with_reducible repeat (first | refine blk_drewN ?_ _ | refine blk_drew ?_ | refine blk_alloc ?_ _)); refine blk_put (cs := #[.int .u8 a0_0, .string a0_1, .slice none 0 0, .slice none 0 0]) ?_ 2 _ rfl; (with_reducible repeat (first | refine blk_drewN ?_ _ | refine blk_drew ?_ | refine blk_alloc ?_ _)); refine blk_put (cs := #[.int .u8 a0_0, .string (⟨#[]⟩ : ByteArray), .slice none 0 0, .slice none 0 0]) ?_ 1 _ rfl; (with_reducible repeat (first | refine blk_drewN ?_ _ | refine blk_drew ?_ | refine blk_alloc ?_ _)); refine blk_put (cs := #[.int .u8 0, .string (⟨#[]⟩ : ByteArray), .slice none 0 0, .slice none 0 0]) ?_ 0 _ rfl; (with_reducible repeat (first | refine blk_drewN ?_ _ | refine blk_drew ?_ | refine blk_alloc ?_ _)); exact BK185.out) Tryz.underlying25 rfl (by kernel_rfl)) rfl ?_
       exact ⟨_, _, by first | rfl | (simp [errW_none, errW_some] <;> rfl) | (simp [*, errW_none, errW_some] <;> rfl), by (with_reducible repeat (first | apply Kd.R_alloc | apply Kd.R_drewN | apply Kd.R_drew)); exact Kd.R_mono (Kd.R_far (p := ⟨gb185, 3, none⟩) (Kd.R_far (p := ⟨gb185, 2, none⟩) (Kd.R_far (p := ⟨gb185, 1, none⟩) (Kd.R_far (p := ⟨gb185, 0, none⟩) (Kd.R_mono HO_187002.out (fun k_ hk => (⟨hk, hk.2.2.1⟩ : _ ∧ k_ ≠ gb185))) (fun _ hk => hk.2) (.int .u8 a0_0)) (fun _ hk => hk.2) (.string a0_1)) (fun _ hk => hk.2) (.slice Ao47 x187002_1.length co47)) (fun _ hk => hk.2) (.slice Ao48 x187003_2.length co48)) (fun _ hk => hk.1.1), by (with_reducible repeat (first | apply Kd.R_alloc | apply Kd.R_drewN | apply Kd.R_drew)); exact Kd.R_mono (Kd.R_far (p := ⟨gb185, 3, none⟩) (Kd.R_far (p := ⟨gb185, 2, none⟩) (Kd.R_far (p := ⟨gb185, 1, none⟩) (Kd.R_far (p := ⟨gb185, 0, none⟩) (Kd.R_mono HO_187003.out (fun k_ hk => (⟨hk, hk.2.2.1⟩ : _ ∧ k_ ≠ gb185))) (fun _ hk => hk.2) (.int .u8 a0_0)) (fun _ hk => hk.2) (.string a0_1)) (fun _ hk => hk.2) (.slice Ao47 x187002_1.length co47)) (fun _ hk => hk.2) (.slice Ao48 x187003_2.length co48)) (fun _ hk => hk.1.1), by repeat (first | (with_reducible first | exact HB.out | apply below_alloc | apply pw_below_drewN | apply below_drew1 | refine below_set ?_ GE184.out | refine below_set ?_ GE185.out | refine below_set ?_ GE186.out) | exact HB.out)⟩
      rw [if_pos c27] at H; have c27b0 : decide (x5_2 < (l0_3.length : Int)) = true := decide_eq_true c27; clear c27; by_cases c28 : 0 ≤ x5_2
      rotate_left
      ·rw [if_neg c28] at H; exact absurd H (by simp)
      rw [if_pos c28] at H; have c28b0 : decide (0 ≤ x5_2) = true := decide_eq_true c28; clear c28; replace H := Option.bind_eq_some_iff.mp H
      obtain ⟨⟨t201, t202, t203, t206⟩, A290, H⟩ := H
      replace H : (if x187003_2.length < 1599289640401 then (glossatorref03_Twin.l1 k2 (wrap64 (x5_2 + 1)) a0_0 a0_1 l0_2 l0_3 a0_0 a0_1 x187002_1 (x187003_2 ++ [(⟨(rd_T45 l0_3 x5_2).f0, (⟨t201, t202, t203, t206⟩ : S25)⟩ : S45)])) else (none)) = some (r1, r2, r3, r4) := H
      have A29 := Aside0.mk A290; clear A290; by_cases c30 : x187003_2.length < 1599289640401
      rotate_left
      ·rw [if_neg c30] at H; exact absurd H (by simp)
      rw [if_pos c30] at H; have LMc30 := Aside0.mk c30; clear c30; obtain ⟨y209, hy209⟩ : ∃ y_ : List (S45), y_ = (x187003_2 ++ [(⟨(rd_T45 l0_3 x5_2).f0, (⟨t201, t202, t203, t206⟩ : S25)⟩ : S45)]) := ⟨_, rfl⟩
      replace H : (glossatorref03_Twin.l1 k2 (wrap64 (x5_2 + 1)) a0_0 a0_1 l0_2 l0_3 a0_0 a0_1 x187002_1 y209) = some (r1, r2, r3, r4) := by first | (rw [hy209]; with_reducible exact H) | (have H2_ := (Option.bind_some _ _).symm.trans H; rw [hy209]; with_reducible exact H2_) | (have H2_ := (Option.bind_some _ _).symm.trans H; with_reducible exact H2_) | with_reducible exact H | (rw [hy209]; exact H) | exact H
      have Ny209 := Aside0.mk hy209; clear hy209; have H' := Aside0.mk H; clear H; have hnb31 := NB184_185.out
      have hnc31 := NB185_184.out
      have hnb32 := NB184_186.out
      have hnc32 := NB186_184.out
      have hcz33_0 : wr.cell? ⟨gb184, 0, none⟩ = some (.int .u8 a0_0) := (blk_cell BK184.out 0).trans rfl
      have hcz33_1 : wr.cell? ⟨gb184, 1, none⟩ = some (.string a0_1) := (blk_cell BK184.out 1).trans rfl
      have hcz33_2 : wr.cell? ⟨gb184, 2, none⟩ = some (.slice A0_2 l0_2.length c0_2) := (blk_cell BK184.out 2).trans rfl
      have hcz33_3 : wr.cell? ⟨gb184, 3, none⟩ = some (.slice A0_3 l0_3.length c0_3) := (blk_cell BK184.out 3).trans rfl
      have hfz33_0 := blk_frozen BK184.out 0
      have hfz33_1 := blk_frozen BK184.out 1
      have hfz33_2 := blk_frozen BK184.out 2
      have hfz33_3 := blk_frozen BK184.out 3
      try go_wp2
      have n0_ := Aside0.mk (Kd.R_drew HO_187002.out); have n1_ := Aside0.mk (Kd.R_drew HO_187003.out); have n2_ := Aside0.mk (blk_drew BK184.out); have n3_ := Aside0.mk (blk_drew BK185.out); have n4_ := Aside0.mk (blk_drew BK186.out); have n5_ := Aside0.mk (below_drew1 HB.out); clear HO_187002; clear HO_187003; clear BK184; clear BK185; clear BK186; clear HB; have HO_187002 := n0_; have HO_187003 := n1_; have BK184 := n2_; have BK185 := n3_; have BK186 := n4_; have HB := n5_; clear n0_ n1_ n2_ n3_ n4_ n5_; have p199 : 0 ≤ (x5_2 : Int) := of_decide_eq_true (by first | (with_reducible assumption) | assumption)
      have q199 : x5_2 < (l0_3.length : Int) := of_decide_eq_true (by first | (with_reducible assumption) | assumption)
      obtain ⟨ad199, A199_3, c199_3, A199_4, c199_4, e199, hx199_0, hx199_1, hx199_2, hx199_3, hx199_4, hl199_3, hi199_3, hl199_4, hi199_4⟩ := at_T45 HR0_3.out x5_2 p199 q199
      have hw199_4 := hx199_4
      have hw199_3 := hx199_3
      have hw199_2 := hx199_2
      have hw199_1 := hx199_1
      have hw199_0 := hx199_0
      cases e199; replace hx199_0 := (HB.out.cell (World.block_lt_of_cell? w _ hx199_0)).trans hx199_0; replace hx199_1 := (HB.out.cell (World.block_lt_of_cell? w _ hx199_1)).trans hx199_1; replace hx199_2 := (HB.out.cell (World.block_lt_of_cell? w _ hx199_2)).trans hx199_2; replace hx199_3 := (HB.out.cell (World.block_lt_of_cell? w _ hx199_3)).trans hx199_3; replace hx199_4 := (HB.out.cell (World.block_lt_of_cell? w _ hx199_4)).trans hx199_4; have HR199_3 := Aside0.mk hi199_3; have HC199_3 := Aside0.mk hl199_3; clear hi199_3 hl199_3; have HR199_4 := Aside0.mk hi199_4; have HC199_4 := Aside0.mk hl199_4; clear hi199_4 hl199_4; replace p199 := eq_true p199; replace q199 := eq_true q199; have p200 : 0 ≤ (x5_2 : Int) := of_decide_eq_true (by first | (with_reducible assumption) | assumption)
      have q200 : x5_2 < (l0_3.length : Int) := of_decide_eq_true (by first | (with_reducible assumption) | assumption)
      obtain ⟨ad200, A200_3, c200_3, A200_4, c200_4, e200, hx200_0, hx200_1, hx200_2, hx200_3, hx200_4, hl200_3, hi200_3, hl200_4, hi200_4⟩ := at_T45 HR0_3.out x5_2 p200 q200
      have hw200_4 := hx200_4
      have hw200_3 := hx200_3
      have hw200_2 := hx200_2
      have hw200_1 := hx200_1
      have hw200_0 := hx200_0
      obtain rfl : ad199 = ad200 := (by injection e200)
      replace hx200_0 := (HB.out.cell (World.block_lt_of_cell? w _ hx200_0)).trans hx200_0; replace hx200_1 := (HB.out.cell (World.block_lt_of_cell? w _ hx200_1)).trans hx200_1; replace hx200_2 := (HB.out.cell (World.block_lt_of_cell? w _ hx200_2)).trans hx200_2; replace hx200_3 := (HB.out.cell (World.block_lt_of_cell? w _ hx200_3)).trans hx200_3; replace hx200_4 := (HB.out.cell (World.block_lt_of_cell? w _ hx200_4)).trans hx200_4; have HR200_3 := Aside0.mk hi200_3; have HC200_3 := Aside0.mk hl200_3; clear hi200_3 hl200_3; have HR200_4 := Aside0.mk hi200_4; have HC200_4 := Aside0.mk hl200_4; clear hi200_4 hl200_4; replace p200 := eq_true p200; replace q200 := eq_true q200; have ea_ := Option.some.inj (hx199_3.symm.trans hx200_3)
      injection ea_ with ea_ en_ ec_
      subst ea_; subst ec_; clear en_; have ea_ := Option.some.inj (hx199_4.symm.trans hx200_4)
      injection ea_ with ea_ en_ ec_
      subst ea_; subst ec_; clear en_; refine start_ (n := 20) (S := fun w' => w'.cell? ⟨gb186, 0, none⟩ = some (.int .u8 a0_0) ∧ w'.cell? ⟨gb186, 1, none⟩ = some (.string a0_1) ∧ w'.cell? ⟨gb186, 2, none⟩ = some (u187002) ∧ w'.cell? ⟨gb186, 3, none⟩ = some (u187003) ∧ w'.cell? ⟨gb184, 0, none⟩ = some (.int .u8 a0_0) ∧ w'.cell? ⟨gb184, 1, none⟩ = some (.string a0_1) ∧ w'.cell? ⟨gb184, 2, none⟩ = some (.slice A0_2 l0_2.length c0_2) ∧ w'.cell? ⟨gb184, 3, none⟩ = some (.slice (some ad199) l0_3.length c0_3) ∧ w'.cell? (ad199.add ((x5_2).toNat * 5)) = some (.string ((rd_T45 l0_3 x5_2).f0)) ∧ w'.cell? ⟨(ad199.add ((x5_2).toNat * 5)).block, (ad199.add ((x5_2).toNat * 5)).off + 1, none⟩ = some (.int .u8 ((rd_T45 l0_3 x5_2).f1.f0)) ∧ w'.cell? ⟨(ad199.add ((x5_2).toNat * 5)).block, (ad199.add ((x5_2).toNat * 5)).off + 2, none⟩ = some (.string ((rd_T45 l0_3 x5_2).f1.f1)) ∧ w'.cell? ⟨(ad199.add ((x5_2).toNat * 5)).block, (ad199.add ((x5_2).toNat * 5)).off + 3, none⟩ = some (.slice A199_3 ((rd_T45 l0_3 x5_2).f1.f2).length c199_3) ∧ w'.cell? ⟨(ad199.add ((x5_2).toNat * 5)).block, (ad199.add ((x5_2).toNat * 5)).off + 4, none⟩ = some (.slice A199_4 ((rd_T45 l0_3 x5_2).f1.f3).length c199_4) ∧ w'.cell? (ad199.add ((x5_2).toNat * 5)) = some (.string ((rd_T45 l0_3 x5_2).f0)) ∧ w'.cell? ⟨(ad199.add ((x5_2).toNat * 5)).block, (ad199.add ((x5_2).toNat * 5)).off + 1, none⟩ = some (.int .u8 ((rd_T45 l0_3 x5_2).f1.f0)) ∧ w'.cell? ⟨(ad199.add ((x5_2).toNat * 5)).block, (ad199.add ((x5_2).toNat * 5)).off + 2, none⟩ = some (.string ((rd_T45 l0_3 x5_2).f1.f1)) ∧ w'.cell? ⟨(ad199.add ((x5_2).toNat * 5)).block, (ad199.add ((x5_2).toNat * 5)).off + 3, none⟩ = some (.slice A199_3 ((rd_T45 l0_3 x5_2).f1.f2).length c199_3) ∧ w'.cell? ⟨(ad199.add ((x5_2).toNat * 5)).block, (ad199.add ((x5_2).toNat * 5)).off + 4, none⟩ = some (.slice A199_4 ((rd_T45 l0_3 x5_2).f1.f3).length c199_4)) (ds := [19]) (bz 20 0) (by kernel_rfl) rfl rfl ⟨(blk_cell BK186.out 0).trans rfl, (blk_cell BK186.out 1).trans rfl, (blk_cell BK186.out 2).trans rfl, (blk_cell BK186.out 3).trans rfl, (blk_cell BK184.out 0).trans rfl, (blk_cell BK184.out 1).trans rfl, (blk_cell BK184.out 2).trans rfl, (blk_cell BK184.out 3).trans rfl, ((HB.out.cell (World.block_lt_of_cell? w _ hw199_0)).trans hw199_0), ((HB.out.cell (World.block_lt_of_cell? w _ hw199_1)).trans hw199_1), ((HB.out.cell (World.block_lt_of_cell? w _ hw199_2)).trans hw199_2), ((HB.out.cell (World.block_lt_of_cell? w _ hw199_3)).trans hw199_3), ((HB.out.cell (World.block_lt_of_cell? w _ hw199_4)).trans hw199_4), ((HB.out.cell (World.block_lt_of_cell? w _ hw200_0)).trans hw200_0), ((HB.out.cell (World.block_lt_of_cell? w _ hw200_1)).trans hw200_1), ((HB.out.cell (World.block_lt_of_cell? w _ hw200_2)).trans hw200_2), ((HB.out.cell (World.block_lt_of_cell? w _ hw200_3)).trans hw200_3), ((HB.out.cell (World.block_lt_of_cell? w _ hw200_4)).trans hw200_4)⟩ (fun hHeld => ?_); refine with_tabW glossatorref03_Twin.tab9 glossatorref03_Twin.bits9 (fun HT_ HW_ => ?_)
      generalize wr.drew = w34 at HO_187002 HO_187003 BK184 BK185 BK186 HB HR199_3 HR199_4 HR200_3 HR200_4 hx199_0 hx199_1 hx199_2 hx199_3 hx199_4 hx200_0 hx200_1 hx200_2 hx200_3 hx200_4 hHeld ⊢
      refine pu 0 (some 36) (bz 20 1) HT_ rfl rfl ?_; refine pu 2 (some 38) (bz 20 5) HT_ rfl rfl ?_; refine pu 4 (some 40) (bz 20 21) HT_ rfl rfl ?_; refine pu 8 (some 44) (bz 20 277) HT_ rfl rfl ?_; refine pu 10 (some 46) (bz 20 1301) HT_ rfl rfl ?_; refine tk 1 (some 37) (bz 20 1303) HT_ HW_ rfl rfl hHeld ?_; refine tk 3 (some 39) (bz 20 1311) HT_ HW_ rfl rfl hHeld ?_; refine pu 5 (some 41) (bz 20 1343) HT_ rfl rfl ?_; refine pu 6 (some 42) (bz 20 1407) HT_ rfl rfl ?_; refine tk 7 (some 43) (bz 20 1535) HT_ HW_ rfl rfl hHeld ?_; refine tk 9 (some 45) (bz 20 2047) HT_ HW_ rfl rfl hHeld ?_; refine pu 11 (some 47) (bz 20 4095) HT_ rfl rfl ?_; refine pu 12 (some 48) (bz 20 8191) HT_ rfl rfl ?_; refine tk 13 (some 49) (bz 20 16383) HT_ HW_ rfl rfl hHeld ?_; refine one_ (i := 14) (N := some 50) (bz 20 32767) rfl rfl (one_of HT_.out (by kernel_rfl)) (by decide) (fun K hK => ?_)
      refine goes_ Tryz.func17 (by kernel_rfl) rfl #[.agg #[.int .u8 ((rd_T45 l0_3 x5_2).f1.f0), .string ((rd_T45 l0_3 x5_2).f1.f1), .slice A199_3 ((rd_T45 l0_3 x5_2).f1.f2).length c199_3, .slice A199_4 ((rd_T45 l0_3 x5_2).f1.f3).length c199_4]] (by rfl) rfl rfl (by (try simp only [List.map_toArray, List.map_cons, List.map_nil]); first | done | rfl | (simp only [List.length_drop, List.length_take]; rfl)) ?_
      with_reducible refine (ih k2 (by have := HK1.out; have := HK2.out; omega) ((rd_T45 l0_3 x5_2).f1.f0) ((rd_T45 l0_3 x5_2).f1.f1) _ _ ((rd_T45 l0_3 x5_2).f1.f2) _ _ ((rd_T45 l0_3 x5_2).f1.f3) t201 t202 t203 t206 _ ?side1 ?side2 ?side3 ?side4 A29.out).mono ?_
      (case side1 => repeat (first | exact (Kd.C_below HR200_3.out HB.out) | (with_reducible refine Kd.C_alloc ?_ _) | (with_reducible refine Kd.C_drewN ?_ _) | (with_reducible refine Kd.C_drew ?_)))
      (case side2 => exact HC200_3.out)
      (case side3 => repeat (first | exact (Kd.C_below HR200_4.out HB.out) | (with_reducible refine Kd.C_alloc ?_ _) | (with_reducible refine Kd.C_drewN ?_ _) | (with_reducible refine Kd.C_drew ?_)))
      (case side4 => exact HC200_4.out)
      rintro e w35 ⟨v204, v207, rfl, ho0, ho1, hb⟩
      refine ⟨_, rfl, ?_⟩
      have n0_ := Aside0.mk (Kd.R_mono (Kd.R_told (Kd.R_told (Kd.R_old (rl HO_187002) hb) (Kd.R_base ho0)) (Kd.R_base ho1)) (fun _ h_ => h_.1)); have n1_ := Aside0.mk (Kd.R_mono (Kd.R_told (Kd.R_told (Kd.R_old (rl HO_187003) hb) (Kd.R_base ho0)) (Kd.R_base ho1)) (fun _ h_ => h_.1)); have n2_ := Aside0.mk (Kd.R_lower (Kd.R_newB (Kd.R_newB (Kd.R_newB (Kd.R_new' (Kd.R_new' ho0 (Kd.R_lt (rl HO_187002))) (Kd.R_lt (rl HO_187003))) (g := gb184) (o := .cells #[.int .u8 a0_0, .string a0_1, .slice A0_2 l0_2.length c0_2, .slice (some ad199) l0_3.length c0_3] 25 (0, 0)) (kl BK184)) (g := gb185) (o := .cells #[.int .u8 0, .string (⟨#[]⟩ : ByteArray), .slice none 0 0, .slice none 0 0] 25 (0, 0)) (kl BK185)) (g := gb186) (o := .cells #[.int .u8 a0_0, .string a0_1, u187002, u187003] 25 (0, 0)) (kl BK186)) (below_size (by repeat (first | (with_reducible first | exact HB.out | apply below_alloc | apply pw_below_drewN | apply below_drew1 | refine below_set ?_ GE184.out | refine below_set ?_ GE185.out | refine below_set ?_ GE186.out) | exact HB.out)))); have n3_ := Aside0.mk (Kd.R_lower (Kd.R_newB (Kd.R_newB (Kd.R_newB (Kd.R_new' (Kd.R_new' ho1 (Kd.R_lt (rl HO_187002))) (Kd.R_lt (rl HO_187003))) (g := gb184) (o := .cells #[.int .u8 a0_0, .string a0_1, .slice A0_2 l0_2.length c0_2, .slice (some ad199) l0_3.length c0_3] 25 (0, 0)) (kl BK184)) (g := gb185) (o := .cells #[.int .u8 0, .string (⟨#[]⟩ : ByteArray), .slice none 0 0, .slice none 0 0] 25 (0, 0)) (kl BK185)) (g := gb186) (o := .cells #[.int .u8 a0_0, .string a0_1, u187002, u187003] 25 (0, 0)) (kl BK186)) (below_size (by repeat (first | (with_reducible first | exact HB.out | apply below_alloc | apply pw_below_drewN | apply below_drew1 | refine below_set ?_ GE184.out | refine below_set ?_ GE185.out | refine below_set ?_ GE186.out) | exact HB.out)))); have n4_ := Aside0.mk (blk_below (g := gb184) (o := .cells #[.int .u8 a0_0, .string a0_1, .slice A0_2 l0_2.length c0_2, .slice (some ad199) l0_3.length c0_3] 25 (0, 0)) (kl BK184) hb); have n5_ := Aside0.mk (blk_below (g := gb185) (o := .cells #[.int .u8 0, .string (⟨#[]⟩ : ByteArray), .slice none 0 0, .slice none 0 0] 25 (0, 0)) (kl BK185) hb); have n6_ := Aside0.mk (blk_below (g := gb186) (o := .cells #[.int .u8 a0_0, .string a0_1, u187002, u187003] 25 (0, 0)) (kl BK186) hb); have n7_ := Aside0.mk (below_step (by repeat (first | (with_reducible first | exact HB.out | apply below_alloc | apply pw_below_drewN | apply below_drew1 | refine below_set ?_ GE184.out | refine below_set ?_ GE185.out | refine below_set ?_ GE186.out) | exact HB.out)) hb); clear HO_187002; clear HO_187003; clear BK184; clear BK185; clear BK186; clear HB; have HO_187002 := n0_; have HO_187003 := n1_; have HO205 := n2_; have HO208 := n3_; have BK184 := n4_; have BK185 := n5_; have BK186 := n6_; have HB := n7_; clear n0_ n1_ n2_ n3_ n4_ n5_ n6_ n7_; (try clear hb); (try clear hb2); (try clear hk); (try clear hi); (try clear ho0); (try clear ho1); obtain ⟨Ao36, co36, eo36⟩ := Kd.R_slice HO208.out
      (first | subst eo36 | (injection eo36 with f1_ f2_ f3_; have f4_ := f1_.symm; have f5_ := f3_.symm; clear f1_ f2_ f3_; subst f4_; subst f5_))
      obtain ⟨Ao37, co37, eo37⟩ := Kd.R_slice HO205.out
      (first | subst eo37 | (injection eo37 with f1_ f2_ f3_; have f4_ := f1_.symm; have f5_ := f3_.symm; clear f1_ f2_ f3_; subst f4_; subst f5_))
      refine hK.out _ _ ⟨(blk_cell BK186.out 0).trans rfl, (blk_cell BK186.out 1).trans rfl, (blk_cell BK186.out 2).trans rfl, (blk_cell BK186.out 3).trans rfl, (blk_cell BK184.out 0).trans rfl, (blk_cell BK184.out 1).trans rfl, (blk_cell BK184.out 2).trans rfl, (blk_cell BK184.out 3).trans rfl, ((HB.out.cell (World.block_lt_of_cell? w _ hw199_0)).trans hw199_0), ((HB.out.cell (World.block_lt_of_cell? w _ hw199_1)).trans hw199_1), ((HB.out.cell (World.block_lt_of_cell? w _ hw199_2)).trans hw199_2), ((HB.out.cell (World.block_lt_of_cell? w _ hw199_3)).trans hw199_3), ((HB.out.cell (World.block_lt_of_cell? w _ hw199_4)).trans hw199_4), ((HB.out.cell (World.block_lt_of_cell? w _ hw200_0)).trans hw200_0), ((HB.out.cell (World.block_lt_of_cell? w _ hw200_1)).trans hw200_1), ((HB.out.cell (World.block_lt_of_cell? w _ hw200_2)).trans hw200_2), ((HB.out.cell (World.block_lt_of_cell? w _ hw200_3)).trans hw200_3), ((HB.out.cell (World.block_lt_of_cell? w _ hw200_4)).trans hw200_4)⟩ (fun hHeld => ?_)
      clear hK K; refine norm_ (a' := ?_) ?_ ?_
      rotate_left
      ·show Act.put _ (some 50) _ = _
       simp only [Act.put, List.setIfInBounds_toArray, List.set_cons_zero, List.set_cons_succ, i64_w, i32_w]
       rfl
      refine pu 15 (some 51) (bz 20 65535) HT_ rfl rfl ?_; refine one_ (i := 16) (N := some 52) (bz 20 131071) rfl rfl (one_of HT_.out (by kernel_rfl)) (by decide) (fun K hK => ?_)
      refine value_ (w1 := ?_) (v := ?_) (by rfl) rfl ?_ ?_
      rotate_left 2
      ·go_simp
       constructor
       ·rfl
       ·rfl
      refine hK.out _ _ ⟨(blk_cell (blk_alloc BK186.out _) 0).trans rfl, (blk_cell (blk_alloc BK186.out _) 1).trans rfl, (blk_cell (blk_alloc BK186.out _) 2).trans rfl, (blk_cell (blk_alloc BK186.out _) 3).trans rfl, (blk_cell (blk_alloc BK184.out _) 0).trans rfl, (blk_cell (blk_alloc BK184.out _) 1).trans rfl, (blk_cell (blk_alloc BK184.out _) 2).trans rfl, (blk_cell (blk_alloc BK184.out _) 3).trans rfl, (World.cell?_alloc_lt _ _ _ (World.block_lt_of_cell? _ _ (((HB.out.cell (World.block_lt_of_cell? w _ hw199_0)).trans hw199_0)))).trans (((HB.out.cell (World.block_lt_of_cell? w _ hw199_0)).trans hw199_0)), (World.cell?_alloc_lt _ _ _ (World.block_lt_of_cell? _ _ (((HB.out.cell (World.block_lt_of_cell? w _ hw199_1)).trans hw199_1)))).trans (((HB.out.cell (World.block_lt_of_cell? w _ hw199_1)).trans hw199_1)), (World.cell?_alloc_lt _ _ _ (World.block_lt_of_cell? _ _ (((HB.out.cell (World.block_lt_of_cell? w _ hw199_2)).trans hw199_2)))).trans (((HB.out.cell (World.block_lt_of_cell? w _ hw199_2)).trans hw199_2)), (World.cell?_alloc_lt _ _ _ (World.block_lt_of_cell? _ _ (((HB.out.cell (World.block_lt_of_cell? w _ hw199_3)).trans hw199_3)))).trans (((HB.out.cell (World.block_lt_of_cell? w _ hw199_3)).trans hw199_3)), (World.cell?_alloc_lt _ _ _ (World.block_lt_of_cell? _ _ (((HB.out.cell (World.block_lt_of_cell? w _ hw199_4)).trans hw199_4)))).trans (((HB.out.cell (World.block_lt_of_cell? w _ hw199_4)).trans hw199_4)), (World.cell?_alloc_lt _ _ _ (World.block_lt_of_cell? _ _ (((HB.out.cell (World.block_lt_of_cell? w _ hw200_0)).trans hw200_0)))).trans (((HB.out.cell (World.block_lt_of_cell? w _ hw200_0)).trans hw200_0)), (World.cell?_alloc_lt _ _ _ (World.block_lt_of_cell? _ _ (((HB.out.cell (World.block_lt_of_cell? w _ hw200_1)).trans hw200_1)))).trans (((HB.out.cell (World.block_lt_of_cell? w _ hw200_1)).trans hw200_1)), (World.cell?_alloc_lt _ _ _ (World.block_lt_of_cell? _ _ (((HB.out.cell (World.block_lt_of_cell? w _ hw200_2)).trans hw200_2)))).trans (((HB.out.cell (World.block_lt_of_cell? w _ hw200_2)).trans hw200_2)), (World.cell?_alloc_lt _ _ _ (World.block_lt_of_cell? _ _ (((HB.out.cell (World.block_lt_of_cell? w _ hw200_3)).trans hw200_3)))).trans (((HB.out.cell (World.block_lt_of_cell? w _ hw200_3)).trans hw200_3)), (World.cell?_alloc_lt _ _ _ (World.block_lt_of_cell? _ _ (((HB.out.cell (World.block_lt_of_cell? w _ hw200_4)).trans hw200_4)))).trans (((HB.out.cell (World.block_lt_of_cell? w _ hw200_4)).trans hw200_4))⟩ (fun hHeld => ?_)
      clear hK K; refine norm_ (a' := ?_) ?_ ?_
      rotate_left
      ·show Act.put _ (some 52) _ = _
       simp only [Act.put, List.setIfInBounds_toArray, List.set_cons_zero, List.set_cons_succ, i64_w, i32_w]
       rfl
      refine one_ (i := 17) (N := some 53) (bz 20 262143) rfl rfl (one_of HT_.out (by kernel_rfl)) (by decide) (fun K hK => ?_)
      refine Kd.R_append_step k45 (w0 := w) w.heap.size (by rfl) (.tmp 37) (.tmp 52) 23 45 (.agg #[(.string ⟨#[]⟩), (.int .u8 0), (.string ⟨#[]⟩), (.slice none 0 0), (.slice none 0 0)]) 88 rfl Tryz.underlying23 info45 rfl (by decide) (by omega) u187003 x187003_2 (⟨(rd_T45 l0_3 x5_2).f0, (⟨t201, t202, t203, t206⟩ : S25)⟩ : S45) [.string ((rd_T45 l0_3 x5_2).f0), .int .u8 t201, .string t202, .slice Ao37 t203.length co37, .slice Ao36 t206.length co36] (fun k_ => some k_ ≠ (u187002 : Value).ownBlock ∧ k_ ≠ gb184 ∧ k_ ≠ gb185 ∧ k_ ≠ gb186) (fun k_ => ((fun k_ => some k_ ≠ (u187002 : Value).ownBlock ∧ k_ ≠ gb184 ∧ k_ ≠ gb185 ∧ k_ ≠ gb186)) k_ ∧ some k_ ≠ (u187003 : Value).ownBlock) rfl rfl ?aP (fun _ hk => hk) ?aF ?aO ?aB ?aS ?aL ?_
      (case aP => exact k45_mkM _ _ _ (⟨(rd_T45 l0_3 x5_2).f0, (⟨t201, t202, t203, t206⟩ : S25)⟩ : S45) (Kd.R_mono (HO205.out) (fun k_ hk => ⟨⟨hk.1.1.1.1.2, ⟨hk.1.1.2, ⟨hk.1.2, hk.2⟩⟩⟩, hk.1.1.1.2⟩)) (Kd.R_mono (HO208.out) (fun k_ hk => ⟨⟨hk.1.1.1.1.2, ⟨hk.1.1.2, ⟨hk.1.2, hk.2⟩⟩⟩, hk.1.1.1.2⟩)))
      (case aB => exact (by repeat (first | (with_reducible first | exact HB.out | apply below_alloc | apply pw_below_drewN | apply below_drew1 | refine below_set ?_ GE184.out | refine below_set ?_ GE185.out | refine below_set ?_ GE186.out) | exact HB.out)))
      (case aF => exact (fun k_ hk => ⟨Kd.fresh' (Kd.R_lt (rl HO_187002)) k_ hk, Kd.freshB (g := gb184) (o := .cells #[.int .u8 a0_0, .string a0_1, .slice A0_2 l0_2.length c0_2, .slice (some ad199) l0_3.length c0_3] 25 (0, 0)) (kl BK184) k_ hk, Kd.freshB (g := gb185) (o := .cells #[.int .u8 0, .string (⟨#[]⟩ : ByteArray), .slice none 0 0, .slice none 0 0] 25 (0, 0)) (kl BK185) k_ hk, Kd.freshB (g := gb186) (o := .cells #[.int .u8 a0_0, .string a0_1, u187002, u187003] 25 (0, 0)) (kl BK186) k_ hk⟩))
      (case aO => exact (by (with_reducible repeat (first | apply Kd.R_alloc | apply Kd.R_drewN | apply Kd.R_drew)); exact Kd.R_mono HO_187003.out (fun _ hk => ⟨hk.1.1.1, ⟨hk.1.1.2.1, ⟨hk.1.1.2.2.1, hk.1.1.2.2.2⟩⟩⟩)))
      (case aS => exact (below_size (by repeat (first | (with_reducible first | exact HB.out | apply below_alloc | apply pw_below_drewN | apply below_drew1 | refine below_set ?_ GE184.out | refine below_set ?_ GE185.out | refine below_set ?_ GE186.out) | exact HB.out))))
      (case aL => have := LMc30.out; omega)
      intro v210 w38 ho hb hg hat
      rw [← Ny209.out] at ho
      have n0_ := Aside0.mk (Kd.R_after (ok := (fun k_ => some k_ ≠ (.slice Ao37 t203.length co37 : Value).ownBlock ∧ some k_ ≠ (.slice Ao36 t206.length co36 : Value).ownBlock ∧ k_ ≠ gb184 ∧ k_ ≠ gb185 ∧ k_ ≠ gb186)) (by (with_reducible repeat (first | apply Kd.R_alloc | apply Kd.R_drewN | apply Kd.R_drew)); exact Kd.R_mono HO_187002.out (fun _ hk => ⟨⟨hk.1.2, ⟨hk.2, ⟨hk.1.1.2.1, ⟨hk.1.1.2.2.1, hk.1.1.2.2.2⟩⟩⟩⟩, hk.1.1.1⟩)) hg hat); have n1_ := Aside0.mk (blk_grown (g := gb184) (o := .cells #[.int .u8 a0_0, .string a0_1, .slice A0_2 l0_2.length c0_2, .slice (some ad199) l0_3.length c0_3] 25 (0, 0)) (kl BK184) hg (Kd.R_ne HO_187003.out BK184.out (by decide))); have n2_ := Aside0.mk (blk_grown (g := gb185) (o := .cells #[.int .u8 0, .string (⟨#[]⟩ : ByteArray), .slice none 0 0, .slice none 0 0] 25 (0, 0)) (kl BK185) hg (Kd.R_ne HO_187003.out BK185.out (by decide))); have n3_ := Aside0.mk (blk_grown (g := gb186) (o := .cells #[.int .u8 a0_0, .string a0_1, u187002, u187003] 25 (0, 0)) (kl BK186) hg (Kd.R_ne HO_187003.out BK186.out (by decide))); have n4_ := Aside0.mk (hb); have n5_ := Aside0.mk (ho); clear HO_187002; clear BK184; clear BK185; clear BK186; clear HB; clear HO_187003; clear HO205; clear HO208; have HO_187002 := n0_; have BK184 := n1_; have BK185 := n2_; have BK186 := n3_; have HB := n4_; have HO211 := n5_; clear n0_ n1_ n2_ n3_ n4_ n5_; clear ho hb hg hat; obtain ⟨Ao39, co39, eo39⟩ := Kd.R_slice HO211.out
      (first | subst eo39 | (injection eo39 with f1_ f2_ f3_; have f4_ := f1_.symm; have f5_ := f3_.symm; clear f1_ f2_ f3_; subst f4_; subst f5_))
      refine hK.out _ _ ⟨(blk_cell BK186.out 0).trans rfl, (blk_cell BK186.out 1).trans rfl, (blk_cell BK186.out 2).trans rfl, (blk_cell BK186.out 3).trans rfl, (blk_cell BK184.out 0).trans rfl, (blk_cell BK184.out 1).trans rfl, (blk_cell BK184.out 2).trans rfl, (blk_cell BK184.out 3).trans rfl, ((HB.out.cell (World.block_lt_of_cell? w _ hw199_0)).trans hw199_0), ((HB.out.cell (World.block_lt_of_cell? w _ hw199_1)).trans hw199_1), ((HB.out.cell (World.block_lt_of_cell? w _ hw199_2)).trans hw199_2), ((HB.out.cell (World.block_lt_of_cell? w _ hw199_3)).trans hw199_3), ((HB.out.cell (World.block_lt_of_cell? w _ hw199_4)).trans hw199_4), ((HB.out.cell (World.block_lt_of_cell? w _ hw200_0)).trans hw200_0), ((HB.out.cell (World.block_lt_of_cell? w _ hw200_1)).trans hw200_1), ((HB.out.cell (World.block_lt_of_cell? w _ hw200_2)).trans hw200_2), ((HB.out.cell (World.block_lt_of_cell? w _ hw200_3)).trans hw200_3), ((HB.out.cell (World.block_lt_of_cell? w _ hw200_4)).trans hw200_4)⟩ (fun hHeld => ?_)
      clear hK K; refine norm_ (a' := ?_) ?_ ?_
      rotate_left
      ·show Act.put _ (some 53) _ = _
       simp only [Act.put, List.setIfInBounds_toArray, List.set_cons_zero, List.set_cons_succ, i64_w, i32_w]
       rfl
      refine pu 18 (some 54) (bz 20 524287) HT_ rfl rfl ?_; refine last_ (i := 19) (N := none) (bz 20 1048575) rfl rfl (one_of HT_.out (by kernel_rfl)) (by decide) (fun K hK => ?_)
      have hs40 : w38.cell? ⟨gb186, 3, none⟩ = some (u187003) := (blk_cell BK186.out 3).trans rfl
      have hfs40 := blk_frozen BK186.out 3
      have hns40_0 := NB184_186.out
      have hns40_1 := NB185_186.out
      have hms40_0 := NB186_184.out
      have hms40_1 := NB186_185.out
      refine skip_ (w1 := ?_) (by rfl) rfl ?_ ?_
      rotate_left
      ·go_simp
       rfl
      refine hK.out _ _ ?_
      clear hK K; refine done_ (done_of HT_.out (by kernel_rfl)) ?_
      try go_wp2
      go_roundg k2
      case measure => have := HK1.out; have := HK2.out; omega
      case rel => exact ⟨(wrap64 (x5_2 + 1)), (y209), (.slice Ao39 y209.length co39), (by first | rfl | (simp; done) | (simp [*]; done) | (simp; exact xEmpty_ne _) | (simp [*]; exact xEmpty_ne _)), H', ⟨by have := HK1.out; have := HK2.out; omega⟩, ⟨by (with_reducible repeat (first | apply Kd.R_alloc | apply Kd.R_drewN | apply Kd.R_drew)); exact Kd.R_mono (Kd.R_far (p := ⟨gb186, 3, none⟩) (Kd.R_mono HO_187002.out (fun k_ hk => (⟨hk, hk.1.2.2.2.2⟩ : _ ∧ k_ ≠ gb186))) (fun _ hk => hk.2) (.slice Ao39 y209.length co39)) (fun _ hk => ⟨hk.1.2, ⟨hk.1.1.2.2.1, ⟨hk.1.1.2.2.2.1, hk.1.1.2.2.2.2⟩⟩⟩)⟩, ⟨by (with_reducible repeat (first | apply Kd.R_alloc | apply Kd.R_drewN | apply Kd.R_drew)); exact Kd.R_mono (Kd.R_far (p := ⟨gb186, 3, none⟩) (Kd.R_mono HO211.out (fun k_ hk => (⟨hk, hk.2.2.2⟩ : _ ∧ k_ ≠ gb186))) (fun _ hk => hk.2) (.slice Ao39 y209.length co39)) (fun _ hk => ⟨hk.1.1, ⟨hk.1.2.1, ⟨hk.1.2.2.1, hk.1.2.2.2⟩⟩⟩)⟩, ⟨by (with_reducible repeat (first | refine blk_drewN ?_ _ | refine blk_drew ?_ | refine blk_alloc ?_ _)); refine blk_far ?_ NB184_186.out _; (with_reducible repeat (first | refine blk_drewN ?_ _ | refine blk_drew ?_ | refine blk_alloc ?_ _)); exact BK184.out⟩, ⟨by (with_reducible repeat (first | refine blk_drewN ?_ _ | refine blk_drew ?_ | refine blk_alloc ?_ _)); refine blk_far ?_ NB185_186.out _; (with_reducible repeat (first | refine blk_drewN ?_ _ | refine blk_drew ?_ | refine blk_alloc ?_ _)); exact BK185.out⟩, ⟨by (with_reducible repeat (first | refine blk_drewN ?_ _ | refine blk_drew ?_ | refine blk_alloc ?_ _)); refine blk_put (cs := #[.int .u8 a0_0, .string a0_1, u187002, u187003]) ?_ 3 _ rfl; (with_reducible repeat (first | refine blk_drewN ?_ _ | refine blk_drew ?_ | refine blk_alloc ?_ _)); exact BK186.out⟩, ⟨by repeat (first | (with_reducible first | exact HB.out | apply below_alloc | apply pw_below_drewN | apply below_drew1 | refine below_set ?_ GE184.out | refine below_set ?_ GE185.out | refine below_set ?_ GE186.out) | exact HB.out)⟩⟩
   rw [if_pos c10] at H; have c10b0 : decide (x4_1 < (l0_2.length : Int)) = true := decide_eq_true c10; clear c10; by_cases c11 : 0 ≤ x4_1
   rotate_left
   ·rw [if_neg c11] at H; exact absurd H (by simp)
   rw [if_pos c11] at H; have c11b0 : decide (0 ≤ x4_1) = true := decide_eq_true c11; clear c11; replace H := Option.bind_eq_some_iff.mp H
   obtain ⟨⟨t188, t189, t190, t193⟩, A120, H⟩ := H
   replace H : (if x187002_1.length < 1954687338268 then (glossatorref03_Twin.l0 k1 (wrap64 (x4_1 + 1)) a0_0 a0_1 l0_2 l0_3 a0_0 a0_1 (x187002_1 ++ [(⟨t188, t189, t190, t193⟩ : S25)])) else (none)) = some (r1, r2, r3, r4) := H
   have A12 := Aside0.mk A120; clear A120; by_cases c13 : x187002_1.length < 1954687338268
   rotate_left
   ·rw [if_neg c13] at H; exact absurd H (by simp)
   rw [if_pos c13] at H; have LMc13 := Aside0.mk c13; clear c13; obtain ⟨y196, hy196⟩ : ∃ y_ : List (S25), y_ = (x187002_1 ++ [(⟨t188, t189, t190, t193⟩ : S25)]) := ⟨_, rfl⟩
   replace H : (glossatorref03_Twin.l0 k1 (wrap64 (x4_1 + 1)) a0_0 a0_1 l0_2 l0_3 a0_0 a0_1 y196) = some (r1, r2, r3, r4) := by first | (rw [hy196]; with_reducible exact H) | (have H2_ := (Option.bind_some _ _).symm.trans H; rw [hy196]; with_reducible exact H2_) | (have H2_ := (Option.bind_some _ _).symm.trans H; with_reducible exact H2_) | with_reducible exact H | (rw [hy196]; exact H) | exact H
   have Ny196 := Aside0.mk hy196; clear hy196; have H' := Aside0.mk H; clear H; have hnb14 := NB184_185.out
   have hnc14 := NB185_184.out
   have hnb15 := NB184_186.out
   have hnc15 := NB186_184.out
   have hcz16_0 : wr.cell? ⟨gb184, 0, none⟩ = some (.int .u8 a0_0) := (blk_cell BK184.out 0).trans rfl
   have hcz16_1 : wr.cell? ⟨gb184, 1, none⟩ = some (.string a0_1) := (blk_cell BK184.out 1).trans rfl
   have hcz16_2 : wr.cell? ⟨gb184, 2, none⟩ = some (.slice A0_2 l0_2.length c0_2) := (blk_cell BK184.out 2).trans rfl
   have hcz16_3 : wr.cell? ⟨gb184, 3, none⟩ = some (.slice A0_3 l0_3.length c0_3) := (blk_cell BK184.out 3).trans rfl
   have hfz16_0 := blk_frozen BK184.out 0
   have hfz16_1 := blk_frozen BK184.out 1
   have hfz16_2 := blk_frozen BK184.out 2
   have hfz16_3 := blk_frozen BK184.out 3
   try go_wp2
   have n0_ := Aside0.mk (Kd.R_drew HO_187002.out); have n1_ := Aside0.mk (blk_drew BK184.out); have n2_ := Aside0.mk (blk_drew BK185.out); have n3_ := Aside0.mk (blk_drew BK186.out); have n4_ := Aside0.mk (below_drew1 HB.out); clear HO_187002; clear BK184; clear BK185; clear BK186; clear HB; have HO_187002 := n0_; have BK184 := n1_; have BK185 := n2_; have BK186 := n3_; have HB := n4_; clear n0_ n1_ n2_ n3_ n4_; have p187 : 0 ≤ (x4_1 : Int) := of_decide_eq_true (by first | (with_reducible assumption) | assumption)
   have q187 : x4_1 < (l0_2.length : Int) := of_decide_eq_true (by first | (with_reducible assumption) | assumption)
   obtain ⟨ad187, A187_2, c187_2, A187_3, c187_3, e187, hx187_0, hx187_1, hx187_2, hx187_3, hl187_2, hi187_2, hl187_3, hi187_3⟩ := at_T25 HR0_2.out x4_1 p187 q187
   have hw187_3 := hx187_3
   have hw187_2 := hx187_2
   have hw187_1 := hx187_1
   have hw187_0 := hx187_0
   cases e187; replace hx187_0 := (HB.out.cell (World.block_lt_of_cell? w _ hx187_0)).trans hx187_0; replace hx187_1 := (HB.out.cell (World.block_lt_of_cell? w _ hx187_1)).trans hx187_1; replace hx187_2 := (HB.out.cell (World.block_lt_of_cell? w _ hx187_2)).trans hx187_2; replace hx187_3 := (HB.out.cell (World.block_lt_of_cell? w _ hx187_3)).trans hx187_3; have HR187_2 := Aside0.mk hi187_2; have HC187_2 := Aside0.mk hl187_2; clear hi187_2 hl187_2; have HR187_3 := Aside0.mk hi187_3; have HC187_3 := Aside0.mk hl187_3; clear hi187_3 hl187_3; replace p187 := eq_true p187; replace q187 := eq_true q187; refine start_ (n := 12) (S := fun w' => w'.cell? ⟨gb186, 0, none⟩ = some (.int .u8 a0_0) ∧ w'.cell? ⟨gb186, 1, none⟩ = some (.string a0_1) ∧ w'.cell? ⟨gb186, 2, none⟩ = some (u187002) ∧ w'.cell? ⟨gb186, 3, none⟩ = some (.slice none 0 0) ∧ w'.cell? ⟨gb184, 0, none⟩ = some (.int .u8 a0_0) ∧ w'.cell? ⟨gb184, 1, none⟩ = some (.string a0_1) ∧ w'.cell? ⟨gb184, 2, none⟩ = some (.slice (some ad187) l0_2.length c0_2) ∧ w'.cell? ⟨gb184, 3, none⟩ = some (.slice A0_3 l0_3.length c0_3) ∧ w'.cell? (ad187.add ((x4_1).toNat * 4)) = some (.int .u8 ((rd_T25 l0_2 x4_1).f0)) ∧ w'.cell? ⟨(ad187.add ((x4_1).toNat * 4)).block, (ad187.add ((x4_1).toNat * 4)).off + 1, none⟩ = some (.string ((rd_T25 l0_2 x4_1).f1)) ∧ w'.cell? ⟨(ad187.add ((x4_1).toNat * 4)).block, (ad187.add ((x4_1).toNat * 4)).off + 2, none⟩ = some (.slice A187_2 ((rd_T25 l0_2 x4_1).f2).length c187_2) ∧ w'.cell? ⟨(ad187.add ((x4_1).toNat * 4)).block, (ad187.add ((x4_1).toNat * 4)).off + 3, none⟩ = some (.slice A187_3 ((rd_T25 l0_2 x4_1).f3).length c187_3)) (ds := [11]) (bz 12 0) (by kernel_rfl) rfl rfl ⟨(blk_cell BK186.out 0).trans rfl, (blk_cell BK186.out 1).trans rfl, (blk_cell BK186.out 2).trans rfl, (blk_cell BK186.out 3).trans rfl, (blk_cell BK184.out 0).trans rfl, (blk_cell BK184.out 1).trans rfl, (blk_cell BK184.out 2).trans rfl, (blk_cell BK184.out 3).trans rfl, ((HB.out.cell (World.block_lt_of_cell? w _ hw187_0)).trans hw187_0), ((HB.out.cell (World.block_lt_of_cell? w _ hw187_1)).trans hw187_1), ((HB.out.cell (World.block_lt_of_cell? w _ hw187_2)).trans hw187_2), ((HB.out.cell (World.block_lt_of_cell? w _ hw187_3)).trans hw187_3)⟩ (fun hHeld => ?_); refine with_tabW glossatorref03_Twin.tab5 glossatorref03_Twin.bits5 (fun HT_ HW_ => ?_)
   generalize wr.drew = w17 at HO_187002 BK184 BK185 BK186 HB HR187_2 HR187_3 hx187_0 hx187_1 hx187_2 hx187_3 hHeld ⊢
   refine pu 0 (some 18) (bz 12 1) HT_ rfl rfl ?_; refine pu 2 (some 20) (bz 12 5) HT_ rfl rfl ?_; refine pu 4 (some 22) (bz 12 21) HT_ rfl rfl ?_; refine tk 1 (some 19) (bz 12 23) HT_ HW_ rfl rfl hHeld ?_; refine tk 3 (some 21) (bz 12 31) HT_ HW_ rfl rfl hHeld ?_; refine pu 5 (some 23) (bz 12 63) HT_ rfl rfl ?_; refine tk 6 (some 24) (bz 12 127) HT_ HW_ rfl rfl hHeld ?_; refine one_ (i := 7) (N := some 25) (bz 12 255) rfl rfl (one_of HT_.out (by kernel_rfl)) (by decide) (fun K hK => ?_)
   refine goes_ Tryz.func17 (by kernel_rfl) rfl #[.agg #[.int .u8 ((rd_T25 l0_2 x4_1).f0), .string ((rd_T25 l0_2 x4_1).f1), .slice A187_2 ((rd_T25 l0_2 x4_1).f2).length c187_2, .slice A187_3 ((rd_T25 l0_2 x4_1).f3).length c187_3]] (by rfl) rfl rfl (by (try simp only [List.map_toArray, List.map_cons, List.map_nil]); first | done | rfl | (simp only [List.length_drop, List.length_take]; rfl)) ?_
   with_reducible refine (ih k1 (by have := HK1.out; omega) ((rd_T25 l0_2 x4_1).f0) ((rd_T25 l0_2 x4_1).f1) _ _ ((rd_T25 l0_2 x4_1).f2) _ _ ((rd_T25 l0_2 x4_1).f3) t188 t189 t190 t193 _ ?side1 ?side2 ?side3 ?side4 A12.out).mono ?_
   (case side1 => repeat (first | exact (Kd.C_below HR187_2.out HB.out) | (with_reducible refine Kd.C_alloc ?_ _) | (with_reducible refine Kd.C_drewN ?_ _) | (with_reducible refine Kd.C_drew ?_)))
   (case side2 => exact HC187_2.out)
   (case side3 => repeat (first | exact (Kd.C_below HR187_3.out HB.out) | (with_reducible refine Kd.C_alloc ?_ _) | (with_reducible refine Kd.C_drewN ?_ _) | (with_reducible refine Kd.C_drew ?_)))
   (case side4 => exact HC187_3.out)
   rintro e w18 ⟨v191, v194, rfl, ho0, ho1, hb⟩
   refine ⟨_, rfl, ?_⟩
   have n0_ := Aside0.mk (Kd.R_mono (Kd.R_told (Kd.R_told (Kd.R_old (rl HO_187002) hb) (Kd.R_base ho0)) (Kd.R_base ho1)) (fun _ h_ => h_.1)); have n1_ := Aside0.mk (Kd.R_lower (Kd.R_newB (Kd.R_newB (Kd.R_newB (Kd.R_new' ho0 (Kd.R_lt (rl HO_187002))) (g := gb184) (o := .cells #[.int .u8 a0_0, .string a0_1, .slice (some ad187) l0_2.length c0_2, .slice A0_3 l0_3.length c0_3] 25 (0, 0)) (kl BK184)) (g := gb185) (o := .cells #[.int .u8 0, .string (⟨#[]⟩ : ByteArray), .slice none 0 0, .slice none 0 0] 25 (0, 0)) (kl BK185)) (g := gb186) (o := .cells #[.int .u8 a0_0, .string a0_1, u187002, .slice none 0 0] 25 (0, 0)) (kl BK186)) (below_size (by repeat (first | (with_reducible first | exact HB.out | apply below_alloc | apply pw_below_drewN | apply below_drew1 | refine below_set ?_ GE184.out | refine below_set ?_ GE185.out | refine below_set ?_ GE186.out) | exact HB.out)))); have n2_ := Aside0.mk (Kd.R_lower (Kd.R_newB (Kd.R_newB (Kd.R_newB (Kd.R_new' ho1 (Kd.R_lt (rl HO_187002))) (g := gb184) (o := .cells #[.int .u8 a0_0, .string a0_1, .slice (some ad187) l0_2.length c0_2, .slice A0_3 l0_3.length c0_3] 25 (0, 0)) (kl BK184)) (g := gb185) (o := .cells #[.int .u8 0, .string (⟨#[]⟩ : ByteArray), .slice none 0 0, .slice none 0 0] 25 (0, 0)) (kl BK185)) (g := gb186) (o := .cells #[.int .u8 a0_0, .string a0_1, u187002, .slice none 0 0] 25 (0, 0)) (kl BK186)) (below_size (by repeat (first | (with_reducible first | exact HB.out | apply below_alloc | apply pw_below_drewN | apply below_drew1 | refine below_set ?_ GE184.out | refine below_set ?_ GE185.out | refine below_set ?_ GE186.out) | exact HB.out)))); have n3_ := Aside0.mk (blk_below (g := gb184) (o := .cells #[.int .u8 a0_0, .string a0_1, .slice (some ad187) l0_2.length c0_2, .slice A0_3 l0_3.length c0_3] 25 (0, 0)) (kl BK184) hb); have n4_ := Aside0.mk (blk_below (g := gb185) (o := .cells #[.int .u8 0, .string (⟨#[]⟩ : ByteArray), .slice none 0 0, .slice none 0 0] 25 (0, 0)) (kl BK185) hb); have n5_ := Aside0.mk (blk_below (g := gb186) (o := .cells #[.int .u8 a0_0, .string a0_1, u187002, .slice none 0 0] 25 (0, 0)) (kl BK186) hb); have n6_ := Aside0.mk (below_step (by repeat (first | (with_reducible first | exact HB.out | apply below_alloc | apply pw_below_drewN | apply below_drew1 | refine below_set ?_ GE184.out | refine below_set ?_ GE185.out | refine below_set ?_ GE186.out) | exact HB.out)) hb); clear HO_187002; clear BK184; clear BK185; clear BK186; clear HB; have HO_187002 := n0_; have HO192 := n1_; have HO195 := n2_; have BK184 := n3_; have BK185 := n4_; have BK186 := n5_; have HB := n6_; clear n0_ n1_ n2_ n3_ n4_ n5_ n6_; (try clear hb); (try clear hb2); (try clear hk); (try clear hi); (try clear ho0); (try clear ho1); obtain ⟨Ao20, co20, eo20⟩ := Kd.R_slice HO192.out
   (first | subst eo20 | (injection eo20 with f1_ f2_ f3_; have f4_ := f1_.symm; have f5_ := f3_.symm; clear f1_ f2_ f3_; subst f4_; subst f5_))
   obtain ⟨Ao21, co21, eo21⟩ := Kd.R_slice HO195.out
   (first | subst eo21 | (injection eo21 with f1_ f2_ f3_; have f4_ := f1_.symm; have f5_ := f3_.symm; clear f1_ f2_ f3_; subst f4_; subst f5_))
   refine hK.out _ _ ⟨(blk_cell BK186.out 0).trans rfl, (blk_cell BK186.out 1).trans rfl, (blk_cell BK186.out 2).trans rfl, (blk_cell BK186.out 3).trans rfl, (blk_cell BK184.out 0).trans rfl, (blk_cell BK184.out 1).trans rfl, (blk_cell BK184.out 2).trans rfl, (blk_cell BK184.out 3).trans rfl, ((HB.out.cell (World.block_lt_of_cell? w _ hw187_0)).trans hw187_0), ((HB.out.cell (World.block_lt_of_cell? w _ hw187_1)).trans hw187_1), ((HB.out.cell (World.block_lt_of_cell? w _ hw187_2)).trans hw187_2), ((HB.out.cell (World.block_lt_of_cell? w _ hw187_3)).trans hw187_3)⟩ (fun hHeld => ?_)
   clear hK K; refine norm_ (a' := ?_) ?_ ?_
   rotate_left
   ·show Act.put _ (some 25) _ = _
    simp only [Act.put, List.setIfInBounds_toArray, List.set_cons_zero, List.set_cons_succ, i64_w, i32_w]
    rfl
   refine one_ (i := 8) (N := some 26) (bz 12 511) rfl rfl (one_of HT_.out (by kernel_rfl)) (by decide) (fun K hK => ?_)
   refine value_ (w1 := ?_) (v := ?_) (by rfl) rfl ?_ ?_
   rotate_left 2
   ·go_simp
    constructor
    ·rfl
    ·rfl
   refine hK.out _ _ ⟨(blk_cell (blk_alloc BK186.out _) 0).trans rfl, (blk_cell (blk_alloc BK186.out _) 1).trans rfl, (blk_cell (blk_alloc BK186.out _) 2).trans rfl, (blk_cell (blk_alloc BK186.out _) 3).trans rfl, (blk_cell (blk_alloc BK184.out _) 0).trans rfl, (blk_cell (blk_alloc BK184.out _) 1).trans rfl, (blk_cell (blk_alloc BK184.out _) 2).trans rfl, (blk_cell (blk_alloc BK184.out _) 3).trans rfl, (World.cell?_alloc_lt _ _ _ (World.block_lt_of_cell? _ _ (((HB.out.cell (World.block_lt_of_cell? w _ hw187_0)).trans hw187_0)))).trans (((HB.out.cell (World.block_lt_of_cell? w _ hw187_0)).trans hw187_0)), (World.cell?_alloc_lt _ _ _ (World.block_lt_of_cell? _ _ (((HB.out.cell (World.block_lt_of_cell? w _ hw187_1)).trans hw187_1)))).trans (((HB.out.cell (World.block_lt_of_cell? w _ hw187_1)).trans hw187_1)), (World.cell?_alloc_lt _ _ _ (World.block_lt_of_cell? _ _ (((HB.out.cell (World.block_lt_of_cell? w _ hw187_2)).trans hw187_2)))).trans (((HB.out.cell (World.block_lt_of_cell? w _ hw187_2)).trans hw187_2)), (World.cell?_alloc_lt _ _ _ (World.block_lt_of_cell? _ _ (((HB.out.cell (World.block_lt_of_cell? w _ hw187_3)).trans hw187_3)))).trans (((HB.out.cell (World.block_lt_of_cell? w _ hw187_3)).trans hw187_3))⟩ (fun hHeld => ?_)
   clear hK K; refine norm_ (a' := ?_) ?_ ?_
   rotate_left
   ·show Act.put _ (some 26) _ = _
    simp only [Act.put, List.setIfInBounds_toArray, List.set_cons_zero, List.set_cons_succ, i64_w, i32_w]
    rfl
   refine one_ (i := 9) (N := some 27) (bz 12 1023) rfl rfl (one_of HT_.out (by kernel_rfl)) (by decide) (fun K hK => ?_)
   refine Kd.R_append_step k25 (w0 := w) w.heap.size (by rfl) (.tmp 19) (.tmp 26) 22 25 (.agg #[(.int .u8 0), (.string ⟨#[]⟩), (.slice none 0 0), (.slice none 0 0)]) 72 rfl Tryz.underlying22 info25 rfl (by decide) (by omega) u187002 x187002_1 (⟨t188, t189, t190, t193⟩ : S25) [.int .u8 t188, .string t189, .slice Ao20 t190.length co20, .slice Ao21 t193.length co21] (fun k_ => k_ ≠ gb184 ∧ k_ ≠ gb185 ∧ k_ ≠ gb186) (fun k_ => ((fun k_ => k_ ≠ gb184 ∧ k_ ≠ gb185 ∧ k_ ≠ gb186)) k_ ∧ some k_ ≠ (u187002 : Value).ownBlock) rfl rfl ?aP (fun _ hk => hk) ?aF ?aO ?aB ?aS ?aL ?_
   (case aP => exact k25_mkM _ _ _ (⟨t188, t189, t190, t193⟩ : S25) (Kd.R_mono (HO192.out) (fun k_ hk => ⟨⟨hk.1.1.2, ⟨hk.1.2, hk.2⟩⟩, hk.1.1.1.2⟩)) (Kd.R_mono (HO195.out) (fun k_ hk => ⟨⟨hk.1.1.2, ⟨hk.1.2, hk.2⟩⟩, hk.1.1.1.2⟩)))
   (case aB => exact (by repeat (first | (with_reducible first | exact HB.out | apply below_alloc | apply pw_below_drewN | apply below_drew1 | refine below_set ?_ GE184.out | refine below_set ?_ GE185.out | refine below_set ?_ GE186.out) | exact HB.out)))
   (case aF => exact (fun k_ hk => ⟨Kd.freshB (g := gb184) (o := .cells #[.int .u8 a0_0, .string a0_1, .slice (some ad187) l0_2.length c0_2, .slice A0_3 l0_3.length c0_3] 25 (0, 0)) (kl BK184) k_ hk, Kd.freshB (g := gb185) (o := .cells #[.int .u8 0, .string (⟨#[]⟩ : ByteArray), .slice none 0 0, .slice none 0 0] 25 (0, 0)) (kl BK185) k_ hk, Kd.freshB (g := gb186) (o := .cells #[.int .u8 a0_0, .string a0_1, u187002, .slice none 0 0] 25 (0, 0)) (kl BK186) k_ hk⟩))
   (case aO => exact (by (with_reducible repeat (first | apply Kd.R_alloc | apply Kd.R_drewN | apply Kd.R_drew)); exact Kd.R_mono HO_187002.out (fun _ hk => ⟨hk.1.1.1, ⟨hk.1.1.2.1, hk.1.1.2.2⟩⟩)))
   (case aS => exact (below_size (by repeat (first | (with_reducible first | exact HB.out | apply below_alloc | apply pw_below_drewN | apply below_drew1 | refine below_set ?_ GE184.out | refine below_set ?_ GE185.out | refine below_set ?_ GE186.out) | exact HB.out))))
   (case aL => have := LMc13.out; omega)
   intro v197 w19 ho hb hg hat
   rw [← Ny196.out] at ho
   have n0_ := Aside0.mk (blk_grown (g := gb184) (o := .cells #[.int .u8 a0_0, .string a0_1, .slice (some ad187) l0_2.length c0_2, .slice A0_3 l0_3.length c0_3] 25 (0, 0)) (kl BK184) hg (Kd.R_away HO_187002.out (fun _ hk => hk.1.1.1))); have n1_ := Aside0.mk (blk_grown (g := gb185) (o := .cells #[.int .u8 0, .string (⟨#[]⟩ : ByteArray), .slice none 0 0, .slice none 0 0] 25 (0, 0)) (kl BK185) hg (Kd.R_away HO_187002.out (fun _ hk => hk.1.1.2.1))); have n2_ := Aside0.mk (blk_grown (g := gb186) (o := .cells #[.int .u8 a0_0, .string a0_1, u187002, .slice none 0 0] 25 (0, 0)) (kl BK186) hg (Kd.R_away HO_187002.out (fun _ hk => hk.1.1.2.2))); have n3_ := Aside0.mk (hb); have n4_ := Aside0.mk (ho); clear BK184; clear BK185; clear BK186; clear HB; clear HO_187002; clear HO192; clear HO195; have BK184 := n0_; have BK185 := n1_; have BK186 := n2_; have HB := n3_; have HO198 := n4_; clear n0_ n1_ n2_ n3_ n4_; clear ho hb hg hat; obtain ⟨Ao22, co22, eo22⟩ := Kd.R_slice HO198.out
   (first | subst eo22 | (injection eo22 with f1_ f2_ f3_; have f4_ := f1_.symm; have f5_ := f3_.symm; clear f1_ f2_ f3_; subst f4_; subst f5_))
   refine hK.out _ _ ⟨(blk_cell BK186.out 0).trans rfl, (blk_cell BK186.out 1).trans rfl, (blk_cell BK186.out 2).trans rfl, (blk_cell BK186.out 3).trans rfl, (blk_cell BK184.out 0).trans rfl, (blk_cell BK184.out 1).trans rfl, (blk_cell BK184.out 2).trans rfl, (blk_cell BK184.out 3).trans rfl, ((HB.out.cell (World.block_lt_of_cell? w _ hw187_0)).trans hw187_0), ((HB.out.cell (World.block_lt_of_cell? w _ hw187_1)).trans hw187_1), ((HB.out.cell (World.block_lt_of_cell? w _ hw187_2)).trans hw187_2), ((HB.out.cell (World.block_lt_of_cell? w _ hw187_3)).trans hw187_3)⟩ (fun hHeld => ?_)
   clear hK K; refine norm_ (a' := ?_) ?_ ?_
   rotate_left
   ·show Act.put _ (some 27) _ = _
    simp only [Act.put, List.setIfInBounds_toArray, List.set_cons_zero, List.set_cons_succ, i64_w, i32_w]
    rfl
   refine pu 10 (some 28) (bz 12 2047) HT_ rfl rfl ?_; refine last_ (i := 11) (N := none) (bz 12 4095) rfl rfl (one_of HT_.out (by kernel_rfl)) (by decide) (fun K hK => ?_)
   have hs23 : w19.cell? ⟨gb186, 2, none⟩ = some (u187002) := (blk_cell BK186.out 2).trans rfl
   have hfs23 := blk_frozen BK186.out 2
   have hns23_0 := NB184_186.out
   have hns23_1 := NB185_186.out
   have hms23_0 := NB186_184.out
   have hms23_1 := NB186_185.out
   refine skip_ (w1 := ?_) (by rfl) rfl ?_ ?_
   rotate_left
   ·go_simp
    rfl
   refine hK.out _ _ ?_
   clear hK K; refine done_ (done_of HT_.out (by kernel_rfl)) ?_
   try go_wp2
   go_roundg k1
   case measure => have := HK1.out; omega
   case rel => exact ⟨(wrap64 (x4_1 + 1)), (y196), (.slice Ao22 y196.length co22), (by first | rfl | (simp; done) | (simp [*]; done) | (simp; exact xEmpty_ne _) | (simp [*]; exact xEmpty_ne _)), H', ⟨by have := HK1.out; omega⟩, ⟨by (with_reducible repeat (first | apply Kd.R_alloc | apply Kd.R_drewN | apply Kd.R_drew)); exact Kd.R_mono (Kd.R_far (p := ⟨gb186, 2, none⟩) (Kd.R_mono HO198.out (fun k_ hk => (⟨hk, hk.2.2⟩ : _ ∧ k_ ≠ gb186))) (fun _ hk => hk.2) (.slice Ao22 y196.length co22)) (fun _ hk => ⟨hk.1.1, ⟨hk.1.2.1, hk.1.2.2⟩⟩)⟩, ⟨by (with_reducible repeat (first | refine blk_drewN ?_ _ | refine blk_drew ?_ | refine blk_alloc ?_ _)); refine blk_far ?_ NB184_186.out _; (with_reducible repeat (first | refine blk_drewN ?_ _ | refine blk_drew ?_ | refine blk_alloc ?_ _)); exact BK184.out⟩, ⟨by (with_reducible repeat (first | refine blk_drewN ?_ _ | refine blk_drew ?_ | refine blk_alloc ?_ _)); refine blk_far ?_ NB185_186.out _; (with_reducible repeat (first | refine blk_drewN ?_ _ | refine blk_drew ?_ | refine blk_alloc ?_ _)); exact BK185.out⟩, ⟨by (with_reducible repeat (first | refine blk_drewN ?_ _ | refine blk_drew ?_ | refine blk_alloc ?_ _)); refine blk_put (cs := #[.int .u8 a0_0, .string a0_1, u187002, .slice none 0 0]) ?_ 2 _ rfl; (with_reducible repeat (first | refine blk_drewN ?_ _ | refine blk_drew ?_ | refine blk_alloc ?_ _)); exact BK186.out⟩, ⟨by repeat (first | (with_reducible first | exact HB.out | apply below_alloc | apply pw_below_drewN | apply below_drew1 | refine below_set ?_ GE184.out | refine below_set ?_ GE185.out | refine below_set ?_ GE186.out) | exact HB.out)⟩⟩
end Go.Proofs.YtebmgmagdhedgaaGreatDoor.Q
