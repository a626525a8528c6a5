/- Words and walks of this claim, put together by this repo's wip/xlink.py out of Q6, Q7. -/
import Derived.Test.YtbjhmknahldhaaaDoorL1
import Derived.Test.YtbjhmknahldhaaaDoorL2
section
namespace Go.Proofs.YtbjhmknahldhaaaDoor.Q
open Go.RowKit Go.Proofs.YtbjhmknahldhaaaDoorW.PrintWords Go.Proofs.YtbjhmknahldhaaaDoorW.PrintLast Go.Proofs.YtbjhmknahldhaaaDoorW.PrintMore
attribute [local go_sem] max2_int min2_int max_two min_two max_three min_three max_four min_four   
set_option linter.unusedVariables false
set_option linter.unusedSimpArgs false
mutual
def five_fives.l0 : Nat → ByteArray → List (S60) → List Int → Int → Int → Int → List (S38) → Int → Int → Option ((List (S60)))
 | 0, _, _, _, _, _, _, _, _, _ => none
 | k + 1, x0, x5, x6, x7, x8, x9, x15, x16, x17 => if x17 < x16 then (if 0 ≤ x17 then (if x17 < (x15.length : Int) then (five_fives.l1 k x0 x5 x6 x7 x8 x9 x15 x16 x17 ((rd_T38 x15 x17).f0.f0) ((rd_T38 x15 x17).f0.f1) ((rd_T38 x15 x17).f1) ((rd_T38 x15 x17).f2)) else (none)) else (none)) else (some x5)
def five_fives.l1 : Nat → ByteArray → List (S60) → List Int → Int → Int → Int → List (S38) → Int → Int → Int → Int → Int → Int → Option ((List (S60)))
 | 0, _, _, _, _, _, _, _, _, _, _, _, _, _ => none
 | k + 1, x0, x5, x6, x7, x8, x9, x15, x16, x17, x144000, x144001, x144002, x144003 => if 0 ≤ (wrap64 (x7 + 1)) then (if (wrap64 (x7 + 1)) < (x6.length : Int) then (if (rd x6 (wrap64 (x7 + 1))) ≤ x144000 then (five_fives.l1 k x0 x5 x6 (wrap64 (x7 + 1)) x8 x9 x15 x16 x17 x144000 x144001 x144002 x144003) else (if x7 > x8 then (if 0 ≤ x7 then (if x7 < (x6.length : Int) then (if 0 ≤ (rd x6 x7) then (if (rd x6 x7) ≤ x144000 then (if x144000 ≤ (x0.size : Int) then ((utf_Units.f (x0.extract ((rd x6 x7) : Int).toNat (x144000 : Int).toNat)).bind fun t146 => (if 0 ≤ x144000 then (if x144000 ≤ x144001 then (if x144001 ≤ (x0.size : Int) then ((utf_Units.f (x0.extract (x144000 : Int).toNat (x144001 : Int).toNat)).bind fun t147 => (if x5.length < 3518437208883 then (five_fives.l0 k x0 (x5 ++ [(⟨wrap64 (x7 - x8), wrap64 (t146), t147, x144002, x144003⟩ : S60)]) x6 x7 x7 t146 x15 x16 (wrap64 (x17 + 1))) else (none))) else (none)) else (none)) else (none))) else (none)) else (none)) else (none)) else (none)) else (none)) else (if 0 ≤ x7 then (if x7 < (x6.length : Int) then (if 0 ≤ (rd x6 x7) then (if (rd x6 x7) ≤ x144000 then (if x144000 ≤ (x0.size : Int) then ((utf_Units.f (x0.extract ((rd x6 x7) : Int).toNat (x144000 : Int).toNat)).bind fun t152 => (if 0 ≤ x144000 then (if x144000 ≤ x144001 then (if x144001 ≤ (x0.size : Int) then ((utf_Units.f (x0.extract (x144000 : Int).toNat (x144001 : Int).toNat)).bind fun t153 => (if x5.length < 3518437208883 then (five_fives.l0 k x0 (x5 ++ [(⟨wrap64 (x7 - x8), wrap64 (t152 - x9), t153, x144002, x144003⟩ : S60)]) x6 x7 x7 t152 x15 x16 (wrap64 (x17 + 1))) else (none))) else (none)) else (none)) else (none))) else (none)) else (none)) else (none)) else (none)) else (none)))) else (none)) else (none)
end
def five_fives.f (k : Nat) (a0 : ByteArray) (l1 : List (S38)) : Option ((List (S60))) := (five_ends.f a0).bind fun t139 => (five_fives.l0 k a0 ([] : List (S60)) t139 0 0 0 l1 (l1.length : Int) 0)
theorem five_fives.mono_l : ∀ k, (∀ y0 y1 y2 y3 y4 y5 y6 y7 y8, LeO (five_fives.l0 k y0 y1 y2 y3 y4 y5 y6 y7 y8) (five_fives.l0 (k + 1) y0 y1 y2 y3 y4 y5 y6 y7 y8)) ∧ (∀ y0 y1 y2 y3 y4 y5 y6 y7 y8 y9 y10 y11 y12, LeO (five_fives.l1 k y0 y1 y2 y3 y4 y5 y6 y7 y8 y9 y10 y11 y12) (five_fives.l1 (k + 1) y0 y1 y2 y3 y4 y5 y6 y7 y8 y9 y10 y11 y12))
 | 0 => ⟨fun _ _ _ _ _ _ _ _ _ r h => by simp [five_fives.l0] at h, fun _ _ _ _ _ _ _ _ _ _ _ _ _ r h => by simp [five_fives.l1] at h⟩
 | k + 1 => by
  obtain ⟨ih0, ih1⟩ := five_fives.mono_l k
  refine ⟨?_, ?_⟩
  ·intro y0 y1 y2 y3 y4 y5 y6 y7 y8
   unfold five_fives.l0
   repeat' first
   | (with_reducible exact ih0 _ _ _ _ _ _ _ _ _)
   | (with_reducible exact ih1 _ _ _ _ _ _ _ _ _ _ _ _ _)
   | (with_reducible exact LeO.refl _)
   | (with_reducible exact LeO.none _)
   | (with_reducible refine LeO.ite ?_ ?_)
   | (with_reducible refine LeO.bind ?_ (fun _ => ?_))
   | exact ih0 _ _ _ _ _ _ _ _ _
   | exact ih1 _ _ _ _ _ _ _ _ _ _ _ _ _
   | exact LeO.none _
   | refine LeO.ite ?_ ?_
   | refine LeO.bind ?_ (fun _ => ?_)
  ·intro y0 y1 y2 y3 y4 y5 y6 y7 y8 y9 y10 y11 y12
   unfold five_fives.l1
   repeat' first
   | (with_reducible exact ih0 _ _ _ _ _ _ _ _ _)
   | (with_reducible exact ih1 _ _ _ _ _ _ _ _ _ _ _ _ _)
   | (with_reducible exact LeO.refl _)
   | (with_reducible exact LeO.none _)
   | (with_reducible refine LeO.ite ?_ ?_)
   | (with_reducible refine LeO.bind ?_ (fun _ => ?_))
   | exact ih0 _ _ _ _ _ _ _ _ _
   | exact ih1 _ _ _ _ _ _ _ _ _ _ _ _ _
   | exact LeO.none _
   | refine LeO.ite ?_ ?_
   | refine LeO.bind ?_ (fun _ => ?_)
theorem five_fives.mono : ∀ a0 a1 k, LeO (five_fives.f k a0 a1) (five_fives.f (k + 1) a0 a1) := by
 intro a0 a1 k
 obtain ⟨ih0, ih1⟩ := five_fives.mono_l k
 unfold five_fives.f
 repeat' first
   | (with_reducible exact ih0 _ _ _ _ _ _ _ _ _)
   | (with_reducible exact ih1 _ _ _ _ _ _ _ _ _ _ _ _ _)
   | (with_reducible exact LeO.refl _)
   | (with_reducible exact LeO.none _)
   | (with_reducible refine LeO.ite ?_ ?_)
   | (with_reducible refine LeO.bind ?_ (fun _ => ?_))
   | exact ih0 _ _ _ _ _ _ _ _ _
   | exact ih1 _ _ _ _ _ _ _ _ _ _ _ _ _
   | exact LeO.none _
   | refine LeO.ite ?_ ?_
   | refine LeO.bind ?_ (fun _ => ?_)
def five_fives.T7 : Bool × List (List Nat × List Nat) := (true, [([], []), ([], []), ([1], [1]), ([0, 2], [0, 2]), ([3], [3]), ([], []), ([5], [5]), ([6], [6]), ([4, 7], [4, 7])])
def five_fives.B7 : List Nat := [0, 0, 2, 7, 15, 0, 32, 96, 255]
theorem five_fives.tab7 : rtab .any (opsOf Tryd.f23 7) = five_fives.T7 := by kernel_rfl
theorem five_fives.bits7 : waitsOk five_fives.T7.2 five_fives.B7 = true := by kernel_rfl
def five_fives.T11 : Bool × List (List Nat × List Nat) := (true, [([], []), ([], []), ([], []), ([1, 2], [1, 2]), ([3], [3]), ([], []), ([5], [5]), ([6], [6]), ([0, 4, 7], [0, 4, 7]), ([8], [8]), ([9, 9, 0, 1, 2, 3, 4, 5, 6, 7, 8, 9], [9])])
def five_fives.B11 : List Nat := [0, 0, 0, 6, 14, 0, 32, 96, 255, 511, 1023]
theorem five_fives.tab11 : rtab .any (opsOf Tryd.f23 11) = five_fives.T11 := by kernel_rfl
theorem five_fives.bits11 : waitsOk five_fives.T11.2 five_fives.B11 = true := by kernel_rfl
def five_fives.T12 : Bool × List (List Nat × List Nat) := (true, [([], []), ([], []), ([], []), ([1, 2], [1, 2]), ([], []), ([], []), ([4, 5], [4, 5]), ([], []), ([], []), ([8], [8]), ([9], [9]), ([], []), ([11], [11]), ([12], [12]), ([7, 10, 13], [7, 10, 13]), ([14], [14]), ([], []), ([16], [16]), ([], []), ([18], [18]), ([3, 6, 15, 17, 19], [3, 6, 15, 17, 19]), ([20], [20]), ([0, 21, 15], [0, 21]), ([22, 22, 0, 1, 2, 3, 4, 5, 6, 7, 8, 9, 10, 11, 12, 13, 14, 15, 16, 17, 18, 19, 20, 21, 22], [0, 22])])
def five_fives.B12 : List Nat := [0, 0, 0, 6, 0, 0, 48, 0, 0, 256, 768, 0, 2048, 6144, 16256, 32640, 0, 65536, 0, 262144, 1048574, 2097150, 4194303, 8388607]
theorem five_fives.tab12 : rtab .any (opsOf Tryd.f23 12) = five_fives.T12 := by kernel_rfl
theorem five_fives.bits12 : waitsOk five_fives.T12.2 five_fives.B12 = true := by kernel_rfl
set_option maxHeartbeats 8000000 in
set_option maxRecDepth 100000 in
theorem five_fives.calls (k : Nat) (a0 : ByteArray) (A1 : Option Addr) (c1 : Nat) (l1 : List (S38)) (r : List (S60)) (w : World) (hr1 : Kd.C k38 w A1 l1.length l1) (hc1 : l1.length ≤ c1) (h : five_fives.f k a0 l1 = some r) :
  Calls Tryd.prog 23 #[.string a0, .slice A1 l1.length c1] w fun e w' => ∃ v0_ : Value, e = .returned (v0_) ∧ Kd.R k60 60 w' w.heap.size (fun _ => True) v0_ r ∧ Below w.heap.size w w' := by
 have hu38 := Tryd.underlying38
 have hu60 := Tryd.underlying60
 have HR1 := Aside0.mk hr1; have HC1 := Aside0.mk hc1; clear hr1 hc1; have HB := Aside0.mk (Below.refl w.heap.size w)
 have H : ((five_ends.f a0).bind fun t139 => (five_fives.l0 k a0 ([] : List (S60)) t139 0 0 0 l1 (l1.length : Int) 0)) = some r := h
 clear h; replace H := Option.bind_eq_some_iff.mp H
 obtain ⟨t139, A30, H⟩ := H
 replace H : (five_fives.l0 k a0 ([] : List (S60)) t139 0 0 0 l1 (l1.length : Int) 0) = some r := H
 have A3 := Aside0.mk A30; clear A30; have H' := Aside0.mk H; clear H; go_enter Tryd.func23, Tryd.ntmps23
 go_wp2_with (first | ((with_reducible refine gate_callee (f := 25) rfl ?_); refine goesL_ (some 14) rfl rfl Tryd.func25 (by kernel_rfl) rfl #[.string a0] rfl (by (try simp only [List.map_toArray, List.map_cons, List.map_nil]); first | done | rfl | (simp only [List.length_drop, List.length_take]; rfl)) ?_; (with_reducible refine (five_ends.calls a0 t139 _ A3.out).mono ?_); rintro e w4 ⟨v140, rfl, ho0, hb⟩; refine ⟨_, rfl, ?_⟩; have n0_ := Aside0.mk (Kd.R_lower ho0 (below_size (bl HB))); have n1_ := Aside0.mk (below_step (bl HB) hb); clear HB; have HO141 := n0_; have HB := n1_; clear n0_ n1_; (try clear hb); (try clear hb2); (try clear hk); (try clear hi); (try clear ho0)))
 go_loopg [5, 7, 8, 9, 17] k (fun kq v5 v7 v8 v9 v17 w' => ∃ (x5_1 : List (S60)) (x7_1 : Int) (x8_1 : Int) (x9_1 : Int) (x17_1 : Int), v7 = .int .i64 x7_1 ∧ v8 = .int .i64 x8_1 ∧ v9 = .int .i64 x9_1 ∧ v17 = .int .i64 x17_1 ∧ Aside0 (five_fives.l0 kq a0 x5_1 t139 x7_1 x8_1 x9_1 l1 (l1.length : Int) x17_1 = some r) ∧ Aside0 (kq ≤ k) ∧ Aside0 (Kd.R k60 60 w' w.heap.size (fun _ => True) v5 x5_1) ∧ Aside0 (Kd.R (Kd.int .i64) 3 w' w.heap.size (fun _ => True) v140 t139) ∧ Aside0 (Below w.heap.size w w'))
 case atStart => exact ⟨(([] : List (S60))), (0), (0), (0), (0), (by first | rfl | (simp; done) | (simp [*]; done) | (simp; exact xEmpty_ne _) | (simp [*]; exact xEmpty_ne _)), (by first | rfl | (simp; done) | (simp [*]; done) | (simp; exact xEmpty_ne _) | (simp [*]; exact xEmpty_ne _)), (by first | rfl | (simp; done) | (simp [*]; done) | (simp; exact xEmpty_ne _) | (simp [*]; exact xEmpty_ne _)), (by first | rfl | (simp; done) | (simp [*]; done) | (simp; exact xEmpty_ne _) | (simp [*]; exact xEmpty_ne _)), H', ⟨Nat.le_refl _⟩, ⟨by first | exact Kd.R_nil _ _ _ _ _ | exact Kd.N_nil _ _ _ _ _ | exact Kd.V_nil _ _ _ _ _ | exact Kd.Q_nil _ _ _ _ _ | exact Kd.S_nil _ _ _ _ _⟩, ⟨rl HO141⟩, ⟨bl HB⟩⟩
 case round =>
  clear H'; (try clear c1); (try clear c2); (try clear p2); (try clear HO_5); (try clear HO_6); (try clear HB)
  obtain ⟨x5_1, x7_1, x8_1, x9_1, x17_1, rfl, rfl, rfl, rfl, HA, HK1, HO_5, HO_6, HB⟩ := hrel
  cases gk with
  | zero => exact absurd HA.out (by simp [five_fives.l0])
  | succ k1 =>
   have H := HA.out
   clear HA; simp only [five_fives.l0] at H
   by_cases c5 : x17_1 < (l1.length : Int)
   rotate_left
   ·rw [if_neg c5] at H; have c5b0 : decide (x17_1 < (l1.length : Int)) = false := decide_eq_false c5; clear c5; obtain rfl := Option.some.inj H; go_wp2
    go_ret
    exact ⟨_, by first | rfl | (simp [errW_none, errW_some] <;> rfl) | (simp [*, errW_none, errW_some] <;> rfl), rl HO_5, bl HB⟩
   rw [if_pos c5] at H; have c5b0 : decide (x17_1 < (l1.length : Int)) = true := decide_eq_true c5; clear c5; by_cases c6 : 0 ≤ x17_1
   rotate_left
   ·rw [if_neg c6] at H; exact absurd H (by simp)
   rw [if_pos c6] at H; have c6b0 : decide (0 ≤ x17_1) = true := decide_eq_true c6; clear c6; by_cases c7 : x17_1 < (l1.length : Int)
   rotate_left
   ·rw [if_neg c7] at H; exact absurd H (by simp)
   rw [if_pos c7] at H; have c7b0 : decide (x17_1 < (l1.length : Int)) = true := decide_eq_true c7; clear c7; have H' := Aside0.mk H; clear H; have p142 : 0 ≤ (x17_1 : Int) := of_decide_eq_true (by first | (with_reducible assumption) | assumption)
   have q142 : x17_1 < (l1.length : Int) := of_decide_eq_true (by first | (with_reducible assumption) | assumption)
   obtain ⟨ad142, e142, hx142_0, hx142_1, hx142_2, hx142_3⟩ := at_T38 HR1.out x17_1 p142 q142
   cases e142; replace hx142_0 := (HB.out.cell (World.block_lt_of_cell? w _ hx142_0)).trans hx142_0; replace hx142_1 := (HB.out.cell (World.block_lt_of_cell? w _ hx142_1)).trans hx142_1; replace hx142_2 := (HB.out.cell (World.block_lt_of_cell? w _ hx142_2)).trans hx142_2; replace hx142_3 := (HB.out.cell (World.block_lt_of_cell? w _ hx142_3)).trans hx142_3; replace p142 := eq_true p142; replace q142 := eq_true q142; go_wp2_with (first | ((with_reducible refine gate_dst (N := 11) rfl ?_); refine box_event ?hg (N := 11) ?hd (cs := #[.int .i64 0, .int .i64 0, .int .i64 0, .int .i64 0]) (t := 38) ?hr ?_; (case hd => rfl); (case hg => rfl); (case hr => first | (go_simp; done) | (go_simp; rfl)); intro gb143 hg w8 hbox hb; have n0_ := Aside0.mk (Kd.R_below (rl HO_5) hb); have n1_ := Aside0.mk (Kd.R_below (rl HO_6) hb); have n2_ := Aside0.mk (below_step (bl HB) hb); have n3_ := Aside0.mk (hbox); have n4_ := Aside0.mk ((by rw [hg]; exact (below_size (bl HB)) : w.heap.size ≤ gb143)); have n5_ := Aside0.mk ((by rw [hg]; exact (below_size (bl HB)) : w.heap.size ≤ gb143)); clear HO_5; clear HO_6; clear HB; have HO_5 := n0_; have HO_6 := n1_; have HB := n2_; have BK143 := n3_; have GW143 := n4_; have GE143 := n5_; clear n0_ n1_ n2_ n3_ n4_ n5_; clear hb hbox hg; have hcz9_0 : w8.cell? ⟨gb143, 0, none⟩ = some (.int .i64 0) := (blk_cell BK143.out 0).trans rfl; have hcz9_1 : w8.cell? ⟨gb143, 1, none⟩ = some (.int .i64 0) := (blk_cell BK143.out 1).trans rfl; have hcz9_2 : w8.cell? ⟨gb143, 2, none⟩ = some (.int .i64 0) := (blk_cell BK143.out 2).trans rfl; have hcz9_3 : w8.cell? ⟨gb143, 3, none⟩ = some (.int .i64 0) := (blk_cell BK143.out 3).trans rfl; have hfz9_0 := blk_frozen BK143.out 0; have hfz9_1 := blk_frozen BK143.out 1; have hfz9_2 := blk_frozen BK143.out 2; have hfz9_3 := blk_frozen BK143.out 3))
   go_loopg [7] k1 (fun kq v7 w' => ∃ (x7_2 : Int), v7 = .int .i64 x7_2 ∧ Aside0 (five_fives.l1 kq a0 x5_1 t139 x7_2 x8_1 x9_1 l1 (l1.length : Int) x17_1 ((rd_T38 l1 x17_1).f0.f0) ((rd_T38 l1 x17_1).f0.f1) ((rd_T38 l1 x17_1).f1) ((rd_T38 l1 x17_1).f2) = some r) ∧ Aside0 (kq ≤ k1) ∧ Aside0 (Kd.R k60 60 w' w.heap.size (fun _ => True) u5 x5_1) ∧ Aside0 (Kd.R (Kd.int .i64) 3 w' w.heap.size (fun _ => True) v140 t139) ∧ Aside0 (w'.heap[gb143]? = some (.cells #[.int .i64 ((rd_T38 l1 x17_1).f0.f0), .int .i64 ((rd_T38 l1 x17_1).f0.f1), .int .i64 ((rd_T38 l1 x17_1).f1), .int .i64 ((rd_T38 l1 x17_1).f2)] 38 (0, 0))) ∧ Aside0 (Below w.heap.size w w'))
   case atStart => exact ⟨(x7_1), (by first | rfl | (simp; done) | (simp [*]; done) | (simp; exact xEmpty_ne _) | (simp [*]; exact xEmpty_ne _)), H', ⟨Nat.le_refl _⟩, ⟨by (with_reducible repeat (first | apply Kd.R_alloc | apply Kd.R_drewN | apply Kd.R_drew)); exact Kd.R_mono (Kd.R_far (p := ⟨gb143, 3, none⟩) (Kd.R_far (p := ⟨gb143, 2, none⟩) (Kd.R_far (p := ⟨gb143, 1, none⟩) (Kd.R_far (p := ⟨gb143, 0, none⟩) (Kd.R_types HO_5.out BK143.out (by decide)) (fun _ hk => hk.2) (.int .i64 ((rd_T38 l1 x17_1).f0.f0))) (fun _ hk => hk.2) (.int .i64 ((rd_T38 l1 x17_1).f0.f1))) (fun _ hk => hk.2) (.int .i64 ((rd_T38 l1 x17_1).f1))) (fun _ hk => hk.2) (.int .i64 ((rd_T38 l1 x17_1).f2))) (fun _ hk => trivial)⟩, ⟨by (with_reducible repeat (first | apply Kd.R_alloc | apply Kd.R_drewN | apply Kd.R_drew)); exact Kd.R_mono (Kd.R_far (p := ⟨gb143, 3, none⟩) (Kd.R_far (p := ⟨gb143, 2, none⟩) (Kd.R_far (p := ⟨gb143, 1, none⟩) (Kd.R_far (p := ⟨gb143, 0, none⟩) (Kd.R_types HO_6.out BK143.out (by decide)) (fun _ hk => hk.2) (.int .i64 ((rd_T38 l1 x17_1).f0.f0))) (fun _ hk => hk.2) (.int .i64 ((rd_T38 l1 x17_1).f0.f1))) (fun _ hk => hk.2) (.int .i64 ((rd_T38 l1 x17_1).f1))) (fun _ hk => hk.2) (.int .i64 ((rd_T38 l1 x17_1).f2))) (fun _ hk => trivial)⟩, ⟨by (with_reducible repeat (first | refine blk_drewN ?_ _ | refine blk_drew ?_ | refine blk_alloc ?_ _)); refine blk_put (cs := #[.int .i64 ((rd_T38 l1 x17_1).f0.f0), .int .i64 ((rd_T38 l1 x17_1).f0.f1), .int .i64 ((rd_T38 l1 x17_1).f1), .int .i64 0]) ?_ 3 _ rfl; (with_reducible repeat (first | refine blk_drewN ?_ _ | refine blk_drew ?_ | refine blk_alloc ?_ _)); refine blk_put (cs := #[.int .i64 ((rd_T38 l1 x17_1).f0.f0), .int .i64 ((rd_T38 l1 x17_1).f0.f1), .int .i64 0, .int .i64 0]) ?_ 2 _ rfl; (with_reducible repeat (first | refine blk_drewN ?_ _ | refine blk_drew ?_ | refine blk_alloc ?_ _)); refine blk_put (cs := #[.int .i64 ((rd_T38 l1 x17_1).f0.f0), .int .i64 0, .int .i64 0, .int .i64 0]) ?_ 1 _ rfl; (with_reducible repeat (first | refine blk_drewN ?_ _ | refine blk_drew ?_ | refine blk_alloc ?_ _)); refine blk_put (cs := #[.int .i64 0, .int .i64 0, .int .i64 0, .int .i64 0]) ?_ 0 _ rfl; (with_reducible repeat (first | refine blk_drewN ?_ _ | refine blk_drew ?_ | refine blk_alloc ?_ _)); exact BK143.out⟩, ⟨by repeat (first | (with_reducible first | exact HB.out | apply below_alloc | apply pw_below_drewN | apply below_drew1 | refine below_set ?_ GE143.out) | exact HB.out)⟩⟩
   case round =>
    clear H'; (try clear c1); (try clear p1); (try clear q1); (try clear hx1); (try clear c2); (try clear p2); (try clear c5); (try clear c5b0); (try clear c6); (try clear c6b0); (try clear c7); (try clear c7b0); (try clear hcz9_0); (try clear hcz9_1); (try clear hcz9_2); (try clear hcz9_3); (try clear hfz9_0); (try clear hfz9_1); (try clear hfz9_2); (try clear hfz9_3); (try clear hx142_0); (try clear hx142_1); (try clear hx142_2); (try clear hx142_3); (try clear p142); (try clear p2); (try clear q142); (try clear HO_5); (try clear HO_6); (try clear BK143); (try clear HB)
    obtain ⟨x7_2, rfl, HA, HK2, HO_5, HO_6, BK143, HB⟩ := hrel
    cases gk with
    | zero => exact absurd HA.out (by simp [five_fives.l1])
    | succ k2 =>
     have H := HA.out
     clear HA; simp only [five_fives.l1] at H
     obtain ⟨ji10, hji10⟩ : ∃ j_ : Int, (wrap64 (x7_2 + 1)) = j_ := ⟨_, rfl⟩
     replace H : (if 0 ≤ (ji10) then (if (ji10) < (t139.length : Int) then (if (rd t139 (ji10)) ≤ ((rd_T38 l1 x17_1).f0.f0) then (five_fives.l1 k2 a0 x5_1 t139 ji10 x8_1 x9_1 l1 (l1.length : Int) x17_1 ((rd_T38 l1 x17_1).f0.f0) ((rd_T38 l1 x17_1).f0.f1) ((rd_T38 l1 x17_1).f1) ((rd_T38 l1 x17_1).f2)) else (if x7_2 > x8_1 then (if 0 ≤ x7_2 then (if x7_2 < (t139.length : Int) then (if 0 ≤ (rd t139 x7_2) then (if (rd t139 x7_2) ≤ ((rd_T38 l1 x17_1).f0.f0) then (if ((rd_T38 l1 x17_1).f0.f0) ≤ (a0.size : Int) then ((utf_Units.f (a0.extract ((rd t139 x7_2) : Int).toNat (((rd_T38 l1 x17_1).f0.f0) : Int).toNat)).bind fun t146 => (if 0 ≤ ((rd_T38 l1 x17_1).f0.f0) then (if ((rd_T38 l1 x17_1).f0.f0) ≤ ((rd_T38 l1 x17_1).f0.f1) then (if ((rd_T38 l1 x17_1).f0.f1) ≤ (a0.size : Int) then ((utf_Units.f (a0.extract (((rd_T38 l1 x17_1).f0.f0) : Int).toNat (((rd_T38 l1 x17_1).f0.f1) : Int).toNat)).bind fun t147 => (if x5_1.length < 3518437208883 then (five_fives.l0 k2 a0 (x5_1 ++ [(⟨wrap64 (x7_2 - x8_1), wrap64 (t146), t147, ((rd_T38 l1 x17_1).f1), ((rd_T38 l1 x17_1).f2)⟩ : S60)]) t139 x7_2 x7_2 t146 l1 (l1.length : Int) (wrap64 (x17_1 + 1))) else (none))) else (none)) else (none)) else (none))) else (none)) else (none)) else (none)) else (none)) else (none)) else (if 0 ≤ x7_2 then (if x7_2 < (t139.length : Int) then (if 0 ≤ (rd t139 x7_2) then (if (rd t139 x7_2) ≤ ((rd_T38 l1 x17_1).f0.f0) then (if ((rd_T38 l1 x17_1).f0.f0) ≤ (a0.size : Int) then ((utf_Units.f (a0.extract ((rd t139 x7_2) : Int).toNat (((rd_T38 l1 x17_1).f0.f0) : Int).toNat)).bind fun t152 => (if 0 ≤ ((rd_T38 l1 x17_1).f0.f0) then (if ((rd_T38 l1 x17_1).f0.f0) ≤ ((rd_T38 l1 x17_1).f0.f1) then (if ((rd_T38 l1 x17_1).f0.f1) ≤ (a0.size : Int) then ((utf_Units.f (a0.extract (((rd_T38 l1 x17_1).f0.f0) : Int).toNat (((rd_T38 l1 x17_1).f0.f1) : Int).toNat)).bind fun t153 => (if x5_1.length < 3518437208883 then (five_fives.l0 k2 a0 (x5_1 ++ [(⟨wrap64 (x7_2 - x8_1), wrap64 (t152 - x9_1), t153, ((rd_T38 l1 x17_1).f1), ((rd_T38 l1 x17_1).f2)⟩ : S60)]) t139 x7_2 x7_2 t152 l1 (l1.length : Int) (wrap64 (x17_1 + 1))) else (none))) else (none)) else (none)) else (none))) else (none)) else (none)) else (none)) else (none)) else (none)))) else (none)) else (none)) = some r := by first | (rw [hji10] at H; exact H) | (simp only [hji10] at H ⊢; exact H)
     have hji10w : (IntKind.i64.wrap (x7_2 + 1)) = ji10 := (i64_w _).trans hji10
     by_cases c11 : 0 ≤ (ji10)
     rotate_left
     ·rw [if_neg c11] at H; exact absurd H (by simp)
     rw [if_pos c11] at H; have c11b0 : decide (0 ≤ (ji10)) = true := decide_eq_true c11; clear c11; by_cases c12 : (ji10) < (t139.length : Int)
     rotate_left
     ·rw [if_neg c12] at H; exact absurd H (by simp)
     rw [if_pos c12] at H; have c12b0 : decide ((ji10) < (t139.length : Int)) = true := decide_eq_true c12; clear c12; by_cases c13 : (rd t139 (ji10)) ≤ ((rd_T38 l1 x17_1).f0.f0)
     ·rw [if_pos c13] at H; have c13b0 : decide ((rd t139 (ji10)) ≤ ((rd_T38 l1 x17_1).f0.f0)) = true := decide_eq_true c13; clear c13; have H' := Aside0.mk H; clear H; try go_wp2
      have n0_ := Aside0.mk (Kd.R_drew HO_5.out); have n1_ := Aside0.mk (Kd.R_drew HO_6.out); have n2_ := Aside0.mk (blk_drew BK143.out); have n3_ := Aside0.mk (below_drew1 HB.out); clear HO_5; clear HO_6; clear BK143; clear HB; have HO_5 := n0_; have HO_6 := n1_; have BK143 := n2_; have HB := n3_; clear n0_ n1_ n2_ n3_; obtain ⟨Ao15, co15, eo15⟩ := Kd.R_slice HO_6.out
      (first | subst eo15 | (injection eo15 with f1_ f2_ f3_; have f4_ := f1_.symm; have f5_ := f3_.symm; clear f1_ f2_ f3_; subst f4_; subst f5_))
      have p144 : 0 ≤ ((ji10) : Int) := of_decide_eq_true (by first | (with_reducible assumption) | assumption)
      have q144 : (ji10) < (t139.length : Int) := of_decide_eq_true (by first | (with_reducible assumption) | assumption)
      obtain ⟨ad144, e144, hx144_0⟩ := Kd.at_int (Kd.R_reads' HO_6.out).2.2 (ji10) p144 q144
      cases e144; replace p144 := eq_true p144; replace q144 := eq_true q144; refine start_ (n := 9) (S := fun w' => w'.cell? ⟨gb143, 0, none⟩ = some (.int .i64 ((rd_T38 l1 x17_1).f0.f0)) ∧ w'.cell? ⟨gb143, 1, none⟩ = some (.int .i64 ((rd_T38 l1 x17_1).f0.f1)) ∧ w'.cell? ⟨gb143, 2, none⟩ = some (.int .i64 ((rd_T38 l1 x17_1).f1)) ∧ w'.cell? ⟨gb143, 3, none⟩ = some (.int .i64 ((rd_T38 l1 x17_1).f2)) ∧ w'.cell? (ad144.add ((ji10)).toNat) = some (.int .i64 (rd t139 (ji10)))) (ds := []) (bz 9 0) (by kernel_rfl) rfl rfl ⟨(blk_cell BK143.out 0).trans rfl, (blk_cell BK143.out 1).trans rfl, (blk_cell BK143.out 2).trans rfl, (blk_cell BK143.out 3).trans rfl, hx144_0⟩ (fun hHeld => ?_); refine with_tabW five_fives.tab7 five_fives.bits7 (fun HT_ HW_ => ?_)
      generalize wr.drew = w14 at HO_5 HO_6 BK143 HB hx144_0 hHeld ⊢
      refine pu 0 (some 21) (bz 9 1) HT_ rfl rfl ?_; refine pu 1 (some 22) (bz 9 3) HT_ rfl rfl ?_; refine pu 2 (some 23) (bz 9 7) HT_ rfl rfl ?_; refine pu 3 (some 24) (bz 9 15) HT_ rfl rfl ?_; refine pu 5 (some 26) (bz 9 47) HT_ rfl rfl ?_; refine pu 6 (some 27) (bz 9 111) HT_ rfl rfl ?_; refine tk 4 (some 25) (bz 9 127) HT_ HW_ rfl rfl hHeld ?_; refine tk 7 (some 28) (bz 9 255) HT_ HW_ rfl rfl hHeld ?_; refine pu 8 (some 29) (bz 9 511) HT_ rfl rfl ?_; refine done_ (done_of HT_.out (by kernel_rfl)) ?_
      try go_wp2
      go_roundg k2
      case measure => have := HK1.out; have := HK2.out; omega
      case rel => exact ⟨(ji10), (by first | rfl | (simp; done) | (simp only [← hji10] <;> (first | rfl | simp)) | (simp [*]; done)), H', ⟨by have := HK1.out; have := HK2.out; omega⟩, ⟨rl HO_5⟩, ⟨rl HO_6⟩, ⟨kl BK143⟩, ⟨by repeat (first | (with_reducible first | exact HB.out | apply below_alloc | apply pw_below_drewN | apply below_drew1 | refine below_set ?_ GE143.out) | exact HB.out)⟩⟩
     ·rw [if_neg c13] at H; have c13b0 : decide ((rd t139 (ji10)) ≤ ((rd_T38 l1 x17_1).f0.f0)) = false := decide_eq_false c13; clear c13; by_cases c16 : x7_2 > x8_1
      ·rw [if_pos c16] at H; have c16b0 : decide (x8_1 < x7_2) = true := decide_eq_true c16; clear c16; by_cases c17 : 0 ≤ x7_2
       ·rw [if_pos c17] at H; have c17b0 : decide (0 ≤ x7_2) = true := decide_eq_true c17; clear c17; by_cases c18 : x7_2 < (t139.length : Int)
        ·rw [if_pos c18] at H; have c18b0 : decide (x7_2 < (t139.length : Int)) = true := decide_eq_true c18; clear c18; by_cases c19 : 0 ≤ (rd t139 x7_2)
         ·rw [if_pos c19] at H; have c19b0 := eq_true c19
          have c19b1 : decide (0 ≤ (rd t139 x7_2)) = true := decide_eq_true c19; clear c19; by_cases c20 : (rd t139 x7_2) ≤ ((rd_T38 l1 x17_1).f0.f0)
          rotate_left
          ·rw [if_neg c20] at H; exact absurd H (by simp)
          rw [if_pos c20] at H; have c20b0 := eq_true c20
          have c20b1 : decide ((rd t139 x7_2) ≤ ((rd_T38 l1 x17_1).f0.f0)) = true := decide_eq_true c20; clear c20; by_cases c21 : ((rd_T38 l1 x17_1).f0.f0) ≤ (a0.size : Int)
          rotate_left
          ·rw [if_neg c21] at H; exact absurd H (by simp)
          rw [if_pos c21] at H; have c21b0 := eq_true c21
          have c21b1 : decide (((rd_T38 l1 x17_1).f0.f0) ≤ (a0.size : Int)) = true := decide_eq_true c21; clear c21; replace H := Option.bind_eq_some_iff.mp H
          obtain ⟨t146, A220, H⟩ := H
          replace H : (if 0 ≤ ((rd_T38 l1 x17_1).f0.f0) then (if ((rd_T38 l1 x17_1).f0.f0) ≤ ((rd_T38 l1 x17_1).f0.f1) then (if ((rd_T38 l1 x17_1).f0.f1) ≤ (a0.size : Int) then ((utf_Units.f (a0.extract (((rd_T38 l1 x17_1).f0.f0) : Int).toNat (((rd_T38 l1 x17_1).f0.f1) : Int).toNat)).bind fun t147 => (if x5_1.length < 3518437208883 then (five_fives.l0 k2 a0 (x5_1 ++ [(⟨wrap64 (x7_2 - x8_1), wrap64 (t146), t147, ((rd_T38 l1 x17_1).f1), ((rd_T38 l1 x17_1).f2)⟩ : S60)]) t139 x7_2 x7_2 t146 l1 (l1.length : Int) (wrap64 (x17_1 + 1))) else (none))) else (none)) else (none)) else (none)) = some r := H
          have A22 := Aside0.mk A220; clear A220; by_cases c23 : 0 ≤ ((rd_T38 l1 x17_1).f0.f0)
          rotate_left
          ·rw [if_neg c23] at H; exact absurd H (by simp)
          rw [if_pos c23] at H; have c23b0 := eq_true c23
          have c23b1 : decide (0 ≤ ((rd_T38 l1 x17_1).f0.f0)) = true := decide_eq_true c23; clear c23; by_cases c24 : ((rd_T38 l1 x17_1).f0.f0) ≤ ((rd_T38 l1 x17_1).f0.f1)
          rotate_left
          ·rw [if_neg c24] at H; exact absurd H (by simp)
          rw [if_pos c24] at H; have c24b0 := eq_true c24
          have c24b1 : decide (((rd_T38 l1 x17_1).f0.f0) ≤ ((rd_T38 l1 x17_1).f0.f1)) = true := decide_eq_true c24; clear c24; by_cases c25 : ((rd_T38 l1 x17_1).f0.f1) ≤ (a0.size : Int)
          rotate_left
          ·rw [if_neg c25] at H; exact absurd H (by simp)
          rw [if_pos c25] at H; have c25b0 := eq_true c25
          have c25b1 : decide (((rd_T38 l1 x17_1).f0.f1) ≤ (a0.size : Int)) = true := decide_eq_true c25; clear c25; replace H := Option.bind_eq_some_iff.mp H
          obtain ⟨t147, A260, H⟩ := H
          replace H : (if x5_1.length < 3518437208883 then (five_fives.l0 k2 a0 (x5_1 ++ [(⟨wrap64 (x7_2 - x8_1), wrap64 (t146), t147, ((rd_T38 l1 x17_1).f1), ((rd_T38 l1 x17_1).f2)⟩ : S60)]) t139 x7_2 x7_2 t146 l1 (l1.length : Int) (wrap64 (x17_1 + 1))) else (none)) = some r := H
          have A26 := Aside0.mk A260; clear A260; by_cases c27 : x5_1.length < 3518437208883
          rotate_left
          ·rw [if_neg c27] at H; exact absurd H (by simp)
          rw [if_pos c27] at H; have LMc27 := Aside0.mk c27; clear c27; obtain ⟨y148, hy148⟩ : ∃ y_ : List (S60), y_ = (x5_1 ++ [(⟨wrap64 (x7_2 - x8_1), wrap64 (t146), t147, ((rd_T38 l1 x17_1).f1), ((rd_T38 l1 x17_1).f2)⟩ : S60)]) := ⟨_, rfl⟩
          replace H : (five_fives.l0 k2 a0 y148 t139 x7_2 x7_2 t146 l1 (l1.length : Int) (wrap64 (x17_1 + 1))) = some r := by first | (rw [hy148]; with_reducible exact H) | (have H2_ := (Option.bind_some _ _).symm.trans H; rw [hy148]; with_reducible exact H2_) | (have H2_ := (Option.bind_some _ _).symm.trans H; with_reducible exact H2_) | with_reducible exact H | (rw [hy148]; exact H) | exact H
          have Ny148 := Aside0.mk hy148; clear hy148; have H' := Aside0.mk H; clear H; try go_wp2
          have n0_ := Aside0.mk (Kd.R_drew HO_5.out); have n1_ := Aside0.mk (Kd.R_drew HO_6.out); have n2_ := Aside0.mk (blk_drew BK143.out); have n3_ := Aside0.mk (below_drew1 HB.out); clear HO_5; clear HO_6; clear BK143; clear HB; have HO_5 := n0_; have HO_6 := n1_; have BK143 := n2_; have HB := n3_; clear n0_ n1_ n2_ n3_; obtain ⟨Ao29, co29, eo29⟩ := Kd.R_slice HO_6.out
          (first | subst eo29 | (injection eo29 with f1_ f2_ f3_; have f4_ := f1_.symm; have f5_ := f3_.symm; clear f1_ f2_ f3_; subst f4_; subst f5_))
          have p144 : 0 ≤ ((ji10) : Int) := of_decide_eq_true (by first | (with_reducible assumption) | assumption)
          have q144 : (ji10) < (t139.length : Int) := of_decide_eq_true (by first | (with_reducible assumption) | assumption)
          obtain ⟨ad144, e144, hx144_0⟩ := Kd.at_int (Kd.R_reads' HO_6.out).2.2 (ji10) p144 q144
          cases e144; replace p144 := eq_true p144; replace q144 := eq_true q144; refine start_ (n := 9) (S := fun w' => w'.cell? ⟨gb143, 0, none⟩ = some (.int .i64 ((rd_T38 l1 x17_1).f0.f0)) ∧ w'.cell? ⟨gb143, 1, none⟩ = some (.int .i64 ((rd_T38 l1 x17_1).f0.f1)) ∧ w'.cell? ⟨gb143, 2, none⟩ = some (.int .i64 ((rd_T38 l1 x17_1).f1)) ∧ w'.cell? ⟨gb143, 3, none⟩ = some (.int .i64 ((rd_T38 l1 x17_1).f2)) ∧ w'.cell? (ad144.add ((ji10)).toNat) = some (.int .i64 (rd t139 (ji10)))) (ds := []) (bz 9 0) (by kernel_rfl) rfl rfl ⟨(blk_cell BK143.out 0).trans rfl, (blk_cell BK143.out 1).trans rfl, (blk_cell BK143.out 2).trans rfl, (blk_cell BK143.out 3).trans rfl, hx144_0⟩ (fun hHeld => ?_); refine with_tabW five_fives.tab7 five_fives.bits7 (fun HT_ HW_ => ?_)
          generalize wr.drew = w28 at HO_5 HO_6 BK143 HB hx144_0 hHeld ⊢
          refine pu 0 (some 21) (bz 9 1) HT_ rfl rfl ?_; refine pu 1 (some 22) (bz 9 3) HT_ rfl rfl ?_; refine pu 2 (some 23) (bz 9 7) HT_ rfl rfl ?_; refine pu 3 (some 24) (bz 9 15) HT_ rfl rfl ?_; refine pu 5 (some 26) (bz 9 47) HT_ rfl rfl ?_; refine pu 6 (some 27) (bz 9 111) HT_ rfl rfl ?_; refine tk 4 (some 25) (bz 9 127) HT_ HW_ rfl rfl hHeld ?_; refine tk 7 (some 28) (bz 9 255) HT_ HW_ rfl rfl hHeld ?_; refine pu 8 (some 29) (bz 9 511) HT_ rfl rfl ?_; refine done_ (done_of HT_.out (by kernel_rfl)) ?_
          try go_wp2
          have n0_ := Aside0.mk (Kd.R_drew HO_5.out); have n1_ := Aside0.mk (Kd.R_drew HO_6.out); have n2_ := Aside0.mk (blk_drew BK143.out); have n3_ := Aside0.mk (below_drew1 HB.out); clear HO_5; clear HO_6; clear BK143; clear HB; have HO_5 := n0_; have HO_6 := n1_; have BK143 := n2_; have HB := n3_; clear n0_ n1_ n2_ n3_; have p145 : 0 ≤ (x7_2 : Int) := of_decide_eq_true (by first | (with_reducible assumption) | assumption)
          have q145 : x7_2 < (t139.length : Int) := of_decide_eq_true (by first | (with_reducible assumption) | assumption)
          obtain ⟨ad145, e145, hx145_0⟩ := Kd.at_int (Kd.R_reads' HO_6.out).2.2 x7_2 p145 q145
          obtain rfl : ad144 = ad145 := (by injection e145)
          replace p145 := eq_true p145; replace q145 := eq_true q145; refine start_ (n := 11) (S := fun w' => w'.cell? ⟨gb143, 0, none⟩ = some (.int .i64 ((rd_T38 l1 x17_1).f0.f0)) ∧ w'.cell? ⟨gb143, 1, none⟩ = some (.int .i64 ((rd_T38 l1 x17_1).f0.f1)) ∧ w'.cell? ⟨gb143, 2, none⟩ = some (.int .i64 ((rd_T38 l1 x17_1).f1)) ∧ w'.cell? ⟨gb143, 3, none⟩ = some (.int .i64 ((rd_T38 l1 x17_1).f2)) ∧ w'.cell? (ad144.add (x7_2).toNat) = some (.int .i64 (rd t139 x7_2))) (ds := []) (bz 11 0) (by kernel_rfl) rfl rfl ⟨(blk_cell BK143.out 0).trans rfl, (blk_cell BK143.out 1).trans rfl, (blk_cell BK143.out 2).trans rfl, (blk_cell BK143.out 3).trans rfl, hx145_0⟩ (fun hHeld => ?_); refine with_tabW five_fives.tab11 five_fives.bits11 (fun HT_ HW_ => ?_)
          generalize w28.drew = w30 at HO_5 HO_6 BK143 HB hx145_0 hHeld ⊢
          refine pu 0 (some 35) (bz 11 1) HT_ rfl rfl ?_; refine pu 1 (some 36) (bz 11 3) HT_ rfl rfl ?_; refine pu 2 (some 37) (bz 11 7) HT_ rfl rfl ?_; refine pu 3 (some 38) (bz 11 15) HT_ rfl rfl ?_; refine pu 5 (some 40) (bz 11 47) HT_ rfl rfl ?_; refine pu 6 (some 41) (bz 11 111) HT_ rfl rfl ?_; refine tk 4 (some 39) (bz 11 127) HT_ HW_ rfl rfl hHeld ?_; refine tk 7 (some 42) (bz 11 255) HT_ HW_ rfl rfl hHeld ?_; refine pu 8 (some 43) (bz 11 511) HT_ rfl rfl ?_; refine one_ (i := 9) (N := some 44) (bz 11 1023) rfl rfl (one_of HT_.out (by kernel_rfl)) (by decide) (fun K hK => ?_)
          refine goes_ Tryd.func36 (by kernel_rfl) rfl #[.string (a0.extract ((rd t139 x7_2) : Int).toNat (((rd_T38 l1 x17_1).f0.f0) : Int).toNat)] (by rfl) rfl rfl (by (try simp only [List.map_toArray, List.map_cons, List.map_nil]); first | done | rfl | (simp only [List.length_drop, List.length_take]; rfl)) ?_
          with_reducible refine (utf_Units.calls (a0.extract ((rd t139 x7_2) : Int).toNat (((rd_T38 l1 x17_1).f0.f0) : Int).toNat) t146 _ A22.out).mono ?_
          rintro e w31 ⟨rfl, hb⟩
          have HS4_ := (hb.cell (World.block_lt_of_cell? _ _ (hHeld.2.2.2.2))).trans (hHeld.2.2.2.2)
          refine ⟨_, rfl, ?_⟩
          have n0_ := Aside0.mk (Kd.R_below (rl HO_5) hb); have n1_ := Aside0.mk (Kd.R_below (rl HO_6) hb); have n2_ := Aside0.mk (blk_below (g := gb143) (o := .cells #[.int .i64 ((rd_T38 l1 x17_1).f0.f0), .int .i64 ((rd_T38 l1 x17_1).f0.f1), .int .i64 ((rd_T38 l1 x17_1).f1), .int .i64 ((rd_T38 l1 x17_1).f2)] 38 (0, 0)) (kl BK143) hb); have n3_ := Aside0.mk (below_step (by repeat (first | (with_reducible first | exact HB.out | apply below_alloc | apply pw_below_drewN | apply below_drew1 | refine below_set ?_ GE143.out) | exact HB.out)) hb); clear HO_5; clear HO_6; clear BK143; clear HB; have HO_5 := n0_; have HO_6 := n1_; have BK143 := n2_; have HB := n3_; clear n0_ n1_ n2_ n3_; (try clear hb); (try clear hb2); (try clear hk); (try clear hi); refine hK.out _ _ ⟨(blk_cell BK143.out 0).trans rfl, (blk_cell BK143.out 1).trans rfl, (blk_cell BK143.out 2).trans rfl, (blk_cell BK143.out 3).trans rfl, HS4_⟩ (fun hHeld => ?_)
          clear hK K; refine norm_ (a' := ?_) ?_ ?_
          rotate_left
          ·show Act.put _ (some 44) _ = _
           simp only [Act.put, List.setIfInBounds_toArray, List.set_cons_zero, List.set_cons_succ, i64_w, i32_w]
           rfl
          refine pu 10 (some 12) (bz 11 2047) HT_ rfl rfl ?_; refine done_ (done_of HT_.out (by kernel_rfl)) ?_
          try go_wp2
          have n0_ := Aside0.mk (Kd.R_drew HO_5.out); have n1_ := Aside0.mk (Kd.R_drew HO_6.out); have n2_ := Aside0.mk (blk_drew BK143.out); have n3_ := Aside0.mk (below_drew1 HB.out); clear HO_5; clear HO_6; clear BK143; clear HB; have HO_5 := n0_; have HO_6 := n1_; have BK143 := n2_; have HB := n3_; clear n0_ n1_ n2_ n3_; refine start_ (n := 24) (S := fun w' => w'.cell? ⟨gb143, 0, none⟩ = some (.int .i64 ((rd_T38 l1 x17_1).f0.f0)) ∧ w'.cell? ⟨gb143, 1, none⟩ = some (.int .i64 ((rd_T38 l1 x17_1).f0.f1)) ∧ w'.cell? ⟨gb143, 2, none⟩ = some (.int .i64 ((rd_T38 l1 x17_1).f1)) ∧ w'.cell? ⟨gb143, 3, none⟩ = some (.int .i64 ((rd_T38 l1 x17_1).f2))) (ds := []) (bz 24 0) (by kernel_rfl) rfl rfl ⟨(blk_cell BK143.out 0).trans rfl, (blk_cell BK143.out 1).trans rfl, (blk_cell BK143.out 2).trans rfl, (blk_cell BK143.out 3).trans rfl⟩ (fun hHeld => ?_); refine with_tabW five_fives.tab12 five_fives.bits12 (fun HT_ HW_ => ?_)
          generalize w31.drew = w32 at HO_5 HO_6 BK143 HB hHeld ⊢
          refine pu 0 (some 45) (bz 24 1) HT_ rfl rfl ?_; refine pu 1 (some 46) (bz 24 3) HT_ rfl rfl ?_; refine pu 2 (some 47) (bz 24 7) HT_ rfl rfl ?_; refine pu 3 (some 48) (bz 24 15) HT_ rfl rfl ?_; refine pu 4 (some 49) (bz 24 31) HT_ rfl rfl ?_; refine pu 5 (some 50) (bz 24 63) HT_ rfl rfl ?_; refine pu 6 (some 51) (bz 24 127) HT_ rfl rfl ?_; refine pu 7 (some 52) (bz 24 255) HT_ rfl rfl ?_; refine pu 8 (some 53) (bz 24 511) HT_ rfl rfl ?_; refine pu 9 (some 54) (bz 24 1023) HT_ rfl rfl ?_; refine pu 11 (some 56) (bz 24 3071) HT_ rfl rfl ?_; refine pu 12 (some 57) (bz 24 7167) HT_ rfl rfl ?_; refine pu 16 (some 61) (bz 24 72703) HT_ rfl rfl ?_; refine pu 18 (some 63) (bz 24 334847) HT_ rfl rfl ?_; refine tk 10 (some 55) (bz 24 335871) HT_ HW_ rfl rfl hHeld ?_; refine tk 13 (some 58) (bz 24 344063) HT_ HW_ rfl rfl hHeld ?_; refine pu 14 (some 59) (bz 24 360447) HT_ rfl rfl ?_; refine tk 17 (some 62) (bz 24 491519) HT_ HW_ rfl rfl hHeld ?_; refine tk 19 (some 64) (bz 24 1015807) HT_ HW_ rfl rfl hHeld ?_; refine one_ (i := 15) (N := some 60) (bz 24 1048575) rfl rfl (one_of HT_.out (by kernel_rfl)) (by decide) (fun K hK => ?_)
          refine goes_ Tryd.func36 (by kernel_rfl) rfl #[.string (a0.extract (((rd_T38 l1 x17_1).f0.f0) : Int).toNat (((rd_T38 l1 x17_1).f0.f1) : Int).toNat)] (by rfl) rfl rfl (by (try simp only [List.map_toArray, List.map_cons, List.map_nil]); first | done | rfl | (simp only [List.length_drop, List.length_take]; rfl)) ?_
          with_reducible refine (utf_Units.calls (a0.extract (((rd_T38 l1 x17_1).f0.f0) : Int).toNat (((rd_T38 l1 x17_1).f0.f1) : Int).toNat) t147 _ A26.out).mono ?_
          rintro e w33 ⟨rfl, hb⟩
          refine ⟨_, rfl, ?_⟩
          have n0_ := Aside0.mk (Kd.R_below (rl HO_5) hb); have n1_ := Aside0.mk (Kd.R_below (rl HO_6) hb); have n2_ := Aside0.mk (blk_below (g := gb143) (o := .cells #[.int .i64 ((rd_T38 l1 x17_1).f0.f0), .int .i64 ((rd_T38 l1 x17_1).f0.f1), .int .i64 ((rd_T38 l1 x17_1).f1), .int .i64 ((rd_T38 l1 x17_1).f2)] 38 (0, 0)) (kl BK143) hb); have n3_ := Aside0.mk (below_step (by repeat (first | (with_reducible first | exact HB.out | apply below_alloc | apply pw_below_drewN | apply below_drew1 | refine below_set ?_ GE143.out) | exact HB.out)) hb); clear HO_5; clear HO_6; clear BK143; clear HB; have HO_5 := n0_; have HO_6 := n1_; have BK143 := n2_; have HB := n3_; clear n0_ n1_ n2_ n3_; (try clear hb); (try clear hb2); (try clear hk); (try clear hi); refine hK.out _ _ ⟨(blk_cell BK143.out 0).trans rfl, (blk_cell BK143.out 1).trans rfl, (blk_cell BK143.out 2).trans rfl, (blk_cell BK143.out 3).trans rfl⟩ (fun hHeld => ?_)
          clear hK K; refine norm_ (a' := ?_) ?_ ?_
          rotate_left
          ·show Act.put _ (some 60) _ = _
           simp only [Act.put, List.setIfInBounds_toArray, List.set_cons_zero, List.set_cons_succ, i64_w, i32_w]
           rfl
          refine pu 20 (some 65) (bz 24 2097151) HT_ rfl rfl ?_; refine one_ (i := 21) (N := some 66) (bz 24 4194303) rfl rfl (one_of HT_.out (by kernel_rfl)) (by decide) (fun K hK => ?_)
          refine value_ (w1 := ?_) (v := ?_) (by rfl) rfl ?_ ?_
          rotate_left 2
          ·go_simp
           constructor
           ·rfl
           ·rfl
          refine hK.out _ _ ⟨(blk_cell (blk_alloc BK143.out _) 0).trans rfl, (blk_cell (blk_alloc BK143.out _) 1).trans rfl, (blk_cell (blk_alloc BK143.out _) 2).trans rfl, (blk_cell (blk_alloc BK143.out _) 3).trans rfl⟩ (fun hHeld => ?_)
          clear hK K; refine norm_ (a' := ?_) ?_ ?_
          rotate_left
          ·show Act.put _ (some 66) _ = _
           simp only [Act.put, List.setIfInBounds_toArray, List.set_cons_zero, List.set_cons_succ, i64_w, i32_w]
           rfl
          refine one_ (i := 22) (N := some 67) (bz 24 8388607) rfl rfl (one_of HT_.out (by kernel_rfl)) (by decide) (fun K hK => ?_)
          refine Kd.R_append_step k60 (w0 := w) w.heap.size (by rfl) (.tmp 45) (.tmp 66) 54 60 (.agg #[(.int .i64 0), (.int .i64 0), (.int .i64 0), (.int .i64 0), (.int .i64 0)]) 40 rfl Tryd.underlying54 info60 rfl (by decide) (by omega) u5 x5_1 (⟨wrap64 (x7_2 - x8_1), wrap64 (t146), t147, ((rd_T38 l1 x17_1).f1), ((rd_T38 l1 x17_1).f2)⟩ : S60) [.int .i64 (wrap64 (x7_2 - x8_1)), .int .i64 (wrap64 (t146)), .int .i64 t147, .int .i64 ((rd_T38 l1 x17_1).f1), .int .i64 ((rd_T38 l1 x17_1).f2)] (fun _ => True) (fun _ => False) rfl rfl ?aP (fun _ hk => hk.elim) ?aF ?aO ?aB ?aS ?aL ?_
          (case aP => exact k60_mkM _ _ _ (⟨wrap64 (x7_2 - x8_1), wrap64 (t146), t147, ((rd_T38 l1 x17_1).f1), ((rd_T38 l1 x17_1).f2)⟩ : S60))
          (case aB => exact (by repeat (first | (with_reducible first | exact HB.out | apply below_alloc | apply pw_below_drewN | apply below_drew1 | refine below_set ?_ GE143.out) | exact HB.out)))
          (case aF => exact (fun _ _ => trivial))
          (case aO => exact (rl HO_5))
          (case aS => exact (below_size (by repeat (first | (with_reducible first | exact HB.out | apply below_alloc | apply pw_below_drewN | apply below_drew1 | refine below_set ?_ GE143.out) | exact HB.out))))
          (case aL => have := LMc27.out; omega)
          intro v149 w34 ho hb hg hat
          rw [← Ny148.out] at ho
          have n0_ := Aside0.mk (Kd.R_over' (rl HO_6) (Kd.R_typed (rl HO_5)) (by decide) hg); have n1_ := Aside0.mk (blk_grown (g := gb143) (o := .cells #[.int .i64 ((rd_T38 l1 x17_1).f0.f0), .int .i64 ((rd_T38 l1 x17_1).f0.f1), .int .i64 ((rd_T38 l1 x17_1).f1), .int .i64 ((rd_T38 l1 x17_1).f2)] 38 (0, 0)) (kl BK143) hg (Kd.R_ne HO_5.out BK143.out (by decide))); have n2_ := Aside0.mk (hb); have n3_ := Aside0.mk (ho); clear HO_6; clear BK143; clear HB; clear HO_5; have HO_6 := n0_; have BK143 := n1_; have HB := n2_; have HO150 := n3_; clear n0_ n1_ n2_ n3_; clear ho hb hg hat; refine hK.out _ _ ⟨(blk_cell BK143.out 0).trans rfl, (blk_cell BK143.out 1).trans rfl, (blk_cell BK143.out 2).trans rfl, (blk_cell BK143.out 3).trans rfl⟩ (fun hHeld => ?_)
          clear hK K; refine norm_ (a' := ?_) ?_ ?_
          rotate_left
          ·show Act.put _ (some 67) _ = _
           simp only [Act.put, List.setIfInBounds_toArray, List.set_cons_zero, List.set_cons_succ, i64_w, i32_w]
           rfl
          refine pu 23 (some 5) (bz 24 16777215) HT_ rfl rfl ?_; refine done_ (done_of HT_.out (by kernel_rfl)) ?_
          try go_wp2
          go_roundg k2
          case measure => have := HK1.out; have := HK2.out; omega
          case rel => exact ⟨(y148), (x7_2), (x7_2), (t146), (wrap64 (x17_1 + 1)), (by first | rfl | (simp; done) | (simp [*]; done) | (simp; exact xEmpty_ne _) | (simp [*]; exact xEmpty_ne _)), (by first | rfl | (simp; done) | (simp [*]; done) | (simp; exact xEmpty_ne _) | (simp [*]; exact xEmpty_ne _)), (by first | rfl | (simp; done) | (simp [*]; done) | (simp; exact xEmpty_ne _) | (simp [*]; exact xEmpty_ne _)), (by first | rfl | (simp; done) | (simp [*]; done) | (simp; exact xEmpty_ne _) | (simp [*]; exact xEmpty_ne _)), H', ⟨by have := HK1.out; have := HK2.out; omega⟩, ⟨rl HO150⟩, ⟨rl HO_6⟩, ⟨by repeat (first | (with_reducible first | exact HB.out | apply below_alloc | apply pw_below_drewN | apply below_drew1 | refine below_set ?_ GE143.out) | exact HB.out)⟩⟩
         ·rw [if_neg c19] at H; exact absurd H (by simp)
        ·rw [if_neg c18] at H; exact absurd H (by simp)
       ·rw [if_neg c17] at H; exact absurd H (by simp)
      ·rw [if_neg c16] at H; have c16b0 : decide (x8_1 < x7_2) = false := decide_eq_false c16; clear c16; by_cases c35 : 0 ≤ x7_2
       ·rw [if_pos c35] at H; have c35b0 : decide (0 ≤ x7_2) = true := decide_eq_true c35; clear c35; by_cases c36 : x7_2 < (t139.length : Int)
        ·rw [if_pos c36] at H; have c36b0 : decide (x7_2 < (t139.length : Int)) = true := decide_eq_true c36; clear c36; by_cases c37 : 0 ≤ (rd t139 x7_2)
         ·rw [if_pos c37] at H; have c37b0 := eq_true c37
          have c37b1 : decide (0 ≤ (rd t139 x7_2)) = true := decide_eq_true c37; clear c37; by_cases c38 : (rd t139 x7_2) ≤ ((rd_T38 l1 x17_1).f0.f0)
          rotate_left
          ·rw [if_neg c38] at H; exact absurd H (by simp)
          rw [if_pos c38] at H; have c38b0 := eq_true c38
          have c38b1 : decide ((rd t139 x7_2) ≤ ((rd_T38 l1 x17_1).f0.f0)) = true := decide_eq_true c38; clear c38; by_cases c39 : ((rd_T38 l1 x17_1).f0.f0) ≤ (a0.size : Int)
          rotate_left
          ·rw [if_neg c39] at H; exact absurd H (by simp)
          rw [if_pos c39] at H; have c39b0 := eq_true c39
          have c39b1 : decide (((rd_T38 l1 x17_1).f0.f0) ≤ (a0.size : Int)) = true := decide_eq_true c39; clear c39; replace H := Option.bind_eq_some_iff.mp H
          obtain ⟨t152, A400, H⟩ := H
          replace H : (if 0 ≤ ((rd_T38 l1 x17_1).f0.f0) then (if ((rd_T38 l1 x17_1).f0.f0) ≤ ((rd_T38 l1 x17_1).f0.f1) then (if ((rd_T38 l1 x17_1).f0.f1) ≤ (a0.size : Int) then ((utf_Units.f (a0.extract (((rd_T38 l1 x17_1).f0.f0) : Int).toNat (((rd_T38 l1 x17_1).f0.f1) : Int).toNat)).bind fun t153 => (if x5_1.length < 3518437208883 then (five_fives.l0 k2 a0 (x5_1 ++ [(⟨wrap64 (x7_2 - x8_1), wrap64 (t152 - x9_1), t153, ((rd_T38 l1 x17_1).f1), ((rd_T38 l1 x17_1).f2)⟩ : S60)]) t139 x7_2 x7_2 t152 l1 (l1.length : Int) (wrap64 (x17_1 + 1))) else (none))) else (none)) else (none)) else (none)) = some r := H
          have A40 := Aside0.mk A400; clear A400; by_cases c41 : 0 ≤ ((rd_T38 l1 x17_1).f0.f0)
          rotate_left
          ·rw [if_neg c41] at H; exact absurd H (by simp)
          rw [if_pos c41] at H; have c41b0 := eq_true c41
          have c41b1 : decide (0 ≤ ((rd_T38 l1 x17_1).f0.f0)) = true := decide_eq_true c41; clear c41; by_cases c42 : ((rd_T38 l1 x17_1).f0.f0) ≤ ((rd_T38 l1 x17_1).f0.f1)
          rotate_left
          ·rw [if_neg c42] at H; exact absurd H (by simp)
          rw [if_pos c42] at H; have c42b0 := eq_true c42
          have c42b1 : decide (((rd_T38 l1 x17_1).f0.f0) ≤ ((rd_T38 l1 x17_1).f0.f1)) = true := decide_eq_true c42; clear c42; by_cases c43 : ((rd_T38 l1 x17_1).f0.f1) ≤ (a0.size : Int)
          rotate_left
          ·rw [if_neg c43] at H; exact absurd H (by simp)
          rw [if_pos c43] at H; have c43b0 := eq_true c43
          have c43b1 : decide (((rd_T38 l1 x17_1).f0.f1) ≤ (a0.size : Int)) = true := decide_eq_true c43; clear c43; replace H := Option.bind_eq_some_iff.mp H
          obtain ⟨t153, A440, H⟩ := H
          replace H : (if x5_1.length < 3518437208883 then (five_fives.l0 k2 a0 (x5_1 ++ [(⟨wrap64 (x7_2 - x8_1), wrap64 (t152 - x9_1), t153, ((rd_T38 l1 x17_1).f1), ((rd_T38 l1 x17_1).f2)⟩ : S60)]) t139 x7_2 x7_2 t152 l1 (l1.length : Int) (wrap64 (x17_1 + 1))) else (none)) = some r := H
          have A44 := Aside0.mk A440; clear A440; by_cases c45 : x5_1.length < 3518437208883
          rotate_left
          ·rw [if_neg c45] at H; exact absurd H (by simp)
          rw [if_pos c45] at H; have LMc45 := Aside0.mk c45; clear c45; obtain ⟨y154, hy154⟩ : ∃ y_ : List (S60), y_ = (x5_1 ++ [(⟨wrap64 (x7_2 - x8_1), wrap64 (t152 - x9_1), t153, ((rd_T38 l1 x17_1).f1), ((rd_T38 l1 x17_1).f2)⟩ : S60)]) := ⟨_, rfl⟩
          replace H : (five_fives.l0 k2 a0 y154 t139 x7_2 x7_2 t152 l1 (l1.length : Int) (wrap64 (x17_1 + 1))) = some r := by first | (rw [hy154]; with_reducible exact H) | (have H2_ := (Option.bind_some _ _).symm.trans H; rw [hy154]; with_reducible exact H2_) | (have H2_ := (Option.bind_some _ _).symm.trans H; with_reducible exact H2_) | with_reducible exact H | (rw [hy154]; exact H) | exact H
          have Ny154 := Aside0.mk hy154; clear hy154; have H' := Aside0.mk H; clear H; try go_wp2
          have n0_ := Aside0.mk (Kd.R_drew HO_5.out); have n1_ := Aside0.mk (Kd.R_drew HO_6.out); have n2_ := Aside0.mk (blk_drew BK143.out); have n3_ := Aside0.mk (below_drew1 HB.out); clear HO_5; clear HO_6; clear BK143; clear HB; have HO_5 := n0_; have HO_6 := n1_; have BK143 := n2_; have HB := n3_; clear n0_ n1_ n2_ n3_; obtain ⟨Ao47, co47, eo47⟩ := Kd.R_slice HO_6.out
          (first | subst eo47 | (injection eo47 with f1_ f2_ f3_; have f4_ := f1_.symm; have f5_ := f3_.symm; clear f1_ f2_ f3_; subst f4_; subst f5_))
          have p144 : 0 ≤ ((ji10) : Int) := of_decide_eq_true (by first | (with_reducible assumption) | assumption)
          have q144 : (ji10) < (t139.length : Int) := of_decide_eq_true (by first | (with_reducible assumption) | assumption)
          obtain ⟨ad144, e144, hx144_0⟩ := Kd.at_int (Kd.R_reads' HO_6.out).2.2 (ji10) p144 q144
          cases e144; replace p144 := eq_true p144; replace q144 := eq_true q144; refine start_ (n := 9) (S := fun w' => w'.cell? ⟨gb143, 0, none⟩ = some (.int .i64 ((rd_T38 l1 x17_1).f0.f0)) ∧ w'.cell? ⟨gb143, 1, none⟩ = some (.int .i64 ((rd_T38 l1 x17_1).f0.f1)) ∧ w'.cell? ⟨gb143, 2, none⟩ = some (.int .i64 ((rd_T38 l1 x17_1).f1)) ∧ w'.cell? ⟨gb143, 3, none⟩ = some (.int .i64 ((rd_T38 l1 x17_1).f2)) ∧ w'.cell? (ad144.add ((ji10)).toNat) = some (.int .i64 (rd t139 (ji10)))) (ds := []) (bz 9 0) (by kernel_rfl) rfl rfl ⟨(blk_cell BK143.out 0).trans rfl, (blk_cell BK143.out 1).trans rfl, (blk_cell BK143.out 2).trans rfl, (blk_cell BK143.out 3).trans rfl, hx144_0⟩ (fun hHeld => ?_); refine with_tabW five_fives.tab7 five_fives.bits7 (fun HT_ HW_ => ?_)
          generalize wr.drew = w46 at HO_5 HO_6 BK143 HB hx144_0 hHeld ⊢
          refine pu 0 (some 21) (bz 9 1) HT_ rfl rfl ?_; refine pu 1 (some 22) (bz 9 3) HT_ rfl rfl ?_; refine pu 2 (some 23) (bz 9 7) HT_ rfl rfl ?_; refine pu 3 (some 24) (bz 9 15) HT_ rfl rfl ?_; refine pu 5 (some 26) (bz 9 47) HT_ rfl rfl ?_; refine pu 6 (some 27) (bz 9 111) HT_ rfl rfl ?_; refine tk 4 (some 25) (bz 9 127) HT_ HW_ rfl rfl hHeld ?_; refine tk 7 (some 28) (bz 9 255) HT_ HW_ rfl rfl hHeld ?_; refine pu 8 (some 29) (bz 9 511) HT_ rfl rfl ?_; refine done_ (done_of HT_.out (by kernel_rfl)) ?_
          try go_wp2
          have n0_ := Aside0.mk (Kd.R_drew HO_5.out); have n1_ := Aside0.mk (Kd.R_drew HO_6.out); have n2_ := Aside0.mk (blk_drew BK143.out); have n3_ := Aside0.mk (below_drew1 HB.out); clear HO_5; clear HO_6; clear BK143; clear HB; have HO_5 := n0_; have HO_6 := n1_; have BK143 := n2_; have HB := n3_; clear n0_ n1_ n2_ n3_; have p151 : 0 ≤ (x7_2 : Int) := of_decide_eq_true (by first | (with_reducible assumption) | assumption)
          have q151 : x7_2 < (t139.length : Int) := of_decide_eq_true (by first | (with_reducible assumption) | assumption)
          obtain ⟨ad151, e151, hx151_0⟩ := Kd.at_int (Kd.R_reads' HO_6.out).2.2 x7_2 p151 q151
          obtain rfl : ad144 = ad151 := (by injection e151)
          replace p151 := eq_true p151; replace q151 := eq_true q151; refine start_ (n := 11) (S := fun w' => w'.cell? ⟨gb143, 0, none⟩ = some (.int .i64 ((rd_T38 l1 x17_1).f0.f0)) ∧ w'.cell? ⟨gb143, 1, none⟩ = some (.int .i64 ((rd_T38 l1 x17_1).f0.f1)) ∧ w'.cell? ⟨gb143, 2, none⟩ = some (.int .i64 ((rd_T38 l1 x17_1).f1)) ∧ w'.cell? ⟨gb143, 3, none⟩ = some (.int .i64 ((rd_T38 l1 x17_1).f2)) ∧ w'.cell? (ad144.add (x7_2).toNat) = some (.int .i64 (rd t139 x7_2))) (ds := []) (bz 11 0) (by kernel_rfl) rfl rfl ⟨(blk_cell BK143.out 0).trans rfl, (blk_cell BK143.out 1).trans rfl, (blk_cell BK143.out 2).trans rfl, (blk_cell BK143.out 3).trans rfl, hx151_0⟩ (fun hHeld => ?_); refine with_tabW five_fives.tab11 five_fives.bits11 (fun HT_ HW_ => ?_)
          generalize w46.drew = w48 at HO_5 HO_6 BK143 HB hx151_0 hHeld ⊢
          refine pu 0 (some 35) (bz 11 1) HT_ rfl rfl ?_; refine pu 1 (some 36) (bz 11 3) HT_ rfl rfl ?_; refine pu 2 (some 37) (bz 11 7) HT_ rfl rfl ?_; refine pu 3 (some 38) (bz 11 15) HT_ rfl rfl ?_; refine pu 5 (some 40) (bz 11 47) HT_ rfl rfl ?_; refine pu 6 (some 41) (bz 11 111) HT_ rfl rfl ?_; refine tk 4 (some 39) (bz 11 127) HT_ HW_ rfl rfl hHeld ?_; refine tk 7 (some 42) (bz 11 255) HT_ HW_ rfl rfl hHeld ?_; refine pu 8 (some 43) (bz 11 511) HT_ rfl rfl ?_; refine one_ (i := 9) (N := some 44) (bz 11 1023) rfl rfl (one_of HT_.out (by kernel_rfl)) (by decide) (fun K hK => ?_)
          refine goes_ Tryd.func36 (by kernel_rfl) rfl #[.string (a0.extract ((rd t139 x7_2) : Int).toNat (((rd_T38 l1 x17_1).f0.f0) : Int).toNat)] (by rfl) rfl rfl (by (try simp only [List.map_toArray, List.map_cons, List.map_nil]); first | done | rfl | (simp only [List.length_drop, List.length_take]; rfl)) ?_
          with_reducible refine (utf_Units.calls (a0.extract ((rd t139 x7_2) : Int).toNat (((rd_T38 l1 x17_1).f0.f0) : Int).toNat) t152 _ A40.out).mono ?_
          rintro e w49 ⟨rfl, hb⟩
          have HS4_ := (hb.cell (World.block_lt_of_cell? _ _ (hHeld.2.2.2.2))).trans (hHeld.2.2.2.2)
          refine ⟨_, rfl, ?_⟩
          have n0_ := Aside0.mk (Kd.R_below (rl HO_5) hb); have n1_ := Aside0.mk (Kd.R_below (rl HO_6) hb); have n2_ := Aside0.mk (blk_below (g := gb143) (o := .cells #[.int .i64 ((rd_T38 l1 x17_1).f0.f0), .int .i64 ((rd_T38 l1 x17_1).f0.f1), .int .i64 ((rd_T38 l1 x17_1).f1), .int .i64 ((rd_T38 l1 x17_1).f2)] 38 (0, 0)) (kl BK143) hb); have n3_ := Aside0.mk (below_step (by repeat (first | (with_reducible first | exact HB.out | apply below_alloc | apply pw_below_drewN | apply below_drew1 | refine below_set ?_ GE143.out) | exact HB.out)) hb); clear HO_5; clear HO_6; clear BK143; clear HB; have HO_5 := n0_; have HO_6 := n1_; have BK143 := n2_; have HB := n3_; clear n0_ n1_ n2_ n3_; (try clear hb); (try clear hb2); (try clear hk); (try clear hi); refine hK.out _ _ ⟨(blk_cell BK143.out 0).trans rfl, (blk_cell BK143.out 1).trans rfl, (blk_cell BK143.out 2).trans rfl, (blk_cell BK143.out 3).trans rfl, HS4_⟩ (fun hHeld => ?_)
          clear hK K; refine norm_ (a' := ?_) ?_ ?_
          rotate_left
          ·show Act.put _ (some 44) _ = _
           simp only [Act.put, List.setIfInBounds_toArray, List.set_cons_zero, List.set_cons_succ, i64_w, i32_w]
           rfl
          refine pu 10 (some 12) (bz 11 2047) HT_ rfl rfl ?_; refine done_ (done_of HT_.out (by kernel_rfl)) ?_
          try go_wp2
          have n0_ := Aside0.mk (Kd.R_drew HO_5.out); have n1_ := Aside0.mk (Kd.R_drew HO_6.out); have n2_ := Aside0.mk (blk_drew BK143.out); have n3_ := Aside0.mk (below_drew1 HB.out); clear HO_5; clear HO_6; clear BK143; clear HB; have HO_5 := n0_; have HO_6 := n1_; have BK143 := n2_; have HB := n3_; clear n0_ n1_ n2_ n3_; refine start_ (n := 24) (S := fun w' => w'.cell? ⟨gb143, 0, none⟩ = some (.int .i64 ((rd_T38 l1 x17_1).f0.f0)) ∧ w'.cell? ⟨gb143, 1, none⟩ = some (.int .i64 ((rd_T38 l1 x17_1).f0.f1)) ∧ w'.cell? ⟨gb143, 2, none⟩ = some (.int .i64 ((rd_T38 l1 x17_1).f1)) ∧ w'.cell? ⟨gb143, 3, none⟩ = some (.int .i64 ((rd_T38 l1 x17_1).f2))) (ds := []) (bz 24 0) (by kernel_rfl) rfl rfl ⟨(blk_cell BK143.out 0).trans rfl, (blk_cell BK143.out 1).trans rfl, (blk_cell BK143.out 2).trans rfl, (blk_cell BK143.out 3).trans rfl⟩ (fun hHeld => ?_); refine with_tabW five_fives.tab12 five_fives.bits12 (fun HT_ HW_ => ?_)
          generalize w49.drew = w50 at HO_5 HO_6 BK143 HB hHeld ⊢
          refine pu 0 (some 45) (bz 24 1) HT_ rfl rfl ?_; refine pu 1 (some 46) (bz 24 3) HT_ rfl rfl ?_; refine pu 2 (some 47) (bz 24 7) HT_ rfl rfl ?_; refine pu 3 (some 48) (bz 24 15) HT_ rfl rfl ?_; refine pu 4 (some 49) (bz 24 31) HT_ rfl rfl ?_; refine pu 5 (some 50) (bz 24 63) HT_ rfl rfl ?_; refine pu 6 (some 51) (bz 24 127) HT_ rfl rfl ?_; refine pu 7 (some 52) (bz 24 255) HT_ rfl rfl ?_; refine pu 8 (some 53) (bz 24 511) HT_ rfl rfl ?_; refine pu 9 (some 54) (bz 24 1023) HT_ rfl rfl ?_; refine pu 11 (some 56) (bz 24 3071) HT_ rfl rfl ?_; refine pu 12 (some 57) (bz 24 7167) HT_ rfl rfl ?_; refine pu 16 (some 61) (bz 24 72703) HT_ rfl rfl ?_; refine pu 18 (some 63) (bz 24 334847) HT_ rfl rfl ?_; refine tk 10 (some 55) (bz 24 335871) HT_ HW_ rfl rfl hHeld ?_; refine tk 13 (some 58) (bz 24 344063) HT_ HW_ rfl rfl hHeld ?_; refine pu 14 (some 59) (bz 24 360447) HT_ rfl rfl ?_; refine tk 17 (some 62) (bz 24 491519) HT_ HW_ rfl rfl hHeld ?_; refine tk 19 (some 64) (bz 24 1015807) HT_ HW_ rfl rfl hHeld ?_; refine one_ (i := 15) (N := some 60) (bz 24 1048575) rfl rfl (one_of HT_.out (by kernel_rfl)) (by decide) (fun K hK => ?_)
          refine goes_ Tryd.func36 (by kernel_rfl) rfl #[.string (a0.extract (((rd_T38 l1 x17_1).f0.f0) : Int).toNat (((rd_T38 l1 x17_1).f0.f1) : Int).toNat)] (by rfl) rfl rfl (by (try simp only [List.map_toArray, List.map_cons, List.map_nil]); first | done | rfl | (simp only [List.length_drop, List.length_take]; rfl)) ?_
          with_reducible refine (utf_Units.calls (a0.extract (((rd_T38 l1 x17_1).f0.f0) : Int).toNat (((rd_T38 l1 x17_1).f0.f1) : Int).toNat) t153 _ A44.out).mono ?_
          rintro e w51 ⟨rfl, hb⟩
          refine ⟨_, rfl, ?_⟩
          have n0_ := Aside0.mk (Kd.R_below (rl HO_5) hb); have n1_ := Aside0.mk (Kd.R_below (rl HO_6) hb); have n2_ := Aside0.mk (blk_below (g := gb143) (o := .cells #[.int .i64 ((rd_T38 l1 x17_1).f0.f0), .int .i64 ((rd_T38 l1 x17_1).f0.f1), .int .i64 ((rd_T38 l1 x17_1).f1), .int .i64 ((rd_T38 l1 x17_1).f2)] 38 (0, 0)) (kl BK143) hb); have n3_ := Aside0.mk (below_step (by repeat (first | (with_reducible first | exact HB.out | apply below_alloc | apply pw_below_drewN | apply below_drew1 | refine below_set ?_ GE143.out) | exact HB.out)) hb); clear HO_5; clear HO_6; clear BK143; clear HB; have HO_5 := n0_; have HO_6 := n1_; have BK143 := n2_; have HB := n3_; clear n0_ n1_ n2_ n3_; (try clear hb); (try clear hb2); (try clear hk); (try clear hi); refine hK.out _ _ ⟨(blk_cell BK143.out 0).trans rfl, (blk_cell BK143.out 1).trans rfl, (blk_cell BK143.out 2).trans rfl, (blk_cell BK143.out 3).trans rfl⟩ (fun hHeld => ?_)
          clear hK K; refine norm_ (a' := ?_) ?_ ?_
          rotate_left
          ·show Act.put _ (some 60) _ = _
           simp only [Act.put, List.setIfInBounds_toArray, List.set_cons_zero, List.set_cons_succ, i64_w, i32_w]
           rfl
          refine pu 20 (some 65) (bz 24 2097151) HT_ rfl rfl ?_; refine one_ (i := 21) (N := some 66) (bz 24 4194303) rfl rfl (one_of HT_.out (by kernel_rfl)) (by decide) (fun K hK => ?_)
          refine value_ (w1 := ?_) (v := ?_) (by rfl) rfl ?_ ?_
          rotate_left 2
          ·go_simp
           constructor
           ·rfl
           ·rfl
          refine hK.out _ _ ⟨(blk_cell (blk_alloc BK143.out _) 0).trans rfl, (blk_cell (blk_alloc BK143.out _) 1).trans rfl, (blk_cell (blk_alloc BK143.out _) 2).trans rfl, (blk_cell (blk_alloc BK143.out _) 3).trans rfl⟩ (fun hHeld => ?_)
          clear hK K; refine norm_ (a' := ?_) ?_ ?_
          rotate_left
          ·show Act.put _ (some 66) _ = _
           simp only [Act.put, List.setIfInBounds_toArray, List.set_cons_zero, List.set_cons_succ, i64_w, i32_w]
           rfl
          refine one_ (i := 22) (N := some 67) (bz 24 8388607) rfl rfl (one_of HT_.out (by kernel_rfl)) (by decide) (fun K hK => ?_)
          refine Kd.R_append_step k60 (w0 := w) w.heap.size (by rfl) (.tmp 45) (.tmp 66) 54 60 (.agg #[(.int .i64 0), (.int .i64 0), (.int .i64 0), (.int .i64 0), (.int .i64 0)]) 40 rfl Tryd.underlying54 info60 rfl (by decide) (by omega) u5 x5_1 (⟨wrap64 (x7_2 - x8_1), wrap64 (t152 - x9_1), t153, ((rd_T38 l1 x17_1).f1), ((rd_T38 l1 x17_1).f2)⟩ : S60) [.int .i64 (wrap64 (x7_2 - x8_1)), .int .i64 (wrap64 (t152 - x9_1)), .int .i64 t153, .int .i64 ((rd_T38 l1 x17_1).f1), .int .i64 ((rd_T38 l1 x17_1).f2)] (fun _ => True) (fun _ => False) rfl rfl ?aP (fun _ hk => hk.elim) ?aF ?aO ?aB ?aS ?aL ?_
          (case aP => exact k60_mkM _ _ _ (⟨wrap64 (x7_2 - x8_1), wrap64 (t152 - x9_1), t153, ((rd_T38 l1 x17_1).f1), ((rd_T38 l1 x17_1).f2)⟩ : S60))
          (case aB => exact (by repeat (first | (with_reducible first | exact HB.out | apply below_alloc | apply pw_below_drewN | apply below_drew1 | refine below_set ?_ GE143.out) | exact HB.out)))
          (case aF => exact (fun _ _ => trivial))
          (case aO => exact (rl HO_5))
          (case aS => exact (below_size (by repeat (first | (with_reducible first | exact HB.out | apply below_alloc | apply pw_below_drewN | apply below_drew1 | refine below_set ?_ GE143.out) | exact HB.out))))
          (case aL => have := LMc45.out; omega)
          intro v155 w52 ho hb hg hat
          rw [← Ny154.out] at ho
          have n0_ := Aside0.mk (Kd.R_over' (rl HO_6) (Kd.R_typed (rl HO_5)) (by decide) hg); have n1_ := Aside0.mk (blk_grown (g := gb143) (o := .cells #[.int .i64 ((rd_T38 l1 x17_1).f0.f0), .int .i64 ((rd_T38 l1 x17_1).f0.f1), .int .i64 ((rd_T38 l1 x17_1).f1), .int .i64 ((rd_T38 l1 x17_1).f2)] 38 (0, 0)) (kl BK143) hg (Kd.R_ne HO_5.out BK143.out (by decide))); have n2_ := Aside0.mk (hb); have n3_ := Aside0.mk (ho); clear HO_6; clear BK143; clear HB; clear HO_5; have HO_6 := n0_; have BK143 := n1_; have HB := n2_; have HO156 := n3_; clear n0_ n1_ n2_ n3_; clear ho hb hg hat; refine hK.out _ _ ⟨(blk_cell BK143.out 0).trans rfl, (blk_cell BK143.out 1).trans rfl, (blk_cell BK143.out 2).trans rfl, (blk_cell BK143.out 3).trans rfl⟩ (fun hHeld => ?_)
          clear hK K; refine norm_ (a' := ?_) ?_ ?_
          rotate_left
          ·show Act.put _ (some 67) _ = _
           simp only [Act.put, List.setIfInBounds_toArray, List.set_cons_zero, List.set_cons_succ, i64_w, i32_w]
           rfl
          refine pu 23 (some 5) (bz 24 16777215) HT_ rfl rfl ?_; refine done_ (done_of HT_.out (by kernel_rfl)) ?_
          try go_wp2
          go_roundg k2
          case measure => have := HK1.out; have := HK2.out; omega
          case rel => exact ⟨(y154), (x7_2), (x7_2), (t152), (wrap64 (x17_1 + 1)), (by first | rfl | (simp; done) | (simp [*]; done) | (simp; exact xEmpty_ne _) | (simp [*]; exact xEmpty_ne _)), (by first | rfl | (simp; done) | (simp [*]; done) | (simp; exact xEmpty_ne _) | (simp [*]; exact xEmpty_ne _)), (by first | rfl | (simp; done) | (simp [*]; done) | (simp; exact xEmpty_ne _) | (simp [*]; exact xEmpty_ne _)), (by first | rfl | (simp; done) | (simp [*]; done) | (simp; exact xEmpty_ne _) | (simp [*]; exact xEmpty_ne _)), H', ⟨by have := HK1.out; have := HK2.out; omega⟩, ⟨rl HO156⟩, ⟨rl HO_6⟩, ⟨by repeat (first | (with_reducible first | exact HB.out | apply below_alloc | apply pw_below_drewN | apply below_drew1 | refine below_set ?_ GE143.out) | exact HB.out)⟩⟩
         ·rw [if_neg c37] at H; exact absurd H (by simp)
        ·rw [if_neg c36] at H; exact absurd H (by simp)
       ·rw [if_neg c35] at H; exact absurd H (by simp)
end Go.Proofs.YtbjhmknahldhaaaDoor.Q

end
section
namespace Go.Proofs.YtbjhmknahldhaaaDoor.Q
open Go.RowKit Go.Proofs.YtbjhmknahldhaaaDoorW.PrintWords Go.Proofs.YtbjhmknahldhaaaDoorW.PrintLast Go.Proofs.YtbjhmknahldhaaaDoorW.PrintMore
attribute [local go_sem] max2_int min2_int max_two min_two max_three min_three max_four min_four   
set_option linter.unusedVariables false
set_option linter.unusedSimpArgs false
def utf_Cut.f (a0 : ByteArray) (a1 : Int) : Option Int := if a1 < 0 then some 0 else if a1 ≤ 9223372036854775807 then some (XUtf.cutAt a0 a0.size 0 a1 : Int) else none
set_option maxRecDepth 100000 in
theorem utf_Cut.calls (a0 : ByteArray) (a1 : Int) (r : Int) (w : World) (h : utf_Cut.f a0 a1 = some r) :
    Calls Tryd.prog 27 #[.string a0, .int .i64 a1] w fun e w' => e = .returned (.int .i64 r) ∧ Below w.heap.size w w' := by
  unfold utf_Cut.f at h
  by_cases hn : a1 < 0
  · rw [if_pos hn] at h
    obtain rfl := Option.some.inj h
    clear h; go_enter Tryd.func27, Tryd.ntmps27
    go_wp2
    go_ret
    exact ⟨rfl, Below.refl _ _⟩
  rw [if_neg hn] at h
  by_cases hm : a1 ≤ 9223372036854775807
  case neg => rw [if_neg hm] at h; cases h
  rw [if_pos hm] at h
  obtain rfl := Option.some.inj h
  clear h; have hn0 : 0 ≤ a1 := by omega
  go_enter Tryd.func27, Tryd.ntmps27
  go_wp2
  go_loopw [1] (fun n w' => ∃ (pos b : Nat) (u : Int), w' = w.iter a0 pos ∧ n = .int .i64 u ∧ Aside0 (XUtf.cutAt a0 b pos u = XUtf.cutAt a0 a0.size 0 a1) ∧ a0.size ≤ pos + b ∧ 0 ≤ u ∧ u ≤ a1 ∧ pos ≤ a0.size) (fun _ w' => a0.size - w'.iterPos w.heap.size)
  case atStart => exact ⟨0, a0.size, a1, rfl, rfl, ⟨rfl⟩, by omega, by omega, by omega, by omega⟩
  case round =>
    obtain ⟨pos, b, u, rfl, rfl, hc, hb, h0, h1, hle⟩ := hrel
    by_cases hp : pos < a0.size
    · have hnx : ∀ ty, (Instr.next (.pointer (some ⟨w.heap.size, 0, none⟩)) true ty).run Tryd.prog (w.iter a0 pos) = _ := fun ty => run_next_any w a0 pos ty hp
      have hwd := Lib.decode_width_pos a0 pos hp
      have hfit := XUtf.decode_fit a0 pos hp
      have hhit := XUtf.cutAt_hit a0 b pos u hp hb
      have hst := XUtf.cutAt_step a0 b pos u hp hb
      obtain ⟨z, hz⟩ : ∃ z, XUtf.uOf (Utf8.decode a0 pos).1 = z := ⟨_, rfl⟩
      rw [hz] at hhit hst
      by_cases hbig : 65536 ≤ ((Utf8.decode a0 pos).1 : Int)
      all_goals
        first
          | (have hu : z = 2 := by rw [← hz]; unfold XUtf.uOf; rw [if_pos (by omega)])
          | (have hu : z = 1 := by rw [← hz]; unfold XUtf.uOf; rw [if_neg (by omega)])
        subst hu; clear hz; by_cases hlt : u < 1 ∨ (u < 2 ∧ 65536 ≤ ((Utf8.decode a0 pos).1 : Int))
        · have HD := Aside0.mk ((hhit (by omega)).symm.trans hc.out)
          clear hc hhit hst; first
            | (have hx : u - 2 < 0 := by omega
               go_wp2
               go_ret
               exact ⟨congrArg (fun z : Nat => Ending.returned (.int .i64 (z : Int))) HD.out, (Below.refl _ _).alloc (Nat.le_refl _) _⟩)
            | (have hx : u - 1 < 0 := by omega
               go_wp2
               go_ret
               exact ⟨congrArg (fun z : Nat => Ending.returned (.int .i64 (z : Int))) HD.out, (Below.refl _ _).alloc (Nat.le_refl _) _⟩)
        · have HST := Aside0.mk ((hst (by omega)).symm.trans hc.out)
          clear hc hhit hst; first
            | (have hx : ¬ u - 2 < 0 := by omega
               go_wp2
               go_roundw
               case rel => exact ⟨pos + (Utf8.decode a0 pos).2, b - 1, u - 2, rfl, rfl, HST, by omega, by omega, by omega, by omega⟩
               case measure => simp; omega)
            | (have hx : ¬ u - 1 < 0 := by omega
               go_wp2
               go_roundw
               case rel => exact ⟨pos + (Utf8.decode a0 pos).2, b - 1, u - 1, rfl, rfl, HST, by omega, by omega, by omega, by omega⟩
               case measure => simp; omega)
    · have hnx : ∀ ty, (Instr.next (.pointer (some ⟨w.heap.size, 0, none⟩)) true ty).run Tryd.prog (w.iter a0 pos) = _ := fun ty => run_next_end w a0 pos ty hp
      have HD := Aside0.mk ((XUtf.cutAt_done a0 b pos u hp).symm.trans hc.out)
      clear hc; go_wp2
      go_ret
      exact ⟨congrArg (fun z : Nat => Ending.returned (.int .i64 (z : Int))) HD.out, (Below.refl _ _).alloc (Nat.le_refl _) _⟩
section
attribute [local go_sem] Oper.semAt_some
def slices_Chunk_int_int.f : Option Unit := none
/-- The address of a stretch of five numbers. -/
def fiveAt (A : Option Addr) (j : Nat) : Value := .slice (A.map fun ad => ad.add (5 * j)) 5 5
/-- Two boxes lie as they lay. -/
def KBox2 (B1 B2 : Nat) (W W' : World) : Prop := W'.heap[B1]? = W.heap[B1]? ∧ W'.heap[B2]? = W.heap[B2]?
/-- The first numbers below M. -/
def fins (M j : Nat) : List (Fin M) := (List.finRange M).take j
theorem fins_snoc (M j : Nat) (h : j < M) : fins M j ++ [⟨j, h⟩] = fins M (j + 1) := by
 unfold fins
 rw [List.take_succ_eq_append_getElem (by rw [List.length_finRange]; exact h), List.getElem_finRange]
 rfl
theorem fins_len (M j : Nat) (h : j ≤ M) : (fins M j).length = j := by unfold fins; rw [List.length_take, List.length_finRange]; omega
theorem fins_all (M : Nat) : fins M M = List.finRange M := by unfold fins; exact List.take_of_length_le (by rw [List.length_finRange]; omega)
theorem AbidesFrom.step5 {β : Type} {B : Nat} {J : β → World → Prop} (h : AbidesFrom B J) {x : β} {W : World} (hJ : J x W) (n : Nat) : J x (W.drewN n) :=
 h x W _ none hJ ⟨rfl, rfl, rfl, Nat.le_refl _, fun k hk _ => rfl⟩ (fun r e => by cases e)
set_option maxRecDepth 100000 in
set_option maxHeartbeats 2000000 in
theorem chunk1_in (A : Option Addr) (M c : Nat) (hA : 0 < M → ∃ ad, A = some ad) (hM2 : M < 1000000000) (hcap : 5 * M ≤ c) (n : Nat) (hn : 1 ≤ n) (l B1 B2 : Nat) (J Jx : List (Fin M) → World → Prop) (W : World) (hJ : AbidesFrom W.heap.size J)
  (hY : ∀ pre (x : Fin M) W, J pre W → pre.length < M → YieldAt Fence.wide (n - 1) Tryd.prog l #[fiveAt A x.1] W fun e W' =>
   (e = .returned (.bool true) ∧ J (pre ++ [x]) W' ∧ KBox2 B1 B2 W W') ∨ (e = .returned (.bool false) ∧ Jx (pre ++ [x]) W'))
  (hc : Boxed W B1 23 (.slice A (5 * M) c)) (hd : Boxed W B2 3 (.int .i64 5)) (h0 : J [] W) :
  CallsIn Fence.wide n Tryd.prog 39 #[.func (.yield l) #[] #[], .pointer (some ⟨B1, 0, none⟩), .pointer (some ⟨B2, 0, none⟩)] W fun e W' => (∃ v, e = .returned v) ∧
   ((∃ ys, ys = List.finRange M ∧ J ys W') ∨ (∃ pre, pre <+: List.finRange M ∧ Jx pre W')) := by
 refine callsIn_of_wp Tryd.func39 rfl trivial ?_ rfl
 simp only [Tryd.ntmps39, List.size_toArray, List.length_cons, List.length_nil, Nat.reduceAdd, Nat.reduceSub, Array.replicate_succ, Array.replicate_zero, List.push_toArray, List.append_toArray, List.nil_append, List.cons_append]
 gi_wp2
 gi_loopw [4] (fun p wr => ∃ j : Nat, p = .int .i64 ((5 * j : Nat) : Int) ∧ j ≤ M ∧ J (fins M j) wr ∧ Boxed wr B1 23 (.slice A (5 * M) c) ∧ Boxed wr B2 3 (.int .i64 5))
  (fun p wr => 5 * M - (intOf p).toNat)
 case atStart => exact ⟨0, rfl, Nat.zero_le _, h0, hc, hd⟩
 case round =>
  obtain ⟨j, rfl, hj, hJs, hB, hD⟩ := hrel
  have hcr := hB.cell
  have hcd := hD.cell
  by_cases hlt : j < M
  ·obtain ⟨ad, hAd⟩ := hA (by omega)
   subst hAd; have q1 : (5 * j : Nat) < 5 * M := by omega
   obtain ⟨i, hi⟩ : ∃ i, 5 * j = i := ⟨_, rfl⟩
   obtain ⟨N, hN⟩ : ∃ N, 5 * M = N := ⟨_, rfl⟩
   have hji := Aside0.mk hi; have hNM := Aside0.mk hN; rw [hi, hN] at q1
   rw [hN] at hcr hcap
   rw [hi]
   have q2 : i + 5 ≤ N := by omega
   have q3 : N ≤ 5000000000 := by omega
   clear hi hN; gi_wp2
   refine wpIn_wide.2 ?_
   go_quiet (fail)
   have hJ' := AbidesFrom.step5 hJ hJs nq
   have hB' : Boxed (wr.drewN nq) B1 23 (.slice (some ad) (5 * M) c) := hB
   have hD' : Boxed (wr.drewN nq) B2 3 (.int .i64 5) := hD
   obtain ⟨wq, hwq⟩ : ∃ wq, wr.drewN nq = wq := ⟨_, rfl⟩
   rw [hwq] at hJ' hB' hD' ⊢
   have hcr := hB'.cell
   have hcd := hD'.cell
   rw [hNM.out] at hcr
   clear hwq; obtain ⟨fn, tmps, assign, body, hy, hR⟩ := hY (fins M j) ⟨j, hlt⟩ wq hJ' (by rw [fins_len M j hj]; exact hlt)
   unfold fiveAt at hy
   simp only [Option.map_some] at hy
   rw [hji.out] at hy
   gi_wp2
   refine hR.mono ?_
   rintro e W3 (⟨rfl, hJ3, hk3⟩ | ⟨rfl, hJx3⟩)
   ·have hb3 : Boxed W3 B1 23 (.slice (some ad) (5 * M) c) := Eq.trans hk3.1 hB'
    have hd3 : Boxed W3 B2 3 (.int .i64 5) := Eq.trans hk3.2 hD'
    have hc3 := hb3.cell
    have hc4 := hd3.cell
    gi_wp2
    go_roundw
    case rel => exact ⟨j + 1, by have := hji.out; go_num, by omega, by rw [fins_snoc] at hJ3; exact hJ3, hb3, hd3⟩
    case measure => have := hji.out; have := hNM.out; simp [intOf]; omega
   ·gi_wp2
    refine bodyPost_ret (results_none rfl _ _ _) rfl ?_
    exact ⟨⟨_, rfl⟩, .inr ⟨_, by rw [fins_snoc]; exact List.take_prefix _ _, hJx3⟩⟩
  ·have q1 : ¬ (5 * j : Nat) < 5 * M := by omega
   obtain ⟨i, hi⟩ : ∃ i, 5 * j = i := ⟨_, rfl⟩
   obtain ⟨N, hN⟩ : ∃ N, 5 * M = N := ⟨_, rfl⟩
   rw [hi, hN] at q1
   rw [hN] at hcr
   rw [hi]
   clear hi hN; gi_wp2
   refine bodyPost_end (results_none rfl _ _ _) rfl ?_
   obtain rfl : j = M := by omega
   exact ⟨⟨_, rfl⟩, .inl ⟨_, fins_all j, hJs⟩⟩
set_option maxHeartbeats 1000000 in
theorem chunk_in (n : Nat) (A : Option Addr) (len c : Nat) (w : World) : CallsIn Fence.wide n Tryd.prog 26 #[.slice A len c, .int .i64 5] w fun e w' => e = .returned (.func (.func 39) #[] #[.pointer (some ⟨w.heap.size, 0, none⟩), .pointer (some ⟨w.heap.size + 1, 0, none⟩)]) ∧
  w' = (w.alloc (.cells #[.slice A len c] 23)).alloc (.cells #[.int .i64 5] 3) := by
 refine callsIn_of_wp Tryd.func26 rfl trivial ?_ rfl
 simp only [Tryd.ntmps26, List.size_toArray, List.length_cons, List.length_nil, Nat.reduceAdd, Nat.reduceSub, Array.replicate_succ, Array.replicate_zero, List.push_toArray, List.append_toArray, List.nil_append, List.cons_append]
 gi_wp2
 go_ret
 exact ⟨rfl, rfl⟩
theorem chunk_stops (A : Option Addr) (N M c : Nat) (hN : N = 5 * M) (hA : 0 < M → ∃ ad, A = some ad) (hM2 : M < 1000000000) (hcap : N ≤ c) (n : Nat) (hn : 1 ≤ n) (B1 B2 : Nat) (w : World) (hc : Boxed w B1 23 (.slice A N c)) (hd : Boxed w B2 3 (.int .i64 5)) :
  SeqStopsK Fence.wide n Tryd.prog 39 #[.pointer (some ⟨B1, 0, none⟩), .pointer (some ⟨B2, 0, none⟩)] (fun j : Fin M => #[fiveAt A j.1]) (KBox2 B1 B2) (fun ys => ys = List.finRange M) (fun pre => pre <+: List.finRange M) M w := fun l J Jx W hW hJ _ hY h0 => by
 subst hN; exact chunk1_in A M c hA hM2 hcap n hn l B1 B2 J Jx W hJ hY ((hW.block _ hc.lt).trans hc) ((hW.block _ hd.lt).trans hd) h0
theorem kbox2_t {B1 B2 : Nat} {A B C : World} (h : KBox2 B1 B2 A B) (k : KBox2 B1 B2 B C) : KBox2 B1 B2 A C := ⟨Eq.trans k.1 h.1, Eq.trans k.2 h.2⟩
theorem kbox2_b {B1 B2 : Nat} {w : World} (h1 : B1 < w.heap.size) (h2 : B2 < w.heap.size) (W : World) (l : Nat) (o o' : Obj) (hl : w.heap.size ≤ l) (h : W.heap[l]? = some o) (_ : o.isCells = false) (_ : o.isWalk = false) : KBox2 B1 B2 W (W.putObj l o') :=
 ⟨World.putObj_heap_other (fun e => by omega), World.putObj_heap_other (fun e => by omega)⟩
end
theorem equalIn_int (d : Nat) (a b : Int) (w : World) : (Op.equalIn (d + 1) 3 (.int .i64 a) (.int .i64 b)).run Tryd.prog w = .ok (a == b) w := by
 have h3 := Tryd.underlying3
 simp only [Op.equalIn, Sem.run_bind, run_underlying h3, Result.andThen_ok]
 simp
theorem equalIn_span (d : Nat) (a0 a1 b0 b1 : Int) (w : World) : (Op.equalIn (d + 1 + 1) 36 (.agg #[.int .i64 a0, .int .i64 a1]) (.agg #[.int .i64 b0, .int .i64 b1])).run Tryd.prog w = .ok (a0 == b0 && a1 == b1) w :=
 eqA_of Tryd.underlying36 (by kernel_rfl) (eqf_cons rfl (a := .int .i64 a0) (b := .int .i64 b0) (by go_simp) (by go_simp) (equalIn_int d a0 b0 w) (eqf_last rfl (a := .int .i64 a1) (b := .int .i64 b1) (by go_simp) (by go_simp) (equalIn_int d a1 b1 w)))
theorem equalIn_mark (d : Nat) (a0 a1 a2 a3 b0 b1 b2 b3 : Int) (w : World) : (Op.equalIn (d + 1 + 1 + 1) 38 (.agg #[.int .i64 a0, .int .i64 a1, .int .i64 a2, .int .i64 a3]) (.agg #[.int .i64 b0, .int .i64 b1, .int .i64 b2, .int .i64 b3])).run Tryd.prog w = .ok ((a0 == b0 && a1 == b1) && (a2 == b2 && a3 == b3)) w :=
 eqA_of Tryd.underlying38 (by kernel_rfl) (eqf_cons rfl (a := .agg #[.int .i64 a0, .int .i64 a1]) (b := .agg #[.int .i64 b0, .int .i64 b1]) (by go_simp) (by go_simp) (equalIn_span d a0 a1 b0 b1 w)
  (eqf_cons rfl (a := .int .i64 a2) (b := .int .i64 b2) (by go_simp) (by go_simp) (equalIn_int (d + 1) a2 b2 w) (eqf_last rfl (a := .int .i64 a3) (b := .int .i64 b3) (by go_simp) (by go_simp) (equalIn_int (d + 1) a3 b3 w))))
theorem neq_mark (o : Oper) (ρ : Operand → Value) (s t : Tmp) (a0 a1 a2 a3 b0 b1 b2 b3 : Int) (w : World) (ho : o.op = .binOp .neq 38 (.tmp s) (.tmp t) 38) (hs : ρ (.tmp s) = .agg #[.int .i64 a0, .int .i64 a1, .int .i64 a2, .int .i64 a3]) (ht : ρ (.tmp t) = .agg #[.int .i64 b0, .int .i64 b1, .int .i64 b2, .int .i64 b3]) :
  (execOp ρ o).run Tryd.prog w = .ok (.value (.bool (!((a0 == b0 && a1 == b1) && (a2 == b2 && a3 == b3))))) w := by
 have hg : Tryd.prog.eqGuardType Tryd.prog.depth 38 = false := by kernel_rfl
 have he : (Op.equal 38 (.agg #[.int .i64 a0, .int .i64 a1, .int .i64 a2, .int .i64 a3]) (.agg #[.int .i64 b0, .int .i64 b1, .int .i64 b2, .int .i64 b3])).run Tryd.prog w = .ok ((a0 == b0 && a1 == b1) && (a2 == b2 && a3 == b3)) w := by
  unfold Op.equal
  have : Op.maxDepth = 9997 + 1 + 1 + 1 := by decide
  rw [this]
  generalize 9997 = d
  exact equalIn_mark d a0 a1 a2 a3 b0 b1 b2 b3 w
 simp only [execOp, ho, hs, ht]
 simp [eqGuard, binOp, hg, he]
def sameMark (a b : S38) : Bool := (a.f0.f0 == b.f0.f0 && a.f0.f1 == b.f0.f1) && (a.f1 == b.f1 && a.f2 == b.f2)
def sameMarks : List S38 → List S38 → Bool
 | [], [] => true
 | a :: r, b :: q => sameMark a b && sameMarks r q
 | _, _ => false
theorem sameMarks_len : ∀ (a b : List S38), a.length ≠ b.length → sameMarks a b = false
 | [], [], h => absurd rfl h
 | [], _ :: _, _ => rfl
 | _ :: _, [], _ => rfl
 | a :: r, b :: q, h => by
  rw [sameMarks, sameMarks_len r q (fun e => h (by simp [e])), Bool.and_false]
theorem sameMarks_drop {a b : List S38} {i : Nat} (h : i < a.length) (hb : i < b.length) : sameMarks (a.drop i) (b.drop i) = (sameMark (rd_T38 a (i : Int)) (rd_T38 b (i : Int)) && sameMarks (a.drop (i + 1)) (b.drop (i + 1))) := by
 unfold rd_T38
 rw [List.drop_eq_getElem_cons h, List.drop_eq_getElem_cons hb, List.getD_eq_getElem?_getD, List.getD_eq_getElem?_getD, show ((i : Int)).toNat = i from rfl, List.getElem?_eq_getElem h, List.getElem?_eq_getElem hb]
 rfl
def api_Mark.f (l0 l1 : List S38) : Option Bool := some (sameMarks l0 l1)
set_option maxHeartbeats 2000000 in
set_option maxRecDepth 100000 in
theorem api_Mark.calls (A0 : Option Addr) (c0 : Nat) (l0 : List S38) (A1 : Option Addr) (c1 : Nat) (l1 : List S38) (r : Bool) (w : World) (hr0 : Kd.C k38 w A0 l0.length l0) (hc0 : l0.length ≤ c0) (hr1 : Kd.C k38 w A1 l1.length l1) (hc1 : l1.length ≤ c1) (h : api_Mark.f l0 l1 = some r) :
  Calls Tryd.prog 28 #[.slice A0 l0.length c0, .slice A1 l1.length c1] w fun e w' => e = .returned (.bool r) ∧ Drawn0 w w' := by
 obtain rfl := Option.some.inj h
 have HR0 := Aside0.mk hr0; have HR1 := Aside0.mk hr1; have hL : l0.length ≤ 9223372036854775807 := hr0.2.1
 clear hr0 hr1 h hc0 hc1; have hu60 := Tryd.underlying38
 by_cases hlen : l0.length = l1.length
 ·have hb : decide ((l0.length : Int) = (l1.length : Int)) = true := decide_eq_true (by omega)
  have hb2 : ((l0.length : Int) != (l1.length : Int)) = false := by rw [hlen]; exact bne_self_eq_false _
  obtain ⟨n, hn⟩ : ∃ n, l1.length = n := ⟨_, rfl⟩
  have HN := Aside0.mk hn; have HN0 := Aside0.mk (hlen.trans hn)
  rw [hlen, hn] at hL
  rw [hlen, hn]
  clear hlen hn hb hb2; go_enter Tryd.func28, Tryd.ntmps28
  go_wp2
  go_loopw [13] (fun v13 w' => ∃ (i m : Nat), v13 = .int .i64 i ∧ i ≤ n ∧ w' = w.drewN m ∧ Aside0 (sameMarks (l0.drop i) (l1.drop i) = sameMarks l0 l1)) (fun v13 _ => n - (intOf v13).toNat)
  case atStart => exact ⟨0, 0, rfl, Nat.zero_le _, rfl, ⟨rfl⟩⟩
  case round =>
   obtain ⟨i, m, rfl, hi, rfl, HA⟩ := hrel
   by_cases hlt : i < n
   ·have hs := sameMarks_drop (a := l0) (b := l1) (i := i) (by rw [HN0.out]; exact hlt) (by rw [HN.out]; exact hlt)
    obtain ⟨ad, e, hx0, hx1, hx2, hx3⟩ := at_T38 HR0.out (i : Int) (by omega) (by rw [HN0.out]; omega)
    obtain ⟨ae, e', hy0, hy1, hy2, hy3⟩ := at_T38 HR1.out (i : Int) (by omega) (by rw [HN.out]; omega)
    cases e
    cases e'
    obtain ⟨x, hx⟩ : ∃ m, rd_T38 l0 (i : Int) = m := ⟨_, rfl⟩
    obtain ⟨y, hy⟩ : ∃ m, rd_T38 l1 (i : Int) = m := ⟨_, rfl⟩
    rw [hx] at hs hx0 hx1 hx2 hx3
    rw [hy] at hs hy0 hy1 hy2 hy3
    simp only [Int.toNat_natCast] at hx0 hx1 hx2 hx3 hy0 hy1 hy2 hy3
    have hi0 : (0 : Int) ≤ (i : Int) := by omega
    have hi1 : (i : Int) < (n : Int) := by omega
    have HS := Aside0.mk (hs.symm.trans HA.out)
    clear hs hx hy HA; cases hq : sameMark x y
    all_goals
     have hq2 : (!((x.f0.f0 == y.f0.f0 && x.f0.f1 == y.f0.f1) && (x.f1 == y.f1 && x.f2 == y.f2))) = !sameMark x y := rfl
     rw [hq] at hq2
     have HQ := Aside0.mk hq; have HQ2 := Aside0.mk hq2; clear hq hq2; go_wp2
     refine XRound.quiet_any (fun w' => (w'.cell? (ad.add (i * 4)) = some (.int .i64 x.f0.f0) ∧ w'.cell? ⟨(ad.add (i * 4)).block, (ad.add (i * 4)).off + 1, none⟩ = some (.int .i64 x.f0.f1) ∧ w'.cell? ⟨(ad.add (i * 4)).block, (ad.add (i * 4)).off + 2, none⟩ = some (.int .i64 x.f1) ∧ w'.cell? ⟨(ad.add (i * 4)).block, (ad.add (i * 4)).off + 3, none⟩ = some (.int .i64 x.f2) ∧ w'.cell? (ae.add (i * 4)) = some (.int .i64 y.f0.f0) ∧ w'.cell? ⟨(ae.add (i * 4)).block, (ae.add (i * 4)).off + 1, none⟩ = some (.int .i64 y.f0.f1) ∧ w'.cell? ⟨(ae.add (i * 4)).block, (ae.add (i * 4)).off + 2, none⟩ = some (.int .i64 y.f1) ∧ w'.cell? ⟨(ae.add (i * 4)).block, (ae.add (i * 4)).off + 3, none⟩ = some (.int .i64 y.f2)) ∧ ∃ m, w' = w.drewN m)
      ⟨⟨hx0, hx1, hx2, hx3, hy0, hy1, hy2, hy3⟩, m + 1, rfl⟩ (by kernel_rfl) (by kernel_rfl) ?_
     iterate 8 refine XRound.q_op ?_
     refine XRound.q_op ?_ rfl (fun w' _ => (neq_mark _ _ 19 23 x.f0.f0 x.f0.f1 x.f1 x.f2 y.f0.f0 y.f0.f1 y.f1 y.f2 w' rfl rfl rfl).trans (by rw [HQ2.out]))
     refine wpQuiet_nil ?_
     rintro w' ⟨_, m', rfl⟩
     go_wp2
    ·go_ret
     have h2 := HS.out
     rw [HQ.out, Bool.false_and] at h2
     exact ⟨by rw [← h2]; rfl, ⟨m', rfl⟩⟩
    ·go_roundw
     case rel => exact ⟨i + 1, m', by go_num, by omega, rfl, ⟨by have h2 := HS.out; rw [HQ.out, Bool.true_and] at h2; exact h2⟩⟩
     case measure => simp [intOf]; omega
   ·have hii : i = n := by omega
    subst hii; have h2 := HA.out
    rw [List.drop_of_length_le (by rw [HN0.out]; exact Nat.le_refl _), List.drop_of_length_le (by rw [HN.out]; exact Nat.le_refl _)] at h2
    have H2 := Aside0.mk h2; clear HA h2; go_wp2
    go_ret
    exact ⟨by rw [← H2.out]; rfl, ⟨m, rfl⟩⟩
 ·have hb2 : ((l0.length : Int) != (l1.length : Int)) = true := bne_iff_ne.2 (by omega)
  have HF := Aside0.mk (sameMarks_len l0 l1 hlen)
  go_enter Tryd.func28, Tryd.ntmps28
  go_wp2
  go_ret
  exact ⟨by rw [HF.out]; rfl, ⟨0, rfl⟩⟩
theorem equalIn_five (e : Nat) (he : ∀ (a b : Int) (w : World), (Op.equalIn e 3 (.int .i64 a) (.int .i64 b)).run Tryd.prog w = .ok (a == b) w) (x0 x1 x2 x3 x4 y0 y1 y2 y3 y4 : Int) (w : World) : (Op.equalIn (e + 1) 60 (.agg #[.int .i64 x0, .int .i64 x1, .int .i64 x2, .int .i64 x3, .int .i64 x4]) (.agg #[.int .i64 y0, .int .i64 y1, .int .i64 y2, .int .i64 y3, .int .i64 y4])).run Tryd.prog w = .ok (x0 == y0 && (x1 == y1 && (x2 == y2 && (x3 == y3 && x4 == y4)))) w := by
 have hu := Tryd.underlying60
 have h3 := Tryd.underlying3
 have hs : ∀ w, (sizeOf 3).run Tryd.prog w = .ok 1 w := fun w => by go_simp
 have hp0 : ∀ (a0 a1 a2 a3 a4 : Int) (w : World), (part 3 #[.int .i64 a0, .int .i64 a1, .int .i64 a2, .int .i64 a3, .int .i64 a4] 0).run Tryd.prog w = .ok (.int .i64 a0) w := fun _ _ _ _ _ w => by go_simp
 have hp1 : ∀ (a0 a1 a2 a3 a4 : Int) (w : World), (part 3 #[.int .i64 a0, .int .i64 a1, .int .i64 a2, .int .i64 a3, .int .i64 a4] 1).run Tryd.prog w = .ok (.int .i64 a1) w := fun _ _ _ _ _ w => by go_simp
 have hp2 : ∀ (a0 a1 a2 a3 a4 : Int) (w : World), (part 3 #[.int .i64 a0, .int .i64 a1, .int .i64 a2, .int .i64 a3, .int .i64 a4] 2).run Tryd.prog w = .ok (.int .i64 a2) w := fun _ _ _ _ _ w => by go_simp
 have hp3 : ∀ (a0 a1 a2 a3 a4 : Int) (w : World), (part 3 #[.int .i64 a0, .int .i64 a1, .int .i64 a2, .int .i64 a3, .int .i64 a4] 3).run Tryd.prog w = .ok (.int .i64 a3) w := fun _ _ _ _ _ w => by go_simp
 have hp4 : ∀ (a0 a1 a2 a3 a4 : Int) (w : World), (part 3 #[.int .i64 a0, .int .i64 a1, .int .i64 a2, .int .i64 a3, .int .i64 a4] 4).run Tryd.prog w = .ok (.int .i64 a4) w := fun _ _ _ _ _ w => by go_simp
 simp only [Op.equalIn, Sem.run_bind, run_underlying hu, Result.andThen_ok, hs, Nat.mul_one]
 rw [Std.Legacy.Range.forIn_eq_forIn_range']
 simp only [Std.Legacy.Range.size, show List.range' 0 ((5 - 0 + 1 - 1) / 1) 1 = [0, 1, 2, 3, 4] by decide, List.forIn_cons, List.forIn_nil, Sem.run_bind, hp0, he, Result.andThen_ok]
 by_cases h0 : x0 = y0
 ·by_cases h1 : x1 = y1
  ·by_cases h2 : x2 = y2
   ·by_cases h3 : x3 = y3
    ·by_cases h4 : x4 = y4 <;> simp [h0, h1, h2, h3, h4, hp0, hp1, hp2, hp3, hp4, he]
    ·simp [h0, h1, h2, h3, hp0, hp1, hp2, hp3, hp4, he]
   ·simp [h0, h1, h2, hp0, hp1, hp2, hp3, hp4, he]
  ·simp [h0, h1, hp0, hp1, hp2, hp3, hp4, he]
 ·simp [h0, hp0, hp1, hp2, hp3, hp4, he]
theorem equal_five (x0 x1 x2 x3 x4 y0 y1 y2 y3 y4 : Int) (w : World) : (Op.equal 60 (.agg #[.int .i64 x0, .int .i64 x1, .int .i64 x2, .int .i64 x3, .int .i64 x4]) (.agg #[.int .i64 y0, .int .i64 y1, .int .i64 y2, .int .i64 y3, .int .i64 y4])).run Tryd.prog w = .ok (x0 == y0 && (x1 == y1 && (x2 == y2 && (x3 == y3 && x4 == y4)))) w := by
 unfold Op.equal
 have : Op.maxDepth = 9998 + 1 + 1 := by decide
 rw [this]
 generalize 9998 = d
 exact equalIn_five (d + 1) (fun a b w => equalIn_int d a b w) x0 x1 x2 x3 x4 y0 y1 y2 y3 y4 w
theorem neq_five (o : Oper) (ρ : Operand → Value) (s t : Tmp) (x0 x1 x2 x3 x4 y0 y1 y2 y3 y4 : Int) (w : World) (ho : o.op = .binOp .neq 60 (.tmp s) (.tmp t) 60) (hs : ρ (.tmp s) = .agg #[.int .i64 x0, .int .i64 x1, .int .i64 x2, .int .i64 x3, .int .i64 x4]) (ht : ρ (.tmp t) = .agg #[.int .i64 y0, .int .i64 y1, .int .i64 y2, .int .i64 y3, .int .i64 y4]) :
  (execOp ρ o).run Tryd.prog w = .ok (.value (.bool (!(x0 == y0 && (x1 == y1 && (x2 == y2 && (x3 == y3 && x4 == y4))))))) w := by
 have hg : Tryd.prog.eqGuardType Tryd.prog.depth 60 = false := by kernel_rfl
 have he := equal_five x0 x1 x2 x3 x4 y0 y1 y2 y3 y4 w
 simp only [execOp, ho, hs, ht]
 simp [eqGuard, binOp, hg, he]
def sameFive (a b : S60) : Bool := a.f0 == b.f0 && (a.f1 == b.f1 && (a.f2 == b.f2 && (a.f3 == b.f3 && a.f4 == b.f4)))
def sameFives : List S60 → List S60 → Bool
 | [], [] => true
 | a :: r, b :: q => sameFive a b && sameFives r q
 | _, _ => false
theorem sameFives_len : ∀ (a b : List S60), a.length ≠ b.length → sameFives a b = false
 | [], [], h => absurd rfl h
 | [], _ :: _, _ => rfl
 | _ :: _, [], _ => rfl
 | a :: r, b :: q, h => by
  rw [sameFives, sameFives_len r q (fun e => h (by simp [e])), Bool.and_false]
theorem sameFives_drop {a b : List S60} {i : Nat} (h : i < a.length) (hb : i < b.length) : sameFives (a.drop i) (b.drop i) = (sameFive (rd_T60 a (i : Int)) (rd_T60 b (i : Int)) && sameFives (a.drop (i + 1)) (b.drop (i + 1))) := by
 unfold rd_T60
 rw [List.drop_eq_getElem_cons h, List.drop_eq_getElem_cons hb, List.getD_eq_getElem?_getD, List.getD_eq_getElem?_getD, show ((i : Int)).toNat = i from rfl, List.getElem?_eq_getElem h, List.getElem?_eq_getElem hb]
 rfl
def slices_Equal_5_int_5_int.f (l0 l1 : List S60) : Option Bool := some (sameFives l0 l1)
set_option maxHeartbeats 2000000 in
set_option maxRecDepth 100000 in
theorem slices_Equal_5_int_5_int.calls (A0 : Option Addr) (c0 : Nat) (l0 : List S60) (A1 : Option Addr) (c1 : Nat) (l1 : List S60) (r : Bool) (w : World) (hr0 : Kd.C k60 w A0 l0.length l0) (hc0 : l0.length ≤ c0) (hr1 : Kd.C k60 w A1 l1.length l1) (hc1 : l1.length ≤ c1) (h : slices_Equal_5_int_5_int.f l0 l1 = some r) :
  Calls Tryd.prog 29 #[.slice A0 l0.length c0, .slice A1 l1.length c1] w fun e w' => e = .returned (.bool r) ∧ Drawn0 w w' := by
 obtain rfl := Option.some.inj h
 have HR0 := Aside0.mk hr0; have HR1 := Aside0.mk hr1; have hL : l0.length ≤ 9223372036854775807 := hr0.2.1
 clear hr0 hr1 h hc0 hc1; have hu60 := Tryd.underlying60
 by_cases hlen : l0.length = l1.length
 ·have hb : decide ((l0.length : Int) = (l1.length : Int)) = true := decide_eq_true (by omega)
  have hb2 : ((l0.length : Int) != (l1.length : Int)) = false := by rw [hlen]; exact bne_self_eq_false _
  obtain ⟨n, hn⟩ : ∃ n, l1.length = n := ⟨_, rfl⟩
  have HN := Aside0.mk hn; have HN0 := Aside0.mk (hlen.trans hn)
  rw [hlen, hn] at hL
  rw [hlen, hn]
  clear hlen hn hb hb2; go_enter Tryd.func29, Tryd.ntmps29
  go_wp2
  go_loopw [13] (fun v13 w' => ∃ (i m : Nat), v13 = .int .i64 i ∧ i ≤ n ∧ w' = w.drewN m ∧ Aside0 (sameFives (l0.drop i) (l1.drop i) = sameFives l0 l1)) (fun v13 _ => n - (intOf v13).toNat)
  case atStart => exact ⟨0, 0, rfl, Nat.zero_le _, rfl, ⟨rfl⟩⟩
  case round =>
   obtain ⟨i, m, rfl, hi, rfl, HA⟩ := hrel
   by_cases hlt : i < n
   ·have hs := sameFives_drop (a := l0) (b := l1) (i := i) (by rw [HN0.out]; exact hlt) (by rw [HN.out]; exact hlt)
    obtain ⟨ad, e, hx0, hx1, hx2, hx3, hx4⟩ := at_T60 HR0.out (i : Int) (by omega) (by rw [HN0.out]; omega)
    obtain ⟨ae, e', hy0, hy1, hy2, hy3, hy4⟩ := at_T60 HR1.out (i : Int) (by omega) (by rw [HN.out]; omega)
    cases e
    cases e'
    obtain ⟨x, hx⟩ : ∃ m, rd_T60 l0 (i : Int) = m := ⟨_, rfl⟩
    obtain ⟨y, hy⟩ : ∃ m, rd_T60 l1 (i : Int) = m := ⟨_, rfl⟩
    rw [hx] at hs hx0 hx1 hx2 hx3 hx4
    rw [hy] at hs hy0 hy1 hy2 hy3 hy4
    simp only [Int.toNat_natCast] at hx0 hx1 hx2 hx3 hx4 hy0 hy1 hy2 hy3 hy4
    have hi0 : (0 : Int) ≤ (i : Int) := by omega
    have hi1 : (i : Int) < (n : Int) := by omega
    have HS := Aside0.mk (hs.symm.trans HA.out)
    clear hs hx hy HA; cases hq : sameFive x y
    all_goals
     have hq2 : (!(x.f0 == y.f0 && (x.f1 == y.f1 && (x.f2 == y.f2 && (x.f3 == y.f3 && x.f4 == y.f4))))) = !sameFive x y := rfl
     rw [hq] at hq2
     have HQ := Aside0.mk hq; have HQ2 := Aside0.mk hq2; clear hq hq2; go_wp2
     refine XRound.quiet_any (fun w' => (w'.cell? (ad.add (i * 5)) = some (.int .i64 x.f0) ∧ w'.cell? ⟨(ad.add (i * 5)).block, (ad.add (i * 5)).off + 1, none⟩ = some (.int .i64 x.f1) ∧ w'.cell? ⟨(ad.add (i * 5)).block, (ad.add (i * 5)).off + 2, none⟩ = some (.int .i64 x.f2) ∧ w'.cell? ⟨(ad.add (i * 5)).block, (ad.add (i * 5)).off + 3, none⟩ = some (.int .i64 x.f3) ∧ w'.cell? ⟨(ad.add (i * 5)).block, (ad.add (i * 5)).off + 4, none⟩ = some (.int .i64 x.f4) ∧
       w'.cell? (ae.add (i * 5)) = some (.int .i64 y.f0) ∧ w'.cell? ⟨(ae.add (i * 5)).block, (ae.add (i * 5)).off + 1, none⟩ = some (.int .i64 y.f1) ∧ w'.cell? ⟨(ae.add (i * 5)).block, (ae.add (i * 5)).off + 2, none⟩ = some (.int .i64 y.f2) ∧ w'.cell? ⟨(ae.add (i * 5)).block, (ae.add (i * 5)).off + 3, none⟩ = some (.int .i64 y.f3) ∧ w'.cell? ⟨(ae.add (i * 5)).block, (ae.add (i * 5)).off + 4, none⟩ = some (.int .i64 y.f4)) ∧ ∃ m, w' = w.drewN m)
      ⟨⟨hx0, hx1, hx2, hx3, hx4, hy0, hy1, hy2, hy3, hy4⟩, m + 1, rfl⟩ (by kernel_rfl) (by kernel_rfl) ?_
     iterate 8 refine XRound.q_op ?_
     refine XRound.q_op ?_ rfl (fun w' _ => (neq_five _ _ 19 23 x.f0 x.f1 x.f2 x.f3 x.f4 y.f0 y.f1 y.f2 y.f3 y.f4 w' rfl rfl rfl).trans (by rw [HQ2.out]))
     refine wpQuiet_nil ?_
     rintro w' ⟨_, m', rfl⟩
     go_wp2
    ·go_ret
     have h2 := HS.out
     rw [HQ.out, Bool.false_and] at h2
     exact ⟨by rw [← h2]; rfl, ⟨m', rfl⟩⟩
    ·go_roundw
     case rel => exact ⟨i + 1, m', by go_num, by omega, rfl, ⟨by have h2 := HS.out; rw [HQ.out, Bool.true_and] at h2; exact h2⟩⟩
     case measure => simp [intOf]; omega
   ·have hii : i = n := by omega
    subst hii; have h2 := HA.out
    rw [List.drop_of_length_le (by rw [HN0.out]; exact Nat.le_refl _), List.drop_of_length_le (by rw [HN.out]; exact Nat.le_refl _)] at h2
    have H2 := Aside0.mk h2; clear HA h2; go_wp2
    go_ret
    exact ⟨by rw [← H2.out]; rfl, ⟨m, rfl⟩⟩
 ·have hb2 : ((l0.length : Int) != (l1.length : Int)) = true := bne_iff_ne.2 (by omega)
  have HF := Aside0.mk (sameFives_len l0 l1 hlen)
  go_enter Tryd.func29, Tryd.ntmps29
  go_wp2
  go_ret
  exact ⟨by rw [HF.out]; rfl, ⟨0, rfl⟩⟩
end Go.Proofs.YtbjhmknahldhaaaDoor.Q

end
