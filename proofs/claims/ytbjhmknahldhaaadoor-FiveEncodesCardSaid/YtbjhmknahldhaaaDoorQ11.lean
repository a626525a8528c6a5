-- Written by this repo's wip/xprint.py (over the kit's print.py) out of the translation. Not trusted: Lean checks it.
import Derived.Test.YtbjhmknahldhaaaDoorQ0
import Derived.Test.YtbjhmknahldhaaaDoorQ8
import Derived.Test.YtbjhmknahldhaaaDoorQ10
namespace Go.Proofs.YtbjhmknahldhaaaDoor.Q
open Go.RowKit Go.Proofs.YtbjhmknahldhaaaDoorW.PrintWords Go.Proofs.YtbjhmknahldhaaaDoorW.PrintLast Go.Proofs.YtbjhmknahldhaaaDoorW.PrintMore
attribute [local go_sem] max2_int min2_int max_two min_two max_three min_three max_four min_four   -- for this text's walks alone
set_option linter.unusedVariables false
set_option linter.unusedSimpArgs false

/-! ### five_fives: function 23 -/
mutual
def five_fives.l0 : Nat → ByteArray → List (S60) → List Int → Int → Int → Int → List (S38) → Int → Int → Option ((List (S60)))
 | 0, _, _, _, _, _, _, _, _, _ => none
 | k + 1, x0, x5, x6, x7, x8, x9, x15, x16, x17 => if x17 < x16 then (if 0 ≤ x17 then (if x17 < (x15.length : Int) then (five_fives.l1 k x0 x5 x6 x7 x8 x9 x15 x16 x17 ((rd_T38 x15 x17).f0.f0) ((rd_T38 x15 x17).f0.f1) ((rd_T38 x15 x17).f1) ((rd_T38 x15 x17).f2)) else (none)) else (none)) else (some x5)
def five_fives.l1 : Nat → ByteArray → List (S60) → List Int → Int → Int → Int → List (S38) → Int → Int → Int → Int → Int → Int → Option ((List (S60)))
 | 0, _, _, _, _, _, _, _, _, _, _, _, _, _ => none
 | k + 1, x0, x5, x6, x7, x8, x9, x15, x16, x17, x243000, x243001, x243002, x243003 => if 0 ≤ (wrap64 (x7 + 1)) then (if (wrap64 (x7 + 1)) < (x6.length : Int) then (if (rd x6 (wrap64 (x7 + 1))) ≤ x243000 then (five_fives.l1 k x0 x5 x6 (wrap64 (x7 + 1)) x8 x9 x15 x16 x17 x243000 x243001 x243002 x243003) else (if x7 > x8 then (if 0 ≤ x7 then (if x7 < (x6.length : Int) then (if 0 ≤ (rd x6 x7) then (if (rd x6 x7) ≤ x243000 then (if x243000 ≤ (x0.size : Int) then ((utf_Units.f (x0.extract ((rd x6 x7) : Int).toNat (x243000 : Int).toNat)).bind fun t245 => (if 0 ≤ x243000 then (if x243000 ≤ x243001 then (if x243001 ≤ (x0.size : Int) then ((utf_Units.f (x0.extract (x243000 : Int).toNat (x243001 : Int).toNat)).bind fun t246 => (if x5.length < 3518437208883 then (five_fives.l0 k x0 (x5 ++ [(⟨wrap64 (x7 - x8), wrap64 (t245), t246, x243002, x243003⟩ : S60)]) x6 x7 x7 t245 x15 x16 (wrap64 (x17 + 1))) else (none))) else (none)) else (none)) else (none))) else (none)) else (none)) else (none)) else (none)) else (none)) else (if 0 ≤ x7 then (if x7 < (x6.length : Int) then (if 0 ≤ (rd x6 x7) then (if (rd x6 x7) ≤ x243000 then (if x243000 ≤ (x0.size : Int) then ((utf_Units.f (x0.extract ((rd x6 x7) : Int).toNat (x243000 : Int).toNat)).bind fun t251 => (if 0 ≤ x243000 then (if x243000 ≤ x243001 then (if x243001 ≤ (x0.size : Int) then ((utf_Units.f (x0.extract (x243000 : Int).toNat (x243001 : Int).toNat)).bind fun t252 => (if x5.length < 3518437208883 then (five_fives.l0 k x0 (x5 ++ [(⟨wrap64 (x7 - x8), wrap64 (t251 - x9), t252, x243002, x243003⟩ : S60)]) x6 x7 x7 t251 x15 x16 (wrap64 (x17 + 1))) else (none))) else (none)) else (none)) else (none))) else (none)) else (none)) else (none)) else (none)) else (none)))) else (none)) else (none)
end
def five_fives.f (k : Nat) (a0 : ByteArray) (l1 : List (S38)) : Option ((List (S60))) := (five_ends.f a0).bind fun t238 => (five_fives.l0 k a0 ([] : List (S60)) t238 0 0 0 l1 (l1.length : Int) 0)
theorem five_fives.mono_l : ∀ k, (∀ y0 y1 y2 y3 y4 y5 y6 y7 y8, LeO (five_fives.l0 k y0 y1 y2 y3 y4 y5 y6 y7 y8) (five_fives.l0 (k + 1) y0 y1 y2 y3 y4 y5 y6 y7 y8)) ∧ (∀ y0 y1 y2 y3 y4 y5 y6 y7 y8 y9 y10 y11 y12, LeO (five_fives.l1 k y0 y1 y2 y3 y4 y5 y6 y7 y8 y9 y10 y11 y12) (five_fives.l1 (k + 1) y0 y1 y2 y3 y4 y5 y6 y7 y8 y9 y10 y11 y12))
 | 0 => ⟨fun _ _ _ _ _ _ _ _ _ r h => by simp [five_fives.l0] at h, fun _ _ _ _ _ _ _ _ _ _ _ _ _ r h => by simp [five_fives.l1] at h⟩
 | k + 1 => by
  obtain ⟨ih0, ih1⟩ := five_fives.mono_l k
  refine ⟨?_, ?_⟩
  ·intro y0 y1 y2 y3 y4 y5 y6 y7 y8
   unfold five_fives.l0
   repeat' first
   | (with_reducible exact ih0 _ _ _ _ _ _ _ _ _)
   | (with_reducible exact ih1 _ _ _ _ _ _ _ _ _ _ _ _ _)
   | (with_reducible exact LeO.refl _)
   | (with_reducible exact LeO.none _)
   | (with_reducible refine LeO.ite ?_ ?_)
   | (with_reducible refine LeO.bind ?_ (fun _ => ?_))
   | exact ih0 _ _ _ _ _ _ _ _ _
   | exact ih1 _ _ _ _ _ _ _ _ _ _ _ _ _
   | exact LeO.none _
   | refine LeO.ite ?_ ?_
   | refine LeO.bind ?_ (fun _ => ?_)
  ·intro y0 y1 y2 y3 y4 y5 y6 y7 y8 y9 y10 y11 y12
   unfold five_fives.l1
   repeat' first
   | (with_reducible exact ih0 _ _ _ _ _ _ _ _ _)
   | (with_reducible exact ih1 _ _ _ _ _ _ _ _ _ _ _ _ _)
   | (with_reducible exact LeO.refl _)
   | (with_reducible exact LeO.none _)
   | (with_reducible refine LeO.ite ?_ ?_)
   | (with_reducible refine LeO.bind ?_ (fun _ => ?_))
   | exact ih0 _ _ _ _ _ _ _ _ _
   | exact ih1 _ _ _ _ _ _ _ _ _ _ _ _ _
   | exact LeO.none _
   | refine LeO.ite ?_ ?_
   | refine LeO.bind ?_ (fun _ => ?_)
theorem five_fives.mono : ∀ a0 a1 k, LeO (five_fives.f k a0 a1) (five_fives.f (k + 1) a0 a1) := by
 intro a0 a1 k
 obtain ⟨ih0, ih1⟩ := five_fives.mono_l k
 unfold five_fives.f
 repeat' first
   | (with_reducible exact ih0 _ _ _ _ _ _ _ _ _)
   | (with_reducible exact ih1 _ _ _ _ _ _ _ _ _ _ _ _ _)
   | (with_reducible exact LeO.refl _)
   | (with_reducible exact LeO.none _)
   | (with_reducible refine LeO.ite ?_ ?_)
   | (with_reducible refine LeO.bind ?_ (fun _ => ?_))
   | exact ih0 _ _ _ _ _ _ _ _ _
   | exact ih1 _ _ _ _ _ _ _ _ _ _ _ _ _
   | exact LeO.none _
   | refine LeO.ite ?_ ?_
   | refine LeO.bind ?_ (fun _ => ?_)
def five_fives.T7 : Bool × List (List Nat × List Nat) := (true, [([], []), ([], []), ([1], [1]), ([0, 2], [0, 2]), ([3], [3]), ([], []), ([5], [5]), ([6], [6]), ([4, 7], [4, 7])])
def five_fives.B7 : List Nat := [0, 0, 2, 7, 15, 0, 32, 96, 255]
theorem five_fives.tab7 : rtab .any (opsOf Tryd.f23 7) = five_fives.T7 := by kernel_rfl
theorem five_fives.bits7 : waitsOk five_fives.T7.2 five_fives.B7 = true := by kernel_rfl
def five_fives.T11 : Bool × List (List Nat × List Nat) := (true, [([], []), ([], []), ([], []), ([1, 2], [1, 2]), ([3], [3]), ([], []), ([5], [5]), ([6], [6]), ([0, 4, 7], [0, 4, 7]), ([8], [8]), ([9, 9, 0, 1, 2, 3, 4, 5, 6, 7, 8, 9], [9])])
def five_fives.B11 : List Nat := [0, 0, 0, 6, 14, 0, 32, 96, 255, 511, 1023]
theorem five_fives.tab11 : rtab .any (opsOf Tryd.f23 11) = five_fives.T11 := by kernel_rfl
theorem five_fives.bits11 : waitsOk five_fives.T11.2 five_fives.B11 = true := by kernel_rfl
def five_fives.T12 : Bool × List (List Nat × List Nat) := (true, [([], []), ([], []), ([], []), ([1, 2], [1, 2]), ([], []), ([], []), ([4, 5], [4, 5]), ([], []), ([], []), ([8], [8]), ([9], [9]), ([], []), ([11], [11]), ([12], [12]), ([7, 10, 13], [7, 10, 13]), ([14], [14]), ([], []), ([16], [16]), ([], []), ([18], [18]), ([3, 6, 15, 17, 19], [3, 6, 15, 17, 19]), ([20], [20]), ([0, 21, 15], [0, 21]), ([22, 22, 0, 1, 2, 3, 4, 5, 6, 7, 8, 9, 10, 11, 12, 13, 14, 15, 16, 17, 18, 19, 20, 21, 22], [0, 22])])
def five_fives.B12 : List Nat := [0, 0, 0, 6, 0, 0, 48, 0, 0, 256, 768, 0, 2048, 6144, 16256, 32640, 0, 65536, 0, 262144, 1048574, 2097150, 4194303, 8388607]
theorem five_fives.tab12 : rtab .any (opsOf Tryd.f23 12) = five_fives.T12 := by kernel_rfl
theorem five_fives.bits12 : waitsOk five_fives.T12.2 five_fives.B12 = true := by kernel_rfl
set_option maxHeartbeats 8000000 in
set_option maxRecDepth 100000 in
theorem five_fives.calls (k : Nat) (a0 : ByteArray) (A1 : Option Addr) (c1 : Nat) (l1 : List (S38)) (r : List (S60)) (w : World) (hr1 : Kd.C k38 w A1 l1.length l1) (hc1 : l1.length ≤ c1) (h : five_fives.f k a0 l1 = some r) :
  Calls Tryd.prog 23 #[.string a0, .slice A1 l1.length c1] w fun e w' => ∃ v0_ : Value, e = .returned (v0_) ∧ Kd.R k60 60 w' w.heap.size (fun _ => True) v0_ r ∧ Below w.heap.size w w' := by
 have hu38 := Tryd.underlying38
 have hu60 := Tryd.underlying60
 have HR1 := Aside0.mk hr1; have HC1 := Aside0.mk hc1; clear hr1 hc1; have HB := Aside0.mk (Below.refl w.heap.size w)
 have H : ((five_ends.f a0).bind fun t238 => (five_fives.l0 k a0 ([] : List (S60)) t238 0 0 0 l1 (l1.length : Int) 0)) = some r := h
 clear h; replace H := Option.bind_eq_some_iff.mp H
 obtain ⟨t238, A30, H⟩ := H
 replace H : (five_fives.l0 k a0 ([] : List (S60)) t238 0 0 0 l1 (l1.length : Int) 0) = some r := H
 have A3 := Aside0.mk A30; clear A30; have H' := Aside0.mk H; clear H; go_enter Tryd.func23, Tryd.ntmps23
 go_wp2_with (first | ((with_reducible refine gate_callee (f := 25) rfl ?_); refine goesL_ (some 14) rfl rfl Tryd.func25 (by kernel_rfl) rfl #[.string a0] rfl (by (try simp only [List.map_toArray, List.map_cons, List.map_nil]); first | done | rfl | (simp only [List.length_drop, List.length_take]; rfl)) ?_; (with_reducible refine (five_ends.calls a0 t238 _ A3.out).mono ?_); rintro e w4 ⟨v239, rfl, ho0, hb⟩; refine ⟨_, rfl, ?_⟩; have n0_ := Aside0.mk (Kd.R_lower ho0 (below_size (bl HB))); have n1_ := Aside0.mk (below_step (bl HB) hb); clear HB; have HO240 := n0_; have HB := n1_; clear n0_ n1_; (try clear hb); (try clear hb2); (try clear hk); (try clear hi); (try clear ho0)))
 go_loopg [5, 7, 8, 9, 17] k (fun kq v5 v7 v8 v9 v17 w' => ∃ (x5_1 : List (S60)) (x7_1 : Int) (x8_1 : Int) (x9_1 : Int) (x17_1 : Int), v7 = .int .i64 x7_1 ∧ v8 = .int .i64 x8_1 ∧ v9 = .int .i64 x9_1 ∧ v17 = .int .i64 x17_1 ∧ Aside0 (five_fives.l0 kq a0 x5_1 t238 x7_1 x8_1 x9_1 l1 (l1.length : Int) x17_1 = some r) ∧ Aside0 (kq ≤ k) ∧ Aside0 (Kd.R k60 60 w' w.heap.size (fun _ => True) v5 x5_1) ∧ Aside0 (Kd.R (Kd.int .i64) 3 w' w.heap.size (fun _ => True) v239 t238) ∧ Aside0 (Below w.heap.size w w'))
 case atStart => exact ⟨(([] : List (S60))), (0), (0), (0), (0), (by first | rfl | (simp; done) | (simp [*]; done) | (simp; exact xEmpty_ne _) | (simp [*]; exact xEmpty_ne _)), (by first | rfl | (simp; done) | (simp [*]; done) | (simp; exact xEmpty_ne _) | (simp [*]; exact xEmpty_ne _)), (by first | rfl | (simp; done) | (simp [*]; done) | (simp; exact xEmpty_ne _) | (simp [*]; exact xEmpty_ne _)), (by first | rfl | (simp; done) | (simp [*]; done) | (simp; exact xEmpty_ne _) | (simp [*]; exact xEmpty_ne _)), H', ⟨Nat.le_refl _⟩, ⟨by first | exact Kd.R_nil _ _ _ _ _ | exact Kd.N_nil _ _ _ _ _ | exact Kd.V_nil _ _ _ _ _ | exact Kd.Q_nil _ _ _ _ _ | exact Kd.S_nil _ _ _ _ _⟩, ⟨rl HO240⟩, ⟨bl HB⟩⟩
 case round =>
  clear H'; (try clear c1); (try clear c2); (try clear p2); (try clear HO_5); (try clear HO_6); (try clear HB)
  obtain ⟨x5_1, x7_1, x8_1, x9_1, x17_1, rfl, rfl, rfl, rfl, HA, HK1, HO_5, HO_6, HB⟩ := hrel
  cases gk with
  | zero => exact absurd HA.out (by simp [five_fives.l0])
  | succ k1 =>
   have H := HA.out
   clear HA; simp only [five_fives.l0] at H
   by_cases c5 : x17_1 < (l1.length : Int)
   ·rw [if_pos c5] at H; have c5b0 : decide (x17_1 < (l1.length : Int)) = true := decide_eq_true c5; clear c5; by_cases c6 : 0 ≤ x17_1
    ·rw [if_pos c6] at H; have c6b0 : decide (0 ≤ x17_1) = true := decide_eq_true c6; clear c6; by_cases c7 : x17_1 < (l1.length : Int)
     ·rw [if_pos c7] at H; have c7b0 : decide (x17_1 < (l1.length : Int)) = true := decide_eq_true c7; clear c7; have H' := Aside0.mk H; clear H; have p241 : 0 ≤ (x17_1 : Int) := of_decide_eq_true (by first | (with_reducible assumption) | assumption)
      have q241 : x17_1 < (l1.length : Int) := of_decide_eq_true (by first | (with_reducible assumption) | assumption)
      obtain ⟨ad241, e241, hx241_0, hx241_1, hx241_2, hx241_3⟩ := at_T38 HR1.out x17_1 p241 q241
      cases e241; replace hx241_0 := (HB.out.cell (World.block_lt_of_cell? w _ hx241_0)).trans hx241_0; replace hx241_1 := (HB.out.cell (World.block_lt_of_cell? w _ hx241_1)).trans hx241_1; replace hx241_2 := (HB.out.cell (World.block_lt_of_cell? w _ hx241_2)).trans hx241_2; replace hx241_3 := (HB.out.cell (World.block_lt_of_cell? w _ hx241_3)).trans hx241_3; replace p241 := eq_true p241; replace q241 := eq_true q241; go_wp2_with (first | ((with_reducible refine gate_dst (N := 11) rfl ?_); refine box_event ?hg (N := 11) ?hd (cs := #[.int .i64 0, .int .i64 0, .int .i64 0, .int .i64 0]) (t := 38) ?hr ?_; (case hd => rfl); (case hg => rfl); (case hr => first | (go_simp; done) | (go_simp; rfl)); intro gb242 hg w8 hbox hb; have n0_ := Aside0.mk (Kd.R_below (rl HO_5) hb); have n1_ := Aside0.mk (Kd.R_below (rl HO_6) hb); have n2_ := Aside0.mk (below_step (bl HB) hb); have n3_ := Aside0.mk (hbox); have n4_ := Aside0.mk ((by rw [hg]; exact (below_size (bl HB)) : w.heap.size ≤ gb242)); have n5_ := Aside0.mk ((by rw [hg]; exact (below_size (bl HB)) : w.heap.size ≤ gb242)); clear HO_5; clear HO_6; clear HB; have HO_5 := n0_; have HO_6 := n1_; have HB := n2_; have BK242 := n3_; have GW242 := n4_; have GE242 := n5_; clear n0_ n1_ n2_ n3_ n4_ n5_; clear hb hbox hg; have hcz9_0 : w8.cell? ⟨gb242, 0, none⟩ = some (.int .i64 0) := (blk_cell BK242.out 0).trans rfl; have hcz9_1 : w8.cell? ⟨gb242, 1, none⟩ = some (.int .i64 0) := (blk_cell BK242.out 1).trans rfl; have hcz9_2 : w8.cell? ⟨gb242, 2, none⟩ = some (.int .i64 0) := (blk_cell BK242.out 2).trans rfl; have hcz9_3 : w8.cell? ⟨gb242, 3, none⟩ = some (.int .i64 0) := (blk_cell BK242.out 3).trans rfl; have hfz9_0 := blk_frozen BK242.out 0; have hfz9_1 := blk_frozen BK242.out 1; have hfz9_2 := blk_frozen BK242.out 2; have hfz9_3 := blk_frozen BK242.out 3))
      go_loopg [7] k1 (fun kq v7 w' => ∃ (x7_2 : Int), v7 = .int .i64 x7_2 ∧ Aside0 (five_fives.l1 kq a0 x5_1 t238 x7_2 x8_1 x9_1 l1 (l1.length : Int) x17_1 ((rd_T38 l1 x17_1).f0.f0) ((rd_T38 l1 x17_1).f0.f1) ((rd_T38 l1 x17_1).f1) ((rd_T38 l1 x17_1).f2) = some r) ∧ Aside0 (kq ≤ k1) ∧ Aside0 (Kd.R k60 60 w' w.heap.size (fun _ => True) u5 x5_1) ∧ Aside0 (Kd.R (Kd.int .i64) 3 w' w.heap.size (fun _ => True) v239 t238) ∧ Aside0 (w'.heap[gb242]? = some (.cells #[.int .i64 ((rd_T38 l1 x17_1).f0.f0), .int .i64 ((rd_T38 l1 x17_1).f0.f1), .int .i64 ((rd_T38 l1 x17_1).f1), .int .i64 ((rd_T38 l1 x17_1).f2)] 38 (0, 0))) ∧ Aside0 (Below w.heap.size w w'))
      case atStart => exact ⟨(x7_1), (by first | rfl | (simp; done) | (simp [*]; done) | (simp; exact xEmpty_ne _) | (simp [*]; exact xEmpty_ne _)), H', ⟨Nat.le_refl _⟩, ⟨by (with_reducible repeat (first | apply Kd.R_alloc | apply Kd.R_drewN | apply Kd.R_drew)); exact Kd.R_mono (Kd.R_far (p := ⟨gb242, 3, none⟩) (Kd.R_far (p := ⟨gb242, 2, none⟩) (Kd.R_far (p := ⟨gb242, 1, none⟩) (Kd.R_far (p := ⟨gb242, 0, none⟩) (Kd.R_types HO_5.out BK242.out (by decide)) (fun _ hk => hk.2) (.int .i64 ((rd_T38 l1 x17_1).f0.f0))) (fun _ hk => hk.2) (.int .i64 ((rd_T38 l1 x17_1).f0.f1))) (fun _ hk => hk.2) (.int .i64 ((rd_T38 l1 x17_1).f1))) (fun _ hk => hk.2) (.int .i64 ((rd_T38 l1 x17_1).f2))) (fun _ hk => trivial)⟩, ⟨by (with_reducible repeat (first | apply Kd.R_alloc | apply Kd.R_drewN | apply Kd.R_drew)); exact Kd.R_mono (Kd.R_far (p := ⟨gb242, 3, none⟩) (Kd.R_far (p := ⟨gb242, 2, none⟩) (Kd.R_far (p := ⟨gb242, 1, none⟩) (Kd.R_far (p := ⟨gb242, 0, none⟩) (Kd.R_types HO_6.out BK242.out (by decide)) (fun _ hk => hk.2) (.int .i64 ((rd_T38 l1 x17_1).f0.f0))) (fun _ hk => hk.2) (.int .i64 ((rd_T38 l1 x17_1).f0.f1))) (fun _ hk => hk.2) (.int .i64 ((rd_T38 l1 x17_1).f1))) (fun _ hk => hk.2) (.int .i64 ((rd_T38 l1 x17_1).f2))) (fun _ hk => trivial)⟩, ⟨by (with_reducible repeat (first | refine blk_drewN ?_ _ | refine blk_drew ?_ | refine blk_alloc ?_ _)); refine blk_put (cs := #[.int .i64 ((rd_T38 l1 x17_1).f0.f0), .int .i64 ((rd_T38 l1 x17_1).f0.f1), .int .i64 ((rd_T38 l1 x17_1).f1), .int .i64 0]) ?_ 3 _ rfl; (with_reducible repeat (first | refine blk_drewN ?_ _ | refine blk_drew ?_ | refine blk_alloc ?_ _)); refine blk_put (cs := #[.int .i64 ((rd_T38 l1 x17_1).f0.f0), .int .i64 ((rd_T38 l1 x17_1).f0.f1), .int .i64 0, .int .i64 0]) ?_ 2 _ rfl; (with_reducible repeat (first | refine blk_drewN ?_ _ | refine blk_drew ?_ | refine blk_alloc ?_ _)); refine blk_put (cs := #[.int .i64 ((rd_T38 l1 x17_1).f0.f0), .int .i64 0, .int .i64 0, .int .i64 0]) ?_ 1 _ rfl; (with_reducible repeat (first | refine blk_drewN ?_ _ | refine blk_drew ?_ | refine blk_alloc ?_ _)); refine blk_put (cs := #[.int .i64 0, .int .i64 0, .int .i64 0, .int .i64 0]) ?_ 0 _ rfl; (with_reducible repeat (first | refine blk_drewN ?_ _ | refine blk_drew ?_ | refine blk_alloc ?_ _)); exact BK242.out⟩, ⟨by repeat (first | (with_reducible first | exact HB.out | apply below_alloc | apply pw_below_drewN | apply below_drew1 | refine below_set ?_ GE242.out) | exact HB.out)⟩⟩
      case round =>
       clear H'; (try clear c1); (try clear c2); (try clear p2); (try clear q2); (try clear hx2); (try clear c5); (try clear c5b0); (try clear c6); (try clear c6b0); (try clear c7); (try clear c7b0); (try clear hcz9_0); (try clear hcz9_1); (try clear hcz9_2); (try clear hcz9_3); (try clear hfz9_0); (try clear hfz9_1); (try clear hfz9_2); (try clear hfz9_3); (try clear hx241_0); (try clear hx241_1); (try clear hx241_2); (try clear hx241_3); (try clear p2); (try clear p241); (try clear q241); (try clear HO_5); (try clear HO_6); (try clear BK242); (try clear HB)
       obtain ⟨x7_2, rfl, HA, HK2, HO_5, HO_6, BK242, HB⟩ := hrel
       cases gk with
       | zero => exact absurd HA.out (by simp [five_fives.l1])
       | succ k2 =>
        have H := HA.out
        clear HA; simp only [five_fives.l1] at H
        obtain ⟨ji10, hji10⟩ : ∃ j_ : Int, (wrap64 (x7_2 + 1)) = j_ := ⟨_, rfl⟩
        replace H : (if 0 ≤ (ji10) then (if (ji10) < (t238.length : Int) then (if (rd t238 (ji10)) ≤ ((rd_T38 l1 x17_1).f0.f0) then (five_fives.l1 k2 a0 x5_1 t238 ji10 x8_1 x9_1 l1 (l1.length : Int) x17_1 ((rd_T38 l1 x17_1).f0.f0) ((rd_T38 l1 x17_1).f0.f1) ((rd_T38 l1 x17_1).f1) ((rd_T38 l1 x17_1).f2)) else (if x7_2 > x8_1 then (if 0 ≤ x7_2 then (if x7_2 < (t238.length : Int) then (if 0 ≤ (rd t238 x7_2) then (if (rd t238 x7_2) ≤ ((rd_T38 l1 x17_1).f0.f0) then (if ((rd_T38 l1 x17_1).f0.f0) ≤ (a0.size : Int) then ((utf_Units.f (a0.extract ((rd t238 x7_2) : Int).toNat (((rd_T38 l1 x17_1).f0.f0) : Int).toNat)).bind fun t245 => (if 0 ≤ ((rd_T38 l1 x17_1).f0.f0) then (if ((rd_T38 l1 x17_1).f0.f0) ≤ ((rd_T38 l1 x17_1).f0.f1) then (if ((rd_T38 l1 x17_1).f0.f1) ≤ (a0.size : Int) then ((utf_Units.f (a0.extract (((rd_T38 l1 x17_1).f0.f0) : Int).toNat (((rd_T38 l1 x17_1).f0.f1) : Int).toNat)).bind fun t246 => (if x5_1.length < 3518437208883 then (five_fives.l0 k2 a0 (x5_1 ++ [(⟨wrap64 (x7_2 - x8_1), wrap64 (t245), t246, ((rd_T38 l1 x17_1).f1), ((rd_T38 l1 x17_1).f2)⟩ : S60)]) t238 x7_2 x7_2 t245 l1 (l1.length : Int) (wrap64 (x17_1 + 1))) else (none))) else (none)) else (none)) else (none))) else (none)) else (none)) else (none)) else (none)) else (none)) else (if 0 ≤ x7_2 then (if x7_2 < (t238.length : Int) then (if 0 ≤ (rd t238 x7_2) then (if (rd t238 x7_2) ≤ ((rd_T38 l1 x17_1).f0.f0) then (if ((rd_T38 l1 x17_1).f0.f0) ≤ (a0.size : Int) then ((utf_Units.f (a0.extract ((rd t238 x7_2) : Int).toNat (((rd_T38 l1 x17_1).f0.f0) : Int).toNat)).bind fun t251 => (if 0 ≤ ((rd_T38 l1 x17_1).f0.f0) then (if ((rd_T38 l1 x17_1).f0.f0) ≤ ((rd_T38 l1 x17_1).f0.f1) then (if ((rd_T38 l1 x17_1).f0.f1) ≤ (a0.size : Int) then ((utf_Units.f (a0.extract (((rd_T38 l1 x17_1).f0.f0) : Int).toNat (((rd_T38 l1 x17_1).f0.f1) : Int).toNat)).bind fun t252 => (if x5_1.length < 3518437208883 then (five_fives.l0 k2 a0 (x5_1 ++ [(⟨wrap64 (x7_2 - x8_1), wrap64 (t251 - x9_1), t252, ((rd_T38 l1 x17_1).f1), ((rd_T38 l1 x17_1).f2)⟩ : S60)]) t238 x7_2 x7_2 t251 l1 (l1.length : Int) (wrap64 (x17_1 + 1))) else (none))) else (none)) else (none)) else (none))) else (none)) else (none)) else (none)) else (none)) else (none)))) else (none)) else (none)) = some r := by first | (rw [hji10] at H; exact H) | (simp only [hji10] at H ⊢; exact H)
        have hji10w : (IntKind.i64.wrap (x7_2 + 1)) = ji10 := (i64_w _).trans hji10
        by_cases c11 : 0 ≤ (ji10)
        ·rw [if_pos c11] at H; have c11b0 : decide (0 ≤ (ji10)) = true := decide_eq_true c11; clear c11; by_cases c12 : (ji10) < (t238.length : Int)
         ·rw [if_pos c12] at H; have c12b0 : decide ((ji10) < (t238.length : Int)) = true := decide_eq_true c12; clear c12; by_cases c13 : (rd t238 (ji10)) ≤ ((rd_T38 l1 x17_1).f0.f0)
          ·rw [if_pos c13] at H; have c13b0 : decide ((rd t238 (ji10)) ≤ ((rd_T38 l1 x17_1).f0.f0)) = true := decide_eq_true c13; clear c13; have H' := Aside0.mk H; clear H; try go_wp2
           have n0_ := Aside0.mk (Kd.R_drew HO_5.out); have n1_ := Aside0.mk (Kd.R_drew HO_6.out); have n2_ := Aside0.mk (blk_drew BK242.out); have n3_ := Aside0.mk (below_drew1 HB.out); clear HO_5; clear HO_6; clear BK242; clear HB; have HO_5 := n0_; have HO_6 := n1_; have BK242 := n2_; have HB := n3_; clear n0_ n1_ n2_ n3_; obtain ⟨Ao15, co15, eo15⟩ := Kd.R_slice HO_6.out
           (first | subst eo15 | (injection eo15 with f1_ f2_ f3_; have f4_ := f1_.symm; have f5_ := f3_.symm; clear f1_ f2_ f3_; subst f4_; subst f5_))
           have p243 : 0 ≤ ((ji10) : Int) := of_decide_eq_true (by first | (with_reducible assumption) | assumption)
           have q243 : (ji10) < (t238.length : Int) := of_decide_eq_true (by first | (with_reducible assumption) | assumption)
           obtain ⟨ad243, e243, hx243_0⟩ := Kd.at_int (Kd.R_reads' HO_6.out).2.2 (ji10) p243 q243
           cases e243; replace p243 := eq_true p243; replace q243 := eq_true q243; refine start_ (n := 9) (S := fun w' => w'.cell? ⟨gb242, 0, none⟩ = some (.int .i64 ((rd_T38 l1 x17_1).f0.f0)) ∧ w'.cell? ⟨gb242, 1, none⟩ = some (.int .i64 ((rd_T38 l1 x17_1).f0.f1)) ∧ w'.cell? ⟨gb242, 2, none⟩ = some (.int .i64 ((rd_T38 l1 x17_1).f1)) ∧ w'.cell? ⟨gb242, 3, none⟩ = some (.int .i64 ((rd_T38 l1 x17_1).f2)) ∧ w'.cell? (ad243.add ((ji10)).toNat) = some (.int .i64 (rd t238 (ji10)))) (ds := []) (bz 9 0) (by kernel_rfl) rfl rfl ⟨(blk_cell BK242.out 0).trans rfl, (blk_cell BK242.out 1).trans rfl, (blk_cell BK242.out 2).trans rfl, (blk_cell BK242.out 3).trans rfl, hx243_0⟩ (fun hHeld => ?_); refine with_tabW five_fives.tab7 five_fives.bits7 (fun HT_ HW_ => ?_)
           generalize wr.drew = w14 at HO_5 HO_6 BK242 HB hx243_0 hHeld ⊢
           refine pu 0 (some 21) (bz 9 1) HT_ rfl rfl ?_; refine pu 1 (some 22) (bz 9 3) HT_ rfl rfl ?_; refine pu 2 (some 23) (bz 9 7) HT_ rfl rfl ?_; refine pu 3 (some 24) (bz 9 15) HT_ rfl rfl ?_; refine pu 5 (some 26) (bz 9 47) HT_ rfl rfl ?_; refine pu 6 (some 27) (bz 9 111) HT_ rfl rfl ?_; refine tk 4 (some 25) (bz 9 127) HT_ HW_ rfl rfl hHeld ?_; refine tk 7 (some 28) (bz 9 255) HT_ HW_ rfl rfl hHeld ?_; refine pu 8 (some 29) (bz 9 511) HT_ rfl rfl ?_; refine done_ (done_of HT_.out (by kernel_rfl)) ?_
           try go_wp2
           go_roundg k2
           case measure => have := HK1.out; have := HK2.out; omega
           case rel => exact ⟨(ji10), (by first | rfl | (simp; done) | (simp only [← hji10] <;> (first | rfl | simp)) | (simp [*]; done)), H', ⟨by have := HK1.out; have := HK2.out; omega⟩, ⟨rl HO_5⟩, ⟨rl HO_6⟩, ⟨kl BK242⟩, ⟨by repeat (first | (with_reducible first | exact HB.out | apply below_alloc | apply pw_below_drewN | apply below_drew1 | refine below_set ?_ GE242.out) | exact HB.out)⟩⟩
          ·rw [if_neg c13] at H; have c13b0 : decide ((rd t238 (ji10)) ≤ ((rd_T38 l1 x17_1).f0.f0)) = false := decide_eq_false c13; clear c13; by_cases c16 : x7_2 > x8_1
           ·rw [if_pos c16] at H; have c16b0 : decide (x8_1 < x7_2) = true := decide_eq_true c16; clear c16; by_cases c17 : 0 ≤ x7_2
            ·rw [if_pos c17] at H; have c17b0 : decide (0 ≤ x7_2) = true := decide_eq_true c17; clear c17; by_cases c18 : x7_2 < (t238.length : Int)
             ·rw [if_pos c18] at H; have c18b0 : decide (x7_2 < (t238.length : Int)) = true := decide_eq_true c18; clear c18; by_cases c19 : 0 ≤ (rd t238 x7_2)
              ·rw [if_pos c19] at H; have c19b0 := eq_true c19
               have c19b1 : decide (0 ≤ (rd t238 x7_2)) = true := decide_eq_true c19; clear c19; by_cases c20 : (rd t238 x7_2) ≤ ((rd_T38 l1 x17_1).f0.f0)
               ·rw [if_pos c20] at H; have c20b0 := eq_true c20
                have c20b1 : decide ((rd t238 x7_2) ≤ ((rd_T38 l1 x17_1).f0.f0)) = true := decide_eq_true c20; clear c20; by_cases c21 : ((rd_T38 l1 x17_1).f0.f0) ≤ (a0.size : Int)
                ·rw [if_pos c21] at H; have c21b0 := eq_true c21
                 have c21b1 : decide (((rd_T38 l1 x17_1).f0.f0) ≤ (a0.size : Int)) = true := decide_eq_true c21; clear c21; replace H := Option.bind_eq_some_iff.mp H
                 obtain ⟨t245, A220, H⟩ := H
                 replace H : (if 0 ≤ ((rd_T38 l1 x17_1).f0.f0) then (if ((rd_T38 l1 x17_1).f0.f0) ≤ ((rd_T38 l1 x17_1).f0.f1) then (if ((rd_T38 l1 x17_1).f0.f1) ≤ (a0.size : Int) then ((utf_Units.f (a0.extract (((rd_T38 l1 x17_1).f0.f0) : Int).toNat (((rd_T38 l1 x17_1).f0.f1) : Int).toNat)).bind fun t246 => (if x5_1.length < 3518437208883 then (five_fives.l0 k2 a0 (x5_1 ++ [(⟨wrap64 (x7_2 - x8_1), wrap64 (t245), t246, ((rd_T38 l1 x17_1).f1), ((rd_T38 l1 x17_1).f2)⟩ : S60)]) t238 x7_2 x7_2 t245 l1 (l1.length : Int) (wrap64 (x17_1 + 1))) else (none))) else (none)) else (none)) else (none)) = some r := H
                 have A22 := Aside0.mk A220; clear A220; by_cases c23 : 0 ≤ ((rd_T38 l1 x17_1).f0.f0)
                 ·rw [if_pos c23] at H; have c23b0 := eq_true c23
                  have c23b1 : decide (0 ≤ ((rd_T38 l1 x17_1).f0.f0)) = true := decide_eq_true c23; clear c23; by_cases c24 : ((rd_T38 l1 x17_1).f0.f0) ≤ ((rd_T38 l1 x17_1).f0.f1)
                  ·rw [if_pos c24] at H; have c24b0 := eq_true c24
                   have c24b1 : decide (((rd_T38 l1 x17_1).f0.f0) ≤ ((rd_T38 l1 x17_1).f0.f1)) = true := decide_eq_true c24; clear c24; by_cases c25 : ((rd_T38 l1 x17_1).f0.f1) ≤ (a0.size : Int)
                   ·rw [if_pos c25] at H; have c25b0 := eq_true c25
                    have c25b1 : decide (((rd_T38 l1 x17_1).f0.f1) ≤ (a0.size : Int)) = true := decide_eq_true c25; clear c25; replace H := Option.bind_eq_some_iff.mp H
                    obtain ⟨t246, A260, H⟩ := H
                    replace H : (if x5_1.length < 3518437208883 then (five_fives.l0 k2 a0 (x5_1 ++ [(⟨wrap64 (x7_2 - x8_1), wrap64 (t245), t246, ((rd_T38 l1 x17_1).f1), ((rd_T38 l1 x17_1).f2)⟩ : S60)]) t238 x7_2 x7_2 t245 l1 (l1.length : Int) (wrap64 (x17_1 + 1))) else (none)) = some r := H
                    have A26 := Aside0.mk A260; clear A260; by_cases c27 : x5_1.length < 3518437208883
                    ·rw [if_pos c27] at H; have LMc27 := Aside0.mk c27; clear c27; obtain ⟨y247, hy247⟩ : ∃ y_ : List (S60), y_ = (x5_1 ++ [(⟨wrap64 (x7_2 - x8_1), wrap64 (t245), t246, ((rd_T38 l1 x17_1).f1), ((rd_T38 l1 x17_1).f2)⟩ : S60)]) := ⟨_, rfl⟩
                     replace H : (five_fives.l0 k2 a0 y247 t238 x7_2 x7_2 t245 l1 (l1.length : Int) (wrap64 (x17_1 + 1))) = some r := by first | (rw [hy247]; with_reducible exact H) | (have H2_ := (Option.bind_some _ _).symm.trans H; rw [hy247]; with_reducible exact H2_) | (have H2_ := (Option.bind_some _ _).symm.trans H; with_reducible exact H2_) | with_reducible exact H | (rw [hy247]; exact H) | exact H
                     have Ny247 := Aside0.mk hy247; clear hy247; have H' := Aside0.mk H; clear H; try go_wp2
                     have n0_ := Aside0.mk (Kd.R_drew HO_5.out); have n1_ := Aside0.mk (Kd.R_drew HO_6.out); have n2_ := Aside0.mk (blk_drew BK242.out); have n3_ := Aside0.mk (below_drew1 HB.out); clear HO_5; clear HO_6; clear BK242; clear HB; have HO_5 := n0_; have HO_6 := n1_; have BK242 := n2_; have HB := n3_; clear n0_ n1_ n2_ n3_; obtain ⟨Ao29, co29, eo29⟩ := Kd.R_slice HO_6.out
                     (first | subst eo29 | (injection eo29 with f1_ f2_ f3_; have f4_ := f1_.symm; have f5_ := f3_.symm; clear f1_ f2_ f3_; subst f4_; subst f5_))
                     have p243 : 0 ≤ ((ji10) : Int) := of_decide_eq_true (by first | (with_reducible assumption) | assumption)
                     have q243 : (ji10) < (t238.length : Int) := of_decide_eq_true (by first | (with_reducible assumption) | assumption)
                     obtain ⟨ad243, e243, hx243_0⟩ := Kd.at_int (Kd.R_reads' HO_6.out).2.2 (ji10) p243 q243
                     cases e243; replace p243 := eq_true p243; replace q243 := eq_true q243; refine start_ (n := 9) (S := fun w' => w'.cell? ⟨gb242, 0, none⟩ = some (.int .i64 ((rd_T38 l1 x17_1).f0.f0)) ∧ w'.cell? ⟨gb242, 1, none⟩ = some (.int .i64 ((rd_T38 l1 x17_1).f0.f1)) ∧ w'.cell? ⟨gb242, 2, none⟩ = some (.int .i64 ((rd_T38 l1 x17_1).f1)) ∧ w'.cell? ⟨gb242, 3, none⟩ = some (.int .i64 ((rd_T38 l1 x17_1).f2)) ∧ w'.cell? (ad243.add ((ji10)).toNat) = some (.int .i64 (rd t238 (ji10)))) (ds := []) (bz 9 0) (by kernel_rfl) rfl rfl ⟨(blk_cell BK242.out 0).trans rfl, (blk_cell BK242.out 1).trans rfl, (blk_cell BK242.out 2).trans rfl, (blk_cell BK242.out 3).trans rfl, hx243_0⟩ (fun hHeld => ?_); refine with_tabW five_fives.tab7 five_fives.bits7 (fun HT_ HW_ => ?_)
                     generalize wr.drew = w28 at HO_5 HO_6 BK242 HB hx243_0 hHeld ⊢
                     refine pu 0 (some 21) (bz 9 1) HT_ rfl rfl ?_; refine pu 1 (some 22) (bz 9 3) HT_ rfl rfl ?_; refine pu 2 (some 23) (bz 9 7) HT_ rfl rfl ?_; refine pu 3 (some 24) (bz 9 15) HT_ rfl rfl ?_; refine pu 5 (some 26) (bz 9 47) HT_ rfl rfl ?_; refine pu 6 (some 27) (bz 9 111) HT_ rfl rfl ?_; refine tk 4 (some 25) (bz 9 127) HT_ HW_ rfl rfl hHeld ?_; refine tk 7 (some 28) (bz 9 255) HT_ HW_ rfl rfl hHeld ?_; refine pu 8 (some 29) (bz 9 511) HT_ rfl rfl ?_; refine done_ (done_of HT_.out (by kernel_rfl)) ?_
                     try go_wp2
                     have n0_ := Aside0.mk (Kd.R_drew HO_5.out); have n1_ := Aside0.mk (Kd.R_drew HO_6.out); have n2_ := Aside0.mk (blk_drew BK242.out); have n3_ := Aside0.mk (below_drew1 HB.out); clear HO_5; clear HO_6; clear BK242; clear HB; have HO_5 := n0_; have HO_6 := n1_; have BK242 := n2_; have HB := n3_; clear n0_ n1_ n2_ n3_; have p244 : 0 ≤ (x7_2 : Int) := of_decide_eq_true (by first | (with_reducible assumption) | assumption)
                     have q244 : x7_2 < (t238.length : Int) := of_decide_eq_true (by first | (with_reducible assumption) | assumption)
                     obtain ⟨ad244, e244, hx244_0⟩ := Kd.at_int (Kd.R_reads' HO_6.out).2.2 x7_2 p244 q244
                     obtain rfl : ad243 = ad244 := (by injection e244)
                     replace p244 := eq_true p244; replace q244 := eq_true q244; refine start_ (n := 11) (S := fun w' => w'.cell? ⟨gb242, 0, none⟩ = some (.int .i64 ((rd_T38 l1 x17_1).f0.f0)) ∧ w'.cell? ⟨gb242, 1, none⟩ = some (.int .i64 ((rd_T38 l1 x17_1).f0.f1)) ∧ w'.cell? ⟨gb242, 2, none⟩ = some (.int .i64 ((rd_T38 l1 x17_1).f1)) ∧ w'.cell? ⟨gb242, 3, none⟩ = some (.int .i64 ((rd_T38 l1 x17_1).f2)) ∧ w'.cell? (ad243.add (x7_2).toNat) = some (.int .i64 (rd t238 x7_2))) (ds := []) (bz 11 0) (by kernel_rfl) rfl rfl ⟨(blk_cell BK242.out 0).trans rfl, (blk_cell BK242.out 1).trans rfl, (blk_cell BK242.out 2).trans rfl, (blk_cell BK242.out 3).trans rfl, hx244_0⟩ (fun hHeld => ?_); refine with_tabW five_fives.tab11 five_fives.bits11 (fun HT_ HW_ => ?_)
                     generalize w28.drew = w30 at HO_5 HO_6 BK242 HB hx244_0 hHeld ⊢
                     refine pu 0 (some 35) (bz 11 1) HT_ rfl rfl ?_; refine pu 1 (some 36) (bz 11 3) HT_ rfl rfl ?_; refine pu 2 (some 37) (bz 11 7) HT_ rfl rfl ?_; refine pu 3 (some 38) (bz 11 15) HT_ rfl rfl ?_; refine pu 5 (some 40) (bz 11 47) HT_ rfl rfl ?_; refine pu 6 (some 41) (bz 11 111) HT_ rfl rfl ?_; refine tk 4 (some 39) (bz 11 127) HT_ HW_ rfl rfl hHeld ?_; refine tk 7 (some 42) (bz 11 255) HT_ HW_ rfl rfl hHeld ?_; refine pu 8 (some 43) (bz 11 511) HT_ rfl rfl ?_; refine one_ (i := 9) (N := some 44) (bz 11 1023) rfl rfl (one_of HT_.out (by kernel_rfl)) (by decide) (fun K hK => ?_)
                     refine goes_ Tryd.func36 (by kernel_rfl) rfl #[.string (a0.extract ((rd t238 x7_2) : Int).toNat (((rd_T38 l1 x17_1).f0.f0) : Int).toNat)] (by rfl) rfl rfl (by (try simp only [List.map_toArray, List.map_cons, List.map_nil]); first | done | rfl | (simp only [List.length_drop, List.length_take]; rfl)) ?_
                     with_reducible refine (utf_Units.calls (a0.extract ((rd t238 x7_2) : Int).toNat (((rd_T38 l1 x17_1).f0.f0) : Int).toNat) t245 _ A22.out).mono ?_
                     rintro e w31 ⟨rfl, hb⟩
                     have HS4_ := (hb.cell (World.block_lt_of_cell? _ _ (hHeld.2.2.2.2))).trans (hHeld.2.2.2.2)
                     refine ⟨_, rfl, ?_⟩
                     have n0_ := Aside0.mk (Kd.R_below (rl HO_5) hb); have n1_ := Aside0.mk (Kd.R_below (rl HO_6) hb); have n2_ := Aside0.mk (blk_below (g := gb242) (o := .cells #[.int .i64 ((rd_T38 l1 x17_1).f0.f0), .int .i64 ((rd_T38 l1 x17_1).f0.f1), .int .i64 ((rd_T38 l1 x17_1).f1), .int .i64 ((rd_T38 l1 x17_1).f2)] 38 (0, 0)) (kl BK242) hb); have n3_ := Aside0.mk (below_step (by repeat (first | (with_reducible first | exact HB.out | apply below_alloc | apply pw_below_drewN | apply below_drew1 | refine below_set ?_ GE242.out) | exact HB.out)) hb); clear HO_5; clear HO_6; clear BK242; clear HB; have HO_5 := n0_; have HO_6 := n1_; have BK242 := n2_; have HB := n3_; clear n0_ n1_ n2_ n3_; (try clear hb); (try clear hb2); (try clear hk); (try clear hi); refine hK.out _ _ ⟨(blk_cell BK242.out 0).trans rfl, (blk_cell BK242.out 1).trans rfl, (blk_cell BK242.out 2).trans rfl, (blk_cell BK242.out 3).trans rfl, HS4_⟩ (fun hHeld => ?_)
                     clear hK K; refine norm_ (a' := ?_) ?_ ?_
                     rotate_left
                     ·show Act.put _ (some 44) _ = _
                      simp only [Act.put, List.setIfInBounds_toArray, List.set_cons_zero, List.set_cons_succ, i64_w, i32_w]
                      rfl
                     refine pu 10 (some 12) (bz 11 2047) HT_ rfl rfl ?_; refine done_ (done_of HT_.out (by kernel_rfl)) ?_
                     try go_wp2
                     have n0_ := Aside0.mk (Kd.R_drew HO_5.out); have n1_ := Aside0.mk (Kd.R_drew HO_6.out); have n2_ := Aside0.mk (blk_drew BK242.out); have n3_ := Aside0.mk (below_drew1 HB.out); clear HO_5; clear HO_6; clear BK242; clear HB; have HO_5 := n0_; have HO_6 := n1_; have BK242 := n2_; have HB := n3_; clear n0_ n1_ n2_ n3_; refine start_ (n := 24) (S := fun w' => w'.cell? ⟨gb242, 0, none⟩ = some (.int .i64 ((rd_T38 l1 x17_1).f0.f0)) ∧ w'.cell? ⟨gb242, 1, none⟩ = some (.int .i64 ((rd_T38 l1 x17_1).f0.f1)) ∧ w'.cell? ⟨gb242, 2, none⟩ = some (.int .i64 ((rd_T38 l1 x17_1).f1)) ∧ w'.cell? ⟨gb242, 3, none⟩ = some (.int .i64 ((rd_T38 l1 x17_1).f2))) (ds := []) (bz 24 0) (by kernel_rfl) rfl rfl ⟨(blk_cell BK242.out 0).trans rfl, (blk_cell BK242.out 1).trans rfl, (blk_cell BK242.out 2).trans rfl, (blk_cell BK242.out 3).trans rfl⟩ (fun hHeld => ?_); refine with_tabW five_fives.tab12 five_fives.bits12 (fun HT_ HW_ => ?_)
                     generalize w31.drew = w32 at HO_5 HO_6 BK242 HB hHeld ⊢
                     refine pu 0 (some 45) (bz 24 1) HT_ rfl rfl ?_; refine pu 1 (some 46) (bz 24 3) HT_ rfl rfl ?_; refine pu 2 (some 47) (bz 24 7) HT_ rfl rfl ?_; refine pu 3 (some 48) (bz 24 15) HT_ rfl rfl ?_; refine pu 4 (some 49) (bz 24 31) HT_ rfl rfl ?_; refine pu 5 (some 50) (bz 24 63) HT_ rfl rfl ?_; refine pu 6 (some 51) (bz 24 127) HT_ rfl rfl ?_; refine pu 7 (some 52) (bz 24 255) HT_ rfl rfl ?_; refine pu 8 (some 53) (bz 24 511) HT_ rfl rfl ?_; refine pu 9 (some 54) (bz 24 1023) HT_ rfl rfl ?_; refine pu 11 (some 56) (bz 24 3071) HT_ rfl rfl ?_; refine pu 12 (some 57) (bz 24 7167) HT_ rfl rfl ?_; refine pu 16 (some 61) (bz 24 72703) HT_ rfl rfl ?_; refine pu 18 (some 63) (bz 24 334847) HT_ rfl rfl ?_; refine tk 10 (some 55) (bz 24 335871) HT_ HW_ rfl rfl hHeld ?_; refine tk 13 (some 58) (bz 24 344063) HT_ HW_ rfl rfl hHeld ?_; refine pu 14 (some 59) (bz 24 360447) HT_ rfl rfl ?_; refine tk 17 (some 62) (bz 24 491519) HT_ HW_ rfl rfl hHeld ?_; refine tk 19 (some 64) (bz 24 1015807) HT_ HW_ rfl rfl hHeld ?_; refine one_ (i := 15) (N := some 60) (bz 24 1048575) rfl rfl (one_of HT_.out (by kernel_rfl)) (by decide) (fun K hK => ?_)
                     refine goes_ Tryd.func36 (by kernel_rfl) rfl #[.string (a0.extract (((rd_T38 l1 x17_1).f0.f0) : Int).toNat (((rd_T38 l1 x17_1).f0.f1) : Int).toNat)] (by rfl) rfl rfl (by (try simp only [List.map_toArray, List.map_cons, List.map_nil]); first | done | rfl | (simp only [List.length_drop, List.length_take]; rfl)) ?_
                     with_reducible refine (utf_Units.calls (a0.extract (((rd_T38 l1 x17_1).f0.f0) : Int).toNat (((rd_T38 l1 x17_1).f0.f1) : Int).toNat) t246 _ A26.out).mono ?_
                     rintro e w33 ⟨rfl, hb⟩
                     refine ⟨_, rfl, ?_⟩
                     have n0_ := Aside0.mk (Kd.R_below (rl HO_5) hb); have n1_ := Aside0.mk (Kd.R_below (rl HO_6) hb); have n2_ := Aside0.mk (blk_below (g := gb242) (o := .cells #[.int .i64 ((rd_T38 l1 x17_1).f0.f0), .int .i64 ((rd_T38 l1 x17_1).f0.f1), .int .i64 ((rd_T38 l1 x17_1).f1), .int .i64 ((rd_T38 l1 x17_1).f2)] 38 (0, 0)) (kl BK242) hb); have n3_ := Aside0.mk (below_step (by repeat (first | (with_reducible first | exact HB.out | apply below_alloc | apply pw_below_drewN | apply below_drew1 | refine below_set ?_ GE242.out) | exact HB.out)) hb); clear HO_5; clear HO_6; clear BK242; clear HB; have HO_5 := n0_; have HO_6 := n1_; have BK242 := n2_; have HB := n3_; clear n0_ n1_ n2_ n3_; (try clear hb); (try clear hb2); (try clear hk); (try clear hi); refine hK.out _ _ ⟨(blk_cell BK242.out 0).trans rfl, (blk_cell BK242.out 1).trans rfl, (blk_cell BK242.out 2).trans rfl, (blk_cell BK242.out 3).trans rfl⟩ (fun hHeld => ?_)
                     clear hK K; refine norm_ (a' := ?_) ?_ ?_
                     rotate_left
                     ·show Act.put _ (some 60) _ = _
                      simp only [Act.put, List.setIfInBounds_toArray, List.set_cons_zero, List.set_cons_succ, i64_w, i32_w]
                      rfl
                     refine pu 20 (some 65) (bz 24 2097151) HT_ rfl rfl ?_; refine one_ (i := 21) (N := some 66) (bz 24 4194303) rfl rfl (one_of HT_.out (by kernel_rfl)) (by decide) (fun K hK => ?_)
                     refine value_ (w1 := ?_) (v := ?_) (by rfl) rfl ?_ ?_
                     rotate_left 2
                     ·go_simp
                      constructor
                      ·rfl
                      ·rfl
                     refine hK.out _ _ ⟨(blk_cell (blk_alloc BK242.out _) 0).trans rfl, (blk_cell (blk_alloc BK242.out _) 1).trans rfl, (blk_cell (blk_alloc BK242.out _) 2).trans rfl, (blk_cell (blk_alloc BK242.out _) 3).trans rfl⟩ (fun hHeld => ?_)
                     clear hK K; refine norm_ (a' := ?_) ?_ ?_
                     rotate_left
                     ·show Act.put _ (some 66) _ = _
                      simp only [Act.put, List.setIfInBounds_toArray, List.set_cons_zero, List.set_cons_succ, i64_w, i32_w]
                      rfl
                     refine one_ (i := 22) (N := some 67) (bz 24 8388607) rfl rfl (one_of HT_.out (by kernel_rfl)) (by decide) (fun K hK => ?_)
                     refine Kd.R_append_step k60 (w0 := w) w.heap.size (by rfl) (.tmp 45) (.tmp 66) 54 60 (.agg #[(.int .i64 0), (.int .i64 0), (.int .i64 0), (.int .i64 0), (.int .i64 0)]) 40 rfl Tryd.underlying54 info60 rfl (by decide) (by omega) u5 x5_1 (⟨wrap64 (x7_2 - x8_1), wrap64 (t245), t246, ((rd_T38 l1 x17_1).f1), ((rd_T38 l1 x17_1).f2)⟩ : S60) [.int .i64 (wrap64 (x7_2 - x8_1)), .int .i64 (wrap64 (t245)), .int .i64 t246, .int .i64 ((rd_T38 l1 x17_1).f1), .int .i64 ((rd_T38 l1 x17_1).f2)] (fun _ => True) (fun _ => False) rfl rfl ?aP (fun _ hk => hk.elim) ?aF ?aO ?aB ?aS ?aL ?_
                     (case aP => exact k60_mkM _ _ _ (⟨wrap64 (x7_2 - x8_1), wrap64 (t245), t246, ((rd_T38 l1 x17_1).f1), ((rd_T38 l1 x17_1).f2)⟩ : S60))
                     (case aB => exact (by repeat (first | (with_reducible first | exact HB.out | apply below_alloc | apply pw_below_drewN | apply below_drew1 | refine below_set ?_ GE242.out) | exact HB.out)))
                     (case aF => exact (fun _ _ => trivial))
                     (case aO => exact (rl HO_5))
                     (case aS => exact (below_size (by repeat (first | (with_reducible first | exact HB.out | apply below_alloc | apply pw_below_drewN | apply below_drew1 | refine below_set ?_ GE242.out) | exact HB.out))))
                     (case aL => have := LMc27.out; omega)
                     intro v248 w34 ho hb hg hat
                     rw [← Ny247.out] at ho
                     have n0_ := Aside0.mk (Kd.R_over' (rl HO_6) (Kd.R_typed (rl HO_5)) (by decide) hg); have n1_ := Aside0.mk (blk_grown (g := gb242) (o := .cells #[.int .i64 ((rd_T38 l1 x17_1).f0.f0), .int .i64 ((rd_T38 l1 x17_1).f0.f1), .int .i64 ((rd_T38 l1 x17_1).f1), .int .i64 ((rd_T38 l1 x17_1).f2)] 38 (0, 0)) (kl BK242) hg (Kd.R_ne HO_5.out BK242.out (by decide))); have n2_ := Aside0.mk (hb); have n3_ := Aside0.mk (ho); clear HO_6; clear BK242; clear HB; clear HO_5; have HO_6 := n0_; have BK242 := n1_; have HB := n2_; have HO249 := n3_; clear n0_ n1_ n2_ n3_; clear ho hb hg hat; refine hK.out _ _ ⟨(blk_cell BK242.out 0).trans rfl, (blk_cell BK242.out 1).trans rfl, (blk_cell BK242.out 2).trans rfl, (blk_cell BK242.out 3).trans rfl⟩ (fun hHeld => ?_)
                     clear hK K; refine norm_ (a' := ?_) ?_ ?_
                     rotate_left
                     ·show Act.put _ (some 67) _ = _
                      simp only [Act.put, List.setIfInBounds_toArray, List.set_cons_zero, List.set_cons_succ, i64_w, i32_w]
                      rfl
                     refine pu 23 (some 5) (bz 24 16777215) HT_ rfl rfl ?_; refine done_ (done_of HT_.out (by kernel_rfl)) ?_
                     try go_wp2
                     go_roundg k2
                     case measure => have := HK1.out; have := HK2.out; omega
                     case rel => exact ⟨(y247), (x7_2), (x7_2), (t245), (wrap64 (x17_1 + 1)), (by first | rfl | (simp; done) | (simp [*]; done) | (simp; exact xEmpty_ne _) | (simp [*]; exact xEmpty_ne _)), (by first | rfl | (simp; done) | (simp [*]; done) | (simp; exact xEmpty_ne _) | (simp [*]; exact xEmpty_ne _)), (by first | rfl | (simp; done) | (simp [*]; done) | (simp; exact xEmpty_ne _) | (simp [*]; exact xEmpty_ne _)), (by first | rfl | (simp; done) | (simp [*]; done) | (simp; exact xEmpty_ne _) | (simp [*]; exact xEmpty_ne _)), H', ⟨by have := HK1.out; have := HK2.out; omega⟩, ⟨rl HO249⟩, ⟨rl HO_6⟩, ⟨by repeat (first | (with_reducible first | exact HB.out | apply below_alloc | apply pw_below_drewN | apply below_drew1 | refine below_set ?_ GE242.out) | exact HB.out)⟩⟩
                    ·rw [if_neg c27] at H; exact absurd H (by simp)
                   ·rw [if_neg c25] at H; exact absurd H (by simp)
                  ·rw [if_neg c24] at H; exact absurd H (by simp)
                 ·rw [if_neg c23] at H; exact absurd H (by simp)
                ·rw [if_neg c21] at H; exact absurd H (by simp)
               ·rw [if_neg c20] at H; exact absurd H (by simp)
              ·rw [if_neg c19] at H; exact absurd H (by simp)
             ·rw [if_neg c18] at H; exact absurd H (by simp)
            ·rw [if_neg c17] at H; exact absurd H (by simp)
           ·rw [if_neg c16] at H; have c16b0 : decide (x8_1 < x7_2) = false := decide_eq_false c16; clear c16; by_cases c35 : 0 ≤ x7_2
            ·rw [if_pos c35] at H; have c35b0 : decide (0 ≤ x7_2) = true := decide_eq_true c35; clear c35; by_cases c36 : x7_2 < (t238.length : Int)
             ·rw [if_pos c36] at H; have c36b0 : decide (x7_2 < (t238.length : Int)) = true := decide_eq_true c36; clear c36; by_cases c37 : 0 ≤ (rd t238 x7_2)
              ·rw [if_pos c37] at H; have c37b0 := eq_true c37
               have c37b1 : decide (0 ≤ (rd t238 x7_2)) = true := decide_eq_true c37; clear c37; by_cases c38 : (rd t238 x7_2) ≤ ((rd_T38 l1 x17_1).f0.f0)
               ·rw [if_pos c38] at H; have c38b0 := eq_true c38
                have c38b1 : decide ((rd t238 x7_2) ≤ ((rd_T38 l1 x17_1).f0.f0)) = true := decide_eq_true c38; clear c38; by_cases c39 : ((rd_T38 l1 x17_1).f0.f0) ≤ (a0.size : Int)
                ·rw [if_pos c39] at H; have c39b0 := eq_true c39
                 have c39b1 : decide (((rd_T38 l1 x17_1).f0.f0) ≤ (a0.size : Int)) = true := decide_eq_true c39; clear c39; replace H := Option.bind_eq_some_iff.mp H
                 obtain ⟨t251, A400, H⟩ := H
                 replace H : (if 0 ≤ ((rd_T38 l1 x17_1).f0.f0) then (if ((rd_T38 l1 x17_1).f0.f0) ≤ ((rd_T38 l1 x17_1).f0.f1) then (if ((rd_T38 l1 x17_1).f0.f1) ≤ (a0.size : Int) then ((utf_Units.f (a0.extract (((rd_T38 l1 x17_1).f0.f0) : Int).toNat (((rd_T38 l1 x17_1).f0.f1) : Int).toNat)).bind fun t252 => (if x5_1.length < 3518437208883 then (five_fives.l0 k2 a0 (x5_1 ++ [(⟨wrap64 (x7_2 - x8_1), wrap64 (t251 - x9_1), t252, ((rd_T38 l1 x17_1).f1), ((rd_T38 l1 x17_1).f2)⟩ : S60)]) t238 x7_2 x7_2 t251 l1 (l1.length : Int) (wrap64 (x17_1 + 1))) else (none))) else (none)) else (none)) else (none)) = some r := H
                 have A40 := Aside0.mk A400; clear A400; by_cases c41 : 0 ≤ ((rd_T38 l1 x17_1).f0.f0)
                 ·rw [if_pos c41] at H; have c41b0 := eq_true c41
                  have c41b1 : decide (0 ≤ ((rd_T38 l1 x17_1).f0.f0)) = true := decide_eq_true c41; clear c41; by_cases c42 : ((rd_T38 l1 x17_1).f0.f0) ≤ ((rd_T38 l1 x17_1).f0.f1)
                  ·rw [if_pos c42] at H; have c42b0 := eq_true c42
                   have c42b1 : decide (((rd_T38 l1 x17_1).f0.f0) ≤ ((rd_T38 l1 x17_1).f0.f1)) = true := decide_eq_true c42; clear c42; by_cases c43 : ((rd_T38 l1 x17_1).f0.f1) ≤ (a0.size : Int)
                   ·rw [if_pos c43] at H; have c43b0 := eq_true c43
                    have c43b1 : decide (((rd_T38 l1 x17_1).f0.f1) ≤ (a0.size : Int)) = true := decide_eq_true c43; clear c43; replace H := Option.bind_eq_some_iff.mp H
                    obtain ⟨t252, A440, H⟩ := H
                    replace H : (if x5_1.length < 3518437208883 then (five_fives.l0 k2 a0 (x5_1 ++ [(⟨wrap64 (x7_2 - x8_1), wrap64 (t251 - x9_1), t252, ((rd_T38 l1 x17_1).f1), ((rd_T38 l1 x17_1).f2)⟩ : S60)]) t238 x7_2 x7_2 t251 l1 (l1.length : Int) (wrap64 (x17_1 + 1))) else (none)) = some r := H
                    have A44 := Aside0.mk A440; clear A440; by_cases c45 : x5_1.length < 3518437208883
                    ·rw [if_pos c45] at H; have LMc45 := Aside0.mk c45; clear c45; obtain ⟨y253, hy253⟩ : ∃ y_ : List (S60), y_ = (x5_1 ++ [(⟨wrap64 (x7_2 - x8_1), wrap64 (t251 - x9_1), t252, ((rd_T38 l1 x17_1).f1), ((rd_T38 l1 x17_1).f2)⟩ : S60)]) := ⟨_, rfl⟩
                     replace H : (five_fives.l0 k2 a0 y253 t238 x7_2 x7_2 t251 l1 (l1.length : Int) (wrap64 (x17_1 + 1))) = some r := by first | (rw [hy253]; with_reducible exact H) | (have H2_ := (Option.bind_some _ _).symm.trans H; rw [hy253]; with_reducible exact H2_) | (have H2_ := (Option.bind_some _ _).symm.trans H; with_reducible exact H2_) | with_reducible exact H | (rw [hy253]; exact H) | exact H
                     have Ny253 := Aside0.mk hy253; clear hy253; have H' := Aside0.mk H; clear H; try go_wp2
                     have n0_ := Aside0.mk (Kd.R_drew HO_5.out); have n1_ := Aside0.mk (Kd.R_drew HO_6.out); have n2_ := Aside0.mk (blk_drew BK242.out); have n3_ := Aside0.mk (below_drew1 HB.out); clear HO_5; clear HO_6; clear BK242; clear HB; have HO_5 := n0_; have HO_6 := n1_; have BK242 := n2_; have HB := n3_; clear n0_ n1_ n2_ n3_; obtain ⟨Ao47, co47, eo47⟩ := Kd.R_slice HO_6.out
                     (first | subst eo47 | (injection eo47 with f1_ f2_ f3_; have f4_ := f1_.symm; have f5_ := f3_.symm; clear f1_ f2_ f3_; subst f4_; subst f5_))
                     have p243 : 0 ≤ ((ji10) : Int) := of_decide_eq_true (by first | (with_reducible assumption) | assumption)
                     have q243 : (ji10) < (t238.length : Int) := of_decide_eq_true (by first | (with_reducible assumption) | assumption)
                     obtain ⟨ad243, e243, hx243_0⟩ := Kd.at_int (Kd.R_reads' HO_6.out).2.2 (ji10) p243 q243
                     cases e243; replace p243 := eq_true p243; replace q243 := eq_true q243; refine start_ (n := 9) (S := fun w' => w'.cell? ⟨gb242, 0, none⟩ = some (.int .i64 ((rd_T38 l1 x17_1).f0.f0)) ∧ w'.cell? ⟨gb242, 1, none⟩ = some (.int .i64 ((rd_T38 l1 x17_1).f0.f1)) ∧ w'.cell? ⟨gb242, 2, none⟩ = some (.int .i64 ((rd_T38 l1 x17_1).f1)) ∧ w'.cell? ⟨gb242, 3, none⟩ = some (.int .i64 ((rd_T38 l1 x17_1).f2)) ∧ w'.cell? (ad243.add ((ji10)).toNat) = some (.int .i64 (rd t238 (ji10)))) (ds := []) (bz 9 0) (by kernel_rfl) rfl rfl ⟨(blk_cell BK242.out 0).trans rfl, (blk_cell BK242.out 1).trans rfl, (blk_cell BK242.out 2).trans rfl, (blk_cell BK242.out 3).trans rfl, hx243_0⟩ (fun hHeld => ?_); refine with_tabW five_fives.tab7 five_fives.bits7 (fun HT_ HW_ => ?_)
                     generalize wr.drew = w46 at HO_5 HO_6 BK242 HB hx243_0 hHeld ⊢
                     refine pu 0 (some 21) (bz 9 1) HT_ rfl rfl ?_; refine pu 1 (some 22) (bz 9 3) HT_ rfl rfl ?_; refine pu 2 (some 23) (bz 9 7) HT_ rfl rfl ?_; refine pu 3 (some 24) (bz 9 15) HT_ rfl rfl ?_; refine pu 5 (some 26) (bz 9 47) HT_ rfl rfl ?_; refine pu 6 (some 27) (bz 9 111) HT_ rfl rfl ?_; refine tk 4 (some 25) (bz 9 127) HT_ HW_ rfl rfl hHeld ?_; refine tk 7 (some 28) (bz 9 255) HT_ HW_ rfl rfl hHeld ?_; refine pu 8 (some 29) (bz 9 511) HT_ rfl rfl ?_; refine done_ (done_of HT_.out (by kernel_rfl)) ?_
                     try go_wp2
                     have n0_ := Aside0.mk (Kd.R_drew HO_5.out); have n1_ := Aside0.mk (Kd.R_drew HO_6.out); have n2_ := Aside0.mk (blk_drew BK242.out); have n3_ := Aside0.mk (below_drew1 HB.out); clear HO_5; clear HO_6; clear BK242; clear HB; have HO_5 := n0_; have HO_6 := n1_; have BK242 := n2_; have HB := n3_; clear n0_ n1_ n2_ n3_; have p250 : 0 ≤ (x7_2 : Int) := of_decide_eq_true (by first | (with_reducible assumption) | assumption)
                     have q250 : x7_2 < (t238.length : Int) := of_decide_eq_true (by first | (with_reducible assumption) | assumption)
                     obtain ⟨ad250, e250, hx250_0⟩ := Kd.at_int (Kd.R_reads' HO_6.out).2.2 x7_2 p250 q250
                     obtain rfl : ad243 = ad250 := (by injection e250)
                     replace p250 := eq_true p250; replace q250 := eq_true q250; refine start_ (n := 11) (S := fun w' => w'.cell? ⟨gb242, 0, none⟩ = some (.int .i64 ((rd_T38 l1 x17_1).f0.f0)) ∧ w'.cell? ⟨gb242, 1, none⟩ = some (.int .i64 ((rd_T38 l1 x17_1).f0.f1)) ∧ w'.cell? ⟨gb242, 2, none⟩ = some (.int .i64 ((rd_T38 l1 x17_1).f1)) ∧ w'.cell? ⟨gb242, 3, none⟩ = some (.int .i64 ((rd_T38 l1 x17_1).f2)) ∧ w'.cell? (ad243.add (x7_2).toNat) = some (.int .i64 (rd t238 x7_2))) (ds := []) (bz 11 0) (by kernel_rfl) rfl rfl ⟨(blk_cell BK242.out 0).trans rfl, (blk_cell BK242.out 1).trans rfl, (blk_cell BK242.out 2).trans rfl, (blk_cell BK242.out 3).trans rfl, hx250_0⟩ (fun hHeld => ?_); refine with_tabW five_fives.tab11 five_fives.bits11 (fun HT_ HW_ => ?_)
                     generalize w46.drew = w48 at HO_5 HO_6 BK242 HB hx250_0 hHeld ⊢
                     refine pu 0 (some 35) (bz 11 1) HT_ rfl rfl ?_; refine pu 1 (some 36) (bz 11 3) HT_ rfl rfl ?_; refine pu 2 (some 37) (bz 11 7) HT_ rfl rfl ?_; refine pu 3 (some 38) (bz 11 15) HT_ rfl rfl ?_; refine pu 5 (some 40) (bz 11 47) HT_ rfl rfl ?_; refine pu 6 (some 41) (bz 11 111) HT_ rfl rfl ?_; refine tk 4 (some 39) (bz 11 127) HT_ HW_ rfl rfl hHeld ?_; refine tk 7 (some 42) (bz 11 255) HT_ HW_ rfl rfl hHeld ?_; refine pu 8 (some 43) (bz 11 511) HT_ rfl rfl ?_; refine one_ (i := 9) (N := some 44) (bz 11 1023) rfl rfl (one_of HT_.out (by kernel_rfl)) (by decide) (fun K hK => ?_)
                     refine goes_ Tryd.func36 (by kernel_rfl) rfl #[.string (a0.extract ((rd t238 x7_2) : Int).toNat (((rd_T38 l1 x17_1).f0.f0) : Int).toNat)] (by rfl) rfl rfl (by (try simp only [List.map_toArray, List.map_cons, List.map_nil]); first | done | rfl | (simp only [List.length_drop, List.length_take]; rfl)) ?_
                     with_reducible refine (utf_Units.calls (a0.extract ((rd t238 x7_2) : Int).toNat (((rd_T38 l1 x17_1).f0.f0) : Int).toNat) t251 _ A40.out).mono ?_
                     rintro e w49 ⟨rfl, hb⟩
                     have HS4_ := (hb.cell (World.block_lt_of_cell? _ _ (hHeld.2.2.2.2))).trans (hHeld.2.2.2.2)
                     refine ⟨_, rfl, ?_⟩
                     have n0_ := Aside0.mk (Kd.R_below (rl HO_5) hb); have n1_ := Aside0.mk (Kd.R_below (rl HO_6) hb); have n2_ := Aside0.mk (blk_below (g := gb242) (o := .cells #[.int .i64 ((rd_T38 l1 x17_1).f0.f0), .int .i64 ((rd_T38 l1 x17_1).f0.f1), .int .i64 ((rd_T38 l1 x17_1).f1), .int .i64 ((rd_T38 l1 x17_1).f2)] 38 (0, 0)) (kl BK242) hb); have n3_ := Aside0.mk (below_step (by repeat (first | (with_reducible first | exact HB.out | apply below_alloc | apply pw_below_drewN | apply below_drew1 | refine below_set ?_ GE242.out) | exact HB.out)) hb); clear HO_5; clear HO_6; clear BK242; clear HB; have HO_5 := n0_; have HO_6 := n1_; have BK242 := n2_; have HB := n3_; clear n0_ n1_ n2_ n3_; (try clear hb); (try clear hb2); (try clear hk); (try clear hi); refine hK.out _ _ ⟨(blk_cell BK242.out 0).trans rfl, (blk_cell BK242.out 1).trans rfl, (blk_cell BK242.out 2).trans rfl, (blk_cell BK242.out 3).trans rfl, HS4_⟩ (fun hHeld => ?_)
                     clear hK K; refine norm_ (a' := ?_) ?_ ?_
                     rotate_left
                     ·show Act.put _ (some 44) _ = _
                      simp only [Act.put, List.setIfInBounds_toArray, List.set_cons_zero, List.set_cons_succ, i64_w, i32_w]
                      rfl
                     refine pu 10 (some 12) (bz 11 2047) HT_ rfl rfl ?_; refine done_ (done_of HT_.out (by kernel_rfl)) ?_
                     try go_wp2
                     have n0_ := Aside0.mk (Kd.R_drew HO_5.out); have n1_ := Aside0.mk (Kd.R_drew HO_6.out); have n2_ := Aside0.mk (blk_drew BK242.out); have n3_ := Aside0.mk (below_drew1 HB.out); clear HO_5; clear HO_6; clear BK242; clear HB; have HO_5 := n0_; have HO_6 := n1_; have BK242 := n2_; have HB := n3_; clear n0_ n1_ n2_ n3_; refine start_ (n := 24) (S := fun w' => w'.cell? ⟨gb242, 0, none⟩ = some (.int .i64 ((rd_T38 l1 x17_1).f0.f0)) ∧ w'.cell? ⟨gb242, 1, none⟩ = some (.int .i64 ((rd_T38 l1 x17_1).f0.f1)) ∧ w'.cell? ⟨gb242, 2, none⟩ = some (.int .i64 ((rd_T38 l1 x17_1).f1)) ∧ w'.cell? ⟨gb242, 3, none⟩ = some (.int .i64 ((rd_T38 l1 x17_1).f2))) (ds := []) (bz 24 0) (by kernel_rfl) rfl rfl ⟨(blk_cell BK242.out 0).trans rfl, (blk_cell BK242.out 1).trans rfl, (blk_cell BK242.out 2).trans rfl, (blk_cell BK242.out 3).trans rfl⟩ (fun hHeld => ?_); refine with_tabW five_fives.tab12 five_fives.bits12 (fun HT_ HW_ => ?_)
                     generalize w49.drew = w50 at HO_5 HO_6 BK242 HB hHeld ⊢
                     refine pu 0 (some 45) (bz 24 1) HT_ rfl rfl ?_; refine pu 1 (some 46) (bz 24 3) HT_ rfl rfl ?_; refine pu 2 (some 47) (bz 24 7) HT_ rfl rfl ?_; refine pu 3 (some 48) (bz 24 15) HT_ rfl rfl ?_; refine pu 4 (some 49) (bz 24 31) HT_ rfl rfl ?_; refine pu 5 (some 50) (bz 24 63) HT_ rfl rfl ?_; refine pu 6 (some 51) (bz 24 127) HT_ rfl rfl ?_; refine pu 7 (some 52) (bz 24 255) HT_ rfl rfl ?_; refine pu 8 (some 53) (bz 24 511) HT_ rfl rfl ?_; refine pu 9 (some 54) (bz 24 1023) HT_ rfl rfl ?_; refine pu 11 (some 56) (bz 24 3071) HT_ rfl rfl ?_; refine pu 12 (some 57) (bz 24 7167) HT_ rfl rfl ?_; refine pu 16 (some 61) (bz 24 72703) HT_ rfl rfl ?_; refine pu 18 (some 63) (bz 24 334847) HT_ rfl rfl ?_; refine tk 10 (some 55) (bz 24 335871) HT_ HW_ rfl rfl hHeld ?_; refine tk 13 (some 58) (bz 24 344063) HT_ HW_ rfl rfl hHeld ?_; refine pu 14 (some 59) (bz 24 360447) HT_ rfl rfl ?_; refine tk 17 (some 62) (bz 24 491519) HT_ HW_ rfl rfl hHeld ?_; refine tk 19 (some 64) (bz 24 1015807) HT_ HW_ rfl rfl hHeld ?_; refine one_ (i := 15) (N := some 60) (bz 24 1048575) rfl rfl (one_of HT_.out (by kernel_rfl)) (by decide) (fun K hK => ?_)
                     refine goes_ Tryd.func36 (by kernel_rfl) rfl #[.string (a0.extract (((rd_T38 l1 x17_1).f0.f0) : Int).toNat (((rd_T38 l1 x17_1).f0.f1) : Int).toNat)] (by rfl) rfl rfl (by (try simp only [List.map_toArray, List.map_cons, List.map_nil]); first | done | rfl | (simp only [List.length_drop, List.length_take]; rfl)) ?_
                     with_reducible refine (utf_Units.calls (a0.extract (((rd_T38 l1 x17_1).f0.f0) : Int).toNat (((rd_T38 l1 x17_1).f0.f1) : Int).toNat) t252 _ A44.out).mono ?_
                     rintro e w51 ⟨rfl, hb⟩
                     refine ⟨_, rfl, ?_⟩
                     have n0_ := Aside0.mk (Kd.R_below (rl HO_5) hb); have n1_ := Aside0.mk (Kd.R_below (rl HO_6) hb); have n2_ := Aside0.mk (blk_below (g := gb242) (o := .cells #[.int .i64 ((rd_T38 l1 x17_1).f0.f0), .int .i64 ((rd_T38 l1 x17_1).f0.f1), .int .i64 ((rd_T38 l1 x17_1).f1), .int .i64 ((rd_T38 l1 x17_1).f2)] 38 (0, 0)) (kl BK242) hb); have n3_ := Aside0.mk (below_step (by repeat (first | (with_reducible first | exact HB.out | apply below_alloc | apply pw_below_drewN | apply below_drew1 | refine below_set ?_ GE242.out) | exact HB.out)) hb); clear HO_5; clear HO_6; clear BK242; clear HB; have HO_5 := n0_; have HO_6 := n1_; have BK242 := n2_; have HB := n3_; clear n0_ n1_ n2_ n3_; (try clear hb); (try clear hb2); (try clear hk); (try clear hi); refine hK.out _ _ ⟨(blk_cell BK242.out 0).trans rfl, (blk_cell BK242.out 1).trans rfl, (blk_cell BK242.out 2).trans rfl, (blk_cell BK242.out 3).trans rfl⟩ (fun hHeld => ?_)
                     clear hK K; refine norm_ (a' := ?_) ?_ ?_
                     rotate_left
                     ·show Act.put _ (some 60) _ = _
                      simp only [Act.put, List.setIfInBounds_toArray, List.set_cons_zero, List.set_cons_succ, i64_w, i32_w]
                      rfl
                     refine pu 20 (some 65) (bz 24 2097151) HT_ rfl rfl ?_; refine one_ (i := 21) (N := some 66) (bz 24 4194303) rfl rfl (one_of HT_.out (by kernel_rfl)) (by decide) (fun K hK => ?_)
                     refine value_ (w1 := ?_) (v := ?_) (by rfl) rfl ?_ ?_
                     rotate_left 2
                     ·go_simp
                      constructor
                      ·rfl
                      ·rfl
                     refine hK.out _ _ ⟨(blk_cell (blk_alloc BK242.out _) 0).trans rfl, (blk_cell (blk_alloc BK242.out _) 1).trans rfl, (blk_cell (blk_alloc BK242.out _) 2).trans rfl, (blk_cell (blk_alloc BK242.out _) 3).trans rfl⟩ (fun hHeld => ?_)
                     clear hK K; refine norm_ (a' := ?_) ?_ ?_
                     rotate_left
                     ·show Act.put _ (some 66) _ = _
                      simp only [Act.put, List.setIfInBounds_toArray, List.set_cons_zero, List.set_cons_succ, i64_w, i32_w]
                      rfl
                     refine one_ (i := 22) (N := some 67) (bz 24 8388607) rfl rfl (one_of HT_.out (by kernel_rfl)) (by decide) (fun K hK => ?_)
                     refine Kd.R_append_step k60 (w0 := w) w.heap.size (by rfl) (.tmp 45) (.tmp 66) 54 60 (.agg #[(.int .i64 0), (.int .i64 0), (.int .i64 0), (.int .i64 0), (.int .i64 0)]) 40 rfl Tryd.underlying54 info60 rfl (by decide) (by omega) u5 x5_1 (⟨wrap64 (x7_2 - x8_1), wrap64 (t251 - x9_1), t252, ((rd_T38 l1 x17_1).f1), ((rd_T38 l1 x17_1).f2)⟩ : S60) [.int .i64 (wrap64 (x7_2 - x8_1)), .int .i64 (wrap64 (t251 - x9_1)), .int .i64 t252, .int .i64 ((rd_T38 l1 x17_1).f1), .int .i64 ((rd_T38 l1 x17_1).f2)] (fun _ => True) (fun _ => False) rfl rfl ?aP (fun _ hk => hk.elim) ?aF ?aO ?aB ?aS ?aL ?_
                     (case aP => exact k60_mkM _ _ _ (⟨wrap64 (x7_2 - x8_1), wrap64 (t251 - x9_1), t252, ((rd_T38 l1 x17_1).f1), ((rd_T38 l1 x17_1).f2)⟩ : S60))
                     (case aB => exact (by repeat (first | (with_reducible first | exact HB.out | apply below_alloc | apply pw_below_drewN | apply below_drew1 | refine below_set ?_ GE242.out) | exact HB.out)))
                     (case aF => exact (fun _ _ => trivial))
                     (case aO => exact (rl HO_5))
                     (case aS => exact (below_size (by repeat (first | (with_reducible first | exact HB.out | apply below_alloc | apply pw_below_drewN | apply below_drew1 | refine below_set ?_ GE242.out) | exact HB.out))))
                     (case aL => have := LMc45.out; omega)
                     intro v254 w52 ho hb hg hat
                     rw [← Ny253.out] at ho
                     have n0_ := Aside0.mk (Kd.R_over' (rl HO_6) (Kd.R_typed (rl HO_5)) (by decide) hg); have n1_ := Aside0.mk (blk_grown (g := gb242) (o := .cells #[.int .i64 ((rd_T38 l1 x17_1).f0.f0), .int .i64 ((rd_T38 l1 x17_1).f0.f1), .int .i64 ((rd_T38 l1 x17_1).f1), .int .i64 ((rd_T38 l1 x17_1).f2)] 38 (0, 0)) (kl BK242) hg (Kd.R_ne HO_5.out BK242.out (by decide))); have n2_ := Aside0.mk (hb); have n3_ := Aside0.mk (ho); clear HO_6; clear BK242; clear HB; clear HO_5; have HO_6 := n0_; have BK242 := n1_; have HB := n2_; have HO255 := n3_; clear n0_ n1_ n2_ n3_; clear ho hb hg hat; refine hK.out _ _ ⟨(blk_cell BK242.out 0).trans rfl, (blk_cell BK242.out 1).trans rfl, (blk_cell BK242.out 2).trans rfl, (blk_cell BK242.out 3).trans rfl⟩ (fun hHeld => ?_)
                     clear hK K; refine norm_ (a' := ?_) ?_ ?_
                     rotate_left
                     ·show Act.put _ (some 67) _ = _
                      simp only [Act.put, List.setIfInBounds_toArray, List.set_cons_zero, List.set_cons_succ, i64_w, i32_w]
                      rfl
                     refine pu 23 (some 5) (bz 24 16777215) HT_ rfl rfl ?_; refine done_ (done_of HT_.out (by kernel_rfl)) ?_
                     try go_wp2
                     go_roundg k2
                     case measure => have := HK1.out; have := HK2.out; omega
                     case rel => exact ⟨(y253), (x7_2), (x7_2), (t251), (wrap64 (x17_1 + 1)), (by first | rfl | (simp; done) | (simp [*]; done) | (simp; exact xEmpty_ne _) | (simp [*]; exact xEmpty_ne _)), (by first | rfl | (simp; done) | (simp [*]; done) | (simp; exact xEmpty_ne _) | (simp [*]; exact xEmpty_ne _)), (by first | rfl | (simp; done) | (simp [*]; done) | (simp; exact xEmpty_ne _) | (simp [*]; exact xEmpty_ne _)), (by first | rfl | (simp; done) | (simp [*]; done) | (simp; exact xEmpty_ne _) | (simp [*]; exact xEmpty_ne _)), H', ⟨by have := HK1.out; have := HK2.out; omega⟩, ⟨rl HO255⟩, ⟨rl HO_6⟩, ⟨by repeat (first | (with_reducible first | exact HB.out | apply below_alloc | apply pw_below_drewN | apply below_drew1 | refine below_set ?_ GE242.out) | exact HB.out)⟩⟩
                    ·rw [if_neg c45] at H; exact absurd H (by simp)
                   ·rw [if_neg c43] at H; exact absurd H (by simp)
                  ·rw [if_neg c42] at H; exact absurd H (by simp)
                 ·rw [if_neg c41] at H; exact absurd H (by simp)
                ·rw [if_neg c39] at H; exact absurd H (by simp)
               ·rw [if_neg c38] at H; exact absurd H (by simp)
              ·rw [if_neg c37] at H; exact absurd H (by simp)
             ·rw [if_neg c36] at H; exact absurd H (by simp)
            ·rw [if_neg c35] at H; exact absurd H (by simp)
         ·rw [if_neg c12] at H; exact absurd H (by simp)
        ·rw [if_neg c11] at H; exact absurd H (by simp)
     ·rw [if_neg c7] at H; exact absurd H (by simp)
    ·rw [if_neg c6] at H; exact absurd H (by simp)
   ·rw [if_neg c5] at H; have c5b0 : decide (x17_1 < (l1.length : Int)) = false := decide_eq_false c5; clear c5; obtain rfl := Option.some.inj H; go_wp2
    go_ret
    exact ⟨_, by first | rfl | (simp [errW_none, errW_some] <;> rfl) | (simp [*, errW_none, errW_some] <;> rfl), rl HO_5, bl HB⟩

end Go.Proofs.YtbjhmknahldhaaaDoor.Q
