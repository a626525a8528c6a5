-- Written by this repo's wip/xprint.py (over the kit's print.py) out of the translation. Not trusted: Lean checks it.
import Derived.Test.YtbjhmknahldhaaaDoorQ0
import Derived.Test.YtbjhmknahldhaaaDoorQ2
namespace Go.Proofs.YtbjhmknahldhaaaDoor.Q
open Go.RowKit Go.Proofs.YtbjhmknahldhaaaDoorW.PrintWords Go.Proofs.YtbjhmknahldhaaaDoorW.PrintLast Go.Proofs.YtbjhmknahldhaaaDoorW.PrintMore
attribute [local go_sem] max2_int min2_int max_two min_two max_three min_three max_four min_four   -- for this text's walks alone
set_option linter.unusedVariables false
set_option linter.unusedSimpArgs false

/-! ### glossatorref23_Right: function 19 -/
mutual
def glossatorref23_Right.l0 : Nat → ByteArray → List (S38) → Int → Int → Option (Bool)
 | 0, _, _, _, _ => none
 | k + 1, x0, x1, x5, x6 => if x6 < (x1.length : Int) then (if 0 ≤ x6 then (if ((rd_T38 x1 x6).f0.f0) < x5 then (glossatorref23_Right.j1 k x0 x1 x6 ((rd_T38 x1 x6).f0.f0) ((rd_T38 x1 x6).f0.f1) true) else (if ((rd_T38 x1 x6).f0.f1) < ((rd_T38 x1 x6).f0.f0) then (glossatorref23_Right.j1 k x0 x1 x6 ((rd_T38 x1 x6).f0.f0) ((rd_T38 x1 x6).f0.f1) true) else (if ((rd_T38 x1 x6).f0.f1) > (x0.size : Int) then (glossatorref23_Right.j1 k x0 x1 x6 ((rd_T38 x1 x6).f0.f0) ((rd_T38 x1 x6).f0.f1) true) else (if ((rd_T38 x1 x6).f1) < 0 then (glossatorref23_Right.j1 k x0 x1 x6 ((rd_T38 x1 x6).f0.f0) ((rd_T38 x1 x6).f0.f1) true) else (glossatorref23_Right.j1 k x0 x1 x6 ((rd_T38 x1 x6).f0.f0) ((rd_T38 x1 x6).f0.f1) (decide (((rd_T38 x1 x6).f2) < 0))))))) else (none)) else (some true)
def glossatorref23_Right.j1 : Nat → ByteArray → List (S38) → Int → Int → Int → Bool → Option (Bool)
 | 0, _, _, _, _, _, _ => none
 | k + 1, x0, x1, x6, x7, x8, x56 => if x56 = true then (some false) else ((glossatorref01_Begin.f k x0 x7).bind fun t114 => (if t114 = x7 then ((glossatorref01_Begin.f k x0 x8).bind fun t115 => (if t115 = x8 then (glossatorref23_Right.l0 k x0 x1 x8 (wrap64 (x6 + 1))) else (some false))) else (some false)))
end
def glossatorref23_Right.f (k : Nat) (a0 : ByteArray) (l1 : List (S38)) : Option (Bool) := glossatorref23_Right.l0 k a0 l1 0 0
theorem glossatorref23_Right.mono_l : ∀ k, (∀ y0 y1 y2 y3, LeO (glossatorref23_Right.l0 k y0 y1 y2 y3) (glossatorref23_Right.l0 (k + 1) y0 y1 y2 y3)) ∧ (∀ y0 y1 y2 y3 y4 y5, LeO (glossatorref23_Right.j1 k y0 y1 y2 y3 y4 y5) (glossatorref23_Right.j1 (k + 1) y0 y1 y2 y3 y4 y5))
 | 0 => ⟨fun _ _ _ _ r h => by simp [glossatorref23_Right.l0] at h, fun _ _ _ _ _ _ r h => by simp [glossatorref23_Right.j1] at h⟩
 | k + 1 => by
  obtain ⟨ih0, ih1⟩ := glossatorref23_Right.mono_l k
  refine ⟨?_, ?_⟩
  ·intro y0 y1 y2 y3
   unfold glossatorref23_Right.l0
   repeat' first
   | (with_reducible exact ih0 _ _ _ _)
   | (with_reducible exact ih1 _ _ _ _ _ _)
   | (with_reducible exact glossatorref01_Begin.mono _ _ _)
   | (with_reducible exact LeO.refl _)
   | (with_reducible exact LeO.none _)
   | (with_reducible refine LeO.ite ?_ ?_)
   | (with_reducible refine LeO.bind ?_ (fun _ => ?_))
   | exact ih0 _ _ _ _
   | exact ih1 _ _ _ _ _ _
   | exact glossatorref01_Begin.mono _ _ _
   | exact LeO.none _
   | refine LeO.ite ?_ ?_
   | refine LeO.bind ?_ (fun _ => ?_)
  ·intro y0 y1 y2 y3 y4 y5
   unfold glossatorref23_Right.j1
   repeat' first
   | (with_reducible exact ih0 _ _ _ _)
   | (with_reducible exact ih1 _ _ _ _ _ _)
   | (with_reducible exact glossatorref01_Begin.mono _ _ _)
   | (with_reducible exact LeO.refl _)
   | (with_reducible exact LeO.none _)
   | (with_reducible refine LeO.ite ?_ ?_)
   | (with_reducible refine LeO.bind ?_ (fun _ => ?_))
   | exact ih0 _ _ _ _
   | exact ih1 _ _ _ _ _ _
   | exact glossatorref01_Begin.mono _ _ _
   | exact LeO.none _
   | refine LeO.ite ?_ ?_
   | refine LeO.bind ?_ (fun _ => ?_)
theorem glossatorref23_Right.mono : ∀ a0 a1 k, LeO (glossatorref23_Right.f k a0 a1) (glossatorref23_Right.f (k + 1) a0 a1) := by
 intro a0 a1 k
 obtain ⟨ih0, ih1⟩ := glossatorref23_Right.mono_l k
 unfold glossatorref23_Right.f
 repeat' first
   | (with_reducible exact ih0 _ _ _ _)
   | (with_reducible exact ih1 _ _ _ _ _ _)
   | (with_reducible exact glossatorref01_Begin.mono _ _ _)
   | (with_reducible exact LeO.refl _)
   | (with_reducible exact LeO.none _)
   | (with_reducible refine LeO.ite ?_ ?_)
   | (with_reducible refine LeO.bind ?_ (fun _ => ?_))
   | exact ih0 _ _ _ _
   | exact ih1 _ _ _ _ _ _
   | exact glossatorref01_Begin.mono _ _ _
   | exact LeO.none _
   | refine LeO.ite ?_ ?_
   | refine LeO.bind ?_ (fun _ => ?_)
set_option maxHeartbeats 8000000 in
set_option maxRecDepth 100000 in
theorem glossatorref23_Right.calls (k : Nat) (a0 : ByteArray) (A1 : Option Addr) (c1 : Nat) (l1 : List (S38)) (r : Bool) (w : World) (hr1 : Kd.C k38 w A1 l1.length l1) (hc1 : l1.length ≤ c1) (h : glossatorref23_Right.f k a0 l1 = some r) :
  Calls Tryd.prog 19 #[.string a0, .slice A1 l1.length c1] w fun e w' => e = .returned (.bool r) ∧ Below w.heap.size w w' := by
 have HR1 := Aside0.mk hr1; have HC1 := Aside0.mk hc1; clear hr1 hc1; have HB := Aside0.mk (Below.refl w.heap.size w)
 have H : (glossatorref23_Right.l0 k a0 l1 0 0) = some r := h
 clear h; have H' := Aside0.mk H; clear H; go_enter Tryd.func19, Tryd.ntmps19
 go_wp2
 repeat (go_quiet (fail); try go_wp2)
 go_loopg [5, 6] k (fun kq v5 v6 w' => ∃ (x5_1 : Int) (x6_1 : Int), v5 = .int .i64 x5_1 ∧ v6 = .int .i64 x6_1 ∧ Aside0 (glossatorref23_Right.l0 kq a0 l1 x5_1 x6_1 = some r) ∧ Aside0 (kq ≤ k) ∧ Aside0 (Below w.heap.size w w'))
 case atStart => exact ⟨(0), (0), (by first | rfl | (simp; done) | (simp [*]; done) | (simp; exact xEmpty_ne _) | (simp [*]; exact xEmpty_ne _)), (by first | rfl | (simp; done) | (simp [*]; done) | (simp; exact xEmpty_ne _) | (simp [*]; exact xEmpty_ne _)), H', ⟨Nat.le_refl _⟩, ⟨bl HB⟩⟩
 case round =>
  clear H'; (try clear c1); (try clear p2); (try clear HB); obtain ⟨x5_1, x6_1, rfl, rfl, HA, HK1, HB⟩ := hrel
  cases gk with
  | zero => exact absurd HA.out (by simp [glossatorref23_Right.l0])
  | succ k1 =>
   have H := HA.out
   clear HA; simp only [glossatorref23_Right.l0] at H
   by_cases c3 : x6_1 < (l1.length : Int)
   ·rw [if_pos c3] at H; have c3b0 : decide (x6_1 < (l1.length : Int)) = true := decide_eq_true c3; clear c3; by_cases c4 : 0 ≤ x6_1
    ·rw [if_pos c4] at H; have c4b0 : decide (0 ≤ x6_1) = true := decide_eq_true c4; clear c4; have HC5 := Aside0.mk H; clear H; have p110 : 0 ≤ (x6_1 : Int) := of_decide_eq_true (by first | (with_reducible assumption) | assumption)
     have q110 : x6_1 < (l1.length : Int) := of_decide_eq_true (by first | (with_reducible assumption) | assumption)
     obtain ⟨ad110, e110, hx110_0, hx110_1, hx110_2, hx110_3⟩ := at_T38 HR1.out x6_1 p110 q110
     cases e110; replace hx110_0 := (HB.out.cell (World.block_lt_of_cell? w _ hx110_0)).trans hx110_0; replace hx110_1 := (HB.out.cell (World.block_lt_of_cell? w _ hx110_1)).trans hx110_1; replace hx110_2 := (HB.out.cell (World.block_lt_of_cell? w _ hx110_2)).trans hx110_2; replace hx110_3 := (HB.out.cell (World.block_lt_of_cell? w _ hx110_3)).trans hx110_3; replace p110 := eq_true p110; replace q110 := eq_true q110; have p111 : 0 ≤ (x6_1 : Int) := of_decide_eq_true (by first | (with_reducible assumption) | assumption)
     have q111 : x6_1 < (l1.length : Int) := of_decide_eq_true (by first | (with_reducible assumption) | assumption)
     obtain ⟨ad111, e111, hx111_0, hx111_1, hx111_2, hx111_3⟩ := at_T38 HR1.out x6_1 p111 q111
     obtain rfl : ad110 = ad111 := (by injection e111)
     replace hx111_0 := (HB.out.cell (World.block_lt_of_cell? w _ hx111_0)).trans hx111_0; replace hx111_1 := (HB.out.cell (World.block_lt_of_cell? w _ hx111_1)).trans hx111_1; replace hx111_2 := (HB.out.cell (World.block_lt_of_cell? w _ hx111_2)).trans hx111_2; replace hx111_3 := (HB.out.cell (World.block_lt_of_cell? w _ hx111_3)).trans hx111_3; replace p111 := eq_true p111; replace q111 := eq_true q111; go_upto_region 6 with (fail)
     repeat (go_quiet (fail); go_upto_region 6 with (fail))
     go_cut [56] (fun v56 wc => ∃ (kq : Nat) (x56_4 : Bool), v56 = .bool x56_4 ∧ Aside0 (glossatorref23_Right.j1 kq a0 l1 x6_1 ((rd_T38 l1 x6_1).f0.f0) ((rd_T38 l1 x6_1).f0.f1) x56_4 = some r) ∧ Aside0 (kq ≤ k1) ∧ Aside0 (Below w.heap.size w wc))
     case first =>
      have H := HC5.out
      clear HC5; by_cases c6 : ((rd_T38 l1 x6_1).f0.f0) < x5_1
      ·rw [if_pos c6] at H; have c6b0 : decide (((rd_T38 l1 x6_1).f0.f0) < x5_1) = true := decide_eq_true c6; clear c6; (first | rw [c6b0] | rw [c6b1] | (simp only [i64_w, i32_w]; rw [c6b0]) | skip)
       have H' := Aside0.mk H; clear H; go_wp2
       repeat (go_quiet (fail); try go_wp2)
       go_meet
       case rel => exact ⟨_, (true), (by first | rfl | (simp; done) | (simp [*]; done) | (simp; exact xEmpty_ne _) | (simp [*]; exact xEmpty_ne _)), H', ⟨by have := HK1.out; first | omega | exact Nat.le_refl _⟩, ⟨bl HB⟩⟩
      ·rw [if_neg c6] at H; have c6b0 : decide (((rd_T38 l1 x6_1).f0.f0) < x5_1) = false := decide_eq_false c6; clear c6; (first | rw [c6b0] | rw [c6b1] | (simp only [i64_w, i32_w]; rw [c6b0]) | skip)
       by_cases c7 : ((rd_T38 l1 x6_1).f0.f1) < ((rd_T38 l1 x6_1).f0.f0)
       ·rw [if_pos c7] at H; have c7b0 : decide (((rd_T38 l1 x6_1).f0.f1) < ((rd_T38 l1 x6_1).f0.f0)) = true := decide_eq_true c7; clear c7; have H' := Aside0.mk H; clear H; go_wp2
        repeat (go_quiet (fail); try go_wp2)
        go_meet
        case rel => exact ⟨_, (true), (by first | rfl | (simp; done) | (simp [*]; done) | (simp; exact xEmpty_ne _) | (simp [*]; exact xEmpty_ne _)), H', ⟨by have := HK1.out; first | omega | exact Nat.le_refl _⟩, ⟨bl HB⟩⟩
       ·rw [if_neg c7] at H; have c7b0 : decide (((rd_T38 l1 x6_1).f0.f1) < ((rd_T38 l1 x6_1).f0.f0)) = false := decide_eq_false c7; clear c7; by_cases c8 : ((rd_T38 l1 x6_1).f0.f1) > (a0.size : Int)
        ·rw [if_pos c8] at H; have c8b0 : decide ((a0.size : Int) < ((rd_T38 l1 x6_1).f0.f1)) = true := decide_eq_true c8; clear c8; have H' := Aside0.mk H; clear H; go_wp2
         repeat (go_quiet (fail); try go_wp2)
         go_meet
         case rel => exact ⟨_, (true), (by first | rfl | (simp; done) | (simp [*]; done) | (simp; exact xEmpty_ne _) | (simp [*]; exact xEmpty_ne _)), H', ⟨by have := HK1.out; first | omega | exact Nat.le_refl _⟩, ⟨bl HB⟩⟩
        ·rw [if_neg c8] at H; have c8b0 : decide ((a0.size : Int) < ((rd_T38 l1 x6_1).f0.f1)) = false := decide_eq_false c8; clear c8; by_cases c9 : ((rd_T38 l1 x6_1).f1) < 0
         ·rw [if_pos c9] at H; have c9b0 : decide (((rd_T38 l1 x6_1).f1) < 0) = true := decide_eq_true c9; clear c9; have H' := Aside0.mk H; clear H; have p112 : 0 ≤ (x6_1 : Int) := of_decide_eq_true (by first | (with_reducible assumption) | assumption)
          have q112 : x6_1 < (l1.length : Int) := of_decide_eq_true (by first | (with_reducible assumption) | assumption)
          obtain ⟨ad112, e112, hx112_0, hx112_1, hx112_2, hx112_3⟩ := at_T38 HR1.out x6_1 p112 q112
          obtain rfl : ad110 = ad112 := (by injection e112)
          replace hx112_0 := (HB.out.cell (World.block_lt_of_cell? w _ hx112_0)).trans hx112_0; replace hx112_1 := (HB.out.cell (World.block_lt_of_cell? w _ hx112_1)).trans hx112_1; replace hx112_2 := (HB.out.cell (World.block_lt_of_cell? w _ hx112_2)).trans hx112_2; replace hx112_3 := (HB.out.cell (World.block_lt_of_cell? w _ hx112_3)).trans hx112_3; replace p112 := eq_true p112; replace q112 := eq_true q112; go_wp2
          repeat (go_quiet (fail); try go_wp2)
          go_meet
          case rel => exact ⟨_, (true), (by first | rfl | (simp; done) | (simp [*]; done) | (simp; exact xEmpty_ne _) | (simp [*]; exact xEmpty_ne _)), H', ⟨by have := HK1.out; first | omega | exact Nat.le_refl _⟩, ⟨bl HB⟩⟩
         ·rw [if_neg c9] at H; have c9b0 : decide (((rd_T38 l1 x6_1).f1) < 0) = false := decide_eq_false c9; clear c9; have H' := Aside0.mk H; clear H; have p112 : 0 ≤ (x6_1 : Int) := of_decide_eq_true (by first | (with_reducible assumption) | assumption)
          have q112 : x6_1 < (l1.length : Int) := of_decide_eq_true (by first | (with_reducible assumption) | assumption)
          obtain ⟨ad112, e112, hx112_0, hx112_1, hx112_2, hx112_3⟩ := at_T38 HR1.out x6_1 p112 q112
          obtain rfl : ad110 = ad112 := (by injection e112)
          replace hx112_0 := (HB.out.cell (World.block_lt_of_cell? w _ hx112_0)).trans hx112_0; replace hx112_1 := (HB.out.cell (World.block_lt_of_cell? w _ hx112_1)).trans hx112_1; replace hx112_2 := (HB.out.cell (World.block_lt_of_cell? w _ hx112_2)).trans hx112_2; replace hx112_3 := (HB.out.cell (World.block_lt_of_cell? w _ hx112_3)).trans hx112_3; replace p112 := eq_true p112; replace q112 := eq_true q112; have p113 : 0 ≤ (x6_1 : Int) := of_decide_eq_true (by first | (with_reducible assumption) | assumption)
          have q113 : x6_1 < (l1.length : Int) := of_decide_eq_true (by first | (with_reducible assumption) | assumption)
          obtain ⟨ad113, e113, hx113_0, hx113_1, hx113_2, hx113_3⟩ := at_T38 HR1.out x6_1 p113 q113
          obtain rfl : ad110 = ad113 := (by injection e113)
          replace hx113_0 := (HB.out.cell (World.block_lt_of_cell? w _ hx113_0)).trans hx113_0; replace hx113_1 := (HB.out.cell (World.block_lt_of_cell? w _ hx113_1)).trans hx113_1; replace hx113_2 := (HB.out.cell (World.block_lt_of_cell? w _ hx113_2)).trans hx113_2; replace hx113_3 := (HB.out.cell (World.block_lt_of_cell? w _ hx113_3)).trans hx113_3; replace p113 := eq_true p113; replace q113 := eq_true q113; go_wp2
          repeat (go_quiet (fail); try go_wp2)
          go_meet
          case rel => exact ⟨_, (decide (((rd_T38 l1 x6_1).f2) < 0)), (by first | rfl | (simp; done) | (simp [*]; done) | (simp; exact xEmpty_ne _) | (simp [*]; exact xEmpty_ne _)), H', ⟨by have := HK1.out; first | omega | exact Nat.le_refl _⟩, ⟨bl HB⟩⟩
     case rest =>
      clear HC5; (try clear c1); (try clear p1); (try clear q1); (try clear hx1); (try clear p2); (try clear c3); (try clear c3b0); (try clear c4); (try clear c4b0); (try clear c6); (try clear c6b0); (try clear c7); (try clear c7b0); (try clear c8); (try clear c8b0); (try clear c9); (try clear c9b0); (try clear hx110_0); (try clear hx110_1); (try clear hx110_2); (try clear hx110_3); (try clear hx111_0); (try clear hx111_1); (try clear hx111_2); (try clear hx111_3); (try clear hx112_0); (try clear hx112_1); (try clear hx112_2); (try clear hx112_3); (try clear hx113_0); (try clear hx113_1); (try clear hx113_2); (try clear hx113_3); (try clear p110); (try clear p111); (try clear p112); (try clear p113); (try clear p2); (try clear q110); (try clear q111); (try clear q112); (try clear q113); obtain ⟨kq, x56_4, rfl, HA, HJ4, HB⟩ := hcut
      cases kq with
      | zero => exact absurd HA.out (by simp [glossatorref23_Right.j1])
      | succ kj4 =>
       have H := HA.out
       clear HA; simp only [glossatorref23_Right.j1] at H
       by_cases c10 : x56_4 = true
       ·subst c10; have H1 : (some false) = some r := by rw [if_pos rfl] at H; exact H
        clear H; have H := H1
        clear H1; obtain rfl := Option.some.inj H; go_wp2
        repeat (go_quiet (fail); try go_wp2)
        go_ret
        exact ⟨by first | rfl | (simp [errW_none, errW_some] <;> rfl) | (simp [*, errW_none, errW_some] <;> rfl), bl HB⟩
       ·replace c10 := Bool.eq_false_iff.mpr c10
        subst c10; have H1 : ((glossatorref01_Begin.f kj4 a0 ((rd_T38 l1 x6_1).f0.f0)).bind fun t114 => (if t114 = ((rd_T38 l1 x6_1).f0.f0) then ((glossatorref01_Begin.f kj4 a0 ((rd_T38 l1 x6_1).f0.f1)).bind fun t115 => (if t115 = ((rd_T38 l1 x6_1).f0.f1) then (glossatorref23_Right.l0 kj4 a0 l1 ((rd_T38 l1 x6_1).f0.f1) (wrap64 (x6_1 + 1))) else (some false))) else (some false))) = some r := by rw [if_neg (show ¬ (false = true) by decide)] at H; exact H
        clear H; have H := H1
        clear H1; replace H := Option.bind_eq_some_iff.mp H
        obtain ⟨t114, A110, H⟩ := H
        replace H : (if t114 = ((rd_T38 l1 x6_1).f0.f0) then ((glossatorref01_Begin.f kj4 a0 ((rd_T38 l1 x6_1).f0.f1)).bind fun t115 => (if t115 = ((rd_T38 l1 x6_1).f0.f1) then (glossatorref23_Right.l0 kj4 a0 l1 ((rd_T38 l1 x6_1).f0.f1) (wrap64 (x6_1 + 1))) else (some false))) else (some false)) = some r := H
        have A11 := Aside0.mk A110; clear A110; by_cases c12 : t114 = ((rd_T38 l1 x6_1).f0.f0)
        ·rw [if_pos c12] at H; have c12b0 : (t114 == ((rd_T38 l1 x6_1).f0.f0)) = true := beq_iff_eq.mpr c12
         have c12b1 : (t114 != ((rd_T38 l1 x6_1).f0.f0)) = false := bne_eq_false_iff_eq.mpr c12
         clear c12; replace H := Option.bind_eq_some_iff.mp H
         obtain ⟨t115, A130, H⟩ := H
         replace H : (if t115 = ((rd_T38 l1 x6_1).f0.f1) then (glossatorref23_Right.l0 kj4 a0 l1 ((rd_T38 l1 x6_1).f0.f1) (wrap64 (x6_1 + 1))) else (some false)) = some r := H
         have A13 := Aside0.mk A130; clear A130; by_cases c14 : t115 = ((rd_T38 l1 x6_1).f0.f1)
         ·rw [if_pos c14] at H; have c14b0 : (t115 == ((rd_T38 l1 x6_1).f0.f1)) = true := beq_iff_eq.mpr c14
          have c14b1 : (t115 != ((rd_T38 l1 x6_1).f0.f1)) = false := bne_eq_false_iff_eq.mpr c14
          clear c14; have H' := Aside0.mk H; clear H; go_wp2_with (first | (go_at_call 32; (with_reducible refine (glossatorref01_Begin.calls kj4 a0 ((rd_T38 l1 x6_1).f0.f0) t114 _ A11.out).mono ?_); rintro e w15 ⟨rfl, hb⟩; have n0_ := Aside0.mk (below_step (bl HB) hb); clear HB; have HB := n0_; clear n0_; (try clear hb); (try clear hb2); (try clear hk); (try clear hi)) | (go_at_call 32; (with_reducible refine (glossatorref01_Begin.calls kj4 a0 ((rd_T38 l1 x6_1).f0.f1) t115 _ A13.out).mono ?_); rintro e w16 ⟨rfl, hb⟩; have n0_ := Aside0.mk (below_step (bl HB) hb); clear HB; have HB := n0_; clear n0_; (try clear hb); (try clear hb2); (try clear hk); (try clear hi)))
          repeat (go_quiet (first | (go_at_call 32; (with_reducible refine (glossatorref01_Begin.calls kj4 a0 ((rd_T38 l1 x6_1).f0.f0) t114 _ A11.out).mono ?_); rintro e w15 ⟨rfl, hb⟩; have n0_ := Aside0.mk (below_step (bl HB) hb); clear HB; have HB := n0_; clear n0_; (try clear hb); (try clear hb2); (try clear hk); (try clear hi)) | (go_at_call 32; (with_reducible refine (glossatorref01_Begin.calls kj4 a0 ((rd_T38 l1 x6_1).f0.f1) t115 _ A13.out).mono ?_); rintro e w16 ⟨rfl, hb⟩; have n0_ := Aside0.mk (below_step (bl HB) hb); clear HB; have HB := n0_; clear n0_; (try clear hb); (try clear hb2); (try clear hk); (try clear hi))); try go_wp2_with (first | (go_at_call 32; (with_reducible refine (glossatorref01_Begin.calls kj4 a0 ((rd_T38 l1 x6_1).f0.f0) t114 _ A11.out).mono ?_); rintro e w15 ⟨rfl, hb⟩; have n0_ := Aside0.mk (below_step (bl HB) hb); clear HB; have HB := n0_; clear n0_; (try clear hb); (try clear hb2); (try clear hk); (try clear hi)) | (go_at_call 32; (with_reducible refine (glossatorref01_Begin.calls kj4 a0 ((rd_T38 l1 x6_1).f0.f1) t115 _ A13.out).mono ?_); rintro e w16 ⟨rfl, hb⟩; have n0_ := Aside0.mk (below_step (bl HB) hb); clear HB; have HB := n0_; clear n0_; (try clear hb); (try clear hb2); (try clear hk); (try clear hi))))
          go_roundg kj4
          case measure => have := HK1.out; have := HJ4.out; omega
          case rel => exact ⟨(((rd_T38 l1 x6_1).f0.f1)), (wrap64 (x6_1 + 1)), (by first | rfl | (simp; done) | (simp [*]; done) | (simp; exact xEmpty_ne _) | (simp [*]; exact xEmpty_ne _)), (by first | rfl | (simp; done) | (simp [*]; done) | (simp; exact xEmpty_ne _) | (simp [*]; exact xEmpty_ne _)), H', ⟨by have := HK1.out; have := HJ4.out; omega⟩, ⟨bl HB⟩⟩
         ·rw [if_neg c14] at H; have c14b0 : (t115 == ((rd_T38 l1 x6_1).f0.f1)) = false := beq_eq_false_iff_ne.mpr c14; have c14b1 : (t115 != ((rd_T38 l1 x6_1).f0.f1)) = true := bne_iff_ne.mpr c14; obtain rfl := Option.some.inj H; go_wp2_with (first | (go_at_call 32; (with_reducible refine (glossatorref01_Begin.calls kj4 a0 ((rd_T38 l1 x6_1).f0.f0) t114 _ A11.out).mono ?_); rintro e w17 ⟨rfl, hb⟩; have n0_ := Aside0.mk (below_step (bl HB) hb); clear HB; have HB := n0_; clear n0_; (try clear hb); (try clear hb2); (try clear hk); (try clear hi)) | (go_at_call 32; (with_reducible refine (glossatorref01_Begin.calls kj4 a0 ((rd_T38 l1 x6_1).f0.f1) t115 _ A13.out).mono ?_); rintro e w18 ⟨rfl, hb⟩; have n0_ := Aside0.mk (below_step (bl HB) hb); clear HB; have HB := n0_; clear n0_; (try clear hb); (try clear hb2); (try clear hk); (try clear hi)))
          repeat (go_quiet (first | (go_at_call 32; (with_reducible refine (glossatorref01_Begin.calls kj4 a0 ((rd_T38 l1 x6_1).f0.f0) t114 _ A11.out).mono ?_); rintro e w17 ⟨rfl, hb⟩; have n0_ := Aside0.mk (below_step (bl HB) hb); clear HB; have HB := n0_; clear n0_; (try clear hb); (try clear hb2); (try clear hk); (try clear hi)) | (go_at_call 32; (with_reducible refine (glossatorref01_Begin.calls kj4 a0 ((rd_T38 l1 x6_1).f0.f1) t115 _ A13.out).mono ?_); rintro e w18 ⟨rfl, hb⟩; have n0_ := Aside0.mk (below_step (bl HB) hb); clear HB; have HB := n0_; clear n0_; (try clear hb); (try clear hb2); (try clear hk); (try clear hi))); try go_wp2_with (first | (go_at_call 32; (with_reducible refine (glossatorref01_Begin.calls kj4 a0 ((rd_T38 l1 x6_1).f0.f0) t114 _ A11.out).mono ?_); rintro e w17 ⟨rfl, hb⟩; have n0_ := Aside0.mk (below_step (bl HB) hb); clear HB; have HB := n0_; clear n0_; (try clear hb); (try clear hb2); (try clear hk); (try clear hi)) | (go_at_call 32; (with_reducible refine (glossatorref01_Begin.calls kj4 a0 ((rd_T38 l1 x6_1).f0.f1) t115 _ A13.out).mono ?_); rintro e w18 ⟨rfl, hb⟩; have n0_ := Aside0.mk (below_step (bl HB) hb); clear HB; have HB := n0_; clear n0_; (try clear hb); (try clear hb2); (try clear hk); (try clear hi))))
          go_ret
          exact ⟨by first | rfl | (simp [errW_none, errW_some] <;> rfl) | (simp [*, errW_none, errW_some] <;> rfl), bl HB⟩
        ·rw [if_neg c12] at H; have c12b0 : (t114 == ((rd_T38 l1 x6_1).f0.f0)) = false := beq_eq_false_iff_ne.mpr c12; have c12b1 : (t114 != ((rd_T38 l1 x6_1).f0.f0)) = true := bne_iff_ne.mpr c12; obtain rfl := Option.some.inj H; go_wp2_with (first | (go_at_call 32; (with_reducible refine (glossatorref01_Begin.calls kj4 a0 ((rd_T38 l1 x6_1).f0.f0) t114 _ A11.out).mono ?_); rintro e w19 ⟨rfl, hb⟩; have n0_ := Aside0.mk (below_step (bl HB) hb); clear HB; have HB := n0_; clear n0_; (try clear hb); (try clear hb2); (try clear hk); (try clear hi)))
         repeat (go_quiet (first | (go_at_call 32; (with_reducible refine (glossatorref01_Begin.calls kj4 a0 ((rd_T38 l1 x6_1).f0.f0) t114 _ A11.out).mono ?_); rintro e w19 ⟨rfl, hb⟩; have n0_ := Aside0.mk (below_step (bl HB) hb); clear HB; have HB := n0_; clear n0_; (try clear hb); (try clear hb2); (try clear hk); (try clear hi))); try go_wp2_with (first | (go_at_call 32; (with_reducible refine (glossatorref01_Begin.calls kj4 a0 ((rd_T38 l1 x6_1).f0.f0) t114 _ A11.out).mono ?_); rintro e w19 ⟨rfl, hb⟩; have n0_ := Aside0.mk (below_step (bl HB) hb); clear HB; have HB := n0_; clear n0_; (try clear hb); (try clear hb2); (try clear hk); (try clear hi))))
         go_ret
         exact ⟨by first | rfl | (simp [errW_none, errW_some] <;> rfl) | (simp [*, errW_none, errW_some] <;> rfl), bl HB⟩
    ·rw [if_neg c4] at H; exact absurd H (by simp)
   ·rw [if_neg c3] at H; have c3b0 : decide (x6_1 < (l1.length : Int)) = false := decide_eq_false c3; clear c3; obtain rfl := Option.some.inj H; go_wp2
    repeat (go_quiet (fail); try go_wp2)
    go_ret
    exact ⟨by first | rfl | (simp [errW_none, errW_some] <;> rfl) | (simp [*, errW_none, errW_some] <;> rfl), bl HB⟩

/-! ### glossatorref02_end: function 35 -/
def glossatorref02_end.j0 : Nat → ByteArray → Int → Bool → Option (Int)
 | 0, _, _, _ => none
 | k + 1, x0, x1, x20 => if x20 = true then (some 0) else (if 0 ≤ x1 then (if x1 < (x0.size : Int) then (if (bt x0 x1) = 13 then (if (wrap64 (x1 + 1)) < (x0.size : Int) then (if 0 ≤ (wrap64 (x1 + 1)) then (if (bt x0 (wrap64 (x1 + 1))) = 10 then (some 2) else (some 1)) else (none)) else (some 1)) else (some 1)) else (none)) else (none))
def glossatorref02_end.f (k : Nat) (a0 : ByteArray) (a1 : Int) : Option (Int) := if a1 ≥ (a0.size : Int) then (glossatorref02_end.j0 k a0 a1 true) else (if 0 ≤ a1 then (if a1 < (a0.size : Int) then (if (bt a0 a1) = 10 then (glossatorref02_end.j0 k a0 a1 false) else (glossatorref02_end.j0 k a0 a1 ((bt a0 a1) != 13))) else (none)) else (none))
theorem glossatorref02_end.mono_l : ∀ k, (∀ y0 y1 y2, LeO (glossatorref02_end.j0 k y0 y1 y2) (glossatorref02_end.j0 (k + 1) y0 y1 y2))
 | 0 => fun _ _ _ r h => by simp [glossatorref02_end.j0] at h
 | k + 1 => by
  have ih0 := glossatorref02_end.mono_l k
  ·intro y0 y1 y2
   unfold glossatorref02_end.j0
   repeat' first
   | (with_reducible exact ih0 _ _ _)
   | (with_reducible exact LeO.refl _)
   | (with_reducible exact LeO.none _)
   | (with_reducible refine LeO.ite ?_ ?_)
   | (with_reducible refine LeO.bind ?_ (fun _ => ?_))
   | exact ih0 _ _ _
   | exact LeO.none _
   | refine LeO.ite ?_ ?_
   | refine LeO.bind ?_ (fun _ => ?_)
theorem glossatorref02_end.mono : ∀ a0 a1 k, LeO (glossatorref02_end.f k a0 a1) (glossatorref02_end.f (k + 1) a0 a1) := by
 intro a0 a1 k
 have ih0 := glossatorref02_end.mono_l k
 unfold glossatorref02_end.f
 repeat' first
   | (with_reducible exact ih0 _ _ _)
   | (with_reducible exact LeO.refl _)
   | (with_reducible exact LeO.none _)
   | (with_reducible refine LeO.ite ?_ ?_)
   | (with_reducible refine LeO.bind ?_ (fun _ => ?_))
   | exact ih0 _ _ _
   | exact LeO.none _
   | refine LeO.ite ?_ ?_
   | refine LeO.bind ?_ (fun _ => ?_)
set_option maxHeartbeats 8000000 in
set_option maxRecDepth 100000 in
theorem glossatorref02_end.calls (k : Nat) (a0 : ByteArray) (a1 : Int) (r : Int) (w : World) (h : glossatorref02_end.f k a0 a1 = some r) :
  Calls Tryd.prog 35 #[.string a0, .int .i64 a1] w fun e w' => e = .returned (.int .i64 r) ∧ Drawn0 w w' := by
 have H : (if a1 ≥ (a0.size : Int) then (glossatorref02_end.j0 k a0 a1 true) else (if 0 ≤ a1 then (if a1 < (a0.size : Int) then (if (bt a0 a1) = 10 then (glossatorref02_end.j0 k a0 a1 false) else (glossatorref02_end.j0 k a0 a1 ((bt a0 a1) != 13))) else (none)) else (none))) = some r := h
 clear h; have HC3 := Aside0.mk H; clear H; go_enter Tryd.func35, Tryd.ntmps35
 go_upto_region 1 with (fail)
 go_cut [20] (fun v20 wc => ∃ (kq : Nat) (x20_2 : Bool), v20 = .bool x20_2 ∧ Aside0 (glossatorref02_end.j0 kq a0 a1 x20_2 = some r) ∧ Aside0 (kq ≤ k) ∧ Drawn0 w wc)
 case first =>
  have H := HC3.out
  clear HC3; by_cases c4 : a1 ≥ (a0.size : Int)
  ·rw [if_pos c4] at H; have c4b0 : decide ((a0.size : Int) ≤ a1) = true := decide_eq_true c4; clear c4; (first | rw [c4b0] | rw [c4b1] | (simp only [i64_w, i32_w]; rw [c4b0]) | skip)
   have H' := Aside0.mk H; clear H; go_wp2
   go_meet
   case rel => exact ⟨_, (true), (by first | rfl | (simp; done) | (simp [*]; done) | (simp; exact xEmpty_ne _) | (simp [*]; exact xEmpty_ne _)), H', ⟨by first | omega | exact Nat.le_refl _⟩, by repeat (first | exact Drawn0.refl _ | apply Drawn0.step)⟩
  ·rw [if_neg c4] at H; have c4b0 : decide ((a0.size : Int) ≤ a1) = false := decide_eq_false c4; clear c4; (first | rw [c4b0] | rw [c4b1] | (simp only [i64_w, i32_w]; rw [c4b0]) | skip)
   by_cases c5 : 0 ≤ a1
   ·rw [if_pos c5] at H; have c5b0 : decide (0 ≤ a1) = true := decide_eq_true c5; clear c5; by_cases c6 : a1 < (a0.size : Int)
    ·rw [if_pos c6] at H; have c6b0 : decide (a1 < (a0.size : Int)) = true := decide_eq_true c6; clear c6; by_cases c8 : (bt a0 a1) = 10
     ·rw [if_pos c8] at H; have c8b0 : ((bt a0 a1) == 10) = true := beq_iff_eq.mpr c8
      have c8b1 : ((bt a0 a1) != 10) = false := bne_eq_false_iff_eq.mpr c8
      clear c8; have H' := Aside0.mk H; clear H; have p7 : 0 ≤ (a1 : Int) := of_decide_eq_true (by first | (with_reducible assumption) | assumption)
      have q7 : a1 < (a0.size : Int) := of_decide_eq_true (by first | (with_reducible assumption) | assumption)
      have hx7 := bt_at a0 a1
      replace p7 := eq_true p7; replace q7 := eq_true q7; go_wp2
      go_meet
      case rel => exact ⟨_, (false), (by first | rfl | (simp; done) | (simp [*]; done) | (simp; exact xEmpty_ne _) | (simp [*]; exact xEmpty_ne _)), H', ⟨by first | omega | exact Nat.le_refl _⟩, by repeat (first | exact Drawn0.refl _ | apply Drawn0.step)⟩
     ·rw [if_neg c8] at H; have c8b0 : ((bt a0 a1) == 10) = false := beq_eq_false_iff_ne.mpr c8; have c8b1 : ((bt a0 a1) != 10) = true := bne_iff_ne.mpr c8; have H' := Aside0.mk H; clear H; have p7 : 0 ≤ (a1 : Int) := of_decide_eq_true (by first | (with_reducible assumption) | assumption)
      have q7 : a1 < (a0.size : Int) := of_decide_eq_true (by first | (with_reducible assumption) | assumption)
      have hx7 := bt_at a0 a1
      replace p7 := eq_true p7; replace q7 := eq_true q7; have p9 : 0 ≤ (a1 : Int) := of_decide_eq_true (by first | (with_reducible assumption) | assumption)
      have q9 : a1 < (a0.size : Int) := of_decide_eq_true (by first | (with_reducible assumption) | assumption)
      have hx9 := bt_at a0 a1
      replace p9 := eq_true p9; replace q9 := eq_true q9; go_wp2
      go_meet
      case rel => exact ⟨_, (((bt a0 a1) != 13)), (by first | rfl | (simp; done) | (simp [*]; done) | (simp; exact xEmpty_ne _) | (simp [*]; exact xEmpty_ne _)), H', ⟨by first | omega | exact Nat.le_refl _⟩, by repeat (first | exact Drawn0.refl _ | apply Drawn0.step)⟩
    ·rw [if_neg c6] at H; exact absurd H (by simp)
   ·rw [if_neg c5] at H; exact absurd H (by simp)
 case rest =>
  clear HC3; (try clear p2); (try clear c3); (try clear c4); (try clear c4b0); (try clear c5); (try clear c5b0); (try clear c6); (try clear c6b0); (try clear p7); (try clear q7); (try clear hx7); (try clear c8); (try clear c8b0); (try clear c8b1); (try clear p9); (try clear q9); (try clear hx9); (try clear p7); (try clear p9); (try clear q7); (try clear q9); obtain ⟨kq, x20_2, rfl, HA, HJ2, ⟨mc2, rfl⟩⟩ := hcut
  cases kq with
  | zero => exact absurd HA.out (by simp [glossatorref02_end.j0])
  | succ kj2 =>
   have H := HA.out
   clear HA; simp only [glossatorref02_end.j0] at H
   by_cases c10 : x20_2 = true
   ·subst c10; have H1 : (some 0) = some r := by rw [if_pos rfl] at H; exact H
    clear H; have H := H1
    clear H1; obtain rfl := Option.some.inj H; go_wp2
    go_ret
    exact ⟨by first | rfl | (simp; done) | (simp [*]; done) | (simp; exact xEmpty_ne _) | (simp [*]; exact xEmpty_ne _), by repeat (first | exact Drawn0.refl _ | apply Drawn0.step)⟩
   ·replace c10 := Bool.eq_false_iff.mpr c10
    subst c10; have H1 : (if 0 ≤ a1 then (if a1 < (a0.size : Int) then (if (bt a0 a1) = 13 then (if (wrap64 (a1 + 1)) < (a0.size : Int) then (if 0 ≤ (wrap64 (a1 + 1)) then (if (bt a0 (wrap64 (a1 + 1))) = 10 then (some 2) else (some 1)) else (none)) else (some 1)) else (some 1)) else (none)) else (none)) = some r := by rw [if_neg (show ¬ (false = true) by decide)] at H; exact H
    clear H; have H := H1
    clear H1; by_cases c11 : 0 ≤ a1
    ·rw [if_pos c11] at H; have c11b0 : decide (0 ≤ a1) = true := decide_eq_true c11; clear c11; by_cases c12 : a1 < (a0.size : Int)
     ·rw [if_pos c12] at H; have c12b0 : decide (a1 < (a0.size : Int)) = true := decide_eq_true c12; clear c12; by_cases c14 : (bt a0 a1) = 13
      ·rw [if_pos c14] at H; have c14b0 : ((bt a0 a1) == 13) = true := beq_iff_eq.mpr c14
       have c14b1 : ((bt a0 a1) != 13) = false := bne_eq_false_iff_eq.mpr c14
       clear c14; by_cases c15 : (wrap64 (a1 + 1)) < (a0.size : Int)
       ·rw [if_pos c15] at H; have c15b0 : decide ((wrap64 (a1 + 1)) < (a0.size : Int)) = true := decide_eq_true c15; clear c15; obtain ⟨ji16, hji16⟩ : ∃ j_ : Int, (wrap64 (a1 + 1)) = j_ := ⟨_, rfl⟩
        replace H : (if 0 ≤ (ji16) then (if (bt a0 (ji16)) = 10 then (some 2) else (some 1)) else (none)) = some r := by first | (rw [hji16] at H; exact H) | (simp only [hji16] at H ⊢; exact H)
        (try rw [hji16] at c15b0)
        have hji16w : (IntKind.i64.wrap (a1 + 1)) = ji16 := (i64_w _).trans hji16
        by_cases c17 : 0 ≤ (ji16)
        ·rw [if_pos c17] at H; have c17b0 : decide (0 ≤ (ji16)) = true := decide_eq_true c17; clear c17; by_cases c19 : (bt a0 (ji16)) = 10
         ·rw [if_pos c19] at H; have c19b0 : ((bt a0 (ji16)) == 10) = true := beq_iff_eq.mpr c19
          have c19b1 : ((bt a0 (ji16)) != 10) = false := bne_eq_false_iff_eq.mpr c19
          clear c19; obtain rfl := Option.some.inj H; have p13 : 0 ≤ (a1 : Int) := of_decide_eq_true (by first | (with_reducible assumption) | assumption)
          have q13 : a1 < (a0.size : Int) := of_decide_eq_true (by first | (with_reducible assumption) | assumption)
          have hx13 := bt_at a0 a1
          replace p13 := eq_true p13; replace q13 := eq_true q13; have p18 : 0 ≤ ((ji16) : Int) := of_decide_eq_true (by first | (with_reducible assumption) | assumption)
          have q18 : (ji16) < (a0.size : Int) := of_decide_eq_true (by first | (with_reducible assumption) | assumption)
          have hx18 := bt_at a0 (ji16)
          replace p18 := eq_true p18; replace q18 := eq_true q18; go_wp2
          go_ret
          exact ⟨by first | rfl | (simp; done) | (simp only [← hji16] <;> (first | rfl | simp)) | (simp [*]; done), by repeat (first | exact Drawn0.refl _ | apply Drawn0.step)⟩
         ·rw [if_neg c19] at H; have c19b0 : ((bt a0 (ji16)) == 10) = false := beq_eq_false_iff_ne.mpr c19; have c19b1 : ((bt a0 (ji16)) != 10) = true := bne_iff_ne.mpr c19; obtain rfl := Option.some.inj H; have p13 : 0 ≤ (a1 : Int) := of_decide_eq_true (by first | (with_reducible assumption) | assumption)
          have q13 : a1 < (a0.size : Int) := of_decide_eq_true (by first | (with_reducible assumption) | assumption)
          have hx13 := bt_at a0 a1
          replace p13 := eq_true p13; replace q13 := eq_true q13; have p18 : 0 ≤ ((ji16) : Int) := of_decide_eq_true (by first | (with_reducible assumption) | assumption)
          have q18 : (ji16) < (a0.size : Int) := of_decide_eq_true (by first | (with_reducible assumption) | assumption)
          have hx18 := bt_at a0 (ji16)
          replace p18 := eq_true p18; replace q18 := eq_true q18; go_wp2
          go_ret
          exact ⟨by first | rfl | (simp; done) | (simp only [← hji16] <;> (first | rfl | simp)) | (simp [*]; done), by repeat (first | exact Drawn0.refl _ | apply Drawn0.step)⟩
        ·rw [if_neg c17] at H; exact absurd H (by simp)
       ·rw [if_neg c15] at H; have c15b0 : decide ((wrap64 (a1 + 1)) < (a0.size : Int)) = false := decide_eq_false c15; clear c15; obtain rfl := Option.some.inj H; have p13 : 0 ≤ (a1 : Int) := of_decide_eq_true (by first | (with_reducible assumption) | assumption)
        have q13 : a1 < (a0.size : Int) := of_decide_eq_true (by first | (with_reducible assumption) | assumption)
        have hx13 := bt_at a0 a1
        replace p13 := eq_true p13; replace q13 := eq_true q13; go_wp2
        go_ret
        exact ⟨by first | rfl | (simp; done) | (simp [*]; done) | (simp; exact xEmpty_ne _) | (simp [*]; exact xEmpty_ne _), by repeat (first | exact Drawn0.refl _ | apply Drawn0.step)⟩
      ·rw [if_neg c14] at H; have c14b0 : ((bt a0 a1) == 13) = false := beq_eq_false_iff_ne.mpr c14; have c14b1 : ((bt a0 a1) != 13) = true := bne_iff_ne.mpr c14; obtain rfl := Option.some.inj H; have p13 : 0 ≤ (a1 : Int) := of_decide_eq_true (by first | (with_reducible assumption) | assumption)
       have q13 : a1 < (a0.size : Int) := of_decide_eq_true (by first | (with_reducible assumption) | assumption)
       have hx13 := bt_at a0 a1
       replace p13 := eq_true p13; replace q13 := eq_true q13; go_wp2
       go_ret
       exact ⟨by first | rfl | (simp; done) | (simp [*]; done) | (simp; exact xEmpty_ne _) | (simp [*]; exact xEmpty_ne _), by repeat (first | exact Drawn0.refl _ | apply Drawn0.step)⟩
     ·rw [if_neg c12] at H; exact absurd H (by simp)
    ·rw [if_neg c11] at H; exact absurd H (by simp)

/-! ### glossatorref02_Starts: function 33 -/
def glossatorref02_Starts.l0 : Nat → ByteArray → List Int → Int → Option (List Int)
 | 0, _, _, _ => none
 | k + 1, x0, x3, x4 => if x4 < (x0.size : Int) then ((glossatorref02_end.f k x0 x4).bind fun t119 => (if t119 > 0 then (if x3.length < 17592186044416 then (glossatorref02_Starts.l0 k x0 (x3 ++ [wrap64 (x4 + t119)]) (wrap64 (x4 + t119))) else (none)) else (glossatorref02_Starts.l0 k x0 x3 (wrap64 (x4 + 1))))) else (some x3)
def glossatorref02_Starts.f (k : Nat) (a0 : ByteArray) : Option (List Int) := glossatorref02_Starts.l0 k a0 (([0] : List Int)) 0
theorem glossatorref02_Starts.mono_l : ∀ k, (∀ y0 y1 y2, LeO (glossatorref02_Starts.l0 k y0 y1 y2) (glossatorref02_Starts.l0 (k + 1) y0 y1 y2))
 | 0 => fun _ _ _ r h => by simp [glossatorref02_Starts.l0] at h
 | k + 1 => by
  have ih0 := glossatorref02_Starts.mono_l k
  ·intro y0 y1 y2
   unfold glossatorref02_Starts.l0
   repeat' first
   | (with_reducible exact ih0 _ _ _)
   | (with_reducible exact glossatorref02_end.mono _ _ _)
   | (with_reducible exact LeO.refl _)
   | (with_reducible exact LeO.none _)
   | (with_reducible refine LeO.ite ?_ ?_)
   | (with_reducible refine LeO.bind ?_ (fun _ => ?_))
   | exact ih0 _ _ _
   | exact glossatorref02_end.mono _ _ _
   | exact LeO.none _
   | refine LeO.ite ?_ ?_
   | refine LeO.bind ?_ (fun _ => ?_)
theorem glossatorref02_Starts.mono : ∀ a0 k, LeO (glossatorref02_Starts.f k a0) (glossatorref02_Starts.f (k + 1) a0) := by
 intro a0 k
 have ih0 := glossatorref02_Starts.mono_l k
 unfold glossatorref02_Starts.f
 repeat' first
   | (with_reducible exact ih0 _ _ _)
   | (with_reducible exact glossatorref02_end.mono _ _ _)
   | (with_reducible exact LeO.refl _)
   | (with_reducible exact LeO.none _)
   | (with_reducible refine LeO.ite ?_ ?_)
   | (with_reducible refine LeO.bind ?_ (fun _ => ?_))
   | exact ih0 _ _ _
   | exact glossatorref02_end.mono _ _ _
   | exact LeO.none _
   | refine LeO.ite ?_ ?_
   | refine LeO.bind ?_ (fun _ => ?_)
set_option maxHeartbeats 8000000 in
set_option maxRecDepth 100000 in
theorem glossatorref02_Starts.calls (k : Nat) (a0 : ByteArray) (r : List Int) (w : World) (h : glossatorref02_Starts.f k a0 = some r) :
  Calls Tryd.prog 33 #[.string a0] w fun e w' => ∃ v0_ : Value, e = .returned (v0_) ∧ Kd.R (Kd.int .i64) 3 w' w.heap.size (fun _ => True) v0_ r ∧ Below w.heap.size w w' := by
 have HB := Aside0.mk (Below.refl w.heap.size w)
 have H : (glossatorref02_Starts.l0 k a0 (([0] : List Int)) 0) = some r := h
 clear h; obtain ⟨y116, hy116⟩ : ∃ y_ : List Int, y_ = (([0] : List Int)) := ⟨_, rfl⟩
 replace H : (glossatorref02_Starts.l0 k a0 y116 0) = some r := by first | (rw [hy116]; with_reducible exact H) | (have H2_ := (Option.bind_some _ _).symm.trans H; rw [hy116]; with_reducible exact H2_) | (have H2_ := (Option.bind_some _ _).symm.trans H; with_reducible exact H2_) | with_reducible exact H | (rw [hy116]; exact H) | exact H
 have Ny116 := Aside0.mk hy116; clear hy116; have H' := Aside0.mk H; clear H; go_enter Tryd.func33, Tryd.ntmps33
 go_wp2_with (first | ((with_reducible refine gate_dst (N := 6) rfl ?_); refine Kd.R_lit (Kd.int .i64) _ 3 ?hg (N := 6) ?hd (xs := ([0] : List Int)) (inner := [.int .i64 0]) (ok := fun _ => True) (okp := fun _ => True) ?hr ?hp (fun _ hk => hk) trivial (Below.refl _ _) (Nat.le_refl _) (by simp) ?_; (case hd => rfl); (case hg => rfl); (case hr => first | (go_simp; done) | (go_simp; rfl)); (case hp => exact (Reps.one (show Kd.M (Kd.int .i64) _ _ _ 0 [.int .i64 0] from rfl) (Reps.none _ _))); intro v117 w2 ho3 hb hg_ hnew_; clear hg_ hnew_; (first | rw [← Ny116.out] at ho3 | (simp only [Int.reduceToNat] at ho3; rw [← Ny116.out] at ho3)); have n0_ := Aside0.mk (Kd.R_lower ho3 (below_size (bl HB))); have n1_ := Aside0.mk (below_step (bl HB) hb); clear HB; have HO118 := n0_; have HB := n1_; clear n0_ n1_; clear hb ho3))
 go_loopg [3, 4] k (fun kq v3 v4 w' => ∃ (x3_1 : List Int) (x4_1 : Int), v4 = .int .i64 x4_1 ∧ Aside0 (glossatorref02_Starts.l0 kq a0 x3_1 x4_1 = some r) ∧ Aside0 (kq ≤ k) ∧ Aside0 (Kd.R (Kd.int .i64) 3 w' w.heap.size (fun _ => True) v3 x3_1) ∧ Aside0 (Below w.heap.size w w'))
 case atStart => exact ⟨(y116), (0), (by first | rfl | (simp; done) | (simp [*]; done) | (simp; exact xEmpty_ne _) | (simp [*]; exact xEmpty_ne _)), H', ⟨Nat.le_refl _⟩, ⟨rl HO118⟩, ⟨bl HB⟩⟩
 case round =>
  clear H'; (try clear p2); (try clear c3); (try clear HO_3); (try clear HB)
  obtain ⟨x3_1, x4_1, rfl, HA, HK1, HO_3, HB⟩ := hrel
  cases gk with
  | zero => exact absurd HA.out (by simp [glossatorref02_Starts.l0])
  | succ k1 =>
   have H := HA.out
   clear HA; simp only [glossatorref02_Starts.l0] at H
   by_cases c4 : x4_1 < (a0.size : Int)
   ·rw [if_pos c4] at H; have c4b0 : decide (x4_1 < (a0.size : Int)) = true := decide_eq_true c4; clear c4; replace H := Option.bind_eq_some_iff.mp H
    obtain ⟨t119, A50, H⟩ := H
    replace H : (if t119 > 0 then (if x3_1.length < 17592186044416 then (glossatorref02_Starts.l0 k1 a0 (x3_1 ++ [wrap64 (x4_1 + t119)]) (wrap64 (x4_1 + t119))) else (none)) else (glossatorref02_Starts.l0 k1 a0 x3_1 (wrap64 (x4_1 + 1)))) = some r := H
    have A5 := Aside0.mk A50; clear A50; by_cases c6 : t119 > 0
    ·rw [if_pos c6] at H; have c6b0 : decide (0 < t119) = true := decide_eq_true c6; clear c6; by_cases c7 : x3_1.length < 17592186044416
     ·rw [if_pos c7] at H; have LMc7 := Aside0.mk c7; clear c7; obtain ⟨y120, hy120⟩ : ∃ y_ : List Int, y_ = (x3_1 ++ [wrap64 (x4_1 + t119)]) := ⟨_, rfl⟩
      replace H : (glossatorref02_Starts.l0 k1 a0 y120 (wrap64 (x4_1 + t119))) = some r := by first | (rw [hy120]; with_reducible exact H) | (have H2_ := (Option.bind_some _ _).symm.trans H; rw [hy120]; with_reducible exact H2_) | (have H2_ := (Option.bind_some _ _).symm.trans H; with_reducible exact H2_) | with_reducible exact H | (rw [hy120]; exact H) | exact H
      have Ny120 := Aside0.mk hy120; clear hy120; have H' := Aside0.mk H; clear H; go_wp2_with (first | ((with_reducible refine gate_callee (f := 35) rfl ?_); refine goesL_ (some 13) rfl rfl Tryd.func35 (by kernel_rfl) rfl #[.string a0, .int .i64 x4_1] rfl (by (try simp only [List.map_toArray, List.map_cons, List.map_nil]); first | done | rfl | (simp only [List.length_drop, List.length_take]; rfl)) ?_; (with_reducible refine (glossatorref02_end.calls k1 a0 x4_1 t119 _ A5.out).mono ?_); rintro e w' ⟨rfl, ⟨nd, rfl⟩⟩; refine ⟨_, rfl, ?_⟩) | ((with_reducible refine gate_builtin (b := .append) (xs := #[.tmp 19, .tmp 21]) rfl ?_); at_builtin; refine Kd.R_append (Kd.int .i64) (w0 := w) w.heap.size rfl (.tmp 19) (.tmp 21) 23 3 (.int .i64 0) 8 rfl Tryd.underlying23 info3 rfl (by decide) (by omega) u3 x3_1 (wrap64 (x4_1 + t119)) [.int .i64 (wrap64 (x4_1 + t119))] (fun _ => True) (fun _ => False) rfl rfl ?aP (fun _ hk => hk.elim) ?aF ?aO ?aB ?aS ?aL ?_; (case aP => exact rfl); (case aB => exact (bl HB)); (case aF => exact (fun _ _ => trivial)); (case aO => exact (rl HO_3)); (case aS => exact (below_size (bl HB))); (case aL => have := LMc7.out; omega); intro v121 w8 ho hb hg hat; rw [← Ny120.out] at ho; have n0_ := Aside0.mk (hb); have n1_ := Aside0.mk (ho); clear HB; clear HO_3; have HB := n0_; have HO122 := n1_; clear n0_ n1_; clear ho hb hg hat))
      go_roundg k1
      case measure => have := HK1.out; omega
      case rel => exact ⟨(y120), (wrap64 (x4_1 + t119)), (by first | rfl | (simp; done) | (simp [*]; done) | (simp; exact xEmpty_ne _) | (simp [*]; exact xEmpty_ne _)), H', ⟨by have := HK1.out; omega⟩, ⟨rl HO122⟩, ⟨bl HB⟩⟩
     ·rw [if_neg c7] at H; exact absurd H (by simp)
    ·rw [if_neg c6] at H; have c6b0 : decide (0 < t119) = false := decide_eq_false c6; clear c6; have H' := Aside0.mk H; clear H; go_wp2_with (first | ((with_reducible refine gate_callee (f := 35) rfl ?_); refine goesL_ (some 13) rfl rfl Tryd.func35 (by kernel_rfl) rfl #[.string a0, .int .i64 x4_1] rfl (by (try simp only [List.map_toArray, List.map_cons, List.map_nil]); first | done | rfl | (simp only [List.length_drop, List.length_take]; rfl)) ?_; (with_reducible refine (glossatorref02_end.calls k1 a0 x4_1 t119 _ A5.out).mono ?_); rintro e w' ⟨rfl, ⟨nd, rfl⟩⟩; refine ⟨_, rfl, ?_⟩))
     go_roundg k1
     case measure => have := HK1.out; omega
     case rel => exact ⟨(x3_1), (wrap64 (x4_1 + 1)), (by first | rfl | (simp; done) | (simp [*]; done) | (simp; exact xEmpty_ne _) | (simp [*]; exact xEmpty_ne _)), H', ⟨by have := HK1.out; omega⟩, ⟨rl HO_3⟩, ⟨bl HB⟩⟩
   ·rw [if_neg c4] at H; have c4b0 : decide (x4_1 < (a0.size : Int)) = false := decide_eq_false c4; clear c4; obtain rfl := Option.some.inj H; go_wp2
    go_ret
    exact ⟨_, by first | rfl | (simp [errW_none, errW_some] <;> rfl) | (simp [*, errW_none, errW_some] <;> rfl), rl HO_3, bl HB⟩

/-! ### glossatorref02_Many: function 20 -/
def glossatorref02_Many.f (k : Nat) (a0 : ByteArray) : Option (Int) := (glossatorref02_Starts.f k a0).bind fun t123 => (some (t123.length : Int))
theorem glossatorref02_Many.mono : ∀ a0 k, LeO (glossatorref02_Many.f k a0) (glossatorref02_Many.f (k + 1) a0) := by
 intro a0 k
 unfold glossatorref02_Many.f
 repeat' first
   | (with_reducible exact glossatorref02_Starts.mono _ _)
   | (with_reducible exact LeO.refl _)
   | (with_reducible exact LeO.none _)
   | (with_reducible refine LeO.ite ?_ ?_)
   | (with_reducible refine LeO.bind ?_ (fun _ => ?_))
   | exact glossatorref02_Starts.mono _ _
   | exact LeO.none _
   | refine LeO.ite ?_ ?_
   | refine LeO.bind ?_ (fun _ => ?_)
set_option maxHeartbeats 8000000 in
set_option maxRecDepth 100000 in
theorem glossatorref02_Many.calls (k : Nat) (a0 : ByteArray) (r : Int) (w : World) (h : glossatorref02_Many.f k a0 = some r) :
  Calls Tryd.prog 20 #[.string a0] w fun e w' => e = .returned (.int .i64 r) ∧ Below w.heap.size w w' := by
 have HB := Aside0.mk (Below.refl w.heap.size w)
 have H : ((glossatorref02_Starts.f k a0).bind fun t123 => (some (t123.length : Int))) = some r := h
 clear h; replace H := Option.bind_eq_some_iff.mp H
 obtain ⟨t123, A20, H⟩ := H
 replace H : (some (t123.length : Int)) = some r := H
 have A2 := Aside0.mk A20; clear A20; obtain rfl := Option.some.inj H; go_enter Tryd.func20, Tryd.ntmps20
 go_wp2_with (first | ((with_reducible refine gate_callee (f := 33) rfl ?_); refine goesL_ (some 4) rfl rfl Tryd.func33 (by kernel_rfl) rfl #[.string a0] rfl (by (try simp only [List.map_toArray, List.map_cons, List.map_nil]); first | done | rfl | (simp only [List.length_drop, List.length_take]; rfl)) ?_; (with_reducible refine (glossatorref02_Starts.calls k a0 t123 _ A2.out).mono ?_); rintro e w3 ⟨v124, rfl, ho0, hb⟩; refine ⟨_, rfl, ?_⟩; have n0_ := Aside0.mk (Kd.R_lower ho0 (below_size (bl HB))); have n1_ := Aside0.mk (below_step (bl HB) hb); clear HB; have HO125 := n0_; have HB := n1_; clear n0_ n1_; (try clear hb); (try clear hb2); (try clear hk); (try clear hi); (try clear ho0); obtain ⟨Ao4, co4, eo4⟩ := Kd.R_slice HO125.out; subst eo4))
 go_ret
 exact ⟨by first | rfl | (simp [errW_none, errW_some] <;> rfl) | (simp [*, errW_none, errW_some] <;> rfl), bl HB⟩

end Go.Proofs.YtbjhmknahldhaaaDoor.Q
