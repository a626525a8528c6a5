-- Written by this repo's wip/xprint.py (over the kit's print.py) out of the translation. Not trusted: Lean checks it.
import Derived.Test.YtfjanedappcolaaDoorQ0
import Derived.Test.YtfjanedappcolaaDoorQ6
import Derived.Test.YtfjanedappcolaaDoorQ7
import Derived.Test.YtfjanedappcolaaDoorQ13
namespace Go.Proofs.YtfjanedappcolaaDoor.Q
open Go.RowKit Go.Proofs.YtfjanedappcolaaDoorW.PrintWords Go.Proofs.YtfjanedappcolaaDoorW.PrintLast Go.Proofs.YtfjanedappcolaaDoorW.PrintMore
attribute [local go_sem] max2_int min2_int max_two min_two max_three min_three max_four min_four   -- for this text's walks alone
set_option linter.unusedVariables false
set_option linter.unusedSimpArgs false

/-! ### glossatorref02_Offset: function 25 -/
mutual
def glossatorref02_Offset.j0 : Nat → ByteArray → Int → Int → Option (Int)
  | 0, _, _, _ => none
  | k + 1, x0, x229000, x229001 => if x229001 < 0 then (glossatorref02_Offset.j1 k x0 x229000 0) else (glossatorref02_Offset.j1 k x0 x229000 x229001)
def glossatorref02_Offset.j1 : Nat → ByteArray → Int → Int → Option (Int)
  | 0, _, _, _ => none
  | k + 1, x0, x229000, x229001 => (glossatorref02_Line.f k x0 x229000).bind fun bt229 => (if bt229.2.2 = true then (if 0 ≤ bt229.1 then (if bt229.1 ≤ bt229.2.1 then (if bt229.2.1 ≤ (x0.size : Int) then ((glossatorref01_Cut.f k (x0.extract (bt229.1 : Int).toNat (bt229.2.1 : Int).toNat) x229001).bind fun t233 => (some (wrap64 (bt229.1 + t233)))) else (none)) else (none)) else (none)) else (some (x0.size : Int)))
end
def glossatorref02_Offset.f (k : Nat) (a0 : ByteArray) (a1_0 : Int) (a1_1 : Int) : Option (Int) := if a1_0 < 0 then (glossatorref02_Offset.j0 k a0 0 a1_1) else (glossatorref02_Offset.j0 k a0 a1_0 a1_1)
theorem glossatorref02_Offset.mono_l : ∀ k, (∀ y0 y1 y2, LeO (glossatorref02_Offset.j0 k y0 y1 y2) (glossatorref02_Offset.j0 (k + 1) y0 y1 y2)) ∧ (∀ y0 y1 y2, LeO (glossatorref02_Offset.j1 k y0 y1 y2) (glossatorref02_Offset.j1 (k + 1) y0 y1 y2))
  | 0 => ⟨fun _ _ _ r h => by simp [glossatorref02_Offset.j0] at h, fun _ _ _ r h => by simp [glossatorref02_Offset.j1] at h⟩
  | k + 1 => by
    obtain ⟨ih0, ih1⟩ := glossatorref02_Offset.mono_l k
    refine ⟨?_, ?_⟩
    · intro y0 y1 y2
      unfold glossatorref02_Offset.j0
      repeat' first
      | (with_reducible exact ih0 _ _ _)
      | (with_reducible exact ih1 _ _ _)
      | (with_reducible exact glossatorref01_Cut.mono _ _ _)
      | (with_reducible exact glossatorref02_Line.mono _ _ _)
      | (with_reducible exact LeO.refl _)
      | (with_reducible exact LeO.none _)
      | (with_reducible refine LeO.ite ?_ ?_)
      | (with_reducible refine LeO.bind ?_ (fun _ => ?_))
      | exact ih0 _ _ _
      | exact ih1 _ _ _
      | exact glossatorref01_Cut.mono _ _ _
      | exact glossatorref02_Line.mono _ _ _
      | exact LeO.none _
      | refine LeO.ite ?_ ?_
      | refine LeO.bind ?_ (fun _ => ?_)
    · intro y0 y1 y2
      unfold glossatorref02_Offset.j1
      repeat' first
      | (with_reducible exact ih0 _ _ _)
      | (with_reducible exact ih1 _ _ _)
      | (with_reducible exact glossatorref01_Cut.mono _ _ _)
      | (with_reducible exact glossatorref02_Line.mono _ _ _)
      | (with_reducible exact LeO.refl _)
      | (with_reducible exact LeO.none _)
      | (with_reducible refine LeO.ite ?_ ?_)
      | (with_reducible refine LeO.bind ?_ (fun _ => ?_))
      | exact ih0 _ _ _
      | exact ih1 _ _ _
      | exact glossatorref01_Cut.mono _ _ _
      | exact glossatorref02_Line.mono _ _ _
      | exact LeO.none _
      | refine LeO.ite ?_ ?_
      | refine LeO.bind ?_ (fun _ => ?_)
theorem glossatorref02_Offset.mono : ∀ a0 a1 a2 k, LeO (glossatorref02_Offset.f k a0 a1 a2) (glossatorref02_Offset.f (k + 1) a0 a1 a2) := by
  intro a0 a1 a2 k
  obtain ⟨ih0, ih1⟩ := glossatorref02_Offset.mono_l k
  unfold glossatorref02_Offset.f
  repeat' first
      | (with_reducible exact ih0 _ _ _)
      | (with_reducible exact ih1 _ _ _)
      | (with_reducible exact glossatorref01_Cut.mono _ _ _)
      | (with_reducible exact glossatorref02_Line.mono _ _ _)
      | (with_reducible exact LeO.refl _)
      | (with_reducible exact LeO.none _)
      | (with_reducible refine LeO.ite ?_ ?_)
      | (with_reducible refine LeO.bind ?_ (fun _ => ?_))
      | exact ih0 _ _ _
      | exact ih1 _ _ _
      | exact glossatorref01_Cut.mono _ _ _
      | exact glossatorref02_Line.mono _ _ _
      | exact LeO.none _
      | refine LeO.ite ?_ ?_
      | refine LeO.bind ?_ (fun _ => ?_)
def glossatorref02_Offset.T8 : Bool × List (List Nat × List Nat) := (true, [([], []), ([0], [0]), ([], []), ([], []), ([3], [3]), ([], []), ([5], [5]), ([2, 4, 6], [2, 4, 6]), ([], []), ([8], [8]), ([7, 9], [7, 9]), ([1, 10], [1, 10]), ([11, 10, 0, 1, 2, 3, 4, 5, 6, 7, 8, 9, 10, 11], [11])])
def glossatorref02_Offset.B8 : List Nat := [0, 1, 0, 0, 8, 0, 32, 124, 0, 256, 1020, 2047, 4095]
theorem glossatorref02_Offset.tab8 : rtab .any (opsOf Tryd.f25 8) = glossatorref02_Offset.T8 := by kernel_rfl
theorem glossatorref02_Offset.bits8 : waitsOk glossatorref02_Offset.T8.2 glossatorref02_Offset.B8 = true := by kernel_rfl
set_option maxHeartbeats 8000000 in
set_option maxRecDepth 100000 in
theorem glossatorref02_Offset.calls (k : Nat) (a0 : ByteArray) (a1_0 : Int) (a1_1 : Int) (r : Int) (w : World) (h : glossatorref02_Offset.f k a0 a1_0 a1_1 = some r) :
    Calls Tryd.prog 25 #[.string a0, .agg #[.int .i64 a1_0, .int .i64 a1_1]] w fun e w' => e = .returned (.int .i64 r) ∧ Below w.heap.size w w' := by
  have hu34 := Tryd.underlying34
  have hu40 := Tryd.underlying40
  have HB := Aside0.mk (Below.refl w.heap.size w)
  have H : (if a1_0 < 0 then (glossatorref02_Offset.j0 k a0 0 a1_1) else (glossatorref02_Offset.j0 k a0 a1_0 a1_1)) = some r := h
  clear h
  have HC3 := Aside0.mk H
  clear H
  go_enter Tryd.func25, Tryd.ntmps25
  go_upto_if 9 with (first | ((with_reducible refine gate_dst (N := 3) rfl ?_); refine box_event ?hg (N := 3) ?hd (cs := #[.int .i64 a1_0, .int .i64 a1_1]) (t := 34) ?hr ?_; (case hd => rfl); (case hg => rfl); (case hr => first | (go_simp; done) | (go_simp; rfl)); intro gb228 hg w4 hbox hb; have n0_ := Aside0.mk (below_step (by repeat (first | (with_reducible first | exact HB.out | apply below_alloc | apply pw_below_drewN | apply below_drew1) | exact HB.out)) hb); have n1_ := Aside0.mk (hbox); have n2_ := Aside0.mk ((by rw [hg]; exact (below_size (by repeat (first | (with_reducible first | exact HB.out | apply below_alloc | apply pw_below_drewN | apply below_drew1) | exact HB.out))) : w.heap.size ≤ gb228)); have n3_ := Aside0.mk ((by rw [hg]; exact (below_size (by repeat (first | (with_reducible first | exact HB.out | apply below_alloc | apply pw_below_drewN | apply below_drew1) | exact HB.out))) : w.heap.size ≤ gb228)); clear HB; have HB := n0_; have BK228 := n1_; have GW228 := n2_; have GE228 := n3_; clear n0_ n1_ n2_ n3_; clear hb hbox hg; have hcz5_0 : w4.cell? ⟨gb228, 0, none⟩ = some (.int .i64 a1_0) := (blk_cell BK228.out 0).trans rfl; have hcz5_1 : w4.cell? ⟨gb228, 1, none⟩ = some (.int .i64 a1_1) := (blk_cell BK228.out 1).trans rfl; have hfz5_0 := blk_frozen BK228.out 0; have hfz5_1 := blk_frozen BK228.out 1))
  (try simp only [Act.put, List.setIfInBounds_toArray, List.set_cons_zero, List.set_cons_succ])
  go_cut [] (fun wc => ∃ (kq : Nat) (x229000_2 : Int), Aside0 (glossatorref02_Offset.j0 kq a0 x229000_2 a1_1 = some r) ∧ Aside0 (kq ≤ k) ∧ Aside0 (wc.heap[gb228]? = some (.cells #[.int .i64 x229000_2, .int .i64 a1_1] 34 (0, 0))) ∧ Aside0 (Below w.heap.size w wc))
  case first =>
    have H := HC3.out
    clear HC3
    by_cases c6 : a1_0 < 0
    · rw [if_pos c6] at H
      have c6b0 : decide (a1_0 < 0) = true := decide_eq_true c6
      clear c6
      (first | rw [c6b0] | (simp only [i64_w, i32_w]; rw [c6b0]) | skip)
      have H' := Aside0.mk H
      clear H
      have hcz7_0 : w4.cell? ⟨gb228, 0, none⟩ = some (.int .i64 a1_0) := (blk_cell BK228.out 0).trans rfl
      have hcz7_1 : w4.cell? ⟨gb228, 1, none⟩ = some (.int .i64 a1_1) := (blk_cell BK228.out 1).trans rfl
      have hfz7_0 := blk_frozen BK228.out 0
      have hfz7_1 := blk_frozen BK228.out 1
      go_wp2
      go_meet
      case rel => exact ⟨_, (0), H', ⟨by first | omega | exact Nat.le_refl _⟩, ⟨by (with_reducible repeat (first | refine blk_drewN ?_ _ | refine blk_drew ?_ | refine blk_alloc ?_ _)); refine blk_put (cs := #[.int .i64 a1_0, .int .i64 a1_1]) ?_ 0 _ rfl; (with_reducible repeat (first | refine blk_drewN ?_ _ | refine blk_drew ?_ | refine blk_alloc ?_ _)); exact BK228.out⟩, ⟨by repeat (first | (with_reducible first | exact HB.out | apply below_alloc | apply pw_below_drewN | apply below_drew1 | refine below_set ?_ GE228.out) | exact HB.out)⟩⟩
    · rw [if_neg c6] at H
      have c6b0 : decide (a1_0 < 0) = false := decide_eq_false c6
      clear c6
      (first | rw [c6b0] | (simp only [i64_w, i32_w]; rw [c6b0]) | skip)
      have H' := Aside0.mk H
      clear H
      go_wp2
      go_meet
      case rel => exact ⟨_, (a1_0), H', ⟨by first | omega | exact Nat.le_refl _⟩, ⟨by (with_reducible repeat (first | refine blk_drewN ?_ _ | refine blk_drew ?_ | refine blk_alloc ?_ _)); exact BK228.out⟩, ⟨by repeat (first | (with_reducible first | exact HB.out | apply below_alloc | apply pw_below_drewN | apply below_drew1 | refine below_set ?_ GE228.out) | exact HB.out)⟩⟩
  case rest =>
    clear HC3
    try clear c2
    try clear p2
    try clear c6
    try clear c6b0
    try clear hcz5_0
    try clear hcz5_1
    try clear hcz7_0
    try clear hcz7_1
    try clear hfz5_0
    try clear hfz5_1
    try clear hfz7_0
    try clear hfz7_1
    obtain ⟨kq, x229000_2, HA, HJ2, BK228, HB⟩ := hcut
    cases kq with
    | zero => exact absurd HA.out (by simp [glossatorref02_Offset.j0])
    | succ kj2 =>
      have H := HA.out
      clear HA
      simp only [glossatorref02_Offset.j0] at H
      have HC8 := Aside0.mk H
      clear H
      have hcz9_0 : wc.cell? ⟨gb228, 0, none⟩ = some (.int .i64 x229000_2) := (blk_cell BK228.out 0).trans rfl
      have hcz9_1 : wc.cell? ⟨gb228, 1, none⟩ = some (.int .i64 a1_1) := (blk_cell BK228.out 1).trans rfl
      have hfz9_0 := blk_frozen BK228.out 0
      have hfz9_1 := blk_frozen BK228.out 1
      go_upto_if 13 with (fail)
      go_cut [] (fun wc => ∃ (kq : Nat) (x229001_7 : Int), Aside0 (glossatorref02_Offset.j1 kq a0 x229000_2 x229001_7 = some r) ∧ Aside0 (kq ≤ kj2) ∧ Aside0 (wc.heap[gb228]? = some (.cells #[.int .i64 x229000_2, .int .i64 x229001_7] 34 (0, 0))) ∧ Aside0 (Below w.heap.size w wc))
      case first =>
        have H := HC8.out
        clear HC8
        by_cases c10 : a1_1 < 0
        · rw [if_pos c10] at H
          have c10b0 : decide (a1_1 < 0) = true := decide_eq_true c10
          clear c10
          (first | rw [c10b0] | (simp only [i64_w, i32_w]; rw [c10b0]) | skip)
          have H' := Aside0.mk H
          clear H
          have hcz11_0 : wc.cell? ⟨gb228, 0, none⟩ = some (.int .i64 x229000_2) := (blk_cell BK228.out 0).trans rfl
          have hcz11_1 : wc.cell? ⟨gb228, 1, none⟩ = some (.int .i64 a1_1) := (blk_cell BK228.out 1).trans rfl
          have hfz11_0 := blk_frozen BK228.out 0
          have hfz11_1 := blk_frozen BK228.out 1
          go_wp2
          go_meet
          case rel => exact ⟨_, (0), H', ⟨by have := HJ2.out; first | omega | exact Nat.le_refl _⟩, ⟨by (with_reducible repeat (first | refine blk_drewN ?_ _ | refine blk_drew ?_ | refine blk_alloc ?_ _)); refine blk_put (cs := #[.int .i64 x229000_2, .int .i64 a1_1]) ?_ 1 _ rfl; (with_reducible repeat (first | refine blk_drewN ?_ _ | refine blk_drew ?_ | refine blk_alloc ?_ _)); exact BK228.out⟩, ⟨by repeat (first | (with_reducible first | exact HB.out | apply below_alloc | apply pw_below_drewN | apply below_drew1 | refine below_set ?_ GE228.out) | exact HB.out)⟩⟩
        · rw [if_neg c10] at H
          have c10b0 : decide (a1_1 < 0) = false := decide_eq_false c10
          clear c10
          (first | rw [c10b0] | (simp only [i64_w, i32_w]; rw [c10b0]) | skip)
          have H' := Aside0.mk H
          clear H
          go_wp2
          go_meet
          case rel => exact ⟨_, (a1_1), H', ⟨by have := HJ2.out; first | omega | exact Nat.le_refl _⟩, ⟨by (with_reducible repeat (first | refine blk_drewN ?_ _ | refine blk_drew ?_ | refine blk_alloc ?_ _)); exact BK228.out⟩, ⟨by repeat (first | (with_reducible first | exact HB.out | apply below_alloc | apply pw_below_drewN | apply below_drew1 | refine below_set ?_ GE228.out) | exact HB.out)⟩⟩
      case rest =>
        clear HC8
        try clear c1
        try clear c2
        try clear p2
        try clear c6
        try clear c6b0
        try clear c10
        try clear c10b0
        try clear hcz11_0
        try clear hcz11_1
        try clear hcz5_0
        try clear hcz5_1
        try clear hcz7_0
        try clear hcz7_1
        try clear hcz9_0
        try clear hcz9_1
        try clear hfz11_0
        try clear hfz11_1
        try clear hfz5_0
        try clear hfz5_1
        try clear hfz7_0
        try clear hfz7_1
        try clear hfz9_0
        try clear hfz9_1
        try clear p2
        obtain ⟨kq, x229001_7, HA, HJ7, BK228, HB⟩ := hcut
        cases kq with
        | zero => exact absurd HA.out (by simp [glossatorref02_Offset.j1])
        | succ kj7 =>
          have H := HA.out
          clear HA
          simp only [glossatorref02_Offset.j1] at H
          replace H := Option.bind_eq_some_iff.mp H
          obtain ⟨⟨t229, t230, t231⟩, A120, H⟩ := H
          replace H : (if t231 = true then (if 0 ≤ t229 then (if t229 ≤ t230 then (if t230 ≤ (a0.size : Int) then ((glossatorref01_Cut.f kj7 (a0.extract (t229 : Int).toNat (t230 : Int).toNat) x229001_7).bind fun t233 => (some (wrap64 (t229 + t233)))) else (none)) else (none)) else (none)) else (some (a0.size : Int))) = some r := H
          have A12 := Aside0.mk A120
          clear A120
          by_cases c13 : t231 = true
          · subst c13
            have H1 : (if 0 ≤ t229 then (if t229 ≤ t230 then (if t230 ≤ (a0.size : Int) then ((glossatorref01_Cut.f kj7 (a0.extract (t229 : Int).toNat (t230 : Int).toNat) x229001_7).bind fun t233 => (some (wrap64 (t229 + t233)))) else (none)) else (none)) else (none)) = some r := by rw [if_pos rfl] at H; exact H
            clear H
            have H := H1
            clear H1
            by_cases c14 : 0 ≤ t229
            · rw [if_pos c14] at H
              have c14b0 := eq_true c14
              have c14b1 : decide (0 ≤ t229) = true := decide_eq_true c14
              clear c14
              by_cases c15 : t229 ≤ t230
              · rw [if_pos c15] at H
                have c15b0 := eq_true c15
                have c15b1 : decide (t229 ≤ t230) = true := decide_eq_true c15
                clear c15
                by_cases c16 : t230 ≤ (a0.size : Int)
                · rw [if_pos c16] at H
                  have c16b0 := eq_true c16
                  have c16b1 : decide (t230 ≤ (a0.size : Int)) = true := decide_eq_true c16
                  clear c16
                  replace H := Option.bind_eq_some_iff.mp H
                  obtain ⟨t233, A170, H⟩ := H
                  replace H : (some (wrap64 (t229 + t233))) = some r := H
                  have A17 := Aside0.mk A170
                  clear A170
                  obtain rfl := Option.some.inj H
                  have hcz18_0 : wc.cell? ⟨gb228, 0, none⟩ = some (.int .i64 x229000_2) := (blk_cell BK228.out 0).trans rfl
                  have hcz18_1 : wc.cell? ⟨gb228, 1, none⟩ = some (.int .i64 x229001_7) := (blk_cell BK228.out 1).trans rfl
                  have hfz18_0 := blk_frozen BK228.out 0
                  have hfz18_1 := blk_frozen BK228.out 1
                  try go_wp2_with (first | ((with_reducible refine gate_callee (f := 40) rfl ?_); refine goesL_ (some 19) rfl rfl Tryd.func40 (by kernel_rfl) rfl #[.string a0, .int .i64 x229000_2] rfl (by (try simp only [List.map_toArray, List.map_cons, List.map_nil]); first | done | rfl | (simp only [List.length_drop, List.length_take]; rfl)) ?_; (with_reducible refine (glossatorref02_Line.calls kj7 a0 x229000_2 t229 t230 true _ A12.out).mono ?_); rintro e w19 ⟨rfl, hb⟩; refine ⟨_, rfl, ?_⟩; have n0_ := Aside0.mk (blk_below (g := gb228) (o := .cells #[.int .i64 x229000_2, .int .i64 x229001_7] 34 (0, 0)) (by (with_reducible repeat (first | refine blk_drewN ?_ _ | refine blk_drew ?_ | refine blk_alloc ?_ _)); exact BK228.out) hb); have n1_ := Aside0.mk (below_step (by repeat (first | (with_reducible first | exact HB.out | apply below_alloc | apply pw_below_drewN | apply below_drew1 | refine below_set ?_ GE228.out) | exact HB.out)) hb); clear BK228; clear HB; have BK228 := n0_; have HB := n1_; clear n0_ n1_; (try clear hb); (try clear hb2); (try clear hk); (try clear hi)) | ((with_reducible refine gate_dst (N := 5) rfl ?_); refine box_event ?hg (N := 5) ?hd (cs := #[.int .i64 0, .int .i64 0]) (t := 40) ?hr ?_; (case hd => rfl); (case hg => rfl); (case hr => first | (go_simp; done) | (go_simp; rfl)); intro gb232 hg w20 hbox hb; have n0_ := Aside0.mk (blk_below (g := gb228) (o := .cells #[.int .i64 x229000_2, .int .i64 x229001_7] 34 (0, 0)) (by (with_reducible repeat (first | refine blk_drewN ?_ _ | refine blk_drew ?_ | refine blk_alloc ?_ _)); exact BK228.out) hb); have n1_ := Aside0.mk (below_step (by repeat (first | (with_reducible first | exact HB.out | apply below_alloc | apply pw_below_drewN | apply below_drew1 | refine below_set ?_ GE228.out) | exact HB.out)) hb); have n2_ := Aside0.mk (hbox); have n3_ := Aside0.mk ((by rw [hg]; exact (below_size (by repeat (first | (with_reducible first | exact HB.out | apply below_alloc | apply pw_below_drewN | apply below_drew1 | refine below_set ?_ GE228.out) | exact HB.out))) : w.heap.size ≤ gb232)); have n4_ := Aside0.mk ((by rw [hg]; exact (below_size (by repeat (first | (with_reducible first | exact HB.out | apply below_alloc | apply pw_below_drewN | apply below_drew1 | refine below_set ?_ GE228.out) | exact HB.out))) : w.heap.size ≤ gb232)); have n5_ := Aside0.mk ((by rw [hg]; exact Nat.ne_of_lt (blk_lt (g := gb228) (o := .cells #[.int .i64 x229000_2, .int .i64 x229001_7] 34 (0, 0)) (by (with_reducible repeat (first | refine blk_drewN ?_ _ | refine blk_drew ?_ | refine blk_alloc ?_ _)); exact BK228.out)) : gb228 ≠ gb232)); have n6_ := Aside0.mk ((by rw [hg]; exact Nat.ne_of_gt (blk_lt (g := gb228) (o := .cells #[.int .i64 x229000_2, .int .i64 x229001_7] 34 (0, 0)) (by (with_reducible repeat (first | refine blk_drewN ?_ _ | refine blk_drew ?_ | refine blk_alloc ?_ _)); exact BK228.out)) : gb232 ≠ gb228)); clear BK228; clear HB; have BK228 := n0_; have HB := n1_; have BK232 := n2_; have GW232 := n3_; have GE232 := n4_; have NB228_232 := n5_; have NB232_228 := n6_; clear n0_ n1_ n2_ n3_ n4_ n5_ n6_; clear hb hbox hg; have hnb21 := NB232_228.out; have hnc21 := NB228_232.out; have hcz22_0 : w20.cell? ⟨gb232, 0, none⟩ = some (.int .i64 0) := (blk_cell BK232.out 0).trans rfl; have hcz22_1 : w20.cell? ⟨gb232, 1, none⟩ = some (.int .i64 0) := (blk_cell BK232.out 1).trans rfl; have hfz22_0 := blk_frozen BK232.out 0; have hfz22_1 := blk_frozen BK232.out 1))
                  have n0_ : Aside0 (((w20.setCell ⟨gb232, 0, none⟩ (.int .i64 t229)).setCell ⟨gb232, 1, none⟩ (.int .i64 t230)).heap[gb228]? = some (.cells #[.int .i64 x229000_2, .int .i64 x229001_7] 34 (0, 0))) := ⟨by (with_reducible repeat (first | refine blk_drewN ?_ _ | refine blk_drew ?_ | refine blk_alloc ?_ _)); refine blk_far ?_ NB228_232.out _; (with_reducible repeat (first | refine blk_drewN ?_ _ | refine blk_drew ?_ | refine blk_alloc ?_ _)); refine blk_far ?_ NB228_232.out _; (with_reducible repeat (first | refine blk_drewN ?_ _ | refine blk_drew ?_ | refine blk_alloc ?_ _)); exact BK228.out⟩
                  have n1_ : Aside0 (((w20.setCell ⟨gb232, 0, none⟩ (.int .i64 t229)).setCell ⟨gb232, 1, none⟩ (.int .i64 t230)).heap[gb232]? = some (.cells #[.int .i64 t229, .int .i64 t230] 40 (0, 0))) := ⟨by (with_reducible repeat (first | refine blk_drewN ?_ _ | refine blk_drew ?_ | refine blk_alloc ?_ _)); refine blk_put (cs := #[.int .i64 t229, .int .i64 0]) ?_ 1 _ rfl; (with_reducible repeat (first | refine blk_drewN ?_ _ | refine blk_drew ?_ | refine blk_alloc ?_ _)); refine blk_put (cs := #[.int .i64 0, .int .i64 0]) ?_ 0 _ rfl; (with_reducible repeat (first | refine blk_drewN ?_ _ | refine blk_drew ?_ | refine blk_alloc ?_ _)); exact BK232.out⟩
                  have n2_ : Aside0 (Below w.heap.size w ((w20.setCell ⟨gb232, 0, none⟩ (.int .i64 t229)).setCell ⟨gb232, 1, none⟩ (.int .i64 t230))) := ⟨by repeat (first | (with_reducible first | exact HB.out | apply below_alloc | apply pw_below_drewN | apply below_drew1 | refine below_set ?_ GE228.out | refine below_set ?_ GE232.out) | exact HB.out)⟩
                  (try clear BK228)
                  (try clear BK232)
                  (try clear HB)
                  generalize ((w20.setCell ⟨gb232, 0, none⟩ (.int .i64 t229)).setCell ⟨gb232, 1, none⟩ (.int .i64 t230)) = w23 at n0_ n1_ n2_ ⊢
                  have BK228 := n0_
                  have BK232 := n1_
                  have HB := n2_
                  clear n0_ n1_ n2_
                  have n0_ := Aside0.mk (blk_drew BK228.out)
                  have n1_ := Aside0.mk (blk_drew BK232.out)
                  have n2_ := Aside0.mk (below_drew1 HB.out)
                  clear BK228
                  clear BK232
                  clear HB
                  have BK228 := n0_
                  have BK232 := n1_
                  have HB := n2_
                  clear n0_ n1_ n2_
                  refine start_ (n := 13) (S := fun w' => w'.cell? ⟨gb232, 0, none⟩ = some (.int .i64 t229) ∧ w'.cell? ⟨gb232, 1, none⟩ = some (.int .i64 t230) ∧ w'.cell? ⟨gb228, 0, none⟩ = some (.int .i64 x229000_2) ∧ w'.cell? ⟨gb228, 1, none⟩ = some (.int .i64 x229001_7)) (ds := []) #[false, false, false, false, false, false, false, false, false, false, false, false, false] (by kernel_rfl) rfl rfl ⟨(blk_cell BK232.out 0).trans rfl, (blk_cell BK232.out 1).trans rfl, (blk_cell BK228.out 0).trans rfl, (blk_cell BK228.out 1).trans rfl⟩ (fun hHeld => ?_); refine with_tabW glossatorref02_Offset.tab8 glossatorref02_Offset.bits8 (fun HT_ HW_ => ?_)
                  generalize w23.drew = w24 at BK228 BK232 HB hHeld ⊢
                  refine pure_ (i := 0) (N := some 26) (v := ?_) (a' := ?_) #[true, false, false, false, false, false, false, false, false, false, false, false, false] rfl rfl (any_of HT_.out (by kernel_rfl)) (fun _ _ _ h => h) (Or.inl ⟨by rfl, ?_⟩) ?_ ?_
                  rotate_left
                  · intro w'
                    go_simp
                    with_reducible rfl
                  rotate_left
                  · simp only [Act.put, List.setIfInBounds_toArray, List.set_cons_zero, List.set_cons_succ, i64_w, i32_w]
                    rfl
                  refine pure_ (i := 2) (N := some 28) (v := ?_) (a' := ?_) #[true, false, true, false, false, false, false, false, false, false, false, false, false] rfl rfl (any_of HT_.out (by kernel_rfl)) (fun _ _ _ h => h) (Or.inl ⟨by rfl, ?_⟩) ?_ ?_
                  rotate_left
                  · intro w'
                    go_simp
                    with_reducible rfl
                  rotate_left
                  · simp only [Act.put, List.setIfInBounds_toArray, List.set_cons_zero, List.set_cons_succ, i64_w, i32_w]
                    rfl
                  refine pure_ (i := 3) (N := some 29) (v := ?_) (a' := ?_) #[true, false, true, true, false, false, false, false, false, false, false, false, false] rfl rfl (any_of HT_.out (by kernel_rfl)) (fun _ _ _ h => h) (Or.inl ⟨by rfl, ?_⟩) ?_ ?_
                  rotate_left
                  · intro w'
                    go_simp
                    with_reducible rfl
                  rotate_left
                  · simp only [Act.put, List.setIfInBounds_toArray, List.set_cons_zero, List.set_cons_succ, i64_w, i32_w]
                    rfl
                  refine pure_ (i := 5) (N := some 31) (v := ?_) (a' := ?_) #[true, false, true, true, false, true, false, false, false, false, false, false, false] rfl rfl (any_of HT_.out (by kernel_rfl)) (fun _ _ _ h => h) (Or.inl ⟨by rfl, ?_⟩) ?_ ?_
                  rotate_left
                  · intro w'
                    go_simp
                    with_reducible rfl
                  rotate_left
                  · simp only [Act.put, List.setIfInBounds_toArray, List.set_cons_zero, List.set_cons_succ, i64_w, i32_w]
                    rfl
                  refine pure_ (i := 8) (N := some 34) (v := ?_) (a' := ?_) #[true, false, true, true, false, true, false, false, true, false, false, false, false] rfl rfl (any_of HT_.out (by kernel_rfl)) (fun _ _ _ h => h) (Or.inl ⟨by rfl, ?_⟩) ?_ ?_
                  rotate_left
                  · intro w'
                    go_simp
                    with_reducible rfl
                  rotate_left
                  · simp only [Act.put, List.setIfInBounds_toArray, List.set_cons_zero, List.set_cons_succ, i64_w, i32_w]
                    rfl
                  refine take_ (i := 1) (N := some 27) (v := ?_) (a' := ?_) #[true, true, true, true, false, true, false, false, true, false, false, false, false] rfl rfl (take_ofW HT_.out HW_.out (by kernel_rfl)) (fun _ _ _ h => h) (Or.inl ⟨by rfl, ?_⟩) hHeld ?_ ?_
                  rotate_left
                  · rintro w' ⟨s0, s1, s2, s3⟩
                    go_simp
                    with_reducible rfl
                  rotate_left
                  · simp only [Act.put, List.setIfInBounds_toArray, List.set_cons_zero, List.set_cons_succ, i64_w, i32_w]
                    rfl
                  refine take_ (i := 4) (N := some 30) (v := ?_) (a' := ?_) #[true, true, true, true, true, true, false, false, true, false, false, false, false] rfl rfl (take_ofW HT_.out HW_.out (by kernel_rfl)) (fun _ _ _ h => h) (Or.inl ⟨by rfl, ?_⟩) hHeld ?_ ?_
                  rotate_left
                  · rintro w' ⟨s0, s1, s2, s3⟩
                    go_simp
                    with_reducible rfl
                  rotate_left
                  · simp only [Act.put, List.setIfInBounds_toArray, List.set_cons_zero, List.set_cons_succ, i64_w, i32_w]
                    rfl
                  refine take_ (i := 6) (N := some 32) (v := ?_) (a' := ?_) #[true, true, true, true, true, true, true, false, true, false, false, false, false] rfl rfl (take_ofW HT_.out HW_.out (by kernel_rfl)) (fun _ _ _ h => h) (Or.inl ⟨by rfl, ?_⟩) hHeld ?_ ?_
                  rotate_left
                  · rintro w' ⟨s0, s1, s2, s3⟩
                    go_simp
                    with_reducible rfl
                  rotate_left
                  · simp only [Act.put, List.setIfInBounds_toArray, List.set_cons_zero, List.set_cons_succ, i64_w, i32_w]
                    rfl
                  refine pure_ (i := 7) (N := some 33) (v := ?_) (a' := ?_) #[true, true, true, true, true, true, true, true, true, false, false, false, false] rfl rfl (any_of HT_.out (by kernel_rfl)) (fun _ _ _ h => h) (Or.inl ⟨by rfl, ?_⟩) ?_ ?_
                  rotate_left
                  · intro w'
                    go_simp
                    with_reducible rfl
                  rotate_left
                  · simp only [Act.put, List.setIfInBounds_toArray, List.set_cons_zero, List.set_cons_succ, i64_w, i32_w]
                    rfl
                  refine take_ (i := 9) (N := some 35) (v := ?_) (a' := ?_) #[true, true, true, true, true, true, true, true, true, true, false, false, false] rfl rfl (take_ofW HT_.out HW_.out (by kernel_rfl)) (fun _ _ _ h => h) (Or.inl ⟨by rfl, ?_⟩) hHeld ?_ ?_
                  rotate_left
                  · rintro w' ⟨s0, s1, s2, s3⟩
                    go_simp
                    with_reducible rfl
                  rotate_left
                  · simp only [Act.put, List.setIfInBounds_toArray, List.set_cons_zero, List.set_cons_succ, i64_w, i32_w]
                    rfl
                  refine one_ (i := 10) (N := some 36) #[true, true, true, true, true, true, true, true, true, true, true, false, false] rfl rfl (one_of HT_.out (by kernel_rfl)) (by decide) (fun K hK => ?_)
                  refine goes_ Tryd.func41 (by kernel_rfl) rfl #[.string (a0.extract (t229 : Int).toNat (t230 : Int).toNat), .int .i64 x229001_7] (by rfl) rfl rfl (by (try simp only [List.map_toArray, List.map_cons, List.map_nil]); first | done | rfl | (simp only [List.length_drop, List.length_take]; rfl)) ?_
                  with_reducible refine (glossatorref01_Cut.calls kj7 (a0.extract (t229 : Int).toNat (t230 : Int).toNat) x229001_7 t233 _ A17.out).mono ?_
                  rintro e w25 ⟨rfl, hb⟩
                  refine ⟨_, rfl, ?_⟩
                  have n0_ := Aside0.mk (blk_below (g := gb228) (o := .cells #[.int .i64 x229000_2, .int .i64 x229001_7] 34 (0, 0)) (by (with_reducible repeat (first | refine blk_drewN ?_ _ | refine blk_drew ?_ | refine blk_alloc ?_ _)); exact BK228.out) hb)
                  have n1_ := Aside0.mk (blk_below (g := gb232) (o := .cells #[.int .i64 t229, .int .i64 t230] 40 (0, 0)) (by (with_reducible repeat (first | refine blk_drewN ?_ _ | refine blk_drew ?_ | refine blk_alloc ?_ _)); exact BK232.out) hb)
                  have n2_ := Aside0.mk (below_step (by repeat (first | (with_reducible first | exact HB.out | apply below_alloc | apply pw_below_drewN | apply below_drew1 | refine below_set ?_ GE228.out | refine below_set ?_ GE232.out) | exact HB.out)) hb)
                  clear BK228
                  clear BK232
                  clear HB
                  have BK228 := n0_
                  have BK232 := n1_
                  have HB := n2_
                  clear n0_ n1_ n2_
                  (try clear hb)
                  (try clear hb2)
                  (try clear hk)
                  (try clear hi)
                  refine hK.out _ _ ⟨(blk_cell BK232.out 0).trans rfl, (blk_cell BK232.out 1).trans rfl, (blk_cell BK228.out 0).trans rfl, (blk_cell BK228.out 1).trans rfl⟩ (fun hHeld => ?_)
                  clear hK K
                  refine norm_ (a' := ?_) ?_ ?_
                  rotate_left
                  · show Act.put _ (some 36) _ = _
                    simp only [Act.put, List.setIfInBounds_toArray, List.set_cons_zero, List.set_cons_succ, i64_w, i32_w]
                    rfl
                  refine pure_ (i := 11) (N := some 37) (v := ?_) (a' := ?_) #[true, true, true, true, true, true, true, true, true, true, true, true, false] rfl rfl (any_of HT_.out (by kernel_rfl)) (fun _ _ _ h => h) (Or.inl ⟨by rfl, ?_⟩) ?_ ?_
                  rotate_left
                  · intro w'
                    go_simp
                    with_reducible rfl
                  rotate_left
                  · simp only [Act.put, List.setIfInBounds_toArray, List.set_cons_zero, List.set_cons_succ, i64_w, i32_w]
                    rfl
                  refine pure_ (i := 12) (N := some 4) (v := ?_) (a' := ?_) #[true, true, true, true, true, true, true, true, true, true, true, true, true] rfl rfl (any_of HT_.out (by kernel_rfl)) (fun _ _ _ h => h) (Or.inl ⟨by rfl, ?_⟩) ?_ ?_
                  rotate_left
                  · intro w'
                    go_simp
                    with_reducible rfl
                  rotate_left
                  · simp only [Act.put, List.setIfInBounds_toArray, List.set_cons_zero, List.set_cons_succ, i64_w, i32_w]
                    rfl
                  refine done_ (done_of HT_.out (by kernel_rfl)) ?_
                  try go_wp2
                  go_ret
                  exact ⟨by first | rfl | (simp [errW_none, errW_some] <;> rfl) | (simp [*, errW_none, errW_some] <;> rfl), by repeat (first | (with_reducible first | exact HB.out | apply below_alloc | apply pw_below_drewN | apply below_drew1 | refine below_set ?_ GE228.out | refine below_set ?_ GE232.out) | exact HB.out)⟩
                · rw [if_neg c16] at H
                  exact absurd H (by simp)
              · rw [if_neg c15] at H
                exact absurd H (by simp)
            · rw [if_neg c14] at H
              exact absurd H (by simp)
          · replace c13 := Bool.eq_false_iff.mpr c13
            subst c13
            have H1 : (some (a0.size : Int)) = some r := by rw [if_neg (show ¬ (false = true) by decide)] at H; exact H
            clear H
            have H := H1
            clear H1
            obtain rfl := Option.some.inj H
            have hcz26_0 : wc.cell? ⟨gb228, 0, none⟩ = some (.int .i64 x229000_2) := (blk_cell BK228.out 0).trans rfl
            have hcz26_1 : wc.cell? ⟨gb228, 1, none⟩ = some (.int .i64 x229001_7) := (blk_cell BK228.out 1).trans rfl
            have hfz26_0 := blk_frozen BK228.out 0
            have hfz26_1 := blk_frozen BK228.out 1
            go_wp2_with (first | ((with_reducible refine gate_callee (f := 40) rfl ?_); refine goesL_ (some 19) rfl rfl Tryd.func40 (by kernel_rfl) rfl #[.string a0, .int .i64 x229000_2] rfl (by (try simp only [List.map_toArray, List.map_cons, List.map_nil]); first | done | rfl | (simp only [List.length_drop, List.length_take]; rfl)) ?_; (with_reducible refine (glossatorref02_Line.calls kj7 a0 x229000_2 t229 t230 false _ A12.out).mono ?_); rintro e w27 ⟨rfl, hb⟩; refine ⟨_, rfl, ?_⟩; have n0_ := Aside0.mk (blk_below (g := gb228) (o := .cells #[.int .i64 x229000_2, .int .i64 x229001_7] 34 (0, 0)) (by (with_reducible repeat (first | refine blk_drewN ?_ _ | refine blk_drew ?_ | refine blk_alloc ?_ _)); exact BK228.out) hb); have n1_ := Aside0.mk (below_step (by repeat (first | (with_reducible first | exact HB.out | apply below_alloc | apply pw_below_drewN | apply below_drew1 | refine below_set ?_ GE228.out) | exact HB.out)) hb); clear BK228; clear HB; have BK228 := n0_; have HB := n1_; clear n0_ n1_; (try clear hb); (try clear hb2); (try clear hk); (try clear hi)) | ((with_reducible refine gate_dst (N := 5) rfl ?_); refine box_event ?hg (N := 5) ?hd (cs := #[.int .i64 0, .int .i64 0]) (t := 40) ?hr ?_; (case hd => rfl); (case hg => rfl); (case hr => first | (go_simp; done) | (go_simp; rfl)); intro gb232 hg w28 hbox hb; have n0_ := Aside0.mk (blk_below (g := gb228) (o := .cells #[.int .i64 x229000_2, .int .i64 x229001_7] 34 (0, 0)) (by (with_reducible repeat (first | refine blk_drewN ?_ _ | refine blk_drew ?_ | refine blk_alloc ?_ _)); exact BK228.out) hb); have n1_ := Aside0.mk (below_step (by repeat (first | (with_reducible first | exact HB.out | apply below_alloc | apply pw_below_drewN | apply below_drew1 | refine below_set ?_ GE228.out) | exact HB.out)) hb); have n2_ := Aside0.mk (hbox); have n3_ := Aside0.mk ((by rw [hg]; exact (below_size (by repeat (first | (with_reducible first | exact HB.out | apply below_alloc | apply pw_below_drewN | apply below_drew1 | refine below_set ?_ GE228.out) | exact HB.out))) : w.heap.size ≤ gb232)); have n4_ := Aside0.mk ((by rw [hg]; exact (below_size (by repeat (first | (with_reducible first | exact HB.out | apply below_alloc | apply pw_below_drewN | apply below_drew1 | refine below_set ?_ GE228.out) | exact HB.out))) : w.heap.size ≤ gb232)); have n5_ := Aside0.mk ((by rw [hg]; exact Nat.ne_of_lt (blk_lt (g := gb228) (o := .cells #[.int .i64 x229000_2, .int .i64 x229001_7] 34 (0, 0)) (by (with_reducible repeat (first | refine blk_drewN ?_ _ | refine blk_drew ?_ | refine blk_alloc ?_ _)); exact BK228.out)) : gb228 ≠ gb232)); have n6_ := Aside0.mk ((by rw [hg]; exact Nat.ne_of_gt (blk_lt (g := gb228) (o := .cells #[.int .i64 x229000_2, .int .i64 x229001_7] 34 (0, 0)) (by (with_reducible repeat (first | refine blk_drewN ?_ _ | refine blk_drew ?_ | refine blk_alloc ?_ _)); exact BK228.out)) : gb232 ≠ gb228)); clear BK228; clear HB; have BK228 := n0_; have HB := n1_; have BK232 := n2_; have GW232 := n3_; have GE232 := n4_; have NB228_232 := n5_; have NB232_228 := n6_; clear n0_ n1_ n2_ n3_ n4_ n5_ n6_; clear hb hbox hg; have hnb29 := NB232_228.out; have hnc29 := NB228_232.out; have hcz30_0 : w28.cell? ⟨gb232, 0, none⟩ = some (.int .i64 0) := (blk_cell BK232.out 0).trans rfl; have hcz30_1 : w28.cell? ⟨gb232, 1, none⟩ = some (.int .i64 0) := (blk_cell BK232.out 1).trans rfl; have hfz30_0 := blk_frozen BK232.out 0; have hfz30_1 := blk_frozen BK232.out 1))
            go_ret
            exact ⟨by first | rfl | (simp [errW_none, errW_some] <;> rfl) | (simp [*, errW_none, errW_some] <;> rfl), by repeat (first | (with_reducible first | exact HB.out | apply below_alloc | apply pw_below_drewN | apply below_drew1 | refine below_set ?_ GE228.out | refine below_set ?_ GE232.out) | exact HB.out)⟩

/-! ### lines_Pos: function 26 (by hand) -/
attribute [local go_sem] Oper.semAt_some
def unitsOf (s : ByteArray) : Int := XUtf.units s s.size 0 0
/-- The place by lines that the last one of some lines gives. -/
def lastPos {s : ByteArray} (t : Int) (l : List (Ln s)) : Int × Int := match l.getLast? with | none => (0, 0) | some x => ((x.1.1 : Int), unitsOf (s.extract x.1.2.1 (min t (x.1.2.2 : Int)).toNat))
def posOf {s : ByteArray} (t : Int) (l : List (Ln s)) : Int × Int := lastPos t (l.takeWhile (fun x => decide ((x.1.2.1 : Int) ≤ t)))
theorem posOf_snoc {s : ByteArray} {t : Int} {l : List (Ln s)} {x : Ln s} (h : ∀ y ∈ l, ((y.1.2.1 : Int) ≤ t)) (hx : (x.1.2.1 : Int) ≤ t) : posOf t (l ++ [x]) = ((x.1.1 : Int), unitsOf (s.extract x.1.2.1 (min t (x.1.2.2 : Int)).toNat)) := by
  unfold posOf
  rw [List.takeWhile_append_of_pos (by simpa using h), List.takeWhile_cons_of_pos (by simpa using hx)]
  simp [lastPos]
theorem posOf_stop {s : ByteArray} {t : Int} {l : List (Ln s)} {x : Ln s} (h : ∀ y ∈ l, ((y.1.2.1 : Int) ≤ t)) (hx : ¬ (x.1.2.1 : Int) ≤ t) (r : List (Ln s)) : posOf t (l ++ [x] ++ r) = posOf t l := by
  unfold posOf
  rw [List.append_assoc, List.takeWhile_append_of_pos (by simpa using h), List.singleton_append, List.takeWhile_cons_of_neg (by simpa using hx), List.append_nil]
  congr 1
  have := List.takeWhile_append_of_pos (p := fun x : Ln s => decide ((x.1.2.1 : Int) ≤ t)) (l₁ := l) (l₂ := []) (by simpa using h)
  simpa using this.symm
def lines_Pos.f (k : Nat) (a0 : ByteArray) (a1 : Int) : Option (Int × Int) := if a0.size < 4294967281 then (utf_Begin.f k a0 a1).bind fun t => some (posOf t (lns a0)) else none
theorem lines_Pos.mono : ∀ a0 a1 k, LeO (lines_Pos.f k a0 a1) (lines_Pos.f (k + 1) a0 a1) := by
  intro a0 a1 k
  unfold lines_Pos.f
  exact LeO.ite (LeO.bind (utf_Begin.mono a0 a1 k) (fun _ => LeO.refl _)) (LeO.refl _)
theorem results_pos {fn : Func} {p : Tmp} (h : fn.results = #[.cell p 34]) (tmps : Array Value) (W : World) {B : Nat} {v1 v2 : Int} (hp : tmps.getD p undef = .pointer (some ⟨B, 0, none⟩))
    (h1 : Boxed2 W B 34 (.int .i64 v1) (.int .i64 v2)) : (results fn tmps).run Tryd.prog W = .ok (.agg #[.int .i64 v1, .int .i64 v2]) W := by
  have c0 := h1.cell0
  have c1 := h1.cell1
  have hp' : tmps[p]?.getD undef = .pointer (some ⟨B, 0, none⟩) := by simpa using hp
  simp [results, h, hp', asAddr]
  go_simp
theorem keeps_below {W w' : World} (hb : Below W.heap.size W w') : KeepsOthers W w' := ⟨hb.size, fun k o hk _ => (hb.block k (Array.getElem?_eq_some_iff.1 hk).1).trans hk⟩
theorem pos_leave {w W W0 : World} {D P : Nat} {tmps : Array Value} {r1 r2 : Int} (hD : W0.heap.size ≤ D) (hsz : W0.heap.size = P + 2) (hsz1 : w.heap.size + 3 ≤ P) (bR1 : Boxed2 W (w.heap.size + 1 + 1) 34 (.int .i64 0) (.int .i64 0)) (hB1 : Below w.heap.size w W) (hK : W.heap[D]? = some (.deferred (some [])))
    (ht : tmps.getD 4 undef = .pointer (some ⟨w.heap.size + 1 + 1, 0, none⟩) := by rfl) :
    bodyPostM Fence.wide 3 Tryd.prog Tryd.f26 (fun e w' => e = .returned (.agg #[.int .i64 r1, .int .i64 r2]) ∧ Below w.heap.size w w') Exit.ret { tmps := tmps, defers := [{ target := .collected D, args := #[] }] }
      ((W.setCell ⟨w.heap.size + 1 + 1, 0, none⟩ (.int .i64 r1)).setCell ⟨w.heap.size + 1 + 1, 1, none⟩ (.int .i64 r2)) := by
  have bX2 := (bR1.set0 (.int .i64 r1)).set1 (.int .i64 r2)
  have hB2 := (hB1.setCell (p := ⟨w.heap.size + 1 + 1, 0, none⟩) (by simp; omega) (.int .i64 r1)).setCell (p := ⟨w.heap.size + 1 + 1, 1, none⟩) (by simp; omega) (.int .i64 r2)
  have hK2 : ((W.setCell ⟨w.heap.size + 1 + 1, 0, none⟩ (.int .i64 r1)).setCell ⟨w.heap.size + 1 + 1, 1, none⟩ (.int .i64 r2)).heap[D]? = some (.deferred (some [])) := by
    rw [Below.heap_setCell _ _ _ _ (by simp; omega), Below.heap_setCell _ _ _ _ (by simp; omega)]; exact hK
  refine ⟨by simp, .inl ⟨_, _, rfl, run_takeDeferred hK2, ?_⟩⟩
  have bX3 := bX2.kept (grownBy_putObj' _ D (.deferred none)) (by simp; omega)
  exact ⟨_, results_pos rfl _ _ ht bX3, rfl, hB2.trans (belowK_b (w := w) (Nat.le_refl _) _ D _ _ (by omega) hK2 rfl rfl)⟩
set_option maxRecDepth 100000 in
set_option maxHeartbeats 4000000 in
theorem lines_Pos.calls (k : Nat) (a0 : ByteArray) (a1 : Int) (r1 r2 : Int) (w : World) (hG : GlobOk w) (h : lines_Pos.f k a0 a1 = some (r1, r2)) :
    Calls Tryd.prog 26 #[.string a0, .int .i64 a1] w fun e w' => e = .returned (.agg #[.int .i64 r1, .int .i64 r2]) ∧ Below w.heap.size w w' := by
  unfold lines_Pos.f at h
  split at h
  case isFalse => cases h
  rename_i hs
  cases ht : utf_Begin.f k a0 a1 with
  | none => rw [ht] at h; cases h
  | some t =>
  rw [ht] at h
  replace h : posOf t (lns a0) = (r1, r2) := Option.some.inj h
  have HH := Aside0.mk h
  clear h
  have hBg := utf_Begin.calls k a0 a1 t (((w.alloc (.cells #[.string a0] 9)).alloc (.cells #[.int .i64 a1] 3)).alloc (.cells #[.int .i64 0, .int .i64 0] 34)) (hG.below ((((Below.refl _ w).alloc (Nat.le_refl _) _).alloc (by simp) _).alloc (by simp; omega) _)) ht
  refine (callsIn_wide (n := 3)).1 ?_
  refine callsIn_of_wp_marks Tryd.func26 rfl trivial ?_ rfl
  simp only [Tryd.ntmps26, List.size_toArray, List.length_cons, List.length_nil, Nat.reduceAdd, Nat.reduceSub, Array.replicate_succ, Array.replicate_zero, List.push_toArray, List.append_toArray, List.nil_append, List.cons_append]
  have hB0 : Below w.heap.size w (((w.alloc (.cells #[.string a0] 9)).alloc (.cells #[.int .i64 a1] 3)).alloc (.cells #[.int .i64 0, .int .i64 0] 34)) := (((Below.refl _ w).alloc (Nat.le_refl _) _).alloc (by simp) _).alloc (by simp; omega) _
  have bS := ((Boxed.new w 9 (.string a0)).alloc (.cells #[.int .i64 a1] 3)).alloc (.cells #[.int .i64 0, .int .i64 0] 34)
  have bT := (Boxed.new (w.alloc (.cells #[.string a0] 9)) 3 (.int .i64 a1)).alloc (.cells #[.int .i64 0, .int .i64 0] 34)
  have bR := Boxed2.new ((w.alloc (.cells #[.string a0] 9)).alloc (.cells #[.int .i64 a1] 3)) 34 (.int .i64 0) (.int .i64 0)
  have hsz : (((w.alloc (.cells #[.string a0] 9)).alloc (.cells #[.int .i64 a1] 3)).alloc (.cells #[.int .i64 0, .int .i64 0] 34)).heap.size = w.heap.size + 3 := by simp
  simp only [World.size_alloc] at bT bR
  gi_wp2_with (refine ⟨trivial, ?_⟩; gi_at_call 19; refine (callsIn_wide.2 hBg).mono ?_; clear hBg; rintro e w1 ⟨rfl, hb1⟩; have cS := (show Boxed w1 w.heap.size 9 (.string a0) from (hb1.block _ bS.lt).trans bS).cell; have bT1 : Boxed w1 (w.heap.size + 1) 3 (.int .i64 a1) := (hb1.block _ bT.lt).trans bT; have cT := bT1.cell; have fT := bT1.frozen; have cS2 := (((show Boxed w1 w.heap.size 9 (.string a0) from (hb1.block _ bS.lt).trans bS).other (B' := w.heap.size + 1) (by omega) (.int .i64 t)).alloc (.cells #[.int .i64 0, .int .i64 0] 34)).cell)
  gi_wp2_with (refine ⟨trivial, ?_⟩; gi_at_call 42; refine (each_in _ _ _).mono ?_; rintro e w' ⟨rfl, rfl⟩)
  have bS1 : Boxed w1 w.heap.size 9 (.string a0) := (hb1.block _ bS.lt).trans bS
  have bR1 : Boxed2 w1 (w.heap.size + 1 + 1) 34 (.int .i64 0) (.int .i64 0) := (hb1.block _ bR.lt).trans bR
  have hB1 : Below w.heap.size w w1 := hB0.trans (hb1.mono (by omega))
  have hsz1 : w.heap.size + 3 ≤ w1.heap.size := by have := hb1.size; omega
  have qS := ((bS1.other (B' := w.heap.size + 1) (by omega) (.int .i64 t)).alloc (.cells #[.int .i64 0, .int .i64 0] 34)).alloc (.cells #[.string a0] 9)
  have qT := ((bT1.set (.int .i64 t)).alloc (.cells #[.int .i64 0, .int .i64 0] 34)).alloc (.cells #[.string a0] 9)
  have qR := ((bR1.other ⟨w.heap.size + 1, 0, none⟩ (.int .i64 t) (by simp)).alloc (.cells #[.int .i64 0, .int .i64 0] 34)).alloc (.cells #[.string a0] 9)
  have qP := (Boxed2.new (w1.setCell ⟨w.heap.size + 1, 0, none⟩ (.int .i64 t)) 34 (.int .i64 0) (.int .i64 0)).alloc (.cells #[.string a0] 9)
  have qE := Boxed.new ((w1.setCell ⟨w.heap.size + 1, 0, none⟩ (.int .i64 t)).alloc (.cells #[.int .i64 0, .int .i64 0] 34)) 9 (.string a0)
  have hBq : Below w.heap.size w (((w1.setCell ⟨w.heap.size + 1, 0, none⟩ (.int .i64 t)).alloc (.cells #[.int .i64 0, .int .i64 0] 34)).alloc (.cells #[.string a0] 9)) := ((hB1.setCell (p := ⟨w.heap.size + 1, 0, none⟩) (by simp) _).alloc (by simp; omega) _).alloc (by simp; omega) _
  have hsq : (w1.setCell ⟨w.heap.size + 1, 0, none⟩ (.int .i64 t)).heap.size = w1.heap.size := by simp
  simp only [World.size_alloc, hsq] at qP qE ⊢
  clear hb1 cS2 cS bT1 cT fT bS1 bR1 hB1 bS bT bR hB0 hsz
  obtain ⟨P, hP⟩ : ∃ P, w1.heap.size = P := ⟨_, rfl⟩
  obtain ⟨W0, hW0⟩ : ∃ W0, (((w1.setCell ⟨w.heap.size + 1, 0, none⟩ (.int .i64 t)).alloc (.cells #[.int .i64 0, .int .i64 0] 34)).alloc (.cells #[.string a0] 9)) = W0 := ⟨_, rfl⟩
  have hsz : W0.heap.size = P + 2 := by rw [← hW0]; simp; omega
  rw [hP] at qP qE hsz1
  rw [hW0] at qS qT qR qP qE hBq
  rw [hW0]
  rw [hP]
  clear hW0 hP
  refine wpIn_rangeFunc_ownH rfl (by decide) (gf := 51) (lb := #[.pointer (some ⟨P + 1, 0, none⟩)]) rfl trivial (enters_of Tryd.func51 (by kernel_rfl) rfl)
    (each_stops a0 hs 2 (by decide) (P + 1) _ qE) kbox_t (kbox_b (by omega)) (Below.refl _ _) (fun _ => rfl)
    (fun pre W => (((Boxed W w.heap.size 9 (.string a0) ∧ Boxed W (w.heap.size + 1) 3 (.int .i64 t)) ∧ (Boxed2 W (w.heap.size + 1 + 1) 34 (.int .i64 0) (.int .i64 0) ∧ Boxed2 W P 34 (.int .i64 (posOf t pre).1) (.int .i64 (posOf t pre).2))) ∧ Boxed W (P + 1) 9 (.string a0)) ∧ ((∀ y ∈ pre, (y.1.2.1 : Int) ≤ t) ∧ Below w.heap.size w W))
    (fun c pre W => (Boxed2 W (w.heap.size + 1 + 1) 34 (.int .i64 0) (.int .i64 0) ∧ Boxed2 W P 34 (.int .i64 (posOf t pre).1) (.int .i64 (posOf t pre).2)) ∧ ((c = .exit 0 ∧ ∃ l x, pre = l ++ [x] ∧ (∀ y ∈ l, (y.1.2.1 : Int) ≤ t) ∧ ¬ (x.1.2.1 : Int) ≤ t) ∧ Below w.heap.size w W))
    (OwnFrom.and (OwnFrom.and (OwnFrom.and (OwnFrom.and (Own.from (boxed_own _ _ _) _) (Own.from (boxed_own _ _ _) _)) (OwnFrom.and (Own.from (boxed2_own _ _ (fun _ => _) (fun _ => _)) _) (Own.from (boxed2_own _ _ (fun pre => Value.int .i64 (posOf t pre).1) (fun pre => Value.int .i64 (posOf t pre).2)) _))) (Own.from (boxed_own _ _ _) _)) (OwnFrom.and (ownFrom_pure _ _) (ownFrom_below (Nat.le_refl _) (by omega))))
    (fun c => OwnFrom.and (OwnFrom.and (Own.from (boxed2_own _ _ (fun _ => _) (fun _ => _)) _) (Own.from (boxed2_own _ _ (fun pre => Value.int .i64 (posOf t pre).1) (fun pre => Value.int .i64 (posOf t pre).2)) _)) (OwnFrom.and (ownFrom_pure _ _) (ownFrom_below (Nat.le_refl _) (by omega))))
    ⟨⟨⟨⟨qS, qT⟩, qR, qP⟩, qE⟩, by simp, hBq⟩
    (fun x a' W => ∃ Bx, P + 1 < Bx ∧ Boxed2 W Bx 40 (.int .i64 x.1.2.1) (.int .i64 x.1.2.2) ∧ a' = { tmps := #[.string a0, .int .i64 a1, .pointer (some ⟨w.heap.size, 0, none⟩), .pointer (some ⟨w.heap.size + 1, 0, none⟩), .pointer (some ⟨w.heap.size + 1 + 1, 0, none⟩), .pointer (some ⟨P, 0, none⟩), .int .i64 x.1.1, .pointer (some ⟨Bx, 0, none⟩), .string a0, .int .i64 a1, .int .i64 t, .string a0, .func (.func 51) #[] #[.pointer (some ⟨P + 1, 0, none⟩)], .int .i64 x.1.1, .agg #[.int .i64 x.1.2.1, .int .i64 x.1.2.2], undef, undef, undef, undef, undef, undef, undef, undef, undef, undef, undef, undef, undef, undef, undef, undef], defers := [] })
    (fun x a' _ X Y row hs hg hr => by obtain ⟨Bx, h1, h2, h3⟩ := hs; exact ⟨Bx, h1, boxed2_own Bx _ (fun (_ : Unit) => Value.int .i64 x.1.2.1) (fun (_ : Unit) => Value.int .i64 x.1.2.2) () X Y row h2 hg (fun r e => (hr r e).2), h3⟩)
    ?assign ?body ?done ?stop
  case assign =>
    rintro l pre x W K ⟨⟨⟨⟨bS1, bT1⟩, bR1, bP1⟩, bE1⟩, hle, hB1⟩ hK
    simp only [encLn]
    gi_wp2
    exact hK _ _ ((KeepsOthers.alloc _ _).from _) (kbox_alloc _ _ bE1.lt) ⟨⟨⟨⟨bS1.alloc _, bT1.alloc _⟩, bR1.alloc _, bP1.alloc _⟩, bE1.alloc _⟩, hle, hB1.alloc hB1.size _⟩ ⟨W.heap.size, bE1.lt, Boxed2.new W 40 _ _, rfl⟩
  case body =>
    rintro l pre x a' W hl _ ⟨⟨⟨⟨bS1, bT1⟩, bR1, bP1⟩, bE1⟩, hle, hB1⟩ ⟨Bx, hBx, bx, rfl⟩ hlt
    have cS := bS1.cell
    have cT := bT1.cell
    have cP0 := bP1.cell0
    have cP1 := bP1.cell1
    have fP0 := bP1.frozen 0
    have fP1 := bP1.frozen 1
    have cx0 := bx.cell0
    have cx1 := bx.cell1
    by_cases hx : (x.1.2.1 : Int) ≤ t
    · have hx2 := x.2
      have hps := posOf_snoc hle hx
      by_cases hm : t ≤ (x.1.2.2 : Int)
      · have hq2 : t ≤ (a0.size : Int) := by omega
        have hq3 : (x.1.2.1 : Int) ≤ t := by omega
        have hmin : min t (x.1.2.2 : Int) = t := by omega
        have hnt : ¬ t < (x.1.2.1 : Int) := by omega
        have hsu : (a0.extract x.1.2.1 t.toNat).size ≤ 140737488351232 := by rw [ByteArray.size_extract]; omega
        have hun := fun W => utf_Units.calls (a0.extract x.1.2.1 t.toNat) (unitsOf (a0.extract x.1.2.1 t.toNat)) W (if_pos hsu)
        rw [hmin] at hps
        have HP := Aside0.mk hps
        clear hps hsu hx2 hmin
        gi_wp2_with (refine ⟨trivial, ?_⟩; gi_at_call 22; refine (CallsIn.inRound l (callsIn_wide.2 (hun W))).mono ?_; clear hun; rintro e w' ⟨rfl, hb⟩; have bP2 : Boxed2 w' P 34 _ _ := (hb.block _ bP1.lt).trans bP1; have dP0 := bP2.cell0; have dP1 := bP2.cell1; have gP0 := bP2.frozen 0; have gP1 := bP2.frozen 1)
        have mS : Boxed w' w.heap.size 9 (.string a0) := (hb.block _ bS1.lt).trans bS1
        have mT : Boxed w' (w.heap.size + 1) 3 (.int .i64 t) := (hb.block _ bT1.lt).trans bT1
        have mR : Boxed2 w' (w.heap.size + 1 + 1) 34 (.int .i64 0) (.int .i64 0) := (hb.block _ bR1.lt).trans bR1
        have mE : Boxed w' (P + 1) 9 (.string a0) := (hb.block _ bE1.lt).trans bE1
        refine ⟨((keeps_below hb).from _).trans (((KeepsOthers.setCell _ _ _).from _).trans ((KeepsOthers.setCell _ _ _).from _)), kbox_t (kbox_t (hb.block _ bE1.lt) (kbox_set _ _ _ (by simp))) (kbox_set _ _ _ (by simp)), ⟨⟨⟨⟨(mS.other2 (a := ⟨P, 0, none⟩) (by simp; omega) _).other2 (a := ⟨P, 1, none⟩) (by simp; omega) _, (mT.other2 (a := ⟨P, 0, none⟩) (by simp; omega) _).other2 (a := ⟨P, 1, none⟩) (by simp; omega) _⟩, (mR.other _ _ (by simp; omega)).other _ _ (by simp; omega), ?_⟩, (mE.other2 (a := ⟨P, 0, none⟩) (by simp) _).other2 (a := ⟨P, 1, none⟩) (by simp) _⟩, ?_, ?_⟩⟩
        · rw [HP.out]
          exact (bP2.set0 _).set1 _
        · intro y hy
          rcases List.mem_append.1 hy with h | h
          · exact hle y h
          · rw [List.mem_singleton.1 h]; exact hx
        · exact ((hB1.trans (hb.mono hB1.size)).setCell (p := ⟨P, 0, none⟩) (by simp; omega) _).setCell (p := ⟨P, 1, none⟩) (by simp; omega) _
      · have hq2 : (x.1.2.2 : Int) ≤ (a0.size : Int) := by omega
        have hq3 : (x.1.2.1 : Int) ≤ (x.1.2.2 : Int) := by omega
        have hmin : min t (x.1.2.2 : Int) = (x.1.2.2 : Int) := by omega
        have hnt : ¬ t < (x.1.2.1 : Int) := by omega
        have hsu : (a0.extract x.1.2.1 x.1.2.2).size ≤ 140737488351232 := by rw [ByteArray.size_extract]; omega
        have hun := fun W => utf_Units.calls (a0.extract x.1.2.1 x.1.2.2) (unitsOf (a0.extract x.1.2.1 x.1.2.2)) W (if_pos hsu)
        rw [hmin] at hps
        have HP := Aside0.mk hps
        clear hps hsu hx2 hmin
        gi_wp2_with (refine ⟨trivial, ?_⟩; gi_at_call 22; refine (CallsIn.inRound l (callsIn_wide.2 (hun W))).mono ?_; clear hun; rintro e w' ⟨rfl, hb⟩; have bP2 : Boxed2 w' P 34 _ _ := (hb.block _ bP1.lt).trans bP1; have dP0 := bP2.cell0; have dP1 := bP2.cell1; have gP0 := bP2.frozen 0; have gP1 := bP2.frozen 1)
        have mS : Boxed w' w.heap.size 9 (.string a0) := (hb.block _ bS1.lt).trans bS1
        have mT : Boxed w' (w.heap.size + 1) 3 (.int .i64 t) := (hb.block _ bT1.lt).trans bT1
        have mR : Boxed2 w' (w.heap.size + 1 + 1) 34 (.int .i64 0) (.int .i64 0) := (hb.block _ bR1.lt).trans bR1
        have mE : Boxed w' (P + 1) 9 (.string a0) := (hb.block _ bE1.lt).trans bE1
        refine ⟨((keeps_below hb).from _).trans (((KeepsOthers.setCell _ _ _).from _).trans ((KeepsOthers.setCell _ _ _).from _)), kbox_t (kbox_t (hb.block _ bE1.lt) (kbox_set _ _ _ (by simp))) (kbox_set _ _ _ (by simp)), ⟨⟨⟨⟨(mS.other2 (a := ⟨P, 0, none⟩) (by simp; omega) _).other2 (a := ⟨P, 1, none⟩) (by simp; omega) _, (mT.other2 (a := ⟨P, 0, none⟩) (by simp; omega) _).other2 (a := ⟨P, 1, none⟩) (by simp; omega) _⟩, (mR.other _ _ (by simp; omega)).other _ _ (by simp; omega), ?_⟩, (mE.other2 (a := ⟨P, 0, none⟩) (by simp) _).other2 (a := ⟨P, 1, none⟩) (by simp) _⟩, ?_, ?_⟩⟩
        · rw [HP.out]
          exact (bP2.set0 _).set1 _
        · intro y hy
          rcases List.mem_append.1 hy with h | h
          · exact hle y h
          · rw [List.mem_singleton.1 h]; exact hx
        · exact ((hB1.trans (hb.mono hB1.size)).setCell (p := ⟨P, 0, none⟩) (by simp; omega) _).setCell (p := ⟨P, 1, none⟩) (by simp; omega) _
    · have hx' : t < (x.1.2.1 : Int) := by omega
      gi_wp2
      exact ⟨KeepsFrom.refl _ _, ⟨bR1, by have := posOf_stop hle (show ¬ (x.1.2.1 : Int) ≤ t by omega) []; rw [List.append_nil] at this; rw [this]; exact bP1⟩, ⟨rfl, pre, x, rfl, hle, by omega⟩, hB1⟩
  case done =>
    rintro D ys W hD rfl ⟨⟨⟨⟨bS1, bT1⟩, bR1, bP1⟩, bE1⟩, hle, hB1⟩ hK
    have cP0 := bP1.cell0
    have cP1 := bP1.cell1
    have cR0 := bR1.cell0
    have cR1 := bR1.cell1
    have fR0 := bR1.frozen 0
    have fR1 := bR1.frozen 1
    rw [HH.out] at bP1 cP0 cP1
    gi_wp2
    exact pos_leave hD hsz hsz1 bR1 hB1 hK
  case stop =>
    rintro D c pre W hD hp ⟨⟨bR1, bP1⟩, ⟨rfl, l, x, rfl, hle, hx⟩, hB1⟩ hK
    obtain ⟨r, hr⟩ := hp
    have e1 := posOf_stop hle hx r
    rw [hr, HH.out] at e1
    have e2 := posOf_stop hle hx []
    rw [List.append_nil, ← e1] at e2
    rw [e2] at bP1
    have cP0 := bP1.cell0
    have cP1 := bP1.cell1
    have cR0 := bR1.cell0
    have cR1 := bR1.cell1
    have fR0 := bR1.frozen 0
    have fR1 := bR1.frozen 1
    gi_wp2
    exact pos_leave hD hsz hsz1 bR1 hB1 hK

/-! ### glossatorref01_Units: function 44 -/
def glossatorref01_Units.l0 : Nat → ByteArray → Int → Int → Option (Int)
  | 0, _, _, _ => none
  | k + 1, x0, x3, x4 => if x3 < (x0.size : Int) then ((glossatorref01_step.f k x0 x3).bind fun bt234 => (glossatorref01_Units.l0 k x0 (wrap64 (x3 + bt234.1)) (wrap64 (x4 + bt234.2)))) else (some x4)
def glossatorref01_Units.f (k : Nat) (a0 : ByteArray) : Option (Int) := glossatorref01_Units.l0 k a0 0 0
theorem glossatorref01_Units.mono_l : ∀ k, (∀ y0 y1 y2, LeO (glossatorref01_Units.l0 k y0 y1 y2) (glossatorref01_Units.l0 (k + 1) y0 y1 y2))
  | 0 => fun _ _ _ r h => by simp [glossatorref01_Units.l0] at h
  | k + 1 => by
    have ih0 := glossatorref01_Units.mono_l k
    · intro y0 y1 y2
      unfold glossatorref01_Units.l0
      repeat' first
      | (with_reducible exact ih0 _ _ _)
      | (with_reducible exact glossatorref01_step.mono _ _ _)
      | (with_reducible exact LeO.refl _)
      | (with_reducible exact LeO.none _)
      | (with_reducible refine LeO.ite ?_ ?_)
      | (with_reducible refine LeO.bind ?_ (fun _ => ?_))
      | exact ih0 _ _ _
      | exact glossatorref01_step.mono _ _ _
      | exact LeO.none _
      | refine LeO.ite ?_ ?_
      | refine LeO.bind ?_ (fun _ => ?_)
theorem glossatorref01_Units.mono : ∀ a0 k, LeO (glossatorref01_Units.f k a0) (glossatorref01_Units.f (k + 1) a0) := by
  intro a0 k
  have ih0 := glossatorref01_Units.mono_l k
  unfold glossatorref01_Units.f
  repeat' first
      | (with_reducible exact ih0 _ _ _)
      | (with_reducible exact glossatorref01_step.mono _ _ _)
      | (with_reducible exact LeO.refl _)
      | (with_reducible exact LeO.none _)
      | (with_reducible refine LeO.ite ?_ ?_)
      | (with_reducible refine LeO.bind ?_ (fun _ => ?_))
      | exact ih0 _ _ _
      | exact glossatorref01_step.mono _ _ _
      | exact LeO.none _
      | refine LeO.ite ?_ ?_
      | refine LeO.bind ?_ (fun _ => ?_)
set_option maxHeartbeats 8000000 in
set_option maxRecDepth 100000 in
theorem glossatorref01_Units.calls (k : Nat) (a0 : ByteArray) (r : Int) (w : World) (h : glossatorref01_Units.f k a0 = some r) :
    Calls Tryd.prog 44 #[.string a0] w fun e w' => e = .returned (.int .i64 r) ∧ Below w.heap.size w w' := by
  have HB := Aside0.mk (Below.refl w.heap.size w)
  have H : (glossatorref01_Units.l0 k a0 0 0) = some r := h
  clear h
  have H' := Aside0.mk H
  clear H
  go_enter Tryd.func44, Tryd.ntmps44
  go_wp2
  go_loopg [3, 4] k (fun kq v3 v4 w' => ∃ (x3_1 : Int) (x4_1 : Int), v3 = .int .i64 x3_1 ∧ v4 = .int .i64 x4_1 ∧ Aside0 (glossatorref01_Units.l0 kq a0 x3_1 x4_1 = some r) ∧ Aside0 (kq ≤ k) ∧ Aside0 (Below w.heap.size w w'))
  case atStart => exact ⟨(0), (0), (by first | rfl | (simp; done) | (simp [*]; done) | (simp; exact xEmpty_ne _) | (simp [*]; exact xEmpty_ne _)), (by first | rfl | (simp; done) | (simp [*]; done) | (simp; exact xEmpty_ne _) | (simp [*]; exact xEmpty_ne _)), H', ⟨Nat.le_refl _⟩, ⟨by repeat (first | (with_reducible first | exact HB.out | apply below_alloc | apply pw_below_drewN | apply below_drew1) | exact HB.out)⟩⟩
  case round =>
    clear H'
    obtain ⟨x3_1, x4_1, rfl, rfl, HA, HK1, HB⟩ := hrel
    cases gk with
    | zero => exact absurd HA.out (by simp [glossatorref01_Units.l0])
    | succ k1 =>
      have H := HA.out
      clear HA
      simp only [glossatorref01_Units.l0] at H
      by_cases c2 : x3_1 < (a0.size : Int)
      · rw [if_pos c2] at H
        have c2b0 : decide (x3_1 < (a0.size : Int)) = true := decide_eq_true c2
        clear c2
        replace H := Option.bind_eq_some_iff.mp H
        obtain ⟨⟨t234, t235⟩, A30, H⟩ := H
        replace H : (glossatorref01_Units.l0 k1 a0 (wrap64 (x3_1 + t234)) (wrap64 (x4_1 + t235))) = some r := H
        have A3 := Aside0.mk A30
        clear A30
        have H' := Aside0.mk H
        clear H
        go_wp2_with (first | ((with_reducible refine gate_callee (f := 38) rfl ?_); refine goesL_ (some 14) rfl rfl Tryd.func38 (by kernel_rfl) rfl #[.string a0, .int .i64 x3_1] rfl (by (try simp only [List.map_toArray, List.map_cons, List.map_nil]); first | done | rfl | (simp only [List.length_drop, List.length_take]; rfl)) ?_; (with_reducible refine (glossatorref01_step.calls k1 a0 x3_1 t234 t235 _ A3.out).mono ?_); rintro e w4 ⟨rfl, hb⟩; refine ⟨_, rfl, ?_⟩; have n0_ := Aside0.mk (below_step (by repeat (first | (with_reducible first | exact HB.out | apply below_alloc | apply pw_below_drewN | apply below_drew1) | exact HB.out)) hb); clear HB; have HB := n0_; clear n0_; (try clear hb); (try clear hb2); (try clear hk); (try clear hi)))
        go_roundg k1
        case measure => have := HK1.out; omega
        case rel => exact ⟨(wrap64 (x3_1 + t234)), (wrap64 (x4_1 + t235)), (by first | rfl | (simp; done) | (simp [*]; done) | (simp; exact xEmpty_ne _) | (simp [*]; exact xEmpty_ne _)), (by first | rfl | (simp; done) | (simp [*]; done) | (simp; exact xEmpty_ne _) | (simp [*]; exact xEmpty_ne _)), H', ⟨by have := HK1.out; omega⟩, ⟨by repeat (first | (with_reducible first | exact HB.out | apply below_alloc | apply pw_below_drewN | apply below_drew1) | exact HB.out)⟩⟩
      · rw [if_neg c2] at H
        have c2b0 : decide (x3_1 < (a0.size : Int)) = false := decide_eq_false c2
        clear c2
        obtain rfl := Option.some.inj H
        go_wp2
        go_ret
        exact ⟨by first | rfl | (simp [errW_none, errW_some] <;> rfl) | (simp [*, errW_none, errW_some] <;> rfl), by repeat (first | (with_reducible first | exact HB.out | apply below_alloc | apply pw_below_drewN | apply below_drew1) | exact HB.out)⟩

end Go.Proofs.YtfjanedappcolaaDoor.Q
