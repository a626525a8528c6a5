-- Written by this repo's wip/xprint.py (over the kit's print.py) out of the translation. Not trusted: Lean checks it.
import Derived.Test.YtfjanedappcolaaDoorQ0
import Derived.Test.YtfjanedappcolaaDoorQ3
namespace Go.Proofs.YtfjanedappcolaaDoor.Q
open Go.RowKit Go.Proofs.YtfjanedappcolaaDoorW.PrintWords Go.Proofs.YtfjanedappcolaaDoorW.PrintLast Go.Proofs.YtfjanedappcolaaDoorW.PrintMore
attribute [local go_sem] max2_int min2_int max_two min_two max_three min_three max_four min_four   -- for this text's walks alone
set_option linter.unusedVariables false
set_option linter.unusedSimpArgs false

/-! ### lines_Offset: function 24 -/
def lines_Offset.f (a0 : ByteArray) (a1_0 : Int) (a1_1 : Int) : Option (Int) := (lines_Line.f a0 (mx a1_0 0)).bind fun bt107 => (if bt107.2.2 = true then (if 0 ≤ bt107.1 then (if bt107.1 ≤ bt107.2.1 then (if bt107.2.1 ≤ (a0.size : Int) then ((utf_Cut.f (a0.extract (bt107.1 : Int).toNat (bt107.2.1 : Int).toNat) (mx a1_1 0)).bind fun t111 => (some (wrap64 (bt107.1 + t111)))) else (none)) else (none)) else (none)) else (some (a0.size : Int)))
def lines_Offset.T4 : Bool × List (List Nat × List Nat) := (true, [([], []), ([0], [0]), ([], []), ([], []), ([3], [3]), ([], []), ([5], [5]), ([2, 4, 6], [2, 4, 6]), ([], []), ([8], [8]), ([9], [9]), ([7, 10], [7, 10]), ([1, 11], [1, 11]), ([12, 11, 0, 1, 2, 3, 4, 5, 6, 7, 8, 9, 10, 11, 12], [12])])
def lines_Offset.B4 : List Nat := [0, 1, 0, 0, 8, 0, 32, 124, 0, 256, 768, 2044, 4095, 8191]
theorem lines_Offset.tab4 : rtab .any (opsOf Tryd.f24 4) = lines_Offset.T4 := by kernel_rfl
theorem lines_Offset.bits4 : waitsOk lines_Offset.T4.2 lines_Offset.B4 = true := by kernel_rfl
set_option maxHeartbeats 8000000 in
set_option maxRecDepth 100000 in
theorem lines_Offset.calls (a0 : ByteArray) (a1_0 : Int) (a1_1 : Int) (r : Int) (w : World) (h : lines_Offset.f a0 a1_0 a1_1 = some r) :
    Calls Tryd.prog 24 #[.string a0, .agg #[.int .i64 a1_0, .int .i64 a1_1]] w fun e w' => e = .returned (.int .i64 r) ∧ Below w.heap.size w w' := by
  have hu34 := Tryd.underlying34
  have hu40 := Tryd.underlying40
  have HB := Aside0.mk (Below.refl w.heap.size w)
  have H : ((lines_Line.f a0 (mx a1_0 0)).bind fun bt107 => (if bt107.2.2 = true then (if 0 ≤ bt107.1 then (if bt107.1 ≤ bt107.2.1 then (if bt107.2.1 ≤ (a0.size : Int) then ((utf_Cut.f (a0.extract (bt107.1 : Int).toNat (bt107.2.1 : Int).toNat) (mx a1_1 0)).bind fun t111 => (some (wrap64 (bt107.1 + t111)))) else (none)) else (none)) else (none)) else (some (a0.size : Int)))) = some r := h
  clear h
  obtain ⟨ji3, hji3⟩ : ∃ j_ : Int, (mx a1_0 0) = j_ := ⟨_, rfl⟩
  replace H : ((lines_Line.f a0 (ji3)).bind fun bt107 => (if bt107.2.2 = true then (if 0 ≤ bt107.1 then (if bt107.1 ≤ bt107.2.1 then (if bt107.2.1 ≤ (a0.size : Int) then ((utf_Cut.f (a0.extract (bt107.1 : Int).toNat (bt107.2.1 : Int).toNat) (mx a1_1 0)).bind fun t111 => (some (wrap64 (bt107.1 + t111)))) else (none)) else (none)) else (none)) else (some (a0.size : Int)))) = some r := by first | (rw [hji3] at H; exact H) | (simp only [hji3] at H ⊢; exact H)
  (try (have hji3l : 0 ≤ ji3 := by (rw [← hji3]; unfold mx; (repeat' split) <;> omega)))
  (try (have hji3m : 0 ≤ ji3 := by omega))
  have hji3_ : (if a1_0 < 0 then 0 else a1_0) = ji3 := hji3
  replace H := Option.bind_eq_some_iff.mp H
  obtain ⟨⟨t107, t108, t109⟩, A40, H⟩ := H
  replace H : (if t109 = true then (if 0 ≤ t107 then (if t107 ≤ t108 then (if t108 ≤ (a0.size : Int) then ((utf_Cut.f (a0.extract (t107 : Int).toNat (t108 : Int).toNat) (mx a1_1 0)).bind fun t111 => (some (wrap64 (t107 + t111)))) else (none)) else (none)) else (none)) else (some (a0.size : Int))) = some r := H
  have A4 := Aside0.mk A40
  clear A40
  by_cases c5 : t109 = true
  · subst c5
    have H1 : (if 0 ≤ t107 then (if t107 ≤ t108 then (if t108 ≤ (a0.size : Int) then ((utf_Cut.f (a0.extract (t107 : Int).toNat (t108 : Int).toNat) (mx a1_1 0)).bind fun t111 => (some (wrap64 (t107 + t111)))) else (none)) else (none)) else (none)) = some r := by rw [if_pos rfl] at H; exact H
    clear H
    have H := H1
    clear H1
    by_cases c6 : 0 ≤ t107
    · rw [if_pos c6] at H
      have c6b0 := eq_true c6
      have c6b1 : decide (0 ≤ t107) = true := decide_eq_true c6
      clear c6
      by_cases c7 : t107 ≤ t108
      · rw [if_pos c7] at H
        have c7b0 := eq_true c7
        have c7b1 : decide (t107 ≤ t108) = true := decide_eq_true c7
        clear c7
        by_cases c8 : t108 ≤ (a0.size : Int)
        · rw [if_pos c8] at H
          have c8b0 := eq_true c8
          have c8b1 : decide (t108 ≤ (a0.size : Int)) = true := decide_eq_true c8
          clear c8
          obtain ⟨ji9, hji9⟩ : ∃ j_ : Int, (mx a1_1 0) = j_ := ⟨_, rfl⟩
          replace H : ((utf_Cut.f (a0.extract (t107 : Int).toNat (t108 : Int).toNat) (ji9)).bind fun t111 => (some (wrap64 (t107 + t111)))) = some r := by first | (rw [hji9] at H; exact H) | (simp only [hji9] at H ⊢; exact H)
          (try rw [hji9] at A4)
          (try (have hji9l : 0 ≤ ji9 := by (rw [← hji9]; unfold mx; (repeat' split) <;> omega)))
          (try (have hji9m : 0 ≤ ji9 := by omega))
          have hji9_ : (if a1_1 < 0 then 0 else a1_1) = ji9 := hji9
          replace H := Option.bind_eq_some_iff.mp H
          obtain ⟨t111, A100, H⟩ := H
          replace H : (some (wrap64 (t107 + t111))) = some r := H
          have A10 := Aside0.mk A100
          clear A100
          obtain rfl := Option.some.inj H
          go_enter Tryd.func24, Tryd.ntmps24
          try go_wp2_with (first | ((with_reducible refine gate_dst (N := 3) rfl ?_); refine box_event ?hg (N := 3) ?hd (cs := #[.int .i64 a1_0, .int .i64 a1_1]) (t := 34) ?hr ?_; (case hd => rfl); (case hg => rfl); (case hr => first | (go_simp; done) | (go_simp; rfl)); intro gb106 hg w11 hbox hb; have n0_ := Aside0.mk (below_step (by repeat (first | (with_reducible first | exact HB.out | apply below_alloc | apply pw_below_drewN | apply below_drew1) | exact HB.out)) hb); have n1_ := Aside0.mk (hbox); have n2_ := Aside0.mk ((by rw [hg]; exact (below_size (by repeat (first | (with_reducible first | exact HB.out | apply below_alloc | apply pw_below_drewN | apply below_drew1) | exact HB.out))) : w.heap.size ≤ gb106)); have n3_ := Aside0.mk ((by rw [hg]; exact (below_size (by repeat (first | (with_reducible first | exact HB.out | apply below_alloc | apply pw_below_drewN | apply below_drew1) | exact HB.out))) : w.heap.size ≤ gb106)); clear HB; have HB := n0_; have BK106 := n1_; have GW106 := n2_; have GE106 := n3_; clear n0_ n1_ n2_ n3_; clear hb hbox hg; have hcz12_0 : w11.cell? ⟨gb106, 0, none⟩ = some (.int .i64 a1_0) := (blk_cell BK106.out 0).trans rfl; have hcz12_1 : w11.cell? ⟨gb106, 1, none⟩ = some (.int .i64 a1_1) := (blk_cell BK106.out 1).trans rfl; have hfz12_0 := blk_frozen BK106.out 0; have hfz12_1 := blk_frozen BK106.out 1) | ((with_reducible refine gate_callee (f := 31) rfl ?_); refine goesL_ (some 12) rfl rfl Tryd.func31 (by kernel_rfl) rfl #[.string a0, .int .i64 ji3] rfl (by (try simp only [List.map_toArray, List.map_cons, List.map_nil]); first | done | (simp only [hji3]; rfl) | rfl | (simp only [List.length_drop, List.length_take]; rfl)) ?_; (with_reducible refine (lines_Line.calls a0 ji3 t107 t108 true _ A4.out).mono ?_); rintro e w13 ⟨rfl, hb⟩; refine ⟨_, rfl, ?_⟩; have n0_ := Aside0.mk (blk_below (g := gb106) (o := .cells #[.int .i64 a1_0, .int .i64 a1_1] 34 (0, 0)) (by (with_reducible repeat (first | refine blk_drewN ?_ _ | refine blk_drew ?_ | refine blk_alloc ?_ _)); exact BK106.out) hb); have n1_ := Aside0.mk (below_step (by repeat (first | (with_reducible first | exact HB.out | apply below_alloc | apply pw_below_drewN | apply below_drew1 | refine below_set ?_ GE106.out) | exact HB.out)) hb); clear BK106; clear HB; have BK106 := n0_; have HB := n1_; clear n0_ n1_; (try clear hb); (try clear hb2); (try clear hk); (try clear hi)) | ((with_reducible refine gate_dst (N := 5) rfl ?_); refine box_event ?hg (N := 5) ?hd (cs := #[.int .i64 0, .int .i64 0]) (t := 40) ?hr ?_; (case hd => rfl); (case hg => rfl); (case hr => first | (go_simp; done) | (go_simp; rfl)); intro gb110 hg w14 hbox hb; have n0_ := Aside0.mk (blk_below (g := gb106) (o := .cells #[.int .i64 a1_0, .int .i64 a1_1] 34 (0, 0)) (by (with_reducible repeat (first | refine blk_drewN ?_ _ | refine blk_drew ?_ | refine blk_alloc ?_ _)); exact BK106.out) hb); have n1_ := Aside0.mk (below_step (by repeat (first | (with_reducible first | exact HB.out | apply below_alloc | apply pw_below_drewN | apply below_drew1 | refine below_set ?_ GE106.out) | exact HB.out)) hb); have n2_ := Aside0.mk (hbox); have n3_ := Aside0.mk ((by rw [hg]; exact (below_size (by repeat (first | (with_reducible first | exact HB.out | apply below_alloc | apply pw_below_drewN | apply below_drew1 | refine below_set ?_ GE106.out) | exact HB.out))) : w.heap.size ≤ gb110)); have n4_ := Aside0.mk ((by rw [hg]; exact (below_size (by repeat (first | (with_reducible first | exact HB.out | apply below_alloc | apply pw_below_drewN | apply below_drew1 | refine below_set ?_ GE106.out) | exact HB.out))) : w.heap.size ≤ gb110)); have n5_ := Aside0.mk ((by rw [hg]; exact Nat.ne_of_lt (blk_lt (g := gb106) (o := .cells #[.int .i64 a1_0, .int .i64 a1_1] 34 (0, 0)) (by (with_reducible repeat (first | refine blk_drewN ?_ _ | refine blk_drew ?_ | refine blk_alloc ?_ _)); exact BK106.out)) : gb106 ≠ gb110)); have n6_ := Aside0.mk ((by rw [hg]; exact Nat.ne_of_gt (blk_lt (g := gb106) (o := .cells #[.int .i64 a1_0, .int .i64 a1_1] 34 (0, 0)) (by (with_reducible repeat (first | refine blk_drewN ?_ _ | refine blk_drew ?_ | refine blk_alloc ?_ _)); exact BK106.out)) : gb110 ≠ gb106)); clear BK106; clear HB; have BK106 := n0_; have HB := n1_; have BK110 := n2_; have GW110 := n3_; have GE110 := n4_; have NB106_110 := n5_; have NB110_106 := n6_; clear n0_ n1_ n2_ n3_ n4_ n5_ n6_; clear hb hbox hg; have hnb15 := NB110_106.out; have hnc15 := NB106_110.out; have hcz16_0 : w14.cell? ⟨gb110, 0, none⟩ = some (.int .i64 0) := (blk_cell BK110.out 0).trans rfl; have hcz16_1 : w14.cell? ⟨gb110, 1, none⟩ = some (.int .i64 0) := (blk_cell BK110.out 1).trans rfl; have hfz16_0 := blk_frozen BK110.out 0; have hfz16_1 := blk_frozen BK110.out 1))
          have n0_ : Aside0 (((w14.setCell ⟨gb110, 0, none⟩ (.int .i64 t107)).setCell ⟨gb110, 1, none⟩ (.int .i64 t108)).heap[gb106]? = some (.cells #[.int .i64 a1_0, .int .i64 a1_1] 34 (0, 0))) := ⟨by (with_reducible repeat (first | refine blk_drewN ?_ _ | refine blk_drew ?_ | refine blk_alloc ?_ _)); refine blk_far ?_ NB106_110.out _; (with_reducible repeat (first | refine blk_drewN ?_ _ | refine blk_drew ?_ | refine blk_alloc ?_ _)); refine blk_far ?_ NB106_110.out _; (with_reducible repeat (first | refine blk_drewN ?_ _ | refine blk_drew ?_ | refine blk_alloc ?_ _)); exact BK106.out⟩
          have n1_ : Aside0 (((w14.setCell ⟨gb110, 0, none⟩ (.int .i64 t107)).setCell ⟨gb110, 1, none⟩ (.int .i64 t108)).heap[gb110]? = some (.cells #[.int .i64 t107, .int .i64 t108] 40 (0, 0))) := ⟨by (with_reducible repeat (first | refine blk_drewN ?_ _ | refine blk_drew ?_ | refine blk_alloc ?_ _)); refine blk_put (cs := #[.int .i64 t107, .int .i64 0]) ?_ 1 _ rfl; (with_reducible repeat (first | refine blk_drewN ?_ _ | refine blk_drew ?_ | refine blk_alloc ?_ _)); refine blk_put (cs := #[.int .i64 0, .int .i64 0]) ?_ 0 _ rfl; (with_reducible repeat (first | refine blk_drewN ?_ _ | refine blk_drew ?_ | refine blk_alloc ?_ _)); exact BK110.out⟩
          have n2_ : Aside0 (Below w.heap.size w ((w14.setCell ⟨gb110, 0, none⟩ (.int .i64 t107)).setCell ⟨gb110, 1, none⟩ (.int .i64 t108))) := ⟨by repeat (first | (with_reducible first | exact HB.out | apply below_alloc | apply pw_below_drewN | apply below_drew1 | refine below_set ?_ GE106.out | refine below_set ?_ GE110.out) | exact HB.out)⟩
          (try clear BK106)
          (try clear BK110)
          (try clear HB)
          generalize ((w14.setCell ⟨gb110, 0, none⟩ (.int .i64 t107)).setCell ⟨gb110, 1, none⟩ (.int .i64 t108)) = w17 at n0_ n1_ n2_ ⊢
          have BK106 := n0_
          have BK110 := n1_
          have HB := n2_
          clear n0_ n1_ n2_
          have n0_ := Aside0.mk (blk_drew BK106.out)
          have n1_ := Aside0.mk (blk_drew BK110.out)
          have n2_ := Aside0.mk (below_drew1 HB.out)
          clear BK106
          clear BK110
          clear HB
          have BK106 := n0_
          have BK110 := n1_
          have HB := n2_
          clear n0_ n1_ n2_
          refine start_ (n := 14) (S := fun w' => w'.cell? ⟨gb110, 0, none⟩ = some (.int .i64 t107) ∧ w'.cell? ⟨gb110, 1, none⟩ = some (.int .i64 t108) ∧ w'.cell? ⟨gb106, 0, none⟩ = some (.int .i64 a1_0) ∧ w'.cell? ⟨gb106, 1, none⟩ = some (.int .i64 a1_1)) (ds := []) #[false, false, false, false, false, false, false, false, false, false, false, false, false, false] (by kernel_rfl) rfl rfl ⟨(blk_cell BK110.out 0).trans rfl, (blk_cell BK110.out 1).trans rfl, (blk_cell BK106.out 0).trans rfl, (blk_cell BK106.out 1).trans rfl⟩ (fun hHeld => ?_); refine with_tabW lines_Offset.tab4 lines_Offset.bits4 (fun HT_ HW_ => ?_)
          generalize w17.drew = w18 at BK106 BK110 HB hHeld ⊢
          refine pure_ (i := 0) (N := some 19) (v := ?_) (a' := ?_) #[true, false, false, false, false, false, false, false, false, false, false, false, false, false] rfl rfl (any_of HT_.out (by kernel_rfl)) (fun _ _ _ h => h) (Or.inl ⟨by rfl, ?_⟩) ?_ ?_
          rotate_left
          · intro w'
            go_simp
            with_reducible rfl
          rotate_left
          · simp only [Act.put, List.setIfInBounds_toArray, List.set_cons_zero, List.set_cons_succ, i64_w, i32_w]
            rfl
          refine pure_ (i := 2) (N := some 21) (v := ?_) (a' := ?_) #[true, false, true, false, false, false, false, false, false, false, false, false, false, false] rfl rfl (any_of HT_.out (by kernel_rfl)) (fun _ _ _ h => h) (Or.inl ⟨by rfl, ?_⟩) ?_ ?_
          rotate_left
          · intro w'
            go_simp
            with_reducible rfl
          rotate_left
          · simp only [Act.put, List.setIfInBounds_toArray, List.set_cons_zero, List.set_cons_succ, i64_w, i32_w]
            rfl
          refine pure_ (i := 3) (N := some 22) (v := ?_) (a' := ?_) #[true, false, true, true, false, false, false, false, false, false, false, false, false, false] rfl rfl (any_of HT_.out (by kernel_rfl)) (fun _ _ _ h => h) (Or.inl ⟨by rfl, ?_⟩) ?_ ?_
          rotate_left
          · intro w'
            go_simp
            with_reducible rfl
          rotate_left
          · simp only [Act.put, List.setIfInBounds_toArray, List.set_cons_zero, List.set_cons_succ, i64_w, i32_w]
            rfl
          refine pure_ (i := 5) (N := some 24) (v := ?_) (a' := ?_) #[true, false, true, true, false, true, false, false, false, false, false, false, false, false] rfl rfl (any_of HT_.out (by kernel_rfl)) (fun _ _ _ h => h) (Or.inl ⟨by rfl, ?_⟩) ?_ ?_
          rotate_left
          · intro w'
            go_simp
            with_reducible rfl
          rotate_left
          · simp only [Act.put, List.setIfInBounds_toArray, List.set_cons_zero, List.set_cons_succ, i64_w, i32_w]
            rfl
          refine pure_ (i := 8) (N := some 27) (v := ?_) (a' := ?_) #[true, false, true, true, false, true, false, false, true, false, false, false, false, false] rfl rfl (any_of HT_.out (by kernel_rfl)) (fun _ _ _ h => h) (Or.inl ⟨by rfl, ?_⟩) ?_ ?_
          rotate_left
          · intro w'
            go_simp
            with_reducible rfl
          rotate_left
          · simp only [Act.put, List.setIfInBounds_toArray, List.set_cons_zero, List.set_cons_succ, i64_w, i32_w]
            rfl
          refine take_ (i := 1) (N := some 20) (v := ?_) (a' := ?_) #[true, true, true, true, false, true, false, false, true, false, false, false, false, false] rfl rfl (take_ofW HT_.out HW_.out (by kernel_rfl)) (fun _ _ _ h => h) (Or.inl ⟨by rfl, ?_⟩) hHeld ?_ ?_
          rotate_left
          · rintro w' ⟨s0, s1, s2, s3⟩
            go_simp
            with_reducible rfl
          rotate_left
          · simp only [Act.put, List.setIfInBounds_toArray, List.set_cons_zero, List.set_cons_succ, i64_w, i32_w]
            rfl
          refine take_ (i := 4) (N := some 23) (v := ?_) (a' := ?_) #[true, true, true, true, true, true, false, false, true, false, false, false, false, false] rfl rfl (take_ofW HT_.out HW_.out (by kernel_rfl)) (fun _ _ _ h => h) (Or.inl ⟨by rfl, ?_⟩) hHeld ?_ ?_
          rotate_left
          · rintro w' ⟨s0, s1, s2, s3⟩
            go_simp
            with_reducible rfl
          rotate_left
          · simp only [Act.put, List.setIfInBounds_toArray, List.set_cons_zero, List.set_cons_succ, i64_w, i32_w]
            rfl
          refine take_ (i := 6) (N := some 25) (v := ?_) (a' := ?_) #[true, true, true, true, true, true, true, false, true, false, false, false, false, false] rfl rfl (take_ofW HT_.out HW_.out (by kernel_rfl)) (fun _ _ _ h => h) (Or.inl ⟨by rfl, ?_⟩) hHeld ?_ ?_
          rotate_left
          · rintro w' ⟨s0, s1, s2, s3⟩
            go_simp
            with_reducible rfl
          rotate_left
          · simp only [Act.put, List.setIfInBounds_toArray, List.set_cons_zero, List.set_cons_succ, i64_w, i32_w]
            rfl
          refine pure_ (i := 7) (N := some 26) (v := ?_) (a' := ?_) #[true, true, true, true, true, true, true, true, true, false, false, false, false, false] rfl rfl (any_of HT_.out (by kernel_rfl)) (fun _ _ _ h => h) (Or.inl ⟨by rfl, ?_⟩) ?_ ?_
          rotate_left
          · intro w'
            go_simp
            with_reducible rfl
          rotate_left
          · simp only [Act.put, List.setIfInBounds_toArray, List.set_cons_zero, List.set_cons_succ, i64_w, i32_w]
            rfl
          refine take_ (i := 9) (N := some 28) (v := ?_) (a' := ?_) #[true, true, true, true, true, true, true, true, true, true, false, false, false, false] rfl rfl (take_ofW HT_.out HW_.out (by kernel_rfl)) (fun _ _ _ h => h) (Or.inl ⟨by rfl, ?_⟩) hHeld ?_ ?_
          rotate_left
          · rintro w' ⟨s0, s1, s2, s3⟩
            go_simp
            with_reducible rfl
          rotate_left
          · simp only [Act.put, List.setIfInBounds_toArray, List.set_cons_zero, List.set_cons_succ, i64_w, i32_w]
            rfl
          refine pure_ (i := 10) (N := some 29) (v := ?_) (a' := ?_) #[true, true, true, true, true, true, true, true, true, true, true, false, false, false] rfl rfl (any_of HT_.out (by kernel_rfl)) (fun _ _ _ h => h) (Or.inl ⟨by rfl, ?_⟩) ?_ ?_
          rotate_left
          · intro w'
            go_simp
            with_reducible rfl
          rotate_left
          · simp only [Act.put, List.setIfInBounds_toArray, List.set_cons_zero, List.set_cons_succ, i64_w, i32_w]
            rfl
          refine one_ (i := 11) (N := some 30) #[true, true, true, true, true, true, true, true, true, true, true, true, false, false] rfl rfl (one_of HT_.out (by kernel_rfl)) (by decide) (fun K hK => ?_)
          refine goes_ Tryd.func23 (by kernel_rfl) rfl #[.string (a0.extract (t107 : Int).toNat (t108 : Int).toNat), .int .i64 ji9] (by rfl) rfl rfl (by (try simp only [List.map_toArray, List.map_cons, List.map_nil]); first | done | (simp only [hji9]; rfl) | rfl | (simp only [List.length_drop, List.length_take]; rfl)) ?_
          with_reducible refine (utf_Cut.calls (a0.extract (t107 : Int).toNat (t108 : Int).toNat) ji9 t111 _ A10.out).mono ?_
          rintro e w19 ⟨rfl, hb⟩
          refine ⟨_, rfl, ?_⟩
          have n0_ := Aside0.mk (blk_below (g := gb106) (o := .cells #[.int .i64 a1_0, .int .i64 a1_1] 34 (0, 0)) (by (with_reducible repeat (first | refine blk_drewN ?_ _ | refine blk_drew ?_ | refine blk_alloc ?_ _)); exact BK106.out) hb)
          have n1_ := Aside0.mk (blk_below (g := gb110) (o := .cells #[.int .i64 t107, .int .i64 t108] 40 (0, 0)) (by (with_reducible repeat (first | refine blk_drewN ?_ _ | refine blk_drew ?_ | refine blk_alloc ?_ _)); exact BK110.out) hb)
          have n2_ := Aside0.mk (below_step (by repeat (first | (with_reducible first | exact HB.out | apply below_alloc | apply pw_below_drewN | apply below_drew1 | refine below_set ?_ GE106.out | refine below_set ?_ GE110.out) | exact HB.out)) hb)
          clear BK106
          clear BK110
          clear HB
          have BK106 := n0_
          have BK110 := n1_
          have HB := n2_
          clear n0_ n1_ n2_
          (try clear hb)
          (try clear hb2)
          (try clear hk)
          (try clear hi)
          refine hK.out _ _ ⟨(blk_cell BK110.out 0).trans rfl, (blk_cell BK110.out 1).trans rfl, (blk_cell BK106.out 0).trans rfl, (blk_cell BK106.out 1).trans rfl⟩ (fun hHeld => ?_)
          clear hK K
          refine norm_ (a' := ?_) ?_ ?_
          rotate_left
          · show Act.put _ (some 30) _ = _
            simp only [Act.put, List.setIfInBounds_toArray, List.set_cons_zero, List.set_cons_succ, i64_w, i32_w]
            rfl
          refine pure_ (i := 12) (N := some 31) (v := ?_) (a' := ?_) #[true, true, true, true, true, true, true, true, true, true, true, true, true, false] rfl rfl (any_of HT_.out (by kernel_rfl)) (fun _ _ _ h => h) (Or.inl ⟨by rfl, ?_⟩) ?_ ?_
          rotate_left
          · intro w'
            go_simp
            with_reducible rfl
          rotate_left
          · simp only [Act.put, List.setIfInBounds_toArray, List.set_cons_zero, List.set_cons_succ, i64_w, i32_w]
            rfl
          refine pure_ (i := 13) (N := some 4) (v := ?_) (a' := ?_) #[true, true, true, true, true, true, true, true, true, true, true, true, true, true] rfl rfl (any_of HT_.out (by kernel_rfl)) (fun _ _ _ h => h) (Or.inl ⟨by rfl, ?_⟩) ?_ ?_
          rotate_left
          · intro w'
            go_simp
            with_reducible rfl
          rotate_left
          · simp only [Act.put, List.setIfInBounds_toArray, List.set_cons_zero, List.set_cons_succ, i64_w, i32_w]
            rfl
          refine done_ (done_of HT_.out (by kernel_rfl)) ?_
          try go_wp2
          go_ret
          exact ⟨by first | rfl | (simp [errW_none, errW_some] <;> rfl) | (simp only [← hji3, ← hji9]; first | rfl | (simp [errW_none, errW_some] <;> rfl)) | (simp [*, errW_none, errW_some] <;> rfl), by repeat (first | (with_reducible first | exact HB.out | apply below_alloc | apply pw_below_drewN | apply below_drew1 | refine below_set ?_ GE106.out | refine below_set ?_ GE110.out) | exact HB.out)⟩
        · rw [if_neg c8] at H
          exact absurd H (by simp)
      · rw [if_neg c7] at H
        exact absurd H (by simp)
    · rw [if_neg c6] at H
      exact absurd H (by simp)
  · replace c5 := Bool.eq_false_iff.mpr c5
    subst c5
    have H1 : (some (a0.size : Int)) = some r := by rw [if_neg (show ¬ (false = true) by decide)] at H; exact H
    clear H
    have H := H1
    clear H1
    obtain rfl := Option.some.inj H
    go_enter Tryd.func24, Tryd.ntmps24
    go_wp2_with (first | ((with_reducible refine gate_dst (N := 3) rfl ?_); refine box_event ?hg (N := 3) ?hd (cs := #[.int .i64 a1_0, .int .i64 a1_1]) (t := 34) ?hr ?_; (case hd => rfl); (case hg => rfl); (case hr => first | (go_simp; done) | (go_simp; rfl)); intro gb106 hg w20 hbox hb; have n0_ := Aside0.mk (below_step (by repeat (first | (with_reducible first | exact HB.out | apply below_alloc | apply pw_below_drewN | apply below_drew1) | exact HB.out)) hb); have n1_ := Aside0.mk (hbox); have n2_ := Aside0.mk ((by rw [hg]; exact (below_size (by repeat (first | (with_reducible first | exact HB.out | apply below_alloc | apply pw_below_drewN | apply below_drew1) | exact HB.out))) : w.heap.size ≤ gb106)); have n3_ := Aside0.mk ((by rw [hg]; exact (below_size (by repeat (first | (with_reducible first | exact HB.out | apply below_alloc | apply pw_below_drewN | apply below_drew1) | exact HB.out))) : w.heap.size ≤ gb106)); clear HB; have HB := n0_; have BK106 := n1_; have GW106 := n2_; have GE106 := n3_; clear n0_ n1_ n2_ n3_; clear hb hbox hg; have hcz21_0 : w20.cell? ⟨gb106, 0, none⟩ = some (.int .i64 a1_0) := (blk_cell BK106.out 0).trans rfl; have hcz21_1 : w20.cell? ⟨gb106, 1, none⟩ = some (.int .i64 a1_1) := (blk_cell BK106.out 1).trans rfl; have hfz21_0 := blk_frozen BK106.out 0; have hfz21_1 := blk_frozen BK106.out 1) | ((with_reducible refine gate_callee (f := 31) rfl ?_); refine goesL_ (some 12) rfl rfl Tryd.func31 (by kernel_rfl) rfl #[.string a0, .int .i64 ji3] rfl (by (try simp only [List.map_toArray, List.map_cons, List.map_nil]); first | done | (simp only [hji3]; rfl) | rfl | (simp only [List.length_drop, List.length_take]; rfl)) ?_; (with_reducible refine (lines_Line.calls a0 ji3 t107 t108 false _ A4.out).mono ?_); rintro e w22 ⟨rfl, hb⟩; refine ⟨_, rfl, ?_⟩; have n0_ := Aside0.mk (blk_below (g := gb106) (o := .cells #[.int .i64 a1_0, .int .i64 a1_1] 34 (0, 0)) (by (with_reducible repeat (first | refine blk_drewN ?_ _ | refine blk_drew ?_ | refine blk_alloc ?_ _)); exact BK106.out) hb); have n1_ := Aside0.mk (below_step (by repeat (first | (with_reducible first | exact HB.out | apply below_alloc | apply pw_below_drewN | apply below_drew1 | refine below_set ?_ GE106.out) | exact HB.out)) hb); clear BK106; clear HB; have BK106 := n0_; have HB := n1_; clear n0_ n1_; (try clear hb); (try clear hb2); (try clear hk); (try clear hi)) | ((with_reducible refine gate_dst (N := 5) rfl ?_); refine box_event ?hg (N := 5) ?hd (cs := #[.int .i64 0, .int .i64 0]) (t := 40) ?hr ?_; (case hd => rfl); (case hg => rfl); (case hr => first | (go_simp; done) | (go_simp; rfl)); intro gb110 hg w23 hbox hb; have n0_ := Aside0.mk (blk_below (g := gb106) (o := .cells #[.int .i64 a1_0, .int .i64 a1_1] 34 (0, 0)) (by (with_reducible repeat (first | refine blk_drewN ?_ _ | refine blk_drew ?_ | refine blk_alloc ?_ _)); exact BK106.out) hb); have n1_ := Aside0.mk (below_step (by repeat (first | (with_reducible first | exact HB.out | apply below_alloc | apply pw_below_drewN | apply below_drew1 | refine below_set ?_ GE106.out) | exact HB.out)) hb); have n2_ := Aside0.mk (hbox); have n3_ := Aside0.mk ((by rw [hg]; exact (below_size (by repeat (first | (with_reducible first | exact HB.out | apply below_alloc | apply pw_below_drewN | apply below_drew1 | refine below_set ?_ GE106.out) | exact HB.out))) : w.heap.size ≤ gb110)); have n4_ := Aside0.mk ((by rw [hg]; exact (below_size (by repeat (first | (with_reducible first | exact HB.out | apply below_alloc | apply pw_below_drewN | apply below_drew1 | refine below_set ?_ GE106.out) | exact HB.out))) : w.heap.size ≤ gb110)); have n5_ := Aside0.mk ((by rw [hg]; exact Nat.ne_of_lt (blk_lt (g := gb106) (o := .cells #[.int .i64 a1_0, .int .i64 a1_1] 34 (0, 0)) (by (with_reducible repeat (first | refine blk_drewN ?_ _ | refine blk_drew ?_ | refine blk_alloc ?_ _)); exact BK106.out)) : gb106 ≠ gb110)); have n6_ := Aside0.mk ((by rw [hg]; exact Nat.ne_of_gt (blk_lt (g := gb106) (o := .cells #[.int .i64 a1_0, .int .i64 a1_1] 34 (0, 0)) (by (with_reducible repeat (first | refine blk_drewN ?_ _ | refine blk_drew ?_ | refine blk_alloc ?_ _)); exact BK106.out)) : gb110 ≠ gb106)); clear BK106; clear HB; have BK106 := n0_; have HB := n1_; have BK110 := n2_; have GW110 := n3_; have GE110 := n4_; have NB106_110 := n5_; have NB110_106 := n6_; clear n0_ n1_ n2_ n3_ n4_ n5_ n6_; clear hb hbox hg; have hnb24 := NB110_106.out; have hnc24 := NB106_110.out; have hcz25_0 : w23.cell? ⟨gb110, 0, none⟩ = some (.int .i64 0) := (blk_cell BK110.out 0).trans rfl; have hcz25_1 : w23.cell? ⟨gb110, 1, none⟩ = some (.int .i64 0) := (blk_cell BK110.out 1).trans rfl; have hfz25_0 := blk_frozen BK110.out 0; have hfz25_1 := blk_frozen BK110.out 1))
    go_ret
    exact ⟨by first | rfl | (simp [errW_none, errW_some] <;> rfl) | (simp only [← hji3]; first | rfl | (simp [errW_none, errW_some] <;> rfl)) | (simp [*, errW_none, errW_some] <;> rfl), by repeat (first | (with_reducible first | exact HB.out | apply below_alloc | apply pw_below_drewN | apply below_drew1 | refine below_set ?_ GE106.out | refine below_set ?_ GE110.out) | exact HB.out)⟩

/-! ### utf_Units: function 22 (by hand) -/
def utf_Units.f (a0 : ByteArray) : Option Int := if a0.size ≤ 140737488351232 then some (XUtf.units a0 a0.size 0 0) else none
set_option maxRecDepth 100000 in
theorem utf_Units.calls (a0 : ByteArray) (r : Int) (w : World) (h : utf_Units.f a0 = some r) :
    Calls Tryd.prog 22 #[.string a0] w fun e w' => e = .returned (.int .i64 r) ∧ Below w.heap.size w w' := by
  unfold utf_Units.f at h
  split at h
  · rename_i hsz
    obtain rfl := Option.some.inj h
    have hsz' : (a0.size : Int) ≤ 140737488351232 := by omega
    clear h hsz
    go_enter Tryd.func22, Tryd.ntmps22
    go_wp2
    go_loopw [3] (fun n w' => ∃ (pos b : Nat) (acc : Int), w' = w.iter a0 pos ∧ n = .int .i64 acc ∧ Aside0 (XUtf.units a0 b pos acc = XUtf.units a0 a0.size 0 0) ∧ a0.size ≤ pos + b ∧ 0 ≤ acc ∧ acc ≤ 2 * (pos : Int) ∧ pos ≤ a0.size) (fun _ w' => a0.size - w'.iterPos w.heap.size)
    case atStart => exact ⟨0, a0.size, 0, rfl, rfl, ⟨rfl⟩, by omega, by omega, by omega, by omega⟩
    case round =>
      obtain ⟨pos, b, acc, rfl, rfl, hc, hb, h0, h1, hle⟩ := hrel
      by_cases hp : pos < a0.size
      · have hnx : ∀ ty, (Instr.next (.pointer (some ⟨w.heap.size, 0, none⟩)) true ty).run Tryd.prog (w.iter a0 pos) = _ := fun ty => run_next_any w a0 pos ty hp
        have hwd := Lib.decode_width_pos a0 pos hp
        have hfit := XUtf.decode_fit a0 pos hp
        have hst := XUtf.units_step a0 b pos acc hp
        by_cases hbig : 65536 ≤ ((Utf8.decode a0 pos).1 : Int)
        · have hu : XUtf.uOf (Utf8.decode a0 pos).1 = 2 := by unfold XUtf.uOf; rw [if_pos (by omega)]
          have h2 : 2 ≤ (Utf8.decode a0 pos).2 := XUtf.big_width a0 pos (by omega)
          have HST := Aside0.mk ((hst hb).symm.trans hc.out)
          have HU := Aside0.mk hu
          clear hst hu hc
          go_wp2
          go_roundw
          case rel => exact ⟨pos + (Utf8.decode a0 pos).2, b - 1, acc + 2, rfl, rfl, ⟨by rw [← HU.out]; exact HST.out⟩, by omega, by omega, by omega, by omega⟩
          case measure => simp; omega
        · have hu : XUtf.uOf (Utf8.decode a0 pos).1 = 1 := by unfold XUtf.uOf; rw [if_neg (by omega)]
          have HST := Aside0.mk ((hst hb).symm.trans hc.out)
          have HU := Aside0.mk hu
          clear hst hu hc
          go_wp2
          go_roundw
          case rel => exact ⟨pos + (Utf8.decode a0 pos).2, b - 1, acc + 1, rfl, rfl, ⟨by rw [← HU.out]; exact HST.out⟩, by omega, by omega, by omega, by omega⟩
          case measure => simp; omega
      · have hnx : ∀ ty, (Instr.next (.pointer (some ⟨w.heap.size, 0, none⟩)) true ty).run Tryd.prog (w.iter a0 pos) = _ := fun ty => run_next_end w a0 pos ty hp
        have HD := Aside0.mk ((XUtf.units_done a0 b pos acc hp).symm.trans hc.out)
        clear hc
        go_wp2
        go_ret
        exact ⟨congrArg (fun z => Ending.returned (.int .i64 z)) HD.out, (Below.refl _ _).alloc (Nat.le_refl _) _⟩
  · cases h
/-! ### lines_Pos: function 26 (by hand) -/
attribute [local go_sem] Oper.semAt_some
def unitsOf (s : ByteArray) : Int := XUtf.units s s.size 0 0
/-- The place by lines that the last one of some lines gives. -/
def lastPos {s : ByteArray} (t : Int) (l : List (Ln s)) : Int × Int := match l.getLast? with | none => (0, 0) | some x => ((x.1.1 : Int), unitsOf (s.extract x.1.2.1 (min t (x.1.2.2 : Int)).toNat))
def posOf {s : ByteArray} (t : Int) (l : List (Ln s)) : Int × Int := lastPos t (l.takeWhile (fun x => decide ((x.1.2.1 : Int) ≤ t)))
theorem posOf_snoc {s : ByteArray} {t : Int} {l : List (Ln s)} {x : Ln s} (h : ∀ y ∈ l, ((y.1.2.1 : Int) ≤ t)) (hx : (x.1.2.1 : Int) ≤ t) : posOf t (l ++ [x]) = ((x.1.1 : Int), unitsOf (s.extract x.1.2.1 (min t (x.1.2.2 : Int)).toNat)) := by
  unfold posOf
  rw [List.takeWhile_append_of_pos (by simpa using h), List.takeWhile_cons_of_pos (by simpa using hx)]
  simp [lastPos]
theorem posOf_stop {s : ByteArray} {t : Int} {l : List (Ln s)} {x : Ln s} (h : ∀ y ∈ l, ((y.1.2.1 : Int) ≤ t)) (hx : ¬ (x.1.2.1 : Int) ≤ t) (r : List (Ln s)) : posOf t (l ++ [x] ++ r) = posOf t l := by
  unfold posOf
  rw [List.append_assoc, List.takeWhile_append_of_pos (by simpa using h), List.singleton_append, List.takeWhile_cons_of_neg (by simpa using hx), List.append_nil]
  congr 1
  have := List.takeWhile_append_of_pos (p := fun x : Ln s => decide ((x.1.2.1 : Int) ≤ t)) (l₁ := l) (l₂ := []) (by simpa using h)
  simpa using this.symm
def lines_Pos.f (k : Nat) (a0 : ByteArray) (a1 : Int) : Option (Int × Int) := if a0.size < 4294967281 then (utf_Begin.f k a0 a1).bind fun t => some (posOf t (lns a0)) else none
theorem lines_Pos.mono : ∀ a0 a1 k, LeO (lines_Pos.f k a0 a1) (lines_Pos.f (k + 1) a0 a1) := by
  intro a0 a1 k
  unfold lines_Pos.f
  exact LeO.ite (LeO.bind (utf_Begin.mono a0 a1 k) (fun _ => LeO.refl _)) (LeO.refl _)
theorem results_pos {fn : Func} {p : Tmp} (h : fn.results = #[.cell p 34]) (tmps : Array Value) (W : World) {B : Nat} {v1 v2 : Int} (hp : tmps.getD p undef = .pointer (some ⟨B, 0, none⟩))
    (h1 : Boxed2 W B 34 (.int .i64 v1) (.int .i64 v2)) : (results fn tmps).run Tryd.prog W = .ok (.agg #[.int .i64 v1, .int .i64 v2]) W := by
  have c0 := h1.cell0
  have c1 := h1.cell1
  have hp' : tmps[p]?.getD undef = .pointer (some ⟨B, 0, none⟩) := by simpa using hp
  simp [results, h, hp', asAddr]
  go_simp
theorem keeps_below {W w' : World} (hb : Below W.heap.size W w') : KeepsOthers W w' := ⟨hb.size, fun k o hk _ => (hb.block k (Array.getElem?_eq_some_iff.1 hk).1).trans hk⟩
theorem pos_leave {w W W0 : World} {D P : Nat} {tmps : Array Value} {r1 r2 : Int} (hD : W0.heap.size ≤ D) (hsz : W0.heap.size = P + 2) (hsz1 : w.heap.size + 3 ≤ P) (bR1 : Boxed2 W (w.heap.size + 1 + 1) 34 (.int .i64 0) (.int .i64 0)) (hB1 : Below w.heap.size w W) (hK : W.heap[D]? = some (.deferred (some [])))
    (ht : tmps.getD 4 undef = .pointer (some ⟨w.heap.size + 1 + 1, 0, none⟩) := by rfl) :
    bodyPostM Fence.wide 3 Tryd.prog Tryd.f26 (fun e w' => e = .returned (.agg #[.int .i64 r1, .int .i64 r2]) ∧ Below w.heap.size w w') Exit.ret { tmps := tmps, defers := [{ target := .collected D, args := #[] }] }
      ((W.setCell ⟨w.heap.size + 1 + 1, 0, none⟩ (.int .i64 r1)).setCell ⟨w.heap.size + 1 + 1, 1, none⟩ (.int .i64 r2)) := by
  have bX2 := (bR1.set0 (.int .i64 r1)).set1 (.int .i64 r2)
  have hB2 := (hB1.setCell (p := ⟨w.heap.size + 1 + 1, 0, none⟩) (by simp; omega) (.int .i64 r1)).setCell (p := ⟨w.heap.size + 1 + 1, 1, none⟩) (by simp; omega) (.int .i64 r2)
  have hK2 : ((W.setCell ⟨w.heap.size + 1 + 1, 0, none⟩ (.int .i64 r1)).setCell ⟨w.heap.size + 1 + 1, 1, none⟩ (.int .i64 r2)).heap[D]? = some (.deferred (some [])) := by
    rw [Below.heap_setCell _ _ _ _ (by simp; omega), Below.heap_setCell _ _ _ _ (by simp; omega)]; exact hK
  refine ⟨by simp, .inl ⟨_, _, rfl, run_takeDeferred hK2, ?_⟩⟩
  have bX3 := bX2.kept (grownBy_putObj' _ D (.deferred none)) (by simp; omega)
  exact ⟨_, results_pos rfl _ _ ht bX3, rfl, hB2.trans (belowK_b (w := w) (Nat.le_refl _) _ D _ _ (by omega) hK2 rfl rfl)⟩
set_option maxRecDepth 100000 in
set_option maxHeartbeats 4000000 in
theorem lines_Pos.calls (k : Nat) (a0 : ByteArray) (a1 : Int) (r1 r2 : Int) (w : World) (hG : GlobOk w) (h : lines_Pos.f k a0 a1 = some (r1, r2)) :
    Calls Tryd.prog 26 #[.string a0, .int .i64 a1] w fun e w' => e = .returned (.agg #[.int .i64 r1, .int .i64 r2]) ∧ Below w.heap.size w w' := by
  unfold lines_Pos.f at h
  split at h
  case isFalse => cases h
  rename_i hs
  cases ht : utf_Begin.f k a0 a1 with
  | none => rw [ht] at h; cases h
  | some t =>
  rw [ht] at h
  replace h : posOf t (lns a0) = (r1, r2) := Option.some.inj h
  have HH := Aside0.mk h
  clear h
  have hBg := utf_Begin.calls k a0 a1 t (((w.alloc (.cells #[.string a0] 9)).alloc (.cells #[.int .i64 a1] 3)).alloc (.cells #[.int .i64 0, .int .i64 0] 34)) (hG.below ((((Below.refl _ w).alloc (Nat.le_refl _) _).alloc (by simp) _).alloc (by simp; omega) _)) ht
  refine (callsIn_wide (n := 3)).1 ?_
  refine callsIn_of_wp_marks Tryd.func26 rfl trivial ?_ rfl
  simp only [Tryd.ntmps26, List.size_toArray, List.length_cons, List.length_nil, Nat.reduceAdd, Nat.reduceSub, Array.replicate_succ, Array.replicate_zero, List.push_toArray, List.append_toArray, List.nil_append, List.cons_append]
  have hB0 : Below w.heap.size w (((w.alloc (.cells #[.string a0] 9)).alloc (.cells #[.int .i64 a1] 3)).alloc (.cells #[.int .i64 0, .int .i64 0] 34)) := (((Below.refl _ w).alloc (Nat.le_refl _) _).alloc (by simp) _).alloc (by simp; omega) _
  have bS := ((Boxed.new w 9 (.string a0)).alloc (.cells #[.int .i64 a1] 3)).alloc (.cells #[.int .i64 0, .int .i64 0] 34)
  have bT := (Boxed.new (w.alloc (.cells #[.string a0] 9)) 3 (.int .i64 a1)).alloc (.cells #[.int .i64 0, .int .i64 0] 34)
  have bR := Boxed2.new ((w.alloc (.cells #[.string a0] 9)).alloc (.cells #[.int .i64 a1] 3)) 34 (.int .i64 0) (.int .i64 0)
  have hsz : (((w.alloc (.cells #[.string a0] 9)).alloc (.cells #[.int .i64 a1] 3)).alloc (.cells #[.int .i64 0, .int .i64 0] 34)).heap.size = w.heap.size + 3 := by simp
  simp only [World.size_alloc] at bT bR
  gi_wp2_with (refine ⟨trivial, ?_⟩; gi_at_call 19; refine (callsIn_wide.2 hBg).mono ?_; clear hBg; rintro e w1 ⟨rfl, hb1⟩; have cS := (show Boxed w1 w.heap.size 9 (.string a0) from (hb1.block _ bS.lt).trans bS).cell; have bT1 : Boxed w1 (w.heap.size + 1) 3 (.int .i64 a1) := (hb1.block _ bT.lt).trans bT; have cT := bT1.cell; have fT := bT1.frozen; have cS2 := (((show Boxed w1 w.heap.size 9 (.string a0) from (hb1.block _ bS.lt).trans bS).other (B' := w.heap.size + 1) (by omega) (.int .i64 t)).alloc (.cells #[.int .i64 0, .int .i64 0] 34)).cell)
  gi_wp2_with (refine ⟨trivial, ?_⟩; gi_at_call 42; refine (each_in _ _ _).mono ?_; rintro e w' ⟨rfl, rfl⟩)
  have bS1 : Boxed w1 w.heap.size 9 (.string a0) := (hb1.block _ bS.lt).trans bS
  have bR1 : Boxed2 w1 (w.heap.size + 1 + 1) 34 (.int .i64 0) (.int .i64 0) := (hb1.block _ bR.lt).trans bR
  have hB1 : Below w.heap.size w w1 := hB0.trans (hb1.mono (by omega))
  have hsz1 : w.heap.size + 3 ≤ w1.heap.size := by have := hb1.size; omega
  have qS := ((bS1.other (B' := w.heap.size + 1) (by omega) (.int .i64 t)).alloc (.cells #[.int .i64 0, .int .i64 0] 34)).alloc (.cells #[.string a0] 9)
  have qT := ((bT1.set (.int .i64 t)).alloc (.cells #[.int .i64 0, .int .i64 0] 34)).alloc (.cells #[.string a0] 9)
  have qR := ((bR1.other ⟨w.heap.size + 1, 0, none⟩ (.int .i64 t) (by simp)).alloc (.cells #[.int .i64 0, .int .i64 0] 34)).alloc (.cells #[.string a0] 9)
  have qP := (Boxed2.new (w1.setCell ⟨w.heap.size + 1, 0, none⟩ (.int .i64 t)) 34 (.int .i64 0) (.int .i64 0)).alloc (.cells #[.string a0] 9)
  have qE := Boxed.new ((w1.setCell ⟨w.heap.size + 1, 0, none⟩ (.int .i64 t)).alloc (.cells #[.int .i64 0, .int .i64 0] 34)) 9 (.string a0)
  have hBq : Below w.heap.size w (((w1.setCell ⟨w.heap.size + 1, 0, none⟩ (.int .i64 t)).alloc (.cells #[.int .i64 0, .int .i64 0] 34)).alloc (.cells #[.string a0] 9)) := ((hB1.setCell (p := ⟨w.heap.size + 1, 0, none⟩) (by simp) _).alloc (by simp; omega) _).alloc (by simp; omega) _
  have hsq : (w1.setCell ⟨w.heap.size + 1, 0, none⟩ (.int .i64 t)).heap.size = w1.heap.size := by simp
  simp only [World.size_alloc, hsq] at qP qE ⊢
  clear hb1 cS2 cS bT1 cT fT bS1 bR1 hB1 bS bT bR hB0 hsz
  obtain ⟨P, hP⟩ : ∃ P, w1.heap.size = P := ⟨_, rfl⟩
  obtain ⟨W0, hW0⟩ : ∃ W0, (((w1.setCell ⟨w.heap.size + 1, 0, none⟩ (.int .i64 t)).alloc (.cells #[.int .i64 0, .int .i64 0] 34)).alloc (.cells #[.string a0] 9)) = W0 := ⟨_, rfl⟩
  have hsz : W0.heap.size = P + 2 := by rw [← hW0]; simp; omega
  rw [hP] at qP qE hsz1
  rw [hW0] at qS qT qR qP qE hBq
  rw [hW0]
  rw [hP]
  clear hW0 hP
  refine wpIn_rangeFunc_ownH rfl (by decide) (gf := 51) (lb := #[.pointer (some ⟨P + 1, 0, none⟩)]) rfl trivial (enters_of Tryd.func51 (by kernel_rfl) rfl)
    (each_stops a0 hs 2 (by decide) (P + 1) _ qE) kbox_t (kbox_b (by omega)) (Below.refl _ _) (fun _ => rfl)
    (fun pre W => (((Boxed W w.heap.size 9 (.string a0) ∧ Boxed W (w.heap.size + 1) 3 (.int .i64 t)) ∧ (Boxed2 W (w.heap.size + 1 + 1) 34 (.int .i64 0) (.int .i64 0) ∧ Boxed2 W P 34 (.int .i64 (posOf t pre).1) (.int .i64 (posOf t pre).2))) ∧ Boxed W (P + 1) 9 (.string a0)) ∧ ((∀ y ∈ pre, (y.1.2.1 : Int) ≤ t) ∧ Below w.heap.size w W))
    (fun c pre W => (Boxed2 W (w.heap.size + 1 + 1) 34 (.int .i64 0) (.int .i64 0) ∧ Boxed2 W P 34 (.int .i64 (posOf t pre).1) (.int .i64 (posOf t pre).2)) ∧ ((c = .exit 0 ∧ ∃ l x, pre = l ++ [x] ∧ (∀ y ∈ l, (y.1.2.1 : Int) ≤ t) ∧ ¬ (x.1.2.1 : Int) ≤ t) ∧ Below w.heap.size w W))
    (OwnFrom.and (OwnFrom.and (OwnFrom.and (OwnFrom.and (Own.from (boxed_own _ _ _) _) (Own.from (boxed_own _ _ _) _)) (OwnFrom.and (Own.from (boxed2_own _ _ (fun _ => _) (fun _ => _)) _) (Own.from (boxed2_own _ _ (fun pre => Value.int .i64 (posOf t pre).1) (fun pre => Value.int .i64 (posOf t pre).2)) _))) (Own.from (boxed_own _ _ _) _)) (OwnFrom.and (ownFrom_pure _ _) (ownFrom_below (Nat.le_refl _) (by omega))))
    (fun c => OwnFrom.and (OwnFrom.and (Own.from (boxed2_own _ _ (fun _ => _) (fun _ => _)) _) (Own.from (boxed2_own _ _ (fun pre => Value.int .i64 (posOf t pre).1) (fun pre => Value.int .i64 (posOf t pre).2)) _)) (OwnFrom.and (ownFrom_pure _ _) (ownFrom_below (Nat.le_refl _) (by omega))))
    ⟨⟨⟨⟨qS, qT⟩, qR, qP⟩, qE⟩, by simp, hBq⟩
    (fun x a' W => ∃ Bx, P + 1 < Bx ∧ Boxed2 W Bx 40 (.int .i64 x.1.2.1) (.int .i64 x.1.2.2) ∧ a' = { tmps := #[.string a0, .int .i64 a1, .pointer (some ⟨w.heap.size, 0, none⟩), .pointer (some ⟨w.heap.size + 1, 0, none⟩), .pointer (some ⟨w.heap.size + 1 + 1, 0, none⟩), .pointer (some ⟨P, 0, none⟩), .int .i64 x.1.1, .pointer (some ⟨Bx, 0, none⟩), .string a0, .int .i64 a1, .int .i64 t, .string a0, .func (.func 51) #[] #[.pointer (some ⟨P + 1, 0, none⟩)], .int .i64 x.1.1, .agg #[.int .i64 x.1.2.1, .int .i64 x.1.2.2], undef, undef, undef, undef, undef, undef, undef, undef, undef, undef, undef, undef, undef, undef, undef, undef], defers := [] })
    (fun x a' _ X Y row hs hg hr => by obtain ⟨Bx, h1, h2, h3⟩ := hs; exact ⟨Bx, h1, boxed2_own Bx _ (fun (_ : Unit) => Value.int .i64 x.1.2.1) (fun (_ : Unit) => Value.int .i64 x.1.2.2) () X Y row h2 hg (fun r e => (hr r e).2), h3⟩)
    ?assign ?body ?done ?stop
  case assign =>
    rintro l pre x W K ⟨⟨⟨⟨bS1, bT1⟩, bR1, bP1⟩, bE1⟩, hle, hB1⟩ hK
    simp only [encLn]
    gi_wp2
    exact hK _ _ ((KeepsOthers.alloc _ _).from _) (kbox_alloc _ _ bE1.lt) ⟨⟨⟨⟨bS1.alloc _, bT1.alloc _⟩, bR1.alloc _, bP1.alloc _⟩, bE1.alloc _⟩, hle, hB1.alloc hB1.size _⟩ ⟨W.heap.size, bE1.lt, Boxed2.new W 40 _ _, rfl⟩
  case body =>
    rintro l pre x a' W hl _ ⟨⟨⟨⟨bS1, bT1⟩, bR1, bP1⟩, bE1⟩, hle, hB1⟩ ⟨Bx, hBx, bx, rfl⟩ hlt
    have cS := bS1.cell
    have cT := bT1.cell
    have cP0 := bP1.cell0
    have cP1 := bP1.cell1
    have fP0 := bP1.frozen 0
    have fP1 := bP1.frozen 1
    have cx0 := bx.cell0
    have cx1 := bx.cell1
    by_cases hx : (x.1.2.1 : Int) ≤ t
    · have hx2 := x.2
      have hps := posOf_snoc hle hx
      by_cases hm : t ≤ (x.1.2.2 : Int)
      · have hq2 : t ≤ (a0.size : Int) := by omega
        have hq3 : (x.1.2.1 : Int) ≤ t := by omega
        have hmin : min t (x.1.2.2 : Int) = t := by omega
        have hnt : ¬ t < (x.1.2.1 : Int) := by omega
        have hsu : (a0.extract x.1.2.1 t.toNat).size ≤ 140737488351232 := by rw [ByteArray.size_extract]; omega
        have hun := fun W => utf_Units.calls (a0.extract x.1.2.1 t.toNat) (unitsOf (a0.extract x.1.2.1 t.toNat)) W (if_pos hsu)
        rw [hmin] at hps
        have HP := Aside0.mk hps
        clear hps hsu hx2 hmin
        gi_wp2_with (refine ⟨trivial, ?_⟩; gi_at_call 22; refine (CallsIn.inRound l (callsIn_wide.2 (hun W))).mono ?_; clear hun; rintro e w' ⟨rfl, hb⟩; have bP2 : Boxed2 w' P 34 _ _ := (hb.block _ bP1.lt).trans bP1; have dP0 := bP2.cell0; have dP1 := bP2.cell1; have gP0 := bP2.frozen 0; have gP1 := bP2.frozen 1)
        have mS : Boxed w' w.heap.size 9 (.string a0) := (hb.block _ bS1.lt).trans bS1
        have mT : Boxed w' (w.heap.size + 1) 3 (.int .i64 t) := (hb.block _ bT1.lt).trans bT1
        have mR : Boxed2 w' (w.heap.size + 1 + 1) 34 (.int .i64 0) (.int .i64 0) := (hb.block _ bR1.lt).trans bR1
        have mE : Boxed w' (P + 1) 9 (.string a0) := (hb.block _ bE1.lt).trans bE1
        refine ⟨((keeps_below hb).from _).trans (((KeepsOthers.setCell _ _ _).from _).trans ((KeepsOthers.setCell _ _ _).from _)), kbox_t (kbox_t (hb.block _ bE1.lt) (kbox_set _ _ _ (by simp))) (kbox_set _ _ _ (by simp)), ⟨⟨⟨⟨(mS.other2 (a := ⟨P, 0, none⟩) (by simp; omega) _).other2 (a := ⟨P, 1, none⟩) (by simp; omega) _, (mT.other2 (a := ⟨P, 0, none⟩) (by simp; omega) _).other2 (a := ⟨P, 1, none⟩) (by simp; omega) _⟩, (mR.other _ _ (by simp; omega)).other _ _ (by simp; omega), ?_⟩, (mE.other2 (a := ⟨P, 0, none⟩) (by simp) _).other2 (a := ⟨P, 1, none⟩) (by simp) _⟩, ?_, ?_⟩⟩
        · rw [HP.out]
          exact (bP2.set0 _).set1 _
        · intro y hy
          rcases List.mem_append.1 hy with h | h
          · exact hle y h
          · rw [List.mem_singleton.1 h]; exact hx
        · exact ((hB1.trans (hb.mono hB1.size)).setCell (p := ⟨P, 0, none⟩) (by simp; omega) _).setCell (p := ⟨P, 1, none⟩) (by simp; omega) _
      · have hq2 : (x.1.2.2 : Int) ≤ (a0.size : Int) := by omega
        have hq3 : (x.1.2.1 : Int) ≤ (x.1.2.2 : Int) := by omega
        have hmin : min t (x.1.2.2 : Int) = (x.1.2.2 : Int) := by omega
        have hnt : ¬ t < (x.1.2.1 : Int) := by omega
        have hsu : (a0.extract x.1.2.1 x.1.2.2).size ≤ 140737488351232 := by rw [ByteArray.size_extract]; omega
        have hun := fun W => utf_Units.calls (a0.extract x.1.2.1 x.1.2.2) (unitsOf (a0.extract x.1.2.1 x.1.2.2)) W (if_pos hsu)
        rw [hmin] at hps
        have HP := Aside0.mk hps
        clear hps hsu hx2 hmin
        gi_wp2_with (refine ⟨trivial, ?_⟩; gi_at_call 22; refine (CallsIn.inRound l (callsIn_wide.2 (hun W))).mono ?_; clear hun; rintro e w' ⟨rfl, hb⟩; have bP2 : Boxed2 w' P 34 _ _ := (hb.block _ bP1.lt).trans bP1; have dP0 := bP2.cell0; have dP1 := bP2.cell1; have gP0 := bP2.frozen 0; have gP1 := bP2.frozen 1)
        have mS : Boxed w' w.heap.size 9 (.string a0) := (hb.block _ bS1.lt).trans bS1
        have mT : Boxed w' (w.heap.size + 1) 3 (.int .i64 t) := (hb.block _ bT1.lt).trans bT1
        have mR : Boxed2 w' (w.heap.size + 1 + 1) 34 (.int .i64 0) (.int .i64 0) := (hb.block _ bR1.lt).trans bR1
        have mE : Boxed w' (P + 1) 9 (.string a0) := (hb.block _ bE1.lt).trans bE1
        refine ⟨((keeps_below hb).from _).trans (((KeepsOthers.setCell _ _ _).from _).trans ((KeepsOthers.setCell _ _ _).from _)), kbox_t (kbox_t (hb.block _ bE1.lt) (kbox_set _ _ _ (by simp))) (kbox_set _ _ _ (by simp)), ⟨⟨⟨⟨(mS.other2 (a := ⟨P, 0, none⟩) (by simp; omega) _).other2 (a := ⟨P, 1, none⟩) (by simp; omega) _, (mT.other2 (a := ⟨P, 0, none⟩) (by simp; omega) _).other2 (a := ⟨P, 1, none⟩) (by simp; omega) _⟩, (mR.other _ _ (by simp; omega)).other _ _ (by simp; omega), ?_⟩, (mE.other2 (a := ⟨P, 0, none⟩) (by simp) _).other2 (a := ⟨P, 1, none⟩) (by simp) _⟩, ?_, ?_⟩⟩
        · rw [HP.out]
          exact (bP2.set0 _).set1 _
        · intro y hy
          rcases List.mem_append.1 hy with h | h
          · exact hle y h
          · rw [List.mem_singleton.1 h]; exact hx
        · exact ((hB1.trans (hb.mono hB1.size)).setCell (p := ⟨P, 0, none⟩) (by simp; omega) _).setCell (p := ⟨P, 1, none⟩) (by simp; omega) _
    · have hx' : t < (x.1.2.1 : Int) := by omega
      gi_wp2
      exact ⟨KeepsFrom.refl _ _, ⟨bR1, by have := posOf_stop hle (show ¬ (x.1.2.1 : Int) ≤ t by omega) []; rw [List.append_nil] at this; rw [this]; exact bP1⟩, ⟨rfl, pre, x, rfl, hle, by omega⟩, hB1⟩
  case done =>
    rintro D ys W hD rfl ⟨⟨⟨⟨bS1, bT1⟩, bR1, bP1⟩, bE1⟩, hle, hB1⟩ hK
    have cP0 := bP1.cell0
    have cP1 := bP1.cell1
    have cR0 := bR1.cell0
    have cR1 := bR1.cell1
    have fR0 := bR1.frozen 0
    have fR1 := bR1.frozen 1
    rw [HH.out] at bP1 cP0 cP1
    gi_wp2
    exact pos_leave hD hsz hsz1 bR1 hB1 hK
  case stop =>
    rintro D c pre W hD hp ⟨⟨bR1, bP1⟩, ⟨rfl, l, x, rfl, hle, hx⟩, hB1⟩ hK
    obtain ⟨r, hr⟩ := hp
    have e1 := posOf_stop hle hx r
    rw [hr, HH.out] at e1
    have e2 := posOf_stop hle hx []
    rw [List.append_nil, ← e1] at e2
    rw [e2] at bP1
    have cP0 := bP1.cell0
    have cP1 := bP1.cell1
    have cR0 := bR1.cell0
    have cR1 := bR1.cell1
    have fR0 := bR1.frozen 0
    have fR1 := bR1.frozen 1
    gi_wp2
    exact pos_leave hD hsz hsz1 bR1 hB1 hK

end Go.Proofs.YtfjanedappcolaaDoor.Q
