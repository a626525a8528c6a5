-- Written by this repo's wip/xprint.py (over the kit's print.py) out of the translation. Not trusted: Lean checks it.
import Derived.Test.YtfjanedappcolaaDoorQ0
import Derived.Test.YtfjanedappcolaaDoorQ1
import Derived.Test.YtfjanedappcolaaDoorQ2
import Derived.Test.YtfjanedappcolaaDoorQ3
import Derived.Test.YtfjanedappcolaaDoorQ4
import Derived.Test.YtfjanedappcolaaDoorQ5
namespace Go.Proofs.YtfjanedappcolaaDoor.Q
open Go.RowKit Go.Proofs.YtfjanedappcolaaDoorW.PrintWords Go.Proofs.YtfjanedappcolaaDoorW.PrintLast Go.Proofs.YtfjanedappcolaaDoorW.PrintMore
attribute [local go_sem] max2_int min2_int max_two min_two max_three min_three max_four min_four   -- for this text's walks alone
set_option linter.unusedVariables false
set_option linter.unusedSimpArgs false

attribute [local go_sem high] eqA34 eqA40
/-! ### glossatorlaw02_awake: function 30 -/
def glossatorlaw02_awake.j0 : Nat → ByteArray → Bool → Option (Bool)
  | 0, _, _ => none
  | k + 1, x1, x39 => if x39 = true then (some false) else ((lines_Offset.f x1 1 2).bind fun t129 => (if t129 = 6 then ((lines_Offset.f x1 0 9).bind fun t130 => (if t130 = 2 then ((lines_Pos.f k x1 8).bind fun bt131 => (if (bt131.1 == 1 && (bt131.2 == 1)) = true then ((lines_Pos.f k x1 3).bind fun bt133 => (if (bt133.1 == 0 && (bt133.2 == 2)) = true then ((lines_Offsets.f x1 1 1 0 1).bind fun bt135 => (some (bt135.1 == 1 && (bt135.2 == 6)))) else (some false))) else (some false))) else (some false))) else (some false)))
def glossatorlaw02_awake.f (k : Nat)  : Option (Bool) := (lines_Starts.f (⟨#[97, 98, 13, 10, 195, 169, 240, 159, 152, 128, 99, 10]⟩ : ByteArray)).bind fun t119 => ((lines_Line.f (⟨#[97, 98, 13, 10, 195, 169, 240, 159, 152, 128, 99, 10]⟩ : ByteArray) 1).bind fun bt122 => (if (t119.length : Int) = 3 then (if 1 < (t119.length : Int) then (if (rd t119 1) = 4 then (if 2 < (t119.length : Int) then (if (rd t119 2) = 12 then ((lines_Many.f (⟨#[]⟩ : ByteArray)).bind fun t128 => (if t128 = 1 then (if bt122.2.2 = true then (glossatorlaw02_awake.j0 k (⟨#[97, 98, 13, 10, 195, 169, 240, 159, 152, 128, 99, 10]⟩ : ByteArray) (!(bt122.1 == 4) || (!(bt122.2.1 == 11)))) else (glossatorlaw02_awake.j0 k (⟨#[97, 98, 13, 10, 195, 169, 240, 159, 152, 128, 99, 10]⟩ : ByteArray) true)) else (glossatorlaw02_awake.j0 k (⟨#[97, 98, 13, 10, 195, 169, 240, 159, 152, 128, 99, 10]⟩ : ByteArray) true))) else (glossatorlaw02_awake.j0 k (⟨#[97, 98, 13, 10, 195, 169, 240, 159, 152, 128, 99, 10]⟩ : ByteArray) true)) else (none)) else (glossatorlaw02_awake.j0 k (⟨#[97, 98, 13, 10, 195, 169, 240, 159, 152, 128, 99, 10]⟩ : ByteArray) true)) else (none)) else (glossatorlaw02_awake.j0 k (⟨#[97, 98, 13, 10, 195, 169, 240, 159, 152, 128, 99, 10]⟩ : ByteArray) true)))
theorem glossatorlaw02_awake.mono_l : ∀ k, (∀ y0 y1, LeO (glossatorlaw02_awake.j0 k y0 y1) (glossatorlaw02_awake.j0 (k + 1) y0 y1))
  | 0 => fun _ _ r h => by simp [glossatorlaw02_awake.j0] at h
  | k + 1 => by
    have ih0 := glossatorlaw02_awake.mono_l k
    · intro y0 y1
      unfold glossatorlaw02_awake.j0
      repeat' first
      | (with_reducible exact ih0 _ _)
      | (with_reducible exact lines_Pos.mono _ _ _)
      | (with_reducible exact LeO.refl _)
      | (with_reducible exact LeO.none _)
      | (with_reducible refine LeO.ite ?_ ?_)
      | (with_reducible refine LeO.bind ?_ (fun _ => ?_))
      | exact ih0 _ _
      | exact lines_Pos.mono _ _ _
      | exact LeO.none _
      | refine LeO.ite ?_ ?_
      | refine LeO.bind ?_ (fun _ => ?_)
theorem glossatorlaw02_awake.mono : ∀ k, LeO (glossatorlaw02_awake.f k ) (glossatorlaw02_awake.f (k + 1) ) := by
  intro  k
  have ih0 := glossatorlaw02_awake.mono_l k
  unfold glossatorlaw02_awake.f
  repeat' first
      | (with_reducible exact ih0 _ _)
      | (with_reducible exact lines_Pos.mono _ _ _)
      | (with_reducible exact LeO.refl _)
      | (with_reducible exact LeO.none _)
      | (with_reducible refine LeO.ite ?_ ?_)
      | (with_reducible refine LeO.bind ?_ (fun _ => ?_))
      | exact ih0 _ _
      | exact lines_Pos.mono _ _ _
      | exact LeO.none _
      | refine LeO.ite ?_ ?_
      | refine LeO.bind ?_ (fun _ => ?_)
set_option maxHeartbeats 8000000 in
set_option maxRecDepth 100000 in
theorem glossatorlaw02_awake.calls (k : Nat)  (r : Bool) (w : World) (hG : GlobOk w) (h : glossatorlaw02_awake.f k  = some r) :
    Calls Tryd.prog 30 #[] w fun e w' => e = .returned (.bool r) ∧ Below w.heap.size w w' := by
  have HG := Aside0.mk hG
  clear hG
  have hu40 := Tryd.underlying40
  have hu34 := Tryd.underlying34
  have hu36 := Tryd.underlying36
  have HB := Aside0.mk (Below.refl w.heap.size w)
  have H : ((lines_Starts.f (⟨#[97, 98, 13, 10, 195, 169, 240, 159, 152, 128, 99, 10]⟩ : ByteArray)).bind fun t119 => ((lines_Line.f (⟨#[97, 98, 13, 10, 195, 169, 240, 159, 152, 128, 99, 10]⟩ : ByteArray) 1).bind fun bt122 => (if (t119.length : Int) = 3 then (if 1 < (t119.length : Int) then (if (rd t119 1) = 4 then (if 2 < (t119.length : Int) then (if (rd t119 2) = 12 then ((lines_Many.f (⟨#[]⟩ : ByteArray)).bind fun t128 => (if t128 = 1 then (if bt122.2.2 = true then (glossatorlaw02_awake.j0 k (⟨#[97, 98, 13, 10, 195, 169, 240, 159, 152, 128, 99, 10]⟩ : ByteArray) (!(bt122.1 == 4) || (!(bt122.2.1 == 11)))) else (glossatorlaw02_awake.j0 k (⟨#[97, 98, 13, 10, 195, 169, 240, 159, 152, 128, 99, 10]⟩ : ByteArray) true)) else (glossatorlaw02_awake.j0 k (⟨#[97, 98, 13, 10, 195, 169, 240, 159, 152, 128, 99, 10]⟩ : ByteArray) true))) else (glossatorlaw02_awake.j0 k (⟨#[97, 98, 13, 10, 195, 169, 240, 159, 152, 128, 99, 10]⟩ : ByteArray) true)) else (none)) else (glossatorlaw02_awake.j0 k (⟨#[97, 98, 13, 10, 195, 169, 240, 159, 152, 128, 99, 10]⟩ : ByteArray) true)) else (none)) else (glossatorlaw02_awake.j0 k (⟨#[97, 98, 13, 10, 195, 169, 240, 159, 152, 128, 99, 10]⟩ : ByteArray) true)))) = some r := h
  clear h
  replace H := Option.bind_eq_some_iff.mp H
  obtain ⟨t119, A10, H⟩ := H
  replace H : ((lines_Line.f (⟨#[97, 98, 13, 10, 195, 169, 240, 159, 152, 128, 99, 10]⟩ : ByteArray) 1).bind fun bt122 => (if (t119.length : Int) = 3 then (if 1 < (t119.length : Int) then (if (rd t119 1) = 4 then (if 2 < (t119.length : Int) then (if (rd t119 2) = 12 then ((lines_Many.f (⟨#[]⟩ : ByteArray)).bind fun t128 => (if t128 = 1 then (if bt122.2.2 = true then (glossatorlaw02_awake.j0 k (⟨#[97, 98, 13, 10, 195, 169, 240, 159, 152, 128, 99, 10]⟩ : ByteArray) (!(bt122.1 == 4) || (!(bt122.2.1 == 11)))) else (glossatorlaw02_awake.j0 k (⟨#[97, 98, 13, 10, 195, 169, 240, 159, 152, 128, 99, 10]⟩ : ByteArray) true)) else (glossatorlaw02_awake.j0 k (⟨#[97, 98, 13, 10, 195, 169, 240, 159, 152, 128, 99, 10]⟩ : ByteArray) true))) else (glossatorlaw02_awake.j0 k (⟨#[97, 98, 13, 10, 195, 169, 240, 159, 152, 128, 99, 10]⟩ : ByteArray) true)) else (none)) else (glossatorlaw02_awake.j0 k (⟨#[97, 98, 13, 10, 195, 169, 240, 159, 152, 128, 99, 10]⟩ : ByteArray) true)) else (none)) else (glossatorlaw02_awake.j0 k (⟨#[97, 98, 13, 10, 195, 169, 240, 159, 152, 128, 99, 10]⟩ : ByteArray) true))) = some r := H
  have A1 := Aside0.mk A10
  clear A10
  replace H := Option.bind_eq_some_iff.mp H
  obtain ⟨⟨t122, t123, t124⟩, A20, H⟩ := H
  replace H : (if (t119.length : Int) = 3 then (if 1 < (t119.length : Int) then (if (rd t119 1) = 4 then (if 2 < (t119.length : Int) then (if (rd t119 2) = 12 then ((lines_Many.f (⟨#[]⟩ : ByteArray)).bind fun t128 => (if t128 = 1 then (if t124 = true then (glossatorlaw02_awake.j0 k (⟨#[97, 98, 13, 10, 195, 169, 240, 159, 152, 128, 99, 10]⟩ : ByteArray) (!(t122 == 4) || (!(t123 == 11)))) else (glossatorlaw02_awake.j0 k (⟨#[97, 98, 13, 10, 195, 169, 240, 159, 152, 128, 99, 10]⟩ : ByteArray) true)) else (glossatorlaw02_awake.j0 k (⟨#[97, 98, 13, 10, 195, 169, 240, 159, 152, 128, 99, 10]⟩ : ByteArray) true))) else (glossatorlaw02_awake.j0 k (⟨#[97, 98, 13, 10, 195, 169, 240, 159, 152, 128, 99, 10]⟩ : ByteArray) true)) else (none)) else (glossatorlaw02_awake.j0 k (⟨#[97, 98, 13, 10, 195, 169, 240, 159, 152, 128, 99, 10]⟩ : ByteArray) true)) else (none)) else (glossatorlaw02_awake.j0 k (⟨#[97, 98, 13, 10, 195, 169, 240, 159, 152, 128, 99, 10]⟩ : ByteArray) true)) = some r := H
  have A2 := Aside0.mk A20
  clear A20
  have HC3 := Aside0.mk H
  clear H
  go_enter Tryd.func30, Tryd.ntmps30
  go_upto_region 4 with (first | ((with_reducible refine gate_callee (f := 32) rfl ?_); refine goesL_ (some 6) rfl rfl Tryd.func32 (by kernel_rfl) rfl #[.string (⟨#[97, 98, 13, 10, 195, 169, 240, 159, 152, 128, 99, 10]⟩ : ByteArray)] rfl (by (try simp only [List.map_toArray, List.map_cons, List.map_nil]); first | done | rfl | (simp only [List.length_drop, List.length_take]; rfl)) ?_; (with_reducible refine (lines_Starts.calls (⟨#[97, 98, 13, 10, 195, 169, 240, 159, 152, 128, 99, 10]⟩ : ByteArray) t119 _ A1.out).mono ?_); rintro e w4 ⟨v120, rfl, ho0, hb⟩; refine ⟨_, rfl, ?_⟩; have n0_ := Aside0.mk (Kd.R_lower ho0 (below_size (by repeat (first | (with_reducible first | exact HB.out | apply below_alloc | apply pw_below_drewN | apply below_drew1) | exact HB.out)))); have n1_ := Aside0.mk (below_step (by repeat (first | (with_reducible first | exact HB.out | apply below_alloc | apply pw_below_drewN | apply below_drew1) | exact HB.out)) hb); clear HB; have HO121 := n0_; have HB := n1_; clear n0_ n1_; (try clear hb); (try clear hb2); (try clear hk); (try clear hi); (try clear ho0)) | ((with_reducible refine gate_callee (f := 31) rfl ?_); refine goesL_ (some 9) rfl rfl Tryd.func31 (by kernel_rfl) rfl #[.string (⟨#[97, 98, 13, 10, 195, 169, 240, 159, 152, 128, 99, 10]⟩ : ByteArray), .int .i64 1] rfl (by (try simp only [List.map_toArray, List.map_cons, List.map_nil]); first | done | rfl | (simp only [List.length_drop, List.length_take]; rfl)) ?_; (with_reducible refine (lines_Line.calls (⟨#[97, 98, 13, 10, 195, 169, 240, 159, 152, 128, 99, 10]⟩ : ByteArray) 1 t122 t123 t124 _ A2.out).mono ?_); rintro e w5 ⟨rfl, hb⟩; refine ⟨_, rfl, ?_⟩; have n0_ := Aside0.mk (Kd.R_below (by (with_reducible repeat (first | apply Kd.R_alloc | apply Kd.R_drewN | apply Kd.R_drew)); exact HO121.out) hb); have n1_ := Aside0.mk (below_step (by repeat (first | (with_reducible first | exact HB.out | apply below_alloc | apply pw_below_drewN | apply below_drew1) | exact HB.out)) hb); clear HO121; clear HB; have HO121 := n0_; have HB := n1_; clear n0_ n1_; (try clear hb); (try clear hb2); (try clear hk); (try clear hi)) | ((with_reducible refine gate_dst (N := 3) rfl ?_); refine box_event ?hg (N := 3) ?hd (cs := #[.int .i64 0, .int .i64 0]) (t := 40) ?hr ?_; (case hd => rfl); (case hg => rfl); (case hr => first | (go_simp; done) | (go_simp; rfl)); intro gb125 hg w6 hbox hb; have n0_ := Aside0.mk (Kd.R_below (by (with_reducible repeat (first | apply Kd.R_alloc | apply Kd.R_drewN | apply Kd.R_drew)); exact HO121.out) hb); have n1_ := Aside0.mk (below_step (by repeat (first | (with_reducible first | exact HB.out | apply below_alloc | apply pw_below_drewN | apply below_drew1) | exact HB.out)) hb); have n2_ := Aside0.mk (hbox); have n3_ := Aside0.mk ((by rw [hg]; exact (below_size (by repeat (first | (with_reducible first | exact HB.out | apply below_alloc | apply pw_below_drewN | apply below_drew1) | exact HB.out))) : w.heap.size ≤ gb125)); have n4_ := Aside0.mk ((by rw [hg]; exact (below_size (by repeat (first | (with_reducible first | exact HB.out | apply below_alloc | apply pw_below_drewN | apply below_drew1) | exact HB.out))) : w.heap.size ≤ gb125)); clear HO121; clear HB; have HO121 := n0_; have HB := n1_; have BK125 := n2_; have GW125 := n3_; have GE125 := n4_; clear n0_ n1_ n2_ n3_ n4_; clear hb hbox hg; have hcz7_0 : w6.cell? ⟨gb125, 0, none⟩ = some (.int .i64 0) := (blk_cell BK125.out 0).trans rfl; have hcz7_1 : w6.cell? ⟨gb125, 1, none⟩ = some (.int .i64 0) := (blk_cell BK125.out 1).trans rfl; have hfz7_0 := blk_frozen BK125.out 0; have hfz7_1 := blk_frozen BK125.out 1))
  (try simp only [Act.put, List.setIfInBounds_toArray, List.set_cons_zero, List.set_cons_succ])
  go_cut [39] (fun v39 wc => ∃ (kq : Nat) (x39_2 : Bool), v39 = .bool x39_2 ∧ Aside0 (glossatorlaw02_awake.j0 kq (⟨#[97, 98, 13, 10, 195, 169, 240, 159, 152, 128, 99, 10]⟩ : ByteArray) x39_2 = some r) ∧ Aside0 (kq ≤ k) ∧ Aside0 (wc.heap[gb125]? = some (.cells #[.int .i64 t122, .int .i64 t123] 40 (0, 0))) ∧ Aside0 (Below w.heap.size w wc))
  case first =>
    have H := HC3.out
    clear HC3
    by_cases c8 : (t119.length : Int) = 3
    · rw [if_pos c8] at H
      have c8b0 : ((t119.length : Int) == 3) = true := beq_iff_eq.mpr c8
      have c8b1 : ((t119.length : Int) != 3) = false := bne_eq_false_iff_eq.mpr c8
      clear c8
      (first | rw [c8b0] | (simp only [i64_w, i32_w]; rw [c8b0]) | skip)
      by_cases c9 : 1 < (t119.length : Int)
      · rw [if_pos c9] at H
        have c9b0 : decide (1 < (t119.length : Int)) = true := decide_eq_true c9
        have c9b1 : decide (1 < t119.length) = true := decide_eq_true (by omega)
        clear c9
        by_cases c10 : (rd t119 1) = 4
        · rw [if_pos c10] at H
          have c10b0 : ((rd t119 1) == 4) = true := beq_iff_eq.mpr c10
          have c10b1 : ((rd t119 1) != 4) = false := bne_eq_false_iff_eq.mpr c10
          clear c10
          by_cases c11 : 2 < (t119.length : Int)
          · rw [if_pos c11] at H
            have c11b0 : decide (2 < (t119.length : Int)) = true := decide_eq_true c11
            have c11b1 : decide (2 < t119.length) = true := decide_eq_true (by omega)
            clear c11
            by_cases c12 : (rd t119 2) = 12
            · rw [if_pos c12] at H
              have c12b0 : ((rd t119 2) == 12) = true := beq_iff_eq.mpr c12
              have c12b1 : ((rd t119 2) != 12) = false := bne_eq_false_iff_eq.mpr c12
              clear c12
              replace H := Option.bind_eq_some_iff.mp H
              obtain ⟨t128, A130, H⟩ := H
              replace H : (if t128 = 1 then (if t124 = true then (glossatorlaw02_awake.j0 k (⟨#[97, 98, 13, 10, 195, 169, 240, 159, 152, 128, 99, 10]⟩ : ByteArray) (!(t122 == 4) || (!(t123 == 11)))) else (glossatorlaw02_awake.j0 k (⟨#[97, 98, 13, 10, 195, 169, 240, 159, 152, 128, 99, 10]⟩ : ByteArray) true)) else (glossatorlaw02_awake.j0 k (⟨#[97, 98, 13, 10, 195, 169, 240, 159, 152, 128, 99, 10]⟩ : ByteArray) true)) = some r := H
              have A13 := Aside0.mk A130
              clear A130
              by_cases c14 : t128 = 1
              · rw [if_pos c14] at H
                have c14b0 : (t128 == 1) = true := beq_iff_eq.mpr c14
                have c14b1 : (t128 != 1) = false := bne_eq_false_iff_eq.mpr c14
                clear c14
                by_cases c15 : t124 = true
                · subst c15
                  have H1 : (glossatorlaw02_awake.j0 k (⟨#[97, 98, 13, 10, 195, 169, 240, 159, 152, 128, 99, 10]⟩ : ByteArray) (!(t122 == 4) || (!(t123 == 11)))) = some r := by rw [if_pos rfl] at H; exact H
                  clear H
                  have H := H1
                  clear H1
                  have H' := Aside0.mk H
                  clear H
                  obtain ⟨Ao16, co16, eo16⟩ := Kd.R_slice HO121.out
                  subst eo16
                  have p126 : 0 ≤ (1 : Int) := (by omega)
                  have q126 : 1 < (t119.length : Int) := of_decide_eq_true (by first | (with_reducible assumption) | assumption)
                  obtain ⟨ad126, e126, hx126_0⟩ := Kd.at_int (Kd.R_reads' HO121.out).2.2 1 p126 q126
                  cases e126
                  (try simp only [show (1 : Int).toNat = 1 from rfl, Nat.reduceMul, Nat.reduceEqDiff, Go.Addr.add, ↓reduceIte] at hx126_0)
                  have qi126 : (1 < t119.length) = True := eq_true (by omega)
                  (try rw [show ((1 : Int)).toNat = 1 from rfl] at hx126_0)
                  have hn126_0 : ad126.block ≠ gb125 := Kd.own_blk (Kd.R_ne HO121.out BK125.out (by decide))
                  have hn126_1 : ad126.block ≠ gb125 := Kd.own_blk (Kd.R_ne HO121.out BK125.out (by decide))
                  replace hx126_0 := (cell_far (p := ⟨gb125, 0, none⟩) (by first | (rw [add_block]; exact hn126_0) | (show (Addr.add _ _).block ≠ _; rw [add_block]; exact hn126_0) | exact hn126_0) (.int .i64 t122)).trans hx126_0
                  replace hx126_0 := (cell_far (p := ⟨gb125, 1, none⟩) (by first | (rw [add_block]; exact hn126_1) | (show (Addr.add _ _).block ≠ _; rw [add_block]; exact hn126_1) | exact hn126_1) (.int .i64 t123)).trans hx126_0
                  clear hn126_0
                  clear hn126_1
                  replace p126 := eq_true p126
                  replace q126 := eq_true q126
                  have p127 : 0 ≤ (2 : Int) := (by omega)
                  have q127 : 2 < (t119.length : Int) := of_decide_eq_true (by first | (with_reducible assumption) | assumption)
                  obtain ⟨ad127, e127, hx127_0⟩ := Kd.at_int (Kd.R_reads' HO121.out).2.2 2 p127 q127
                  obtain rfl : ad126 = ad127 := (by injection e127)
                  (try simp only [show (2 : Int).toNat = 2 from rfl, Nat.reduceMul, Nat.reduceEqDiff, Go.Addr.add, ↓reduceIte] at hx127_0)
                  have qi127 : (2 < t119.length) = True := eq_true (by omega)
                  (try rw [show ((2 : Int)).toNat = 2 from rfl] at hx127_0)
                  have hn127_0 : ad126.block ≠ gb125 := Kd.own_blk (Kd.R_ne HO121.out BK125.out (by decide))
                  have hn127_1 : ad126.block ≠ gb125 := Kd.own_blk (Kd.R_ne HO121.out BK125.out (by decide))
                  replace hx127_0 := (cell_far (p := ⟨gb125, 0, none⟩) (by first | (rw [add_block]; exact hn127_0) | (show (Addr.add _ _).block ≠ _; rw [add_block]; exact hn127_0) | exact hn127_0) (.int .i64 t122)).trans hx127_0
                  replace hx127_0 := (cell_far (p := ⟨gb125, 1, none⟩) (by first | (rw [add_block]; exact hn127_1) | (show (Addr.add _ _).block ≠ _; rw [add_block]; exact hn127_1) | exact hn127_1) (.int .i64 t123)).trans hx127_0
                  clear hn127_0
                  clear hn127_1
                  replace p127 := eq_true p127
                  replace q127 := eq_true q127
                  go_wp2_with (first | (go_at_call 33; (with_reducible refine (lines_Many.calls (⟨#[]⟩ : ByteArray) t128 _ A13.out).mono ?_); rintro e w17 ⟨rfl, hb⟩; have n0_ := Aside0.mk (Kd.R_below (by (with_reducible repeat (first | apply Kd.R_alloc | apply Kd.R_drewN | apply Kd.R_drew)); exact (Kd.R_mono (Kd.R_far (p := ⟨gb125, 1, none⟩) (Kd.R_far (p := ⟨gb125, 0, none⟩) (Kd.R_types HO121.out BK125.out (by decide)) (fun _ hk => hk.2) (.int .i64 t122)) (fun _ hk => hk.2) (.int .i64 t123)) (fun _ h_ => h_.1))) hb); have n1_ := Aside0.mk (blk_below (g := gb125) (o := .cells #[.int .i64 t122, .int .i64 t123] 40 (0, 0)) (by (with_reducible repeat (first | refine blk_drewN ?_ _ | refine blk_drew ?_ | refine blk_alloc ?_ _)); refine blk_put (cs := #[.int .i64 t122, .int .i64 0]) ?_ 1 _ rfl; (with_reducible repeat (first | refine blk_drewN ?_ _ | refine blk_drew ?_ | refine blk_alloc ?_ _)); refine blk_put (cs := #[.int .i64 0, .int .i64 0]) ?_ 0 _ rfl; (with_reducible repeat (first | refine blk_drewN ?_ _ | refine blk_drew ?_ | refine blk_alloc ?_ _)); exact BK125.out) hb); have n2_ := Aside0.mk (below_step (by repeat (first | (with_reducible first | exact HB.out | apply below_alloc | apply pw_below_drewN | apply below_drew1 | refine below_set ?_ GE125.out) | exact HB.out)) hb); clear HO121; clear BK125; clear HB; have HO121 := n0_; have BK125 := n1_; have HB := n2_; clear n0_ n1_ n2_; (try clear hb); (try clear hb2); (try clear hk); (try clear hi); have hcz18_0 : w17.cell? ⟨gb125, 0, none⟩ = some (.int .i64 t122) := (blk_cell BK125.out 0).trans rfl; have hcz18_1 : w17.cell? ⟨gb125, 1, none⟩ = some (.int .i64 t123) := (blk_cell BK125.out 1).trans rfl; have hfz18_0 := blk_frozen BK125.out 0; have hfz18_1 := blk_frozen BK125.out 1))
                  go_meet
                  case rel => exact ⟨_, ((!(t122 == 4) || (!(t123 == 11)))), (by first | rfl | (simp; done) | (simp [*]; done) | (simp; exact xEmpty_ne _) | (simp [*]; exact xEmpty_ne _)), H', ⟨by first | omega | exact Nat.le_refl _⟩, ⟨by (with_reducible repeat (first | refine blk_drewN ?_ _ | refine blk_drew ?_ | refine blk_alloc ?_ _)); exact BK125.out⟩, ⟨by repeat (first | (with_reducible first | exact HB.out | apply below_alloc | apply pw_below_drewN | apply below_drew1 | refine below_set ?_ GE125.out) | exact HB.out)⟩⟩
                · replace c15 := Bool.eq_false_iff.mpr c15
                  subst c15
                  have H1 : (glossatorlaw02_awake.j0 k (⟨#[97, 98, 13, 10, 195, 169, 240, 159, 152, 128, 99, 10]⟩ : ByteArray) true) = some r := by rw [if_neg (show ¬ (false = true) by decide)] at H; exact H
                  clear H
                  have H := H1
                  clear H1
                  have H' := Aside0.mk H
                  clear H
                  obtain ⟨Ao19, co19, eo19⟩ := Kd.R_slice HO121.out
                  subst eo19
                  have p126 : 0 ≤ (1 : Int) := (by omega)
                  have q126 : 1 < (t119.length : Int) := of_decide_eq_true (by first | (with_reducible assumption) | assumption)
                  obtain ⟨ad126, e126, hx126_0⟩ := Kd.at_int (Kd.R_reads' HO121.out).2.2 1 p126 q126
                  cases e126
                  (try simp only [show (1 : Int).toNat = 1 from rfl, Nat.reduceMul, Nat.reduceEqDiff, Go.Addr.add, ↓reduceIte] at hx126_0)
                  have qi126 : (1 < t119.length) = True := eq_true (by omega)
                  (try rw [show ((1 : Int)).toNat = 1 from rfl] at hx126_0)
                  have hn126_0 : ad126.block ≠ gb125 := Kd.own_blk (Kd.R_ne HO121.out BK125.out (by decide))
                  have hn126_1 : ad126.block ≠ gb125 := Kd.own_blk (Kd.R_ne HO121.out BK125.out (by decide))
                  replace hx126_0 := (cell_far (p := ⟨gb125, 0, none⟩) (by first | (rw [add_block]; exact hn126_0) | (show (Addr.add _ _).block ≠ _; rw [add_block]; exact hn126_0) | exact hn126_0) (.int .i64 t122)).trans hx126_0
                  replace hx126_0 := (cell_far (p := ⟨gb125, 1, none⟩) (by first | (rw [add_block]; exact hn126_1) | (show (Addr.add _ _).block ≠ _; rw [add_block]; exact hn126_1) | exact hn126_1) (.int .i64 t123)).trans hx126_0
                  clear hn126_0
                  clear hn126_1
                  replace p126 := eq_true p126
                  replace q126 := eq_true q126
                  have p127 : 0 ≤ (2 : Int) := (by omega)
                  have q127 : 2 < (t119.length : Int) := of_decide_eq_true (by first | (with_reducible assumption) | assumption)
                  obtain ⟨ad127, e127, hx127_0⟩ := Kd.at_int (Kd.R_reads' HO121.out).2.2 2 p127 q127
                  obtain rfl : ad126 = ad127 := (by injection e127)
                  (try simp only [show (2 : Int).toNat = 2 from rfl, Nat.reduceMul, Nat.reduceEqDiff, Go.Addr.add, ↓reduceIte] at hx127_0)
                  have qi127 : (2 < t119.length) = True := eq_true (by omega)
                  (try rw [show ((2 : Int)).toNat = 2 from rfl] at hx127_0)
                  have hn127_0 : ad126.block ≠ gb125 := Kd.own_blk (Kd.R_ne HO121.out BK125.out (by decide))
                  have hn127_1 : ad126.block ≠ gb125 := Kd.own_blk (Kd.R_ne HO121.out BK125.out (by decide))
                  replace hx127_0 := (cell_far (p := ⟨gb125, 0, none⟩) (by first | (rw [add_block]; exact hn127_0) | (show (Addr.add _ _).block ≠ _; rw [add_block]; exact hn127_0) | exact hn127_0) (.int .i64 t122)).trans hx127_0
                  replace hx127_0 := (cell_far (p := ⟨gb125, 1, none⟩) (by first | (rw [add_block]; exact hn127_1) | (show (Addr.add _ _).block ≠ _; rw [add_block]; exact hn127_1) | exact hn127_1) (.int .i64 t123)).trans hx127_0
                  clear hn127_0
                  clear hn127_1
                  replace p127 := eq_true p127
                  replace q127 := eq_true q127
                  go_wp2_with (first | (go_at_call 33; (with_reducible refine (lines_Many.calls (⟨#[]⟩ : ByteArray) t128 _ A13.out).mono ?_); rintro e w20 ⟨rfl, hb⟩; have n0_ := Aside0.mk (Kd.R_below (by (with_reducible repeat (first | apply Kd.R_alloc | apply Kd.R_drewN | apply Kd.R_drew)); exact (Kd.R_mono (Kd.R_far (p := ⟨gb125, 1, none⟩) (Kd.R_far (p := ⟨gb125, 0, none⟩) (Kd.R_types HO121.out BK125.out (by decide)) (fun _ hk => hk.2) (.int .i64 t122)) (fun _ hk => hk.2) (.int .i64 t123)) (fun _ h_ => h_.1))) hb); have n1_ := Aside0.mk (blk_below (g := gb125) (o := .cells #[.int .i64 t122, .int .i64 t123] 40 (0, 0)) (by (with_reducible repeat (first | refine blk_drewN ?_ _ | refine blk_drew ?_ | refine blk_alloc ?_ _)); refine blk_put (cs := #[.int .i64 t122, .int .i64 0]) ?_ 1 _ rfl; (with_reducible repeat (first | refine blk_drewN ?_ _ | refine blk_drew ?_ | refine blk_alloc ?_ _)); refine blk_put (cs := #[.int .i64 0, .int .i64 0]) ?_ 0 _ rfl; (with_reducible repeat (first | refine blk_drewN ?_ _ | refine blk_drew ?_ | refine blk_alloc ?_ _)); exact BK125.out) hb); have n2_ := Aside0.mk (below_step (by repeat (first | (with_reducible first | exact HB.out | apply below_alloc | apply pw_below_drewN | apply below_drew1 | refine below_set ?_ GE125.out) | exact HB.out)) hb); clear HO121; clear BK125; clear HB; have HO121 := n0_; have BK125 := n1_; have HB := n2_; clear n0_ n1_ n2_; (try clear hb); (try clear hb2); (try clear hk); (try clear hi)))
                  go_meet
                  case rel => exact ⟨_, (true), (by first | rfl | (simp; done) | (simp [*]; done) | (simp; exact xEmpty_ne _) | (simp [*]; exact xEmpty_ne _)), H', ⟨by first | omega | exact Nat.le_refl _⟩, ⟨by (with_reducible repeat (first | refine blk_drewN ?_ _ | refine blk_drew ?_ | refine blk_alloc ?_ _)); exact BK125.out⟩, ⟨by repeat (first | (with_reducible first | exact HB.out | apply below_alloc | apply pw_below_drewN | apply below_drew1 | refine below_set ?_ GE125.out) | exact HB.out)⟩⟩
              · rw [if_neg c14] at H
                have c14b0 : (t128 == 1) = false := beq_eq_false_iff_ne.mpr c14
                have c14b1 : (t128 != 1) = true := bne_iff_ne.mpr c14
                have H' := Aside0.mk H
                clear H
                obtain ⟨Ao21, co21, eo21⟩ := Kd.R_slice HO121.out
                subst eo21
                have p126 : 0 ≤ (1 : Int) := (by omega)
                have q126 : 1 < (t119.length : Int) := of_decide_eq_true (by first | (with_reducible assumption) | assumption)
                obtain ⟨ad126, e126, hx126_0⟩ := Kd.at_int (Kd.R_reads' HO121.out).2.2 1 p126 q126
                cases e126
                (try simp only [show (1 : Int).toNat = 1 from rfl, Nat.reduceMul, Nat.reduceEqDiff, Go.Addr.add, ↓reduceIte] at hx126_0)
                have qi126 : (1 < t119.length) = True := eq_true (by omega)
                (try rw [show ((1 : Int)).toNat = 1 from rfl] at hx126_0)
                have hn126_0 : ad126.block ≠ gb125 := Kd.own_blk (Kd.R_ne HO121.out BK125.out (by decide))
                have hn126_1 : ad126.block ≠ gb125 := Kd.own_blk (Kd.R_ne HO121.out BK125.out (by decide))
                replace hx126_0 := (cell_far (p := ⟨gb125, 0, none⟩) (by first | (rw [add_block]; exact hn126_0) | (show (Addr.add _ _).block ≠ _; rw [add_block]; exact hn126_0) | exact hn126_0) (.int .i64 t122)).trans hx126_0
                replace hx126_0 := (cell_far (p := ⟨gb125, 1, none⟩) (by first | (rw [add_block]; exact hn126_1) | (show (Addr.add _ _).block ≠ _; rw [add_block]; exact hn126_1) | exact hn126_1) (.int .i64 t123)).trans hx126_0
                clear hn126_0
                clear hn126_1
                replace p126 := eq_true p126
                replace q126 := eq_true q126
                have p127 : 0 ≤ (2 : Int) := (by omega)
                have q127 : 2 < (t119.length : Int) := of_decide_eq_true (by first | (with_reducible assumption) | assumption)
                obtain ⟨ad127, e127, hx127_0⟩ := Kd.at_int (Kd.R_reads' HO121.out).2.2 2 p127 q127
                obtain rfl : ad126 = ad127 := (by injection e127)
                (try simp only [show (2 : Int).toNat = 2 from rfl, Nat.reduceMul, Nat.reduceEqDiff, Go.Addr.add, ↓reduceIte] at hx127_0)
                have qi127 : (2 < t119.length) = True := eq_true (by omega)
                (try rw [show ((2 : Int)).toNat = 2 from rfl] at hx127_0)
                have hn127_0 : ad126.block ≠ gb125 := Kd.own_blk (Kd.R_ne HO121.out BK125.out (by decide))
                have hn127_1 : ad126.block ≠ gb125 := Kd.own_blk (Kd.R_ne HO121.out BK125.out (by decide))
                replace hx127_0 := (cell_far (p := ⟨gb125, 0, none⟩) (by first | (rw [add_block]; exact hn127_0) | (show (Addr.add _ _).block ≠ _; rw [add_block]; exact hn127_0) | exact hn127_0) (.int .i64 t122)).trans hx127_0
                replace hx127_0 := (cell_far (p := ⟨gb125, 1, none⟩) (by first | (rw [add_block]; exact hn127_1) | (show (Addr.add _ _).block ≠ _; rw [add_block]; exact hn127_1) | exact hn127_1) (.int .i64 t123)).trans hx127_0
                clear hn127_0
                clear hn127_1
                replace p127 := eq_true p127
                replace q127 := eq_true q127
                go_wp2_with (first | (go_at_call 33; (with_reducible refine (lines_Many.calls (⟨#[]⟩ : ByteArray) t128 _ A13.out).mono ?_); rintro e w22 ⟨rfl, hb⟩; have n0_ := Aside0.mk (Kd.R_below (by (with_reducible repeat (first | apply Kd.R_alloc | apply Kd.R_drewN | apply Kd.R_drew)); exact (Kd.R_mono (Kd.R_far (p := ⟨gb125, 1, none⟩) (Kd.R_far (p := ⟨gb125, 0, none⟩) (Kd.R_types HO121.out BK125.out (by decide)) (fun _ hk => hk.2) (.int .i64 t122)) (fun _ hk => hk.2) (.int .i64 t123)) (fun _ h_ => h_.1))) hb); have n1_ := Aside0.mk (blk_below (g := gb125) (o := .cells #[.int .i64 t122, .int .i64 t123] 40 (0, 0)) (by (with_reducible repeat (first | refine blk_drewN ?_ _ | refine blk_drew ?_ | refine blk_alloc ?_ _)); refine blk_put (cs := #[.int .i64 t122, .int .i64 0]) ?_ 1 _ rfl; (with_reducible repeat (first | refine blk_drewN ?_ _ | refine blk_drew ?_ | refine blk_alloc ?_ _)); refine blk_put (cs := #[.int .i64 0, .int .i64 0]) ?_ 0 _ rfl; (with_reducible repeat (first | refine blk_drewN ?_ _ | refine blk_drew ?_ | refine blk_alloc ?_ _)); exact BK125.out) hb); have n2_ := Aside0.mk (below_step (by repeat (first | (with_reducible first | exact HB.out | apply below_alloc | apply pw_below_drewN | apply below_drew1 | refine below_set ?_ GE125.out) | exact HB.out)) hb); clear HO121; clear BK125; clear HB; have HO121 := n0_; have BK125 := n1_; have HB := n2_; clear n0_ n1_ n2_; (try clear hb); (try clear hb2); (try clear hk); (try clear hi)))
                go_meet
                case rel => exact ⟨_, (true), (by first | rfl | (simp; done) | (simp [*]; done) | (simp; exact xEmpty_ne _) | (simp [*]; exact xEmpty_ne _)), H', ⟨by first | omega | exact Nat.le_refl _⟩, ⟨by (with_reducible repeat (first | refine blk_drewN ?_ _ | refine blk_drew ?_ | refine blk_alloc ?_ _)); exact BK125.out⟩, ⟨by repeat (first | (with_reducible first | exact HB.out | apply below_alloc | apply pw_below_drewN | apply below_drew1 | refine below_set ?_ GE125.out) | exact HB.out)⟩⟩
            · rw [if_neg c12] at H
              have c12b0 : ((rd t119 2) == 12) = false := beq_eq_false_iff_ne.mpr c12
              have c12b1 : ((rd t119 2) != 12) = true := bne_iff_ne.mpr c12
              have H' := Aside0.mk H
              clear H
              obtain ⟨Ao23, co23, eo23⟩ := Kd.R_slice HO121.out
              subst eo23
              have p126 : 0 ≤ (1 : Int) := (by omega)
              have q126 : 1 < (t119.length : Int) := of_decide_eq_true (by first | (with_reducible assumption) | assumption)
              obtain ⟨ad126, e126, hx126_0⟩ := Kd.at_int (Kd.R_reads' HO121.out).2.2 1 p126 q126
              cases e126
              (try simp only [show (1 : Int).toNat = 1 from rfl, Nat.reduceMul, Nat.reduceEqDiff, Go.Addr.add, ↓reduceIte] at hx126_0)
              have qi126 : (1 < t119.length) = True := eq_true (by omega)
              (try rw [show ((1 : Int)).toNat = 1 from rfl] at hx126_0)
              have hn126_0 : ad126.block ≠ gb125 := Kd.own_blk (Kd.R_ne HO121.out BK125.out (by decide))
              have hn126_1 : ad126.block ≠ gb125 := Kd.own_blk (Kd.R_ne HO121.out BK125.out (by decide))
              replace hx126_0 := (cell_far (p := ⟨gb125, 0, none⟩) (by first | (rw [add_block]; exact hn126_0) | (show (Addr.add _ _).block ≠ _; rw [add_block]; exact hn126_0) | exact hn126_0) (.int .i64 t122)).trans hx126_0
              replace hx126_0 := (cell_far (p := ⟨gb125, 1, none⟩) (by first | (rw [add_block]; exact hn126_1) | (show (Addr.add _ _).block ≠ _; rw [add_block]; exact hn126_1) | exact hn126_1) (.int .i64 t123)).trans hx126_0
              clear hn126_0
              clear hn126_1
              replace p126 := eq_true p126
              replace q126 := eq_true q126
              have p127 : 0 ≤ (2 : Int) := (by omega)
              have q127 : 2 < (t119.length : Int) := of_decide_eq_true (by first | (with_reducible assumption) | assumption)
              obtain ⟨ad127, e127, hx127_0⟩ := Kd.at_int (Kd.R_reads' HO121.out).2.2 2 p127 q127
              obtain rfl : ad126 = ad127 := (by injection e127)
              (try simp only [show (2 : Int).toNat = 2 from rfl, Nat.reduceMul, Nat.reduceEqDiff, Go.Addr.add, ↓reduceIte] at hx127_0)
              have qi127 : (2 < t119.length) = True := eq_true (by omega)
              (try rw [show ((2 : Int)).toNat = 2 from rfl] at hx127_0)
              have hn127_0 : ad126.block ≠ gb125 := Kd.own_blk (Kd.R_ne HO121.out BK125.out (by decide))
              have hn127_1 : ad126.block ≠ gb125 := Kd.own_blk (Kd.R_ne HO121.out BK125.out (by decide))
              replace hx127_0 := (cell_far (p := ⟨gb125, 0, none⟩) (by first | (rw [add_block]; exact hn127_0) | (show (Addr.add _ _).block ≠ _; rw [add_block]; exact hn127_0) | exact hn127_0) (.int .i64 t122)).trans hx127_0
              replace hx127_0 := (cell_far (p := ⟨gb125, 1, none⟩) (by first | (rw [add_block]; exact hn127_1) | (show (Addr.add _ _).block ≠ _; rw [add_block]; exact hn127_1) | exact hn127_1) (.int .i64 t123)).trans hx127_0
              clear hn127_0
              clear hn127_1
              replace p127 := eq_true p127
              replace q127 := eq_true q127
              go_wp2
              go_meet
              case rel => exact ⟨_, (true), (by first | rfl | (simp; done) | (simp [*]; done) | (simp; exact xEmpty_ne _) | (simp [*]; exact xEmpty_ne _)), H', ⟨by first | omega | exact Nat.le_refl _⟩, ⟨by (with_reducible repeat (first | refine blk_drewN ?_ _ | refine blk_drew ?_ | refine blk_alloc ?_ _)); refine blk_put (cs := #[.int .i64 t122, .int .i64 0]) ?_ 1 _ rfl; (with_reducible repeat (first | refine blk_drewN ?_ _ | refine blk_drew ?_ | refine blk_alloc ?_ _)); refine blk_put (cs := #[.int .i64 0, .int .i64 0]) ?_ 0 _ rfl; (with_reducible repeat (first | refine blk_drewN ?_ _ | refine blk_drew ?_ | refine blk_alloc ?_ _)); exact BK125.out⟩, ⟨by repeat (first | (with_reducible first | exact HB.out | apply below_alloc | apply pw_below_drewN | apply below_drew1 | refine below_set ?_ GE125.out) | exact HB.out)⟩⟩
          · rw [if_neg c11] at H
            exact absurd H (by simp)
        · rw [if_neg c10] at H
          have c10b0 : ((rd t119 1) == 4) = false := beq_eq_false_iff_ne.mpr c10
          have c10b1 : ((rd t119 1) != 4) = true := bne_iff_ne.mpr c10
          have H' := Aside0.mk H
          clear H
          obtain ⟨Ao24, co24, eo24⟩ := Kd.R_slice HO121.out
          subst eo24
          have p126 : 0 ≤ (1 : Int) := (by omega)
          have q126 : 1 < (t119.length : Int) := of_decide_eq_true (by first | (with_reducible assumption) | assumption)
          obtain ⟨ad126, e126, hx126_0⟩ := Kd.at_int (Kd.R_reads' HO121.out).2.2 1 p126 q126
          cases e126
          (try simp only [show (1 : Int).toNat = 1 from rfl, Nat.reduceMul, Nat.reduceEqDiff, Go.Addr.add, ↓reduceIte] at hx126_0)
          have qi126 : (1 < t119.length) = True := eq_true (by omega)
          (try rw [show ((1 : Int)).toNat = 1 from rfl] at hx126_0)
          have hn126_0 : ad126.block ≠ gb125 := Kd.own_blk (Kd.R_ne HO121.out BK125.out (by decide))
          have hn126_1 : ad126.block ≠ gb125 := Kd.own_blk (Kd.R_ne HO121.out BK125.out (by decide))
          replace hx126_0 := (cell_far (p := ⟨gb125, 0, none⟩) (by first | (rw [add_block]; exact hn126_0) | (show (Addr.add _ _).block ≠ _; rw [add_block]; exact hn126_0) | exact hn126_0) (.int .i64 t122)).trans hx126_0
          replace hx126_0 := (cell_far (p := ⟨gb125, 1, none⟩) (by first | (rw [add_block]; exact hn126_1) | (show (Addr.add _ _).block ≠ _; rw [add_block]; exact hn126_1) | exact hn126_1) (.int .i64 t123)).trans hx126_0
          clear hn126_0
          clear hn126_1
          replace p126 := eq_true p126
          replace q126 := eq_true q126
          go_wp2
          go_meet
          case rel => exact ⟨_, (true), (by first | rfl | (simp; done) | (simp [*]; done) | (simp; exact xEmpty_ne _) | (simp [*]; exact xEmpty_ne _)), H', ⟨by first | omega | exact Nat.le_refl _⟩, ⟨by (with_reducible repeat (first | refine blk_drewN ?_ _ | refine blk_drew ?_ | refine blk_alloc ?_ _)); refine blk_put (cs := #[.int .i64 t122, .int .i64 0]) ?_ 1 _ rfl; (with_reducible repeat (first | refine blk_drewN ?_ _ | refine blk_drew ?_ | refine blk_alloc ?_ _)); refine blk_put (cs := #[.int .i64 0, .int .i64 0]) ?_ 0 _ rfl; (with_reducible repeat (first | refine blk_drewN ?_ _ | refine blk_drew ?_ | refine blk_alloc ?_ _)); exact BK125.out⟩, ⟨by repeat (first | (with_reducible first | exact HB.out | apply below_alloc | apply pw_below_drewN | apply below_drew1 | refine below_set ?_ GE125.out) | exact HB.out)⟩⟩
      · rw [if_neg c9] at H
        exact absurd H (by simp)
    · rw [if_neg c8] at H
      have c8b0 : ((t119.length : Int) == 3) = false := beq_eq_false_iff_ne.mpr c8
      have c8b1 : ((t119.length : Int) != 3) = true := bne_iff_ne.mpr c8
      (first | rw [c8b0] | (simp only [i64_w, i32_w]; rw [c8b0]) | skip)
      have H' := Aside0.mk H
      clear H
      obtain ⟨Ao25, co25, eo25⟩ := Kd.R_slice HO121.out
      subst eo25
      go_wp2
      go_meet
      case rel => exact ⟨_, (true), (by first | rfl | (simp; done) | (simp [*]; done) | (simp; exact xEmpty_ne _) | (simp [*]; exact xEmpty_ne _)), H', ⟨by first | omega | exact Nat.le_refl _⟩, ⟨by (with_reducible repeat (first | refine blk_drewN ?_ _ | refine blk_drew ?_ | refine blk_alloc ?_ _)); refine blk_put (cs := #[.int .i64 t122, .int .i64 0]) ?_ 1 _ rfl; (with_reducible repeat (first | refine blk_drewN ?_ _ | refine blk_drew ?_ | refine blk_alloc ?_ _)); refine blk_put (cs := #[.int .i64 0, .int .i64 0]) ?_ 0 _ rfl; (with_reducible repeat (first | refine blk_drewN ?_ _ | refine blk_drew ?_ | refine blk_alloc ?_ _)); exact BK125.out⟩, ⟨by repeat (first | (with_reducible first | exact HB.out | apply below_alloc | apply pw_below_drewN | apply below_drew1 | refine below_set ?_ GE125.out) | exact HB.out)⟩⟩
  case rest =>
    clear HC3
    try clear c1
    try clear p1
    try clear q1
    try clear hx1
    try clear qi1
    try clear p2
    try clear c3
    try clear c8
    try clear c8b0
    try clear c8b1
    try clear c9
    try clear c9b0
    try clear c9b1
    try clear c10
    try clear c10b0
    try clear c10b1
    try clear c11
    try clear c11b0
    try clear c11b1
    try clear c12
    try clear c12b0
    try clear c12b1
    try clear p12
    try clear q12
    try clear hx12
    try clear qi12
    try clear c14
    try clear c14b0
    try clear c14b1
    try clear c15
    try clear hcz18_0
    try clear hcz18_1
    try clear hcz7_0
    try clear hcz7_1
    try clear hfz18_0
    try clear hfz18_1
    try clear hfz7_0
    try clear hfz7_1
    try clear hx126_0
    try clear hx127_0
    try clear p126
    try clear p127
    try clear q126
    try clear q127
    obtain ⟨kq, x39_2, rfl, HA, HJ2, BK125, HB⟩ := hcut
    cases kq with
    | zero => exact absurd HA.out (by simp [glossatorlaw02_awake.j0])
    | succ kj2 =>
      have H := HA.out
      clear HA
      simp only [glossatorlaw02_awake.j0] at H
      by_cases c26 : x39_2 = true
      · subst c26
        have H1 : (some false) = some r := by rw [if_pos rfl] at H; exact H
        clear H
        have H := H1
        clear H1
        obtain rfl := Option.some.inj H
        go_wp2
        go_ret
        exact ⟨by first | rfl | (simp [errW_none, errW_some] <;> rfl) | (simp [*, errW_none, errW_some] <;> rfl), by repeat (first | (with_reducible first | exact HB.out | apply below_alloc | apply pw_below_drewN | apply below_drew1 | refine below_set ?_ GE125.out) | exact HB.out)⟩
      · replace c26 := Bool.eq_false_iff.mpr c26
        subst c26
        have H1 : ((lines_Offset.f (⟨#[97, 98, 13, 10, 195, 169, 240, 159, 152, 128, 99, 10]⟩ : ByteArray) 1 2).bind fun t129 => (if t129 = 6 then ((lines_Offset.f (⟨#[97, 98, 13, 10, 195, 169, 240, 159, 152, 128, 99, 10]⟩ : ByteArray) 0 9).bind fun t130 => (if t130 = 2 then ((lines_Pos.f kj2 (⟨#[97, 98, 13, 10, 195, 169, 240, 159, 152, 128, 99, 10]⟩ : ByteArray) 8).bind fun bt131 => (if (bt131.1 == 1 && (bt131.2 == 1)) = true then ((lines_Pos.f kj2 (⟨#[97, 98, 13, 10, 195, 169, 240, 159, 152, 128, 99, 10]⟩ : ByteArray) 3).bind fun bt133 => (if (bt133.1 == 0 && (bt133.2 == 2)) = true then ((lines_Offsets.f (⟨#[97, 98, 13, 10, 195, 169, 240, 159, 152, 128, 99, 10]⟩ : ByteArray) 1 1 0 1).bind fun bt135 => (some (bt135.1 == 1 && (bt135.2 == 6)))) else (some false))) else (some false))) else (some false))) else (some false))) = some r := by rw [if_neg (show ¬ (false = true) by decide)] at H; exact H
        clear H
        have H := H1
        clear H1
        replace H := Option.bind_eq_some_iff.mp H
        obtain ⟨t129, A270, H⟩ := H
        replace H : (if t129 = 6 then ((lines_Offset.f (⟨#[97, 98, 13, 10, 195, 169, 240, 159, 152, 128, 99, 10]⟩ : ByteArray) 0 9).bind fun t130 => (if t130 = 2 then ((lines_Pos.f kj2 (⟨#[97, 98, 13, 10, 195, 169, 240, 159, 152, 128, 99, 10]⟩ : ByteArray) 8).bind fun bt131 => (if (bt131.1 == 1 && (bt131.2 == 1)) = true then ((lines_Pos.f kj2 (⟨#[97, 98, 13, 10, 195, 169, 240, 159, 152, 128, 99, 10]⟩ : ByteArray) 3).bind fun bt133 => (if (bt133.1 == 0 && (bt133.2 == 2)) = true then ((lines_Offsets.f (⟨#[97, 98, 13, 10, 195, 169, 240, 159, 152, 128, 99, 10]⟩ : ByteArray) 1 1 0 1).bind fun bt135 => (some (bt135.1 == 1 && (bt135.2 == 6)))) else (some false))) else (some false))) else (some false))) else (some false)) = some r := H
        have A27 := Aside0.mk A270
        clear A270
        by_cases c28 : t129 = 6
        · rw [if_pos c28] at H
          have c28b0 : (t129 == 6) = true := beq_iff_eq.mpr c28
          have c28b1 : (t129 != 6) = false := bne_eq_false_iff_eq.mpr c28
          clear c28
          replace H := Option.bind_eq_some_iff.mp H
          obtain ⟨t130, A290, H⟩ := H
          replace H : (if t130 = 2 then ((lines_Pos.f kj2 (⟨#[97, 98, 13, 10, 195, 169, 240, 159, 152, 128, 99, 10]⟩ : ByteArray) 8).bind fun bt131 => (if (bt131.1 == 1 && (bt131.2 == 1)) = true then ((lines_Pos.f kj2 (⟨#[97, 98, 13, 10, 195, 169, 240, 159, 152, 128, 99, 10]⟩ : ByteArray) 3).bind fun bt133 => (if (bt133.1 == 0 && (bt133.2 == 2)) = true then ((lines_Offsets.f (⟨#[97, 98, 13, 10, 195, 169, 240, 159, 152, 128, 99, 10]⟩ : ByteArray) 1 1 0 1).bind fun bt135 => (some (bt135.1 == 1 && (bt135.2 == 6)))) else (some false))) else (some false))) else (some false)) = some r := H
          have A29 := Aside0.mk A290
          clear A290
          by_cases c30 : t130 = 2
          · rw [if_pos c30] at H
            have c30b0 : (t130 == 2) = true := beq_iff_eq.mpr c30
            have c30b1 : (t130 != 2) = false := bne_eq_false_iff_eq.mpr c30
            clear c30
            replace H := Option.bind_eq_some_iff.mp H
            obtain ⟨⟨t131, t132⟩, A310, H⟩ := H
            replace H : (if (t131 == 1 && (t132 == 1)) = true then ((lines_Pos.f kj2 (⟨#[97, 98, 13, 10, 195, 169, 240, 159, 152, 128, 99, 10]⟩ : ByteArray) 3).bind fun bt133 => (if (bt133.1 == 0 && (bt133.2 == 2)) = true then ((lines_Offsets.f (⟨#[97, 98, 13, 10, 195, 169, 240, 159, 152, 128, 99, 10]⟩ : ByteArray) 1 1 0 1).bind fun bt135 => (some (bt135.1 == 1 && (bt135.2 == 6)))) else (some false))) else (some false)) = some r := H
            have A31 := Aside0.mk A310
            clear A310
            by_cases c32 : (t131 == 1 && (t132 == 1)) = true
            · rw [if_pos c32] at H
              have c32b0 : (t131 == 1 && (t132 == 1)) = true := c32
              (try (have c32b1 : decide (t131 = 1 && (t132 == 1)) = true := by simpa using c32))
              (try (have c32b2 : (t131 == 1 && (t132 == 1)) = true := by simpa using c32))
              clear c32
              replace H := Option.bind_eq_some_iff.mp H
              obtain ⟨⟨t133, t134⟩, A330, H⟩ := H
              replace H : (if (t133 == 0 && (t134 == 2)) = true then ((lines_Offsets.f (⟨#[97, 98, 13, 10, 195, 169, 240, 159, 152, 128, 99, 10]⟩ : ByteArray) 1 1 0 1).bind fun bt135 => (some (bt135.1 == 1 && (bt135.2 == 6)))) else (some false)) = some r := H
              have A33 := Aside0.mk A330
              clear A330
              by_cases c34 : (t133 == 0 && (t134 == 2)) = true
              · rw [if_pos c34] at H
                have c34b0 : (t133 == 0 && (t134 == 2)) = true := c34
                (try (have c34b1 : decide (t133 = 0 && (t134 == 2)) = true := by simpa using c34))
                (try (have c34b2 : (t133 == 0 && (t134 == 2)) = true := by simpa using c34))
                clear c34
                replace H := Option.bind_eq_some_iff.mp H
                obtain ⟨⟨t135, t136⟩, A350, H⟩ := H
                replace H : (some (t135 == 1 && (t136 == 6))) = some r := H
                have A35 := Aside0.mk A350
                clear A350
                obtain rfl := Option.some.inj H
                go_wp2_with (first | ((with_reducible refine gate_callee (f := 24) rfl ?_); refine goesL_ (some 42) rfl rfl Tryd.func24 (by kernel_rfl) rfl #[.string (⟨#[97, 98, 13, 10, 195, 169, 240, 159, 152, 128, 99, 10]⟩ : ByteArray), .agg #[.int .i64 1, .int .i64 2]] rfl (by (try simp only [List.map_toArray, List.map_cons, List.map_nil]); first | done | rfl | (simp only [List.length_drop, List.length_take]; rfl)) ?_; (with_reducible refine (lines_Offset.calls (⟨#[97, 98, 13, 10, 195, 169, 240, 159, 152, 128, 99, 10]⟩ : ByteArray) 1 2 t129 _ A27.out).mono ?_); rintro e w36 ⟨rfl, hb⟩; refine ⟨_, rfl, ?_⟩; have n0_ := Aside0.mk (blk_below (g := gb125) (o := .cells #[.int .i64 t122, .int .i64 t123] 40 (0, 0)) (by (with_reducible repeat (first | refine blk_drewN ?_ _ | refine blk_drew ?_ | refine blk_alloc ?_ _)); exact BK125.out) hb); have n1_ := Aside0.mk (below_step (by repeat (first | (with_reducible first | exact HB.out | apply below_alloc | apply pw_below_drewN | apply below_drew1 | refine below_set ?_ GE125.out) | exact HB.out)) hb); clear BK125; clear HB; have BK125 := n0_; have HB := n1_; clear n0_ n1_; (try clear hb); (try clear hb2); (try clear hk); (try clear hi)) | (go_at_call 24; (with_reducible refine (lines_Offset.calls (⟨#[97, 98, 13, 10, 195, 169, 240, 159, 152, 128, 99, 10]⟩ : ByteArray) 0 9 t130 _ A29.out).mono ?_); rintro e w37 ⟨rfl, hb⟩; have n0_ := Aside0.mk (blk_below (g := gb125) (o := .cells #[.int .i64 t122, .int .i64 t123] 40 (0, 0)) (by (with_reducible repeat (first | refine blk_drewN ?_ _ | refine blk_drew ?_ | refine blk_alloc ?_ _)); exact BK125.out) hb); have n1_ := Aside0.mk (below_step (by repeat (first | (with_reducible first | exact HB.out | apply below_alloc | apply pw_below_drewN | apply below_drew1 | refine below_set ?_ GE125.out) | exact HB.out)) hb); clear BK125; clear HB; have BK125 := n0_; have HB := n1_; clear n0_ n1_; (try clear hb); (try clear hb2); (try clear hk); (try clear hi)) | (go_at_call 26; (with_reducible refine (lines_Pos.calls kj2 (⟨#[97, 98, 13, 10, 195, 169, 240, 159, 152, 128, 99, 10]⟩ : ByteArray) 8 t131 t132 _ (by first | exact HG.out | exact GlobOk.below HG.out (by repeat (first | (with_reducible first | exact HB.out | apply below_alloc | apply pw_below_drewN | apply below_drew1 | refine below_set ?_ GE125.out) | exact HB.out))) A31.out).mono ?_); rintro e w38 ⟨rfl, hb⟩; have n0_ := Aside0.mk (blk_below (g := gb125) (o := .cells #[.int .i64 t122, .int .i64 t123] 40 (0, 0)) (by (with_reducible repeat (first | refine blk_drewN ?_ _ | refine blk_drew ?_ | refine blk_alloc ?_ _)); exact BK125.out) hb); have n1_ := Aside0.mk (below_step (by repeat (first | (with_reducible first | exact HB.out | apply below_alloc | apply pw_below_drewN | apply below_drew1 | refine below_set ?_ GE125.out) | exact HB.out)) hb); clear BK125; clear HB; have BK125 := n0_; have HB := n1_; clear n0_ n1_; (try clear hb); (try clear hb2); (try clear hk); (try clear hi)) | (go_at_call 26; (with_reducible refine (lines_Pos.calls kj2 (⟨#[97, 98, 13, 10, 195, 169, 240, 159, 152, 128, 99, 10]⟩ : ByteArray) 3 t133 t134 _ (by first | exact HG.out | exact GlobOk.below HG.out (by repeat (first | (with_reducible first | exact HB.out | apply below_alloc | apply pw_below_drewN | apply below_drew1 | refine below_set ?_ GE125.out) | exact HB.out))) A33.out).mono ?_); rintro e w39 ⟨rfl, hb⟩; have n0_ := Aside0.mk (blk_below (g := gb125) (o := .cells #[.int .i64 t122, .int .i64 t123] 40 (0, 0)) (by (with_reducible repeat (first | refine blk_drewN ?_ _ | refine blk_drew ?_ | refine blk_alloc ?_ _)); exact BK125.out) hb); have n1_ := Aside0.mk (below_step (by repeat (first | (with_reducible first | exact HB.out | apply below_alloc | apply pw_below_drewN | apply below_drew1 | refine below_set ?_ GE125.out) | exact HB.out)) hb); clear BK125; clear HB; have BK125 := n0_; have HB := n1_; clear n0_ n1_; (try clear hb); (try clear hb2); (try clear hk); (try clear hi)) | (go_at_call 28; (with_reducible refine (lines_Offsets.calls (⟨#[97, 98, 13, 10, 195, 169, 240, 159, 152, 128, 99, 10]⟩ : ByteArray) 1 1 0 1 t135 t136 _ A35.out).mono ?_); rintro e w40 ⟨rfl, hb⟩; have n0_ := Aside0.mk (blk_below (g := gb125) (o := .cells #[.int .i64 t122, .int .i64 t123] 40 (0, 0)) (by (with_reducible repeat (first | refine blk_drewN ?_ _ | refine blk_drew ?_ | refine blk_alloc ?_ _)); exact BK125.out) hb); have n1_ := Aside0.mk (below_step (by repeat (first | (with_reducible first | exact HB.out | apply below_alloc | apply pw_below_drewN | apply below_drew1 | refine below_set ?_ GE125.out) | exact HB.out)) hb); clear BK125; clear HB; have BK125 := n0_; have HB := n1_; clear n0_ n1_; (try clear hb); (try clear hb2); (try clear hk); (try clear hi)))
                go_ret
                exact ⟨by first | rfl | (simp [errW_none, errW_some] <;> rfl) | (simp [*, errW_none, errW_some] <;> rfl), by repeat (first | (with_reducible first | exact HB.out | apply below_alloc | apply pw_below_drewN | apply below_drew1 | refine below_set ?_ GE125.out) | exact HB.out)⟩
              · rw [if_neg c34] at H
                have c34b0 : (t133 == 0 && (t134 == 2)) = false := by simpa using c34
                (try (have c34b1 : decide (t133 = 0 && (t134 == 2)) = false := by simpa using c34))
                (try (have c34b2 : (t133 == 0 && (t134 == 2)) = false := by simpa using c34))
                (try (have c34b3 : ¬ (t133 = 0 && (t134 == 2)) := by simpa using c34))
                clear c34
                obtain rfl := Option.some.inj H
                go_wp2_with (first | ((with_reducible refine gate_callee (f := 24) rfl ?_); refine goesL_ (some 42) rfl rfl Tryd.func24 (by kernel_rfl) rfl #[.string (⟨#[97, 98, 13, 10, 195, 169, 240, 159, 152, 128, 99, 10]⟩ : ByteArray), .agg #[.int .i64 1, .int .i64 2]] rfl (by (try simp only [List.map_toArray, List.map_cons, List.map_nil]); first | done | rfl | (simp only [List.length_drop, List.length_take]; rfl)) ?_; (with_reducible refine (lines_Offset.calls (⟨#[97, 98, 13, 10, 195, 169, 240, 159, 152, 128, 99, 10]⟩ : ByteArray) 1 2 t129 _ A27.out).mono ?_); rintro e w41 ⟨rfl, hb⟩; refine ⟨_, rfl, ?_⟩; have n0_ := Aside0.mk (blk_below (g := gb125) (o := .cells #[.int .i64 t122, .int .i64 t123] 40 (0, 0)) (by (with_reducible repeat (first | refine blk_drewN ?_ _ | refine blk_drew ?_ | refine blk_alloc ?_ _)); exact BK125.out) hb); have n1_ := Aside0.mk (below_step (by repeat (first | (with_reducible first | exact HB.out | apply below_alloc | apply pw_below_drewN | apply below_drew1 | refine below_set ?_ GE125.out) | exact HB.out)) hb); clear BK125; clear HB; have BK125 := n0_; have HB := n1_; clear n0_ n1_; (try clear hb); (try clear hb2); (try clear hk); (try clear hi)) | (go_at_call 24; (with_reducible refine (lines_Offset.calls (⟨#[97, 98, 13, 10, 195, 169, 240, 159, 152, 128, 99, 10]⟩ : ByteArray) 0 9 t130 _ A29.out).mono ?_); rintro e w42 ⟨rfl, hb⟩; have n0_ := Aside0.mk (blk_below (g := gb125) (o := .cells #[.int .i64 t122, .int .i64 t123] 40 (0, 0)) (by (with_reducible repeat (first | refine blk_drewN ?_ _ | refine blk_drew ?_ | refine blk_alloc ?_ _)); exact BK125.out) hb); have n1_ := Aside0.mk (below_step (by repeat (first | (with_reducible first | exact HB.out | apply below_alloc | apply pw_below_drewN | apply below_drew1 | refine below_set ?_ GE125.out) | exact HB.out)) hb); clear BK125; clear HB; have BK125 := n0_; have HB := n1_; clear n0_ n1_; (try clear hb); (try clear hb2); (try clear hk); (try clear hi)) | (go_at_call 26; (with_reducible refine (lines_Pos.calls kj2 (⟨#[97, 98, 13, 10, 195, 169, 240, 159, 152, 128, 99, 10]⟩ : ByteArray) 8 t131 t132 _ (by first | exact HG.out | exact GlobOk.below HG.out (by repeat (first | (with_reducible first | exact HB.out | apply below_alloc | apply pw_below_drewN | apply below_drew1 | refine below_set ?_ GE125.out) | exact HB.out))) A31.out).mono ?_); rintro e w43 ⟨rfl, hb⟩; have n0_ := Aside0.mk (blk_below (g := gb125) (o := .cells #[.int .i64 t122, .int .i64 t123] 40 (0, 0)) (by (with_reducible repeat (first | refine blk_drewN ?_ _ | refine blk_drew ?_ | refine blk_alloc ?_ _)); exact BK125.out) hb); have n1_ := Aside0.mk (below_step (by repeat (first | (with_reducible first | exact HB.out | apply below_alloc | apply pw_below_drewN | apply below_drew1 | refine below_set ?_ GE125.out) | exact HB.out)) hb); clear BK125; clear HB; have BK125 := n0_; have HB := n1_; clear n0_ n1_; (try clear hb); (try clear hb2); (try clear hk); (try clear hi)) | (go_at_call 26; (with_reducible refine (lines_Pos.calls kj2 (⟨#[97, 98, 13, 10, 195, 169, 240, 159, 152, 128, 99, 10]⟩ : ByteArray) 3 t133 t134 _ (by first | exact HG.out | exact GlobOk.below HG.out (by repeat (first | (with_reducible first | exact HB.out | apply below_alloc | apply pw_below_drewN | apply below_drew1 | refine below_set ?_ GE125.out) | exact HB.out))) A33.out).mono ?_); rintro e w44 ⟨rfl, hb⟩; have n0_ := Aside0.mk (blk_below (g := gb125) (o := .cells #[.int .i64 t122, .int .i64 t123] 40 (0, 0)) (by (with_reducible repeat (first | refine blk_drewN ?_ _ | refine blk_drew ?_ | refine blk_alloc ?_ _)); exact BK125.out) hb); have n1_ := Aside0.mk (below_step (by repeat (first | (with_reducible first | exact HB.out | apply below_alloc | apply pw_below_drewN | apply below_drew1 | refine below_set ?_ GE125.out) | exact HB.out)) hb); clear BK125; clear HB; have BK125 := n0_; have HB := n1_; clear n0_ n1_; (try clear hb); (try clear hb2); (try clear hk); (try clear hi)))
                go_ret
                exact ⟨by first | rfl | (simp [errW_none, errW_some] <;> rfl) | (simp [*, errW_none, errW_some] <;> rfl), by repeat (first | (with_reducible first | exact HB.out | apply below_alloc | apply pw_below_drewN | apply below_drew1 | refine below_set ?_ GE125.out) | exact HB.out)⟩
            · rw [if_neg c32] at H
              have c32b0 : (t131 == 1 && (t132 == 1)) = false := by simpa using c32
              (try (have c32b1 : decide (t131 = 1 && (t132 == 1)) = false := by simpa using c32))
              (try (have c32b2 : (t131 == 1 && (t132 == 1)) = false := by simpa using c32))
              (try (have c32b3 : ¬ (t131 = 1 && (t132 == 1)) := by simpa using c32))
              clear c32
              obtain rfl := Option.some.inj H
              go_wp2_with (first | ((with_reducible refine gate_callee (f := 24) rfl ?_); refine goesL_ (some 42) rfl rfl Tryd.func24 (by kernel_rfl) rfl #[.string (⟨#[97, 98, 13, 10, 195, 169, 240, 159, 152, 128, 99, 10]⟩ : ByteArray), .agg #[.int .i64 1, .int .i64 2]] rfl (by (try simp only [List.map_toArray, List.map_cons, List.map_nil]); first | done | rfl | (simp only [List.length_drop, List.length_take]; rfl)) ?_; (with_reducible refine (lines_Offset.calls (⟨#[97, 98, 13, 10, 195, 169, 240, 159, 152, 128, 99, 10]⟩ : ByteArray) 1 2 t129 _ A27.out).mono ?_); rintro e w45 ⟨rfl, hb⟩; refine ⟨_, rfl, ?_⟩; have n0_ := Aside0.mk (blk_below (g := gb125) (o := .cells #[.int .i64 t122, .int .i64 t123] 40 (0, 0)) (by (with_reducible repeat (first | refine blk_drewN ?_ _ | refine blk_drew ?_ | refine blk_alloc ?_ _)); exact BK125.out) hb); have n1_ := Aside0.mk (below_step (by repeat (first | (with_reducible first | exact HB.out | apply below_alloc | apply pw_below_drewN | apply below_drew1 | refine below_set ?_ GE125.out) | exact HB.out)) hb); clear BK125; clear HB; have BK125 := n0_; have HB := n1_; clear n0_ n1_; (try clear hb); (try clear hb2); (try clear hk); (try clear hi)) | (go_at_call 24; (with_reducible refine (lines_Offset.calls (⟨#[97, 98, 13, 10, 195, 169, 240, 159, 152, 128, 99, 10]⟩ : ByteArray) 0 9 t130 _ A29.out).mono ?_); rintro e w46 ⟨rfl, hb⟩; have n0_ := Aside0.mk (blk_below (g := gb125) (o := .cells #[.int .i64 t122, .int .i64 t123] 40 (0, 0)) (by (with_reducible repeat (first | refine blk_drewN ?_ _ | refine blk_drew ?_ | refine blk_alloc ?_ _)); exact BK125.out) hb); have n1_ := Aside0.mk (below_step (by repeat (first | (with_reducible first | exact HB.out | apply below_alloc | apply pw_below_drewN | apply below_drew1 | refine below_set ?_ GE125.out) | exact HB.out)) hb); clear BK125; clear HB; have BK125 := n0_; have HB := n1_; clear n0_ n1_; (try clear hb); (try clear hb2); (try clear hk); (try clear hi)) | (go_at_call 26; (with_reducible refine (lines_Pos.calls kj2 (⟨#[97, 98, 13, 10, 195, 169, 240, 159, 152, 128, 99, 10]⟩ : ByteArray) 8 t131 t132 _ (by first | exact HG.out | exact GlobOk.below HG.out (by repeat (first | (with_reducible first | exact HB.out | apply below_alloc | apply pw_below_drewN | apply below_drew1 | refine below_set ?_ GE125.out) | exact HB.out))) A31.out).mono ?_); rintro e w47 ⟨rfl, hb⟩; have n0_ := Aside0.mk (blk_below (g := gb125) (o := .cells #[.int .i64 t122, .int .i64 t123] 40 (0, 0)) (by (with_reducible repeat (first | refine blk_drewN ?_ _ | refine blk_drew ?_ | refine blk_alloc ?_ _)); exact BK125.out) hb); have n1_ := Aside0.mk (below_step (by repeat (first | (with_reducible first | exact HB.out | apply below_alloc | apply pw_below_drewN | apply below_drew1 | refine below_set ?_ GE125.out) | exact HB.out)) hb); clear BK125; clear HB; have BK125 := n0_; have HB := n1_; clear n0_ n1_; (try clear hb); (try clear hb2); (try clear hk); (try clear hi)))
              go_ret
              exact ⟨by first | rfl | (simp [errW_none, errW_some] <;> rfl) | (simp [*, errW_none, errW_some] <;> rfl), by repeat (first | (with_reducible first | exact HB.out | apply below_alloc | apply pw_below_drewN | apply below_drew1 | refine below_set ?_ GE125.out) | exact HB.out)⟩
          · rw [if_neg c30] at H
            have c30b0 : (t130 == 2) = false := beq_eq_false_iff_ne.mpr c30
            have c30b1 : (t130 != 2) = true := bne_iff_ne.mpr c30
            obtain rfl := Option.some.inj H
            go_wp2_with (first | ((with_reducible refine gate_callee (f := 24) rfl ?_); refine goesL_ (some 42) rfl rfl Tryd.func24 (by kernel_rfl) rfl #[.string (⟨#[97, 98, 13, 10, 195, 169, 240, 159, 152, 128, 99, 10]⟩ : ByteArray), .agg #[.int .i64 1, .int .i64 2]] rfl (by (try simp only [List.map_toArray, List.map_cons, List.map_nil]); first | done | rfl | (simp only [List.length_drop, List.length_take]; rfl)) ?_; (with_reducible refine (lines_Offset.calls (⟨#[97, 98, 13, 10, 195, 169, 240, 159, 152, 128, 99, 10]⟩ : ByteArray) 1 2 t129 _ A27.out).mono ?_); rintro e w48 ⟨rfl, hb⟩; refine ⟨_, rfl, ?_⟩; have n0_ := Aside0.mk (blk_below (g := gb125) (o := .cells #[.int .i64 t122, .int .i64 t123] 40 (0, 0)) (by (with_reducible repeat (first | refine blk_drewN ?_ _ | refine blk_drew ?_ | refine blk_alloc ?_ _)); exact BK125.out) hb); have n1_ := Aside0.mk (below_step (by repeat (first | (with_reducible first | exact HB.out | apply below_alloc | apply pw_below_drewN | apply below_drew1 | refine below_set ?_ GE125.out) | exact HB.out)) hb); clear BK125; clear HB; have BK125 := n0_; have HB := n1_; clear n0_ n1_; (try clear hb); (try clear hb2); (try clear hk); (try clear hi)) | (go_at_call 24; (with_reducible refine (lines_Offset.calls (⟨#[97, 98, 13, 10, 195, 169, 240, 159, 152, 128, 99, 10]⟩ : ByteArray) 0 9 t130 _ A29.out).mono ?_); rintro e w49 ⟨rfl, hb⟩; have n0_ := Aside0.mk (blk_below (g := gb125) (o := .cells #[.int .i64 t122, .int .i64 t123] 40 (0, 0)) (by (with_reducible repeat (first | refine blk_drewN ?_ _ | refine blk_drew ?_ | refine blk_alloc ?_ _)); exact BK125.out) hb); have n1_ := Aside0.mk (below_step (by repeat (first | (with_reducible first | exact HB.out | apply below_alloc | apply pw_below_drewN | apply below_drew1 | refine below_set ?_ GE125.out) | exact HB.out)) hb); clear BK125; clear HB; have BK125 := n0_; have HB := n1_; clear n0_ n1_; (try clear hb); (try clear hb2); (try clear hk); (try clear hi)))
            go_ret
            exact ⟨by first | rfl | (simp [errW_none, errW_some] <;> rfl) | (simp [*, errW_none, errW_some] <;> rfl), by repeat (first | (with_reducible first | exact HB.out | apply below_alloc | apply pw_below_drewN | apply below_drew1 | refine below_set ?_ GE125.out) | exact HB.out)⟩
        · rw [if_neg c28] at H
          have c28b0 : (t129 == 6) = false := beq_eq_false_iff_ne.mpr c28
          have c28b1 : (t129 != 6) = true := bne_iff_ne.mpr c28
          obtain rfl := Option.some.inj H
          go_wp2_with (first | ((with_reducible refine gate_callee (f := 24) rfl ?_); refine goesL_ (some 42) rfl rfl Tryd.func24 (by kernel_rfl) rfl #[.string (⟨#[97, 98, 13, 10, 195, 169, 240, 159, 152, 128, 99, 10]⟩ : ByteArray), .agg #[.int .i64 1, .int .i64 2]] rfl (by (try simp only [List.map_toArray, List.map_cons, List.map_nil]); first | done | rfl | (simp only [List.length_drop, List.length_take]; rfl)) ?_; (with_reducible refine (lines_Offset.calls (⟨#[97, 98, 13, 10, 195, 169, 240, 159, 152, 128, 99, 10]⟩ : ByteArray) 1 2 t129 _ A27.out).mono ?_); rintro e w50 ⟨rfl, hb⟩; refine ⟨_, rfl, ?_⟩; have n0_ := Aside0.mk (blk_below (g := gb125) (o := .cells #[.int .i64 t122, .int .i64 t123] 40 (0, 0)) (by (with_reducible repeat (first | refine blk_drewN ?_ _ | refine blk_drew ?_ | refine blk_alloc ?_ _)); exact BK125.out) hb); have n1_ := Aside0.mk (below_step (by repeat (first | (with_reducible first | exact HB.out | apply below_alloc | apply pw_below_drewN | apply below_drew1 | refine below_set ?_ GE125.out) | exact HB.out)) hb); clear BK125; clear HB; have BK125 := n0_; have HB := n1_; clear n0_ n1_; (try clear hb); (try clear hb2); (try clear hk); (try clear hi)))
          go_ret
          exact ⟨by first | rfl | (simp [errW_none, errW_some] <;> rfl) | (simp [*, errW_none, errW_some] <;> rfl), by repeat (first | (with_reducible first | exact HB.out | apply below_alloc | apply pw_below_drewN | apply below_drew1 | refine below_set ?_ GE125.out) | exact HB.out)⟩

end Go.Proofs.YtfjanedappcolaaDoor.Q
