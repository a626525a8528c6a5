-- Written by this repo's wip/xprint.py (over the kit's print.py) out of the translation. Not trusted: Lean checks it.
import Derived.Test.YtfjanedappcolaaDoorQ0
import Derived.Test.YtfjanedappcolaaDoorQ3
import Derived.Test.YtfjanedappcolaaDoorQ4
import Derived.Test.YtfjanedappcolaaDoorQ10
namespace Go.Proofs.YtfjanedappcolaaDoor.Q
open Go.RowKit Go.Proofs.YtfjanedappcolaaDoorW.PrintWords Go.Proofs.YtfjanedappcolaaDoorW.PrintLast Go.Proofs.YtfjanedappcolaaDoorW.PrintMore
attribute [local go_sem] max2_int min2_int max_two min_two max_three min_three max_four min_four   -- for this text's walks alone
set_option linter.unusedVariables false
set_option linter.unusedSimpArgs false

/-! ### glossatorlaw01_UtfBack: function 6 -/
mutual
def glossatorlaw01_UtfBack.j0 : Nat → ByteArray → Int → Bool → Option (Bool)
  | 0, _, _, _ => none
  | k + 1, x0, x2, x54 => if x54 = true then (some false) else ((utf_Cut.f x0 x2).bind fun t195 => (if t195 < 0 then (glossatorlaw01_UtfBack.j1 k x0 x2 t195 true) else (if t195 > (x0.size : Int) then (glossatorlaw01_UtfBack.j1 k x0 x2 t195 true) else ((utf_Begin.f k x0 t195).bind fun t196 => (glossatorlaw01_UtfBack.j1 k x0 x2 t195 (t196 != t195))))))
def glossatorlaw01_UtfBack.j1 : Nat → ByteArray → Int → Int → Bool → Option (Bool)
  | 0, _, _, _, _ => none
  | k + 1, x0, x2, x8, x72 => if x72 = true then (some false) else (if 0 ≤ x8 then (if x8 ≤ (x0.size : Int) then ((utf_Units.f (x0.extract 0 (x8 : Int).toNat)).bind fun t197 => (if x2 < 0 then (some (x8 == 0)) else ((utf_Units.f x0).bind fun t198 => (if x2 ≥ t198 then (some (x8 == (x0.size : Int))) else (if t197 = x2 then (some true) else ((utf_Next.f k x0 x8).bind fun bt199 => (if t197 = (wrap64 (x2 - 1)) then (some (bt199.2.1 == 4)) else (some false)))))))) else (none)) else (none))
end
def glossatorlaw01_UtfBack.f (k : Nat) (a0 : ByteArray) (a1 : Int) (a2 : Int) : Option (Bool) := (glossatorlaw01_awake.f k).bind fun t187 => (if t187 = true then (if (a0.size : Int) > 20000 then (some true) else ((utf_Begin.f k a0 a1).bind fun t188 => (if t188 < 0 then (glossatorlaw01_UtfBack.j0 k a0 a2 true) else (if t188 > (a0.size : Int) then (glossatorlaw01_UtfBack.j0 k a0 a2 true) else (if t188 > a1 then (if a1 ≥ 0 then (glossatorlaw01_UtfBack.j0 k a0 a2 true) else (if 0 ≤ t188 then (if t188 ≤ (a0.size : Int) then ((utf_Units.f (a0.extract 0 (t188 : Int).toNat)).bind fun t189 => ((utf_Cut.f a0 t189).bind fun t190 => (if t190 = t188 then ((utf_Begin.f k a0 t188).bind fun t191 => (glossatorlaw01_UtfBack.j0 k a0 a2 (t191 != t188))) else (glossatorlaw01_UtfBack.j0 k a0 a2 true)))) else (none)) else (none))) else (if 0 ≤ t188 then (if t188 ≤ (a0.size : Int) then ((utf_Units.f (a0.extract 0 (t188 : Int).toNat)).bind fun t192 => ((utf_Cut.f a0 t192).bind fun t193 => (if t193 = t188 then ((utf_Begin.f k a0 t188).bind fun t194 => (glossatorlaw01_UtfBack.j0 k a0 a2 (t194 != t188))) else (glossatorlaw01_UtfBack.j0 k a0 a2 true)))) else (none)) else (none))))))) else (some false))
theorem glossatorlaw01_UtfBack.mono_l : ∀ k, (∀ y0 y1 y2, LeO (glossatorlaw01_UtfBack.j0 k y0 y1 y2) (glossatorlaw01_UtfBack.j0 (k + 1) y0 y1 y2)) ∧ (∀ y0 y1 y2 y3, LeO (glossatorlaw01_UtfBack.j1 k y0 y1 y2 y3) (glossatorlaw01_UtfBack.j1 (k + 1) y0 y1 y2 y3))
  | 0 => ⟨fun _ _ _ r h => by simp [glossatorlaw01_UtfBack.j0] at h, fun _ _ _ _ r h => by simp [glossatorlaw01_UtfBack.j1] at h⟩
  | k + 1 => by
    obtain ⟨ih0, ih1⟩ := glossatorlaw01_UtfBack.mono_l k
    refine ⟨?_, ?_⟩
    · intro y0 y1 y2
      unfold glossatorlaw01_UtfBack.j0
      repeat' first
      | (with_reducible exact ih0 _ _ _)
      | (with_reducible exact ih1 _ _ _ _)
      | (with_reducible exact glossatorlaw01_awake.mono _)
      | (with_reducible exact utf_Begin.mono _ _ _)
      | (with_reducible exact utf_Next.mono _ _ _)
      | (with_reducible exact LeO.refl _)
      | (with_reducible exact LeO.none _)
      | (with_reducible refine LeO.ite ?_ ?_)
      | (with_reducible refine LeO.bind ?_ (fun _ => ?_))
      | exact ih0 _ _ _
      | exact ih1 _ _ _ _
      | exact glossatorlaw01_awake.mono _
      | exact utf_Begin.mono _ _ _
      | exact utf_Next.mono _ _ _
      | exact LeO.none _
      | refine LeO.ite ?_ ?_
      | refine LeO.bind ?_ (fun _ => ?_)
    · intro y0 y1 y2 y3
      unfold glossatorlaw01_UtfBack.j1
      repeat' first
      | (with_reducible exact ih0 _ _ _)
      | (with_reducible exact ih1 _ _ _ _)
      | (with_reducible exact glossatorlaw01_awake.mono _)
      | (with_reducible exact utf_Begin.mono _ _ _)
      | (with_reducible exact utf_Next.mono _ _ _)
      | (with_reducible exact LeO.refl _)
      | (with_reducible exact LeO.none _)
      | (with_reducible refine LeO.ite ?_ ?_)
      | (with_reducible refine LeO.bind ?_ (fun _ => ?_))
      | exact ih0 _ _ _
      | exact ih1 _ _ _ _
      | exact glossatorlaw01_awake.mono _
      | exact utf_Begin.mono _ _ _
      | exact utf_Next.mono _ _ _
      | exact LeO.none _
      | refine LeO.ite ?_ ?_
      | refine LeO.bind ?_ (fun _ => ?_)
theorem glossatorlaw01_UtfBack.mono : ∀ a0 a1 a2 k, LeO (glossatorlaw01_UtfBack.f k a0 a1 a2) (glossatorlaw01_UtfBack.f (k + 1) a0 a1 a2) := by
  intro a0 a1 a2 k
  obtain ⟨ih0, ih1⟩ := glossatorlaw01_UtfBack.mono_l k
  unfold glossatorlaw01_UtfBack.f
  repeat' first
      | (with_reducible exact ih0 _ _ _)
      | (with_reducible exact ih1 _ _ _ _)
      | (with_reducible exact glossatorlaw01_awake.mono _)
      | (with_reducible exact utf_Begin.mono _ _ _)
      | (with_reducible exact utf_Next.mono _ _ _)
      | (with_reducible exact LeO.refl _)
      | (with_reducible exact LeO.none _)
      | (with_reducible refine LeO.ite ?_ ?_)
      | (with_reducible refine LeO.bind ?_ (fun _ => ?_))
      | exact ih0 _ _ _
      | exact ih1 _ _ _ _
      | exact glossatorlaw01_awake.mono _
      | exact utf_Begin.mono _ _ _
      | exact utf_Next.mono _ _ _
      | exact LeO.none _
      | refine LeO.ite ?_ ?_
      | refine LeO.bind ?_ (fun _ => ?_)
set_option maxHeartbeats 8000000 in
set_option maxRecDepth 100000 in
theorem glossatorlaw01_UtfBack.calls (k : Nat) (a0 : ByteArray) (a1 : Int) (a2 : Int) (r : Bool) (w : World) (hG : GlobOk w) (h : glossatorlaw01_UtfBack.f k a0 a1 a2 = some r) :
    Calls Tryd.prog 6 #[.string a0, .int .i64 a1, .int .i64 a2] w fun e w' => e = .returned (.bool r) ∧ Below w.heap.size w w' := by
  have HG := Aside0.mk hG
  clear hG
  have HB := Aside0.mk (Below.refl w.heap.size w)
  have H : ((glossatorlaw01_awake.f k).bind fun t187 => (if t187 = true then (if (a0.size : Int) > 20000 then (some true) else ((utf_Begin.f k a0 a1).bind fun t188 => (if t188 < 0 then (glossatorlaw01_UtfBack.j0 k a0 a2 true) else (if t188 > (a0.size : Int) then (glossatorlaw01_UtfBack.j0 k a0 a2 true) else (if t188 > a1 then (if a1 ≥ 0 then (glossatorlaw01_UtfBack.j0 k a0 a2 true) else (if 0 ≤ t188 then (if t188 ≤ (a0.size : Int) then ((utf_Units.f (a0.extract 0 (t188 : Int).toNat)).bind fun t189 => ((utf_Cut.f a0 t189).bind fun t190 => (if t190 = t188 then ((utf_Begin.f k a0 t188).bind fun t191 => (glossatorlaw01_UtfBack.j0 k a0 a2 (t191 != t188))) else (glossatorlaw01_UtfBack.j0 k a0 a2 true)))) else (none)) else (none))) else (if 0 ≤ t188 then (if t188 ≤ (a0.size : Int) then ((utf_Units.f (a0.extract 0 (t188 : Int).toNat)).bind fun t192 => ((utf_Cut.f a0 t192).bind fun t193 => (if t193 = t188 then ((utf_Begin.f k a0 t188).bind fun t194 => (glossatorlaw01_UtfBack.j0 k a0 a2 (t194 != t188))) else (glossatorlaw01_UtfBack.j0 k a0 a2 true)))) else (none)) else (none))))))) else (some false))) = some r := h
  clear h
  replace H := Option.bind_eq_some_iff.mp H
  obtain ⟨t187, A40, H⟩ := H
  replace H : (if t187 = true then (if (a0.size : Int) > 20000 then (some true) else ((utf_Begin.f k a0 a1).bind fun t188 => (if t188 < 0 then (glossatorlaw01_UtfBack.j0 k a0 a2 true) else (if t188 > (a0.size : Int) then (glossatorlaw01_UtfBack.j0 k a0 a2 true) else (if t188 > a1 then (if a1 ≥ 0 then (glossatorlaw01_UtfBack.j0 k a0 a2 true) else (if 0 ≤ t188 then (if t188 ≤ (a0.size : Int) then ((utf_Units.f (a0.extract 0 (t188 : Int).toNat)).bind fun t189 => ((utf_Cut.f a0 t189).bind fun t190 => (if t190 = t188 then ((utf_Begin.f k a0 t188).bind fun t191 => (glossatorlaw01_UtfBack.j0 k a0 a2 (t191 != t188))) else (glossatorlaw01_UtfBack.j0 k a0 a2 true)))) else (none)) else (none))) else (if 0 ≤ t188 then (if t188 ≤ (a0.size : Int) then ((utf_Units.f (a0.extract 0 (t188 : Int).toNat)).bind fun t192 => ((utf_Cut.f a0 t192).bind fun t193 => (if t193 = t188 then ((utf_Begin.f k a0 t188).bind fun t194 => (glossatorlaw01_UtfBack.j0 k a0 a2 (t194 != t188))) else (glossatorlaw01_UtfBack.j0 k a0 a2 true)))) else (none)) else (none))))))) else (some false)) = some r := H
  have A4 := Aside0.mk A40
  clear A40
  by_cases c5 : t187 = true
  · subst c5
    have H1 : (if (a0.size : Int) > 20000 then (some true) else ((utf_Begin.f k a0 a1).bind fun t188 => (if t188 < 0 then (glossatorlaw01_UtfBack.j0 k a0 a2 true) else (if t188 > (a0.size : Int) then (glossatorlaw01_UtfBack.j0 k a0 a2 true) else (if t188 > a1 then (if a1 ≥ 0 then (glossatorlaw01_UtfBack.j0 k a0 a2 true) else (if 0 ≤ t188 then (if t188 ≤ (a0.size : Int) then ((utf_Units.f (a0.extract 0 (t188 : Int).toNat)).bind fun t189 => ((utf_Cut.f a0 t189).bind fun t190 => (if t190 = t188 then ((utf_Begin.f k a0 t188).bind fun t191 => (glossatorlaw01_UtfBack.j0 k a0 a2 (t191 != t188))) else (glossatorlaw01_UtfBack.j0 k a0 a2 true)))) else (none)) else (none))) else (if 0 ≤ t188 then (if t188 ≤ (a0.size : Int) then ((utf_Units.f (a0.extract 0 (t188 : Int).toNat)).bind fun t192 => ((utf_Cut.f a0 t192).bind fun t193 => (if t193 = t188 then ((utf_Begin.f k a0 t188).bind fun t194 => (glossatorlaw01_UtfBack.j0 k a0 a2 (t194 != t188))) else (glossatorlaw01_UtfBack.j0 k a0 a2 true)))) else (none)) else (none))))))) = some r := by rw [if_pos rfl] at H; exact H
    clear H
    have H := H1
    clear H1
    by_cases c6 : (a0.size : Int) > 20000
    · rw [if_pos c6] at H
      have c6b0 : decide (20000 < (a0.size : Int)) = true := decide_eq_true c6
      have c6b1 : decide (20000 < a0.size) = true := decide_eq_true (by omega)
      clear c6
      obtain rfl := Option.some.inj H
      go_enter Tryd.func6, Tryd.ntmps6
      go_wp2_with (first | ((with_reducible refine gate_callee (f := 21) rfl ?_); refine goesL_ (some 13) rfl rfl Tryd.func21 (by kernel_rfl) rfl #[] rfl (by (try simp only [List.map_toArray, List.map_cons, List.map_nil]); first | done | rfl | (simp only [List.length_drop, List.length_take]; rfl)) ?_; (with_reducible refine (glossatorlaw01_awake.calls k  true _ (by first | exact HG.out | exact GlobOk.below HG.out (by repeat (first | (with_reducible first | exact HB.out | apply below_alloc | apply pw_below_drewN | apply below_drew1) | exact HB.out))) A4.out).mono ?_); rintro e w7 ⟨rfl, hb⟩; refine ⟨_, rfl, ?_⟩; have n0_ := Aside0.mk (below_step (by repeat (first | (with_reducible first | exact HB.out | apply below_alloc | apply pw_below_drewN | apply below_drew1) | exact HB.out)) hb); clear HB; have HB := n0_; clear n0_; (try clear hb); (try clear hb2); (try clear hk); (try clear hi)))
      go_ret
      exact ⟨by first | rfl | (simp [errW_none, errW_some] <;> rfl) | (simp [*, errW_none, errW_some] <;> rfl), by repeat (first | (with_reducible first | exact HB.out | apply below_alloc | apply pw_below_drewN | apply below_drew1) | exact HB.out)⟩
    · rw [if_neg c6] at H
      have c6b0 : decide (20000 < (a0.size : Int)) = false := decide_eq_false c6
      have c6b1 : decide (20000 < a0.size) = false := decide_eq_false (by omega)
      clear c6
      replace H := Option.bind_eq_some_iff.mp H
      obtain ⟨t188, A80, H⟩ := H
      replace H : (if t188 < 0 then (glossatorlaw01_UtfBack.j0 k a0 a2 true) else (if t188 > (a0.size : Int) then (glossatorlaw01_UtfBack.j0 k a0 a2 true) else (if t188 > a1 then (if a1 ≥ 0 then (glossatorlaw01_UtfBack.j0 k a0 a2 true) else (if 0 ≤ t188 then (if t188 ≤ (a0.size : Int) then ((utf_Units.f (a0.extract 0 (t188 : Int).toNat)).bind fun t189 => ((utf_Cut.f a0 t189).bind fun t190 => (if t190 = t188 then ((utf_Begin.f k a0 t188).bind fun t191 => (glossatorlaw01_UtfBack.j0 k a0 a2 (t191 != t188))) else (glossatorlaw01_UtfBack.j0 k a0 a2 true)))) else (none)) else (none))) else (if 0 ≤ t188 then (if t188 ≤ (a0.size : Int) then ((utf_Units.f (a0.extract 0 (t188 : Int).toNat)).bind fun t192 => ((utf_Cut.f a0 t192).bind fun t193 => (if t193 = t188 then ((utf_Begin.f k a0 t188).bind fun t194 => (glossatorlaw01_UtfBack.j0 k a0 a2 (t194 != t188))) else (glossatorlaw01_UtfBack.j0 k a0 a2 true)))) else (none)) else (none))))) = some r := H
      have A8 := Aside0.mk A80
      clear A80
      have HC9 := Aside0.mk H
      clear H
      go_enter Tryd.func6, Tryd.ntmps6
      go_upto_region 6 with (first | ((with_reducible refine gate_callee (f := 21) rfl ?_); refine goesL_ (some 13) rfl rfl Tryd.func21 (by kernel_rfl) rfl #[] rfl (by (try simp only [List.map_toArray, List.map_cons, List.map_nil]); first | done | rfl | (simp only [List.length_drop, List.length_take]; rfl)) ?_; (with_reducible refine (glossatorlaw01_awake.calls k  true _ (by first | exact HG.out | exact GlobOk.below HG.out (by repeat (first | (with_reducible first | exact HB.out | apply below_alloc | apply pw_below_drewN | apply below_drew1) | exact HB.out))) A4.out).mono ?_); rintro e w10 ⟨rfl, hb⟩; refine ⟨_, rfl, ?_⟩; have n0_ := Aside0.mk (below_step (by repeat (first | (with_reducible first | exact HB.out | apply below_alloc | apply pw_below_drewN | apply below_drew1) | exact HB.out)) hb); clear HB; have HB := n0_; clear n0_; (try clear hb); (try clear hb2); (try clear hk); (try clear hi)) | ((with_reducible refine gate_callee (f := 19) rfl ?_); refine goesL_ (some 20) rfl rfl Tryd.func19 (by kernel_rfl) rfl #[.string a0, .int .i64 a1] rfl (by (try simp only [List.map_toArray, List.map_cons, List.map_nil]); first | done | rfl | (simp only [List.length_drop, List.length_take]; rfl)) ?_; (with_reducible refine (utf_Begin.calls k a0 a1 t188 _ (by first | exact HG.out | exact GlobOk.below HG.out (by repeat (first | (with_reducible first | exact HB.out | apply below_alloc | apply pw_below_drewN | apply below_drew1) | exact HB.out))) A8.out).mono ?_); rintro e w11 ⟨rfl, hb⟩; refine ⟨_, rfl, ?_⟩; have n0_ := Aside0.mk (below_step (by repeat (first | (with_reducible first | exact HB.out | apply below_alloc | apply pw_below_drewN | apply below_drew1) | exact HB.out)) hb); clear HB; have HB := n0_; clear n0_; (try clear hb); (try clear hb2); (try clear hk); (try clear hi)))
      (try simp only [Act.put, List.setIfInBounds_toArray, List.set_cons_zero, List.set_cons_succ])
      go_cut [54] (fun v54 wc => ∃ (kq : Nat) (x54_8 : Bool), v54 = .bool x54_8 ∧ Aside0 (glossatorlaw01_UtfBack.j0 kq a0 a2 x54_8 = some r) ∧ Aside0 (kq ≤ k) ∧ Aside0 (Below w.heap.size w wc))
      case first =>
        have H := HC9.out
        clear HC9
        by_cases c12 : t188 < 0
        · rw [if_pos c12] at H
          have c12b0 : decide (t188 < 0) = true := decide_eq_true c12
          clear c12
          (first | rw [c12b0] | (simp only [i64_w, i32_w]; rw [c12b0]) | skip)
          have H' := Aside0.mk H
          clear H
          go_wp2
          go_meet
          case rel => exact ⟨_, (true), (by first | rfl | (simp; done) | (simp [*]; done) | (simp; exact xEmpty_ne _) | (simp [*]; exact xEmpty_ne _)), H', ⟨by first | omega | exact Nat.le_refl _⟩, ⟨by repeat (first | (with_reducible first | exact HB.out | apply below_alloc | apply pw_below_drewN | apply below_drew1) | exact HB.out)⟩⟩
        · rw [if_neg c12] at H
          have c12b0 : decide (t188 < 0) = false := decide_eq_false c12
          clear c12
          (first | rw [c12b0] | (simp only [i64_w, i32_w]; rw [c12b0]) | skip)
          by_cases c13 : t188 > (a0.size : Int)
          · rw [if_pos c13] at H
            have c13b0 : decide ((a0.size : Int) < t188) = true := decide_eq_true c13
            clear c13
            have H' := Aside0.mk H
            clear H
            go_wp2
            go_meet
            case rel => exact ⟨_, (true), (by first | rfl | (simp; done) | (simp [*]; done) | (simp; exact xEmpty_ne _) | (simp [*]; exact xEmpty_ne _)), H', ⟨by first | omega | exact Nat.le_refl _⟩, ⟨by repeat (first | (with_reducible first | exact HB.out | apply below_alloc | apply pw_below_drewN | apply below_drew1) | exact HB.out)⟩⟩
          · rw [if_neg c13] at H
            have c13b0 : decide ((a0.size : Int) < t188) = false := decide_eq_false c13
            clear c13
            by_cases c14 : t188 > a1
            · rw [if_pos c14] at H
              have c14b0 : decide (a1 < t188) = true := decide_eq_true c14
              clear c14
              by_cases c15 : a1 ≥ 0
              · rw [if_pos c15] at H
                have c15b0 : decide (0 ≤ a1) = true := decide_eq_true c15
                clear c15
                have H' := Aside0.mk H
                clear H
                go_wp2
                go_meet
                case rel => exact ⟨_, (true), (by first | rfl | (simp; done) | (simp [*]; done) | (simp; exact xEmpty_ne _) | (simp [*]; exact xEmpty_ne _)), H', ⟨by first | omega | exact Nat.le_refl _⟩, ⟨by repeat (first | (with_reducible first | exact HB.out | apply below_alloc | apply pw_below_drewN | apply below_drew1) | exact HB.out)⟩⟩
              · rw [if_neg c15] at H
                have c15b0 : decide (0 ≤ a1) = false := decide_eq_false c15
                clear c15
                by_cases c16 : 0 ≤ t188
                · rw [if_pos c16] at H
                  have c16b0 := eq_true c16
                  have c16b1 : decide (0 ≤ t188) = true := decide_eq_true c16
                  clear c16
                  by_cases c17 : t188 ≤ (a0.size : Int)
                  · rw [if_pos c17] at H
                    have c17b0 := eq_true c17
                    have c17b1 : decide (t188 ≤ (a0.size : Int)) = true := decide_eq_true c17
                    clear c17
                    replace H := Option.bind_eq_some_iff.mp H
                    obtain ⟨t189, A180, H⟩ := H
                    replace H : ((utf_Cut.f a0 t189).bind fun t190 => (if t190 = t188 then ((utf_Begin.f k a0 t188).bind fun t191 => (glossatorlaw01_UtfBack.j0 k a0 a2 (t191 != t188))) else (glossatorlaw01_UtfBack.j0 k a0 a2 true))) = some r := H
                    have A18 := Aside0.mk A180
                    clear A180
                    replace H := Option.bind_eq_some_iff.mp H
                    obtain ⟨t190, A190, H⟩ := H
                    replace H : (if t190 = t188 then ((utf_Begin.f k a0 t188).bind fun t191 => (glossatorlaw01_UtfBack.j0 k a0 a2 (t191 != t188))) else (glossatorlaw01_UtfBack.j0 k a0 a2 true)) = some r := H
                    have A19 := Aside0.mk A190
                    clear A190
                    by_cases c20 : t190 = t188
                    · rw [if_pos c20] at H
                      have c20b0 : (t190 == t188) = true := beq_iff_eq.mpr c20
                      have c20b1 : (t190 != t188) = false := bne_eq_false_iff_eq.mpr c20
                      clear c20
                      replace H := Option.bind_eq_some_iff.mp H
                      obtain ⟨t191, A210, H⟩ := H
                      replace H : (glossatorlaw01_UtfBack.j0 k a0 a2 (t191 != t188)) = some r := H
                      have A21 := Aside0.mk A210
                      clear A210
                      have H' := Aside0.mk H
                      clear H
                      go_wp2_with (first | (go_at_call 22; (with_reducible refine (utf_Units.calls (a0.extract 0 (t188 : Int).toNat) t189 _ A18.out).mono ?_); rintro e w22 ⟨rfl, hb⟩; have n0_ := Aside0.mk (below_step (by repeat (first | (with_reducible first | exact HB.out | apply below_alloc | apply pw_below_drewN | apply below_drew1) | exact HB.out)) hb); clear HB; have HB := n0_; clear n0_; (try clear hb); (try clear hb2); (try clear hk); (try clear hi)) | (go_at_call 23; (with_reducible refine (utf_Cut.calls a0 t189 t190 _ A19.out).mono ?_); rintro e w23 ⟨rfl, hb⟩; have n0_ := Aside0.mk (below_step (by repeat (first | (with_reducible first | exact HB.out | apply below_alloc | apply pw_below_drewN | apply below_drew1) | exact HB.out)) hb); clear HB; have HB := n0_; clear n0_; (try clear hb); (try clear hb2); (try clear hk); (try clear hi)) | (go_at_call 19; (with_reducible refine (utf_Begin.calls k a0 t188 t191 _ (by first | exact HG.out | exact GlobOk.below HG.out (by repeat (first | (with_reducible first | exact HB.out | apply below_alloc | apply pw_below_drewN | apply below_drew1) | exact HB.out))) A21.out).mono ?_); rintro e w24 ⟨rfl, hb⟩; have n0_ := Aside0.mk (below_step (by repeat (first | (with_reducible first | exact HB.out | apply below_alloc | apply pw_below_drewN | apply below_drew1) | exact HB.out)) hb); clear HB; have HB := n0_; clear n0_; (try clear hb); (try clear hb2); (try clear hk); (try clear hi)))
                      go_meet
                      case rel => exact ⟨_, ((t191 != t188)), (by first | rfl | (simp; done) | (simp [*]; done) | (simp; exact xEmpty_ne _) | (simp [*]; exact xEmpty_ne _)), H', ⟨by first | omega | exact Nat.le_refl _⟩, ⟨by repeat (first | (with_reducible first | exact HB.out | apply below_alloc | apply pw_below_drewN | apply below_drew1) | exact HB.out)⟩⟩
                    · rw [if_neg c20] at H
                      have c20b0 : (t190 == t188) = false := beq_eq_false_iff_ne.mpr c20
                      have c20b1 : (t190 != t188) = true := bne_iff_ne.mpr c20
                      have H' := Aside0.mk H
                      clear H
                      go_wp2_with (first | (go_at_call 22; (with_reducible refine (utf_Units.calls (a0.extract 0 (t188 : Int).toNat) t189 _ A18.out).mono ?_); rintro e w25 ⟨rfl, hb⟩; have n0_ := Aside0.mk (below_step (by repeat (first | (with_reducible first | exact HB.out | apply below_alloc | apply pw_below_drewN | apply below_drew1) | exact HB.out)) hb); clear HB; have HB := n0_; clear n0_; (try clear hb); (try clear hb2); (try clear hk); (try clear hi)) | (go_at_call 23; (with_reducible refine (utf_Cut.calls a0 t189 t190 _ A19.out).mono ?_); rintro e w26 ⟨rfl, hb⟩; have n0_ := Aside0.mk (below_step (by repeat (first | (with_reducible first | exact HB.out | apply below_alloc | apply pw_below_drewN | apply below_drew1) | exact HB.out)) hb); clear HB; have HB := n0_; clear n0_; (try clear hb); (try clear hb2); (try clear hk); (try clear hi)))
                      go_meet
                      case rel => exact ⟨_, (true), (by first | rfl | (simp; done) | (simp [*]; done) | (simp; exact xEmpty_ne _) | (simp [*]; exact xEmpty_ne _)), H', ⟨by first | omega | exact Nat.le_refl _⟩, ⟨by repeat (first | (with_reducible first | exact HB.out | apply below_alloc | apply pw_below_drewN | apply below_drew1) | exact HB.out)⟩⟩
                  · rw [if_neg c17] at H
                    exact absurd H (by simp)
                · rw [if_neg c16] at H
                  exact absurd H (by simp)
            · rw [if_neg c14] at H
              have c14b0 : decide (a1 < t188) = false := decide_eq_false c14
              clear c14
              by_cases c27 : 0 ≤ t188
              · rw [if_pos c27] at H
                have c27b0 := eq_true c27
                have c27b1 : decide (0 ≤ t188) = true := decide_eq_true c27
                clear c27
                by_cases c28 : t188 ≤ (a0.size : Int)
                · rw [if_pos c28] at H
                  have c28b0 := eq_true c28
                  have c28b1 : decide (t188 ≤ (a0.size : Int)) = true := decide_eq_true c28
                  clear c28
                  replace H := Option.bind_eq_some_iff.mp H
                  obtain ⟨t192, A290, H⟩ := H
                  replace H : ((utf_Cut.f a0 t192).bind fun t193 => (if t193 = t188 then ((utf_Begin.f k a0 t188).bind fun t194 => (glossatorlaw01_UtfBack.j0 k a0 a2 (t194 != t188))) else (glossatorlaw01_UtfBack.j0 k a0 a2 true))) = some r := H
                  have A29 := Aside0.mk A290
                  clear A290
                  replace H := Option.bind_eq_some_iff.mp H
                  obtain ⟨t193, A300, H⟩ := H
                  replace H : (if t193 = t188 then ((utf_Begin.f k a0 t188).bind fun t194 => (glossatorlaw01_UtfBack.j0 k a0 a2 (t194 != t188))) else (glossatorlaw01_UtfBack.j0 k a0 a2 true)) = some r := H
                  have A30 := Aside0.mk A300
                  clear A300
                  by_cases c31 : t193 = t188
                  · rw [if_pos c31] at H
                    have c31b0 : (t193 == t188) = true := beq_iff_eq.mpr c31
                    have c31b1 : (t193 != t188) = false := bne_eq_false_iff_eq.mpr c31
                    clear c31
                    replace H := Option.bind_eq_some_iff.mp H
                    obtain ⟨t194, A320, H⟩ := H
                    replace H : (glossatorlaw01_UtfBack.j0 k a0 a2 (t194 != t188)) = some r := H
                    have A32 := Aside0.mk A320
                    clear A320
                    have H' := Aside0.mk H
                    clear H
                    go_wp2_with (first | (go_at_call 22; (with_reducible refine (utf_Units.calls (a0.extract 0 (t188 : Int).toNat) t192 _ A29.out).mono ?_); rintro e w33 ⟨rfl, hb⟩; have n0_ := Aside0.mk (below_step (by repeat (first | (with_reducible first | exact HB.out | apply below_alloc | apply pw_below_drewN | apply below_drew1) | exact HB.out)) hb); clear HB; have HB := n0_; clear n0_; (try clear hb); (try clear hb2); (try clear hk); (try clear hi)) | (go_at_call 23; (with_reducible refine (utf_Cut.calls a0 t192 t193 _ A30.out).mono ?_); rintro e w34 ⟨rfl, hb⟩; have n0_ := Aside0.mk (below_step (by repeat (first | (with_reducible first | exact HB.out | apply below_alloc | apply pw_below_drewN | apply below_drew1) | exact HB.out)) hb); clear HB; have HB := n0_; clear n0_; (try clear hb); (try clear hb2); (try clear hk); (try clear hi)) | (go_at_call 19; (with_reducible refine (utf_Begin.calls k a0 t188 t194 _ (by first | exact HG.out | exact GlobOk.below HG.out (by repeat (first | (with_reducible first | exact HB.out | apply below_alloc | apply pw_below_drewN | apply below_drew1) | exact HB.out))) A32.out).mono ?_); rintro e w35 ⟨rfl, hb⟩; have n0_ := Aside0.mk (below_step (by repeat (first | (with_reducible first | exact HB.out | apply below_alloc | apply pw_below_drewN | apply below_drew1) | exact HB.out)) hb); clear HB; have HB := n0_; clear n0_; (try clear hb); (try clear hb2); (try clear hk); (try clear hi)))
                    go_meet
                    case rel => exact ⟨_, ((t194 != t188)), (by first | rfl | (simp; done) | (simp [*]; done) | (simp; exact xEmpty_ne _) | (simp [*]; exact xEmpty_ne _)), H', ⟨by first | omega | exact Nat.le_refl _⟩, ⟨by repeat (first | (with_reducible first | exact HB.out | apply below_alloc | apply pw_below_drewN | apply below_drew1) | exact HB.out)⟩⟩
                  · rw [if_neg c31] at H
                    have c31b0 : (t193 == t188) = false := beq_eq_false_iff_ne.mpr c31
                    have c31b1 : (t193 != t188) = true := bne_iff_ne.mpr c31
                    have H' := Aside0.mk H
                    clear H
                    go_wp2_with (first | (go_at_call 22; (with_reducible refine (utf_Units.calls (a0.extract 0 (t188 : Int).toNat) t192 _ A29.out).mono ?_); rintro e w36 ⟨rfl, hb⟩; have n0_ := Aside0.mk (below_step (by repeat (first | (with_reducible first | exact HB.out | apply below_alloc | apply pw_below_drewN | apply below_drew1) | exact HB.out)) hb); clear HB; have HB := n0_; clear n0_; (try clear hb); (try clear hb2); (try clear hk); (try clear hi)) | (go_at_call 23; (with_reducible refine (utf_Cut.calls a0 t192 t193 _ A30.out).mono ?_); rintro e w37 ⟨rfl, hb⟩; have n0_ := Aside0.mk (below_step (by repeat (first | (with_reducible first | exact HB.out | apply below_alloc | apply pw_below_drewN | apply below_drew1) | exact HB.out)) hb); clear HB; have HB := n0_; clear n0_; (try clear hb); (try clear hb2); (try clear hk); (try clear hi)))
                    go_meet
                    case rel => exact ⟨_, (true), (by first | rfl | (simp; done) | (simp [*]; done) | (simp; exact xEmpty_ne _) | (simp [*]; exact xEmpty_ne _)), H', ⟨by first | omega | exact Nat.le_refl _⟩, ⟨by repeat (first | (with_reducible first | exact HB.out | apply below_alloc | apply pw_below_drewN | apply below_drew1) | exact HB.out)⟩⟩
                · rw [if_neg c28] at H
                  exact absurd H (by simp)
              · rw [if_neg c27] at H
                exact absurd H (by simp)
      case rest =>
        clear HC9
        try clear c1
        try clear c2
        try clear p2
        try clear c3
        try clear c5
        try clear c6
        try clear c6b0
        try clear c6b1
        try clear c12
        try clear c12b0
        try clear c13
        try clear c13b0
        try clear c14
        try clear c14b0
        try clear c15
        try clear c15b0
        try clear c16
        try clear c16b0
        try clear c16b1
        try clear c17
        try clear c17b0
        try clear c17b1
        try clear c19
        try clear c20
        try clear c20b0
        try clear c20b1
        try clear c21
        try clear c27
        try clear c27b0
        try clear c27b1
        try clear c28
        try clear c28b0
        try clear c28b1
        try clear c31
        try clear c31b0
        try clear c31b1
        obtain ⟨kq, x54_8, rfl, HA, HJ8, HB⟩ := hcut
        cases kq with
        | zero => exact absurd HA.out (by simp [glossatorlaw01_UtfBack.j0])
        | succ kj8 =>
          have H := HA.out
          clear HA
          simp only [glossatorlaw01_UtfBack.j0] at H
          by_cases c38 : x54_8 = true
          · subst c38
            have H1 : (some false) = some r := by rw [if_pos rfl] at H; exact H
            clear H
            have H := H1
            clear H1
            obtain rfl := Option.some.inj H
            go_wp2
            go_ret
            exact ⟨by first | rfl | (simp [errW_none, errW_some] <;> rfl) | (simp [*, errW_none, errW_some] <;> rfl), by repeat (first | (with_reducible first | exact HB.out | apply below_alloc | apply pw_below_drewN | apply below_drew1) | exact HB.out)⟩
          · replace c38 := Bool.eq_false_iff.mpr c38
            subst c38
            have H1 : ((utf_Cut.f a0 a2).bind fun t195 => (if t195 < 0 then (glossatorlaw01_UtfBack.j1 kj8 a0 a2 t195 true) else (if t195 > (a0.size : Int) then (glossatorlaw01_UtfBack.j1 kj8 a0 a2 t195 true) else ((utf_Begin.f kj8 a0 t195).bind fun t196 => (glossatorlaw01_UtfBack.j1 kj8 a0 a2 t195 (t196 != t195)))))) = some r := by rw [if_neg (show ¬ (false = true) by decide)] at H; exact H
            clear H
            have H := H1
            clear H1
            replace H := Option.bind_eq_some_iff.mp H
            obtain ⟨t195, A390, H⟩ := H
            replace H : (if t195 < 0 then (glossatorlaw01_UtfBack.j1 kj8 a0 a2 t195 true) else (if t195 > (a0.size : Int) then (glossatorlaw01_UtfBack.j1 kj8 a0 a2 t195 true) else ((utf_Begin.f kj8 a0 t195).bind fun t196 => (glossatorlaw01_UtfBack.j1 kj8 a0 a2 t195 (t196 != t195))))) = some r := H
            have A39 := Aside0.mk A390
            clear A390
            have HC40 := Aside0.mk H
            clear H
            go_upto_region 9 with (first | ((with_reducible refine gate_callee (f := 23) rfl ?_); refine goesL_ (some 57) rfl rfl Tryd.func23 (by kernel_rfl) rfl #[.string a0, .int .i64 a2] rfl (by (try simp only [List.map_toArray, List.map_cons, List.map_nil]); first | done | rfl | (simp only [List.length_drop, List.length_take]; rfl)) ?_; (with_reducible refine (utf_Cut.calls a0 a2 t195 _ A39.out).mono ?_); rintro e w41 ⟨rfl, hb⟩; refine ⟨_, rfl, ?_⟩; have n0_ := Aside0.mk (below_step (by repeat (first | (with_reducible first | exact HB.out | apply below_alloc | apply pw_below_drewN | apply below_drew1) | exact HB.out)) hb); clear HB; have HB := n0_; clear n0_; (try clear hb); (try clear hb2); (try clear hk); (try clear hi)))
            (try simp only [Act.put, List.setIfInBounds_toArray, List.set_cons_zero, List.set_cons_succ])
            go_cut [72] (fun v72 wc => ∃ (kq : Nat) (x72_39 : Bool), v72 = .bool x72_39 ∧ Aside0 (glossatorlaw01_UtfBack.j1 kq a0 a2 t195 x72_39 = some r) ∧ Aside0 (kq ≤ kj8) ∧ Aside0 (Below w.heap.size w wc))
            case first =>
              have H := HC40.out
              clear HC40
              by_cases c42 : t195 < 0
              · rw [if_pos c42] at H
                have c42b0 : decide (t195 < 0) = true := decide_eq_true c42
                clear c42
                (first | rw [c42b0] | (simp only [i64_w, i32_w]; rw [c42b0]) | skip)
                have H' := Aside0.mk H
                clear H
                go_wp2
                go_meet
                case rel => exact ⟨_, (true), (by first | rfl | (simp; done) | (simp [*]; done) | (simp; exact xEmpty_ne _) | (simp [*]; exact xEmpty_ne _)), H', ⟨by have := HJ8.out; first | omega | exact Nat.le_refl _⟩, ⟨by repeat (first | (with_reducible first | exact HB.out | apply below_alloc | apply pw_below_drewN | apply below_drew1) | exact HB.out)⟩⟩
              · rw [if_neg c42] at H
                have c42b0 : decide (t195 < 0) = false := decide_eq_false c42
                clear c42
                (first | rw [c42b0] | (simp only [i64_w, i32_w]; rw [c42b0]) | skip)
                by_cases c43 : t195 > (a0.size : Int)
                · rw [if_pos c43] at H
                  have c43b0 : decide ((a0.size : Int) < t195) = true := decide_eq_true c43
                  clear c43
                  have H' := Aside0.mk H
                  clear H
                  go_wp2
                  go_meet
                  case rel => exact ⟨_, (true), (by first | rfl | (simp; done) | (simp [*]; done) | (simp; exact xEmpty_ne _) | (simp [*]; exact xEmpty_ne _)), H', ⟨by have := HJ8.out; first | omega | exact Nat.le_refl _⟩, ⟨by repeat (first | (with_reducible first | exact HB.out | apply below_alloc | apply pw_below_drewN | apply below_drew1) | exact HB.out)⟩⟩
                · rw [if_neg c43] at H
                  have c43b0 : decide ((a0.size : Int) < t195) = false := decide_eq_false c43
                  clear c43
                  replace H := Option.bind_eq_some_iff.mp H
                  obtain ⟨t196, A440, H⟩ := H
                  replace H : (glossatorlaw01_UtfBack.j1 kj8 a0 a2 t195 (t196 != t195)) = some r := H
                  have A44 := Aside0.mk A440
                  clear A440
                  have H' := Aside0.mk H
                  clear H
                  go_wp2_with (first | (go_at_call 19; (with_reducible refine (utf_Begin.calls kj8 a0 t195 t196 _ (by first | exact HG.out | exact GlobOk.below HG.out (by repeat (first | (with_reducible first | exact HB.out | apply below_alloc | apply pw_below_drewN | apply below_drew1) | exact HB.out))) A44.out).mono ?_); rintro e w45 ⟨rfl, hb⟩; have n0_ := Aside0.mk (below_step (by repeat (first | (with_reducible first | exact HB.out | apply below_alloc | apply pw_below_drewN | apply below_drew1) | exact HB.out)) hb); clear HB; have HB := n0_; clear n0_; (try clear hb); (try clear hb2); (try clear hk); (try clear hi)))
                  go_meet
                  case rel => exact ⟨_, ((t196 != t195)), (by first | rfl | (simp; done) | (simp [*]; done) | (simp; exact xEmpty_ne _) | (simp [*]; exact xEmpty_ne _)), H', ⟨by have := HJ8.out; first | omega | exact Nat.le_refl _⟩, ⟨by repeat (first | (with_reducible first | exact HB.out | apply below_alloc | apply pw_below_drewN | apply below_drew1) | exact HB.out)⟩⟩
            case rest =>
              clear HC40
              try clear c1
              try clear c2
              try clear p2
              try clear c3
              try clear c4
              try clear c5
              try clear c6
              try clear c6b0
              try clear c6b1
              try clear c12
              try clear c12b0
              try clear c13
              try clear c13b0
              try clear c14
              try clear c14b0
              try clear c15
              try clear c15b0
              try clear c16
              try clear c16b0
              try clear c16b1
              try clear c17
              try clear c17b0
              try clear c17b1
              try clear c19
              try clear c20
              try clear c20b0
              try clear c20b1
              try clear c21
              try clear c23
              try clear c27
              try clear c27b0
              try clear c27b1
              try clear c28
              try clear c28b0
              try clear c28b1
              try clear c31
              try clear c31b0
              try clear c31b1
              try clear c38
              try clear c42
              try clear c42b0
              try clear c43
              try clear c43b0
              try clear p2
              obtain ⟨kq, x72_39, rfl, HA, HJ39, HB⟩ := hcut
              cases kq with
              | zero => exact absurd HA.out (by simp [glossatorlaw01_UtfBack.j1])
              | succ kj39 =>
                have H := HA.out
                clear HA
                simp only [glossatorlaw01_UtfBack.j1] at H
                by_cases c46 : x72_39 = true
                · subst c46
                  have H1 : (some false) = some r := by rw [if_pos rfl] at H; exact H
                  clear H
                  have H := H1
                  clear H1
                  obtain rfl := Option.some.inj H
                  go_wp2
                  go_ret
                  exact ⟨by first | rfl | (simp [errW_none, errW_some] <;> rfl) | (simp [*, errW_none, errW_some] <;> rfl), by repeat (first | (with_reducible first | exact HB.out | apply below_alloc | apply pw_below_drewN | apply below_drew1) | exact HB.out)⟩
                · replace c46 := Bool.eq_false_iff.mpr c46
                  subst c46
                  have H1 : (if 0 ≤ t195 then (if t195 ≤ (a0.size : Int) then ((utf_Units.f (a0.extract 0 (t195 : Int).toNat)).bind fun t197 => (if a2 < 0 then (some (t195 == 0)) else ((utf_Units.f a0).bind fun t198 => (if a2 ≥ t198 then (some (t195 == (a0.size : Int))) else (if t197 = a2 then (some true) else ((utf_Next.f kj39 a0 t195).bind fun bt199 => (if t197 = (wrap64 (a2 - 1)) then (some (bt199.2.1 == 4)) else (some false)))))))) else (none)) else (none)) = some r := by rw [if_neg (show ¬ (false = true) by decide)] at H; exact H
                  clear H
                  have H := H1
                  clear H1
                  by_cases c47 : 0 ≤ t195
                  · rw [if_pos c47] at H
                    have c47b0 := eq_true c47
                    have c47b1 : decide (0 ≤ t195) = true := decide_eq_true c47
                    clear c47
                    by_cases c48 : t195 ≤ (a0.size : Int)
                    · rw [if_pos c48] at H
                      have c48b0 := eq_true c48
                      have c48b1 : decide (t195 ≤ (a0.size : Int)) = true := decide_eq_true c48
                      clear c48
                      replace H := Option.bind_eq_some_iff.mp H
                      obtain ⟨t197, A490, H⟩ := H
                      replace H : (if a2 < 0 then (some (t195 == 0)) else ((utf_Units.f a0).bind fun t198 => (if a2 ≥ t198 then (some (t195 == (a0.size : Int))) else (if t197 = a2 then (some true) else ((utf_Next.f kj39 a0 t195).bind fun bt199 => (if t197 = (wrap64 (a2 - 1)) then (some (bt199.2.1 == 4)) else (some false))))))) = some r := H
                      have A49 := Aside0.mk A490
                      clear A490
                      by_cases c50 : a2 < 0
                      · rw [if_pos c50] at H
                        have c50b0 : decide (a2 < 0) = true := decide_eq_true c50
                        clear c50
                        obtain rfl := Option.some.inj H
                        go_wp2_with (first | ((with_reducible refine gate_callee (f := 22) rfl ?_); refine goesL_ (some 76) rfl rfl Tryd.func22 (by kernel_rfl) rfl #[.string (a0.extract 0 (t195 : Int).toNat)] rfl (by (try simp only [List.map_toArray, List.map_cons, List.map_nil]); first | done | rfl | (simp only [List.length_drop, List.length_take]; rfl)) ?_; (with_reducible refine (utf_Units.calls (a0.extract 0 (t195 : Int).toNat) t197 _ A49.out).mono ?_); rintro e w51 ⟨rfl, hb⟩; refine ⟨_, rfl, ?_⟩; have n0_ := Aside0.mk (below_step (by repeat (first | (with_reducible first | exact HB.out | apply below_alloc | apply pw_below_drewN | apply below_drew1) | exact HB.out)) hb); clear HB; have HB := n0_; clear n0_; (try clear hb); (try clear hb2); (try clear hk); (try clear hi)))
                        go_ret
                        exact ⟨by first | rfl | (simp [errW_none, errW_some] <;> rfl) | (simp [*, errW_none, errW_some] <;> rfl), by repeat (first | (with_reducible first | exact HB.out | apply below_alloc | apply pw_below_drewN | apply below_drew1) | exact HB.out)⟩
                      · rw [if_neg c50] at H
                        have c50b0 : decide (a2 < 0) = false := decide_eq_false c50
                        clear c50
                        replace H := Option.bind_eq_some_iff.mp H
                        obtain ⟨t198, A520, H⟩ := H
                        replace H : (if a2 ≥ t198 then (some (t195 == (a0.size : Int))) else (if t197 = a2 then (some true) else ((utf_Next.f kj39 a0 t195).bind fun bt199 => (if t197 = (wrap64 (a2 - 1)) then (some (bt199.2.1 == 4)) else (some false))))) = some r := H
                        have A52 := Aside0.mk A520
                        clear A520
                        by_cases c53 : a2 ≥ t198
                        · rw [if_pos c53] at H
                          have c53b0 : decide (t198 ≤ a2) = true := decide_eq_true c53
                          clear c53
                          obtain rfl := Option.some.inj H
                          go_wp2_with (first | ((with_reducible refine gate_callee (f := 22) rfl ?_); refine goesL_ (some 76) rfl rfl Tryd.func22 (by kernel_rfl) rfl #[.string (a0.extract 0 (t195 : Int).toNat)] rfl (by (try simp only [List.map_toArray, List.map_cons, List.map_nil]); first | done | rfl | (simp only [List.length_drop, List.length_take]; rfl)) ?_; (with_reducible refine (utf_Units.calls (a0.extract 0 (t195 : Int).toNat) t197 _ A49.out).mono ?_); rintro e w54 ⟨rfl, hb⟩; refine ⟨_, rfl, ?_⟩; have n0_ := Aside0.mk (below_step (by repeat (first | (with_reducible first | exact HB.out | apply below_alloc | apply pw_below_drewN | apply below_drew1) | exact HB.out)) hb); clear HB; have HB := n0_; clear n0_; (try clear hb); (try clear hb2); (try clear hk); (try clear hi)) | ((with_reducible refine gate_callee (f := 22) rfl ?_); refine goesL_ (some 85) rfl rfl Tryd.func22 (by kernel_rfl) rfl #[.string a0] rfl (by (try simp only [List.map_toArray, List.map_cons, List.map_nil]); first | done | rfl | (simp only [List.length_drop, List.length_take]; rfl)) ?_; (with_reducible refine (utf_Units.calls a0 t198 _ A52.out).mono ?_); rintro e w55 ⟨rfl, hb⟩; refine ⟨_, rfl, ?_⟩; have n0_ := Aside0.mk (below_step (by repeat (first | (with_reducible first | exact HB.out | apply below_alloc | apply pw_below_drewN | apply below_drew1) | exact HB.out)) hb); clear HB; have HB := n0_; clear n0_; (try clear hb); (try clear hb2); (try clear hk); (try clear hi)))
                          go_ret
                          exact ⟨by first | rfl | (simp [errW_none, errW_some] <;> rfl) | (simp [*, errW_none, errW_some] <;> rfl), by repeat (first | (with_reducible first | exact HB.out | apply below_alloc | apply pw_below_drewN | apply below_drew1) | exact HB.out)⟩
                        · rw [if_neg c53] at H
                          have c53b0 : decide (t198 ≤ a2) = false := decide_eq_false c53
                          clear c53
                          by_cases c56 : t197 = a2
                          · rw [if_pos c56] at H
                            have c56b0 : (t197 == a2) = true := beq_iff_eq.mpr c56
                            have c56b1 : (t197 != a2) = false := bne_eq_false_iff_eq.mpr c56
                            clear c56
                            obtain rfl := Option.some.inj H
                            go_wp2_with (first | ((with_reducible refine gate_callee (f := 22) rfl ?_); refine goesL_ (some 76) rfl rfl Tryd.func22 (by kernel_rfl) rfl #[.string (a0.extract 0 (t195 : Int).toNat)] rfl (by (try simp only [List.map_toArray, List.map_cons, List.map_nil]); first | done | rfl | (simp only [List.length_drop, List.length_take]; rfl)) ?_; (with_reducible refine (utf_Units.calls (a0.extract 0 (t195 : Int).toNat) t197 _ A49.out).mono ?_); rintro e w57 ⟨rfl, hb⟩; refine ⟨_, rfl, ?_⟩; have n0_ := Aside0.mk (below_step (by repeat (first | (with_reducible first | exact HB.out | apply below_alloc | apply pw_below_drewN | apply below_drew1) | exact HB.out)) hb); clear HB; have HB := n0_; clear n0_; (try clear hb); (try clear hb2); (try clear hk); (try clear hi)) | ((with_reducible refine gate_callee (f := 22) rfl ?_); refine goesL_ (some 85) rfl rfl Tryd.func22 (by kernel_rfl) rfl #[.string a0] rfl (by (try simp only [List.map_toArray, List.map_cons, List.map_nil]); first | done | rfl | (simp only [List.length_drop, List.length_take]; rfl)) ?_; (with_reducible refine (utf_Units.calls a0 t198 _ A52.out).mono ?_); rintro e w58 ⟨rfl, hb⟩; refine ⟨_, rfl, ?_⟩; have n0_ := Aside0.mk (below_step (by repeat (first | (with_reducible first | exact HB.out | apply below_alloc | apply pw_below_drewN | apply below_drew1) | exact HB.out)) hb); clear HB; have HB := n0_; clear n0_; (try clear hb); (try clear hb2); (try clear hk); (try clear hi)))
                            go_ret
                            exact ⟨by first | rfl | (simp [errW_none, errW_some] <;> rfl) | (simp [*, errW_none, errW_some] <;> rfl), by repeat (first | (with_reducible first | exact HB.out | apply below_alloc | apply pw_below_drewN | apply below_drew1) | exact HB.out)⟩
                          · rw [if_neg c56] at H
                            have c56b0 : (t197 == a2) = false := beq_eq_false_iff_ne.mpr c56
                            have c56b1 : (t197 != a2) = true := bne_iff_ne.mpr c56
                            replace H := Option.bind_eq_some_iff.mp H
                            obtain ⟨⟨t199, t200, t201⟩, A590, H⟩ := H
                            replace H : (if t197 = (wrap64 (a2 - 1)) then (some (t200 == 4)) else (some false)) = some r := H
                            have A59 := Aside0.mk A590
                            clear A590
                            by_cases c60 : t197 = (wrap64 (a2 - 1))
                            · rw [if_pos c60] at H
                              have c60b0 : (t197 == (wrap64 (a2 - 1))) = true := beq_iff_eq.mpr c60
                              have c60b1 : (t197 != (wrap64 (a2 - 1))) = false := bne_eq_false_iff_eq.mpr c60
                              clear c60
                              obtain rfl := Option.some.inj H
                              go_wp2_with (first | ((with_reducible refine gate_callee (f := 22) rfl ?_); refine goesL_ (some 76) rfl rfl Tryd.func22 (by kernel_rfl) rfl #[.string (a0.extract 0 (t195 : Int).toNat)] rfl (by (try simp only [List.map_toArray, List.map_cons, List.map_nil]); first | done | rfl | (simp only [List.length_drop, List.length_take]; rfl)) ?_; (with_reducible refine (utf_Units.calls (a0.extract 0 (t195 : Int).toNat) t197 _ A49.out).mono ?_); rintro e w61 ⟨rfl, hb⟩; refine ⟨_, rfl, ?_⟩; have n0_ := Aside0.mk (below_step (by repeat (first | (with_reducible first | exact HB.out | apply below_alloc | apply pw_below_drewN | apply below_drew1) | exact HB.out)) hb); clear HB; have HB := n0_; clear n0_; (try clear hb); (try clear hb2); (try clear hk); (try clear hi)) | ((with_reducible refine gate_callee (f := 22) rfl ?_); refine goesL_ (some 85) rfl rfl Tryd.func22 (by kernel_rfl) rfl #[.string a0] rfl (by (try simp only [List.map_toArray, List.map_cons, List.map_nil]); first | done | rfl | (simp only [List.length_drop, List.length_take]; rfl)) ?_; (with_reducible refine (utf_Units.calls a0 t198 _ A52.out).mono ?_); rintro e w62 ⟨rfl, hb⟩; refine ⟨_, rfl, ?_⟩; have n0_ := Aside0.mk (below_step (by repeat (first | (with_reducible first | exact HB.out | apply below_alloc | apply pw_below_drewN | apply below_drew1) | exact HB.out)) hb); clear HB; have HB := n0_; clear n0_; (try clear hb); (try clear hb2); (try clear hk); (try clear hi)) | ((with_reducible refine gate_callee (f := 15) rfl ?_); refine goesL_ (some 98) rfl rfl Tryd.func15 (by kernel_rfl) rfl #[.string a0, .int .i64 t195] rfl (by (try simp only [List.map_toArray, List.map_cons, List.map_nil]); first | done | rfl | (simp only [List.length_drop, List.length_take]; rfl)) ?_; (with_reducible refine (utf_Next.calls kj39 a0 t195 t199 t200 t201 _ (by first | exact HG.out | exact GlobOk.below HG.out (by repeat (first | (with_reducible first | exact HB.out | apply below_alloc | apply pw_below_drewN | apply below_drew1) | exact HB.out))) A59.out).mono ?_); rintro e w63 ⟨rfl, hb⟩; refine ⟨_, rfl, ?_⟩; have n0_ := Aside0.mk (below_step (by repeat (first | (with_reducible first | exact HB.out | apply below_alloc | apply pw_below_drewN | apply below_drew1) | exact HB.out)) hb); clear HB; have HB := n0_; clear n0_; (try clear hb); (try clear hb2); (try clear hk); (try clear hi)))
                              go_ret
                              exact ⟨by first | rfl | (simp [errW_none, errW_some] <;> rfl) | (simp [*, errW_none, errW_some] <;> rfl), by repeat (first | (with_reducible first | exact HB.out | apply below_alloc | apply pw_below_drewN | apply below_drew1) | exact HB.out)⟩
                            · rw [if_neg c60] at H
                              have c60b0 : (t197 == (wrap64 (a2 - 1))) = false := beq_eq_false_iff_ne.mpr c60
                              have c60b1 : (t197 != (wrap64 (a2 - 1))) = true := bne_iff_ne.mpr c60
                              obtain rfl := Option.some.inj H
                              go_wp2_with (first | ((with_reducible refine gate_callee (f := 22) rfl ?_); refine goesL_ (some 76) rfl rfl Tryd.func22 (by kernel_rfl) rfl #[.string (a0.extract 0 (t195 : Int).toNat)] rfl (by (try simp only [List.map_toArray, List.map_cons, List.map_nil]); first | done | rfl | (simp only [List.length_drop, List.length_take]; rfl)) ?_; (with_reducible refine (utf_Units.calls (a0.extract 0 (t195 : Int).toNat) t197 _ A49.out).mono ?_); rintro e w64 ⟨rfl, hb⟩; refine ⟨_, rfl, ?_⟩; have n0_ := Aside0.mk (below_step (by repeat (first | (with_reducible first | exact HB.out | apply below_alloc | apply pw_below_drewN | apply below_drew1) | exact HB.out)) hb); clear HB; have HB := n0_; clear n0_; (try clear hb); (try clear hb2); (try clear hk); (try clear hi)) | ((with_reducible refine gate_callee (f := 22) rfl ?_); refine goesL_ (some 85) rfl rfl Tryd.func22 (by kernel_rfl) rfl #[.string a0] rfl (by (try simp only [List.map_toArray, List.map_cons, List.map_nil]); first | done | rfl | (simp only [List.length_drop, List.length_take]; rfl)) ?_; (with_reducible refine (utf_Units.calls a0 t198 _ A52.out).mono ?_); rintro e w65 ⟨rfl, hb⟩; refine ⟨_, rfl, ?_⟩; have n0_ := Aside0.mk (below_step (by repeat (first | (with_reducible first | exact HB.out | apply below_alloc | apply pw_below_drewN | apply below_drew1) | exact HB.out)) hb); clear HB; have HB := n0_; clear n0_; (try clear hb); (try clear hb2); (try clear hk); (try clear hi)) | ((with_reducible refine gate_callee (f := 15) rfl ?_); refine goesL_ (some 98) rfl rfl Tryd.func15 (by kernel_rfl) rfl #[.string a0, .int .i64 t195] rfl (by (try simp only [List.map_toArray, List.map_cons, List.map_nil]); first | done | rfl | (simp only [List.length_drop, List.length_take]; rfl)) ?_; (with_reducible refine (utf_Next.calls kj39 a0 t195 t199 t200 t201 _ (by first | exact HG.out | exact GlobOk.below HG.out (by repeat (first | (with_reducible first | exact HB.out | apply below_alloc | apply pw_below_drewN | apply below_drew1) | exact HB.out))) A59.out).mono ?_); rintro e w66 ⟨rfl, hb⟩; refine ⟨_, rfl, ?_⟩; have n0_ := Aside0.mk (below_step (by repeat (first | (with_reducible first | exact HB.out | apply below_alloc | apply pw_below_drewN | apply below_drew1) | exact HB.out)) hb); clear HB; have HB := n0_; clear n0_; (try clear hb); (try clear hb2); (try clear hk); (try clear hi)))
                              go_ret
                              exact ⟨by first | rfl | (simp [errW_none, errW_some] <;> rfl) | (simp [*, errW_none, errW_some] <;> rfl), by repeat (first | (with_reducible first | exact HB.out | apply below_alloc | apply pw_below_drewN | apply below_drew1) | exact HB.out)⟩
                    · rw [if_neg c48] at H
                      exact absurd H (by simp)
                  · rw [if_neg c47] at H
                    exact absurd H (by simp)
  · replace c5 := Bool.eq_false_iff.mpr c5
    subst c5
    have H1 : (some false) = some r := by rw [if_neg (show ¬ (false = true) by decide)] at H; exact H
    clear H
    have H := H1
    clear H1
    obtain rfl := Option.some.inj H
    go_enter Tryd.func6, Tryd.ntmps6
    go_wp2_with (first | ((with_reducible refine gate_callee (f := 21) rfl ?_); refine goesL_ (some 13) rfl rfl Tryd.func21 (by kernel_rfl) rfl #[] rfl (by (try simp only [List.map_toArray, List.map_cons, List.map_nil]); first | done | rfl | (simp only [List.length_drop, List.length_take]; rfl)) ?_; (with_reducible refine (glossatorlaw01_awake.calls k  false _ (by first | exact HG.out | exact GlobOk.below HG.out (by repeat (first | (with_reducible first | exact HB.out | apply below_alloc | apply pw_below_drewN | apply below_drew1) | exact HB.out))) A4.out).mono ?_); rintro e w67 ⟨rfl, hb⟩; refine ⟨_, rfl, ?_⟩; have n0_ := Aside0.mk (below_step (by repeat (first | (with_reducible first | exact HB.out | apply below_alloc | apply pw_below_drewN | apply below_drew1) | exact HB.out)) hb); clear HB; have HB := n0_; clear n0_; (try clear hb); (try clear hb2); (try clear hk); (try clear hi)))
    go_ret
    exact ⟨by first | rfl | (simp [errW_none, errW_some] <;> rfl) | (simp [*, errW_none, errW_some] <;> rfl), by repeat (first | (with_reducible first | exact HB.out | apply below_alloc | apply pw_below_drewN | apply below_drew1) | exact HB.out)⟩

/-- THE ONE PURE STATEMENT of glossatorlaw01_UtfBack. -/
def glossatorlaw01_UtfBack.Pure : Prop := ∀ (p0 : ByteArray) (p1 : Int) (p2 : Int), p0.size ≤ 140737488351232 → (Lit.int .i64 p1).wf = true → (Lit.int .i64 p2).wf = true → ∃ k, glossatorlaw01_UtfBack.f k p0 p1 p2 = some true
/-- The same, where what is handed in is small. -/
def glossatorlaw01_UtfBack.PureUpto : Prop := ∀ (p0 : ByteArray) (p1 : Int) (p2 : Int), p0.size ≤ 140737488351232 → (Lit.int .i64 p1).wf = true → (Lit.int .i64 p2).wf = true → (p0.size + 1) + 1 + 1 ≤ 1048576 → ∃ k, glossatorlaw01_UtfBack.f k p0 p1 p2 = some true

end Go.Proofs.YtfjanedappcolaaDoor.Q
