-- Written by this repo's wip/xprint.py (over the kit's print.py) out of the translation. Not trusted: Lean checks it.
import Derived.Test.YtfjanedappcolaaDoorQ0
import Derived.Test.YtfjanedappcolaaDoorQ3
import Derived.Test.YtfjanedappcolaaDoorQ5
import Derived.Test.YtfjanedappcolaaDoorQ7
import Derived.Test.YtfjanedappcolaaDoorQ8
namespace Go.Proofs.YtfjanedappcolaaDoor.Q
open Go.RowKit Go.Proofs.YtfjanedappcolaaDoorW.PrintWords Go.Proofs.YtfjanedappcolaaDoorW.PrintLast Go.Proofs.YtfjanedappcolaaDoorW.PrintMore
attribute [local go_sem] max2_int min2_int max_two min_two max_three min_three max_four min_four   -- for this text's walks alone
set_option linter.unusedVariables false
set_option linter.unusedSimpArgs false

/-! ### glossatorlaw01_UtfJoins: function 7 -/
mutual
def glossatorlaw01_UtfJoins.l0 : Nat → ByteArray → Int → Int → Option (Bool)
  | 0, _, _, _ => none
  | k + 1, x0, x5, x6 => if x5 < (x0.size : Int) then ((utf_Next.f k x0 x5).bind fun bt202 => (if bt202.2.2 = true then (if bt202.2.1 < 1 then (glossatorlaw01_UtfJoins.j1 k x0 x5 x6 bt202.2.1 true) else (if bt202.2.1 > 4 then (glossatorlaw01_UtfJoins.j1 k x0 x5 x6 bt202.2.1 true) else (if 0 ≤ x5 then (if x5 ≤ (wrap64 (x5 + bt202.2.1)) then (if (wrap64 (x5 + bt202.2.1)) ≤ (x0.size : Int) then (glossatorlaw01_UtfJoins.j1 k x0 x5 x6 bt202.2.1 ((Utf8.encode bt202.1).toList != (x0.extract (x5 : Int).toNat ((wrap64 (x5 + bt202.2.1)) : Int).toNat).toList)) else (none)) else (none)) else (none)))) else (glossatorlaw01_UtfJoins.j1 k x0 x5 x6 bt202.2.1 true))) else (if x5 = (x0.size : Int) then ((utf_Units.f x0).bind fun t201 => (some (x6 == t201))) else (some false))
def glossatorlaw01_UtfJoins.j1 : Nat → ByteArray → Int → Int → Int → Bool → Option (Bool)
  | 0, _, _, _, _, _ => none
  | k + 1, x0, x5, x6, x8, x59 => if x59 = true then (some false) else (if x8 = 4 then (glossatorlaw01_UtfJoins.l0 k x0 (wrap64 (x5 + x8)) (wrap64 ((wrap64 (x6 + 1)) + 1))) else (glossatorlaw01_UtfJoins.l0 k x0 (wrap64 (x5 + x8)) (wrap64 (x6 + 1))))
end
def glossatorlaw01_UtfJoins.f (k : Nat) (a0 : ByteArray) (a1 : ByteArray) : Option (Bool) := (glossatorlaw01_awake.f k).bind fun t192 => (if t192 = true then ((glossatorlaw01_long.f k (([a0, a1] : List ByteArray))).bind fun t196 => (if t196 = true then (some true) else ((utf_Fix.f a0).bind fun t197 => (if t197.size + a1.size ≤ 9223372036854775807 then ((utf_Units.f (t197 ++ a1)).bind fun t198 => ((utf_Units.f t197).bind fun t199 => ((utf_Units.f a1).bind fun t200 => (if t198 = (wrap64 (t199 + t200)) then (glossatorlaw01_UtfJoins.l0 k t197 0 0) else (some false))))) else (none))))) else (some false))
theorem glossatorlaw01_UtfJoins.mono_l : ∀ k, (∀ y0 y1 y2, LeO (glossatorlaw01_UtfJoins.l0 k y0 y1 y2) (glossatorlaw01_UtfJoins.l0 (k + 1) y0 y1 y2)) ∧ (∀ y0 y1 y2 y3 y4, LeO (glossatorlaw01_UtfJoins.j1 k y0 y1 y2 y3 y4) (glossatorlaw01_UtfJoins.j1 (k + 1) y0 y1 y2 y3 y4))
  | 0 => ⟨fun _ _ _ r h => by simp [glossatorlaw01_UtfJoins.l0] at h, fun _ _ _ _ _ r h => by simp [glossatorlaw01_UtfJoins.j1] at h⟩
  | k + 1 => by
    obtain ⟨ih0, ih1⟩ := glossatorlaw01_UtfJoins.mono_l k
    refine ⟨?_, ?_⟩
    · intro y0 y1 y2
      unfold glossatorlaw01_UtfJoins.l0
      repeat' first
      | (with_reducible exact ih0 _ _ _)
      | (with_reducible exact ih1 _ _ _ _ _)
      | (with_reducible exact glossatorlaw01_awake.mono _)
      | (with_reducible exact glossatorlaw01_long.mono _ _)
      | (with_reducible exact utf_Next.mono _ _ _)
      | (with_reducible exact LeO.refl _)
      | (with_reducible exact LeO.none _)
      | (with_reducible refine LeO.ite ?_ ?_)
      | (with_reducible refine LeO.bind ?_ (fun _ => ?_))
      | exact ih0 _ _ _
      | exact ih1 _ _ _ _ _
      | exact glossatorlaw01_awake.mono _
      | exact glossatorlaw01_long.mono _ _
      | exact utf_Next.mono _ _ _
      | exact LeO.none _
      | refine LeO.ite ?_ ?_
      | refine LeO.bind ?_ (fun _ => ?_)
    · intro y0 y1 y2 y3 y4
      unfold glossatorlaw01_UtfJoins.j1
      repeat' first
      | (with_reducible exact ih0 _ _ _)
      | (with_reducible exact ih1 _ _ _ _ _)
      | (with_reducible exact glossatorlaw01_awake.mono _)
      | (with_reducible exact glossatorlaw01_long.mono _ _)
      | (with_reducible exact utf_Next.mono _ _ _)
      | (with_reducible exact LeO.refl _)
      | (with_reducible exact LeO.none _)
      | (with_reducible refine LeO.ite ?_ ?_)
      | (with_reducible refine LeO.bind ?_ (fun _ => ?_))
      | exact ih0 _ _ _
      | exact ih1 _ _ _ _ _
      | exact glossatorlaw01_awake.mono _
      | exact glossatorlaw01_long.mono _ _
      | exact utf_Next.mono _ _ _
      | exact LeO.none _
      | refine LeO.ite ?_ ?_
      | refine LeO.bind ?_ (fun _ => ?_)
theorem glossatorlaw01_UtfJoins.mono : ∀ a0 a1 k, LeO (glossatorlaw01_UtfJoins.f k a0 a1) (glossatorlaw01_UtfJoins.f (k + 1) a0 a1) := by
  intro a0 a1 k
  obtain ⟨ih0, ih1⟩ := glossatorlaw01_UtfJoins.mono_l k
  unfold glossatorlaw01_UtfJoins.f
  repeat' first
      | (with_reducible exact ih0 _ _ _)
      | (with_reducible exact ih1 _ _ _ _ _)
      | (with_reducible exact glossatorlaw01_awake.mono _)
      | (with_reducible exact glossatorlaw01_long.mono _ _)
      | (with_reducible exact utf_Next.mono _ _ _)
      | (with_reducible exact LeO.refl _)
      | (with_reducible exact LeO.none _)
      | (with_reducible refine LeO.ite ?_ ?_)
      | (with_reducible refine LeO.bind ?_ (fun _ => ?_))
      | exact ih0 _ _ _
      | exact ih1 _ _ _ _ _
      | exact glossatorlaw01_awake.mono _
      | exact glossatorlaw01_long.mono _ _
      | exact utf_Next.mono _ _ _
      | exact LeO.none _
      | refine LeO.ite ?_ ?_
      | refine LeO.bind ?_ (fun _ => ?_)
set_option maxHeartbeats 8000000 in
set_option maxRecDepth 100000 in
theorem glossatorlaw01_UtfJoins.calls (k : Nat) (a0 : ByteArray) (a1 : ByteArray) (r : Bool) (w : World) (hG : GlobOk w) (h : glossatorlaw01_UtfJoins.f k a0 a1 = some r) :
    Calls Tryd.prog 7 #[.string a0, .string a1] w fun e w' => e = .returned (.bool r) ∧ Below w.heap.size w w' := by
  have HG := Aside0.mk hG
  clear hG
  have HB := Aside0.mk (Below.refl w.heap.size w)
  have H : ((glossatorlaw01_awake.f k).bind fun t192 => (if t192 = true then ((glossatorlaw01_long.f k (([a0, a1] : List ByteArray))).bind fun t196 => (if t196 = true then (some true) else ((utf_Fix.f a0).bind fun t197 => (if t197.size + a1.size ≤ 9223372036854775807 then ((utf_Units.f (t197 ++ a1)).bind fun t198 => ((utf_Units.f t197).bind fun t199 => ((utf_Units.f a1).bind fun t200 => (if t198 = (wrap64 (t199 + t200)) then (glossatorlaw01_UtfJoins.l0 k t197 0 0) else (some false))))) else (none))))) else (some false))) = some r := h
  clear h
  replace H := Option.bind_eq_some_iff.mp H
  obtain ⟨t192, A30, H⟩ := H
  replace H : (if t192 = true then ((glossatorlaw01_long.f k (([a0, a1] : List ByteArray))).bind fun t196 => (if t196 = true then (some true) else ((utf_Fix.f a0).bind fun t197 => (if t197.size + a1.size ≤ 9223372036854775807 then ((utf_Units.f (t197 ++ a1)).bind fun t198 => ((utf_Units.f t197).bind fun t199 => ((utf_Units.f a1).bind fun t200 => (if t198 = (wrap64 (t199 + t200)) then (glossatorlaw01_UtfJoins.l0 k t197 0 0) else (some false))))) else (none))))) else (some false)) = some r := H
  have A3 := Aside0.mk A30
  clear A30
  by_cases c4 : t192 = true
  · subst c4
    have H1 : ((glossatorlaw01_long.f k (([a0, a1] : List ByteArray))).bind fun t196 => (if t196 = true then (some true) else ((utf_Fix.f a0).bind fun t197 => (if t197.size + a1.size ≤ 9223372036854775807 then ((utf_Units.f (t197 ++ a1)).bind fun t198 => ((utf_Units.f t197).bind fun t199 => ((utf_Units.f a1).bind fun t200 => (if t198 = (wrap64 (t199 + t200)) then (glossatorlaw01_UtfJoins.l0 k t197 0 0) else (some false))))) else (none))))) = some r := by rw [if_pos rfl] at H; exact H
    clear H
    have H := H1
    clear H1
    obtain ⟨y193, hy193⟩ : ∃ y_ : List ByteArray, y_ = (([a0, a1] : List ByteArray)) := ⟨_, rfl⟩
    replace H : ((glossatorlaw01_long.f k y193).bind fun t196 => (if t196 = true then (some true) else ((utf_Fix.f a0).bind fun t197 => (if t197.size + a1.size ≤ 9223372036854775807 then ((utf_Units.f (t197 ++ a1)).bind fun t198 => ((utf_Units.f t197).bind fun t199 => ((utf_Units.f a1).bind fun t200 => (if t198 = (wrap64 (t199 + t200)) then (glossatorlaw01_UtfJoins.l0 k t197 0 0) else (some false))))) else (none))))) = some r := by first | (rw [hy193]; with_reducible exact H) | (have H2_ := (Option.bind_some _ _).symm.trans H; rw [hy193]; with_reducible exact H2_) | (have H2_ := (Option.bind_some _ _).symm.trans H; with_reducible exact H2_) | with_reducible exact H | (rw [hy193]; exact H) | exact H
    have Ny193 := Aside0.mk hy193
    clear hy193
    replace H := Option.bind_eq_some_iff.mp H
    obtain ⟨t196, A50, H⟩ := H
    replace H : (if t196 = true then (some true) else ((utf_Fix.f a0).bind fun t197 => (if t197.size + a1.size ≤ 9223372036854775807 then ((utf_Units.f (t197 ++ a1)).bind fun t198 => ((utf_Units.f t197).bind fun t199 => ((utf_Units.f a1).bind fun t200 => (if t198 = (wrap64 (t199 + t200)) then (glossatorlaw01_UtfJoins.l0 k t197 0 0) else (some false))))) else (none)))) = some r := H
    have A5 := Aside0.mk A50
    clear A50
    by_cases c6 : t196 = true
    · subst c6
      have H1 : (some true) = some r := by rw [if_pos rfl] at H; exact H
      clear H
      have H := H1
      clear H1
      obtain rfl := Option.some.inj H
      go_enter Tryd.func7, Tryd.ntmps7
      go_wp2_with (first | ((with_reducible refine gate_callee (f := 21) rfl ?_); refine goesL_ (some 10) rfl rfl Tryd.func21 (by kernel_rfl) rfl #[] rfl (by (try simp only [List.map_toArray, List.map_cons, List.map_nil]); first | done | rfl | (simp only [List.length_drop, List.length_take]; rfl)) ?_; (with_reducible refine (glossatorlaw01_awake.calls k  true _ (by first | exact HG.out | exact GlobOk.below HG.out (by repeat (first | (with_reducible first | exact HB.out | apply below_alloc | apply pw_below_drewN | apply below_drew1) | exact HB.out))) A3.out).mono ?_); rintro e w7 ⟨rfl, hb⟩; refine ⟨_, rfl, ?_⟩; have n0_ := Aside0.mk (below_step (by repeat (first | (with_reducible first | exact HB.out | apply below_alloc | apply pw_below_drewN | apply below_drew1) | exact HB.out)) hb); clear HB; have HB := n0_; clear n0_; (try clear hb); (try clear hb2); (try clear hk); (try clear hi)) | ((with_reducible refine gate_dst (N := 14) rfl ?_); refine Kd.R_lit Kd.string _ 9 ?hg (N := 14) ?hd (xs := ([a0, a1] : List ByteArray)) (inner := [.string a0, .string a1]) (ok := fun _ => True) (okp := fun _ => True) ?hr ?hp (fun _ hk => hk) trivial (Below.refl _ _) (Nat.le_refl _) (by simp) ?_; (case hd => rfl); (case hg => rfl); (case hr => first | (go_simp; done) | (go_simp; rfl)); (case hp => exact (Reps.one (show Kd.M Kd.string _ _ _ a0 [.string a0] from rfl) (Reps.one (show Kd.M Kd.string _ _ _ a1 [.string a1] from rfl) (Reps.none _ _)))); intro v194 w8 ho9 hb hg_ hnew_; clear hg_ hnew_; (first | rw [← Ny193.out] at ho9 | (simp only [Int.reduceToNat] at ho9; rw [← Ny193.out] at ho9)); have n0_ := Aside0.mk (Kd.R_lower ho9 (below_size (by repeat (first | (with_reducible first | exact HB.out | apply below_alloc | apply pw_below_drewN | apply below_drew1) | exact HB.out)))); have n1_ := Aside0.mk (below_step (by repeat (first | (with_reducible first | exact HB.out | apply below_alloc | apply pw_below_drewN | apply below_drew1) | exact HB.out)) hb); clear HB; have HO195 := n0_; have HB := n1_; clear n0_ n1_; clear hb ho9; obtain ⟨Ao10, co10, eo10⟩ := Kd.R_slice HO195.out; subst eo10) | ((with_reducible refine gate_callee (f := 12) rfl ?_); refine goesL_ (some 15) rfl rfl Tryd.func12 (by kernel_rfl) rfl #[.slice Ao10 y193.length co10] rfl (by (try simp only [List.map_toArray, List.map_cons, List.map_nil]); first | done | rfl | (simp only [List.length_drop, List.length_take]; rfl)) ?_; (with_reducible refine (glossatorlaw01_long.calls k _ _ y193 true _ ?side1 ?side2 A5.out).mono ?_); (case side1 => repeat (first | exact (Kd.R_reads' HO195.out).2.2 | (with_reducible refine Kd.C_alloc ?_ _) | (with_reducible refine Kd.C_drewN ?_ _) | (with_reducible refine Kd.C_drew ?_))); (case side2 => exact (Kd.R_reads' HO195.out).2.1); rintro e w11 ⟨rfl, hb⟩; refine ⟨_, rfl, ?_⟩; have n0_ := Aside0.mk (Kd.R_below (by (with_reducible repeat (first | apply Kd.R_alloc | apply Kd.R_drewN | apply Kd.R_drew)); exact HO195.out) hb); have n1_ := Aside0.mk (below_step (by repeat (first | (with_reducible first | exact HB.out | apply below_alloc | apply pw_below_drewN | apply below_drew1) | exact HB.out)) hb); clear HO195; clear HB; have HO195 := n0_; have HB := n1_; clear n0_ n1_; (try clear hb); (try clear hb2); (try clear hk); (try clear hi)))
      go_ret
      exact ⟨by first | rfl | (simp [errW_none, errW_some] <;> rfl) | (simp [*, errW_none, errW_some] <;> rfl), by repeat (first | (with_reducible first | exact HB.out | apply below_alloc | apply pw_below_drewN | apply below_drew1) | exact HB.out)⟩
    · replace c6 := Bool.eq_false_iff.mpr c6
      subst c6
      have H1 : ((utf_Fix.f a0).bind fun t197 => (if t197.size + a1.size ≤ 9223372036854775807 then ((utf_Units.f (t197 ++ a1)).bind fun t198 => ((utf_Units.f t197).bind fun t199 => ((utf_Units.f a1).bind fun t200 => (if t198 = (wrap64 (t199 + t200)) then (glossatorlaw01_UtfJoins.l0 k t197 0 0) else (some false))))) else (none))) = some r := by rw [if_neg (show ¬ (false = true) by decide)] at H; exact H
      clear H
      have H := H1
      clear H1
      replace H := Option.bind_eq_some_iff.mp H
      obtain ⟨t197, A120, H⟩ := H
      replace H : (if t197.size + a1.size ≤ 9223372036854775807 then ((utf_Units.f (t197 ++ a1)).bind fun t198 => ((utf_Units.f t197).bind fun t199 => ((utf_Units.f a1).bind fun t200 => (if t198 = (wrap64 (t199 + t200)) then (glossatorlaw01_UtfJoins.l0 k t197 0 0) else (some false))))) else (none)) = some r := H
      have A12 := Aside0.mk A120
      clear A120
      by_cases c13 : t197.size + a1.size ≤ 9223372036854775807
      · rw [if_pos c13] at H
        have c13b0 := eq_true c13
        have c13b1 : decide (t197.size + a1.size ≤ 9223372036854775807) = true := decide_eq_true c13
        try have c13b2 : (9223372036854775807 < t197.size + a1.size) = False := eq_false (Nat.not_lt.2 c13)
        replace H := Option.bind_eq_some_iff.mp H
        obtain ⟨t198, A140, H⟩ := H
        replace H : ((utf_Units.f t197).bind fun t199 => ((utf_Units.f a1).bind fun t200 => (if t198 = (wrap64 (t199 + t200)) then (glossatorlaw01_UtfJoins.l0 k t197 0 0) else (some false)))) = some r := H
        have A14 := Aside0.mk A140
        clear A140
        replace H := Option.bind_eq_some_iff.mp H
        obtain ⟨t199, A150, H⟩ := H
        replace H : ((utf_Units.f a1).bind fun t200 => (if t198 = (wrap64 (t199 + t200)) then (glossatorlaw01_UtfJoins.l0 k t197 0 0) else (some false))) = some r := H
        have A15 := Aside0.mk A150
        clear A150
        replace H := Option.bind_eq_some_iff.mp H
        obtain ⟨t200, A160, H⟩ := H
        replace H : (if t198 = (wrap64 (t199 + t200)) then (glossatorlaw01_UtfJoins.l0 k t197 0 0) else (some false)) = some r := H
        have A16 := Aside0.mk A160
        clear A160
        by_cases c17 : t198 = (wrap64 (t199 + t200))
        · rw [if_pos c17] at H
          have c17b0 : (t198 == (wrap64 (t199 + t200))) = true := beq_iff_eq.mpr c17
          have c17b1 : (t198 != (wrap64 (t199 + t200))) = false := bne_eq_false_iff_eq.mpr c17
          clear c17
          have H' := Aside0.mk H
          clear H
          go_enter Tryd.func7, Tryd.ntmps7
          go_wp2_with (first | ((with_reducible refine gate_callee (f := 21) rfl ?_); refine goesL_ (some 10) rfl rfl Tryd.func21 (by kernel_rfl) rfl #[] rfl (by (try simp only [List.map_toArray, List.map_cons, List.map_nil]); first | done | rfl | (simp only [List.length_drop, List.length_take]; rfl)) ?_; (with_reducible refine (glossatorlaw01_awake.calls k  true _ (by first | exact HG.out | exact GlobOk.below HG.out (by repeat (first | (with_reducible first | exact HB.out | apply below_alloc | apply pw_below_drewN | apply below_drew1) | exact HB.out))) A3.out).mono ?_); rintro e w18 ⟨rfl, hb⟩; refine ⟨_, rfl, ?_⟩; have n0_ := Aside0.mk (below_step (by repeat (first | (with_reducible first | exact HB.out | apply below_alloc | apply pw_below_drewN | apply below_drew1) | exact HB.out)) hb); clear HB; have HB := n0_; clear n0_; (try clear hb); (try clear hb2); (try clear hk); (try clear hi)) | ((with_reducible refine gate_dst (N := 14) rfl ?_); refine Kd.R_lit Kd.string _ 9 ?hg (N := 14) ?hd (xs := ([a0, a1] : List ByteArray)) (inner := [.string a0, .string a1]) (ok := fun _ => True) (okp := fun _ => True) ?hr ?hp (fun _ hk => hk) trivial (Below.refl _ _) (Nat.le_refl _) (by simp) ?_; (case hd => rfl); (case hg => rfl); (case hr => first | (go_simp; done) | (go_simp; rfl)); (case hp => exact (Reps.one (show Kd.M Kd.string _ _ _ a0 [.string a0] from rfl) (Reps.one (show Kd.M Kd.string _ _ _ a1 [.string a1] from rfl) (Reps.none _ _)))); intro v194 w19 ho20 hb hg_ hnew_; clear hg_ hnew_; (first | rw [← Ny193.out] at ho20 | (simp only [Int.reduceToNat] at ho20; rw [← Ny193.out] at ho20)); have n0_ := Aside0.mk (Kd.R_lower ho20 (below_size (by repeat (first | (with_reducible first | exact HB.out | apply below_alloc | apply pw_below_drewN | apply below_drew1) | exact HB.out)))); have n1_ := Aside0.mk (below_step (by repeat (first | (with_reducible first | exact HB.out | apply below_alloc | apply pw_below_drewN | apply below_drew1) | exact HB.out)) hb); clear HB; have HO195 := n0_; have HB := n1_; clear n0_ n1_; clear hb ho20; obtain ⟨Ao21, co21, eo21⟩ := Kd.R_slice HO195.out; subst eo21) | ((with_reducible refine gate_callee (f := 12) rfl ?_); refine goesL_ (some 15) rfl rfl Tryd.func12 (by kernel_rfl) rfl #[.slice Ao21 y193.length co21] rfl (by (try simp only [List.map_toArray, List.map_cons, List.map_nil]); first | done | rfl | (simp only [List.length_drop, List.length_take]; rfl)) ?_; (with_reducible refine (glossatorlaw01_long.calls k _ _ y193 false _ ?side1 ?side2 A5.out).mono ?_); (case side1 => repeat (first | exact (Kd.R_reads' HO195.out).2.2 | (with_reducible refine Kd.C_alloc ?_ _) | (with_reducible refine Kd.C_drewN ?_ _) | (with_reducible refine Kd.C_drew ?_))); (case side2 => exact (Kd.R_reads' HO195.out).2.1); rintro e w22 ⟨rfl, hb⟩; refine ⟨_, rfl, ?_⟩; have n0_ := Aside0.mk (Kd.R_below (by (with_reducible repeat (first | apply Kd.R_alloc | apply Kd.R_drewN | apply Kd.R_drew)); exact HO195.out) hb); have n1_ := Aside0.mk (below_step (by repeat (first | (with_reducible first | exact HB.out | apply below_alloc | apply pw_below_drewN | apply below_drew1) | exact HB.out)) hb); clear HO195; clear HB; have HO195 := n0_; have HB := n1_; clear n0_ n1_; (try clear hb); (try clear hb2); (try clear hk); (try clear hi)) | ((with_reducible refine gate_callee (f := 13) rfl ?_); refine goesL_ (some 17) rfl rfl Tryd.func13 (by kernel_rfl) rfl #[.string a0] rfl (by (try simp only [List.map_toArray, List.map_cons, List.map_nil]); first | done | rfl | (simp only [List.length_drop, List.length_take]; rfl)) ?_; (with_reducible refine (utf_Fix.calls a0 t197 _ (by first | exact HG.out | exact GlobOk.below HG.out (by repeat (first | (with_reducible first | exact HB.out | apply below_alloc | apply pw_below_drewN | apply below_drew1) | exact HB.out))) A12.out).mono ?_); rintro e w23 ⟨rfl, hb⟩; refine ⟨_, rfl, ?_⟩; have n0_ := Aside0.mk (Kd.R_below (by (with_reducible repeat (first | apply Kd.R_alloc | apply Kd.R_drewN | apply Kd.R_drew)); exact HO195.out) hb); have n1_ := Aside0.mk (below_step (by repeat (first | (with_reducible first | exact HB.out | apply below_alloc | apply pw_below_drewN | apply below_drew1) | exact HB.out)) hb); clear HO195; clear HB; have HO195 := n0_; have HB := n1_; clear n0_ n1_; (try clear hb); (try clear hb2); (try clear hk); (try clear hi)) | ((with_reducible refine gate_callee (f := 22) rfl ?_); refine goesL_ (some 21) rfl rfl Tryd.func22 (by kernel_rfl) rfl #[.string (t197 ++ a1)] rfl (by (try simp only [List.map_toArray, List.map_cons, List.map_nil]); first | done | rfl | (simp only [List.length_drop, List.length_take]; rfl)) ?_; (with_reducible refine (utf_Units.calls (t197 ++ a1) t198 _ A14.out).mono ?_); rintro e w24 ⟨rfl, hb⟩; refine ⟨_, rfl, ?_⟩; have n0_ := Aside0.mk (Kd.R_below (by (with_reducible repeat (first | apply Kd.R_alloc | apply Kd.R_drewN | apply Kd.R_drew)); exact HO195.out) hb); have n1_ := Aside0.mk (below_step (by repeat (first | (with_reducible first | exact HB.out | apply below_alloc | apply pw_below_drewN | apply below_drew1) | exact HB.out)) hb); clear HO195; clear HB; have HO195 := n0_; have HB := n1_; clear n0_ n1_; (try clear hb); (try clear hb2); (try clear hk); (try clear hi)) | ((with_reducible refine gate_callee (f := 22) rfl ?_); refine goesL_ (some 23) rfl rfl Tryd.func22 (by kernel_rfl) rfl #[.string t197] rfl (by (try simp only [List.map_toArray, List.map_cons, List.map_nil]); first | done | rfl | (simp only [List.length_drop, List.length_take]; rfl)) ?_; (with_reducible refine (utf_Units.calls t197 t199 _ A15.out).mono ?_); rintro e w25 ⟨rfl, hb⟩; refine ⟨_, rfl, ?_⟩; have n0_ := Aside0.mk (Kd.R_below (by (with_reducible repeat (first | apply Kd.R_alloc | apply Kd.R_drewN | apply Kd.R_drew)); exact HO195.out) hb); have n1_ := Aside0.mk (below_step (by repeat (first | (with_reducible first | exact HB.out | apply below_alloc | apply pw_below_drewN | apply below_drew1) | exact HB.out)) hb); clear HO195; clear HB; have HO195 := n0_; have HB := n1_; clear n0_ n1_; (try clear hb); (try clear hb2); (try clear hk); (try clear hi)) | ((with_reducible refine gate_callee (f := 22) rfl ?_); refine goesL_ (some 25) rfl rfl Tryd.func22 (by kernel_rfl) rfl #[.string a1] rfl (by (try simp only [List.map_toArray, List.map_cons, List.map_nil]); first | done | rfl | (simp only [List.length_drop, List.length_take]; rfl)) ?_; (with_reducible refine (utf_Units.calls a1 t200 _ A16.out).mono ?_); rintro e w26 ⟨rfl, hb⟩; refine ⟨_, rfl, ?_⟩; have n0_ := Aside0.mk (Kd.R_below (by (with_reducible repeat (first | apply Kd.R_alloc | apply Kd.R_drewN | apply Kd.R_drew)); exact HO195.out) hb); have n1_ := Aside0.mk (below_step (by repeat (first | (with_reducible first | exact HB.out | apply below_alloc | apply pw_below_drewN | apply below_drew1) | exact HB.out)) hb); clear HO195; clear HB; have HO195 := n0_; have HB := n1_; clear n0_ n1_; (try clear hb); (try clear hb2); (try clear hk); (try clear hi)))
          go_loopg [5, 6] k (fun kq v5 v6 w' => ∃ (x5_1 : Int) (x6_1 : Int), v5 = .int .i64 x5_1 ∧ v6 = .int .i64 x6_1 ∧ Aside0 (glossatorlaw01_UtfJoins.l0 kq t197 x5_1 x6_1 = some r) ∧ Aside0 (kq ≤ k) ∧ Aside0 (Below w.heap.size w w'))
          case atStart => exact ⟨(0), (0), (by first | rfl | (simp; done) | (simp [*]; done) | (simp; exact xEmpty_ne _) | (simp [*]; exact xEmpty_ne _)), (by first | rfl | (simp; done) | (simp [*]; done) | (simp; exact xEmpty_ne _) | (simp [*]; exact xEmpty_ne _)), H', ⟨Nat.le_refl _⟩, ⟨by repeat (first | (with_reducible first | exact HB.out | apply below_alloc | apply pw_below_drewN | apply below_drew1) | exact HB.out)⟩⟩
          case round =>
            clear H'
            try clear c1
            try clear c2
            try clear p2
            try clear c4
            try clear c6
            try clear p6
            try clear c7
            try clear c12
            try clear c13
            try clear c13b0
            try clear c13b1
            try clear c13b2
            try clear c17
            try clear c17b0
            try clear c17b1
            try clear c21
            try clear c22
            obtain ⟨x5_1, x6_1, rfl, rfl, HA, HK1, HB⟩ := hrel
            cases gk with
            | zero => exact absurd HA.out (by simp [glossatorlaw01_UtfJoins.l0])
            | succ k1 =>
              have H := HA.out
              clear HA
              simp only [glossatorlaw01_UtfJoins.l0] at H
              by_cases c27 : x5_1 < (t197.size : Int)
              · rw [if_pos c27] at H
                have c27b0 : decide (x5_1 < (t197.size : Int)) = true := decide_eq_true c27
                clear c27
                replace H := Option.bind_eq_some_iff.mp H
                obtain ⟨⟨t202, t203, t204⟩, A280, H⟩ := H
                replace H : (if t204 = true then (if t203 < 1 then (glossatorlaw01_UtfJoins.j1 k1 t197 x5_1 x6_1 t203 true) else (if t203 > 4 then (glossatorlaw01_UtfJoins.j1 k1 t197 x5_1 x6_1 t203 true) else (if 0 ≤ x5_1 then (if x5_1 ≤ (wrap64 (x5_1 + t203)) then (if (wrap64 (x5_1 + t203)) ≤ (t197.size : Int) then (glossatorlaw01_UtfJoins.j1 k1 t197 x5_1 x6_1 t203 ((Utf8.encode t202).toList != (t197.extract (x5_1 : Int).toNat ((wrap64 (x5_1 + t203)) : Int).toNat).toList)) else (none)) else (none)) else (none)))) else (glossatorlaw01_UtfJoins.j1 k1 t197 x5_1 x6_1 t203 true)) = some r := H
                have A28 := Aside0.mk A280
                clear A280
                have HC29 := Aside0.mk H
                clear H
                go_upto_region 11 with (first | ((with_reducible refine gate_callee (f := 15) rfl ?_); refine goesL_ (some 35) rfl rfl Tryd.func15 (by kernel_rfl) rfl #[.string t197, .int .i64 x5_1] rfl (by (try simp only [List.map_toArray, List.map_cons, List.map_nil]); first | done | rfl | (simp only [List.length_drop, List.length_take]; rfl)) ?_; (with_reducible refine (utf_Next.calls k1 t197 x5_1 t202 t203 t204 _ (by first | exact HG.out | exact GlobOk.below HG.out (by repeat (first | (with_reducible first | exact HB.out | apply below_alloc | apply pw_below_drewN | apply below_drew1) | exact HB.out))) A28.out).mono ?_); rintro e w30 ⟨rfl, hb⟩; refine ⟨_, rfl, ?_⟩; have n0_ := Aside0.mk (below_step (by repeat (first | (with_reducible first | exact HB.out | apply below_alloc | apply pw_below_drewN | apply below_drew1) | exact HB.out)) hb); clear HB; have HB := n0_; clear n0_; (try clear hb); (try clear hb2); (try clear hk); (try clear hi)))
                (try simp only [Act.put, List.setIfInBounds_toArray, List.set_cons_zero, List.set_cons_succ])
                go_cut [59] (fun v59 wc => ∃ (kq : Nat) (x59_28 : Bool), v59 = .bool x59_28 ∧ Aside0 (glossatorlaw01_UtfJoins.j1 kq t197 x5_1 x6_1 t203 x59_28 = some r) ∧ Aside0 (kq ≤ k1) ∧ Aside0 (Below w.heap.size w wc))
                case first =>
                  have H := HC29.out
                  clear HC29
                  by_cases c31 : t204 = true
                  · subst c31
                    have H1 : (if t203 < 1 then (glossatorlaw01_UtfJoins.j1 k1 t197 x5_1 x6_1 t203 true) else (if t203 > 4 then (glossatorlaw01_UtfJoins.j1 k1 t197 x5_1 x6_1 t203 true) else (if 0 ≤ x5_1 then (if x5_1 ≤ (wrap64 (x5_1 + t203)) then (if (wrap64 (x5_1 + t203)) ≤ (t197.size : Int) then (glossatorlaw01_UtfJoins.j1 k1 t197 x5_1 x6_1 t203 ((Utf8.encode t202).toList != (t197.extract (x5_1 : Int).toNat ((wrap64 (x5_1 + t203)) : Int).toNat).toList)) else (none)) else (none)) else (none)))) = some r := by rw [if_pos rfl] at H; exact H
                    clear H
                    have H := H1
                    clear H1
                    by_cases c32 : t203 < 1
                    · rw [if_pos c32] at H
                      have c32b0 : decide (t203 < 1) = true := decide_eq_true c32
                      clear c32
                      (first | rw [c32b0] | (simp only [i64_w, i32_w]; rw [c32b0]) | skip)
                      have H' := Aside0.mk H
                      clear H
                      go_wp2
                      go_meet
                      case rel => exact ⟨_, (true), (by first | rfl | (simp; done) | (simp [*]; done) | (simp; exact xEmpty_ne _) | (simp [*]; exact xEmpty_ne _)), H', ⟨by have := HK1.out; first | omega | exact Nat.le_refl _⟩, ⟨by repeat (first | (with_reducible first | exact HB.out | apply below_alloc | apply pw_below_drewN | apply below_drew1) | exact HB.out)⟩⟩
                    · rw [if_neg c32] at H
                      have c32b0 : decide (t203 < 1) = false := decide_eq_false c32
                      clear c32
                      (first | rw [c32b0] | (simp only [i64_w, i32_w]; rw [c32b0]) | skip)
                      by_cases c33 : t203 > 4
                      · rw [if_pos c33] at H
                        have c33b0 : decide (4 < t203) = true := decide_eq_true c33
                        clear c33
                        have H' := Aside0.mk H
                        clear H
                        go_wp2
                        go_meet
                        case rel => exact ⟨_, (true), (by first | rfl | (simp; done) | (simp [*]; done) | (simp; exact xEmpty_ne _) | (simp [*]; exact xEmpty_ne _)), H', ⟨by have := HK1.out; first | omega | exact Nat.le_refl _⟩, ⟨by repeat (first | (with_reducible first | exact HB.out | apply below_alloc | apply pw_below_drewN | apply below_drew1) | exact HB.out)⟩⟩
                      · rw [if_neg c33] at H
                        have c33b0 : decide (4 < t203) = false := decide_eq_false c33
                        clear c33
                        by_cases c34 : 0 ≤ x5_1
                        · rw [if_pos c34] at H
                          have c34b0 := eq_true c34
                          have c34b1 : decide (0 ≤ x5_1) = true := decide_eq_true c34
                          clear c34
                          by_cases c35 : x5_1 ≤ (wrap64 (x5_1 + t203))
                          · rw [if_pos c35] at H
                            have c35b0 := eq_true c35
                            have c35b1 : decide (x5_1 ≤ (wrap64 (x5_1 + t203))) = true := decide_eq_true c35
                            by_cases c36 : (wrap64 (x5_1 + t203)) ≤ (t197.size : Int)
                            · rw [if_pos c36] at H
                              have c36b0 := eq_true c36
                              have c36b1 : decide ((wrap64 (x5_1 + t203)) ≤ (t197.size : Int)) = true := decide_eq_true c36
                              have H' := Aside0.mk H
                              clear H
                              go_wp2
                              go_meet
                              case rel => exact ⟨_, (((Utf8.encode t202).toList != (t197.extract (x5_1 : Int).toNat ((wrap64 (x5_1 + t203)) : Int).toNat).toList)), (by first | rfl | (simp; done) | (simp [*]; done) | (simp; exact xEmpty_ne _) | (simp [*]; exact xEmpty_ne _)), H', ⟨by have := HK1.out; first | omega | exact Nat.le_refl _⟩, ⟨by repeat (first | (with_reducible first | exact HB.out | apply below_alloc | apply pw_below_drewN | apply below_drew1) | exact HB.out)⟩⟩
                            · rw [if_neg c36] at H
                              exact absurd H (by simp)
                          · rw [if_neg c35] at H
                            exact absurd H (by simp)
                        · rw [if_neg c34] at H
                          exact absurd H (by simp)
                  · replace c31 := Bool.eq_false_iff.mpr c31
                    subst c31
                    have H1 : (glossatorlaw01_UtfJoins.j1 k1 t197 x5_1 x6_1 t203 true) = some r := by rw [if_neg (show ¬ (false = true) by decide)] at H; exact H
                    clear H
                    have H := H1
                    clear H1
                    have H' := Aside0.mk H
                    clear H
                    go_wp2
                    go_meet
                    case rel => exact ⟨_, (true), (by first | rfl | (simp; done) | (simp [*]; done) | (simp; exact xEmpty_ne _) | (simp [*]; exact xEmpty_ne _)), H', ⟨by have := HK1.out; first | omega | exact Nat.le_refl _⟩, ⟨by repeat (first | (with_reducible first | exact HB.out | apply below_alloc | apply pw_below_drewN | apply below_drew1) | exact HB.out)⟩⟩
                case rest =>
                  clear HC29
                  try clear c1
                  try clear c2
                  try clear p2
                  try clear c3
                  try clear c4
                  try clear c6
                  try clear p6
                  try clear c7
                  try clear c12
                  try clear c13
                  try clear c13b0
                  try clear c13b1
                  try clear c13b2
                  try clear c15
                  try clear c17
                  try clear c17b0
                  try clear c17b1
                  try clear c21
                  try clear c22
                  try clear c27
                  try clear c27b0
                  try clear c31
                  try clear c32
                  try clear c32b0
                  try clear c33
                  try clear c33b0
                  try clear c34
                  try clear c34b0
                  try clear c34b1
                  try clear c35
                  try clear c35b0
                  try clear c35b1
                  try clear c36
                  try clear c36b0
                  try clear c36b1
                  try clear p2
                  try clear p6
                  obtain ⟨kq, x59_28, rfl, HA, HJ28, HB⟩ := hcut
                  cases kq with
                  | zero => exact absurd HA.out (by simp [glossatorlaw01_UtfJoins.j1])
                  | succ kj28 =>
                    have H := HA.out
                    clear HA
                    simp only [glossatorlaw01_UtfJoins.j1] at H
                    by_cases c37 : x59_28 = true
                    · subst c37
                      have H1 : (some false) = some r := by rw [if_pos rfl] at H; exact H
                      clear H
                      have H := H1
                      clear H1
                      obtain rfl := Option.some.inj H
                      go_wp2
                      go_ret
                      exact ⟨by first | rfl | (simp [errW_none, errW_some] <;> rfl) | (simp [*, errW_none, errW_some] <;> rfl), by repeat (first | (with_reducible first | exact HB.out | apply below_alloc | apply pw_below_drewN | apply below_drew1) | exact HB.out)⟩
                    · replace c37 := Bool.eq_false_iff.mpr c37
                      subst c37
                      have H1 : (if t203 = 4 then (glossatorlaw01_UtfJoins.l0 kj28 t197 (wrap64 (x5_1 + t203)) (wrap64 ((wrap64 (x6_1 + 1)) + 1))) else (glossatorlaw01_UtfJoins.l0 kj28 t197 (wrap64 (x5_1 + t203)) (wrap64 (x6_1 + 1)))) = some r := by rw [if_neg (show ¬ (false = true) by decide)] at H; exact H
                      clear H
                      have H := H1
                      clear H1
                      by_cases c38 : t203 = 4
                      · rw [if_pos c38] at H
                        have c38b0 : (t203 == 4) = true := beq_iff_eq.mpr c38
                        have c38b1 : (t203 != 4) = false := bne_eq_false_iff_eq.mpr c38
                        clear c38
                        have H' := Aside0.mk H
                        clear H
                        go_wp2
                        go_roundg kj28
                        case measure => have := HK1.out; have := HJ28.out; omega
                        case rel => exact ⟨(wrap64 (x5_1 + t203)), (wrap64 ((wrap64 (x6_1 + 1)) + 1)), (by first | rfl | (simp; done) | (simp [*]; done) | (simp; exact xEmpty_ne _) | (simp [*]; exact xEmpty_ne _)), (by first | rfl | (simp; done) | (simp [*]; done) | (simp; exact xEmpty_ne _) | (simp [*]; exact xEmpty_ne _)), H', ⟨by have := HK1.out; have := HJ28.out; omega⟩, ⟨by repeat (first | (with_reducible first | exact HB.out | apply below_alloc | apply pw_below_drewN | apply below_drew1) | exact HB.out)⟩⟩
                      · rw [if_neg c38] at H
                        have c38b0 : (t203 == 4) = false := beq_eq_false_iff_ne.mpr c38
                        have c38b1 : (t203 != 4) = true := bne_iff_ne.mpr c38
                        have H' := Aside0.mk H
                        clear H
                        go_wp2
                        go_roundg kj28
                        case measure => have := HK1.out; have := HJ28.out; omega
                        case rel => exact ⟨(wrap64 (x5_1 + t203)), (wrap64 (x6_1 + 1)), (by first | rfl | (simp; done) | (simp [*]; done) | (simp; exact xEmpty_ne _) | (simp [*]; exact xEmpty_ne _)), (by first | rfl | (simp; done) | (simp [*]; done) | (simp; exact xEmpty_ne _) | (simp [*]; exact xEmpty_ne _)), H', ⟨by have := HK1.out; have := HJ28.out; omega⟩, ⟨by repeat (first | (with_reducible first | exact HB.out | apply below_alloc | apply pw_below_drewN | apply below_drew1) | exact HB.out)⟩⟩
              · rw [if_neg c27] at H
                have c27b0 : decide (x5_1 < (t197.size : Int)) = false := decide_eq_false c27
                clear c27
                by_cases c39 : x5_1 = (t197.size : Int)
                · rw [if_pos c39] at H
                  have c39b0 : (x5_1 == (t197.size : Int)) = true := beq_iff_eq.mpr c39
                  have c39b1 : (x5_1 != (t197.size : Int)) = false := bne_eq_false_iff_eq.mpr c39
                  clear c39
                  replace H := Option.bind_eq_some_iff.mp H
                  obtain ⟨t201, A400, H⟩ := H
                  replace H : (some (x6_1 == t201)) = some r := H
                  have A40 := Aside0.mk A400
                  clear A400
                  obtain rfl := Option.some.inj H
                  go_wp2_with (first | (go_at_call 22; (with_reducible refine (utf_Units.calls t197 t201 _ A40.out).mono ?_); rintro e w41 ⟨rfl, hb⟩; have n0_ := Aside0.mk (below_step (by repeat (first | (with_reducible first | exact HB.out | apply below_alloc | apply pw_below_drewN | apply below_drew1) | exact HB.out)) hb); clear HB; have HB := n0_; clear n0_; (try clear hb); (try clear hb2); (try clear hk); (try clear hi)))
                  go_ret
                  exact ⟨by first | rfl | (simp [errW_none, errW_some] <;> rfl) | (simp [*, errW_none, errW_some] <;> rfl), by repeat (first | (with_reducible first | exact HB.out | apply below_alloc | apply pw_below_drewN | apply below_drew1) | exact HB.out)⟩
                · rw [if_neg c39] at H
                  have c39b0 : (x5_1 == (t197.size : Int)) = false := beq_eq_false_iff_ne.mpr c39
                  have c39b1 : (x5_1 != (t197.size : Int)) = true := bne_iff_ne.mpr c39
                  obtain rfl := Option.some.inj H
                  go_wp2
                  go_ret
                  exact ⟨by first | rfl | (simp [errW_none, errW_some] <;> rfl) | (simp [*, errW_none, errW_some] <;> rfl), by repeat (first | (with_reducible first | exact HB.out | apply below_alloc | apply pw_below_drewN | apply below_drew1) | exact HB.out)⟩
        · rw [if_neg c17] at H
          have c17b0 : (t198 == (wrap64 (t199 + t200))) = false := beq_eq_false_iff_ne.mpr c17
          have c17b1 : (t198 != (wrap64 (t199 + t200))) = true := bne_iff_ne.mpr c17
          obtain rfl := Option.some.inj H
          go_enter Tryd.func7, Tryd.ntmps7
          go_wp2_with (first | ((with_reducible refine gate_callee (f := 21) rfl ?_); refine goesL_ (some 10) rfl rfl Tryd.func21 (by kernel_rfl) rfl #[] rfl (by (try simp only [List.map_toArray, List.map_cons, List.map_nil]); first | done | rfl | (simp only [List.length_drop, List.length_take]; rfl)) ?_; (with_reducible refine (glossatorlaw01_awake.calls k  true _ (by first | exact HG.out | exact GlobOk.below HG.out (by repeat (first | (with_reducible first | exact HB.out | apply below_alloc | apply pw_below_drewN | apply below_drew1) | exact HB.out))) A3.out).mono ?_); rintro e w42 ⟨rfl, hb⟩; refine ⟨_, rfl, ?_⟩; have n0_ := Aside0.mk (below_step (by repeat (first | (with_reducible first | exact HB.out | apply below_alloc | apply pw_below_drewN | apply below_drew1) | exact HB.out)) hb); clear HB; have HB := n0_; clear n0_; (try clear hb); (try clear hb2); (try clear hk); (try clear hi)) | ((with_reducible refine gate_dst (N := 14) rfl ?_); refine Kd.R_lit Kd.string _ 9 ?hg (N := 14) ?hd (xs := ([a0, a1] : List ByteArray)) (inner := [.string a0, .string a1]) (ok := fun _ => True) (okp := fun _ => True) ?hr ?hp (fun _ hk => hk) trivial (Below.refl _ _) (Nat.le_refl _) (by simp) ?_; (case hd => rfl); (case hg => rfl); (case hr => first | (go_simp; done) | (go_simp; rfl)); (case hp => exact (Reps.one (show Kd.M Kd.string _ _ _ a0 [.string a0] from rfl) (Reps.one (show Kd.M Kd.string _ _ _ a1 [.string a1] from rfl) (Reps.none _ _)))); intro v194 w43 ho44 hb hg_ hnew_; clear hg_ hnew_; (first | rw [← Ny193.out] at ho44 | (simp only [Int.reduceToNat] at ho44; rw [← Ny193.out] at ho44)); have n0_ := Aside0.mk (Kd.R_lower ho44 (below_size (by repeat (first | (with_reducible first | exact HB.out | apply below_alloc | apply pw_below_drewN | apply below_drew1) | exact HB.out)))); have n1_ := Aside0.mk (below_step (by repeat (first | (with_reducible first | exact HB.out | apply below_alloc | apply pw_below_drewN | apply below_drew1) | exact HB.out)) hb); clear HB; have HO195 := n0_; have HB := n1_; clear n0_ n1_; clear hb ho44; obtain ⟨Ao45, co45, eo45⟩ := Kd.R_slice HO195.out; subst eo45) | ((with_reducible refine gate_callee (f := 12) rfl ?_); refine goesL_ (some 15) rfl rfl Tryd.func12 (by kernel_rfl) rfl #[.slice Ao45 y193.length co45] rfl (by (try simp only [List.map_toArray, List.map_cons, List.map_nil]); first | done | rfl | (simp only [List.length_drop, List.length_take]; rfl)) ?_; (with_reducible refine (glossatorlaw01_long.calls k _ _ y193 false _ ?side1 ?side2 A5.out).mono ?_); (case side1 => repeat (first | exact (Kd.R_reads' HO195.out).2.2 | (with_reducible refine Kd.C_alloc ?_ _) | (with_reducible refine Kd.C_drewN ?_ _) | (with_reducible refine Kd.C_drew ?_))); (case side2 => exact (Kd.R_reads' HO195.out).2.1); rintro e w46 ⟨rfl, hb⟩; refine ⟨_, rfl, ?_⟩; have n0_ := Aside0.mk (Kd.R_below (by (with_reducible repeat (first | apply Kd.R_alloc | apply Kd.R_drewN | apply Kd.R_drew)); exact HO195.out) hb); have n1_ := Aside0.mk (below_step (by repeat (first | (with_reducible first | exact HB.out | apply below_alloc | apply pw_below_drewN | apply below_drew1) | exact HB.out)) hb); clear HO195; clear HB; have HO195 := n0_; have HB := n1_; clear n0_ n1_; (try clear hb); (try clear hb2); (try clear hk); (try clear hi)) | ((with_reducible refine gate_callee (f := 13) rfl ?_); refine goesL_ (some 17) rfl rfl Tryd.func13 (by kernel_rfl) rfl #[.string a0] rfl (by (try simp only [List.map_toArray, List.map_cons, List.map_nil]); first | done | rfl | (simp only [List.length_drop, List.length_take]; rfl)) ?_; (with_reducible refine (utf_Fix.calls a0 t197 _ (by first | exact HG.out | exact GlobOk.below HG.out (by repeat (first | (with_reducible first | exact HB.out | apply below_alloc | apply pw_below_drewN | apply below_drew1) | exact HB.out))) A12.out).mono ?_); rintro e w47 ⟨rfl, hb⟩; refine ⟨_, rfl, ?_⟩; have n0_ := Aside0.mk (Kd.R_below (by (with_reducible repeat (first | apply Kd.R_alloc | apply Kd.R_drewN | apply Kd.R_drew)); exact HO195.out) hb); have n1_ := Aside0.mk (below_step (by repeat (first | (with_reducible first | exact HB.out | apply below_alloc | apply pw_below_drewN | apply below_drew1) | exact HB.out)) hb); clear HO195; clear HB; have HO195 := n0_; have HB := n1_; clear n0_ n1_; (try clear hb); (try clear hb2); (try clear hk); (try clear hi)) | ((with_reducible refine gate_callee (f := 22) rfl ?_); refine goesL_ (some 21) rfl rfl Tryd.func22 (by kernel_rfl) rfl #[.string (t197 ++ a1)] rfl (by (try simp only [List.map_toArray, List.map_cons, List.map_nil]); first | done | rfl | (simp only [List.length_drop, List.length_take]; rfl)) ?_; (with_reducible refine (utf_Units.calls (t197 ++ a1) t198 _ A14.out).mono ?_); rintro e w48 ⟨rfl, hb⟩; refine ⟨_, rfl, ?_⟩; have n0_ := Aside0.mk (Kd.R_below (by (with_reducible repeat (first | apply Kd.R_alloc | apply Kd.R_drewN | apply Kd.R_drew)); exact HO195.out) hb); have n1_ := Aside0.mk (below_step (by repeat (first | (with_reducible first | exact HB.out | apply below_alloc | apply pw_below_drewN | apply below_drew1) | exact HB.out)) hb); clear HO195; clear HB; have HO195 := n0_; have HB := n1_; clear n0_ n1_; (try clear hb); (try clear hb2); (try clear hk); (try clear hi)) | ((with_reducible refine gate_callee (f := 22) rfl ?_); refine goesL_ (some 23) rfl rfl Tryd.func22 (by kernel_rfl) rfl #[.string t197] rfl (by (try simp only [List.map_toArray, List.map_cons, List.map_nil]); first | done | rfl | (simp only [List.length_drop, List.length_take]; rfl)) ?_; (with_reducible refine (utf_Units.calls t197 t199 _ A15.out).mono ?_); rintro e w49 ⟨rfl, hb⟩; refine ⟨_, rfl, ?_⟩; have n0_ := Aside0.mk (Kd.R_below (by (with_reducible repeat (first | apply Kd.R_alloc | apply Kd.R_drewN | apply Kd.R_drew)); exact HO195.out) hb); have n1_ := Aside0.mk (below_step (by repeat (first | (with_reducible first | exact HB.out | apply below_alloc | apply pw_below_drewN | apply below_drew1) | exact HB.out)) hb); clear HO195; clear HB; have HO195 := n0_; have HB := n1_; clear n0_ n1_; (try clear hb); (try clear hb2); (try clear hk); (try clear hi)) | ((with_reducible refine gate_callee (f := 22) rfl ?_); refine goesL_ (some 25) rfl rfl Tryd.func22 (by kernel_rfl) rfl #[.string a1] rfl (by (try simp only [List.map_toArray, List.map_cons, List.map_nil]); first | done | rfl | (simp only [List.length_drop, List.length_take]; rfl)) ?_; (with_reducible refine (utf_Units.calls a1 t200 _ A16.out).mono ?_); rintro e w50 ⟨rfl, hb⟩; refine ⟨_, rfl, ?_⟩; have n0_ := Aside0.mk (Kd.R_below (by (with_reducible repeat (first | apply Kd.R_alloc | apply Kd.R_drewN | apply Kd.R_drew)); exact HO195.out) hb); have n1_ := Aside0.mk (below_step (by repeat (first | (with_reducible first | exact HB.out | apply below_alloc | apply pw_below_drewN | apply below_drew1) | exact HB.out)) hb); clear HO195; clear HB; have HO195 := n0_; have HB := n1_; clear n0_ n1_; (try clear hb); (try clear hb2); (try clear hk); (try clear hi)))
          go_ret
          exact ⟨by first | rfl | (simp [errW_none, errW_some] <;> rfl) | (simp [*, errW_none, errW_some] <;> rfl), by repeat (first | (with_reducible first | exact HB.out | apply below_alloc | apply pw_below_drewN | apply below_drew1) | exact HB.out)⟩
      · rw [if_neg c13] at H
        exact absurd H (by simp)
  · replace c4 := Bool.eq_false_iff.mpr c4
    subst c4
    have H1 : (some false) = some r := by rw [if_neg (show ¬ (false = true) by decide)] at H; exact H
    clear H
    have H := H1
    clear H1
    obtain rfl := Option.some.inj H
    go_enter Tryd.func7, Tryd.ntmps7
    go_wp2_with (first | ((with_reducible refine gate_callee (f := 21) rfl ?_); refine goesL_ (some 10) rfl rfl Tryd.func21 (by kernel_rfl) rfl #[] rfl (by (try simp only [List.map_toArray, List.map_cons, List.map_nil]); first | done | rfl | (simp only [List.length_drop, List.length_take]; rfl)) ?_; (with_reducible refine (glossatorlaw01_awake.calls k  false _ (by first | exact HG.out | exact GlobOk.below HG.out (by repeat (first | (with_reducible first | exact HB.out | apply below_alloc | apply pw_below_drewN | apply below_drew1) | exact HB.out))) A3.out).mono ?_); rintro e w51 ⟨rfl, hb⟩; refine ⟨_, rfl, ?_⟩; have n0_ := Aside0.mk (below_step (by repeat (first | (with_reducible first | exact HB.out | apply below_alloc | apply pw_below_drewN | apply below_drew1) | exact HB.out)) hb); clear HB; have HB := n0_; clear n0_; (try clear hb); (try clear hb2); (try clear hk); (try clear hi)))
    go_ret
    exact ⟨by first | rfl | (simp [errW_none, errW_some] <;> rfl) | (simp [*, errW_none, errW_some] <;> rfl), by repeat (first | (with_reducible first | exact HB.out | apply below_alloc | apply pw_below_drewN | apply below_drew1) | exact HB.out)⟩

/-- THE ONE PURE STATEMENT of glossatorlaw01_UtfJoins. -/
def glossatorlaw01_UtfJoins.Pure : Prop := ∀ (p0 : ByteArray) (p1 : ByteArray), p0.size ≤ 140737488351232 → p1.size ≤ 140737488351232 → ∃ k, glossatorlaw01_UtfJoins.f k p0 p1 = some true
/-- The same, where what is handed in is small. -/
def glossatorlaw01_UtfJoins.PureUpto : Prop := ∀ (p0 : ByteArray) (p1 : ByteArray), p0.size ≤ 140737488351232 → p1.size ≤ 140737488351232 → (p0.size + 1) + (p1.size + 1) ≤ 1048576 → ∃ k, glossatorlaw01_UtfJoins.f k p0 p1 = some true

/-! ### lines_Line: function 31 (by hand) -/
attribute [local go_sem] Oper.semAt_some
def lineOf {s : ByteArray} (n : Int) (l : List (Ln s)) : Int × Int × Bool := match l.find? (fun x => decide ((x.1.1 : Int) = n)) with | none => (0, 0, false) | some x => (x.1.2.1, x.1.2.2, true)
def lines_Line.f (a0 : ByteArray) (a1 : Int) : Option (Int × Int × Bool) := if a0.size < 4294967281 then some (lineOf a1 (lns a0)) else none
theorem lineOf_hit {s : ByteArray} {a1 : Int} {pre : List (Ln s)} {x : Ln s} (h : pre.find? (fun x => decide ((x.1.1 : Int) = a1)) = none) (hx : (x.1.1 : Int) = a1) : lineOf a1 (pre ++ [x]) = ((x.1.2.1 : Int), (x.1.2.2 : Int), true) := by
  unfold lineOf
  rw [List.find?_append, h]
  simp [hx]
theorem lineOf_prefix {s : ByteArray} {a1 : Int} {pre l : List (Ln s)} (h : pre <+: l) (hl : (lineOf a1 pre).2.2 = true) : lineOf a1 l = lineOf a1 pre := by
  obtain ⟨r, rfl⟩ := h
  unfold lineOf at hl ⊢
  rw [List.find?_append]
  cases hf : pre.find? (fun x => decide ((x.1.1 : Int) = a1)) with
  | none => rw [hf] at hl; cases hl
  | some x => rfl
theorem lineOf_none {s : ByteArray} {a1 : Int} {l : List (Ln s)} (h : l.find? (fun x => decide ((x.1.1 : Int) = a1)) = none) : lineOf a1 l = (0, 0, false) := by
  unfold lineOf
  rw [h]
theorem results_span {fn : Func} {p q : Tmp} (h : fn.results = #[.cell p 40, .cell q 4]) (tmps : Array Value) (W : World) {B B2 : Nat} {v1 v2 : Int} {b : Bool} (hp : tmps.getD p undef = .pointer (some ⟨B, 0, none⟩)) (hq : tmps.getD q undef = .pointer (some ⟨B2, 0, none⟩))
    (h1 : Boxed2 W B 40 (.int .i64 v1) (.int .i64 v2)) (h2 : Boxed W B2 4 (.bool b)) : (results fn tmps).run Tryd.prog W = .ok (.tuple #[.agg #[.int .i64 v1, .int .i64 v2], .bool b]) W := by
  have c0 := h1.cell0
  have c1 := h1.cell1
  have c2 := h2.cell
  have hp' : tmps[p]?.getD undef = .pointer (some ⟨B, 0, none⟩) := by simpa using hp
  have hq' : tmps[q]?.getD undef = .pointer (some ⟨B2, 0, none⟩) := by simpa using hq
  simp [results, h, hp', hq', asAddr]
  go_simp
set_option maxRecDepth 100000 in
set_option maxHeartbeats 2000000 in
theorem lines_Line.calls (a0 : ByteArray) (a1 : Int) (r1 r2 : Int) (r3 : Bool) (w : World) (h : lines_Line.f a0 a1 = some (r1, r2, r3)) :
    Calls Tryd.prog 31 #[.string a0, .int .i64 a1] w fun e w' => e = .returned (.tuple #[.agg #[.int .i64 r1, .int .i64 r2], .bool r3]) ∧ Below w.heap.size w w' := by
  unfold lines_Line.f at h
  split at h
  case isFalse => cases h
  rename_i hs
  replace h := Option.some.inj h
  refine (callsIn_wide (n := 3)).1 ?_
  refine callsIn_of_wp_marks Tryd.func31 rfl trivial ?_ rfl
  simp only [Tryd.ntmps31, List.size_toArray, List.length_cons, List.length_nil, Nat.reduceAdd, Nat.reduceSub, Array.replicate_succ, Array.replicate_zero, List.push_toArray, List.append_toArray, List.nil_append, List.cons_append]
  gi_wp2_with (refine ⟨trivial, ?_⟩; gi_at_call 42; refine (each_in _ _ _).mono ?_; rintro e w' ⟨rfl, rfl⟩)
  have bN := (((Boxed.new w 3 (.int .i64 a1)).alloc (.cells #[.int .i64 0, .int .i64 0] 40)).alloc (.cells #[.bool false] 4)).alloc (.cells #[.string a0] 9)
  have bX := ((Boxed2.new (w.alloc (.cells #[.int .i64 a1] 3)) 40 (.int .i64 0) (.int .i64 0)).alloc (.cells #[.bool false] 4)).alloc (.cells #[.string a0] 9)
  have bB := (Boxed.new ((w.alloc (.cells #[.int .i64 a1] 3)).alloc (.cells #[.int .i64 0, .int .i64 0] 40)) 4 (.bool false)).alloc (.cells #[.string a0] 9)
  have bS := Boxed.new (((w.alloc (.cells #[.int .i64 a1] 3)).alloc (.cells #[.int .i64 0, .int .i64 0] 40)).alloc (.cells #[.bool false] 4)) 9 (.string a0)
  have hB0 : Below w.heap.size w ((((w.alloc (.cells #[.int .i64 a1] 3)).alloc (.cells #[.int .i64 0, .int .i64 0] 40)).alloc (.cells #[.bool false] 4)).alloc (.cells #[.string a0] 9)) := ((((Below.refl _ w).alloc (Nat.le_refl _) _).alloc (by simp) _).alloc (by simp; omega) _).alloc (by simp; omega) _
  simp only [World.size_alloc] at bX bB bS
  obtain ⟨W0, hW0⟩ : ∃ W0, ((((w.alloc (.cells #[.int .i64 a1] 3)).alloc (.cells #[.int .i64 0, .int .i64 0] 40)).alloc (.cells #[.bool false] 4)).alloc (.cells #[.string a0] 9)) = W0 := ⟨_, rfl⟩
  have hsz : W0.heap.size = w.heap.size + 4 := by rw [← hW0]; simp
  rw [hW0] at bN bX bB bS hB0 ⊢
  clear hW0
  refine wpIn_rangeFunc_ownH rfl (by decide) (gf := 51) (lb := #[.pointer (some ⟨w.heap.size + 1 + 1 + 1, 0, none⟩)]) rfl trivial (enters_of Tryd.func51 (by kernel_rfl) rfl)
    (each_stops a0 hs 2 (by decide) (w.heap.size + 1 + 1 + 1) _ bS) kbox_t (kbox_b (by omega)) (Below.refl _ _) (fun _ => rfl)
    (fun pre W => (((Boxed W w.heap.size 3 (.int .i64 a1) ∧ Boxed2 W (w.heap.size + 1) 40 (.int .i64 0) (.int .i64 0)) ∧ Boxed W (w.heap.size + 1 + 1) 4 (.bool false)) ∧ Boxed W (w.heap.size + 1 + 1 + 1) 9 (.string a0)) ∧ (pre.find? (fun x => decide ((x.1.1 : Int) = a1)) = none ∧ Below w.heap.size w W))
    (fun c pre W => (Boxed2 W (w.heap.size + 1) 40 (.int .i64 (lineOf a1 pre).1) (.int .i64 (lineOf a1 pre).2.1) ∧ Boxed W (w.heap.size + 1 + 1) 4 (.bool true)) ∧ ((c = .ret ∧ (lineOf a1 pre).2.2 = true) ∧ Below w.heap.size w W))
    (OwnFrom.and (OwnFrom.and (OwnFrom.and (OwnFrom.and (Own.from (boxed_own _ _ _) _) (Own.from (boxed2_own _ _ (fun _ => _) (fun _ => _)) _)) (Own.from (boxed_own _ _ _) _)) (Own.from (boxed_own _ _ _) _)) (OwnFrom.and (ownFrom_pure _ _) (ownFrom_below (Nat.le_refl _) (by omega))))
    (fun c => OwnFrom.and (OwnFrom.and (Own.from (boxed2_own _ _ (fun pre => Value.int .i64 (lineOf a1 pre).1) (fun pre => Value.int .i64 (lineOf a1 pre).2.1)) _) (Own.from (boxed_own _ _ _) _)) (OwnFrom.and (ownFrom_pure _ _) (ownFrom_below (Nat.le_refl _) (by omega))))
    ⟨⟨⟨⟨bN, bX⟩, bB⟩, bS⟩, rfl, hB0⟩
    (fun x a' W => ∃ Bx, w.heap.size + 1 + 1 + 1 < Bx ∧ Boxed2 W Bx 40 (.int .i64 x.1.2.1) (.int .i64 x.1.2.2) ∧ a' = { tmps := #[.string a0, .int .i64 a1, undef, .pointer (some ⟨w.heap.size, 0, none⟩), .pointer (some ⟨w.heap.size + 1, 0, none⟩), .pointer (some ⟨w.heap.size + 1 + 1, 0, none⟩), .int .i64 x.1.1, .pointer (some ⟨Bx, 0, none⟩), .string a0, .func (.func 51) #[] #[.pointer (some ⟨w.heap.size + 1 + 1 + 1, 0, none⟩)], .int .i64 x.1.1, .agg #[.int .i64 x.1.2.1, .int .i64 x.1.2.2], undef, undef, undef, undef, undef], defers := [] })
    (fun x a' _ X Y row hs hg hr => by obtain ⟨Bx, h1, h2, h3⟩ := hs; exact ⟨Bx, h1, boxed2_own Bx _ (fun (_ : Unit) => Value.int .i64 x.1.2.1) (fun (_ : Unit) => Value.int .i64 x.1.2.2) () X Y row h2 hg (fun r e => (hr r e).2), h3⟩)
    ?assign ?body ?done ?stop
  case assign =>
    rintro l pre x W K ⟨⟨⟨⟨bN1, bX1⟩, bB1⟩, bS1⟩, hnone, hB1⟩ hK
    simp only [encLn]
    gi_wp2
    exact hK _ _ ((KeepsOthers.alloc _ _).from _) (kbox_alloc _ _ bS1.lt) ⟨⟨⟨⟨bN1.alloc _, bX1.alloc _⟩, bB1.alloc _⟩, bS1.alloc _⟩, hnone, hB1.alloc hB1.size _⟩ ⟨W.heap.size, bS1.lt, Boxed2.new W 40 _ _, rfl⟩
  case body =>
    rintro l pre x a' W hl _ ⟨⟨⟨⟨bN1, bX1⟩, bB1⟩, bS1⟩, hnone, hB1⟩ ⟨Bx, hBx, bx, rfl⟩ hlt
    have cN := bN1.cell
    have cX0 := bX1.cell0
    have cX1 := bX1.cell1
    have fX0 := bX1.frozen 0
    have fX1 := bX1.frozen 1
    have cB := bB1.cell
    have fB := bB1.frozen
    have cx0 := bx.cell0
    have cx1 := bx.cell1
    by_cases hx : (x.1.1 : Int) = a1
    · have hxb : ((x.1.1 : Int) == a1) = true := by simp [hx]
      gi_wp2
      have hl := lineOf_hit hnone hx
      refine ⟨((KeepsOthers.setCell _ _ _).from _).trans (((KeepsOthers.setCell _ _ _).from _).trans ((KeepsOthers.setCell _ _ _).from _)), ⟨?_, ?_⟩, ⟨rfl, by rw [hl]⟩, ?_⟩
      · rw [hl]
        exact ((bX1.set0 _).set1 _).other _ _ (by simp)
      · exact ((bB1.other2 (a := ⟨w.heap.size + 1, 0, none⟩) (by simp) _).other2 (a := ⟨w.heap.size + 1, 1, none⟩) (by simp) _).set _
      · exact ((hB1.setCell (p := ⟨w.heap.size + 1, 0, none⟩) (by simp) _).setCell (p := ⟨w.heap.size + 1, 1, none⟩) (by simp) _).setCell (p := ⟨w.heap.size + 1 + 1, 0, none⟩) (by simp; omega) _
    · have hxb : ((x.1.1 : Int) == a1) = false := by simp [hx]
      gi_wp2
      exact ⟨KeepsFrom.refl _ _, rfl, ⟨⟨⟨bN1, bX1⟩, bB1⟩, bS1⟩, by rw [List.find?_append, hnone]; simp [hx], hB1⟩
  case done =>
    rintro D ys W hD rfl ⟨⟨⟨⟨bN1, bX1⟩, bB1⟩, bS1⟩, hnone, hB1⟩ hK
    have cX0 := bX1.cell0
    have cX1 := bX1.cell1
    have fX0 := bX1.frozen 0
    have fX1 := bX1.frozen 1
    have cB := bB1.cell
    have fB := bB1.frozen
    gi_wp2
    rw [lineOf_none hnone] at h
    cases h
    have bX2 := ((bX1.set0 (.int .i64 0)).set1 (.int .i64 0)).other ⟨w.heap.size + 1 + 1, 0, none⟩ (.bool false) (by simp)
    have bB2 := ((bB1.other2 (a := ⟨w.heap.size + 1, 0, none⟩) (by simp) (.int .i64 0)).other2 (a := ⟨w.heap.size + 1, 1, none⟩) (by simp) (.int .i64 0)).set (.bool false)
    have hB2 := ((hB1.setCell (p := ⟨w.heap.size + 1, 0, none⟩) (by simp) (.int .i64 0)).setCell (p := ⟨w.heap.size + 1, 1, none⟩) (by simp) (.int .i64 0)).setCell (p := ⟨w.heap.size + 1 + 1, 0, none⟩) (by simp; omega) (.bool false)
    have hK2 : (((W.setCell ⟨w.heap.size + 1, 0, none⟩ (.int .i64 0)).setCell ⟨w.heap.size + 1, 1, none⟩ (.int .i64 0)).setCell ⟨w.heap.size + 1 + 1, 0, none⟩ (.bool false)).heap[D]? = some (.deferred (some [])) := by
      rw [Below.heap_setCell _ _ _ _ (by simp; omega), Below.heap_setCell _ _ _ _ (by simp; omega), Below.heap_setCell _ _ _ _ (by simp; omega)]; exact hK
    refine ⟨by simp, .inl ⟨_, _, rfl, run_takeDeferred hK2, ?_⟩⟩
    have bX3 := bX2.kept (grownBy_putObj' _ D (.deferred none)) (by simp; omega)
    have bB3 := bB2.kept (grownBy_putObj' _ D (.deferred none)) (by simp; omega)
    exact ⟨_, results_span rfl _ _ rfl rfl bX3 bB3, rfl, hB2.trans (belowK_b (w := w) (Nat.le_refl _) _ D _ _ (by omega) hK2 rfl rfl)⟩
  case stop =>
    rintro D c pre W hD hp ⟨⟨bX1, bB1⟩, ⟨rfl, hl⟩, hB1⟩ hK
    gi_wp2
    have hl2 := lineOf_prefix hp hl
    rw [h] at hl2
    rw [← hl2] at hl bX1
    cases hl
    refine ⟨by simp, .inl ⟨_, _, rfl, run_takeDeferred hK, ?_⟩⟩
    have bX3 := bX1.kept (grownBy_putObj' _ D (.deferred none)) (by simp; omega)
    have bB3 := bB1.kept (grownBy_putObj' _ D (.deferred none)) (by simp; omega)
    exact ⟨_, results_span rfl _ _ rfl rfl bX3 bB3, rfl, hB1.trans (belowK_b (w := w) (Nat.le_refl _) _ D _ _ (by omega) hK rfl rfl)⟩
end Go.Proofs.YtfjanedappcolaaDoor.Q
