-- Written by this repo's wip/xprint.py (over the kit's print.py) out of the translation. Not trusted: Lean checks it.
import Derived.Test.YtbjhmknahldhaaaDoorQ0
namespace Go.Proofs.YtbjhmknahldhaaaDoor.Q
open Go.RowKit Go.Proofs.YtbjhmknahldhaaaDoorW.PrintWords Go.Proofs.YtbjhmknahldhaaaDoorW.PrintLast Go.Proofs.YtbjhmknahldhaaaDoorW.PrintMore
attribute [local go_sem] max2_int min2_int max_two min_two max_three min_three max_four min_four   -- for this text's walks alone
set_option linter.unusedVariables false
set_option linter.unusedSimpArgs false

/-! ### utf8_DecodeRuneInString: function 45 (by hand) -/
def utf8_DecodeRuneInString.f (a0 : ByteArray) : Option (Int × Int) := some (((Lib.decodeGo a0).1 : Int), ((Lib.decodeGo a0).2 : Int))
theorem utf8_DecodeRuneInString.calls (a0 : ByteArray) (r1 r2 : Int) (w : World) (hG : GlobOk w) (h : utf8_DecodeRuneInString.f a0 = some (r1, r2)) :
  Calls Tryd.prog 45 #[.string a0] w fun e w' => e = .returned (.tuple #[.int .i32 r1, .int .i64 r2]) ∧ Below w.heap.size w w' := by
 unfold utf8_DecodeRuneInString.f at h
 simp only [Option.some.injEq, Prod.mk.injEq] at h
 obtain ⟨rfl, rfl⟩ := h
 exact Tryd.utf8_DecodeRuneInString a0 w hG
/-! ### utf_Next: function 42 -/
def utf_Next.j0 : Nat → ByteArray → Int → Bool → Option (Int × Int × Bool)
 | 0, _, _, _ => none
 | k + 1, x0, x1, x16 => if x16 = true then (some (0, 0, false)) else (if 0 ≤ x1 then (if x1 ≤ (x0.size : Int) then ((utf8_DecodeRuneInString.f (x0.extract (x1 : Int).toNat x0.size)).bind fun bt204 => (if bt204.1 = 65533 then (if bt204.2 = 1 then (some (0, 0, false)) else (some (bt204.1, bt204.2, true))) else (some (bt204.1, bt204.2, true)))) else (none)) else (none))
def utf_Next.f (k : Nat) (a0 : ByteArray) (a1 : Int) : Option (Int × Int × Bool) := if a1 < 0 then (utf_Next.j0 k a0 a1 true) else (utf_Next.j0 k a0 a1 (decide (a1 ≥ (a0.size : Int))))
theorem utf_Next.mono_l : ∀ k, (∀ y0 y1 y2, LeO (utf_Next.j0 k y0 y1 y2) (utf_Next.j0 (k + 1) y0 y1 y2))
 | 0 => fun _ _ _ r h => by simp [utf_Next.j0] at h
 | k + 1 => by
  have ih0 := utf_Next.mono_l k
  ·intro y0 y1 y2
   unfold utf_Next.j0
   repeat' first
   | (with_reducible exact ih0 _ _ _)
   | (with_reducible exact LeO.refl _)
   | (with_reducible exact LeO.none _)
   | (with_reducible refine LeO.ite ?_ ?_)
   | (with_reducible refine LeO.bind ?_ (fun _ => ?_))
   | exact ih0 _ _ _
   | exact LeO.none _
   | refine LeO.ite ?_ ?_
   | refine LeO.bind ?_ (fun _ => ?_)
theorem utf_Next.mono : ∀ a0 a1 k, LeO (utf_Next.f k a0 a1) (utf_Next.f (k + 1) a0 a1) := by
 intro a0 a1 k
 have ih0 := utf_Next.mono_l k
 unfold utf_Next.f
 repeat' first
   | (with_reducible exact ih0 _ _ _)
   | (with_reducible exact LeO.refl _)
   | (with_reducible exact LeO.none _)
   | (with_reducible refine LeO.ite ?_ ?_)
   | (with_reducible refine LeO.bind ?_ (fun _ => ?_))
   | exact ih0 _ _ _
   | exact LeO.none _
   | refine LeO.ite ?_ ?_
   | refine LeO.bind ?_ (fun _ => ?_)
set_option maxHeartbeats 8000000 in
set_option maxRecDepth 100000 in
theorem utf_Next.calls (k : Nat) (a0 : ByteArray) (a1 : Int) (r1 : Int) (r2 : Int) (r3 : Bool) (w : World) (hG : GlobOk w) (h : utf_Next.f k a0 a1 = some (r1, r2, r3)) :
  Calls Tryd.prog 42 #[.string a0, .int .i64 a1] w fun e w' => e = .returned (.tuple #[.int .i32 r1, .int .i64 r2, .bool r3]) ∧ Below w.heap.size w w' := by
 have HG := Aside0.mk hG; clear hG; have HB := Aside0.mk (Below.refl w.heap.size w)
 have H : (if a1 < 0 then (utf_Next.j0 k a0 a1 true) else (utf_Next.j0 k a0 a1 (decide (a1 ≥ (a0.size : Int))))) = some (r1, r2, r3) := h
 clear h; have HC3 := Aside0.mk H; clear H; go_enter Tryd.func42, Tryd.ntmps42
 go_upto_region 1 with (fail)
 go_cut [16] (fun v16 wc => ∃ (kq : Nat) (x16_2 : Bool), v16 = .bool x16_2 ∧ Aside0 (utf_Next.j0 kq a0 a1 x16_2 = some (r1, r2, r3)) ∧ Aside0 (kq ≤ k) ∧ Aside0 (Below w.heap.size w wc))
 case first =>
  have H := HC3.out
  clear HC3; by_cases c4 : a1 < 0
  ·rw [if_pos c4] at H; have c4b0 : decide (a1 < 0) = true := decide_eq_true c4; clear c4; (first | rw [c4b0] | rw [c4b1] | (simp only [i64_w, i32_w]; rw [c4b0]) | skip)
   have H' := Aside0.mk H; clear H; go_wp2
   go_meet
   case rel => exact ⟨_, (true), (by first | rfl | (simp; done) | (simp [*]; done) | (simp; exact xEmpty_ne _) | (simp [*]; exact xEmpty_ne _)), H', ⟨by first | omega | exact Nat.le_refl _⟩, ⟨bl HB⟩⟩
  ·rw [if_neg c4] at H; have c4b0 : decide (a1 < 0) = false := decide_eq_false c4; clear c4; (first | rw [c4b0] | rw [c4b1] | (simp only [i64_w, i32_w]; rw [c4b0]) | skip)
   have H' := Aside0.mk H; clear H; go_wp2
   go_meet
   case rel => exact ⟨_, (decide (a1 ≥ (a0.size : Int))), (by first | rfl | (simp; done) | (simp [*]; done) | (simp; exact xEmpty_ne _) | (simp [*]; exact xEmpty_ne _)), H', ⟨by first | omega | exact Nat.le_refl _⟩, ⟨bl HB⟩⟩
 case rest =>
  clear HC3; (try clear p2); (try clear c4); (try clear c4b0); obtain ⟨kq, x16_2, rfl, HA, HJ2, HB⟩ := hcut
  cases kq with
  | zero => exact absurd HA.out (by simp [utf_Next.j0])
  | succ kj2 =>
   have H := HA.out
   clear HA; simp only [utf_Next.j0] at H
   by_cases c5 : x16_2 = true
   ·subst c5; have H1 : (some (0, 0, false)) = some (r1, r2, r3) := by rw [if_pos rfl] at H; exact H
    clear H; have H := H1
    clear H1; simp only [Option.some.injEq, Prod.mk.injEq] at H
    obtain ⟨rfl, rfl, rfl⟩ := H
    go_wp2
    go_ret3
    exact ⟨by first | rfl | (simp [errW_none, errW_some] <;> rfl) | (simp [*, errW_none, errW_some] <;> rfl), bl HB⟩
   ·replace c5 := Bool.eq_false_iff.mpr c5
    subst c5; have H1 : (if 0 ≤ a1 then (if a1 ≤ (a0.size : Int) then ((utf8_DecodeRuneInString.f (a0.extract (a1 : Int).toNat a0.size)).bind fun bt204 => (if bt204.1 = 65533 then (if bt204.2 = 1 then (some (0, 0, false)) else (some (bt204.1, bt204.2, true))) else (some (bt204.1, bt204.2, true)))) else (none)) else (none)) = some (r1, r2, r3) := by rw [if_neg (show ¬ (false = true) by decide)] at H; exact H
    clear H; have H := H1
    clear H1; by_cases c6 : 0 ≤ a1
    ·rw [if_pos c6] at H; have c6b0 := eq_true c6
     have c6b1 : decide (0 ≤ a1) = true := decide_eq_true c6; clear c6; by_cases c7 : a1 ≤ (a0.size : Int)
     ·rw [if_pos c7] at H; have c7b0 := eq_true c7
      have c7b1 : decide (a1 ≤ (a0.size : Int)) = true := decide_eq_true c7; clear c7; replace H := Option.bind_eq_some_iff.mp H
      obtain ⟨⟨t204, t205⟩, A80, H⟩ := H
      replace H : (if t204 = 65533 then (if t205 = 1 then (some (0, 0, false)) else (some (t204, t205, true))) else (some (t204, t205, true))) = some (r1, r2, r3) := H
      have A8 := Aside0.mk A80; clear A80; by_cases c9 : t204 = 65533
      ·rw [if_pos c9] at H; have c9b0 : (t204 == 65533) = true := beq_iff_eq.mpr c9
       have c9b1 : (t204 != 65533) = false := bne_eq_false_iff_eq.mpr c9
       clear c9; by_cases c10 : t205 = 1
       ·rw [if_pos c10] at H; have c10b0 : (t205 == 1) = true := beq_iff_eq.mpr c10
        have c10b1 : (t205 != 1) = false := bne_eq_false_iff_eq.mpr c10
        clear c10; simp only [Option.some.injEq, Prod.mk.injEq] at H
        obtain ⟨rfl, rfl, rfl⟩ := H
        go_wp2_with (first | ((with_reducible refine gate_callee (f := 45) rfl ?_); refine goesL_ (some 21) rfl rfl Tryd.func45 (by kernel_rfl) rfl #[.string (a0.extract (a1 : Int).toNat a0.size)] rfl (by (try simp only [List.map_toArray, List.map_cons, List.map_nil]); first | done | rfl | (simp only [List.length_drop, List.length_take]; rfl)) ?_; (with_reducible refine (utf8_DecodeRuneInString.calls (a0.extract (a1 : Int).toNat a0.size) t204 t205 _ (by first | exact HG.out | exact GlobOk.below HG.out (bl HB)) A8.out).mono ?_); rintro e w11 ⟨rfl, hb⟩; refine ⟨_, rfl, ?_⟩; have n0_ := Aside0.mk (below_step (bl HB) hb); clear HB; have HB := n0_; clear n0_; (try clear hb); (try clear hb2); (try clear hk); (try clear hi)))
        go_ret3
        exact ⟨by first | rfl | (simp [errW_none, errW_some] <;> rfl) | (simp [*, errW_none, errW_some] <;> rfl), bl HB⟩
       ·rw [if_neg c10] at H; have c10b0 : (t205 == 1) = false := beq_eq_false_iff_ne.mpr c10; have c10b1 : (t205 != 1) = true := bne_iff_ne.mpr c10; simp only [Option.some.injEq, Prod.mk.injEq] at H
        obtain ⟨rfl, rfl, rfl⟩ := H
        go_wp2_with (first | ((with_reducible refine gate_callee (f := 45) rfl ?_); refine goesL_ (some 21) rfl rfl Tryd.func45 (by kernel_rfl) rfl #[.string (a0.extract (a1 : Int).toNat a0.size)] rfl (by (try simp only [List.map_toArray, List.map_cons, List.map_nil]); first | done | rfl | (simp only [List.length_drop, List.length_take]; rfl)) ?_; (with_reducible refine (utf8_DecodeRuneInString.calls (a0.extract (a1 : Int).toNat a0.size) t204 t205 _ (by first | exact HG.out | exact GlobOk.below HG.out (bl HB)) A8.out).mono ?_); rintro e w12 ⟨rfl, hb⟩; refine ⟨_, rfl, ?_⟩; have n0_ := Aside0.mk (below_step (bl HB) hb); clear HB; have HB := n0_; clear n0_; (try clear hb); (try clear hb2); (try clear hk); (try clear hi)))
        go_ret3
        exact ⟨by first | rfl | (simp [errW_none, errW_some] <;> rfl) | (simp [*, errW_none, errW_some] <;> rfl), bl HB⟩
      ·rw [if_neg c9] at H; have c9b0 : (t204 == 65533) = false := beq_eq_false_iff_ne.mpr c9; have c9b1 : (t204 != 65533) = true := bne_iff_ne.mpr c9; simp only [Option.some.injEq, Prod.mk.injEq] at H
       obtain ⟨rfl, rfl, rfl⟩ := H
       go_wp2_with (first | ((with_reducible refine gate_callee (f := 45) rfl ?_); refine goesL_ (some 21) rfl rfl Tryd.func45 (by kernel_rfl) rfl #[.string (a0.extract (a1 : Int).toNat a0.size)] rfl (by (try simp only [List.map_toArray, List.map_cons, List.map_nil]); first | done | rfl | (simp only [List.length_drop, List.length_take]; rfl)) ?_; (with_reducible refine (utf8_DecodeRuneInString.calls (a0.extract (a1 : Int).toNat a0.size) t204 t205 _ (by first | exact HG.out | exact GlobOk.below HG.out (bl HB)) A8.out).mono ?_); rintro e w13 ⟨rfl, hb⟩; refine ⟨_, rfl, ?_⟩; have n0_ := Aside0.mk (below_step (bl HB) hb); clear HB; have HB := n0_; clear n0_; (try clear hb); (try clear hb2); (try clear hk); (try clear hi)))
       go_ret3
       exact ⟨by first | rfl | (simp [errW_none, errW_some] <;> rfl) | (simp [*, errW_none, errW_some] <;> rfl), bl HB⟩
     ·rw [if_neg c7] at H; exact absurd H (by simp)
    ·rw [if_neg c6] at H; exact absurd H (by simp)

/-! ### utf_Begin: function 37 -/
mutual
def utf_Begin.l0 : Nat → ByteArray → Int → Int → Option (Int)
 | 0, _, _, _ => none
 | k + 1, x0, x1, x5 => if x5 < 4 then (utf_Begin.j1 k x0 x1 x5 (decide (x5 ≤ x1))) else (utf_Begin.j1 k x0 x1 x5 false)
def utf_Begin.j1 : Nat → ByteArray → Int → Int → Bool → Option (Int)
 | 0, _, _, _, _ => none
 | k + 1, x0, x1, x5, x23 => if x23 = true then ((utf_Next.f k x0 (wrap64 (x1 - x5))).bind fun bt206 => (if bt206.2.2 = true then (if bt206.2.1 > x5 then (some (wrap64 (x1 - x5))) else (utf_Begin.l0 k x0 x1 (wrap64 (x5 + 1)))) else (utf_Begin.l0 k x0 x1 (wrap64 (x5 + 1))))) else (some x1)
end
def utf_Begin.f (k : Nat) (a0 : ByteArray) (a1 : Int) : Option (Int) := if a1 < 0 then (some 0) else (if a1 ≥ (a0.size : Int) then (some (a0.size : Int)) else (utf_Begin.l0 k a0 a1 1))
theorem utf_Begin.mono_l : ∀ k, (∀ y0 y1 y2, LeO (utf_Begin.l0 k y0 y1 y2) (utf_Begin.l0 (k + 1) y0 y1 y2)) ∧ (∀ y0 y1 y2 y3, LeO (utf_Begin.j1 k y0 y1 y2 y3) (utf_Begin.j1 (k + 1) y0 y1 y2 y3))
 | 0 => ⟨fun _ _ _ r h => by simp [utf_Begin.l0] at h, fun _ _ _ _ r h => by simp [utf_Begin.j1] at h⟩
 | k + 1 => by
  obtain ⟨ih0, ih1⟩ := utf_Begin.mono_l k
  refine ⟨?_, ?_⟩
  ·intro y0 y1 y2
   unfold utf_Begin.l0
   repeat' first
   | (with_reducible exact ih0 _ _ _)
   | (with_reducible exact ih1 _ _ _ _)
   | (with_reducible exact utf_Next.mono _ _ _)
   | (with_reducible exact LeO.refl _)
   | (with_reducible exact LeO.none _)
   | (with_reducible refine LeO.ite ?_ ?_)
   | (with_reducible refine LeO.bind ?_ (fun _ => ?_))
   | exact ih0 _ _ _
   | exact ih1 _ _ _ _
   | exact utf_Next.mono _ _ _
   | exact LeO.none _
   | refine LeO.ite ?_ ?_
   | refine LeO.bind ?_ (fun _ => ?_)
  ·intro y0 y1 y2 y3
   unfold utf_Begin.j1
   repeat' first
   | (with_reducible exact ih0 _ _ _)
   | (with_reducible exact ih1 _ _ _ _)
   | (with_reducible exact utf_Next.mono _ _ _)
   | (with_reducible exact LeO.refl _)
   | (with_reducible exact LeO.none _)
   | (with_reducible refine LeO.ite ?_ ?_)
   | (with_reducible refine LeO.bind ?_ (fun _ => ?_))
   | exact ih0 _ _ _
   | exact ih1 _ _ _ _
   | exact utf_Next.mono _ _ _
   | exact LeO.none _
   | refine LeO.ite ?_ ?_
   | refine LeO.bind ?_ (fun _ => ?_)
theorem utf_Begin.mono : ∀ a0 a1 k, LeO (utf_Begin.f k a0 a1) (utf_Begin.f (k + 1) a0 a1) := by
 intro a0 a1 k
 obtain ⟨ih0, ih1⟩ := utf_Begin.mono_l k
 unfold utf_Begin.f
 repeat' first
   | (with_reducible exact ih0 _ _ _)
   | (with_reducible exact ih1 _ _ _ _)
   | (with_reducible exact utf_Next.mono _ _ _)
   | (with_reducible exact LeO.refl _)
   | (with_reducible exact LeO.none _)
   | (with_reducible refine LeO.ite ?_ ?_)
   | (with_reducible refine LeO.bind ?_ (fun _ => ?_))
   | exact ih0 _ _ _
   | exact ih1 _ _ _ _
   | exact utf_Next.mono _ _ _
   | exact LeO.none _
   | refine LeO.ite ?_ ?_
   | refine LeO.bind ?_ (fun _ => ?_)
set_option maxHeartbeats 8000000 in
set_option maxRecDepth 100000 in
theorem utf_Begin.calls (k : Nat) (a0 : ByteArray) (a1 : Int) (r : Int) (w : World) (hG : GlobOk w) (h : utf_Begin.f k a0 a1 = some r) :
  Calls Tryd.prog 37 #[.string a0, .int .i64 a1] w fun e w' => e = .returned (.int .i64 r) ∧ Below w.heap.size w w' := by
 have HG := Aside0.mk hG; clear hG; have HB := Aside0.mk (Below.refl w.heap.size w)
 have H : (if a1 < 0 then (some 0) else (if a1 ≥ (a0.size : Int) then (some (a0.size : Int)) else (utf_Begin.l0 k a0 a1 1))) = some r := h
 clear h; by_cases c3 : a1 < 0
 ·rw [if_pos c3] at H; have c3b0 : decide (a1 < 0) = true := decide_eq_true c3; clear c3; obtain rfl := Option.some.inj H; go_enter Tryd.func37, Tryd.ntmps37
  go_wp2
  go_ret
  exact ⟨by first | rfl | (simp [errW_none, errW_some] <;> rfl) | (simp [*, errW_none, errW_some] <;> rfl), bl HB⟩
 ·rw [if_neg c3] at H; have c3b0 : decide (a1 < 0) = false := decide_eq_false c3; clear c3; by_cases c4 : a1 ≥ (a0.size : Int)
  ·rw [if_pos c4] at H; have c4b0 : decide ((a0.size : Int) ≤ a1) = true := decide_eq_true c4; clear c4; obtain rfl := Option.some.inj H; go_enter Tryd.func37, Tryd.ntmps37
   go_wp2
   go_ret
   exact ⟨by first | rfl | (simp [errW_none, errW_some] <;> rfl) | (simp [*, errW_none, errW_some] <;> rfl), bl HB⟩
  ·rw [if_neg c4] at H; have c4b0 : decide ((a0.size : Int) ≤ a1) = false := decide_eq_false c4; clear c4; have H' := Aside0.mk H; clear H; go_enter Tryd.func37, Tryd.ntmps37
   go_wp2
   go_loopg [5] k (fun kq v5 w' => ∃ (x5_1 : Int), v5 = .int .i64 x5_1 ∧ Aside0 (utf_Begin.l0 kq a0 a1 x5_1 = some r) ∧ Aside0 (kq ≤ k) ∧ Aside0 (Below w.heap.size w w'))
   case atStart => exact ⟨(1), (by first | rfl | (simp; done) | (simp [*]; done) | (simp; exact xEmpty_ne _) | (simp [*]; exact xEmpty_ne _)), H', ⟨Nat.le_refl _⟩, ⟨bl HB⟩⟩
   case round =>
    clear H'; (try clear p2); (try clear c3); (try clear c3b0); (try clear c4); (try clear c4b0); (try clear HB); obtain ⟨x5_1, rfl, HA, HK1, HB⟩ := hrel
    cases gk with
    | zero => exact absurd HA.out (by simp [utf_Begin.l0])
    | succ k1 =>
     have H := HA.out
     clear HA; simp only [utf_Begin.l0] at H
     have HC5 := Aside0.mk H; clear H; go_upto_region 6 with (fail)
     go_cut [23] (fun v23 wc => ∃ (kq : Nat) (x23_4 : Bool), v23 = .bool x23_4 ∧ Aside0 (utf_Begin.j1 kq a0 a1 x5_1 x23_4 = some r) ∧ Aside0 (kq ≤ k1) ∧ Aside0 (Below w.heap.size w wc))
     case first =>
      have H := HC5.out
      clear HC5; by_cases c6 : x5_1 < 4
      ·rw [if_pos c6] at H; have c6b0 : decide (x5_1 < 4) = true := decide_eq_true c6; clear c6; (first | rw [c6b0] | rw [c6b1] | (simp only [i64_w, i32_w]; rw [c6b0]) | skip)
       have H' := Aside0.mk H; clear H; go_wp2
       go_meet
       case rel => exact ⟨_, (decide (x5_1 ≤ a1)), (by first | rfl | (simp; done) | (simp [*]; done) | (simp; exact xEmpty_ne _) | (simp [*]; exact xEmpty_ne _)), H', ⟨by have := HK1.out; first | omega | exact Nat.le_refl _⟩, ⟨bl HB⟩⟩
      ·rw [if_neg c6] at H; have c6b0 : decide (x5_1 < 4) = false := decide_eq_false c6; clear c6; (first | rw [c6b0] | rw [c6b1] | (simp only [i64_w, i32_w]; rw [c6b0]) | skip)
       have H' := Aside0.mk H; clear H; go_wp2
       go_meet
       case rel => exact ⟨_, (false), (by first | rfl | (simp; done) | (simp [*]; done) | (simp; exact xEmpty_ne _) | (simp [*]; exact xEmpty_ne _)), H', ⟨by have := HK1.out; first | omega | exact Nat.le_refl _⟩, ⟨bl HB⟩⟩
     case rest =>
      clear HC5; (try clear p2); (try clear c3); (try clear c3b0); (try clear c4); (try clear c4b0); (try clear c6); (try clear c6b0); (try clear p2); obtain ⟨kq, x23_4, rfl, HA, HJ4, HB⟩ := hcut
      cases kq with
      | zero => exact absurd HA.out (by simp [utf_Begin.j1])
      | succ kj4 =>
       have H := HA.out
       clear HA; simp only [utf_Begin.j1] at H
       by_cases c7 : x23_4 = true
       ·subst c7; have H1 : ((utf_Next.f kj4 a0 (wrap64 (a1 - x5_1))).bind fun bt206 => (if bt206.2.2 = true then (if bt206.2.1 > x5_1 then (some (wrap64 (a1 - x5_1))) else (utf_Begin.l0 kj4 a0 a1 (wrap64 (x5_1 + 1)))) else (utf_Begin.l0 kj4 a0 a1 (wrap64 (x5_1 + 1))))) = some r := by rw [if_pos rfl] at H; exact H
        clear H; have H := H1
        clear H1; replace H := Option.bind_eq_some_iff.mp H
        obtain ⟨⟨t206, t207, t208⟩, A80, H⟩ := H
        replace H : (if t208 = true then (if t207 > x5_1 then (some (wrap64 (a1 - x5_1))) else (utf_Begin.l0 kj4 a0 a1 (wrap64 (x5_1 + 1)))) else (utf_Begin.l0 kj4 a0 a1 (wrap64 (x5_1 + 1)))) = some r := H
        have A8 := Aside0.mk A80; clear A80; by_cases c9 : t208 = true
        ·subst c9; have H1 : (if t207 > x5_1 then (some (wrap64 (a1 - x5_1))) else (utf_Begin.l0 kj4 a0 a1 (wrap64 (x5_1 + 1)))) = some r := by rw [if_pos rfl] at H; exact H
         clear H; have H := H1
         clear H1; by_cases c10 : t207 > x5_1
         ·rw [if_pos c10] at H; have c10b0 : decide (x5_1 < t207) = true := decide_eq_true c10; clear c10; obtain rfl := Option.some.inj H; go_wp2_with (first | ((with_reducible refine gate_callee (f := 42) rfl ?_); refine goesL_ (some 31) rfl rfl Tryd.func42 (by kernel_rfl) rfl #[.string a0, .int .i64 (wrap64 (a1 - x5_1))] rfl (by (try simp only [List.map_toArray, List.map_cons, List.map_nil]); first | done | rfl | (simp only [List.length_drop, List.length_take]; rfl)) ?_; (with_reducible refine (utf_Next.calls kj4 a0 (wrap64 (a1 - x5_1)) t206 t207 true _ (by first | exact HG.out | exact GlobOk.below HG.out (bl HB)) A8.out).mono ?_); rintro e w11 ⟨rfl, hb⟩; refine ⟨_, rfl, ?_⟩; have n0_ := Aside0.mk (below_step (bl HB) hb); clear HB; have HB := n0_; clear n0_; (try clear hb); (try clear hb2); (try clear hk); (try clear hi)))
          go_ret
          exact ⟨by first | rfl | (simp [errW_none, errW_some] <;> rfl) | (simp [*, errW_none, errW_some] <;> rfl), bl HB⟩
         ·rw [if_neg c10] at H; have c10b0 : decide (x5_1 < t207) = false := decide_eq_false c10; clear c10; have H' := Aside0.mk H; clear H; go_wp2_with (first | ((with_reducible refine gate_callee (f := 42) rfl ?_); refine goesL_ (some 31) rfl rfl Tryd.func42 (by kernel_rfl) rfl #[.string a0, .int .i64 (wrap64 (a1 - x5_1))] rfl (by (try simp only [List.map_toArray, List.map_cons, List.map_nil]); first | done | rfl | (simp only [List.length_drop, List.length_take]; rfl)) ?_; (with_reducible refine (utf_Next.calls kj4 a0 (wrap64 (a1 - x5_1)) t206 t207 true _ (by first | exact HG.out | exact GlobOk.below HG.out (bl HB)) A8.out).mono ?_); rintro e w12 ⟨rfl, hb⟩; refine ⟨_, rfl, ?_⟩; have n0_ := Aside0.mk (below_step (bl HB) hb); clear HB; have HB := n0_; clear n0_; (try clear hb); (try clear hb2); (try clear hk); (try clear hi)))
          go_roundg kj4
          case measure => have := HK1.out; have := HJ4.out; omega
          case rel => exact ⟨(wrap64 (x5_1 + 1)), (by first | rfl | (simp; done) | (simp [*]; done) | (simp; exact xEmpty_ne _) | (simp [*]; exact xEmpty_ne _)), H', ⟨by have := HK1.out; have := HJ4.out; omega⟩, ⟨bl HB⟩⟩
        ·replace c9 := Bool.eq_false_iff.mpr c9
         subst c9; have H1 : (utf_Begin.l0 kj4 a0 a1 (wrap64 (x5_1 + 1))) = some r := by rw [if_neg (show ¬ (false = true) by decide)] at H; exact H
         clear H; have H := H1
         clear H1; have H' := Aside0.mk H; clear H; go_wp2_with (first | ((with_reducible refine gate_callee (f := 42) rfl ?_); refine goesL_ (some 31) rfl rfl Tryd.func42 (by kernel_rfl) rfl #[.string a0, .int .i64 (wrap64 (a1 - x5_1))] rfl (by (try simp only [List.map_toArray, List.map_cons, List.map_nil]); first | done | rfl | (simp only [List.length_drop, List.length_take]; rfl)) ?_; (with_reducible refine (utf_Next.calls kj4 a0 (wrap64 (a1 - x5_1)) t206 t207 false _ (by first | exact HG.out | exact GlobOk.below HG.out (bl HB)) A8.out).mono ?_); rintro e w13 ⟨rfl, hb⟩; refine ⟨_, rfl, ?_⟩; have n0_ := Aside0.mk (below_step (bl HB) hb); clear HB; have HB := n0_; clear n0_; (try clear hb); (try clear hb2); (try clear hk); (try clear hi)))
         go_roundg kj4
         case measure => have := HK1.out; have := HJ4.out; omega
         case rel => exact ⟨(wrap64 (x5_1 + 1)), (by first | rfl | (simp; done) | (simp [*]; done) | (simp; exact xEmpty_ne _) | (simp [*]; exact xEmpty_ne _)), H', ⟨by have := HK1.out; have := HJ4.out; omega⟩, ⟨bl HB⟩⟩
       ·replace c7 := Bool.eq_false_iff.mpr c7
        subst c7; have H1 : (some a1) = some r := by rw [if_neg (show ¬ (false = true) by decide)] at H; exact H
        clear H; have H := H1
        clear H1; obtain rfl := Option.some.inj H; go_wp2
        go_ret
        exact ⟨by first | rfl | (simp [errW_none, errW_some] <;> rfl) | (simp [*, errW_none, errW_some] <;> rfl), bl HB⟩

/-! ### five_right: function 24 (by hand) -/
/-- Are marks right for a string, from a place on? -/
def rightF (k : Nat) (s : ByteArray) : Int → List S38 → Option Bool
 | _, [] => some true
 | a, m :: r => if m.f0.f0 < a then some false else if m.f0.f1 < m.f0.f0 then some false else if (s.size : Int) < m.f0.f1 then some false else if m.f1 < 0 then some false else if m.f2 < 0 then some false else
   (utf_Begin.f k s m.f0.f0).bind fun x => if x = m.f0.f0 then (utf_Begin.f k s m.f0.f1).bind fun y => if y = m.f0.f1 then rightF k s m.f0.f1 r else some false else some false
theorem rightF_mono (k : Nat) (s : ByteArray) : ∀ (l : List S38) (a : Int), LeO (rightF k s a l) (rightF (k + 1) s a l)
 | [], _ => LeO.refl _
 | m :: r, a => by
  unfold rightF
  repeat' first
   | exact rightF_mono k s r _
   | exact LeO.refl _
   | refine LeO.ite ?_ ?_
   | refine LeO.bind (utf_Begin.mono _ _ _) (fun _ => ?_)
def five_right.f (k : Nat) (a0 : ByteArray) (l1 : List S38) : Option Bool := if l1.length ≤ 4398046511104 then rightF k a0 0 l1 else none
theorem five_right.mono : ∀ a0 l1 k, LeO (five_right.f k a0 l1) (five_right.f (k + 1) a0 l1) := fun a0 l1 k => LeO.ite (rightF_mono k a0 l1 0) (LeO.refl _)
theorem rightF_drop {k : Nat} {s : ByteArray} {a : Int} {l : List S38} {i : Nat} {r : Bool} (hi : i < l.length) (h : rightF k s a (l.drop i) = some r) :
  rightF k s a (rd_T38 l (i : Int) :: l.drop (i + 1)) = some r := by
 rw [← h, List.drop_eq_getElem_cons hi]
 unfold rd_T38
 rw [List.getD_eq_getElem?_getD, show ((i : Int)).toNat = i from rfl, List.getElem?_eq_getElem hi]
 rfl
def rightTs : Bool × List (List Nat × List Nat) := (true, [([], []), ([0], [0]), ([1], [1]), ([], []), ([2, 3], [2, 3]), ([4], [4]), ([5], [5]), ([6, 5], [5, 6]), ([7, 5], [5, 7]), ([5], [5]), ([9, 5], [5, 9]), ([10, 5], [5, 10]), ([8, 11, 5], [5, 8, 11]), ([5, 12], [5, 12]), ([13, 5], [13]), ([14], [14]), ([15, 14], [14, 15]), ([16, 14], [14, 16]), ([14], [14]), ([18, 14], [14, 18]), ([17, 19, 14], [14, 17, 19]), ([14, 20], [14, 20]), ([21, 14], [21]), ([22], [22]), ([23, 22], [22, 23]), ([24, 22], [22, 24]), ([22, 25], [22, 25]), ([26, 22], [26]), ([27], [27]), ([28, 27], [27, 28]), ([29, 27], [27, 29]), ([27, 30], [27, 30]), ([31, 27], [31]), ([32], [32]), ([32], [32]), ([34, 32], [32, 34]), ([35, 32], [32, 35]), ([33, 36, 32, 32], [32, 33, 36]), ([32], [32]), ([38, 32], [32, 38]), ([39, 32], [32, 39]), ([37, 40, 32], [32, 37, 40]), ([32, 41], [32, 41]), ([42, 37], [42]), ([43], [43]), ([43], [43]), ([45, 43], [43, 45]), ([46, 43], [43, 46]), ([44, 47, 43, 43], [43, 44, 47]), ([43], [43]), ([49, 43], [43, 49]), ([50, 43], [43, 50]), ([48, 51, 43], [43, 48, 51]), ([43, 52], [43, 52])])
def rightBs : List Nat := [0, 1, 3, 0, 15, 31, 63, 127, 255, 63, 575, 1599, 4095, 8191, 16383, 32767, 65535, 131071, 32767, 294911, 1048575, 2097151, 4194303, 8388607, 16777215, 33554431, 67108863, 134217727, 268435455, 536870911, 1073741823, 2147483647, 4294967295, 8589934591, 8589934591, 25769803775, 60129542143, 137438953471, 8589934591, 283467841535, 833223655423, 2199023255551, 4398046511103, 8796093022207, 17592186044415, 17592186044415, 52776558133247, 123145302310911, 281474976710655, 17592186044415, 580542139465727, 1706442046308351, 4503599627370495, 9007199254740991]
theorem rightT : rtab .any (opsOf Tryd.f24 5) = rightTs := by kernel_rfl
theorem rightB : waitsOk rightTs.2 rightBs = true := by kernel_rfl
set_option maxHeartbeats 4000000 in
set_option maxRecDepth 100000 in
theorem five_right.calls (k : Nat) (a0 : ByteArray) (A1 : Option Addr) (c1 : Nat) (l1 : List S38) (r : Bool) (w : World) (hr1 : Kd.C k38 w A1 l1.length l1) (hc1 : l1.length ≤ c1) (hG : GlobOk w) (h : five_right.f k a0 l1 = some r) :
  Calls Tryd.prog 24 #[.string a0, .slice A1 l1.length c1] w fun e w' => e = .returned (.bool r) ∧ Below w.heap.size w w' := by
 unfold five_right.f at h
 by_cases hlen : l1.length ≤ 4398046511104
 case neg => rw [if_neg hlen] at h; cases h
 rw [if_pos hlen] at h
 have HR := Aside0.mk hr1; have HG := Aside0.mk hG; have H0 : Aside0 (rightF k a0 0 (l1.drop 0) = some r) := ⟨by rw [List.drop_zero]; exact h⟩
 clear h hG hr1 hc1; go_enter Tryd.func24, Tryd.ntmps24
 go_wp2
 go_loopw [5, 10] (fun v5 v10 w' => ∃ (a : Int) (i : Nat), v5 = .int .i64 a ∧ v10 = .int .i64 i ∧ i ≤ l1.length ∧ Aside0 (rightF k a0 a (l1.drop i) = some r) ∧ Aside0 (Below w.heap.size w w')) (fun _ v10 _ => l1.length - (intOf v10).toNat)
 case atStart => exact ⟨0, 0, rfl, rfl, Nat.zero_le _, H0, ⟨Below.refl _ _⟩⟩
 case round =>
  clear H0; obtain ⟨a, i, rfl, rfl, hi, HA, HB⟩ := hrel
  by_cases hlt : i < l1.length
  ·have h2 := rightF_drop hlt HA.out
   obtain ⟨ad, e, hx0, hx1, hx2, hx3⟩ := at_T38 HR.out (i : Int) (by omega) (by omega)
   cases e
   replace hx0 := (HB.out.cell (World.block_lt_of_cell? w _ hx0)).trans hx0; replace hx1 := (HB.out.cell (World.block_lt_of_cell? w _ hx1)).trans hx1; replace hx2 := (HB.out.cell (World.block_lt_of_cell? w _ hx2)).trans hx2; replace hx3 := (HB.out.cell (World.block_lt_of_cell? w _ hx3)).trans hx3; obtain ⟨m, hm⟩ : ∃ m, rd_T38 l1 (i : Int) = m := ⟨_, rfl⟩
   rw [hm] at h2 hx0 hx1 hx2 hx3
   clear hm; simp only [Int.toNat_natCast] at hx0 hx1 hx2 hx3
   unfold rightF at h2
   have HC := Aside0.mk HR.out; clear HR; have HD : Aside0 (Below w.heap.size w (wr.alloc (.cells #[.int .i64 m.f0.f0, .int .i64 m.f0.f1, .int .i64 m.f1, .int .i64 m.f2] 38))) := ⟨HB.out.alloc HB.out.size _⟩
   clear HA; by_cases q1 : m.f0.f0 < a
   ·rw [if_pos q1] at h2
    obtain rfl := Option.some.inj h2
    have b1 : decide (m.f0.f0 < a) = true := decide_eq_true q1
    clear h2 q1; go_wp2
    go_quiet (fail)
    go_wp2
    go_ret
    exact ⟨rfl, pw_below_drewN HD.out _⟩
   rw [if_neg q1] at h2
   have b1 : decide (m.f0.f0 < a) = false := decide_eq_false q1
   clear q1; by_cases q2 : m.f0.f1 < m.f0.f0
   ·rw [if_pos q2] at h2
    obtain rfl := Option.some.inj h2
    have b2 : decide (m.f0.f1 < m.f0.f0) = true := decide_eq_true q2
    clear h2 q2; go_wp2
    go_quiet (fail)
    go_wp2
    go_ret
    exact ⟨rfl, pw_below_drewN HD.out _⟩
   rw [if_neg q2] at h2
   have b2 : decide (m.f0.f1 < m.f0.f0) = false := decide_eq_false q2
   clear q2; by_cases q3 : (a0.size : Int) < m.f0.f1
   ·rw [if_pos q3] at h2
    obtain rfl := Option.some.inj h2
    have b3 : decide ((a0.size : Int) < m.f0.f1) = true := decide_eq_true q3
    clear h2 q3; go_wp2
    go_quiet (fail)
    go_wp2
    go_ret
    exact ⟨rfl, pw_below_drewN HD.out _⟩
   rw [if_neg q3] at h2
   have b3 : decide ((a0.size : Int) < m.f0.f1) = false := decide_eq_false q3
   clear q3; by_cases q4 : m.f1 < 0
   ·rw [if_pos q4] at h2
    obtain rfl := Option.some.inj h2
    have b4 : decide (m.f1 < 0) = true := decide_eq_true q4
    clear h2 q4; go_wp2
    go_quiet (fail)
    go_wp2
    go_ret
    exact ⟨rfl, pw_below_drewN HD.out _⟩
   rw [if_neg q4] at h2
   have b4 : decide (m.f1 < 0) = false := decide_eq_false q4
   clear q4; by_cases q5 : m.f2 < 0
   ·rw [if_pos q5] at h2
    obtain rfl := Option.some.inj h2
    have b5 : decide (m.f2 < 0) = true := decide_eq_true q5
    clear h2 q5; go_wp2
    go_quiet (fail)
    go_wp2
    go_ret
    exact ⟨rfl, pw_below_drewN HD.out _⟩
   rw [if_neg q5] at h2
   have b5 : decide (m.f2 < 0) = false := decide_eq_false q5
   clear q5; obtain ⟨x, hx, h2⟩ := Option.bind_eq_some_iff.1 h2
   by_cases q6 : x = m.f0.f0
   ·rw [if_pos q6] at h2
    obtain ⟨y, hy, h2⟩ := Option.bind_eq_some_iff.1 h2
    have b6 : (x != m.f0.f0) = false := by rw [q6]; exact bne_self_eq_false _
    have HX := Aside0.mk hx; have HY := Aside0.mk hy; clear q6 hx hy; by_cases q7 : y = m.f0.f1
    ·rw [if_pos q7] at h2
     have b7 : (y != m.f0.f1) = false := by rw [q7]; exact bne_self_eq_false _
     have H2 := Aside0.mk h2; clear h2 q7; go_wp2
     go_region_held3 (fun w' => w'.cell? ⟨wr.heap.size, 0, none⟩ = some (.int .i64 m.f0.f0) ∧ w'.cell? ⟨wr.heap.size, 1, none⟩ = some (.int .i64 m.f0.f1) ∧ w'.cell? ⟨wr.heap.size, 2, none⟩ = some (.int .i64 m.f1) ∧ w'.cell? ⟨wr.heap.size, 3, none⟩ = some (.int .i64 m.f2)) (go_keep)
      (first
       | (go_at_call_of 37 (Value.int IntKind.i64 m.f0.f0); refine (utf_Begin.calls k a0 m.f0.f0 x _ (by exact GlobOk.below HG.out (by repeat (first | (with_reducible first | exact HD.out | apply below_alloc | apply pw_below_drewN | apply below_drew1) | exact HD.out))) HX.out).mono ?_; rintro e w2 ⟨rfl, hb2⟩; have ew20 : w2.cell? ⟨wr.heap.size, 0, none⟩ = some (.int .i64 m.f0.f0) := (hb2.cell (p := ⟨wr.heap.size, 0, none⟩) (by first | (simp; done) | (have := hb2.size; simp at this ⊢; omega))).trans (by first | assumption | (simp; done) | (simp [*]; done)); have ew21 : w2.cell? ⟨wr.heap.size, 1, none⟩ = some (.int .i64 m.f0.f1) := (hb2.cell (p := ⟨wr.heap.size, 1, none⟩) (by first | (simp; done) | (have := hb2.size; simp at this ⊢; omega))).trans (by first | assumption | (simp; done) | (simp [*]; done)); have ew22 : w2.cell? ⟨wr.heap.size, 2, none⟩ = some (.int .i64 m.f1) := (hb2.cell (p := ⟨wr.heap.size, 2, none⟩) (by first | (simp; done) | (have := hb2.size; simp at this ⊢; omega))).trans (by first | assumption | (simp; done) | (simp [*]; done)); have ew23 : w2.cell? ⟨wr.heap.size, 3, none⟩ = some (.int .i64 m.f2) := (hb2.cell (p := ⟨wr.heap.size, 3, none⟩) (by first | (simp; done) | (have := hb2.size; simp at this ⊢; omega))).trans (by first | assumption | (simp; done) | (simp [*]; done)))
       | (go_at_call_of 37 (Value.int IntKind.i64 m.f0.f1); refine (utf_Begin.calls k a0 m.f0.f1 y _ (by exact GlobOk.below HG.out (by repeat (first | (with_reducible first | refine below_step ?_ hb2 | exact HD.out | apply below_alloc | apply pw_below_drewN | apply below_drew1) | exact HD.out))) HY.out).mono ?_; rintro e w3 ⟨rfl, hb3⟩; have ew30 : w3.cell? ⟨wr.heap.size, 0, none⟩ = some (.int .i64 m.f0.f0) := (hb3.cell (p := ⟨wr.heap.size, 0, none⟩) (by first | (simp; done) | (have := hb2.size; simp at this ⊢; omega))).trans (by first | assumption | (simp; done) | (simp [*]; done)); have ew31 : w3.cell? ⟨wr.heap.size, 1, none⟩ = some (.int .i64 m.f0.f1) := (hb3.cell (p := ⟨wr.heap.size, 1, none⟩) (by first | (simp; done) | (have := hb2.size; simp at this ⊢; omega))).trans (by first | assumption | (simp; done) | (simp [*]; done)); have ew32 : w3.cell? ⟨wr.heap.size, 2, none⟩ = some (.int .i64 m.f1) := (hb3.cell (p := ⟨wr.heap.size, 2, none⟩) (by first | (simp; done) | (have := hb2.size; simp at this ⊢; omega))).trans (by first | assumption | (simp; done) | (simp [*]; done)); have ew33 : w3.cell? ⟨wr.heap.size, 3, none⟩ = some (.int .i64 m.f2) := (hb3.cell (p := ⟨wr.heap.size, 3, none⟩) (by first | (simp; done) | (have := hb2.size; simp at this ⊢; omega))).trans (by first | assumption | (simp; done) | (simp [*]; done))))
     go_wp2
     go_roundw
     case rel => exact ⟨m.f0.f1, i + 1, rfl, by go_num, by omega, H2, ⟨by repeat (first | (with_reducible first | exact HD.out | apply pw_below_drewN | apply below_drew1 | refine below_step ?_ hb3 | refine below_step ?_ hb2) | exact HD.out)⟩⟩
     case measure => simp [intOf]; omega
    ·rw [if_neg q7] at h2
     obtain rfl := Option.some.inj h2
     have b7 : (y != m.f0.f1) = true := bne_iff_ne.2 q7
     clear h2 q7; go_wp2
     go_region_held3 (fun w' => w'.cell? ⟨wr.heap.size, 0, none⟩ = some (.int .i64 m.f0.f0) ∧ w'.cell? ⟨wr.heap.size, 1, none⟩ = some (.int .i64 m.f0.f1) ∧ w'.cell? ⟨wr.heap.size, 2, none⟩ = some (.int .i64 m.f1) ∧ w'.cell? ⟨wr.heap.size, 3, none⟩ = some (.int .i64 m.f2)) (go_keep)
      (first
       | (go_at_call_of 37 (Value.int IntKind.i64 m.f0.f0); refine (utf_Begin.calls k a0 m.f0.f0 x _ (by exact GlobOk.below HG.out (by repeat (first | (with_reducible first | exact HD.out | apply below_alloc | apply pw_below_drewN | apply below_drew1) | exact HD.out))) HX.out).mono ?_; rintro e w2 ⟨rfl, hb2⟩; have ew20 : w2.cell? ⟨wr.heap.size, 0, none⟩ = some (.int .i64 m.f0.f0) := (hb2.cell (p := ⟨wr.heap.size, 0, none⟩) (by first | (simp; done) | (have := hb2.size; simp at this ⊢; omega))).trans (by first | assumption | (simp; done) | (simp [*]; done)); have ew21 : w2.cell? ⟨wr.heap.size, 1, none⟩ = some (.int .i64 m.f0.f1) := (hb2.cell (p := ⟨wr.heap.size, 1, none⟩) (by first | (simp; done) | (have := hb2.size; simp at this ⊢; omega))).trans (by first | assumption | (simp; done) | (simp [*]; done)); have ew22 : w2.cell? ⟨wr.heap.size, 2, none⟩ = some (.int .i64 m.f1) := (hb2.cell (p := ⟨wr.heap.size, 2, none⟩) (by first | (simp; done) | (have := hb2.size; simp at this ⊢; omega))).trans (by first | assumption | (simp; done) | (simp [*]; done)); have ew23 : w2.cell? ⟨wr.heap.size, 3, none⟩ = some (.int .i64 m.f2) := (hb2.cell (p := ⟨wr.heap.size, 3, none⟩) (by first | (simp; done) | (have := hb2.size; simp at this ⊢; omega))).trans (by first | assumption | (simp; done) | (simp [*]; done)))
       | (go_at_call_of 37 (Value.int IntKind.i64 m.f0.f1); refine (utf_Begin.calls k a0 m.f0.f1 y _ (by exact GlobOk.below HG.out (by repeat (first | (with_reducible first | refine below_step ?_ hb2 | exact HD.out | apply below_alloc | apply pw_below_drewN | apply below_drew1) | exact HD.out))) HY.out).mono ?_; rintro e w3 ⟨rfl, hb3⟩; have ew30 : w3.cell? ⟨wr.heap.size, 0, none⟩ = some (.int .i64 m.f0.f0) := (hb3.cell (p := ⟨wr.heap.size, 0, none⟩) (by first | (simp; done) | (have := hb2.size; simp at this ⊢; omega))).trans (by first | assumption | (simp; done) | (simp [*]; done)); have ew31 : w3.cell? ⟨wr.heap.size, 1, none⟩ = some (.int .i64 m.f0.f1) := (hb3.cell (p := ⟨wr.heap.size, 1, none⟩) (by first | (simp; done) | (have := hb2.size; simp at this ⊢; omega))).trans (by first | assumption | (simp; done) | (simp [*]; done)); have ew32 : w3.cell? ⟨wr.heap.size, 2, none⟩ = some (.int .i64 m.f1) := (hb3.cell (p := ⟨wr.heap.size, 2, none⟩) (by first | (simp; done) | (have := hb2.size; simp at this ⊢; omega))).trans (by first | assumption | (simp; done) | (simp [*]; done)); have ew33 : w3.cell? ⟨wr.heap.size, 3, none⟩ = some (.int .i64 m.f2) := (hb3.cell (p := ⟨wr.heap.size, 3, none⟩) (by first | (simp; done) | (have := hb2.size; simp at this ⊢; omega))).trans (by first | assumption | (simp; done) | (simp [*]; done))))
     go_wp2
     go_ret
     exact ⟨rfl, by repeat (first | (with_reducible first | exact HD.out | apply pw_below_drewN | apply below_drew1 | refine below_step ?_ hb3 | refine below_step ?_ hb2) | exact HD.out)⟩
   ·rw [if_neg q6] at h2
    obtain rfl := Option.some.inj h2
    have b6 : (x != m.f0.f0) = true := bne_iff_ne.2 q6
    have HX := Aside0.mk hx; clear h2 q6 hx; go_wp2
    have HE := Aside0.mk (below_drew1 HD.out)
    refine start_ (n := 54) (S := (fun w' => w'.cell? ⟨wr.heap.size, 0, none⟩ = some (.int .i64 m.f0.f0) ∧ w'.cell? ⟨wr.heap.size, 1, none⟩ = some (.int .i64 m.f0.f1) ∧ w'.cell? ⟨wr.heap.size, 2, none⟩ = some (.int .i64 m.f1) ∧ w'.cell? ⟨wr.heap.size, 3, none⟩ = some (.int .i64 m.f2))) (ds := []) (bz 54 0) (by kernel_rfl) rfl rfl ⟨by go_keep, by go_keep, by go_keep, by go_keep⟩ (fun hHeld => ?_); refine with_tabW rightT rightB (fun HT_ HW_ => ?_)
    generalize (wr.alloc (.cells #[.int .i64 m.f0.f0, .int .i64 m.f0.f1, .int .i64 m.f1, .int .i64 m.f2] 38)).drew = wd at HE hHeld ⊢
    refine pu 0 (some 14) (bz 54 1) HT_ rfl rfl ?_; refine pu 1 (some 15) (bz 54 3) HT_ rfl rfl ?_; refine pu 3 (some 17) (bz 54 11) HT_ rfl rfl ?_; refine tk 2 (some 16) (bz 54 15) HT_ HW_ rfl rfl hHeld ?_; refine pu 4 (some 18) (bz 54 31) HT_ rfl rfl ?_; refine pu 5 (some 19) (bz 54 63) HT_ rfl rfl ?_; refine pu 6 (some 20) (bz 54 127) HT_ rfl rfl ?_; refine pu 7 (some 21) (bz 54 255) HT_ rfl rfl ?_; refine pu 9 (some 23) (bz 54 767) HT_ rfl rfl ?_; refine pu 10 (some 24) (bz 54 1791) HT_ rfl rfl ?_; refine tk 8 (some 22) (bz 54 2047) HT_ HW_ rfl rfl hHeld ?_; refine tk 11 (some 25) (bz 54 4095) HT_ HW_ rfl rfl hHeld ?_; refine pu 12 (some 26) (bz 54 8191) HT_ rfl rfl ?_; refine pu 13 (some 27) (bz 54 16383) HT_ rfl rfl ?_; refine pu 14 (some 28) (bz 54 32767) HT_ rfl rfl ?_; refine pu 15 (some 29) (bz 54 65535) HT_ rfl rfl ?_; refine pu 16 (some 30) (bz 54 131071) HT_ rfl rfl ?_; refine pu 18 (some 32) (bz 54 393215) HT_ rfl rfl ?_; refine pu 19 (some 33) (bz 54 917503) HT_ rfl rfl ?_; refine tk 17 (some 31) (bz 54 1048575) HT_ HW_ rfl rfl hHeld ?_; refine pu 20 (some 34) (bz 54 2097151) HT_ rfl rfl ?_; refine pu 21 (some 35) (bz 54 4194303) HT_ rfl rfl ?_; refine pu 22 (some 36) (bz 54 8388607) HT_ rfl rfl ?_; refine pu 23 (some 37) (bz 54 16777215) HT_ rfl rfl ?_; refine tk 24 (some 38) (bz 54 33554431) HT_ HW_ rfl rfl hHeld ?_; refine pu 25 (some 39) (bz 54 67108863) HT_ rfl rfl ?_; refine pu 26 (some 40) (bz 54 134217727) HT_ rfl rfl ?_; refine pu 27 (some 41) (bz 54 268435455) HT_ rfl rfl ?_; refine pu 28 (some 42) (bz 54 536870911) HT_ rfl rfl ?_; refine tk 29 (some 43) (bz 54 1073741823) HT_ HW_ rfl rfl hHeld ?_; refine pu 30 (some 44) (bz 54 2147483647) HT_ rfl rfl ?_; refine pu 31 (some 45) (bz 54 4294967295) HT_ rfl rfl ?_; refine pu 32 (some 46) (bz 54 8589934591) HT_ rfl rfl ?_; refine pu 33 (some 47) (bz 54 17179869183) HT_ rfl rfl ?_; refine pu 34 (some 48) (bz 54 34359738367) HT_ rfl rfl ?_; refine pu 35 (some 49) (bz 54 68719476735) HT_ rfl rfl ?_; refine pu 38 (some 52) (bz 54 343597383679) HT_ rfl rfl ?_; refine pu 39 (some 53) (bz 54 893353197567) HT_ rfl rfl ?_; refine tk 36 (some 50) (bz 54 962072674303) HT_ HW_ rfl rfl hHeld ?_; refine tk 40 (some 54) (bz 54 2061584302079) HT_ HW_ rfl rfl hHeld ?_; refine one_ (i := 37) (N := some 51) (bz 54 2199023255551) rfl rfl (one_of HT_.out (by kernel_rfl)) (by decide) (fun K hK => ?_)
    refine goes_ Tryd.func37 (by kernel_rfl) rfl #[.string a0, .int .i64 (m.f0.f0)] (by rfl) rfl rfl (by (try simp only [List.map_toArray, List.map_cons, List.map_nil]); first | done | rfl | (simp only [List.length_drop, List.length_take]; rfl)) ?_
    with_reducible refine (utf_Begin.calls k a0 m.f0.f0 x _ (by exact GlobOk.below HG.out HE.out) HX.out).mono ?_
    rintro e w2 ⟨rfl, hb2⟩
    refine ⟨_, rfl, ?_⟩
    have hz : wr.heap.size < wd.heap.size := World.block_lt_of_cell? wd _ hHeld.1
    refine hK.out _ _ ⟨(hb2.cell (p := ⟨wr.heap.size, 0, none⟩) hz).trans hHeld.1, (hb2.cell (p := ⟨wr.heap.size, 1, none⟩) hz).trans hHeld.2.1, (hb2.cell (p := ⟨wr.heap.size, 2, none⟩) hz).trans hHeld.2.2.1, (hb2.cell (p := ⟨wr.heap.size, 3, none⟩) hz).trans hHeld.2.2.2⟩ (fun hHeld => ?_)
    clear hK K; refine norm_ (a' := ?_) ?_ ?_
    rotate_left
    ·show Act.put _ (some 51) _ = _
     simp only [Act.put, List.setIfInBounds_toArray, List.set_cons_zero, List.set_cons_succ, i64_w, i32_w]
     rfl
    refine pu 41 (some 55) (bz 54 4398046511103) HT_ rfl rfl ?_; refine pu 42 (some 56) (bz 54 8796093022207) HT_ rfl rfl ?_; refine pu 43 (some 57) (bz 54 17592186044415) HT_ rfl rfl ?_; refine pf 44 (some 58) (bz 54 35184372088831) HT_ rfl rfl ?_; refine pf 45 (some 59) (bz 54 70368744177663) HT_ rfl rfl ?_; refine pf 46 (some 60) (bz 54 140737488355327) HT_ rfl rfl ?_; refine pf 47 (some 61) (bz 54 281474976710655) HT_ rfl rfl ?_; refine pf 48 (some 62) (bz 54 562949953421311) HT_ rfl rfl ?_; refine pf 49 (some 63) (bz 54 1125899906842623) HT_ rfl rfl ?_; refine pf 50 (some 64) (bz 54 2251799813685247) HT_ rfl rfl ?_; refine pf 51 (some 65) (bz 54 4503599627370495) HT_ rfl rfl ?_; refine pf 52 (some 66) (bz 54 9007199254740991) HT_ rfl rfl ?_; refine pu 53 (some 67) (bz 54 18014398509481983) HT_ rfl rfl ?_; refine done_ (done_of HT_.out (by kernel_rfl)) ?_
    go_wp2
    go_ret
    exact ⟨rfl, below_step HE.out hb2⟩
  ·have hii : i = l1.length := by omega
   subst hii; have h2 := HA.out
   rw [List.drop_length] at h2
   obtain rfl : true = r := by simpa [rightF] using h2
   clear HA h2; go_wp2
   go_ret
   exact ⟨rfl, HB.out⟩

/-! ### lines_with: function 44 -/
def lines_with.f (l0 : List Int) (l1 : List Int) : Option (List Int) := if l0.length + l1.length < 17592186044416 then (some (l0 ++ l1)) else (none)
set_option maxHeartbeats 8000000 in
set_option maxRecDepth 100000 in
theorem lines_with.calls (P0_ : Nat → Prop) (u9000_ : Value) (l0 : List Int) (A1 : Option Addr) (c1 : Nat) (l1 : List Int) (r : List Int) (w0 w : World) (hB : Below w0.heap.size w0 w) (ho0 : Kd.R (Kd.int .i64) 3 w w0.heap.size P0_ u9000_ l0) (hr1 : ∀ W_, Kept w W_ (fun k_ => P0_ k_) → Kd.C (Kd.int .i64) W_ A1 l1.length l1) (hc1 : l1.length ≤ c1) (h : lines_with.f l0 l1 = some r) :
  Calls Tryd.prog 44 #[u9000_, .slice A1 l1.length c1] w fun e w' => ∃ v0_ : Value, e = .returned (v0_) ∧ Kd.R (Kd.int .i64) 3 w' w0.heap.size (fun k_ => (P0_ k_ ∨ w.heap.size ≤ k_)) v0_ r ∧ Below w0.heap.size w0 w' ∧ Kept w w' (fun k_ => P0_ k_) := by
 have HO0 := Aside0.mk (show Kd.R (Kd.int .i64) 3 w w0.heap.size (fun k_ => (P0_ k_ ∨ w.heap.size ≤ k_)) u9000_ l0 from Kd.R_mono ho0 (fun k_ hk => (.inl hk)))
 have HR1 := Aside0.mk hr1; have HC1 := Aside0.mk hc1; clear hr1 hc1; have HK := Aside0.mk (Kept.refl w (fun k_ => P0_ k_))
 have HW0 := Aside0.mk hB.size; have HB := Aside0.mk hB; clear hB; have H : (if l0.length + l1.length < 17592186044416 then (some (l0 ++ l1)) else (none)) = some r := h
 clear h; by_cases c3 : l0.length + l1.length < 17592186044416
 ·rw [if_pos c3] at H; have LMc3 := Aside0.mk c3; clear c3; obtain ⟨y209, hy209⟩ : ∃ y_ : List Int, y_ = (l0 ++ l1) := ⟨_, rfl⟩
  replace H : (some y209) = some r := by first | (rw [hy209]; with_reducible exact H) | (have H2_ := (Option.bind_some _ _).symm.trans H; rw [hy209]; with_reducible exact H2_) | (have H2_ := (Option.bind_some _ _).symm.trans H; with_reducible exact H2_) | with_reducible exact H | (rw [hy209]; exact H) | exact H
  have Ny209 := Aside0.mk hy209; clear hy209; obtain rfl := Option.some.inj H; go_enter Tryd.func44, Tryd.ntmps44
  go_wp2_with (first | ((with_reducible refine gate_builtin (b := .append) (xs := #[.tmp 5, .tmp 6]) rfl ?_); at_builtin; refine Kd.R_append_rows (Kd.int .i64) (w0 := w0) w0.heap.size rfl (.tmp 5) (.tmp 6) 23 3 (.int .i64 0) 8 rfl Tryd.underlying23 info3 rfl (by decide) (by omega) u9000_ l0 l1 _ _ _ (fun k_ => (P0_ k_ ∨ w.heap.size ≤ k_)) (fun _ => False) rfl rfl ?aO ?aR (fun _ _ h => h) (fun _ h => h.elim) ?aF ?aB ?aS ?aL ?_; (case aR => exact Kd.C_kept_now HR1.out (by repeat (first | (with_reducible first | exact HK.out | apply Kept.alloc | apply Kept.drewN | apply Kept.drew) | exact HK.out))); (case aB => exact (bl HB)); (case aF => exact (fun k_ hk => (.inr (Nat.le_trans (by first | exact HK.out.1 | exact (show Kept w _ (fun k_ => P0_ k_) from by repeat (first | (with_reducible first | exact HK.out | apply Kept.alloc | apply Kept.drewN | apply Kept.drew) | exact HK.out)).1) hk)))); (case aO => exact (rl HO0)); (case aS => exact (below_size (bl HB))); (case aL => have := LMc3.out; omega); intro v210 w4 ho hb hg hat; rw [← Ny209.out] at ho; have n0_ := Aside0.mk (hb); have n1_ := Aside0.mk (Kept.of_grown (S := (fun k_ => P0_ k_)) hg (by repeat (first | (with_reducible first | exact HK.out | apply Kept.alloc | apply Kept.drewN | apply Kept.drew) | exact HK.out)) (fun k_ e_ => (HO0.out.1 k_ e_))); have n2_ := Aside0.mk (ho); clear HB; clear HK; clear HO0; have HB := n0_; have HK := n1_; have HO211 := n2_; clear n0_ n1_ n2_; clear ho hb hg hat))
  go_ret
  exact ⟨_, by first | rfl | (simp [errW_none, errW_some] <;> rfl) | (simp [*, errW_none, errW_some] <;> rfl), rl HO211, bl HB, by repeat (first | (with_reducible first | exact HK.out | apply Kept.alloc | apply Kept.drewN | apply Kept.drew) | exact HK.out)⟩
 ·rw [if_neg c3] at H; exact absurd H (by simp)

/-! ### lines_Starts: function 38 (by hand) -/
attribute [local go_sem] Oper.semAt_some
theorem lnsFrom_len {s : ByteArray} : ∀ f n a, (lnsFrom s f n a).length ≤ f + 1
 | 0, _, _ => by simp [lnsFrom]
 | f + 1, n, a => by
  unfold lnsFrom
  split
  ·simp
  ·have := lnsFrom_len (s := s) f (n + 1) (nxt s (a + (kf s a).toNat))
   simp only [List.length_cons]; omega
def begs {s : ByteArray} (l : List (Ln s)) : List Int := l.map fun x => (x.1.2.1 : Int)
def lines_Starts.f (a0 : ByteArray) : Option (List Int) := if a0.size < 4294967281 then some (begs (lns a0)) else none
/-- The blocks of whole numbers that were laid since. -/
def OwnInts (w W : World) (k : Nat) : Prop := w.heap.size ≤ k ∧ k < W.heap.size ∧ ∃ cells, W.heap[k]? = some (.cells cells 3 (0, 0))
theorem ownInts_of {w W : World} {v : Value} {xs : List Int} (h : Kd.R (Kd.int .i64) 3 W w.heap.size (fun _ => True) v xs) : Kd.R (Kd.int .i64) 3 W w.heap.size (OwnInts w W) v xs :=
 Kd.R_mono (Kd.R_bound h) (fun k hk => ⟨hk.2.1, hk.2.2.1, by
  obtain ⟨q, hq, c, hc⟩ := hk.2.2.2
  have : q = 3 := by simpa [Kd.int, Kd.scalar] using hq
  subst this; exact ⟨c, hc⟩⟩)
theorem boxed_ints {w W : World} {B : Nat} {t : TypeId} {v : Value} (h : Boxed W B t v) (hk : OwnInts w W B) (ht : t ≠ 3 := by decide) : False := by
 obtain ⟨_, _, cells, hc⟩ := hk
 rw [show W.heap[B]? = _ from h] at hc
 injection hc with hc
 injection hc with _ hc
 exact ht hc
theorem keeps_ints {w W w' : World} {B : Nat} {o : Obj} (h : Kept (W.alloc o) w' (fun k_ => OwnInts w W k_)) : KeepsFrom B (W.alloc o) w' := by
 refine ⟨h.1, fun k o' _ hk ho => ?_⟩
 refine (h.2 k (Array.getElem?_eq_some_iff.1 hk).1 (fun hw => ?_)).trans hk
 obtain ⟨_, hlt, cells, hc⟩ := hw
 rw [Below.heap_alloc W o k hlt, hc] at hk
 cases hk
 cases ho
theorem rowInts_own {β : Type} (w : World) (B : Nat) (t : TypeId) (f : β → List Int) : Own (fun s W => ∃ v, Boxed W B t v ∧ Kd.R (Kd.int .i64) 3 W w.heap.size (fun _ => True) v (f s)) := by
 rintro s X Y row ⟨v, hv, hR⟩ hg hrow
 refine ⟨v, hv.kept hg (fun e' => ?_), Kd.R_mono (Kd.R_step (ownInts_of hR) (fun k hk hlt => hg.block k hlt (fun e => ?_))) (fun _ _ => trivial)⟩
 ·obtain ⟨o, ho, hc⟩ := hrow B e'.symm
  rw [show X.heap[B]? = _ from hv] at ho; cases ho; cases hc
 ·obtain ⟨o, ho, hc⟩ := hrow k e.symm
  obtain ⟨_, _, cells, hcc⟩ := hk
  rw [hcc] at ho; cases ho; cases hc
set_option maxRecDepth 100000 in
set_option maxHeartbeats 2000000 in
theorem lines_Starts.calls (a0 : ByteArray) (r : List Int) (w : World) (h : lines_Starts.f a0 = some r) :
  Calls Tryd.prog 38 #[.string a0] w fun e w' => ∃ v0_ : Value, e = .returned v0_ ∧ Kd.R (Kd.int .i64) 3 w' w.heap.size (fun _ => True) v0_ r ∧ Below w.heap.size w w' := by
 unfold lines_Starts.f at h
 split at h
 case isFalse => cases h
 rename_i hs
 obtain rfl := Option.some.inj h
 refine (callsIn_wide (n := 3)).1 ?_
 refine callsIn_of_wp_marks Tryd.func38 rfl trivial ?_ rfl
 simp only [Tryd.ntmps38, List.size_toArray, List.length_cons, List.length_nil, Nat.reduceAdd, Nat.reduceSub, Array.replicate_succ, Array.replicate_zero, List.push_toArray, List.append_toArray, List.nil_append, List.cons_append]
 gi_wp2_with (refine ⟨trivial, ?_⟩; gi_at_call 43; refine (each_in _ _ _).mono ?_; rintro e w' ⟨rfl, rfl⟩)
 have bL := (Boxed.new w 23 (.slice none 0 0)).alloc (.cells #[.string a0] 9)
 have bS := Boxed.new (w.alloc (.cells #[.slice none 0 0] 23)) 9 (.string a0)
 have hB0 : Below w.heap.size w ((w.alloc (.cells #[.slice none 0 0] 23)).alloc (.cells #[.string a0] 9)) := ((Below.refl _ w).alloc (Nat.le_refl _) _).alloc (by simp) _
 simp only [World.size_alloc] at bS
 obtain ⟨W0, hW0⟩ : ∃ W0, ((w.alloc (.cells #[.slice none 0 0] 23)).alloc (.cells #[.string a0] 9)) = W0 := ⟨_, rfl⟩
 have hsz : W0.heap.size = w.heap.size + 2 := by rw [← hW0]; simp
 rw [hW0] at bL bS hB0 ⊢
 clear hW0; refine wpIn_rangeFunc_ownH rfl (by decide) (gf := 46) (lb := #[.pointer (some ⟨w.heap.size + 1, 0, none⟩)]) rfl trivial (enters_of Tryd.func46 (by kernel_rfl) rfl)
  (each_stops a0 hs 2 (by decide) (w.heap.size + 1) _ bS) kbox_t (kbox_b (by omega)) (Below.refl _ _) (fun _ => rfl)
  (fun pre W => ((∃ v, Boxed W w.heap.size 23 v ∧ Kd.R (Kd.int .i64) 3 W w.heap.size (fun _ => True) v (begs pre)) ∧ Boxed W (w.heap.size + 1) 9 (.string a0)) ∧ Below w.heap.size w W)
  (fun _ _ _ => False)
  (OwnFrom.and (OwnFrom.and (Own.from (rowInts_own w _ _ (fun pre => begs pre)) _) (Own.from (boxed_own _ _ _) _)) (ownFrom_below (Nat.le_refl _) (by omega)))
  (fun _ _ _ _ _ hs _ _ => hs)
  ⟨⟨⟨_, bL, Kd.R_nil _ _ _ _ _⟩, bS⟩, hB0⟩
  (fun x a' W => ∃ Bx, w.heap.size + 1 < Bx ∧ Boxed2 W Bx 36 (.int .i64 x.1.2.1) (.int .i64 x.1.2.2) ∧ a' = { tmps := #[.string a0, undef, .slice none 0 0, .pointer (some ⟨w.heap.size, 0, none⟩), undef, .pointer (some ⟨Bx, 0, none⟩), .string a0, .func (.func 46) #[] #[.pointer (some ⟨w.heap.size + 1, 0, none⟩)], .int .i64 x.1.1, .agg #[.int .i64 x.1.2.1, .int .i64 x.1.2.2], undef, undef, undef, undef, undef, undef], defers := [] })
  (fun x a' _ X Y row hs hg hr => by obtain ⟨Bx, h1, h2, h3⟩ := hs; exact ⟨Bx, h1, boxed2_own Bx _ (fun (_ : Unit) => Value.int .i64 x.1.2.1) (fun (_ : Unit) => Value.int .i64 x.1.2.2) () X Y row h2 hg (fun r e => (hr r e).2), h3⟩)
  ?assign ?body ?done ?stop
 case assign =>
  rintro l pre x W K ⟨⟨⟨v, bL1, hR1⟩, bS1⟩, hB1⟩ hK
  simp only [encLn]
  gi_wp2
  exact hK _ _ ((KeepsOthers.alloc _ _).from _) (kbox_alloc _ _ bS1.lt) ⟨⟨⟨v, bL1.alloc _, Kd.R_below hR1 ((Below.refl _ _).alloc (Nat.le_refl _) _)⟩, bS1.alloc _⟩, hB1.alloc hB1.size _⟩ ⟨W.heap.size, bS1.lt, Boxed2.new W 36 _ _, rfl⟩
 case body =>
  rintro l pre x a' W hl _ ⟨⟨⟨v, bL1, hR1⟩, bS1⟩, hB1⟩ ⟨Bx, hBx, bx, rfl⟩ hlt
  have cL := bL1.cell
  have fL := bL1.frozen
  have cx0 := bx.cell0
  have cx1 := bx.cell1
  have hb1 : Below w.heap.size w (W.alloc (.cells #[.int .i64 x.1.2.1] 3)) := hB1.alloc hB1.size _
  have hf : lines_with.f (begs pre) [(x.1.2.1 : Int)] = some (begs (pre ++ [x])) := by
   unfold lines_with.f
   have h1 : (lns a0).length ≤ a0.size + 1 := lnsFrom_len _ _ _
   rw [if_pos (by rw [begs, List.length_map, List.length_singleton]; omega)]
   simp [begs]
  have hC : ∀ W_, Kept (W.alloc (.cells #[.int .i64 x.1.2.1] 3)) W_ (fun k_ => OwnInts w W k_) → Kd.C (Kd.int .i64) W_ (some ⟨W.heap.size, 0, none⟩) [(x.1.2.1 : Int)].length [(x.1.2.1 : Int)] := by
   intro W_ hk
   refine ⟨rfl, (by decide : (1 : Nat) ≤ 9223372036854775807), fun _ => ⟨_, rfl, fun j p hj => ?_⟩⟩
   obtain rfl : j = 0 := by
    have := (List.getElem?_eq_some_iff.1 hj).1
    simpa using this
   obtain rfl : (x.1.2.1 : Int) = p := by simpa using hj
   refine ⟨[.int .i64 x.1.2.1], rfl, rfl, fun i u hi => ?_⟩
   obtain rfl : i = 0 := by
    have := (List.getElem?_eq_some_iff.1 hi).1
    simpa using this
   obtain rfl : Value.int .i64 x.1.2.1 = u := by simpa using hi
   have hh := hk.2 W.heap.size (by simp) (fun h => by have := h.2.1; omega)
   rw [World.alloc_heap_new] at hh
   simp [World.cell?, Addr.add, hh]
  have hw := lines_with.calls (OwnInts w W) v (begs pre) (some ⟨W.heap.size, 0, none⟩) 1 [(x.1.2.1 : Int)] (begs (pre ++ [x])) w (W.alloc (.cells #[.int .i64 x.1.2.1] 3)) hb1 (Kd.R_below (ownInts_of hR1) ((Below.refl _ _).alloc (Nat.le_refl _) _)) hC (Nat.le_refl _) hf
  gi_wp2_with (refine ⟨trivial, ?_⟩; gi_at_call 44; refine (CallsIn.inRound l (callsIn_wide.2 hw)).mono ?_; clear hw; rintro e w' ⟨v0, rfl, hR2, hB2, hK2⟩; obtain ⟨A2, c2, rfl, hc2, _⟩ := hR2.2.reads; have bL2 : Boxed w' w.heap.size 23 v := (hK2.2 _ (by simp; have := bL1.lt; omega) (fun h => boxed_ints bL1 h)).trans (bL1.alloc _); have cL2 := bL2.cell; have fL2 := bL2.frozen)
  have hlt2 : w.heap.size + 1 < (W.alloc (.cells #[.int .i64 x.1.2.1] 3)).heap.size := by simp; have := bS1.lt; omega
  have bS2 : Boxed w' (w.heap.size + 1) 9 (.string a0) := (hK2.2 _ hlt2 (fun h => boxed_ints bS1 h)).trans (bS1.alloc _)
  refine ⟨((KeepsOthers.alloc _ _).from _).trans ((keeps_ints hK2).trans ((KeepsOthers.setCell _ _ _).from _)), ?_, ⟨⟨_, bL2.set _, ?_⟩, bS2.other (by simp) _⟩, hB2.setCell (p := ⟨w.heap.size, 0, none⟩) (Nat.le_refl _) _⟩
  ·exact kbox_t (kbox_t (kbox_alloc _ _ bS1.lt) (hK2.2 _ hlt2 (fun h => boxed_ints bS1 h))) (kbox_set _ _ _ (by simp))
  ·refine Kd.R_mono (Kd.R_far hR2 (fun k hk => ?_) _) (fun _ _ => trivial)
   rintro rfl
   rcases hk with hk | hk
   ·exact boxed_ints bL1 hk
   ·simp at hk; have := bL1.lt; omega
 case done =>
  rintro D ys W hD rfl ⟨⟨⟨v, bL1, hR1⟩, bS1⟩, hB1⟩ hK
  have cL := bL1.cell
  gi_wp2
  refine ⟨by simp, .inl ⟨_, _, rfl, run_takeDeferred hK, ?_⟩⟩
  refine ⟨_, results_tmp rfl _ _ _, v, rfl, Kd.R_mono (Kd.R_step (ownInts_of hR1) (fun k hk hlt => World.putObj_heap_other (fun e => ?_))) (fun _ _ => trivial), hB1.trans (belowK_b (w := w) (Nat.le_refl _) W D _ _ (by omega) hK rfl rfl)⟩
  subst e; obtain ⟨_, _, cells, hc⟩ := hk
  rw [hc] at hK
  cases hK
 case stop =>
  rintro D c pre W _ _ h _
  exact h.elim

/-! ### five_ends: function 25 -/
def five_ends.f (a0 : ByteArray) : Option (List Int) := (lines_Starts.f a0).bind fun t212 => (if t212.length < 17592186044416 then (some (t212 ++ [wrap64 ((a0.size : Int) + 1)])) else (none))
set_option maxHeartbeats 8000000 in
set_option maxRecDepth 100000 in
theorem five_ends.calls (a0 : ByteArray) (r : List Int) (w : World) (h : five_ends.f a0 = some r) :
  Calls Tryd.prog 25 #[.string a0] w fun e w' => ∃ v0_ : Value, e = .returned (v0_) ∧ Kd.R (Kd.int .i64) 3 w' w.heap.size (fun _ => True) v0_ r ∧ Below w.heap.size w w' := by
 have HB := Aside0.mk (Below.refl w.heap.size w)
 have H : ((lines_Starts.f a0).bind fun t212 => (if t212.length < 17592186044416 then (some (t212 ++ [wrap64 ((a0.size : Int) + 1)])) else (none))) = some r := h
 clear h; replace H := Option.bind_eq_some_iff.mp H
 obtain ⟨t212, A20, H⟩ := H
 replace H : (if t212.length < 17592186044416 then (some (t212 ++ [wrap64 ((a0.size : Int) + 1)])) else (none)) = some r := H
 have A2 := Aside0.mk A20; clear A20; by_cases c3 : t212.length < 17592186044416
 ·rw [if_pos c3] at H; have LMc3 := Aside0.mk c3; clear c3; obtain ⟨y215, hy215⟩ : ∃ y_ : List Int, y_ = (t212 ++ [wrap64 ((a0.size : Int) + 1)]) := ⟨_, rfl⟩
  replace H : (some y215) = some r := by first | (rw [hy215]; with_reducible exact H) | (have H2_ := (Option.bind_some _ _).symm.trans H; rw [hy215]; with_reducible exact H2_) | (have H2_ := (Option.bind_some _ _).symm.trans H; with_reducible exact H2_) | with_reducible exact H | (rw [hy215]; exact H) | exact H
  have Ny215 := Aside0.mk hy215; clear hy215; obtain rfl := Option.some.inj H; go_enter Tryd.func25, Tryd.ntmps25
  go_wp2_with (first | ((with_reducible refine gate_callee (f := 38) rfl ?_); refine goesL_ (some 4) rfl rfl Tryd.func38 (by kernel_rfl) rfl #[.string a0] rfl (by (try simp only [List.map_toArray, List.map_cons, List.map_nil]); first | done | rfl | (simp only [List.length_drop, List.length_take]; rfl)) ?_; (with_reducible refine (lines_Starts.calls a0 t212 _ A2.out).mono ?_); rintro e w4 ⟨v213, rfl, ho0, hb⟩; refine ⟨_, rfl, ?_⟩; have n0_ := Aside0.mk (Kd.R_lower ho0 (below_size (bl HB))); have n1_ := Aside0.mk (below_step (bl HB) hb); clear HB; have HO214 := n0_; have HB := n1_; clear n0_ n1_; (try clear hb); (try clear hb2); (try clear hk); (try clear hi); (try clear ho0)) | ((with_reducible refine gate_builtin (b := .append) (xs := #[.tmp 4, .tmp 8]) rfl ?_); at_builtin; refine Kd.R_append (Kd.int .i64) (w0 := w) w.heap.size rfl (.tmp 4) (.tmp 8) 23 3 (.int .i64 0) 8 rfl Tryd.underlying23 info3 rfl (by decide) (by omega) v213 t212 (wrap64 ((a0.size : Int) + 1)) [.int .i64 (wrap64 ((a0.size : Int) + 1))] (fun _ => True) (fun _ => False) rfl rfl ?aP (fun _ hk => hk.elim) ?aF ?aO ?aB ?aS ?aL ?_; (case aP => exact rfl); (case aB => exact (bl HB)); (case aF => exact (fun _ _ => trivial)); (case aO => exact (rl HO214)); (case aS => exact (below_size (bl HB))); (case aL => have := LMc3.out; omega); intro v216 w5 ho hb hg hat; rw [← Ny215.out] at ho; have n0_ := Aside0.mk (hb); have n1_ := Aside0.mk (ho); clear HB; clear HO214; have HB := n0_; have HO217 := n1_; clear n0_ n1_; clear ho hb hg hat))
  go_ret
  exact ⟨_, by first | rfl | (simp [errW_none, errW_some] <;> rfl) | (simp [*, errW_none, errW_some] <;> rfl), rl HO217, bl HB⟩
 ·rw [if_neg c3] at H; exact absurd H (by simp)

end Go.Proofs.YtbjhmknahldhaaaDoor.Q
