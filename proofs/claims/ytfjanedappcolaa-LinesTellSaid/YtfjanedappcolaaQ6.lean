-- Written by this repo's wip/xprint.py (over the kit's print.py) out of the translation. Not trusted: Lean checks it.
import Derived.Test.YtfjanedappcolaaQ0
import Derived.Test.YtfjanedappcolaaQ5
namespace Go.Proofs.Ytfjanedappcolaa.Q
open Go.RowKit Go.Proofs.YtfjanedappcolaaW.PrintWords Go.Proofs.YtfjanedappcolaaW.PrintLast Go.Proofs.YtfjanedappcolaaW.PrintMore
attribute [local go_sem] max2_int min2_int max_two min_two max_three min_three max_four min_four   -- for this text's walks alone
set_option linter.unusedVariables false
set_option linter.unusedSimpArgs false

/-! ### glossatorref01_Units: function 11 -/
def glossatorref01_Units.l0 : Nat → ByteArray → Int → Int → Option (Int)
  | 0, _, _, _ => none
  | k + 1, x0, x3, x4 => if x3 < (x0.size : Int) then ((glossatorref01_step.f k x0 x3).bind fun bt147 => (glossatorref01_Units.l0 k x0 (wrap64 (x3 + bt147.1)) (wrap64 (x4 + bt147.2)))) else (some x4)
def glossatorref01_Units.f (k : Nat) (a0 : ByteArray) : Option (Int) := glossatorref01_Units.l0 k a0 0 0
theorem glossatorref01_Units.mono_l : ∀ k, (∀ y0 y1 y2, LeO (glossatorref01_Units.l0 k y0 y1 y2) (glossatorref01_Units.l0 (k + 1) y0 y1 y2))
  | 0 => fun _ _ _ r h => by simp [glossatorref01_Units.l0] at h
  | k + 1 => by
    have ih0 := glossatorref01_Units.mono_l k
    · intro y0 y1 y2
      unfold glossatorref01_Units.l0
      repeat' first
      | (with_reducible exact ih0 _ _ _)
      | (with_reducible exact glossatorref01_step.mono _ _ _)
      | (with_reducible exact LeO.refl _)
      | (with_reducible exact LeO.none _)
      | (with_reducible refine LeO.ite ?_ ?_)
      | (with_reducible refine LeO.bind ?_ (fun _ => ?_))
      | exact ih0 _ _ _
      | exact glossatorref01_step.mono _ _ _
      | exact LeO.none _
      | refine LeO.ite ?_ ?_
      | refine LeO.bind ?_ (fun _ => ?_)
theorem glossatorref01_Units.mono : ∀ a0 k, LeO (glossatorref01_Units.f k a0) (glossatorref01_Units.f (k + 1) a0) := by
  intro a0 k
  have ih0 := glossatorref01_Units.mono_l k
  unfold glossatorref01_Units.f
  repeat' first
      | (with_reducible exact ih0 _ _ _)
      | (with_reducible exact glossatorref01_step.mono _ _ _)
      | (with_reducible exact LeO.refl _)
      | (with_reducible exact LeO.none _)
      | (with_reducible refine LeO.ite ?_ ?_)
      | (with_reducible refine LeO.bind ?_ (fun _ => ?_))
      | exact ih0 _ _ _
      | exact glossatorref01_step.mono _ _ _
      | exact LeO.none _
      | refine LeO.ite ?_ ?_
      | refine LeO.bind ?_ (fun _ => ?_)
set_option maxHeartbeats 8000000 in
set_option maxRecDepth 100000 in
theorem glossatorref01_Units.calls (k : Nat) (a0 : ByteArray) (r : Int) (w : World) (h : glossatorref01_Units.f k a0 = some r) :
    Calls Try.prog 11 #[.string a0] w fun e w' => e = .returned (.int .i64 r) ∧ Below w.heap.size w w' := by
  have HB := Aside0.mk (Below.refl w.heap.size w)
  have H : (glossatorref01_Units.l0 k a0 0 0) = some r := h
  clear h
  have H' := Aside0.mk H
  clear H
  go_enter Try.func11, Try.ntmps11
  go_wp2
  go_loopg [3, 4] k (fun kq v3 v4 w' => ∃ (x3_1 : Int) (x4_1 : Int), v3 = .int .i64 x3_1 ∧ v4 = .int .i64 x4_1 ∧ Aside0 (glossatorref01_Units.l0 kq a0 x3_1 x4_1 = some r) ∧ Aside0 (kq ≤ k) ∧ Aside0 (Below w.heap.size w w'))
  case atStart => exact ⟨(0), (0), (by first | rfl | (simp; done) | (simp [*]; done)), (by first | rfl | (simp; done) | (simp [*]; done)), H', ⟨Nat.le_refl _⟩, ⟨by repeat (first | (with_reducible first | exact HB.out | apply below_alloc | apply pw_below_drewN | apply below_drew1) | exact HB.out)⟩⟩
  case round =>
    clear H'
    try clear c1
    obtain ⟨x3_1, x4_1, rfl, rfl, HA, HK1, HB⟩ := hrel
    cases gk with
    | zero => exact absurd HA.out (by simp [glossatorref01_Units.l0])
    | succ k1 =>
      have H := HA.out
      clear HA
      simp only [glossatorref01_Units.l0] at H
      by_cases c2 : x3_1 < (a0.size : Int)
      · rw [if_pos c2] at H
        have c2b0 : decide (x3_1 < (a0.size : Int)) = true := decide_eq_true c2
        clear c2
        replace H := Option.bind_eq_some_iff.mp H
        obtain ⟨⟨t147, t148⟩, A30, H⟩ := H
        replace H : (glossatorref01_Units.l0 k1 a0 (wrap64 (x3_1 + t147)) (wrap64 (x4_1 + t148))) = some r := H
        have A3 := Aside0.mk A30
        clear A30
        have H' := Aside0.mk H
        clear H
        go_wp2_with (first | ((with_reducible refine gate_callee (f := 22) rfl ?_); refine goesL_ (some 14) rfl rfl Try.func22 (by kernel_rfl) rfl #[.string a0, .int .i64 x3_1] rfl (by (try simp only [List.map_toArray, List.map_cons, List.map_nil]); first | done | rfl | (simp only [List.length_drop, List.length_take]; rfl)) ?_; (with_reducible refine (glossatorref01_step.calls k1 a0 x3_1 t147 t148 _ A3.out).mono ?_); rintro e w4 ⟨rfl, hb⟩; refine ⟨_, rfl, ?_⟩; have n0_ := Aside0.mk (below_step (by repeat (first | (with_reducible first | exact HB.out | apply below_alloc | apply pw_below_drewN | apply below_drew1) | exact HB.out)) hb); clear HB; have HB := n0_; clear n0_; (try clear hb); (try clear hb2); (try clear hk); (try clear hi)))
        go_roundg k1
        case measure => have := HK1.out; omega
        case rel => exact ⟨(wrap64 (x3_1 + t147)), (wrap64 (x4_1 + t148)), (by first | rfl | (simp; done) | (simp [*]; done)), (by first | rfl | (simp; done) | (simp [*]; done)), H', ⟨by have := HK1.out; omega⟩, ⟨by repeat (first | (with_reducible first | exact HB.out | apply below_alloc | apply pw_below_drewN | apply below_drew1) | exact HB.out)⟩⟩
      · rw [if_neg c2] at H
        have c2b0 : decide (x3_1 < (a0.size : Int)) = false := decide_eq_false c2
        clear c2
        obtain rfl := Option.some.inj H
        go_wp2
        go_ret
        exact ⟨by first | rfl | (simp [errW_none, errW_some] <;> rfl) | (simp [*, errW_none, errW_some] <;> rfl), by repeat (first | (with_reducible first | exact HB.out | apply below_alloc | apply pw_below_drewN | apply below_drew1) | exact HB.out)⟩

/-! ### utf_Cut: function 12 (by hand) -/
def utf_Cut.f (a0 : ByteArray) (a1 : Int) : Option Int := if a1 < 0 then some 0 else if a1 ≤ 9223372036854775807 then some (XUtf.cutAt a0 a0.size 0 a1 : Int) else none
set_option maxRecDepth 100000 in
theorem utf_Cut.calls (a0 : ByteArray) (a1 : Int) (r : Int) (w : World) (h : utf_Cut.f a0 a1 = some r) :
    Calls Try.prog 12 #[.string a0, .int .i64 a1] w fun e w' => e = .returned (.int .i64 r) ∧ Below w.heap.size w w' := by
  unfold utf_Cut.f at h
  by_cases hn : a1 < 0
  · rw [if_pos hn] at h
    obtain rfl := Option.some.inj h
    clear h
    go_enter Try.func12, Try.ntmps12
    go_wp2
    go_ret
    exact ⟨rfl, Below.refl _ _⟩
  rw [if_neg hn] at h
  by_cases hm : a1 ≤ 9223372036854775807
  case neg => rw [if_neg hm] at h; cases h
  rw [if_pos hm] at h
  obtain rfl := Option.some.inj h
  clear h
  have hn0 : 0 ≤ a1 := by omega
  go_enter Try.func12, Try.ntmps12
  go_wp2
  go_loopw [1] (fun n w' => ∃ (pos b : Nat) (u : Int), w' = w.iter a0 pos ∧ n = .int .i64 u ∧ Aside0 (XUtf.cutAt a0 b pos u = XUtf.cutAt a0 a0.size 0 a1) ∧ a0.size ≤ pos + b ∧ 0 ≤ u ∧ u ≤ a1 ∧ pos ≤ a0.size) (fun _ w' => a0.size - w'.iterPos w.heap.size)
  case atStart => exact ⟨0, a0.size, a1, rfl, rfl, ⟨rfl⟩, by omega, by omega, by omega, by omega⟩
  case round =>
    obtain ⟨pos, b, u, rfl, rfl, hc, hb, h0, h1, hle⟩ := hrel
    by_cases hp : pos < a0.size
    · have hnx : ∀ ty, (Instr.next (.pointer (some ⟨w.heap.size, 0, none⟩)) true ty).run Try.prog (w.iter a0 pos) = _ := fun ty => run_next_any w a0 pos ty hp
      have hwd := Lib.decode_width_pos a0 pos hp
      have hfit := XUtf.decode_fit a0 pos hp
      have hhit := XUtf.cutAt_hit a0 b pos u hp hb
      have hst := XUtf.cutAt_step a0 b pos u hp hb
      obtain ⟨z, hz⟩ : ∃ z, XUtf.uOf (Utf8.decode a0 pos).1 = z := ⟨_, rfl⟩
      rw [hz] at hhit hst
      by_cases hbig : 65536 ≤ ((Utf8.decode a0 pos).1 : Int)
      all_goals
        first
          | (have hu : z = 2 := by rw [← hz]; unfold XUtf.uOf; rw [if_pos (by omega)])
          | (have hu : z = 1 := by rw [← hz]; unfold XUtf.uOf; rw [if_neg (by omega)])
        subst hu
        clear hz
        by_cases hlt : u < 1 ∨ (u < 2 ∧ 65536 ≤ ((Utf8.decode a0 pos).1 : Int))
        · have HD := Aside0.mk ((hhit (by omega)).symm.trans hc.out)
          clear hc hhit hst
          first
            | (have hx : u - 2 < 0 := by omega
               go_wp2
               go_ret
               exact ⟨congrArg (fun z : Nat => Ending.returned (.int .i64 (z : Int))) HD.out, (Below.refl _ _).alloc (Nat.le_refl _) _⟩)
            | (have hx : u - 1 < 0 := by omega
               go_wp2
               go_ret
               exact ⟨congrArg (fun z : Nat => Ending.returned (.int .i64 (z : Int))) HD.out, (Below.refl _ _).alloc (Nat.le_refl _) _⟩)
        · have HST := Aside0.mk ((hst (by omega)).symm.trans hc.out)
          clear hc hhit hst
          first
            | (have hx : ¬ u - 2 < 0 := by omega
               go_wp2
               go_roundw
               case rel => exact ⟨pos + (Utf8.decode a0 pos).2, b - 1, u - 2, rfl, rfl, HST, by omega, by omega, by omega, by omega⟩
               case measure => simp; omega)
            | (have hx : ¬ u - 1 < 0 := by omega
               go_wp2
               go_roundw
               case rel => exact ⟨pos + (Utf8.decode a0 pos).2, b - 1, u - 1, rfl, rfl, HST, by omega, by omega, by omega, by omega⟩
               case measure => simp; omega)
    · have hnx : ∀ ty, (Instr.next (.pointer (some ⟨w.heap.size, 0, none⟩)) true ty).run Try.prog (w.iter a0 pos) = _ := fun ty => run_next_end w a0 pos ty hp
      have HD := Aside0.mk ((XUtf.cutAt_done a0 b pos u hp).symm.trans hc.out)
      clear hc
      go_wp2
      go_ret
      exact ⟨congrArg (fun z : Nat => Ending.returned (.int .i64 (z : Int))) HD.out, (Below.refl _ _).alloc (Nat.le_refl _) _⟩

/-! ### glossatorref01_Cut: function 13 -/
def glossatorref01_Cut.l0 : Nat → ByteArray → Int → Int → Int → Option (Int)
  | 0, _, _, _, _ => none
  | k + 1, x0, x1, x5, x6 => if x5 < (x0.size : Int) then ((glossatorref01_step.f k x0 x5).bind fun bt149 => (if (wrap64 (x6 + bt149.2)) > x1 then (some x5) else (glossatorref01_Cut.l0 k x0 x1 (wrap64 (x5 + bt149.1)) (wrap64 (x6 + bt149.2))))) else (some (x0.size : Int))
def glossatorref01_Cut.f (k : Nat) (a0 : ByteArray) (a1 : Int) : Option (Int) := glossatorref01_Cut.l0 k a0 a1 0 0
theorem glossatorref01_Cut.mono_l : ∀ k, (∀ y0 y1 y2 y3, LeO (glossatorref01_Cut.l0 k y0 y1 y2 y3) (glossatorref01_Cut.l0 (k + 1) y0 y1 y2 y3))
  | 0 => fun _ _ _ _ r h => by simp [glossatorref01_Cut.l0] at h
  | k + 1 => by
    have ih0 := glossatorref01_Cut.mono_l k
    · intro y0 y1 y2 y3
      unfold glossatorref01_Cut.l0
      repeat' first
      | (with_reducible exact ih0 _ _ _ _)
      | (with_reducible exact glossatorref01_step.mono _ _ _)
      | (with_reducible exact LeO.refl _)
      | (with_reducible exact LeO.none _)
      | (with_reducible refine LeO.ite ?_ ?_)
      | (with_reducible refine LeO.bind ?_ (fun _ => ?_))
      | exact ih0 _ _ _ _
      | exact glossatorref01_step.mono _ _ _
      | exact LeO.none _
      | refine LeO.ite ?_ ?_
      | refine LeO.bind ?_ (fun _ => ?_)
theorem glossatorref01_Cut.mono : ∀ a0 a1 k, LeO (glossatorref01_Cut.f k a0 a1) (glossatorref01_Cut.f (k + 1) a0 a1) := by
  intro a0 a1 k
  have ih0 := glossatorref01_Cut.mono_l k
  unfold glossatorref01_Cut.f
  repeat' first
      | (with_reducible exact ih0 _ _ _ _)
      | (with_reducible exact glossatorref01_step.mono _ _ _)
      | (with_reducible exact LeO.refl _)
      | (with_reducible exact LeO.none _)
      | (with_reducible refine LeO.ite ?_ ?_)
      | (with_reducible refine LeO.bind ?_ (fun _ => ?_))
      | exact ih0 _ _ _ _
      | exact glossatorref01_step.mono _ _ _
      | exact LeO.none _
      | refine LeO.ite ?_ ?_
      | refine LeO.bind ?_ (fun _ => ?_)
set_option maxHeartbeats 8000000 in
set_option maxRecDepth 100000 in
theorem glossatorref01_Cut.calls (k : Nat) (a0 : ByteArray) (a1 : Int) (r : Int) (w : World) (h : glossatorref01_Cut.f k a0 a1 = some r) :
    Calls Try.prog 13 #[.string a0, .int .i64 a1] w fun e w' => e = .returned (.int .i64 r) ∧ Below w.heap.size w w' := by
  have HB := Aside0.mk (Below.refl w.heap.size w)
  have H : (glossatorref01_Cut.l0 k a0 a1 0 0) = some r := h
  clear h
  have H' := Aside0.mk H
  clear H
  go_enter Try.func13, Try.ntmps13
  go_wp2
  go_loopg [5, 6] k (fun kq v5 v6 w' => ∃ (x5_1 : Int) (x6_1 : Int), v5 = .int .i64 x5_1 ∧ v6 = .int .i64 x6_1 ∧ Aside0 (glossatorref01_Cut.l0 kq a0 a1 x5_1 x6_1 = some r) ∧ Aside0 (kq ≤ k) ∧ Aside0 (Below w.heap.size w w'))
  case atStart => exact ⟨(0), (0), (by first | rfl | (simp; done) | (simp [*]; done)), (by first | rfl | (simp; done) | (simp [*]; done)), H', ⟨Nat.le_refl _⟩, ⟨by repeat (first | (with_reducible first | exact HB.out | apply below_alloc | apply pw_below_drewN | apply below_drew1) | exact HB.out)⟩⟩
  case round =>
    clear H'
    try clear c1
    try clear p2
    obtain ⟨x5_1, x6_1, rfl, rfl, HA, HK1, HB⟩ := hrel
    cases gk with
    | zero => exact absurd HA.out (by simp [glossatorref01_Cut.l0])
    | succ k1 =>
      have H := HA.out
      clear HA
      simp only [glossatorref01_Cut.l0] at H
      by_cases c3 : x5_1 < (a0.size : Int)
      · rw [if_pos c3] at H
        have c3b0 : decide (x5_1 < (a0.size : Int)) = true := decide_eq_true c3
        clear c3
        replace H := Option.bind_eq_some_iff.mp H
        obtain ⟨⟨t149, t150⟩, A40, H⟩ := H
        replace H : (if (wrap64 (x6_1 + t150)) > a1 then (some x5_1) else (glossatorref01_Cut.l0 k1 a0 a1 (wrap64 (x5_1 + t149)) (wrap64 (x6_1 + t150)))) = some r := H
        have A4 := Aside0.mk A40
        clear A40
        by_cases c5 : (wrap64 (x6_1 + t150)) > a1
        · rw [if_pos c5] at H
          have c5b0 : decide (a1 < (wrap64 (x6_1 + t150))) = true := decide_eq_true c5
          clear c5
          obtain rfl := Option.some.inj H
          go_wp2_with (first | ((with_reducible refine gate_callee (f := 22) rfl ?_); refine goesL_ (some 16) rfl rfl Try.func22 (by kernel_rfl) rfl #[.string a0, .int .i64 x5_1] rfl (by (try simp only [List.map_toArray, List.map_cons, List.map_nil]); first | done | rfl | (simp only [List.length_drop, List.length_take]; rfl)) ?_; (with_reducible refine (glossatorref01_step.calls k1 a0 x5_1 t149 t150 _ A4.out).mono ?_); rintro e w6 ⟨rfl, hb⟩; refine ⟨_, rfl, ?_⟩; have n0_ := Aside0.mk (below_step (by repeat (first | (with_reducible first | exact HB.out | apply below_alloc | apply pw_below_drewN | apply below_drew1) | exact HB.out)) hb); clear HB; have HB := n0_; clear n0_; (try clear hb); (try clear hb2); (try clear hk); (try clear hi)))
          go_ret
          exact ⟨by first | rfl | (simp [errW_none, errW_some] <;> rfl) | (simp [*, errW_none, errW_some] <;> rfl), by repeat (first | (with_reducible first | exact HB.out | apply below_alloc | apply pw_below_drewN | apply below_drew1) | exact HB.out)⟩
        · rw [if_neg c5] at H
          have c5b0 : decide (a1 < (wrap64 (x6_1 + t150))) = false := decide_eq_false c5
          clear c5
          have H' := Aside0.mk H
          clear H
          go_wp2_with (first | ((with_reducible refine gate_callee (f := 22) rfl ?_); refine goesL_ (some 16) rfl rfl Try.func22 (by kernel_rfl) rfl #[.string a0, .int .i64 x5_1] rfl (by (try simp only [List.map_toArray, List.map_cons, List.map_nil]); first | done | rfl | (simp only [List.length_drop, List.length_take]; rfl)) ?_; (with_reducible refine (glossatorref01_step.calls k1 a0 x5_1 t149 t150 _ A4.out).mono ?_); rintro e w7 ⟨rfl, hb⟩; refine ⟨_, rfl, ?_⟩; have n0_ := Aside0.mk (below_step (by repeat (first | (with_reducible first | exact HB.out | apply below_alloc | apply pw_below_drewN | apply below_drew1) | exact HB.out)) hb); clear HB; have HB := n0_; clear n0_; (try clear hb); (try clear hb2); (try clear hk); (try clear hi)))
          go_roundg k1
          case measure => have := HK1.out; omega
          case rel => exact ⟨(wrap64 (x5_1 + t149)), (wrap64 (x6_1 + t150)), (by first | rfl | (simp; done) | (simp [*]; done)), (by first | rfl | (simp; done) | (simp [*]; done)), H', ⟨by have := HK1.out; omega⟩, ⟨by repeat (first | (with_reducible first | exact HB.out | apply below_alloc | apply pw_below_drewN | apply below_drew1) | exact HB.out)⟩⟩
      · rw [if_neg c3] at H
        have c3b0 : decide (x5_1 < (a0.size : Int)) = false := decide_eq_false c3
        clear c3
        obtain rfl := Option.some.inj H
        go_wp2
        go_ret
        exact ⟨by first | rfl | (simp [errW_none, errW_some] <;> rfl) | (simp [*, errW_none, errW_some] <;> rfl), by repeat (first | (with_reducible first | exact HB.out | apply below_alloc | apply pw_below_drewN | apply below_drew1) | exact HB.out)⟩

/-! ### glossatorlaw01_UtfUnits: function 4 -/
def glossatorlaw01_UtfUnits.f (k : Nat) (a0 : ByteArray) (a1 : Int) : Option (Bool) := (glossatorlaw01_long.f k (([a0] : List ByteArray))).bind fun t154 => (if t154 = true then (some true) else ((utf_Units.f a0).bind fun t155 => ((glossatorref01_Units.f k a0).bind fun t156 => (if t155 = t156 then ((utf_Cut.f a0 a1).bind fun t157 => ((glossatorref01_Cut.f k a0 a1).bind fun t158 => (some (t157 == t158)))) else (some false)))))
theorem glossatorlaw01_UtfUnits.mono : ∀ a0 a1 k, LeO (glossatorlaw01_UtfUnits.f k a0 a1) (glossatorlaw01_UtfUnits.f (k + 1) a0 a1) := by
  intro a0 a1 k
  unfold glossatorlaw01_UtfUnits.f
  repeat' first
      | (with_reducible exact glossatorlaw01_long.mono _ _)
      | (with_reducible exact glossatorref01_Cut.mono _ _ _)
      | (with_reducible exact glossatorref01_Units.mono _ _)
      | (with_reducible exact LeO.refl _)
      | (with_reducible exact LeO.none _)
      | (with_reducible refine LeO.ite ?_ ?_)
      | (with_reducible refine LeO.bind ?_ (fun _ => ?_))
      | exact glossatorlaw01_long.mono _ _
      | exact glossatorref01_Cut.mono _ _ _
      | exact glossatorref01_Units.mono _ _
      | exact LeO.none _
      | refine LeO.ite ?_ ?_
      | refine LeO.bind ?_ (fun _ => ?_)
set_option maxHeartbeats 8000000 in
set_option maxRecDepth 100000 in
theorem glossatorlaw01_UtfUnits.calls (k : Nat) (a0 : ByteArray) (a1 : Int) (r : Bool) (w : World) (h : glossatorlaw01_UtfUnits.f k a0 a1 = some r) :
    Calls Try.prog 4 #[.string a0, .int .i64 a1] w fun e w' => e = .returned (.bool r) ∧ Below w.heap.size w w' := by
  have HB := Aside0.mk (Below.refl w.heap.size w)
  have H : ((glossatorlaw01_long.f k (([a0] : List ByteArray))).bind fun t154 => (if t154 = true then (some true) else ((utf_Units.f a0).bind fun t155 => ((glossatorref01_Units.f k a0).bind fun t156 => (if t155 = t156 then ((utf_Cut.f a0 a1).bind fun t157 => ((glossatorref01_Cut.f k a0 a1).bind fun t158 => (some (t157 == t158)))) else (some false)))))) = some r := h
  clear h
  obtain ⟨y151, hy151⟩ : ∃ y_ : List ByteArray, y_ = (([a0] : List ByteArray)) := ⟨_, rfl⟩
  replace H : ((glossatorlaw01_long.f k y151).bind fun t154 => (if t154 = true then (some true) else ((utf_Units.f a0).bind fun t155 => ((glossatorref01_Units.f k a0).bind fun t156 => (if t155 = t156 then ((utf_Cut.f a0 a1).bind fun t157 => ((glossatorref01_Cut.f k a0 a1).bind fun t158 => (some (t157 == t158)))) else (some false)))))) = some r := by first | (rw [hy151]; with_reducible exact H) | (have H2_ := (Option.bind_some _ _).symm.trans H; rw [hy151]; with_reducible exact H2_) | (have H2_ := (Option.bind_some _ _).symm.trans H; with_reducible exact H2_) | with_reducible exact H | (rw [hy151]; exact H) | exact H
  have Ny151 := Aside0.mk hy151
  clear hy151
  replace H := Option.bind_eq_some_iff.mp H
  obtain ⟨t154, A30, H⟩ := H
  replace H : (if t154 = true then (some true) else ((utf_Units.f a0).bind fun t155 => ((glossatorref01_Units.f k a0).bind fun t156 => (if t155 = t156 then ((utf_Cut.f a0 a1).bind fun t157 => ((glossatorref01_Cut.f k a0 a1).bind fun t158 => (some (t157 == t158)))) else (some false))))) = some r := H
  have A3 := Aside0.mk A30
  clear A30
  by_cases c4 : t154 = true
  · subst c4
    have H1 : (some true) = some r := by rw [if_pos rfl] at H; exact H
    clear H
    have H := H1
    clear H1
    obtain rfl := Option.some.inj H
    go_enter Try.func4, Try.ntmps4
    go_wp2_with (first | ((with_reducible refine gate_dst (N := 6) rfl ?_); refine Kd.R_lit Kd.string _ 9 ?hg (N := 6) ?hd (xs := ([a0] : List ByteArray)) (inner := [.string a0]) (ok := fun _ => True) (okp := fun _ => True) ?hr ?hp (fun _ hk => hk) trivial (Below.refl _ _) (Nat.le_refl _) (by simp) ?_; (case hd => rfl); (case hg => rfl); (case hr => first | (go_simp; done) | (go_simp; rfl)); (case hp => exact (Reps.one (show Kd.M Kd.string _ _ _ a0 [.string a0] from rfl) (Reps.none _ _))); intro v152 w5 ho6 hb hg_ hnew_; clear hg_ hnew_; (first | rw [← Ny151.out] at ho6 | (simp only [Int.reduceToNat] at ho6; rw [← Ny151.out] at ho6)); have n0_ := Aside0.mk (Kd.R_lower ho6 (below_size (by repeat (first | (with_reducible first | exact HB.out | apply below_alloc | apply pw_below_drewN | apply below_drew1) | exact HB.out)))); have n1_ := Aside0.mk (below_step (by repeat (first | (with_reducible first | exact HB.out | apply below_alloc | apply pw_below_drewN | apply below_drew1) | exact HB.out)) hb); clear HB; have HO153 := n0_; have HB := n1_; clear n0_ n1_; clear hb ho6; obtain ⟨Ao7, co7, eo7⟩ := Kd.R_slice HO153.out; subst eo7) | ((with_reducible refine gate_callee (f := 9) rfl ?_); refine goesL_ (some 7) rfl rfl Try.func9 (by kernel_rfl) rfl #[.slice Ao7 y151.length co7] rfl (by (try simp only [List.map_toArray, List.map_cons, List.map_nil]); first | done | rfl | (simp only [List.length_drop, List.length_take]; rfl)) ?_; (with_reducible refine (glossatorlaw01_long.calls k _ _ y151 true _ ?side1 ?side2 A3.out).mono ?_); (case side1 => repeat (first | exact (Kd.R_reads' HO153.out).2.2 | (with_reducible refine Kd.C_alloc ?_ _) | (with_reducible refine Kd.C_drewN ?_ _) | (with_reducible refine Kd.C_drew ?_))); (case side2 => exact (Kd.R_reads' HO153.out).2.1); rintro e w8 ⟨rfl, hb⟩; refine ⟨_, rfl, ?_⟩; have n0_ := Aside0.mk (Kd.R_below (by (with_reducible repeat (first | apply Kd.R_alloc | apply Kd.R_drewN | apply Kd.R_drew)); exact HO153.out) hb); have n1_ := Aside0.mk (below_step (by repeat (first | (with_reducible first | exact HB.out | apply below_alloc | apply pw_below_drewN | apply below_drew1) | exact HB.out)) hb); clear HO153; clear HB; have HO153 := n0_; have HB := n1_; clear n0_ n1_; (try clear hb); (try clear hb2); (try clear hk); (try clear hi)))
    go_ret
    exact ⟨by first | rfl | (simp [errW_none, errW_some] <;> rfl) | (simp [*, errW_none, errW_some] <;> rfl), by repeat (first | (with_reducible first | exact HB.out | apply below_alloc | apply pw_below_drewN | apply below_drew1) | exact HB.out)⟩
  · replace c4 := Bool.eq_false_iff.mpr c4
    subst c4
    have H1 : ((utf_Units.f a0).bind fun t155 => ((glossatorref01_Units.f k a0).bind fun t156 => (if t155 = t156 then ((utf_Cut.f a0 a1).bind fun t157 => ((glossatorref01_Cut.f k a0 a1).bind fun t158 => (some (t157 == t158)))) else (some false)))) = some r := by rw [if_neg (show ¬ (false = true) by decide)] at H; exact H
    clear H
    have H := H1
    clear H1
    replace H := Option.bind_eq_some_iff.mp H
    obtain ⟨t155, A90, H⟩ := H
    replace H : ((glossatorref01_Units.f k a0).bind fun t156 => (if t155 = t156 then ((utf_Cut.f a0 a1).bind fun t157 => ((glossatorref01_Cut.f k a0 a1).bind fun t158 => (some (t157 == t158)))) else (some false))) = some r := H
    have A9 := Aside0.mk A90
    clear A90
    replace H := Option.bind_eq_some_iff.mp H
    obtain ⟨t156, A100, H⟩ := H
    replace H : (if t155 = t156 then ((utf_Cut.f a0 a1).bind fun t157 => ((glossatorref01_Cut.f k a0 a1).bind fun t158 => (some (t157 == t158)))) else (some false)) = some r := H
    have A10 := Aside0.mk A100
    clear A100
    by_cases c11 : t155 = t156
    · rw [if_pos c11] at H
      have c11b0 : (t155 == t156) = true := beq_iff_eq.mpr c11
      have c11b1 : (t155 != t156) = false := bne_eq_false_iff_eq.mpr c11
      clear c11
      replace H := Option.bind_eq_some_iff.mp H
      obtain ⟨t157, A120, H⟩ := H
      replace H : ((glossatorref01_Cut.f k a0 a1).bind fun t158 => (some (t157 == t158))) = some r := H
      have A12 := Aside0.mk A120
      clear A120
      replace H := Option.bind_eq_some_iff.mp H
      obtain ⟨t158, A130, H⟩ := H
      replace H : (some (t157 == t158)) = some r := H
      have A13 := Aside0.mk A130
      clear A130
      obtain rfl := Option.some.inj H
      go_enter Try.func4, Try.ntmps4
      go_wp2_with (first | ((with_reducible refine gate_dst (N := 6) rfl ?_); refine Kd.R_lit Kd.string _ 9 ?hg (N := 6) ?hd (xs := ([a0] : List ByteArray)) (inner := [.string a0]) (ok := fun _ => True) (okp := fun _ => True) ?hr ?hp (fun _ hk => hk) trivial (Below.refl _ _) (Nat.le_refl _) (by simp) ?_; (case hd => rfl); (case hg => rfl); (case hr => first | (go_simp; done) | (go_simp; rfl)); (case hp => exact (Reps.one (show Kd.M Kd.string _ _ _ a0 [.string a0] from rfl) (Reps.none _ _))); intro v152 w14 ho15 hb hg_ hnew_; clear hg_ hnew_; (first | rw [← Ny151.out] at ho15 | (simp only [Int.reduceToNat] at ho15; rw [← Ny151.out] at ho15)); have n0_ := Aside0.mk (Kd.R_lower ho15 (below_size (by repeat (first | (with_reducible first | exact HB.out | apply below_alloc | apply pw_below_drewN | apply below_drew1) | exact HB.out)))); have n1_ := Aside0.mk (below_step (by repeat (first | (with_reducible first | exact HB.out | apply below_alloc | apply pw_below_drewN | apply below_drew1) | exact HB.out)) hb); clear HB; have HO153 := n0_; have HB := n1_; clear n0_ n1_; clear hb ho15; obtain ⟨Ao16, co16, eo16⟩ := Kd.R_slice HO153.out; subst eo16) | ((with_reducible refine gate_callee (f := 9) rfl ?_); refine goesL_ (some 7) rfl rfl Try.func9 (by kernel_rfl) rfl #[.slice Ao16 y151.length co16] rfl (by (try simp only [List.map_toArray, List.map_cons, List.map_nil]); first | done | rfl | (simp only [List.length_drop, List.length_take]; rfl)) ?_; (with_reducible refine (glossatorlaw01_long.calls k _ _ y151 false _ ?side1 ?side2 A3.out).mono ?_); (case side1 => repeat (first | exact (Kd.R_reads' HO153.out).2.2 | (with_reducible refine Kd.C_alloc ?_ _) | (with_reducible refine Kd.C_drewN ?_ _) | (with_reducible refine Kd.C_drew ?_))); (case side2 => exact (Kd.R_reads' HO153.out).2.1); rintro e w17 ⟨rfl, hb⟩; refine ⟨_, rfl, ?_⟩; have n0_ := Aside0.mk (Kd.R_below (by (with_reducible repeat (first | apply Kd.R_alloc | apply Kd.R_drewN | apply Kd.R_drew)); exact HO153.out) hb); have n1_ := Aside0.mk (below_step (by repeat (first | (with_reducible first | exact HB.out | apply below_alloc | apply pw_below_drewN | apply below_drew1) | exact HB.out)) hb); clear HO153; clear HB; have HO153 := n0_; have HB := n1_; clear n0_ n1_; (try clear hb); (try clear hb2); (try clear hk); (try clear hi)) | (go_at_call 10; (with_reducible refine (utf_Units.calls a0 t155 _ A9.out).mono ?_); rintro e w18 ⟨rfl, hb⟩; have n0_ := Aside0.mk (Kd.R_below (by (with_reducible repeat (first | apply Kd.R_alloc | apply Kd.R_drewN | apply Kd.R_drew)); exact HO153.out) hb); have n1_ := Aside0.mk (below_step (by repeat (first | (with_reducible first | exact HB.out | apply below_alloc | apply pw_below_drewN | apply below_drew1) | exact HB.out)) hb); clear HO153; clear HB; have HO153 := n0_; have HB := n1_; clear n0_ n1_; (try clear hb); (try clear hb2); (try clear hk); (try clear hi)) | (go_at_call 11; (with_reducible refine (glossatorref01_Units.calls k a0 t156 _ A10.out).mono ?_); rintro e w19 ⟨rfl, hb⟩; have n0_ := Aside0.mk (Kd.R_below (by (with_reducible repeat (first | apply Kd.R_alloc | apply Kd.R_drewN | apply Kd.R_drew)); exact HO153.out) hb); have n1_ := Aside0.mk (below_step (by repeat (first | (with_reducible first | exact HB.out | apply below_alloc | apply pw_below_drewN | apply below_drew1) | exact HB.out)) hb); clear HO153; clear HB; have HO153 := n0_; have HB := n1_; clear n0_ n1_; (try clear hb); (try clear hb2); (try clear hk); (try clear hi)) | (go_at_call 12; (with_reducible refine (utf_Cut.calls a0 a1 t157 _ A12.out).mono ?_); rintro e w20 ⟨rfl, hb⟩; have n0_ := Aside0.mk (Kd.R_below (by (with_reducible repeat (first | apply Kd.R_alloc | apply Kd.R_drewN | apply Kd.R_drew)); exact HO153.out) hb); have n1_ := Aside0.mk (below_step (by repeat (first | (with_reducible first | exact HB.out | apply below_alloc | apply pw_below_drewN | apply below_drew1) | exact HB.out)) hb); clear HO153; clear HB; have HO153 := n0_; have HB := n1_; clear n0_ n1_; (try clear hb); (try clear hb2); (try clear hk); (try clear hi)) | (go_at_call 13; (with_reducible refine (glossatorref01_Cut.calls k a0 a1 t158 _ A13.out).mono ?_); rintro e w21 ⟨rfl, hb⟩; have n0_ := Aside0.mk (Kd.R_below (by (with_reducible repeat (first | apply Kd.R_alloc | apply Kd.R_drewN | apply Kd.R_drew)); exact HO153.out) hb); have n1_ := Aside0.mk (below_step (by repeat (first | (with_reducible first | exact HB.out | apply below_alloc | apply pw_below_drewN | apply below_drew1) | exact HB.out)) hb); clear HO153; clear HB; have HO153 := n0_; have HB := n1_; clear n0_ n1_; (try clear hb); (try clear hb2); (try clear hk); (try clear hi)))
      go_ret
      exact ⟨by first | rfl | (simp [errW_none, errW_some] <;> rfl) | (simp [*, errW_none, errW_some] <;> rfl), by repeat (first | (with_reducible first | exact HB.out | apply below_alloc | apply pw_below_drewN | apply below_drew1) | exact HB.out)⟩
    · rw [if_neg c11] at H
      have c11b0 : (t155 == t156) = false := beq_eq_false_iff_ne.mpr c11
      have c11b1 : (t155 != t156) = true := bne_iff_ne.mpr c11
      obtain rfl := Option.some.inj H
      go_enter Try.func4, Try.ntmps4
      go_wp2_with (first | ((with_reducible refine gate_dst (N := 6) rfl ?_); refine Kd.R_lit Kd.string _ 9 ?hg (N := 6) ?hd (xs := ([a0] : List ByteArray)) (inner := [.string a0]) (ok := fun _ => True) (okp := fun _ => True) ?hr ?hp (fun _ hk => hk) trivial (Below.refl _ _) (Nat.le_refl _) (by simp) ?_; (case hd => rfl); (case hg => rfl); (case hr => first | (go_simp; done) | (go_simp; rfl)); (case hp => exact (Reps.one (show Kd.M Kd.string _ _ _ a0 [.string a0] from rfl) (Reps.none _ _))); intro v152 w22 ho23 hb hg_ hnew_; clear hg_ hnew_; (first | rw [← Ny151.out] at ho23 | (simp only [Int.reduceToNat] at ho23; rw [← Ny151.out] at ho23)); have n0_ := Aside0.mk (Kd.R_lower ho23 (below_size (by repeat (first | (with_reducible first | exact HB.out | apply below_alloc | apply pw_below_drewN | apply below_drew1) | exact HB.out)))); have n1_ := Aside0.mk (below_step (by repeat (first | (with_reducible first | exact HB.out | apply below_alloc | apply pw_below_drewN | apply below_drew1) | exact HB.out)) hb); clear HB; have HO153 := n0_; have HB := n1_; clear n0_ n1_; clear hb ho23; obtain ⟨Ao24, co24, eo24⟩ := Kd.R_slice HO153.out; subst eo24) | ((with_reducible refine gate_callee (f := 9) rfl ?_); refine goesL_ (some 7) rfl rfl Try.func9 (by kernel_rfl) rfl #[.slice Ao24 y151.length co24] rfl (by (try simp only [List.map_toArray, List.map_cons, List.map_nil]); first | done | rfl | (simp only [List.length_drop, List.length_take]; rfl)) ?_; (with_reducible refine (glossatorlaw01_long.calls k _ _ y151 false _ ?side1 ?side2 A3.out).mono ?_); (case side1 => repeat (first | exact (Kd.R_reads' HO153.out).2.2 | (with_reducible refine Kd.C_alloc ?_ _) | (with_reducible refine Kd.C_drewN ?_ _) | (with_reducible refine Kd.C_drew ?_))); (case side2 => exact (Kd.R_reads' HO153.out).2.1); rintro e w25 ⟨rfl, hb⟩; refine ⟨_, rfl, ?_⟩; have n0_ := Aside0.mk (Kd.R_below (by (with_reducible repeat (first | apply Kd.R_alloc | apply Kd.R_drewN | apply Kd.R_drew)); exact HO153.out) hb); have n1_ := Aside0.mk (below_step (by repeat (first | (with_reducible first | exact HB.out | apply below_alloc | apply pw_below_drewN | apply below_drew1) | exact HB.out)) hb); clear HO153; clear HB; have HO153 := n0_; have HB := n1_; clear n0_ n1_; (try clear hb); (try clear hb2); (try clear hk); (try clear hi)) | (go_at_call 10; (with_reducible refine (utf_Units.calls a0 t155 _ A9.out).mono ?_); rintro e w26 ⟨rfl, hb⟩; have n0_ := Aside0.mk (Kd.R_below (by (with_reducible repeat (first | apply Kd.R_alloc | apply Kd.R_drewN | apply Kd.R_drew)); exact HO153.out) hb); have n1_ := Aside0.mk (below_step (by repeat (first | (with_reducible first | exact HB.out | apply below_alloc | apply pw_below_drewN | apply below_drew1) | exact HB.out)) hb); clear HO153; clear HB; have HO153 := n0_; have HB := n1_; clear n0_ n1_; (try clear hb); (try clear hb2); (try clear hk); (try clear hi)) | (go_at_call 11; (with_reducible refine (glossatorref01_Units.calls k a0 t156 _ A10.out).mono ?_); rintro e w27 ⟨rfl, hb⟩; have n0_ := Aside0.mk (Kd.R_below (by (with_reducible repeat (first | apply Kd.R_alloc | apply Kd.R_drewN | apply Kd.R_drew)); exact HO153.out) hb); have n1_ := Aside0.mk (below_step (by repeat (first | (with_reducible first | exact HB.out | apply below_alloc | apply pw_below_drewN | apply below_drew1) | exact HB.out)) hb); clear HO153; clear HB; have HO153 := n0_; have HB := n1_; clear n0_ n1_; (try clear hb); (try clear hb2); (try clear hk); (try clear hi)))
      go_ret
      exact ⟨by first | rfl | (simp [errW_none, errW_some] <;> rfl) | (simp [*, errW_none, errW_some] <;> rfl), by repeat (first | (with_reducible first | exact HB.out | apply below_alloc | apply pw_below_drewN | apply below_drew1) | exact HB.out)⟩

/-- THE ONE PURE STATEMENT of glossatorlaw01_UtfUnits. -/
def glossatorlaw01_UtfUnits.Pure : Prop := ∀ (p0 : ByteArray) (p1 : Int), p0.size ≤ 140737488351232 → (Lit.int .i64 p1).wf = true → ∃ k, glossatorlaw01_UtfUnits.f k p0 p1 = some true
/-- The same, where what is handed in is small. -/
def glossatorlaw01_UtfUnits.PureUpto : Prop := ∀ (p0 : ByteArray) (p1 : Int), p0.size ≤ 140737488351232 → (Lit.int .i64 p1).wf = true → (p0.size + 1) + 1 ≤ 1048576 → ∃ k, glossatorlaw01_UtfUnits.f k p0 p1 = some true

/-! ### lines_with: function 24 -/
def lines_with.f (l0 : List Int) (l1 : List Int) : Option (List Int) := if l0.length + l1.length < 17592186044416 then (some (l0 ++ l1)) else (none)
set_option maxHeartbeats 8000000 in
set_option maxRecDepth 100000 in
theorem lines_with.calls (P0_ : Nat → Prop) (u9000_ : Value) (l0 : List Int) (A1 : Option Addr) (c1 : Nat) (l1 : List Int) (r : List Int) (w0 w : World) (hB : Below w0.heap.size w0 w) (ho0 : Kd.R (Kd.int .i64) 3 w w0.heap.size P0_ u9000_ l0) (hr1 : ∀ W_, Kept w W_ (fun k_ => P0_ k_) → Kd.C (Kd.int .i64) W_ A1 l1.length l1) (hc1 : l1.length ≤ c1) (h : lines_with.f l0 l1 = some r) :
    Calls Try.prog 24 #[u9000_, .slice A1 l1.length c1] w fun e w' => ∃ v0_ : Value, e = .returned (v0_) ∧ Kd.R (Kd.int .i64) 3 w' w0.heap.size (fun k_ => (P0_ k_ ∨ w.heap.size ≤ k_)) v0_ r ∧ Below w0.heap.size w0 w' ∧ Kept w w' (fun k_ => P0_ k_) := by
  have HO0 := Aside0.mk (show Kd.R (Kd.int .i64) 3 w w0.heap.size (fun k_ => (P0_ k_ ∨ w.heap.size ≤ k_)) u9000_ l0 from Kd.R_mono ho0 (fun k_ hk => (.inl hk)))
  have HR1 := Aside0.mk hr1
  have HC1 := Aside0.mk hc1
  clear hr1 hc1
  have HK := Aside0.mk (Kept.refl w (fun k_ => P0_ k_))
  have HW0 := Aside0.mk hB.size
  have HB := Aside0.mk hB
  clear hB
  have H : (if l0.length + l1.length < 17592186044416 then (some (l0 ++ l1)) else (none)) = some r := h
  clear h
  by_cases c3 : l0.length + l1.length < 17592186044416
  · rw [if_pos c3] at H
    have LMc3 := Aside0.mk c3
    clear c3
    obtain ⟨y159, hy159⟩ : ∃ y_ : List Int, y_ = (l0 ++ l1) := ⟨_, rfl⟩
    replace H : (some y159) = some r := by first | (rw [hy159]; with_reducible exact H) | (have H2_ := (Option.bind_some _ _).symm.trans H; rw [hy159]; with_reducible exact H2_) | (have H2_ := (Option.bind_some _ _).symm.trans H; with_reducible exact H2_) | with_reducible exact H | (rw [hy159]; exact H) | exact H
    have Ny159 := Aside0.mk hy159
    clear hy159
    obtain rfl := Option.some.inj H
    go_enter Try.func24, Try.ntmps24
    go_wp2_with (first | ((with_reducible refine gate_builtin (b := .append) (xs := #[.tmp 5, .tmp 6]) rfl ?_); at_builtin; refine Kd.R_append_rows (Kd.int .i64) (w0 := w0) w0.heap.size rfl (.tmp 5) (.tmp 6) 36 3 (.int .i64 0) 8 rfl Try.underlying36 info3 rfl (by decide) (by omega) u9000_ l0 l1 _ _ _ (fun k_ => (P0_ k_ ∨ w.heap.size ≤ k_)) (fun _ => False) rfl rfl ?aO ?aR (fun _ _ h => h) (fun _ h => h.elim) ?aF ?aB ?aS ?aL ?_; (case aR => exact Kd.C_kept_now HR1.out (by repeat (first | (with_reducible first | exact HK.out | apply Kept.alloc | apply Kept.drewN | apply Kept.drew) | exact HK.out))); (case aB => exact (by repeat (first | (with_reducible first | exact HB.out | apply below_alloc | apply pw_below_drewN | apply below_drew1) | exact HB.out))); (case aF => exact (fun k_ hk => (.inr (Nat.le_trans (by first | exact HK.out.1 | exact (show Kept w _ (fun k_ => P0_ k_) from by repeat (first | (with_reducible first | exact HK.out | apply Kept.alloc | apply Kept.drewN | apply Kept.drew) | exact HK.out)).1) hk)))); (case aO => exact (by (with_reducible repeat (first | apply Kd.R_alloc | apply Kd.R_drewN | apply Kd.R_drew)); exact HO0.out)); (case aS => exact (below_size (by repeat (first | (with_reducible first | exact HB.out | apply below_alloc | apply pw_below_drewN | apply below_drew1) | exact HB.out)))); (case aL => have := LMc3.out; omega); intro v160 w4 ho hb hg hat; rw [← Ny159.out] at ho; have n0_ := Aside0.mk (hb); have n1_ := Aside0.mk (Kept.of_grown (S := (fun k_ => P0_ k_)) hg (by repeat (first | (with_reducible first | exact HK.out | apply Kept.alloc | apply Kept.drewN | apply Kept.drew) | exact HK.out)) (fun k_ e_ => (HO0.out.1 k_ e_))); have n2_ := Aside0.mk (ho); clear HB; clear HK; clear HO0; have HB := n0_; have HK := n1_; have HO161 := n2_; clear n0_ n1_ n2_; clear ho hb hg hat))
    go_ret
    exact ⟨_, by first | rfl | (simp [errW_none, errW_some] <;> rfl) | (simp [*, errW_none, errW_some] <;> rfl), by (with_reducible repeat (first | apply Kd.R_alloc | apply Kd.R_drewN | apply Kd.R_drew)); exact HO161.out, by repeat (first | (with_reducible first | exact HB.out | apply below_alloc | apply pw_below_drewN | apply below_drew1) | exact HB.out), by repeat (first | (with_reducible first | exact HK.out | apply Kept.alloc | apply Kept.drewN | apply Kept.drew) | exact HK.out)⟩
  · rw [if_neg c3] at H
    exact absurd H (by simp)

/-! ### lines_Starts: function 14 (by hand) -/
attribute [local go_sem] Oper.semAt_some
theorem lnsFrom_len {s : ByteArray} : ∀ f n a, (lnsFrom s f n a).length ≤ f + 1
  | 0, _, _ => by simp [lnsFrom]
  | f + 1, n, a => by
    unfold lnsFrom
    split
    · simp
    · have := lnsFrom_len (s := s) f (n + 1) (nxt s (a + (kf s a).toNat))
      simp only [List.length_cons]; omega
def begs {s : ByteArray} (l : List (Ln s)) : List Int := l.map fun x => (x.1.2.1 : Int)
def lines_Starts.f (a0 : ByteArray) : Option (List Int) := if a0.size < 4294967281 then some (begs (lns a0)) else none
/-- The blocks of whole numbers that were laid since. -/
def OwnInts (w W : World) (k : Nat) : Prop := w.heap.size ≤ k ∧ k < W.heap.size ∧ ∃ cells, W.heap[k]? = some (.cells cells 3 (0, 0))
theorem ownInts_of {w W : World} {v : Value} {xs : List Int} (h : Kd.R (Kd.int .i64) 3 W w.heap.size (fun _ => True) v xs) : Kd.R (Kd.int .i64) 3 W w.heap.size (OwnInts w W) v xs :=
  Kd.R_mono (Kd.R_bound h) (fun k hk => ⟨hk.2.1, hk.2.2.1, by
    obtain ⟨q, hq, c, hc⟩ := hk.2.2.2
    have : q = 3 := by simpa [Kd.int, Kd.scalar] using hq
    subst this; exact ⟨c, hc⟩⟩)
theorem boxed_ints {w W : World} {B : Nat} {t : TypeId} {v : Value} (h : Boxed W B t v) (hk : OwnInts w W B) (ht : t ≠ 3 := by decide) : False := by
  obtain ⟨_, _, cells, hc⟩ := hk
  rw [show W.heap[B]? = _ from h] at hc
  injection hc with hc
  injection hc with _ hc
  exact ht hc
theorem keeps_ints {w W w' : World} {B : Nat} {o : Obj} (h : Kept (W.alloc o) w' (fun k_ => OwnInts w W k_)) : KeepsFrom B (W.alloc o) w' := by
  refine ⟨h.1, fun k o' _ hk ho => ?_⟩
  refine (h.2 k (Array.getElem?_eq_some_iff.1 hk).1 (fun hw => ?_)).trans hk
  obtain ⟨_, hlt, cells, hc⟩ := hw
  rw [Below.heap_alloc W o k hlt, hc] at hk
  cases hk
  cases ho
theorem rowInts_own {β : Type} (w : World) (B : Nat) (t : TypeId) (f : β → List Int) : Own (fun s W => ∃ v, Boxed W B t v ∧ Kd.R (Kd.int .i64) 3 W w.heap.size (fun _ => True) v (f s)) := by
  rintro s X Y row ⟨v, hv, hR⟩ hg hrow
  refine ⟨v, hv.kept hg (fun e' => ?_), Kd.R_mono (Kd.R_step (ownInts_of hR) (fun k hk hlt => hg.block k hlt (fun e => ?_))) (fun _ _ => trivial)⟩
  · obtain ⟨o, ho, hc⟩ := hrow B e'.symm
    rw [show X.heap[B]? = _ from hv] at ho; cases ho; cases hc
  · obtain ⟨o, ho, hc⟩ := hrow k e.symm
    obtain ⟨_, _, cells, hcc⟩ := hk
    rw [hcc] at ho; cases ho; cases hc
set_option maxRecDepth 100000 in
set_option maxHeartbeats 2000000 in
theorem lines_Starts.calls (a0 : ByteArray) (r : List Int) (w : World) (h : lines_Starts.f a0 = some r) :
    Calls Try.prog 14 #[.string a0] w fun e w' => ∃ v0_ : Value, e = .returned v0_ ∧ Kd.R (Kd.int .i64) 3 w' w.heap.size (fun _ => True) v0_ r ∧ Below w.heap.size w w' := by
  unfold lines_Starts.f at h
  split at h
  case isFalse => cases h
  rename_i hs
  obtain rfl := Option.some.inj h
  refine (callsIn_wide (n := 3)).1 ?_
  refine callsIn_of_wp_marks Try.func14 rfl trivial ?_ rfl
  simp only [Try.ntmps14, List.size_toArray, List.length_cons, List.length_nil, Nat.reduceAdd, Nat.reduceSub, Array.replicate_succ, Array.replicate_zero, List.push_toArray, List.append_toArray, List.nil_append, List.cons_append]
  gi_wp2_with (refine ⟨trivial, ?_⟩; gi_at_call 23; refine (each_in _ _ _).mono ?_; rintro e w' ⟨rfl, rfl⟩)
  have bL := (Boxed.new w 36 (.slice none 0 0)).alloc (.cells #[.string a0] 9)
  have bS := Boxed.new (w.alloc (.cells #[.slice none 0 0] 36)) 9 (.string a0)
  have hB0 : Below w.heap.size w ((w.alloc (.cells #[.slice none 0 0] 36)).alloc (.cells #[.string a0] 9)) := ((Below.refl _ w).alloc (Nat.le_refl _) _).alloc (by simp) _
  simp only [World.size_alloc] at bS
  obtain ⟨W0, hW0⟩ : ∃ W0, ((w.alloc (.cells #[.slice none 0 0] 36)).alloc (.cells #[.string a0] 9)) = W0 := ⟨_, rfl⟩
  have hsz : W0.heap.size = w.heap.size + 2 := by rw [← hW0]; simp
  rw [hW0] at bL bS hB0 ⊢
  clear hW0
  refine wpIn_rangeFunc_ownH rfl (by decide) (gf := 27) (lb := #[.pointer (some ⟨w.heap.size + 1, 0, none⟩)]) rfl trivial (enters_of Try.func27 (by kernel_rfl) rfl)
    (each_stops a0 hs 2 (by decide) (w.heap.size + 1) _ bS) kbox_t (kbox_b (by omega)) (Below.refl _ _) (fun _ => rfl)
    (fun pre W => ((∃ v, Boxed W w.heap.size 36 v ∧ Kd.R (Kd.int .i64) 3 W w.heap.size (fun _ => True) v (begs pre)) ∧ Boxed W (w.heap.size + 1) 9 (.string a0)) ∧ Below w.heap.size w W)
    (fun _ _ _ => False)
    (OwnFrom.and (OwnFrom.and (Own.from (rowInts_own w _ _ (fun pre => begs pre)) _) (Own.from (boxed_own _ _ _) _)) (ownFrom_below (Nat.le_refl _) (by omega)))
    (fun _ _ _ _ _ hs _ _ => hs)
    ⟨⟨⟨_, bL, Kd.R_nil _ _ _ _ _⟩, bS⟩, hB0⟩
    (fun x a' W => ∃ Bx, w.heap.size + 1 < Bx ∧ Boxed2 W Bx 24 (.int .i64 x.1.2.1) (.int .i64 x.1.2.2) ∧ a' = { tmps := #[.string a0, undef, .slice none 0 0, .pointer (some ⟨w.heap.size, 0, none⟩), undef, .pointer (some ⟨Bx, 0, none⟩), .string a0, .func (.func 27) #[] #[.pointer (some ⟨w.heap.size + 1, 0, none⟩)], .int .i64 x.1.1, .agg #[.int .i64 x.1.2.1, .int .i64 x.1.2.2], undef, undef, undef, undef, undef, undef], defers := [] })
    (fun x a' _ X Y row hs hg hr => by obtain ⟨Bx, h1, h2, h3⟩ := hs; exact ⟨Bx, h1, boxed2_own Bx _ (fun (_ : Unit) => Value.int .i64 x.1.2.1) (fun (_ : Unit) => Value.int .i64 x.1.2.2) () X Y row h2 hg (fun r e => (hr r e).2), h3⟩)
    ?assign ?body ?done ?stop
  case assign =>
    rintro l pre x W K ⟨⟨⟨v, bL1, hR1⟩, bS1⟩, hB1⟩ hK
    simp only [encLn]
    gi_wp2
    exact hK _ _ ((KeepsOthers.alloc _ _).from _) (kbox_alloc _ _ bS1.lt) ⟨⟨⟨v, bL1.alloc _, Kd.R_below hR1 ((Below.refl _ _).alloc (Nat.le_refl _) _)⟩, bS1.alloc _⟩, hB1.alloc hB1.size _⟩ ⟨W.heap.size, bS1.lt, Boxed2.new W 24 _ _, rfl⟩
  case body =>
    rintro l pre x a' W hl _ ⟨⟨⟨v, bL1, hR1⟩, bS1⟩, hB1⟩ ⟨Bx, hBx, bx, rfl⟩ hlt
    have cL := bL1.cell
    have fL := bL1.frozen
    have cx0 := bx.cell0
    have cx1 := bx.cell1
    have hb1 : Below w.heap.size w (W.alloc (.cells #[.int .i64 x.1.2.1] 3)) := hB1.alloc hB1.size _
    have hf : lines_with.f (begs pre) [(x.1.2.1 : Int)] = some (begs (pre ++ [x])) := by
      unfold lines_with.f
      have h1 : (lns a0).length ≤ a0.size + 1 := lnsFrom_len _ _ _
      rw [if_pos (by rw [begs, List.length_map, List.length_singleton]; omega)]
      simp [begs]
    have hC : ∀ W_, Kept (W.alloc (.cells #[.int .i64 x.1.2.1] 3)) W_ (fun k_ => OwnInts w W k_) → Kd.C (Kd.int .i64) W_ (some ⟨W.heap.size, 0, none⟩) [(x.1.2.1 : Int)].length [(x.1.2.1 : Int)] := by
      intro W_ hk
      refine ⟨rfl, (by decide : (1 : Nat) ≤ 9223372036854775807), fun _ => ⟨_, rfl, fun j p hj => ?_⟩⟩
      obtain rfl : j = 0 := by
        have := (List.getElem?_eq_some_iff.1 hj).1
        simpa using this
      obtain rfl : (x.1.2.1 : Int) = p := by simpa using hj
      refine ⟨[.int .i64 x.1.2.1], rfl, rfl, fun i u hi => ?_⟩
      obtain rfl : i = 0 := by
        have := (List.getElem?_eq_some_iff.1 hi).1
        simpa using this
      obtain rfl : Value.int .i64 x.1.2.1 = u := by simpa using hi
      have hh := hk.2 W.heap.size (by simp) (fun h => by have := h.2.1; omega)
      rw [World.alloc_heap_new] at hh
      simp [World.cell?, Addr.add, hh]
    have hw := lines_with.calls (OwnInts w W) v (begs pre) (some ⟨W.heap.size, 0, none⟩) 1 [(x.1.2.1 : Int)] (begs (pre ++ [x])) w (W.alloc (.cells #[.int .i64 x.1.2.1] 3)) hb1 (Kd.R_below (ownInts_of hR1) ((Below.refl _ _).alloc (Nat.le_refl _) _)) hC (Nat.le_refl _) hf
    gi_wp2_with (refine ⟨trivial, ?_⟩; gi_at_call 24; refine (CallsIn.inRound l (callsIn_wide.2 hw)).mono ?_; clear hw; rintro e w' ⟨v0, rfl, hR2, hB2, hK2⟩; obtain ⟨A2, c2, rfl, hc2, _⟩ := hR2.2.reads; have bL2 : Boxed w' w.heap.size 36 v := (hK2.2 _ (by simp; have := bL1.lt; omega) (fun h => boxed_ints bL1 h)).trans (bL1.alloc _); have cL2 := bL2.cell; have fL2 := bL2.frozen)
    have hlt2 : w.heap.size + 1 < (W.alloc (.cells #[.int .i64 x.1.2.1] 3)).heap.size := by simp; have := bS1.lt; omega
    have bS2 : Boxed w' (w.heap.size + 1) 9 (.string a0) := (hK2.2 _ hlt2 (fun h => boxed_ints bS1 h)).trans (bS1.alloc _)
    refine ⟨((KeepsOthers.alloc _ _).from _).trans ((keeps_ints hK2).trans ((KeepsOthers.setCell _ _ _).from _)), ?_, ⟨⟨_, bL2.set _, ?_⟩, bS2.other (by simp) _⟩, hB2.setCell (p := ⟨w.heap.size, 0, none⟩) (Nat.le_refl _) _⟩
    · exact kbox_t (kbox_t (kbox_alloc _ _ bS1.lt) (hK2.2 _ hlt2 (fun h => boxed_ints bS1 h))) (kbox_set _ _ _ (by simp))
    · refine Kd.R_mono (Kd.R_far hR2 (fun k hk => ?_) _) (fun _ _ => trivial)
      rintro rfl
      rcases hk with hk | hk
      · exact boxed_ints bL1 hk
      · simp at hk; have := bL1.lt; omega
  case done =>
    rintro D ys W hD rfl ⟨⟨⟨v, bL1, hR1⟩, bS1⟩, hB1⟩ hK
    have cL := bL1.cell
    gi_wp2
    refine ⟨by simp, .inl ⟨_, _, rfl, run_takeDeferred hK, ?_⟩⟩
    refine ⟨_, results_tmp rfl _ _ _, v, rfl, Kd.R_mono (Kd.R_step (ownInts_of hR1) (fun k hk hlt => World.putObj_heap_other (fun e => ?_))) (fun _ _ => trivial), hB1.trans (belowK_b (w := w) (Nat.le_refl _) W D _ _ (by omega) hK rfl rfl)⟩
    subst e
    obtain ⟨_, _, cells, hc⟩ := hk
    rw [hc] at hK
    cases hK
  case stop =>
    rintro D c pre W _ _ h _
    exact h.elim

/-! ### lines_Line: function 15 (by hand) -/
attribute [local go_sem] Oper.semAt_some
def lineOf {s : ByteArray} (n : Int) (l : List (Ln s)) : Int × Int × Bool := match l.find? (fun x => decide ((x.1.1 : Int) = n)) with | none => (0, 0, false) | some x => (x.1.2.1, x.1.2.2, true)
def lines_Line.f (a0 : ByteArray) (a1 : Int) : Option (Int × Int × Bool) := if a0.size < 4294967281 then some (lineOf a1 (lns a0)) else none
theorem lineOf_hit {s : ByteArray} {a1 : Int} {pre : List (Ln s)} {x : Ln s} (h : pre.find? (fun x => decide ((x.1.1 : Int) = a1)) = none) (hx : (x.1.1 : Int) = a1) : lineOf a1 (pre ++ [x]) = ((x.1.2.1 : Int), (x.1.2.2 : Int), true) := by
  unfold lineOf
  rw [List.find?_append, h]
  simp [hx]
theorem lineOf_prefix {s : ByteArray} {a1 : Int} {pre l : List (Ln s)} (h : pre <+: l) (hl : (lineOf a1 pre).2.2 = true) : lineOf a1 l = lineOf a1 pre := by
  obtain ⟨r, rfl⟩ := h
  unfold lineOf at hl ⊢
  rw [List.find?_append]
  cases hf : pre.find? (fun x => decide ((x.1.1 : Int) = a1)) with
  | none => rw [hf] at hl; cases hl
  | some x => rfl
theorem lineOf_none {s : ByteArray} {a1 : Int} {l : List (Ln s)} (h : l.find? (fun x => decide ((x.1.1 : Int) = a1)) = none) : lineOf a1 l = (0, 0, false) := by
  unfold lineOf
  rw [h]
theorem results_span {fn : Func} {p q : Tmp} (h : fn.results = #[.cell p 24, .cell q 4]) (tmps : Array Value) (W : World) {B B2 : Nat} {v1 v2 : Int} {b : Bool} (hp : tmps.getD p undef = .pointer (some ⟨B, 0, none⟩)) (hq : tmps.getD q undef = .pointer (some ⟨B2, 0, none⟩))
    (h1 : Boxed2 W B 24 (.int .i64 v1) (.int .i64 v2)) (h2 : Boxed W B2 4 (.bool b)) : (results fn tmps).run Try.prog W = .ok (.tuple #[.agg #[.int .i64 v1, .int .i64 v2], .bool b]) W := by
  have c0 := h1.cell0
  have c1 := h1.cell1
  have c2 := h2.cell
  have hp' : tmps[p]?.getD undef = .pointer (some ⟨B, 0, none⟩) := by simpa using hp
  have hq' : tmps[q]?.getD undef = .pointer (some ⟨B2, 0, none⟩) := by simpa using hq
  simp [results, h, hp', hq', asAddr]
  go_simp
set_option maxRecDepth 100000 in
set_option maxHeartbeats 2000000 in
theorem lines_Line.calls (a0 : ByteArray) (a1 : Int) (r1 r2 : Int) (r3 : Bool) (w : World) (h : lines_Line.f a0 a1 = some (r1, r2, r3)) :
    Calls Try.prog 15 #[.string a0, .int .i64 a1] w fun e w' => e = .returned (.tuple #[.agg #[.int .i64 r1, .int .i64 r2], .bool r3]) ∧ Below w.heap.size w w' := by
  unfold lines_Line.f at h
  split at h
  case isFalse => cases h
  rename_i hs
  replace h := Option.some.inj h
  refine (callsIn_wide (n := 3)).1 ?_
  refine callsIn_of_wp_marks Try.func15 rfl trivial ?_ rfl
  simp only [Try.ntmps15, List.size_toArray, List.length_cons, List.length_nil, Nat.reduceAdd, Nat.reduceSub, Array.replicate_succ, Array.replicate_zero, List.push_toArray, List.append_toArray, List.nil_append, List.cons_append]
  gi_wp2_with (refine ⟨trivial, ?_⟩; gi_at_call 23; refine (each_in _ _ _).mono ?_; rintro e w' ⟨rfl, rfl⟩)
  have bN := (((Boxed.new w 3 (.int .i64 a1)).alloc (.cells #[.int .i64 0, .int .i64 0] 24)).alloc (.cells #[.bool false] 4)).alloc (.cells #[.string a0] 9)
  have bX := ((Boxed2.new (w.alloc (.cells #[.int .i64 a1] 3)) 24 (.int .i64 0) (.int .i64 0)).alloc (.cells #[.bool false] 4)).alloc (.cells #[.string a0] 9)
  have bB := (Boxed.new ((w.alloc (.cells #[.int .i64 a1] 3)).alloc (.cells #[.int .i64 0, .int .i64 0] 24)) 4 (.bool false)).alloc (.cells #[.string a0] 9)
  have bS := Boxed.new (((w.alloc (.cells #[.int .i64 a1] 3)).alloc (.cells #[.int .i64 0, .int .i64 0] 24)).alloc (.cells #[.bool false] 4)) 9 (.string a0)
  have hB0 : Below w.heap.size w ((((w.alloc (.cells #[.int .i64 a1] 3)).alloc (.cells #[.int .i64 0, .int .i64 0] 24)).alloc (.cells #[.bool false] 4)).alloc (.cells #[.string a0] 9)) := ((((Below.refl _ w).alloc (Nat.le_refl _) _).alloc (by simp) _).alloc (by simp; omega) _).alloc (by simp; omega) _
  simp only [World.size_alloc] at bX bB bS
  obtain ⟨W0, hW0⟩ : ∃ W0, ((((w.alloc (.cells #[.int .i64 a1] 3)).alloc (.cells #[.int .i64 0, .int .i64 0] 24)).alloc (.cells #[.bool false] 4)).alloc (.cells #[.string a0] 9)) = W0 := ⟨_, rfl⟩
  have hsz : W0.heap.size = w.heap.size + 4 := by rw [← hW0]; simp
  rw [hW0] at bN bX bB bS hB0 ⊢
  clear hW0
  refine wpIn_rangeFunc_ownH rfl (by decide) (gf := 27) (lb := #[.pointer (some ⟨w.heap.size + 1 + 1 + 1, 0, none⟩)]) rfl trivial (enters_of Try.func27 (by kernel_rfl) rfl)
    (each_stops a0 hs 2 (by decide) (w.heap.size + 1 + 1 + 1) _ bS) kbox_t (kbox_b (by omega)) (Below.refl _ _) (fun _ => rfl)
    (fun pre W => (((Boxed W w.heap.size 3 (.int .i64 a1) ∧ Boxed2 W (w.heap.size + 1) 24 (.int .i64 0) (.int .i64 0)) ∧ Boxed W (w.heap.size + 1 + 1) 4 (.bool false)) ∧ Boxed W (w.heap.size + 1 + 1 + 1) 9 (.string a0)) ∧ (pre.find? (fun x => decide ((x.1.1 : Int) = a1)) = none ∧ Below w.heap.size w W))
    (fun c pre W => (Boxed2 W (w.heap.size + 1) 24 (.int .i64 (lineOf a1 pre).1) (.int .i64 (lineOf a1 pre).2.1) ∧ Boxed W (w.heap.size + 1 + 1) 4 (.bool true)) ∧ ((c = .ret ∧ (lineOf a1 pre).2.2 = true) ∧ Below w.heap.size w W))
    (OwnFrom.and (OwnFrom.and (OwnFrom.and (OwnFrom.and (Own.from (boxed_own _ _ _) _) (Own.from (boxed2_own _ _ (fun _ => _) (fun _ => _)) _)) (Own.from (boxed_own _ _ _) _)) (Own.from (boxed_own _ _ _) _)) (OwnFrom.and (ownFrom_pure _ _) (ownFrom_below (Nat.le_refl _) (by omega))))
    (fun c => OwnFrom.and (OwnFrom.and (Own.from (boxed2_own _ _ (fun pre => Value.int .i64 (lineOf a1 pre).1) (fun pre => Value.int .i64 (lineOf a1 pre).2.1)) _) (Own.from (boxed_own _ _ _) _)) (OwnFrom.and (ownFrom_pure _ _) (ownFrom_below (Nat.le_refl _) (by omega))))
    ⟨⟨⟨⟨bN, bX⟩, bB⟩, bS⟩, rfl, hB0⟩
    (fun x a' W => ∃ Bx, w.heap.size + 1 + 1 + 1 < Bx ∧ Boxed2 W Bx 24 (.int .i64 x.1.2.1) (.int .i64 x.1.2.2) ∧ a' = { tmps := #[.string a0, .int .i64 a1, undef, .pointer (some ⟨w.heap.size, 0, none⟩), .pointer (some ⟨w.heap.size + 1, 0, none⟩), .pointer (some ⟨w.heap.size + 1 + 1, 0, none⟩), .int .i64 x.1.1, .pointer (some ⟨Bx, 0, none⟩), .string a0, .func (.func 27) #[] #[.pointer (some ⟨w.heap.size + 1 + 1 + 1, 0, none⟩)], .int .i64 x.1.1, .agg #[.int .i64 x.1.2.1, .int .i64 x.1.2.2], undef, undef, undef, undef, undef], defers := [] })
    (fun x a' _ X Y row hs hg hr => by obtain ⟨Bx, h1, h2, h3⟩ := hs; exact ⟨Bx, h1, boxed2_own Bx _ (fun (_ : Unit) => Value.int .i64 x.1.2.1) (fun (_ : Unit) => Value.int .i64 x.1.2.2) () X Y row h2 hg (fun r e => (hr r e).2), h3⟩)
    ?assign ?body ?done ?stop
  case assign =>
    rintro l pre x W K ⟨⟨⟨⟨bN1, bX1⟩, bB1⟩, bS1⟩, hnone, hB1⟩ hK
    simp only [encLn]
    gi_wp2
    exact hK _ _ ((KeepsOthers.alloc _ _).from _) (kbox_alloc _ _ bS1.lt) ⟨⟨⟨⟨bN1.alloc _, bX1.alloc _⟩, bB1.alloc _⟩, bS1.alloc _⟩, hnone, hB1.alloc hB1.size _⟩ ⟨W.heap.size, bS1.lt, Boxed2.new W 24 _ _, rfl⟩
  case body =>
    rintro l pre x a' W hl _ ⟨⟨⟨⟨bN1, bX1⟩, bB1⟩, bS1⟩, hnone, hB1⟩ ⟨Bx, hBx, bx, rfl⟩ hlt
    have cN := bN1.cell
    have cX0 := bX1.cell0
    have cX1 := bX1.cell1
    have fX0 := bX1.frozen 0
    have fX1 := bX1.frozen 1
    have cB := bB1.cell
    have fB := bB1.frozen
    have cx0 := bx.cell0
    have cx1 := bx.cell1
    by_cases hx : (x.1.1 : Int) = a1
    · have hxb : ((x.1.1 : Int) == a1) = true := by simp [hx]
      gi_wp2
      have hl := lineOf_hit hnone hx
      refine ⟨((KeepsOthers.setCell _ _ _).from _).trans (((KeepsOthers.setCell _ _ _).from _).trans ((KeepsOthers.setCell _ _ _).from _)), ⟨?_, ?_⟩, ⟨rfl, by rw [hl]⟩, ?_⟩
      · rw [hl]
        exact ((bX1.set0 _).set1 _).other _ _ (by simp)
      · exact ((bB1.other2 (a := ⟨w.heap.size + 1, 0, none⟩) (by simp) _).other2 (a := ⟨w.heap.size + 1, 1, none⟩) (by simp) _).set _
      · exact ((hB1.setCell (p := ⟨w.heap.size + 1, 0, none⟩) (by simp) _).setCell (p := ⟨w.heap.size + 1, 1, none⟩) (by simp) _).setCell (p := ⟨w.heap.size + 1 + 1, 0, none⟩) (by simp; omega) _
    · have hxb : ((x.1.1 : Int) == a1) = false := by simp [hx]
      gi_wp2
      exact ⟨KeepsFrom.refl _ _, rfl, ⟨⟨⟨bN1, bX1⟩, bB1⟩, bS1⟩, by rw [List.find?_append, hnone]; simp [hx], hB1⟩
  case done =>
    rintro D ys W hD rfl ⟨⟨⟨⟨bN1, bX1⟩, bB1⟩, bS1⟩, hnone, hB1⟩ hK
    have cX0 := bX1.cell0
    have cX1 := bX1.cell1
    have fX0 := bX1.frozen 0
    have fX1 := bX1.frozen 1
    have cB := bB1.cell
    have fB := bB1.frozen
    gi_wp2
    rw [lineOf_none hnone] at h
    cases h
    have bX2 := ((bX1.set0 (.int .i64 0)).set1 (.int .i64 0)).other ⟨w.heap.size + 1 + 1, 0, none⟩ (.bool false) (by simp)
    have bB2 := ((bB1.other2 (a := ⟨w.heap.size + 1, 0, none⟩) (by simp) (.int .i64 0)).other2 (a := ⟨w.heap.size + 1, 1, none⟩) (by simp) (.int .i64 0)).set (.bool false)
    have hB2 := ((hB1.setCell (p := ⟨w.heap.size + 1, 0, none⟩) (by simp) (.int .i64 0)).setCell (p := ⟨w.heap.size + 1, 1, none⟩) (by simp) (.int .i64 0)).setCell (p := ⟨w.heap.size + 1 + 1, 0, none⟩) (by simp; omega) (.bool false)
    have hK2 : (((W.setCell ⟨w.heap.size + 1, 0, none⟩ (.int .i64 0)).setCell ⟨w.heap.size + 1, 1, none⟩ (.int .i64 0)).setCell ⟨w.heap.size + 1 + 1, 0, none⟩ (.bool false)).heap[D]? = some (.deferred (some [])) := by
      rw [Below.heap_setCell _ _ _ _ (by simp; omega), Below.heap_setCell _ _ _ _ (by simp; omega), Below.heap_setCell _ _ _ _ (by simp; omega)]; exact hK
    refine ⟨by simp, .inl ⟨_, _, rfl, run_takeDeferred hK2, ?_⟩⟩
    have bX3 := bX2.kept (grownBy_putObj' _ D (.deferred none)) (by simp; omega)
    have bB3 := bB2.kept (grownBy_putObj' _ D (.deferred none)) (by simp; omega)
    exact ⟨_, results_span rfl _ _ rfl rfl bX3 bB3, rfl, hB2.trans (belowK_b (w := w) (Nat.le_refl _) _ D _ _ (by omega) hK2 rfl rfl)⟩
  case stop =>
    rintro D c pre W hD hp ⟨⟨bX1, bB1⟩, ⟨rfl, hl⟩, hB1⟩ hK
    gi_wp2
    have hl2 := lineOf_prefix hp hl
    rw [h] at hl2
    rw [← hl2] at hl bX1
    cases hl
    refine ⟨by simp, .inl ⟨_, _, rfl, run_takeDeferred hK, ?_⟩⟩
    have bX3 := bX1.kept (grownBy_putObj' _ D (.deferred none)) (by simp; omega)
    have bB3 := bB1.kept (grownBy_putObj' _ D (.deferred none)) (by simp; omega)
    exact ⟨_, results_span rfl _ _ rfl rfl bX3 bB3, rfl, hB1.trans (belowK_b (w := w) (Nat.le_refl _) _ D _ _ (by omega) hK rfl rfl)⟩
/-! ### glossatorref02_end: function 25 -/
def glossatorref02_end.j0 : Nat → ByteArray → Int → Bool → Option (Int)
  | 0, _, _, _ => none
  | k + 1, x0, x1, x20 => if x20 = true then (some 0) else (if 0 ≤ x1 then (if x1 < (x0.size : Int) then (if (bt x0 x1) = 13 then (if (wrap64 (x1 + 1)) < (x0.size : Int) then (if 0 ≤ (wrap64 (x1 + 1)) then (if (bt x0 (wrap64 (x1 + 1))) = 10 then (some 2) else (some 1)) else (none)) else (some 1)) else (some 1)) else (none)) else (none))
def glossatorref02_end.f (k : Nat) (a0 : ByteArray) (a1 : Int) : Option (Int) := if a1 ≥ (a0.size : Int) then (glossatorref02_end.j0 k a0 a1 true) else (if 0 ≤ a1 then (if a1 < (a0.size : Int) then (if (bt a0 a1) = 10 then (glossatorref02_end.j0 k a0 a1 false) else (glossatorref02_end.j0 k a0 a1 ((bt a0 a1) != 13))) else (none)) else (none))
theorem glossatorref02_end.mono_l : ∀ k, (∀ y0 y1 y2, LeO (glossatorref02_end.j0 k y0 y1 y2) (glossatorref02_end.j0 (k + 1) y0 y1 y2))
  | 0 => fun _ _ _ r h => by simp [glossatorref02_end.j0] at h
  | k + 1 => by
    have ih0 := glossatorref02_end.mono_l k
    · intro y0 y1 y2
      unfold glossatorref02_end.j0
      repeat' first
      | (with_reducible exact ih0 _ _ _)
      | (with_reducible exact LeO.refl _)
      | (with_reducible exact LeO.none _)
      | (with_reducible refine LeO.ite ?_ ?_)
      | (with_reducible refine LeO.bind ?_ (fun _ => ?_))
      | exact ih0 _ _ _
      | exact LeO.none _
      | refine LeO.ite ?_ ?_
      | refine LeO.bind ?_ (fun _ => ?_)
theorem glossatorref02_end.mono : ∀ a0 a1 k, LeO (glossatorref02_end.f k a0 a1) (glossatorref02_end.f (k + 1) a0 a1) := by
  intro a0 a1 k
  have ih0 := glossatorref02_end.mono_l k
  unfold glossatorref02_end.f
  repeat' first
      | (with_reducible exact ih0 _ _ _)
      | (with_reducible exact LeO.refl _)
      | (with_reducible exact LeO.none _)
      | (with_reducible refine LeO.ite ?_ ?_)
      | (with_reducible refine LeO.bind ?_ (fun _ => ?_))
      | exact ih0 _ _ _
      | exact LeO.none _
      | refine LeO.ite ?_ ?_
      | refine LeO.bind ?_ (fun _ => ?_)
set_option maxHeartbeats 8000000 in
set_option maxRecDepth 100000 in
theorem glossatorref02_end.calls (k : Nat) (a0 : ByteArray) (a1 : Int) (r : Int) (w : World) (h : glossatorref02_end.f k a0 a1 = some r) :
    Calls Try.prog 25 #[.string a0, .int .i64 a1] w fun e w' => e = .returned (.int .i64 r) ∧ Drawn0 w w' := by
  have H : (if a1 ≥ (a0.size : Int) then (glossatorref02_end.j0 k a0 a1 true) else (if 0 ≤ a1 then (if a1 < (a0.size : Int) then (if (bt a0 a1) = 10 then (glossatorref02_end.j0 k a0 a1 false) else (glossatorref02_end.j0 k a0 a1 ((bt a0 a1) != 13))) else (none)) else (none))) = some r := h
  clear h
  have HC3 := Aside0.mk H
  clear H
  go_enter Try.func25, Try.ntmps25
  go_upto_region 1 with (fail)
  go_cut [20] (fun v20 wc => ∃ (kq : Nat) (x20_2 : Bool), v20 = .bool x20_2 ∧ Aside0 (glossatorref02_end.j0 kq a0 a1 x20_2 = some r) ∧ Aside0 (kq ≤ k) ∧ Drawn0 w wc)
  case first =>
    have H := HC3.out
    clear HC3
    by_cases c4 : a1 ≥ (a0.size : Int)
    · rw [if_pos c4] at H
      have c4b0 : decide ((a0.size : Int) ≤ a1) = true := decide_eq_true c4
      clear c4
      (first | rw [c4b0] | (simp only [i64_w, i32_w]; rw [c4b0]) | skip)
      have H' := Aside0.mk H
      clear H
      go_wp2
      go_meet
      case rel => exact ⟨_, (true), (by first | rfl | (simp; done) | (simp [*]; done)), H', ⟨by first | omega | exact Nat.le_refl _⟩, by repeat (first | exact Drawn0.refl _ | apply Drawn0.step)⟩
    · rw [if_neg c4] at H
      have c4b0 : decide ((a0.size : Int) ≤ a1) = false := decide_eq_false c4
      clear c4
      (first | rw [c4b0] | (simp only [i64_w, i32_w]; rw [c4b0]) | skip)
      by_cases c5 : 0 ≤ a1
      · rw [if_pos c5] at H
        have c5b0 : decide (0 ≤ a1) = true := decide_eq_true c5
        clear c5
        by_cases c6 : a1 < (a0.size : Int)
        · rw [if_pos c6] at H
          have c6b0 : decide (a1 < (a0.size : Int)) = true := decide_eq_true c6
          clear c6
          by_cases c8 : (bt a0 a1) = 10
          · rw [if_pos c8] at H
            have c8b0 : ((bt a0 a1) == 10) = true := beq_iff_eq.mpr c8
            have c8b1 : ((bt a0 a1) != 10) = false := bne_eq_false_iff_eq.mpr c8
            clear c8
            have H' := Aside0.mk H
            clear H
            have p7 : 0 ≤ (a1 : Int) := of_decide_eq_true (by first | (with_reducible assumption) | assumption)
            have q7 : a1 < (a0.size : Int) := of_decide_eq_true (by first | (with_reducible assumption) | assumption)
            have hx7 := bt_at a0 a1
            replace p7 := eq_true p7
            replace q7 := eq_true q7
            go_wp2
            go_meet
            case rel => exact ⟨_, (false), (by first | rfl | (simp; done) | (simp [*]; done)), H', ⟨by first | omega | exact Nat.le_refl _⟩, by repeat (first | exact Drawn0.refl _ | apply Drawn0.step)⟩
          · rw [if_neg c8] at H
            have c8b0 : ((bt a0 a1) == 10) = false := beq_eq_false_iff_ne.mpr c8
            have c8b1 : ((bt a0 a1) != 10) = true := bne_iff_ne.mpr c8
            have H' := Aside0.mk H
            clear H
            have p7 : 0 ≤ (a1 : Int) := of_decide_eq_true (by first | (with_reducible assumption) | assumption)
            have q7 : a1 < (a0.size : Int) := of_decide_eq_true (by first | (with_reducible assumption) | assumption)
            have hx7 := bt_at a0 a1
            replace p7 := eq_true p7
            replace q7 := eq_true q7
            have p9 : 0 ≤ (a1 : Int) := of_decide_eq_true (by first | (with_reducible assumption) | assumption)
            have q9 : a1 < (a0.size : Int) := of_decide_eq_true (by first | (with_reducible assumption) | assumption)
            have hx9 := bt_at a0 a1
            replace p9 := eq_true p9
            replace q9 := eq_true q9
            go_wp2
            go_meet
            case rel => exact ⟨_, (((bt a0 a1) != 13)), (by first | rfl | (simp; done) | (simp [*]; done)), H', ⟨by first | omega | exact Nat.le_refl _⟩, by repeat (first | exact Drawn0.refl _ | apply Drawn0.step)⟩
        · rw [if_neg c6] at H
          exact absurd H (by simp)
      · rw [if_neg c5] at H
        exact absurd H (by simp)
  case rest =>
    clear HC3
    try clear c2
    try clear p2
    try clear c4
    try clear c4b0
    try clear c5
    try clear c5b0
    try clear c6
    try clear c6b0
    try clear p7
    try clear q7
    try clear hx7
    try clear c8
    try clear c8b0
    try clear c8b1
    try clear p9
    try clear q9
    try clear hx9
    try clear p7
    try clear p9
    try clear q7
    try clear q9
    obtain ⟨kq, x20_2, rfl, HA, HJ2, ⟨mc2, rfl⟩⟩ := hcut
    cases kq with
    | zero => exact absurd HA.out (by simp [glossatorref02_end.j0])
    | succ kj2 =>
      have H := HA.out
      clear HA
      simp only [glossatorref02_end.j0] at H
      by_cases c10 : x20_2 = true
      · subst c10
        have H1 : (some 0) = some r := by rw [if_pos rfl] at H; exact H
        clear H
        have H := H1
        clear H1
        obtain rfl := Option.some.inj H
        go_wp2
        go_ret
        exact ⟨by first | rfl | (simp; done) | (simp [*]; done), by repeat (first | exact Drawn0.refl _ | apply Drawn0.step)⟩
      · replace c10 := Bool.eq_false_iff.mpr c10
        subst c10
        have H1 : (if 0 ≤ a1 then (if a1 < (a0.size : Int) then (if (bt a0 a1) = 13 then (if (wrap64 (a1 + 1)) < (a0.size : Int) then (if 0 ≤ (wrap64 (a1 + 1)) then (if (bt a0 (wrap64 (a1 + 1))) = 10 then (some 2) else (some 1)) else (none)) else (some 1)) else (some 1)) else (none)) else (none)) = some r := by rw [if_neg (show ¬ (false = true) by decide)] at H; exact H
        clear H
        have H := H1
        clear H1
        by_cases c11 : 0 ≤ a1
        · rw [if_pos c11] at H
          have c11b0 : decide (0 ≤ a1) = true := decide_eq_true c11
          clear c11
          by_cases c12 : a1 < (a0.size : Int)
          · rw [if_pos c12] at H
            have c12b0 : decide (a1 < (a0.size : Int)) = true := decide_eq_true c12
            clear c12
            by_cases c14 : (bt a0 a1) = 13
            · rw [if_pos c14] at H
              have c14b0 : ((bt a0 a1) == 13) = true := beq_iff_eq.mpr c14
              have c14b1 : ((bt a0 a1) != 13) = false := bne_eq_false_iff_eq.mpr c14
              clear c14
              by_cases c15 : (wrap64 (a1 + 1)) < (a0.size : Int)
              · rw [if_pos c15] at H
                have c15b0 : decide ((wrap64 (a1 + 1)) < (a0.size : Int)) = true := decide_eq_true c15
                clear c15
                obtain ⟨ji16, hji16⟩ : ∃ j_ : Int, (wrap64 (a1 + 1)) = j_ := ⟨_, rfl⟩
                replace H : (if 0 ≤ (ji16) then (if (bt a0 (ji16)) = 10 then (some 2) else (some 1)) else (none)) = some r := by first | (rw [hji16] at H; exact H) | (simp only [hji16] at H ⊢; exact H)
                (try rw [hji16] at c15b0)
                have hji16w : (IntKind.i64.wrap (a1 + 1)) = ji16 := (i64_w _).trans hji16
                by_cases c17 : 0 ≤ (ji16)
                · rw [if_pos c17] at H
                  have c17b0 : decide (0 ≤ (ji16)) = true := decide_eq_true c17
                  clear c17
                  by_cases c19 : (bt a0 (ji16)) = 10
                  · rw [if_pos c19] at H
                    have c19b0 : ((bt a0 (ji16)) == 10) = true := beq_iff_eq.mpr c19
                    have c19b1 : ((bt a0 (ji16)) != 10) = false := bne_eq_false_iff_eq.mpr c19
                    clear c19
                    obtain rfl := Option.some.inj H
                    have p13 : 0 ≤ (a1 : Int) := of_decide_eq_true (by first | (with_reducible assumption) | assumption)
                    have q13 : a1 < (a0.size : Int) := of_decide_eq_true (by first | (with_reducible assumption) | assumption)
                    have hx13 := bt_at a0 a1
                    replace p13 := eq_true p13
                    replace q13 := eq_true q13
                    have p18 : 0 ≤ ((ji16) : Int) := of_decide_eq_true (by first | (with_reducible assumption) | assumption)
                    have q18 : (ji16) < (a0.size : Int) := of_decide_eq_true (by first | (with_reducible assumption) | assumption)
                    have hx18 := bt_at a0 (ji16)
                    replace p18 := eq_true p18
                    replace q18 := eq_true q18
                    go_wp2
                    go_ret
                    exact ⟨by first | rfl | (simp; done) | (simp only [← hji16] <;> (first | rfl | simp)) | (simp [*]; done), by repeat (first | exact Drawn0.refl _ | apply Drawn0.step)⟩
                  · rw [if_neg c19] at H
                    have c19b0 : ((bt a0 (ji16)) == 10) = false := beq_eq_false_iff_ne.mpr c19
                    have c19b1 : ((bt a0 (ji16)) != 10) = true := bne_iff_ne.mpr c19
                    obtain rfl := Option.some.inj H
                    have p13 : 0 ≤ (a1 : Int) := of_decide_eq_true (by first | (with_reducible assumption) | assumption)
                    have q13 : a1 < (a0.size : Int) := of_decide_eq_true (by first | (with_reducible assumption) | assumption)
                    have hx13 := bt_at a0 a1
                    replace p13 := eq_true p13
                    replace q13 := eq_true q13
                    have p18 : 0 ≤ ((ji16) : Int) := of_decide_eq_true (by first | (with_reducible assumption) | assumption)
                    have q18 : (ji16) < (a0.size : Int) := of_decide_eq_true (by first | (with_reducible assumption) | assumption)
                    have hx18 := bt_at a0 (ji16)
                    replace p18 := eq_true p18
                    replace q18 := eq_true q18
                    go_wp2
                    go_ret
                    exact ⟨by first | rfl | (simp; done) | (simp only [← hji16] <;> (first | rfl | simp)) | (simp [*]; done), by repeat (first | exact Drawn0.refl _ | apply Drawn0.step)⟩
                · rw [if_neg c17] at H
                  exact absurd H (by simp)
              · rw [if_neg c15] at H
                have c15b0 : decide ((wrap64 (a1 + 1)) < (a0.size : Int)) = false := decide_eq_false c15
                clear c15
                obtain rfl := Option.some.inj H
                have p13 : 0 ≤ (a1 : Int) := of_decide_eq_true (by first | (with_reducible assumption) | assumption)
                have q13 : a1 < (a0.size : Int) := of_decide_eq_true (by first | (with_reducible assumption) | assumption)
                have hx13 := bt_at a0 a1
                replace p13 := eq_true p13
                replace q13 := eq_true q13
                go_wp2
                go_ret
                exact ⟨by first | rfl | (simp; done) | (simp [*]; done), by repeat (first | exact Drawn0.refl _ | apply Drawn0.step)⟩
            · rw [if_neg c14] at H
              have c14b0 : ((bt a0 a1) == 13) = false := beq_eq_false_iff_ne.mpr c14
              have c14b1 : ((bt a0 a1) != 13) = true := bne_iff_ne.mpr c14
              obtain rfl := Option.some.inj H
              have p13 : 0 ≤ (a1 : Int) := of_decide_eq_true (by first | (with_reducible assumption) | assumption)
              have q13 : a1 < (a0.size : Int) := of_decide_eq_true (by first | (with_reducible assumption) | assumption)
              have hx13 := bt_at a0 a1
              replace p13 := eq_true p13
              replace q13 := eq_true q13
              go_wp2
              go_ret
              exact ⟨by first | rfl | (simp; done) | (simp [*]; done), by repeat (first | exact Drawn0.refl _ | apply Drawn0.step)⟩
          · rw [if_neg c12] at H
            exact absurd H (by simp)
        · rw [if_neg c11] at H
          exact absurd H (by simp)

end Go.Proofs.Ytfjanedappcolaa.Q
