/- Words and walks of this claim, put together by this repo's wip/xlink.py out of Q9, XQuote. -/
import Derived.Test.YtebmgmagdhedgaaGreatDoorL8
import Derived.Test.YtebmgmagdhedgaaGreatDoorL12
section
namespace Go.Proofs.YtebmgmagdhedgaaGreatDoor.Q
open Go.RowKit Go.Proofs.YtebmgmagdhedgaaGreatDoorW.PrintWords Go.Proofs.YtebmgmagdhedgaaGreatDoorW.PrintLast Go.Proofs.YtebmgmagdhedgaaGreatDoorW.PrintMore
attribute [local go_sem] max2_int min2_int max_two min_two max_three min_three max_four min_four   
set_option linter.unusedVariables false
set_option linter.unusedSimpArgs false
mutual
def glossatorref04_Quote.l0 : Nat → ByteArray → ByteArray → List Int → Int → Option (ByteArray)
 | 0, _, _, _, _ => none
 | k + 1, x0, x3, x4, x5 => if x5 < (x0.size : Int) then (if 0 ≤ x5 then (if (bt x0 x5) = 34 then (glossatorref04_Quote.j1 k x0 x3 x4 x5 (bt x0 x5) true) else (glossatorref04_Quote.j1 k x0 x3 x4 x5 (bt x0 x5) ((bt x0 x5) == 92))) else (none)) else (if x4.length < 140737488355328 then (some (strOfNums (x4 ++ [34]))) else (none))
def glossatorref04_Quote.j1 : Nat → ByteArray → ByteArray → List Int → Int → Int → Bool → Option (ByteArray)
 | 0, _, _, _, _, _, _ => none
 | k + 1, x0, x3, x4, x5, x6, x23 => if x23 = true then ((some (([92, x6] : List Int) : List Int)).bind fun y125 => (if x4.length + y125.length < 140737488355328 then (glossatorref04_Quote.l0 k x0 x3 (x4 ++ y125) (wrap64 (x5 + 1))) else (none))) else (if x6 = 8 then ((some (([92, 98] : List Int) : List Int)).bind fun y131 => (if x4.length + y131.length < 140737488355328 then (glossatorref04_Quote.l0 k x0 x3 (x4 ++ y131) (wrap64 (x5 + 1))) else (none))) else (if x6 = 9 then ((some (([92, 116] : List Int) : List Int)).bind fun y137 => (if x4.length + y137.length < 140737488355328 then (glossatorref04_Quote.l0 k x0 x3 (x4 ++ y137) (wrap64 (x5 + 1))) else (none))) else (if x6 = 10 then ((some (([92, 110] : List Int) : List Int)).bind fun y143 => (if x4.length + y143.length < 140737488355328 then (glossatorref04_Quote.l0 k x0 x3 (x4 ++ y143) (wrap64 (x5 + 1))) else (none))) else (if x6 = 12 then ((some (([92, 102] : List Int) : List Int)).bind fun y149 => (if x4.length + y149.length < 140737488355328 then (glossatorref04_Quote.l0 k x0 x3 (x4 ++ y149) (wrap64 (x5 + 1))) else (none))) else (if x6 = 13 then ((some (([92, 114] : List Int) : List Int)).bind fun y155 => (if x4.length + y155.length < 140737488355328 then (glossatorref04_Quote.l0 k x0 x3 (x4 ++ y155) (wrap64 (x5 + 1))) else (none))) else (if x6 < 32 then (if 0 ≤ ((Int.tdiv x6 16) % 256) then (if ((Int.tdiv x6 16) % 256) < (x3.size : Int) then (if 0 ≤ (Int.tmod x6 16) then (if (Int.tmod x6 16) < (x3.size : Int) then ((some (([92, 117, 48, 48, bt x3 ((Int.tdiv x6 16) % 256), bt x3 (Int.tmod x6 16)] : List Int) : List Int)).bind fun y161 => (if x4.length + y161.length < 140737488355328 then (glossatorref04_Quote.l0 k x0 x3 (x4 ++ y161) (wrap64 (x5 + 1))) else (none))) else (none)) else (none)) else (none)) else (none)) else (if x4.length < 140737488355328 then (glossatorref04_Quote.l0 k x0 x3 (x4 ++ [x6]) (wrap64 (x5 + 1))) else (none))))))))
end
def glossatorref04_Quote.f (k : Nat) (a0 : ByteArray) : Option (ByteArray) := (glossatorref01_Fix.f k a0).bind fun t118 => (glossatorref04_Quote.l0 k t118 (⟨#[48, 49, 50, 51, 52, 53, 54, 55, 56, 57, 97, 98, 99, 100, 101, 102]⟩ : ByteArray) (([34] : List Int)) 0)
theorem glossatorref04_Quote.mono_l : ∀ k, (∀ y0 y1 y2 y3, LeO (glossatorref04_Quote.l0 k y0 y1 y2 y3) (glossatorref04_Quote.l0 (k + 1) y0 y1 y2 y3)) ∧ (∀ y0 y1 y2 y3 y4 y5, LeO (glossatorref04_Quote.j1 k y0 y1 y2 y3 y4 y5) (glossatorref04_Quote.j1 (k + 1) y0 y1 y2 y3 y4 y5))
 | 0 => ⟨fun _ _ _ _ r h => by simp [glossatorref04_Quote.l0] at h, fun _ _ _ _ _ _ r h => by simp [glossatorref04_Quote.j1] at h⟩
 | k + 1 => by
  obtain ⟨ih0, ih1⟩ := glossatorref04_Quote.mono_l k
  refine ⟨?_, ?_⟩
  ·intro y0 y1 y2 y3
   unfold glossatorref04_Quote.l0
   repeat' first
   | (with_reducible exact ih0 _ _ _ _)
   | (with_reducible exact ih1 _ _ _ _ _ _)
   | (with_reducible exact glossatorref01_Fix.mono _ _)
   | (with_reducible exact LeO.refl _)
   | (with_reducible exact LeO.none _)
   | (with_reducible refine LeO.ite ?_ ?_)
   | (with_reducible refine LeO.bind ?_ (fun _ => ?_))
   | exact ih0 _ _ _ _
   | exact ih1 _ _ _ _ _ _
   | exact glossatorref01_Fix.mono _ _
   | exact LeO.none _
   | refine LeO.ite ?_ ?_
   | refine LeO.bind ?_ (fun _ => ?_)
  ·intro y0 y1 y2 y3 y4 y5
   unfold glossatorref04_Quote.j1
   repeat' first
   | (with_reducible exact ih0 _ _ _ _)
   | (with_reducible exact ih1 _ _ _ _ _ _)
   | (with_reducible exact glossatorref01_Fix.mono _ _)
   | (with_reducible exact LeO.refl _)
   | (with_reducible exact LeO.none _)
   | (with_reducible refine LeO.ite ?_ ?_)
   | (with_reducible refine LeO.bind ?_ (fun _ => ?_))
   | exact ih0 _ _ _ _
   | exact ih1 _ _ _ _ _ _
   | exact glossatorref01_Fix.mono _ _
   | exact LeO.none _
   | refine LeO.ite ?_ ?_
   | refine LeO.bind ?_ (fun _ => ?_)
theorem glossatorref04_Quote.mono : ∀ a0 k, LeO (glossatorref04_Quote.f k a0) (glossatorref04_Quote.f (k + 1) a0) := by
 intro a0 k
 obtain ⟨ih0, ih1⟩ := glossatorref04_Quote.mono_l k
 unfold glossatorref04_Quote.f
 repeat' first
   | (with_reducible exact ih0 _ _ _ _)
   | (with_reducible exact ih1 _ _ _ _ _ _)
   | (with_reducible exact glossatorref01_Fix.mono _ _)
   | (with_reducible exact LeO.refl _)
   | (with_reducible exact LeO.none _)
   | (with_reducible refine LeO.ite ?_ ?_)
   | (with_reducible refine LeO.bind ?_ (fun _ => ?_))
   | exact ih0 _ _ _ _
   | exact ih1 _ _ _ _ _ _
   | exact glossatorref01_Fix.mono _ _
   | exact LeO.none _
   | refine LeO.ite ?_ ?_
   | refine LeO.bind ?_ (fun _ => ?_)
def glossatorref04_Quote.T22 : Bool × List (List Nat × List Nat) := (true, [([], []), ([], []), ([], []), ([2], [2]), ([1, 3], [1, 3]), ([], []), ([], []), ([6], [6]), ([5, 7], [5, 7]), ([4, 8], [4, 8]), ([0, 9], [0, 9]), ([10, 10, 0, 1, 2, 3, 4, 5, 6, 7, 8, 9, 10], [0, 10])])
def glossatorref04_Quote.B22 : List Nat := [0, 0, 0, 4, 14, 0, 0, 64, 224, 510, 1023, 2047]
theorem glossatorref04_Quote.tab22 : rtab .any (opsOf Tryz.f74 22) = glossatorref04_Quote.T22 := by kernel_rfl
theorem glossatorref04_Quote.bits22 : waitsOk glossatorref04_Quote.T22.2 glossatorref04_Quote.B22 = true := by kernel_rfl
set_option maxHeartbeats 8000000 in
set_option maxRecDepth 100000 in
theorem glossatorref04_Quote.calls (k : Nat) (a0 : ByteArray) (r : ByteArray) (w : World) (h : glossatorref04_Quote.f k a0 = some r) :
  Calls Tryz.prog 74 #[.string a0] w fun e w' => e = .returned (.string r) ∧ Below w.heap.size w w' := by
 have HB := Aside0.mk (Below.refl w.heap.size w)
 have H : ((glossatorref01_Fix.f k a0).bind fun t118 => (glossatorref04_Quote.l0 k t118 (⟨#[48, 49, 50, 51, 52, 53, 54, 55, 56, 57, 97, 98, 99, 100, 101, 102]⟩ : ByteArray) (([34] : List Int)) 0)) = some r := h
 clear h; replace H := Option.bind_eq_some_iff.mp H
 obtain ⟨t118, A20, H⟩ := H
 replace H : (glossatorref04_Quote.l0 k t118 (⟨#[48, 49, 50, 51, 52, 53, 54, 55, 56, 57, 97, 98, 99, 100, 101, 102]⟩ : ByteArray) (([34] : List Int)) 0) = some r := H
 have A2 := Aside0.mk A20; clear A20; obtain ⟨y119, hy119⟩ : ∃ y_ : List Int, y_ = (([34] : List Int)) := ⟨_, rfl⟩
 replace H : (glossatorref04_Quote.l0 k t118 (⟨#[48, 49, 50, 51, 52, 53, 54, 55, 56, 57, 97, 98, 99, 100, 101, 102]⟩ : ByteArray) y119 0) = some r := by first | (rw [hy119]; with_reducible exact H) | (have H2_ := (Option.bind_some _ _).symm.trans H; rw [hy119]; with_reducible exact H2_) | (have H2_ := (Option.bind_some _ _).symm.trans H; with_reducible exact H2_) | with_reducible exact H | (rw [hy119]; exact H) | exact H
 have Ny119 := Aside0.mk hy119; clear hy119; have H' := Aside0.mk H; clear H; go_enter Tryz.func74, Tryz.ntmps74
 go_wp2_with (first | ((with_reducible refine gate_callee (f := 96) rfl ?_); refine goesL_ (some 8) rfl rfl Tryz.func96 (by kernel_rfl) rfl #[.string a0] rfl (by (try simp only [List.map_toArray, List.map_cons, List.map_nil]); first | done | rfl | (simp only [List.length_drop, List.length_take]; rfl)) ?_; (with_reducible refine (glossatorref01_Fix.calls k a0 t118 _ A2.out).mono ?_); rintro e w3 ⟨rfl, hb⟩; refine ⟨_, rfl, ?_⟩; have n0_ := Aside0.mk (below_step (bl HB) hb); clear HB; have HB := n0_; clear n0_; (try clear hb); (try clear hb2); (try clear hk); (try clear hi)) | ((with_reducible refine gate_dst (N := 9) rfl ?_); refine Kd.R_lit (Kd.int .u8) _ 5 ?hg (N := 9) ?hd (xs := ([34] : List Int)) (inner := [.int .u8 34]) (ok := fun _ => True) (okp := fun _ => True) ?hr ?hp (fun _ hk => hk) trivial (Below.refl _ _) (Nat.le_refl _) (by simp) ?_; (case hd => rfl); (case hg => rfl); (case hr => first | (go_simp; done) | (go_simp; rfl)); (case hp => exact (Reps.one (show Kd.M (Kd.int .u8) _ _ _ 34 [.int .u8 34] from rfl) (Reps.none _ _))); intro v120 w4 ho5 hb hg_ hnew_; clear hg_ hnew_; (first | rw [← Ny119.out] at ho5 | (simp only [Int.reduceToNat] at ho5; rw [← Ny119.out] at ho5)); have n0_ := Aside0.mk (Kd.R_lower ho5 (below_size (bl HB))); have n1_ := Aside0.mk (below_step (bl HB) hb); clear HB; have HO121 := n0_; have HB := n1_; clear n0_ n1_; clear hb ho5))
 go_loopg [4, 5] k (fun kq v4 v5 w' => ∃ (x4_1 : List Int) (x5_1 : Int), v5 = .int .i64 x5_1 ∧ Aside0 (glossatorref04_Quote.l0 kq t118 (⟨#[48, 49, 50, 51, 52, 53, 54, 55, 56, 57, 97, 98, 99, 100, 101, 102]⟩ : ByteArray) x4_1 x5_1 = some r) ∧ Aside0 (kq ≤ k) ∧ Aside0 (Kd.R (Kd.int .u8) 5 w' w.heap.size (fun _ => True) v4 x4_1) ∧ Aside0 (Below w.heap.size w w'))
 case atStart => exact ⟨(y119), (0), (by first | rfl | (simp; done) | (simp [*]; done) | (simp; exact xEmpty_ne _) | (simp [*]; exact xEmpty_ne _)), H', ⟨Nat.le_refl _⟩, ⟨rl HO121⟩, ⟨bl HB⟩⟩
 case round =>
  clear H'; (try clear p2); (try clear HO_4); (try clear HB)
  obtain ⟨x4_1, x5_1, rfl, HA, HK1, HO_4, HB⟩ := hrel
  cases gk with
  | zero => exact absurd HA.out (by simp [glossatorref04_Quote.l0])
  | succ k1 =>
   have H := HA.out
   clear HA; simp only [glossatorref04_Quote.l0] at H
   by_cases c6 : x5_1 < (t118.size : Int)
   rotate_left
   ·rw [if_neg c6] at H; have c6b0 : decide (x5_1 < (t118.size : Int)) = false := decide_eq_false c6; clear c6; by_cases c64 : x4_1.length < 140737488355328
    ·rw [if_pos c64] at H; have LMc64 := Aside0.mk c64; clear c64; obtain ⟨y122, hy122⟩ : ∃ y_ : List Int, y_ = (x4_1 ++ [34]) := ⟨_, rfl⟩
     replace H : (some (strOfNums y122)) = some r := by first | (rw [hy122]; with_reducible exact H) | (have H2_ := (Option.bind_some _ _).symm.trans H; rw [hy122]; with_reducible exact H2_) | (have H2_ := (Option.bind_some _ _).symm.trans H; with_reducible exact H2_) | with_reducible exact H | (rw [hy122]; exact H) | exact H
     have Ny122 := Aside0.mk hy122; clear hy122; obtain rfl := Option.some.inj H; go_wp2_with (first | ((with_reducible refine gate_builtin (b := .append) (xs := #[.tmp 78, .tmp 79]) rfl ?_); at_builtin; refine Kd.R_append (Kd.int .u8) (w0 := w) w.heap.size rfl (.tmp 78) (.tmp 79) 48 5 (.int .u8 0) 1 rfl Tryz.underlying48 info5 rfl (by decide) (by omega) u4 x4_1 34 [.int .u8 34] (fun _ => True) (fun _ => False) rfl rfl ?aP (fun _ hk => hk.elim) ?aF ?aO ?aB ?aS ?aL ?_; (case aP => exact rfl); (case aB => exact (bl HB)); (case aF => exact (fun _ _ => trivial)); (case aO => exact (rl HO_4)); (case aS => exact (below_size (bl HB))); (case aL => have := LMc64.out; omega); intro v123 w65 ho hb hg hat; rw [← Ny122.out] at ho; have n0_ := Aside0.mk (hb); have n1_ := Aside0.mk (ho); clear HB; clear HO_4; have HB := n0_; have HO124 := n1_; clear n0_ n1_; clear ho hb hg hat; have hcv66 := own_string (P := Tryz.prog) Tryz.underlying48 Tryz.underlying5 Tryz.underlying9 (Kd.own_of_R HO124.out)))
     go_ret
     exact ⟨by first | rfl | (simp [errW_none, errW_some] <;> rfl) | (simp [*, errW_none, errW_some] <;> rfl), bl HB⟩
    ·rw [if_neg c64] at H; exact absurd H (by simp)
   rw [if_pos c6] at H; have c6b0 : decide (x5_1 < (t118.size : Int)) = true := decide_eq_true c6; clear c6; by_cases c7 : 0 ≤ x5_1
   rotate_left
   ·rw [if_neg c7] at H; exact absurd H (by simp)
   rw [if_pos c7] at H; have c7b0 : decide (0 ≤ x5_1) = true := decide_eq_true c7; clear c7; have HC9 := Aside0.mk H; clear H; have p8 : 0 ≤ (x5_1 : Int) := of_decide_eq_true (by first | (with_reducible assumption) | assumption)
   have q8 : x5_1 < (t118.size : Int) := of_decide_eq_true (by first | (with_reducible assumption) | assumption)
   have hx8 := bt_at t118 x5_1
   replace p8 := eq_true p8; replace q8 := eq_true q8; go_upto_region 9 with (fail)
   go_cut [23] (fun v23 wc => ∃ (kq : Nat) (x23_8 : Bool), v23 = .bool x23_8 ∧ Aside0 (glossatorref04_Quote.j1 kq t118 (⟨#[48, 49, 50, 51, 52, 53, 54, 55, 56, 57, 97, 98, 99, 100, 101, 102]⟩ : ByteArray) x4_1 x5_1 (bt t118 x5_1) x23_8 = some r) ∧ Aside0 (kq ≤ k1) ∧ Aside0 (Kd.R (Kd.int .u8) 5 wc w.heap.size (fun _ => True) u4 x4_1) ∧ Aside0 (Below w.heap.size w wc))
   case first =>
    have H := HC9.out
    clear HC9; by_cases c10 : (bt t118 x5_1) = 34
    ·rw [if_pos c10] at H; have c10b0 : ((bt t118 x5_1) == 34) = true := beq_iff_eq.mpr c10
     have c10b1 : ((bt t118 x5_1) != 34) = false := bne_eq_false_iff_eq.mpr c10
     clear c10; (first | rw [c10b0] | rw [c10b1] | (simp only [i64_w, i32_w]; rw [c10b0]) | skip)
     have H' := Aside0.mk H; clear H; go_wp2
     go_meet
     case rel => exact ⟨_, (true), (by first | rfl | (simp; done) | (simp [*]; done) | (simp; exact xEmpty_ne _) | (simp [*]; exact xEmpty_ne _)), H', ⟨by have := HK1.out; first | omega | exact Nat.le_refl _⟩, ⟨rl HO_4⟩, ⟨bl HB⟩⟩
    ·rw [if_neg c10] at H; have c10b0 : ((bt t118 x5_1) == 34) = false := beq_eq_false_iff_ne.mpr c10; have c10b1 : ((bt t118 x5_1) != 34) = true := bne_iff_ne.mpr c10; (first | rw [c10b0] | rw [c10b1] | (simp only [i64_w, i32_w]; rw [c10b0]) | skip)
     have H' := Aside0.mk H; clear H; go_wp2
     go_meet
     case rel => exact ⟨_, (((bt t118 x5_1) == 92)), (by first | rfl | (simp; done) | (simp [*]; done) | (simp; exact xEmpty_ne _) | (simp [*]; exact xEmpty_ne _)), H', ⟨by have := HK1.out; first | omega | exact Nat.le_refl _⟩, ⟨rl HO_4⟩, ⟨bl HB⟩⟩
   case rest =>
    clear HC9; (try clear c1); (try clear p2); (try clear c6); (try clear c6b0); (try clear c7); (try clear c7b0); (try clear p8); (try clear q8); (try clear hx8); (try clear c9); (try clear c10); (try clear c10b0); (try clear c10b1); (try clear p2); (try clear p8); (try clear q8); obtain ⟨kq, x23_8, rfl, HA, HJ8, HO_4, HB⟩ := hcut
    cases kq with
    | zero => exact absurd HA.out (by simp [glossatorref04_Quote.j1])
    | succ kj8 =>
     have H := HA.out
     clear HA; simp only [glossatorref04_Quote.j1] at H
     by_cases c11 : x23_8 = true
     ·subst c11; have H1 : ((some (([92, (bt t118 x5_1)] : List Int) : List Int)).bind fun y125 => (if x4_1.length + y125.length < 140737488355328 then (glossatorref04_Quote.l0 kj8 t118 (⟨#[48, 49, 50, 51, 52, 53, 54, 55, 56, 57, 97, 98, 99, 100, 101, 102]⟩ : ByteArray) (x4_1 ++ y125) (wrap64 (x5_1 + 1))) else (none))) = some r := by rw [if_pos rfl] at H; exact H
      clear H; have H := H1
      clear H1; obtain ⟨y125, hy125⟩ : ∃ y_ : List Int, y_ = (([92, (bt t118 x5_1)] : List Int)) := ⟨_, rfl⟩
      replace H : (if x4_1.length + y125.length < 140737488355328 then (glossatorref04_Quote.l0 kj8 t118 (⟨#[48, 49, 50, 51, 52, 53, 54, 55, 56, 57, 97, 98, 99, 100, 101, 102]⟩ : ByteArray) (x4_1 ++ y125) (wrap64 (x5_1 + 1))) else (none)) = some r := by first | (rw [hy125]; with_reducible exact H) | (have H2_ := (Option.bind_some _ _).symm.trans H; rw [hy125]; with_reducible exact H2_) | (have H2_ := (Option.bind_some _ _).symm.trans H; with_reducible exact H2_) | with_reducible exact H | (rw [hy125]; exact H) | exact H
      have Ny125 := Aside0.mk hy125; clear hy125; by_cases c12 : x4_1.length + y125.length < 140737488355328
      ·rw [if_pos c12] at H; have LMc12 := Aside0.mk c12; clear c12; obtain ⟨y128, hy128⟩ : ∃ y_ : List Int, y_ = (x4_1 ++ y125) := ⟨_, rfl⟩
       replace H : (glossatorref04_Quote.l0 kj8 t118 (⟨#[48, 49, 50, 51, 52, 53, 54, 55, 56, 57, 97, 98, 99, 100, 101, 102]⟩ : ByteArray) y128 (wrap64 (x5_1 + 1))) = some r := by first | (rw [hy128]; with_reducible exact H) | (have H2_ := (Option.bind_some _ _).symm.trans H; rw [hy128]; with_reducible exact H2_) | (have H2_ := (Option.bind_some _ _).symm.trans H; with_reducible exact H2_) | with_reducible exact H | (rw [hy128]; exact H) | exact H
       have Ny128 := Aside0.mk hy128; clear hy128; have H' := Aside0.mk H; clear H; go_wp2_with (first | ((with_reducible refine gate_dst (N := 32) rfl ?_); refine Kd.R_lit (Kd.int .u8) _ 5 ?hg (N := 32) ?hd (xs := ([92, (bt t118 x5_1)] : List Int)) (inner := [.int .u8 92, .int .u8 (bt t118 x5_1)]) (ok := fun _ => True) (okp := fun _ => True) ?hr ?hp (fun _ hk => hk) trivial (Below.refl _ _) (Nat.le_refl _) (by simp) ?_; (case hd => rfl); (case hg => rfl); (case hr => first | (go_simp; done) | (go_simp; rfl)); (case hp => exact (Reps.one (show Kd.M (Kd.int .u8) _ _ _ 92 [.int .u8 92] from rfl) (Reps.one (show Kd.M (Kd.int .u8) _ _ _ (bt t118 x5_1) [.int .u8 (bt t118 x5_1)] from rfl) (Reps.none _ _)))); intro v126 w13 ho14 hb hg_ hnew_; clear hg_ hnew_; (first | rw [← Ny125.out] at ho14 | (simp only [Int.reduceToNat] at ho14; rw [← Ny125.out] at ho14)); have n0_ := Aside0.mk (Kd.R_elder' (rl HO_4) (Kd.R_base ho14) hb); have n1_ := Aside0.mk (Kd.R_lower (Kd.R_new' ho14 (Kd.R_lt (rl HO_4))) (below_size (bl HB))); have n2_ := Aside0.mk (below_step (bl HB) hb); clear HO_4; clear HB; have HO_4 := n0_; have HO127 := n1_; have HB := n2_; clear n0_ n1_ n2_; clear hb ho14; obtain ⟨Ao16, co16, eo16⟩ := Kd.R_slice HO127.out; subst eo16) | ((with_reducible refine gate_builtin (b := .append) (xs := #[.tmp 30, .tmp 32]) rfl ?_); at_builtin; refine Kd.R_append_rows (Kd.int .u8) (w0 := w) w.heap.size rfl (.tmp 30) (.tmp 32) 48 5 (.int .u8 0) 1 rfl Tryz.underlying48 info5 rfl (by decide) (by omega) u4 x4_1 y125 _ _ _ (fun k_ => some k_ ≠ (.slice Ao16 y125.length co16 : Value).ownBlock) (fun _ => False) rfl rfl ?aO ?aR (fun _ _ h => h) (fun _ h => h.elim) ?aF ?aB ?aS ?aL ?_; (case aR => repeat (first | exact (Kd.R_reads' HO127.out).2.2 | (with_reducible refine Kd.C_alloc ?_ _) | (with_reducible refine Kd.C_drewN ?_ _) | (with_reducible refine Kd.C_drew ?_))); (case aB => exact (bl HB)); (case aF => exact (fun k_ hk => Kd.fresh' (Kd.R_lt (rl HO127)) k_ hk)); (case aO => exact (by (with_reducible repeat (first | apply Kd.R_alloc | apply Kd.R_drewN | apply Kd.R_drew)); exact Kd.R_mono HO_4.out (fun _ hk => hk.2))); (case aS => exact (below_size (bl HB))); (case aL => have := LMc12.out; omega); intro v129 w15 ho hb hg hat; rw [← Ny128.out] at ho; have n0_ := Aside0.mk (Kd.R_after (ok := (fun _ => True)) (rl HO127) hg hat); have n1_ := Aside0.mk (hb); have n2_ := Aside0.mk (ho); clear HO127; clear HB; clear HO_4; have HO127 := n0_; have HB := n1_; have HO130 := n2_; clear n0_ n1_ n2_; clear ho hb hg hat))
       go_roundg kj8
       case measure => have := HK1.out; have := HJ8.out; omega
       case rel => exact ⟨(y128), (wrap64 (x5_1 + 1)), (by first | rfl | (simp; done) | (simp [*]; done) | (simp; exact xEmpty_ne _) | (simp [*]; exact xEmpty_ne _)), H', ⟨by have := HK1.out; have := HJ8.out; omega⟩, ⟨by (with_reducible repeat (first | apply Kd.R_alloc | apply Kd.R_drewN | apply Kd.R_drew)); exact Kd.R_mono HO130.out (fun _ hk => trivial)⟩, ⟨bl HB⟩⟩
      ·rw [if_neg c12] at H; exact absurd H (by simp)
     ·replace c11 := Bool.eq_false_iff.mpr c11
      subst c11; have H1 : (if (bt t118 x5_1) = 8 then ((some (([92, 98] : List Int) : List Int)).bind fun y131 => (if x4_1.length + y131.length < 140737488355328 then (glossatorref04_Quote.l0 kj8 t118 (⟨#[48, 49, 50, 51, 52, 53, 54, 55, 56, 57, 97, 98, 99, 100, 101, 102]⟩ : ByteArray) (x4_1 ++ y131) (wrap64 (x5_1 + 1))) else (none))) else (if (bt t118 x5_1) = 9 then ((some (([92, 116] : List Int) : List Int)).bind fun y137 => (if x4_1.length + y137.length < 140737488355328 then (glossatorref04_Quote.l0 kj8 t118 (⟨#[48, 49, 50, 51, 52, 53, 54, 55, 56, 57, 97, 98, 99, 100, 101, 102]⟩ : ByteArray) (x4_1 ++ y137) (wrap64 (x5_1 + 1))) else (none))) else (if (bt t118 x5_1) = 10 then ((some (([92, 110] : List Int) : List Int)).bind fun y143 => (if x4_1.length + y143.length < 140737488355328 then (glossatorref04_Quote.l0 kj8 t118 (⟨#[48, 49, 50, 51, 52, 53, 54, 55, 56, 57, 97, 98, 99, 100, 101, 102]⟩ : ByteArray) (x4_1 ++ y143) (wrap64 (x5_1 + 1))) else (none))) else (if (bt t118 x5_1) = 12 then ((some (([92, 102] : List Int) : List Int)).bind fun y149 => (if x4_1.length + y149.length < 140737488355328 then (glossatorref04_Quote.l0 kj8 t118 (⟨#[48, 49, 50, 51, 52, 53, 54, 55, 56, 57, 97, 98, 99, 100, 101, 102]⟩ : ByteArray) (x4_1 ++ y149) (wrap64 (x5_1 + 1))) else (none))) else (if (bt t118 x5_1) = 13 then ((some (([92, 114] : List Int) : List Int)).bind fun y155 => (if x4_1.length + y155.length < 140737488355328 then (glossatorref04_Quote.l0 kj8 t118 (⟨#[48, 49, 50, 51, 52, 53, 54, 55, 56, 57, 97, 98, 99, 100, 101, 102]⟩ : ByteArray) (x4_1 ++ y155) (wrap64 (x5_1 + 1))) else (none))) else (if (bt t118 x5_1) < 32 then (if 0 ≤ ((Int.tdiv (bt t118 x5_1) 16) % 256) then (if ((Int.tdiv (bt t118 x5_1) 16) % 256) < ((⟨#[48, 49, 50, 51, 52, 53, 54, 55, 56, 57, 97, 98, 99, 100, 101, 102]⟩ : ByteArray).size : Int) then (if 0 ≤ (Int.tmod (bt t118 x5_1) 16) then (if (Int.tmod (bt t118 x5_1) 16) < ((⟨#[48, 49, 50, 51, 52, 53, 54, 55, 56, 57, 97, 98, 99, 100, 101, 102]⟩ : ByteArray).size : Int) then ((some (([92, 117, 48, 48, bt (⟨#[48, 49, 50, 51, 52, 53, 54, 55, 56, 57, 97, 98, 99, 100, 101, 102]⟩ : ByteArray) ((Int.tdiv (bt t118 x5_1) 16) % 256), bt (⟨#[48, 49, 50, 51, 52, 53, 54, 55, 56, 57, 97, 98, 99, 100, 101, 102]⟩ : ByteArray) (Int.tmod (bt t118 x5_1) 16)] : List Int) : List Int)).bind fun y161 => (if x4_1.length + y161.length < 140737488355328 then (glossatorref04_Quote.l0 kj8 t118 (⟨#[48, 49, 50, 51, 52, 53, 54, 55, 56, 57, 97, 98, 99, 100, 101, 102]⟩ : ByteArray) (x4_1 ++ y161) (wrap64 (x5_1 + 1))) else (none))) else (none)) else (none)) else (none)) else (none)) else (if x4_1.length < 140737488355328 then (glossatorref04_Quote.l0 kj8 t118 (⟨#[48, 49, 50, 51, 52, 53, 54, 55, 56, 57, 97, 98, 99, 100, 101, 102]⟩ : ByteArray) (x4_1 ++ [(bt t118 x5_1)]) (wrap64 (x5_1 + 1))) else (none)))))))) = some r := by rw [if_neg (show ¬ (false = true) by decide)] at H; exact H
      clear H; have H := H1
      clear H1; by_cases c17 : (bt t118 x5_1) = 8
      ·rw [if_pos c17] at H; have c17b0 : ((bt t118 x5_1) == 8) = true := beq_iff_eq.mpr c17
       have c17b1 : ((bt t118 x5_1) != 8) = false := bne_eq_false_iff_eq.mpr c17
       clear c17; obtain ⟨y131, hy131⟩ : ∃ y_ : List Int, y_ = (([92, 98] : List Int)) := ⟨_, rfl⟩
       replace H : (if x4_1.length + y131.length < 140737488355328 then (glossatorref04_Quote.l0 kj8 t118 (⟨#[48, 49, 50, 51, 52, 53, 54, 55, 56, 57, 97, 98, 99, 100, 101, 102]⟩ : ByteArray) (x4_1 ++ y131) (wrap64 (x5_1 + 1))) else (none)) = some r := by first | (rw [hy131]; with_reducible exact H) | (have H2_ := (Option.bind_some _ _).symm.trans H; rw [hy131]; with_reducible exact H2_) | (have H2_ := (Option.bind_some _ _).symm.trans H; with_reducible exact H2_) | with_reducible exact H | (rw [hy131]; exact H) | exact H
       have Ny131 := Aside0.mk hy131; clear hy131; by_cases c18 : x4_1.length + y131.length < 140737488355328
       ·rw [if_pos c18] at H; have LMc18 := Aside0.mk c18; clear c18; obtain ⟨y134, hy134⟩ : ∃ y_ : List Int, y_ = (x4_1 ++ y131) := ⟨_, rfl⟩
        replace H : (glossatorref04_Quote.l0 kj8 t118 (⟨#[48, 49, 50, 51, 52, 53, 54, 55, 56, 57, 97, 98, 99, 100, 101, 102]⟩ : ByteArray) y134 (wrap64 (x5_1 + 1))) = some r := by first | (rw [hy134]; with_reducible exact H) | (have H2_ := (Option.bind_some _ _).symm.trans H; rw [hy134]; with_reducible exact H2_) | (have H2_ := (Option.bind_some _ _).symm.trans H; with_reducible exact H2_) | with_reducible exact H | (rw [hy134]; exact H) | exact H
        have Ny134 := Aside0.mk hy134; clear hy134; have H' := Aside0.mk H; clear H; go_wp2_with (first | ((with_reducible refine gate_dst (N := 38) rfl ?_); refine Kd.R_lit (Kd.int .u8) _ 5 ?hg (N := 38) ?hd (xs := ([92, 98] : List Int)) (inner := [.int .u8 92, .int .u8 98]) (ok := fun _ => True) (okp := fun _ => True) ?hr ?hp (fun _ hk => hk) trivial (Below.refl _ _) (Nat.le_refl _) (by simp) ?_; (case hd => rfl); (case hg => rfl); (case hr => first | (go_simp; done) | (go_simp; rfl)); (case hp => exact (Reps.one (show Kd.M (Kd.int .u8) _ _ _ 92 [.int .u8 92] from rfl) (Reps.one (show Kd.M (Kd.int .u8) _ _ _ 98 [.int .u8 98] from rfl) (Reps.none _ _)))); intro v132 w19 ho20 hb hg_ hnew_; clear hg_ hnew_; (first | rw [← Ny131.out] at ho20 | (simp only [Int.reduceToNat] at ho20; rw [← Ny131.out] at ho20)); have n0_ := Aside0.mk (Kd.R_elder' (rl HO_4) (Kd.R_base ho20) hb); have n1_ := Aside0.mk (Kd.R_lower (Kd.R_new' ho20 (Kd.R_lt (rl HO_4))) (below_size (bl HB))); have n2_ := Aside0.mk (below_step (bl HB) hb); clear HO_4; clear HB; have HO_4 := n0_; have HO133 := n1_; have HB := n2_; clear n0_ n1_ n2_; clear hb ho20; obtain ⟨Ao22, co22, eo22⟩ := Kd.R_slice HO133.out; subst eo22) | ((with_reducible refine gate_builtin (b := .append) (xs := #[.tmp 37, .tmp 38]) rfl ?_); at_builtin; refine Kd.R_append_rows (Kd.int .u8) (w0 := w) w.heap.size rfl (.tmp 37) (.tmp 38) 48 5 (.int .u8 0) 1 rfl Tryz.underlying48 info5 rfl (by decide) (by omega) u4 x4_1 y131 _ _ _ (fun k_ => some k_ ≠ (.slice Ao22 y131.length co22 : Value).ownBlock) (fun _ => False) rfl rfl ?aO ?aR (fun _ _ h => h) (fun _ h => h.elim) ?aF ?aB ?aS ?aL ?_; (case aR => repeat (first | exact (Kd.R_reads' HO133.out).2.2 | (with_reducible refine Kd.C_alloc ?_ _) | (with_reducible refine Kd.C_drewN ?_ _) | (with_reducible refine Kd.C_drew ?_))); (case aB => exact (bl HB)); (case aF => exact (fun k_ hk => Kd.fresh' (Kd.R_lt (rl HO133)) k_ hk)); (case aO => exact (by (with_reducible repeat (first | apply Kd.R_alloc | apply Kd.R_drewN | apply Kd.R_drew)); exact Kd.R_mono HO_4.out (fun _ hk => hk.2))); (case aS => exact (below_size (bl HB))); (case aL => have := LMc18.out; omega); intro v135 w21 ho hb hg hat; rw [← Ny134.out] at ho; have n0_ := Aside0.mk (Kd.R_after (ok := (fun _ => True)) (rl HO133) hg hat); have n1_ := Aside0.mk (hb); have n2_ := Aside0.mk (ho); clear HO133; clear HB; clear HO_4; have HO133 := n0_; have HB := n1_; have HO136 := n2_; clear n0_ n1_ n2_; clear ho hb hg hat))
        go_roundg kj8
        case measure => have := HK1.out; have := HJ8.out; omega
        case rel => exact ⟨(y134), (wrap64 (x5_1 + 1)), (by first | rfl | (simp; done) | (simp [*]; done) | (simp; exact xEmpty_ne _) | (simp [*]; exact xEmpty_ne _)), H', ⟨by have := HK1.out; have := HJ8.out; omega⟩, ⟨by (with_reducible repeat (first | apply Kd.R_alloc | apply Kd.R_drewN | apply Kd.R_drew)); exact Kd.R_mono HO136.out (fun _ hk => trivial)⟩, ⟨bl HB⟩⟩
       ·rw [if_neg c18] at H; exact absurd H (by simp)
      ·rw [if_neg c17] at H; have c17b0 : ((bt t118 x5_1) == 8) = false := beq_eq_false_iff_ne.mpr c17; have c17b1 : ((bt t118 x5_1) != 8) = true := bne_iff_ne.mpr c17; by_cases c23 : (bt t118 x5_1) = 9
       ·rw [if_pos c23] at H; have c23b0 : ((bt t118 x5_1) == 9) = true := beq_iff_eq.mpr c23
        have c23b1 : ((bt t118 x5_1) != 9) = false := bne_eq_false_iff_eq.mpr c23
        clear c23; obtain ⟨y137, hy137⟩ : ∃ y_ : List Int, y_ = (([92, 116] : List Int)) := ⟨_, rfl⟩
        replace H : (if x4_1.length + y137.length < 140737488355328 then (glossatorref04_Quote.l0 kj8 t118 (⟨#[48, 49, 50, 51, 52, 53, 54, 55, 56, 57, 97, 98, 99, 100, 101, 102]⟩ : ByteArray) (x4_1 ++ y137) (wrap64 (x5_1 + 1))) else (none)) = some r := by first | (rw [hy137]; with_reducible exact H) | (have H2_ := (Option.bind_some _ _).symm.trans H; rw [hy137]; with_reducible exact H2_) | (have H2_ := (Option.bind_some _ _).symm.trans H; with_reducible exact H2_) | with_reducible exact H | (rw [hy137]; exact H) | exact H
        have Ny137 := Aside0.mk hy137; clear hy137; by_cases c24 : x4_1.length + y137.length < 140737488355328
        ·rw [if_pos c24] at H; have LMc24 := Aside0.mk c24; clear c24; obtain ⟨y140, hy140⟩ : ∃ y_ : List Int, y_ = (x4_1 ++ y137) := ⟨_, rfl⟩
         replace H : (glossatorref04_Quote.l0 kj8 t118 (⟨#[48, 49, 50, 51, 52, 53, 54, 55, 56, 57, 97, 98, 99, 100, 101, 102]⟩ : ByteArray) y140 (wrap64 (x5_1 + 1))) = some r := by first | (rw [hy140]; with_reducible exact H) | (have H2_ := (Option.bind_some _ _).symm.trans H; rw [hy140]; with_reducible exact H2_) | (have H2_ := (Option.bind_some _ _).symm.trans H; with_reducible exact H2_) | with_reducible exact H | (rw [hy140]; exact H) | exact H
         have Ny140 := Aside0.mk hy140; clear hy140; have H' := Aside0.mk H; clear H; go_wp2_with (first | ((with_reducible refine gate_dst (N := 44) rfl ?_); refine Kd.R_lit (Kd.int .u8) _ 5 ?hg (N := 44) ?hd (xs := ([92, 116] : List Int)) (inner := [.int .u8 92, .int .u8 116]) (ok := fun _ => True) (okp := fun _ => True) ?hr ?hp (fun _ hk => hk) trivial (Below.refl _ _) (Nat.le_refl _) (by simp) ?_; (case hd => rfl); (case hg => rfl); (case hr => first | (go_simp; done) | (go_simp; rfl)); (case hp => exact (Reps.one (show Kd.M (Kd.int .u8) _ _ _ 92 [.int .u8 92] from rfl) (Reps.one (show Kd.M (Kd.int .u8) _ _ _ 116 [.int .u8 116] from rfl) (Reps.none _ _)))); intro v138 w25 ho26 hb hg_ hnew_; clear hg_ hnew_; (first | rw [← Ny137.out] at ho26 | (simp only [Int.reduceToNat] at ho26; rw [← Ny137.out] at ho26)); have n0_ := Aside0.mk (Kd.R_elder' (rl HO_4) (Kd.R_base ho26) hb); have n1_ := Aside0.mk (Kd.R_lower (Kd.R_new' ho26 (Kd.R_lt (rl HO_4))) (below_size (bl HB))); have n2_ := Aside0.mk (below_step (bl HB) hb); clear HO_4; clear HB; have HO_4 := n0_; have HO139 := n1_; have HB := n2_; clear n0_ n1_ n2_; clear hb ho26; obtain ⟨Ao28, co28, eo28⟩ := Kd.R_slice HO139.out; subst eo28) | ((with_reducible refine gate_builtin (b := .append) (xs := #[.tmp 43, .tmp 44]) rfl ?_); at_builtin; refine Kd.R_append_rows (Kd.int .u8) (w0 := w) w.heap.size rfl (.tmp 43) (.tmp 44) 48 5 (.int .u8 0) 1 rfl Tryz.underlying48 info5 rfl (by decide) (by omega) u4 x4_1 y137 _ _ _ (fun k_ => some k_ ≠ (.slice Ao28 y137.length co28 : Value).ownBlock) (fun _ => False) rfl rfl ?aO ?aR (fun _ _ h => h) (fun _ h => h.elim) ?aF ?aB ?aS ?aL ?_; (case aR => repeat (first | exact (Kd.R_reads' HO139.out).2.2 | (with_reducible refine Kd.C_alloc ?_ _) | (with_reducible refine Kd.C_drewN ?_ _) | (with_reducible refine Kd.C_drew ?_))); (case aB => exact (bl HB)); (case aF => exact (fun k_ hk => Kd.fresh' (Kd.R_lt (rl HO139)) k_ hk)); (case aO => exact (by (with_reducible repeat (first | apply Kd.R_alloc | apply Kd.R_drewN | apply Kd.R_drew)); exact Kd.R_mono HO_4.out (fun _ hk => hk.2))); (case aS => exact (below_size (bl HB))); (case aL => have := LMc24.out; omega); intro v141 w27 ho hb hg hat; rw [← Ny140.out] at ho; have n0_ := Aside0.mk (Kd.R_after (ok := (fun _ => True)) (rl HO139) hg hat); have n1_ := Aside0.mk (hb); have n2_ := Aside0.mk (ho); clear HO139; clear HB; clear HO_4; have HO139 := n0_; have HB := n1_; have HO142 := n2_; clear n0_ n1_ n2_; clear ho hb hg hat))
         go_roundg kj8
         case measure => have := HK1.out; have := HJ8.out; omega
         case rel => exact ⟨(y140), (wrap64 (x5_1 + 1)), (by first | rfl | (simp; done) | (simp [*]; done) | (simp; exact xEmpty_ne _) | (simp [*]; exact xEmpty_ne _)), H', ⟨by have := HK1.out; have := HJ8.out; omega⟩, ⟨by (with_reducible repeat (first | apply Kd.R_alloc | apply Kd.R_drewN | apply Kd.R_drew)); exact Kd.R_mono HO142.out (fun _ hk => trivial)⟩, ⟨bl HB⟩⟩
        ·rw [if_neg c24] at H; exact absurd H (by simp)
       ·rw [if_neg c23] at H; have c23b0 : ((bt t118 x5_1) == 9) = false := beq_eq_false_iff_ne.mpr c23; have c23b1 : ((bt t118 x5_1) != 9) = true := bne_iff_ne.mpr c23; by_cases c29 : (bt t118 x5_1) = 10
        ·rw [if_pos c29] at H; have c29b0 : ((bt t118 x5_1) == 10) = true := beq_iff_eq.mpr c29
         have c29b1 : ((bt t118 x5_1) != 10) = false := bne_eq_false_iff_eq.mpr c29
         clear c29; obtain ⟨y143, hy143⟩ : ∃ y_ : List Int, y_ = (([92, 110] : List Int)) := ⟨_, rfl⟩
         replace H : (if x4_1.length + y143.length < 140737488355328 then (glossatorref04_Quote.l0 kj8 t118 (⟨#[48, 49, 50, 51, 52, 53, 54, 55, 56, 57, 97, 98, 99, 100, 101, 102]⟩ : ByteArray) (x4_1 ++ y143) (wrap64 (x5_1 + 1))) else (none)) = some r := by first | (rw [hy143]; with_reducible exact H) | (have H2_ := (Option.bind_some _ _).symm.trans H; rw [hy143]; with_reducible exact H2_) | (have H2_ := (Option.bind_some _ _).symm.trans H; with_reducible exact H2_) | with_reducible exact H | (rw [hy143]; exact H) | exact H
         have Ny143 := Aside0.mk hy143; clear hy143; by_cases c30 : x4_1.length + y143.length < 140737488355328
         ·rw [if_pos c30] at H; have LMc30 := Aside0.mk c30; clear c30; obtain ⟨y146, hy146⟩ : ∃ y_ : List Int, y_ = (x4_1 ++ y143) := ⟨_, rfl⟩
          replace H : (glossatorref04_Quote.l0 kj8 t118 (⟨#[48, 49, 50, 51, 52, 53, 54, 55, 56, 57, 97, 98, 99, 100, 101, 102]⟩ : ByteArray) y146 (wrap64 (x5_1 + 1))) = some r := by first | (rw [hy146]; with_reducible exact H) | (have H2_ := (Option.bind_some _ _).symm.trans H; rw [hy146]; with_reducible exact H2_) | (have H2_ := (Option.bind_some _ _).symm.trans H; with_reducible exact H2_) | with_reducible exact H | (rw [hy146]; exact H) | exact H
          have Ny146 := Aside0.mk hy146; clear hy146; have H' := Aside0.mk H; clear H; go_wp2_with (first | ((with_reducible refine gate_dst (N := 50) rfl ?_); refine Kd.R_lit (Kd.int .u8) _ 5 ?hg (N := 50) ?hd (xs := ([92, 110] : List Int)) (inner := [.int .u8 92, .int .u8 110]) (ok := fun _ => True) (okp := fun _ => True) ?hr ?hp (fun _ hk => hk) trivial (Below.refl _ _) (Nat.le_refl _) (by simp) ?_; (case hd => rfl); (case hg => rfl); (case hr => first | (go_simp; done) | (go_simp; rfl)); (case hp => exact (Reps.one (show Kd.M (Kd.int .u8) _ _ _ 92 [.int .u8 92] from rfl) (Reps.one (show Kd.M (Kd.int .u8) _ _ _ 110 [.int .u8 110] from rfl) (Reps.none _ _)))); intro v144 w31 ho32 hb hg_ hnew_; clear hg_ hnew_; (first | rw [← Ny143.out] at ho32 | (simp only [Int.reduceToNat] at ho32; rw [← Ny143.out] at ho32)); have n0_ := Aside0.mk (Kd.R_elder' (rl HO_4) (Kd.R_base ho32) hb); have n1_ := Aside0.mk (Kd.R_lower (Kd.R_new' ho32 (Kd.R_lt (rl HO_4))) (below_size (bl HB))); have n2_ := Aside0.mk (below_step (bl HB) hb); clear HO_4; clear HB; have HO_4 := n0_; have HO145 := n1_; have HB := n2_; clear n0_ n1_ n2_; clear hb ho32; obtain ⟨Ao34, co34, eo34⟩ := Kd.R_slice HO145.out; subst eo34) | ((with_reducible refine gate_builtin (b := .append) (xs := #[.tmp 49, .tmp 50]) rfl ?_); at_builtin; refine Kd.R_append_rows (Kd.int .u8) (w0 := w) w.heap.size rfl (.tmp 49) (.tmp 50) 48 5 (.int .u8 0) 1 rfl Tryz.underlying48 info5 rfl (by decide) (by omega) u4 x4_1 y143 _ _ _ (fun k_ => some k_ ≠ (.slice Ao34 y143.length co34 : Value).ownBlock) (fun _ => False) rfl rfl ?aO ?aR (fun _ _ h => h) (fun _ h => h.elim) ?aF ?aB ?aS ?aL ?_; (case aR => repeat (first | exact (Kd.R_reads' HO145.out).2.2 | (with_reducible refine Kd.C_alloc ?_ _) | (with_reducible refine Kd.C_drewN ?_ _) | (with_reducible refine Kd.C_drew ?_))); (case aB => exact (bl HB)); (case aF => exact (fun k_ hk => Kd.fresh' (Kd.R_lt (rl HO145)) k_ hk)); (case aO => exact (by (with_reducible repeat (first | apply Kd.R_alloc | apply Kd.R_drewN | apply Kd.R_drew)); exact Kd.R_mono HO_4.out (fun _ hk => hk.2))); (case aS => exact (below_size (bl HB))); (case aL => have := LMc30.out; omega); intro v147 w33 ho hb hg hat; rw [← Ny146.out] at ho; have n0_ := Aside0.mk (Kd.R_after (ok := (fun _ => True)) (rl HO145) hg hat); have n1_ := Aside0.mk (hb); have n2_ := Aside0.mk (ho); clear HO145; clear HB; clear HO_4; have HO145 := n0_; have HB := n1_; have HO148 := n2_; clear n0_ n1_ n2_; clear ho hb hg hat))
          go_roundg kj8
          case measure => have := HK1.out; have := HJ8.out; omega
          case rel => exact ⟨(y146), (wrap64 (x5_1 + 1)), (by first | rfl | (simp; done) | (simp [*]; done) | (simp; exact xEmpty_ne _) | (simp [*]; exact xEmpty_ne _)), H', ⟨by have := HK1.out; have := HJ8.out; omega⟩, ⟨by (with_reducible repeat (first | apply Kd.R_alloc | apply Kd.R_drewN | apply Kd.R_drew)); exact Kd.R_mono HO148.out (fun _ hk => trivial)⟩, ⟨bl HB⟩⟩
         ·rw [if_neg c30] at H; exact absurd H (by simp)
        ·rw [if_neg c29] at H; have c29b0 : ((bt t118 x5_1) == 10) = false := beq_eq_false_iff_ne.mpr c29; have c29b1 : ((bt t118 x5_1) != 10) = true := bne_iff_ne.mpr c29; by_cases c35 : (bt t118 x5_1) = 12
         ·rw [if_pos c35] at H; have c35b0 : ((bt t118 x5_1) == 12) = true := beq_iff_eq.mpr c35
          have c35b1 : ((bt t118 x5_1) != 12) = false := bne_eq_false_iff_eq.mpr c35
          clear c35; obtain ⟨y149, hy149⟩ : ∃ y_ : List Int, y_ = (([92, 102] : List Int)) := ⟨_, rfl⟩
          replace H : (if x4_1.length + y149.length < 140737488355328 then (glossatorref04_Quote.l0 kj8 t118 (⟨#[48, 49, 50, 51, 52, 53, 54, 55, 56, 57, 97, 98, 99, 100, 101, 102]⟩ : ByteArray) (x4_1 ++ y149) (wrap64 (x5_1 + 1))) else (none)) = some r := by first | (rw [hy149]; with_reducible exact H) | (have H2_ := (Option.bind_some _ _).symm.trans H; rw [hy149]; with_reducible exact H2_) | (have H2_ := (Option.bind_some _ _).symm.trans H; with_reducible exact H2_) | with_reducible exact H | (rw [hy149]; exact H) | exact H
          have Ny149 := Aside0.mk hy149; clear hy149; by_cases c36 : x4_1.length + y149.length < 140737488355328
          ·rw [if_pos c36] at H; have LMc36 := Aside0.mk c36; clear c36; obtain ⟨y152, hy152⟩ : ∃ y_ : List Int, y_ = (x4_1 ++ y149) := ⟨_, rfl⟩
           replace H : (glossatorref04_Quote.l0 kj8 t118 (⟨#[48, 49, 50, 51, 52, 53, 54, 55, 56, 57, 97, 98, 99, 100, 101, 102]⟩ : ByteArray) y152 (wrap64 (x5_1 + 1))) = some r := by first | (rw [hy152]; with_reducible exact H) | (have H2_ := (Option.bind_some _ _).symm.trans H; rw [hy152]; with_reducible exact H2_) | (have H2_ := (Option.bind_some _ _).symm.trans H; with_reducible exact H2_) | with_reducible exact H | (rw [hy152]; exact H) | exact H
           have Ny152 := Aside0.mk hy152; clear hy152; have H' := Aside0.mk H; clear H; go_wp2_with (first | ((with_reducible refine gate_dst (N := 56) rfl ?_); refine Kd.R_lit (Kd.int .u8) _ 5 ?hg (N := 56) ?hd (xs := ([92, 102] : List Int)) (inner := [.int .u8 92, .int .u8 102]) (ok := fun _ => True) (okp := fun _ => True) ?hr ?hp (fun _ hk => hk) trivial (Below.refl _ _) (Nat.le_refl _) (by simp) ?_; (case hd => rfl); (case hg => rfl); (case hr => first | (go_simp; done) | (go_simp; rfl)); (case hp => exact (Reps.one (show Kd.M (Kd.int .u8) _ _ _ 92 [.int .u8 92] from rfl) (Reps.one (show Kd.M (Kd.int .u8) _ _ _ 102 [.int .u8 102] from rfl) (Reps.none _ _)))); intro v150 w37 ho38 hb hg_ hnew_; clear hg_ hnew_; (first | rw [← Ny149.out] at ho38 | (simp only [Int.reduceToNat] at ho38; rw [← Ny149.out] at ho38)); have n0_ := Aside0.mk (Kd.R_elder' (rl HO_4) (Kd.R_base ho38) hb); have n1_ := Aside0.mk (Kd.R_lower (Kd.R_new' ho38 (Kd.R_lt (rl HO_4))) (below_size (bl HB))); have n2_ := Aside0.mk (below_step (bl HB) hb); clear HO_4; clear HB; have HO_4 := n0_; have HO151 := n1_; have HB := n2_; clear n0_ n1_ n2_; clear hb ho38; obtain ⟨Ao40, co40, eo40⟩ := Kd.R_slice HO151.out; subst eo40) | ((with_reducible refine gate_builtin (b := .append) (xs := #[.tmp 55, .tmp 56]) rfl ?_); at_builtin; refine Kd.R_append_rows (Kd.int .u8) (w0 := w) w.heap.size rfl (.tmp 55) (.tmp 56) 48 5 (.int .u8 0) 1 rfl Tryz.underlying48 info5 rfl (by decide) (by omega) u4 x4_1 y149 _ _ _ (fun k_ => some k_ ≠ (.slice Ao40 y149.length co40 : Value).ownBlock) (fun _ => False) rfl rfl ?aO ?aR (fun _ _ h => h) (fun _ h => h.elim) ?aF ?aB ?aS ?aL ?_; (case aR => repeat (first | exact (Kd.R_reads' HO151.out).2.2 | (with_reducible refine Kd.C_alloc ?_ _) | (with_reducible refine Kd.C_drewN ?_ _) | (with_reducible refine Kd.C_drew ?_))); (case aB => exact (bl HB)); (case aF => exact (fun k_ hk => Kd.fresh' (Kd.R_lt (rl HO151)) k_ hk)); (case aO => exact (by (with_reducible repeat (first | apply Kd.R_alloc | apply Kd.R_drewN | apply Kd.R_drew)); exact Kd.R_mono HO_4.out (fun _ hk => hk.2))); (case aS => exact (below_size (bl HB))); (case aL => have := LMc36.out; omega); intro v153 w39 ho hb hg hat; rw [← Ny152.out] at ho; have n0_ := Aside0.mk (Kd.R_after (ok := (fun _ => True)) (rl HO151) hg hat); have n1_ := Aside0.mk (hb); have n2_ := Aside0.mk (ho); clear HO151; clear HB; clear HO_4; have HO151 := n0_; have HB := n1_; have HO154 := n2_; clear n0_ n1_ n2_; clear ho hb hg hat))
           go_roundg kj8
           case measure => have := HK1.out; have := HJ8.out; omega
           case rel => exact ⟨(y152), (wrap64 (x5_1 + 1)), (by first | rfl | (simp; done) | (simp [*]; done) | (simp; exact xEmpty_ne _) | (simp [*]; exact xEmpty_ne _)), H', ⟨by have := HK1.out; have := HJ8.out; omega⟩, ⟨by (with_reducible repeat (first | apply Kd.R_alloc | apply Kd.R_drewN | apply Kd.R_drew)); exact Kd.R_mono HO154.out (fun _ hk => trivial)⟩, ⟨bl HB⟩⟩
          ·rw [if_neg c36] at H; exact absurd H (by simp)
         ·rw [if_neg c35] at H; have c35b0 : ((bt t118 x5_1) == 12) = false := beq_eq_false_iff_ne.mpr c35; have c35b1 : ((bt t118 x5_1) != 12) = true := bne_iff_ne.mpr c35; by_cases c41 : (bt t118 x5_1) = 13
          ·rw [if_pos c41] at H; have c41b0 : ((bt t118 x5_1) == 13) = true := beq_iff_eq.mpr c41
           have c41b1 : ((bt t118 x5_1) != 13) = false := bne_eq_false_iff_eq.mpr c41
           clear c41; obtain ⟨y155, hy155⟩ : ∃ y_ : List Int, y_ = (([92, 114] : List Int)) := ⟨_, rfl⟩
           replace H : (if x4_1.length + y155.length < 140737488355328 then (glossatorref04_Quote.l0 kj8 t118 (⟨#[48, 49, 50, 51, 52, 53, 54, 55, 56, 57, 97, 98, 99, 100, 101, 102]⟩ : ByteArray) (x4_1 ++ y155) (wrap64 (x5_1 + 1))) else (none)) = some r := by first | (rw [hy155]; with_reducible exact H) | (have H2_ := (Option.bind_some _ _).symm.trans H; rw [hy155]; with_reducible exact H2_) | (have H2_ := (Option.bind_some _ _).symm.trans H; with_reducible exact H2_) | with_reducible exact H | (rw [hy155]; exact H) | exact H
           have Ny155 := Aside0.mk hy155; clear hy155; by_cases c42 : x4_1.length + y155.length < 140737488355328
           ·rw [if_pos c42] at H; have LMc42 := Aside0.mk c42; clear c42; obtain ⟨y158, hy158⟩ : ∃ y_ : List Int, y_ = (x4_1 ++ y155) := ⟨_, rfl⟩
            replace H : (glossatorref04_Quote.l0 kj8 t118 (⟨#[48, 49, 50, 51, 52, 53, 54, 55, 56, 57, 97, 98, 99, 100, 101, 102]⟩ : ByteArray) y158 (wrap64 (x5_1 + 1))) = some r := by first | (rw [hy158]; with_reducible exact H) | (have H2_ := (Option.bind_some _ _).symm.trans H; rw [hy158]; with_reducible exact H2_) | (have H2_ := (Option.bind_some _ _).symm.trans H; with_reducible exact H2_) | with_reducible exact H | (rw [hy158]; exact H) | exact H
            have Ny158 := Aside0.mk hy158; clear hy158; have H' := Aside0.mk H; clear H; go_wp2_with (first | ((with_reducible refine gate_dst (N := 62) rfl ?_); refine Kd.R_lit (Kd.int .u8) _ 5 ?hg (N := 62) ?hd (xs := ([92, 114] : List Int)) (inner := [.int .u8 92, .int .u8 114]) (ok := fun _ => True) (okp := fun _ => True) ?hr ?hp (fun _ hk => hk) trivial (Below.refl _ _) (Nat.le_refl _) (by simp) ?_; (case hd => rfl); (case hg => rfl); (case hr => first | (go_simp; done) | (go_simp; rfl)); (case hp => exact (Reps.one (show Kd.M (Kd.int .u8) _ _ _ 92 [.int .u8 92] from rfl) (Reps.one (show Kd.M (Kd.int .u8) _ _ _ 114 [.int .u8 114] from rfl) (Reps.none _ _)))); intro v156 w43 ho44 hb hg_ hnew_; clear hg_ hnew_; (first | rw [← Ny155.out] at ho44 | (simp only [Int.reduceToNat] at ho44; rw [← Ny155.out] at ho44)); have n0_ := Aside0.mk (Kd.R_elder' (rl HO_4) (Kd.R_base ho44) hb); have n1_ := Aside0.mk (Kd.R_lower (Kd.R_new' ho44 (Kd.R_lt (rl HO_4))) (below_size (bl HB))); have n2_ := Aside0.mk (below_step (bl HB) hb); clear HO_4; clear HB; have HO_4 := n0_; have HO157 := n1_; have HB := n2_; clear n0_ n1_ n2_; clear hb ho44; obtain ⟨Ao46, co46, eo46⟩ := Kd.R_slice HO157.out; subst eo46) | ((with_reducible refine gate_builtin (b := .append) (xs := #[.tmp 61, .tmp 62]) rfl ?_); at_builtin; refine Kd.R_append_rows (Kd.int .u8) (w0 := w) w.heap.size rfl (.tmp 61) (.tmp 62) 48 5 (.int .u8 0) 1 rfl Tryz.underlying48 info5 rfl (by decide) (by omega) u4 x4_1 y155 _ _ _ (fun k_ => some k_ ≠ (.slice Ao46 y155.length co46 : Value).ownBlock) (fun _ => False) rfl rfl ?aO ?aR (fun _ _ h => h) (fun _ h => h.elim) ?aF ?aB ?aS ?aL ?_; (case aR => repeat (first | exact (Kd.R_reads' HO157.out).2.2 | (with_reducible refine Kd.C_alloc ?_ _) | (with_reducible refine Kd.C_drewN ?_ _) | (with_reducible refine Kd.C_drew ?_))); (case aB => exact (bl HB)); (case aF => exact (fun k_ hk => Kd.fresh' (Kd.R_lt (rl HO157)) k_ hk)); (case aO => exact (by (with_reducible repeat (first | apply Kd.R_alloc | apply Kd.R_drewN | apply Kd.R_drew)); exact Kd.R_mono HO_4.out (fun _ hk => hk.2))); (case aS => exact (below_size (bl HB))); (case aL => have := LMc42.out; omega); intro v159 w45 ho hb hg hat; rw [← Ny158.out] at ho; have n0_ := Aside0.mk (Kd.R_after (ok := (fun _ => True)) (rl HO157) hg hat); have n1_ := Aside0.mk (hb); have n2_ := Aside0.mk (ho); clear HO157; clear HB; clear HO_4; have HO157 := n0_; have HB := n1_; have HO160 := n2_; clear n0_ n1_ n2_; clear ho hb hg hat))
            go_roundg kj8
            case measure => have := HK1.out; have := HJ8.out; omega
            case rel => exact ⟨(y158), (wrap64 (x5_1 + 1)), (by first | rfl | (simp; done) | (simp [*]; done) | (simp; exact xEmpty_ne _) | (simp [*]; exact xEmpty_ne _)), H', ⟨by have := HK1.out; have := HJ8.out; omega⟩, ⟨by (with_reducible repeat (first | apply Kd.R_alloc | apply Kd.R_drewN | apply Kd.R_drew)); exact Kd.R_mono HO160.out (fun _ hk => trivial)⟩, ⟨bl HB⟩⟩
           ·rw [if_neg c42] at H; exact absurd H (by simp)
          ·rw [if_neg c41] at H; have c41b0 : ((bt t118 x5_1) == 13) = false := beq_eq_false_iff_ne.mpr c41; have c41b1 : ((bt t118 x5_1) != 13) = true := bne_iff_ne.mpr c41; by_cases c47 : (bt t118 x5_1) < 32
           ·rw [if_pos c47] at H; have c47b0 : decide ((bt t118 x5_1) < 32) = true := decide_eq_true c47; clear c47; obtain ⟨ji48, hji48⟩ : ∃ j_ : Int, ((Int.tdiv (bt t118 x5_1) 16) % 256) = j_ := ⟨_, rfl⟩
            have hwji48 : IntKind.u8.wrap (Int.tdiv (bt t118 x5_1) 16) = ji48 := hji48
            replace H : (if 0 ≤ (ji48) then (if (ji48) < ((⟨#[48, 49, 50, 51, 52, 53, 54, 55, 56, 57, 97, 98, 99, 100, 101, 102]⟩ : ByteArray).size : Int) then (if 0 ≤ (Int.tmod (bt t118 x5_1) 16) then (if (Int.tmod (bt t118 x5_1) 16) < ((⟨#[48, 49, 50, 51, 52, 53, 54, 55, 56, 57, 97, 98, 99, 100, 101, 102]⟩ : ByteArray).size : Int) then ((some (([92, 117, 48, 48, bt (⟨#[48, 49, 50, 51, 52, 53, 54, 55, 56, 57, 97, 98, 99, 100, 101, 102]⟩ : ByteArray) (ji48), bt (⟨#[48, 49, 50, 51, 52, 53, 54, 55, 56, 57, 97, 98, 99, 100, 101, 102]⟩ : ByteArray) (Int.tmod (bt t118 x5_1) 16)] : List Int) : List Int)).bind fun y161 => (if x4_1.length + y161.length < 140737488355328 then (glossatorref04_Quote.l0 kj8 t118 (⟨#[48, 49, 50, 51, 52, 53, 54, 55, 56, 57, 97, 98, 99, 100, 101, 102]⟩ : ByteArray) (x4_1 ++ y161) (wrap64 (x5_1 + 1))) else (none))) else (none)) else (none)) else (none)) else (none)) = some r := by first | (rw [hji48] at H; exact H) | (simp only [hji48] at H ⊢; exact H)
            by_cases c49 : 0 ≤ (ji48)
            rotate_left
            ·rw [if_neg c49] at H; exact absurd H (by simp)
            rw [if_pos c49] at H; have c49b0 : decide (0 ≤ (ji48)) = true := decide_eq_true c49; clear c49; by_cases c50 : (ji48) < ((⟨#[48, 49, 50, 51, 52, 53, 54, 55, 56, 57, 97, 98, 99, 100, 101, 102]⟩ : ByteArray).size : Int)
            rotate_left
            ·rw [if_neg c50] at H; exact absurd H (by simp)
            rw [if_pos c50] at H; have c50b0 : decide ((ji48) < ((⟨#[48, 49, 50, 51, 52, 53, 54, 55, 56, 57, 97, 98, 99, 100, 101, 102]⟩ : ByteArray).size : Int)) = true := decide_eq_true c50; clear c50; obtain ⟨ji52, hji52⟩ : ∃ j_ : Int, (Int.tmod (bt t118 x5_1) 16) = j_ := ⟨_, rfl⟩
            replace H : (if 0 ≤ (ji52) then (if (ji52) < ((⟨#[48, 49, 50, 51, 52, 53, 54, 55, 56, 57, 97, 98, 99, 100, 101, 102]⟩ : ByteArray).size : Int) then ((some (([92, 117, 48, 48, bt (⟨#[48, 49, 50, 51, 52, 53, 54, 55, 56, 57, 97, 98, 99, 100, 101, 102]⟩ : ByteArray) (ji48), bt (⟨#[48, 49, 50, 51, 52, 53, 54, 55, 56, 57, 97, 98, 99, 100, 101, 102]⟩ : ByteArray) (ji52)] : List Int) : List Int)).bind fun y161 => (if x4_1.length + y161.length < 140737488355328 then (glossatorref04_Quote.l0 kj8 t118 (⟨#[48, 49, 50, 51, 52, 53, 54, 55, 56, 57, 97, 98, 99, 100, 101, 102]⟩ : ByteArray) (x4_1 ++ y161) (wrap64 (x5_1 + 1))) else (none))) else (none)) else (none)) = some r := by first | (rw [hji52] at H; exact H) | (simp only [hji52] at H ⊢; exact H)
            by_cases c53 : 0 ≤ (ji52)
            rotate_left
            ·rw [if_neg c53] at H; exact absurd H (by simp)
            rw [if_pos c53] at H; have c53b0 : decide (0 ≤ (ji52)) = true := decide_eq_true c53; clear c53; by_cases c54 : (ji52) < ((⟨#[48, 49, 50, 51, 52, 53, 54, 55, 56, 57, 97, 98, 99, 100, 101, 102]⟩ : ByteArray).size : Int)
            rotate_left
            ·rw [if_neg c54] at H; exact absurd H (by simp)
            rw [if_pos c54] at H; have c54b0 : decide ((ji52) < ((⟨#[48, 49, 50, 51, 52, 53, 54, 55, 56, 57, 97, 98, 99, 100, 101, 102]⟩ : ByteArray).size : Int)) = true := decide_eq_true c54; clear c54; obtain ⟨y161, hy161⟩ : ∃ y_ : List Int, y_ = (([92, 117, 48, 48, bt (⟨#[48, 49, 50, 51, 52, 53, 54, 55, 56, 57, 97, 98, 99, 100, 101, 102]⟩ : ByteArray) (ji48), bt (⟨#[48, 49, 50, 51, 52, 53, 54, 55, 56, 57, 97, 98, 99, 100, 101, 102]⟩ : ByteArray) (ji52)] : List Int)) := ⟨_, rfl⟩
            replace H : (if x4_1.length + y161.length < 140737488355328 then (glossatorref04_Quote.l0 kj8 t118 (⟨#[48, 49, 50, 51, 52, 53, 54, 55, 56, 57, 97, 98, 99, 100, 101, 102]⟩ : ByteArray) (x4_1 ++ y161) (wrap64 (x5_1 + 1))) else (none)) = some r := by first | (rw [hy161]; with_reducible exact H) | (have H2_ := (Option.bind_some _ _).symm.trans H; rw [hy161]; with_reducible exact H2_) | (have H2_ := (Option.bind_some _ _).symm.trans H; with_reducible exact H2_) | with_reducible exact H | (rw [hy161]; exact H) | exact H
            have Ny161 := Aside0.mk hy161; clear hy161; by_cases c56 : x4_1.length + y161.length < 140737488355328
            rotate_left
            ·rw [if_neg c56] at H; exact absurd H (by simp)
            rw [if_pos c56] at H; have LMc56 := Aside0.mk c56; clear c56; obtain ⟨y164, hy164⟩ : ∃ y_ : List Int, y_ = (x4_1 ++ y161) := ⟨_, rfl⟩
            replace H : (glossatorref04_Quote.l0 kj8 t118 (⟨#[48, 49, 50, 51, 52, 53, 54, 55, 56, 57, 97, 98, 99, 100, 101, 102]⟩ : ByteArray) y164 (wrap64 (x5_1 + 1))) = some r := by first | (rw [hy164]; with_reducible exact H) | (have H2_ := (Option.bind_some _ _).symm.trans H; rw [hy164]; with_reducible exact H2_) | (have H2_ := (Option.bind_some _ _).symm.trans H; with_reducible exact H2_) | with_reducible exact H | (rw [hy164]; exact H) | exact H
            have Ny164 := Aside0.mk hy164; clear hy164; have H' := Aside0.mk H; clear H; try go_wp2
            have n0_ := Aside0.mk (Kd.R_drew HO_4.out); have n1_ := Aside0.mk (below_drew1 HB.out); clear HO_4; clear HB; have HO_4 := n0_; have HB := n1_; clear n0_ n1_; have p51 : 0 ≤ ((ji48) : Int) := of_decide_eq_true (by first | (with_reducible assumption) | assumption)
            have q51 : (ji48) < (16 : Int) := of_decide_eq_true (by first | (with_reducible assumption) | assumption)
            have hx51 := bt_at (⟨#[48, 49, 50, 51, 52, 53, 54, 55, 56, 57, 97, 98, 99, 100, 101, 102]⟩ : ByteArray) (ji48)
            replace p51 := eq_true p51; replace q51 := eq_true q51; have p55 : 0 ≤ ((ji52) : Int) := of_decide_eq_true (by first | (with_reducible assumption) | assumption)
            have q55 : (ji52) < (16 : Int) := of_decide_eq_true (by first | (with_reducible assumption) | assumption)
            have hx55 := bt_at (⟨#[48, 49, 50, 51, 52, 53, 54, 55, 56, 57, 97, 98, 99, 100, 101, 102]⟩ : ByteArray) (ji52)
            replace p55 := eq_true p55; replace q55 := eq_true q55; refine start_ (n := 12) (S := fun w' => True) (ds := []) (bz 12 0) (by kernel_rfl) rfl rfl trivial (fun hHeld => ?_); refine with_tabW glossatorref04_Quote.tab22 glossatorref04_Quote.bits22 (fun HT_ HW_ => ?_)
            generalize wc.drew = w57 at HO_4 HB hHeld ⊢
            refine pu 0 (some 67) (bz 12 1) HT_ rfl rfl ?_; refine pu 1 (some 68) (bz 12 3) HT_ rfl rfl ?_; refine pu 2 (some 69) (bz 12 7) HT_ rfl rfl ?_; refine pu 3 (some 70) (bz 12 15) HT_ rfl rfl ?_; refine pu 5 (some 72) (bz 12 47) HT_ rfl rfl ?_; refine pu 6 (some 73) (bz 12 111) HT_ rfl rfl ?_; refine pu 7 (some 74) (bz 12 239) HT_ rfl rfl ?_; refine take_ (i := 4) (N := some 71) (v := ?_) (a' := ?_) (bz 12 255) rfl rfl (take_ofW HT_.out HW_.out (by kernel_rfl)) (fun _ _ _ h => h) (Or.inl ⟨by rfl, ?_⟩) hHeld ?_ ?_
            rotate_left
            ·intro w' _
             go_simp
             with_reducible rfl
            rotate_left
            ·simp only [Act.put, List.setIfInBounds_toArray, List.set_cons_zero, List.set_cons_succ, i64_w, i32_w]
             rfl
            refine take_ (i := 8) (N := some 75) (v := ?_) (a' := ?_) (bz 12 511) rfl rfl (take_ofW HT_.out HW_.out (by kernel_rfl)) (fun _ _ _ h => h) (Or.inl ⟨by rfl, ?_⟩) hHeld ?_ ?_
            rotate_left
            ·intro w' _
             go_simp
             with_reducible rfl
            rotate_left
            ·simp only [Act.put, List.setIfInBounds_toArray, List.set_cons_zero, List.set_cons_succ, i64_w, i32_w]
             rfl
            refine one_ (i := 9) (N := some 76) (bz 12 1023) rfl rfl (one_of HT_.out (by kernel_rfl)) (by decide) (fun K hK => ?_)
            refine Kd.R_lit_step (Kd.int .u8) _ 5 ?hg (N := 76) ?hd (xs := ([92, 117, 48, 48, bt (⟨#[48, 49, 50, 51, 52, 53, 54, 55, 56, 57, 97, 98, 99, 100, 101, 102]⟩ : ByteArray) (ji48), bt (⟨#[48, 49, 50, 51, 52, 53, 54, 55, 56, 57, 97, 98, 99, 100, 101, 102]⟩ : ByteArray) (ji52)] : List Int)) (inner := [.int .u8 92, .int .u8 117, .int .u8 48, .int .u8 48, .int .u8 (bt (⟨#[48, 49, 50, 51, 52, 53, 54, 55, 56, 57, 97, 98, 99, 100, 101, 102]⟩ : ByteArray) (ji48)), .int .u8 (bt (⟨#[48, 49, 50, 51, 52, 53, 54, 55, 56, 57, 97, 98, 99, 100, 101, 102]⟩ : ByteArray) (ji52))]) (ok := fun _ => True) (okp := fun _ => True) ?hr ?hp (fun _ hk => hk) trivial (Below.refl _ _) (Nat.le_refl _) (by simp) ?_; (case hd => rfl); (case hg => rfl); (case hr => first | (go_simp; done) | (go_simp; rfl)); (case hp => exact (Reps.one (show Kd.M (Kd.int .u8) _ _ _ 92 [.int .u8 92] from rfl) (Reps.one (show Kd.M (Kd.int .u8) _ _ _ 117 [.int .u8 117] from rfl) (Reps.one (show Kd.M (Kd.int .u8) _ _ _ 48 [.int .u8 48] from rfl) (Reps.one (show Kd.M (Kd.int .u8) _ _ _ 48 [.int .u8 48] from rfl) (Reps.one (show Kd.M (Kd.int .u8) _ _ _ (bt (⟨#[48, 49, 50, 51, 52, 53, 54, 55, 56, 57, 97, 98, 99, 100, 101, 102]⟩ : ByteArray) (ji48)) [.int .u8 (bt (⟨#[48, 49, 50, 51, 52, 53, 54, 55, 56, 57, 97, 98, 99, 100, 101, 102]⟩ : ByteArray) (ji48))] from rfl) (Reps.one (show Kd.M (Kd.int .u8) _ _ _ (bt (⟨#[48, 49, 50, 51, 52, 53, 54, 55, 56, 57, 97, 98, 99, 100, 101, 102]⟩ : ByteArray) (ji52)) [.int .u8 (bt (⟨#[48, 49, 50, 51, 52, 53, 54, 55, 56, 57, 97, 98, 99, 100, 101, 102]⟩ : ByteArray) (ji52))] from rfl) (Reps.none _ _))))))))
            intro v162 w58 ho59 hb hg_ hnew_
            clear hg_ hnew_; (first | rw [← Ny161.out] at ho59 | (simp only [Int.reduceToNat] at ho59; rw [← Ny161.out] at ho59))
            have n0_ := Aside0.mk (Kd.R_elder' (rl HO_4) (Kd.R_base ho59) hb); have n1_ := Aside0.mk (Kd.R_lower (Kd.R_new' ho59 (Kd.R_lt (rl HO_4))) (below_size (bl HB))); have n2_ := Aside0.mk (below_step (bl HB) hb); clear HO_4; clear HB; have HO_4 := n0_; have HO163 := n1_; have HB := n2_; clear n0_ n1_ n2_; clear hb ho59; obtain ⟨Ao61, co61, eo61⟩ := Kd.R_slice HO163.out
            (first | subst eo61 | (injection eo61 with f1_ f2_ f3_; have f4_ := f1_.symm; have f5_ := f3_.symm; clear f1_ f2_ f3_; subst f4_; subst f5_))
            refine hK.out _ _ trivial (fun hHeld => ?_)
            clear hK K; refine norm_ (a' := ?_) ?_ ?_
            rotate_left
            ·show Act.put _ (some 76) _ = _
             simp only [Act.put, List.setIfInBounds_toArray, List.set_cons_zero, List.set_cons_succ, i64_w, i32_w]
             rfl
            refine one_ (i := 10) (N := some 77) (bz 12 2047) rfl rfl (one_of HT_.out (by kernel_rfl)) (by decide) (fun K hK => ?_)
            refine Kd.R_append_rows_step (Kd.int .u8) (w0 := w) w.heap.size (by rfl) (.tmp 67) (.tmp 76) 48 5 (.int .u8 0) 1 rfl Tryz.underlying48 info5 rfl (by decide) (by omega) u4 x4_1 y161 _ _ _ (fun k_ => some k_ ≠ (.slice Ao61 y161.length co61 : Value).ownBlock) (fun _ => False) rfl rfl ?aO ?aR (fun _ _ h => h) (fun _ h => h.elim) ?aF ?aB ?aS ?aL ?_
            (case aR => repeat (first | exact (Kd.R_reads' HO163.out).2.2 | (with_reducible refine Kd.C_alloc ?_ _) | (with_reducible refine Kd.C_drewN ?_ _) | (with_reducible refine Kd.C_drew ?_)))
            (case aB => exact (bl HB))
            (case aF => exact (fun k_ hk => Kd.fresh' (Kd.R_lt (rl HO163)) k_ hk))
            (case aO => exact (by (with_reducible repeat (first | apply Kd.R_alloc | apply Kd.R_drewN | apply Kd.R_drew)); exact Kd.R_mono HO_4.out (fun _ hk => hk.2)))
            (case aS => exact (below_size (bl HB)))
            (case aL => have := LMc56.out; omega)
            intro v165 w60 ho hb hg hat
            rw [← Ny164.out] at ho
            have n0_ := Aside0.mk (Kd.R_after (ok := (fun _ => True)) (rl HO163) hg hat); have n1_ := Aside0.mk (hb); have n2_ := Aside0.mk (ho); clear HO163; clear HB; clear HO_4; have HO163 := n0_; have HB := n1_; have HO166 := n2_; clear n0_ n1_ n2_; clear ho hb hg hat; refine hK.out _ _ trivial (fun hHeld => ?_)
            clear hK K; refine norm_ (a' := ?_) ?_ ?_
            rotate_left
            ·show Act.put _ (some 77) _ = _
             simp only [Act.put, List.setIfInBounds_toArray, List.set_cons_zero, List.set_cons_succ, i64_w, i32_w]
             rfl
            refine pu 11 (some 4) (bz 12 4095) HT_ rfl rfl ?_; refine done_ (done_of HT_.out (by kernel_rfl)) ?_
            try go_wp2
            go_roundg kj8
            case measure => have := HK1.out; have := HJ8.out; omega
            case rel => exact ⟨(y164), (wrap64 (x5_1 + 1)), (by first | rfl | (simp; done) | (simp [*]; done) | (simp; exact xEmpty_ne _) | (simp [*]; exact xEmpty_ne _)), H', ⟨by have := HK1.out; have := HJ8.out; omega⟩, ⟨by (with_reducible repeat (first | apply Kd.R_alloc | apply Kd.R_drewN | apply Kd.R_drew)); exact Kd.R_mono HO166.out (fun _ hk => trivial)⟩, ⟨bl HB⟩⟩
           ·rw [if_neg c47] at H; have c47b0 : decide ((bt t118 x5_1) < 32) = false := decide_eq_false c47; clear c47; by_cases c62 : x4_1.length < 140737488355328
            ·rw [if_pos c62] at H; have LMc62 := Aside0.mk c62; clear c62; obtain ⟨y167, hy167⟩ : ∃ y_ : List Int, y_ = (x4_1 ++ [(bt t118 x5_1)]) := ⟨_, rfl⟩
             replace H : (glossatorref04_Quote.l0 kj8 t118 (⟨#[48, 49, 50, 51, 52, 53, 54, 55, 56, 57, 97, 98, 99, 100, 101, 102]⟩ : ByteArray) y167 (wrap64 (x5_1 + 1))) = some r := by first | (rw [hy167]; with_reducible exact H) | (have H2_ := (Option.bind_some _ _).symm.trans H; rw [hy167]; with_reducible exact H2_) | (have H2_ := (Option.bind_some _ _).symm.trans H; with_reducible exact H2_) | with_reducible exact H | (rw [hy167]; exact H) | exact H
             have Ny167 := Aside0.mk hy167; clear hy167; have H' := Aside0.mk H; clear H; go_wp2_with (first | ((with_reducible refine gate_builtin (b := .append) (xs := #[.tmp 19, .tmp 21]) rfl ?_); at_builtin; refine Kd.R_append (Kd.int .u8) (w0 := w) w.heap.size rfl (.tmp 19) (.tmp 21) 48 5 (.int .u8 0) 1 rfl Tryz.underlying48 info5 rfl (by decide) (by omega) u4 x4_1 (bt t118 x5_1) [.int .u8 (bt t118 x5_1)] (fun _ => True) (fun _ => False) rfl rfl ?aP (fun _ hk => hk.elim) ?aF ?aO ?aB ?aS ?aL ?_; (case aP => exact rfl); (case aB => exact (bl HB)); (case aF => exact (fun _ _ => trivial)); (case aO => exact (rl HO_4)); (case aS => exact (below_size (bl HB))); (case aL => have := LMc62.out; omega); intro v168 w63 ho hb hg hat; rw [← Ny167.out] at ho; have n0_ := Aside0.mk (hb); have n1_ := Aside0.mk (ho); clear HB; clear HO_4; have HB := n0_; have HO169 := n1_; clear n0_ n1_; clear ho hb hg hat))
             go_roundg kj8
             case measure => have := HK1.out; have := HJ8.out; omega
             case rel => exact ⟨(y167), (wrap64 (x5_1 + 1)), (by first | rfl | (simp; done) | (simp [*]; done) | (simp; exact xEmpty_ne _) | (simp [*]; exact xEmpty_ne _)), H', ⟨by have := HK1.out; have := HJ8.out; omega⟩, ⟨rl HO169⟩, ⟨bl HB⟩⟩
            ·rw [if_neg c62] at H; exact absurd H (by simp)
end Go.Proofs.YtebmgmagdhedgaaGreatDoor.Q

end
section
namespace Go.Proofs.YtebmgmagdhedgaaGreatDoor.XQuote
open Go Go.RowKit Go.Proofs.YtebmgmagdhedgaaGreatDoor.Q Go.Proofs.YtebmgmagdhedgaaGreatDoorW.PrintWords Go.Proofs.YtebmgmagdhedgaaGreatDoorW.PrintLast Go.Proofs.YtebmgmagdhedgaaGreatDoorW.PrintMore Go.Proofs.YtebmgmagdhedgaaGreatDoor.XEv Go.Proofs.YtebmgmagdhedgaaGreatDoor.XRef01 Go.Proofs.YtebmgmagdhedgaaGreatDoor.XUtfT Go.Proofs.YtebmgmagdhedgaaGreatDoor.XUtfX
set_option linter.unusedVariables false
set_option linter.unusedSimpArgs false
/-- What is written for a byte. -/
def qby (b : UInt8) : List UInt8 := if b.toNat < 128 then qb b.toNat else [b]
theorem enc_ascii (d : Nat) (h : d < 128) : Lib.encodeRune (d : Int) = [UInt8.ofNat d] := by
  unfold Lib.encodeRune
  rw [Lib.encodeRuneZ_one (by omega) (by omega)]
  simp
theorem enc_high (d : Nat) (h : 128 ≤ d) : ∀ x ∈ Lib.encodeRune (d : Int), 128 ≤ x.toNat := by
  have key : ∀ z ∈ Lib.encodeRuneZ (d : Int), 128 ≤ z ∧ z < 256 := by
    intro z hz
    refine ⟨?_, (Lib.encodeRuneZ_byte _ z hz).2⟩
    unfold Lib.encodeRuneZ at hz
    rw [if_neg (by omega)] at hz
    split at hz
    · rcases List.mem_cons.1 hz with rfl | hz
      · omega
      · rcases List.mem_cons.1 hz with rfl | hz
        · omega
        · cases hz
    · split at hz
      · rcases List.mem_cons.1 hz with rfl | hz
        · omega
        · rcases List.mem_cons.1 hz with rfl | hz
          · omega
          · rcases List.mem_cons.1 hz with rfl | hz
            · omega
            · cases hz
      · split at hz
        · rcases List.mem_cons.1 hz with rfl | hz
          · omega
          · rcases List.mem_cons.1 hz with rfl | hz
            · omega
            · rcases List.mem_cons.1 hz with rfl | hz
              · omega
              · rcases List.mem_cons.1 hz with rfl | hz
                · omega
                · cases hz
        · rcases List.mem_cons.1 hz with rfl | hz
          · omega
          · rcases List.mem_cons.1 hz with rfl | hz
            · omega
            · rcases List.mem_cons.1 hz with rfl | hz
              · omega
              · cases hz
  intro x hx
  unfold Lib.encodeRune at hx
  obtain ⟨z, hz, rfl⟩ := List.mem_map.1 hx
  have := key z hz
  have : (z.toNat.toUInt8).toNat = z.toNat := by simp; omega
  omega
theorem flat_high : ∀ (l : List UInt8), (∀ x ∈ l, 128 ≤ x.toNat) → l.flatMap qby = l
  | [], _ => rfl
  | b :: l, h => by
    have hb := h b (List.mem_cons_self ..)
    rw [List.flatMap_cons, flat_high l (fun x hx => h x (List.mem_cons_of_mem _ hx))]
    unfold qby
    rw [if_neg (by omega)]
    rfl
theorem qb_flat (d : Nat) : qb d = (Lib.encodeRune (d : Int)).flatMap qby := by
  by_cases h : d < 128
  · rw [enc_ascii d h, List.flatMap_cons, List.flatMap_nil, List.append_nil]
    unfold qby
    have : (UInt8.ofNat d).toNat = d := by simp; omega
    rw [this, if_pos h]
  · rw [flat_high _ (enc_high d (by omega))]
    unfold qb
    rw [if_neg (by unfold qset; omega), if_neg (by omega)]
theorem quote_fix (s : ByteArray) : ∀ (b p : Nat), quoteL s b p = (fixL s b p).flatMap qby
  | 0, _ => rfl
  | b + 1, p => by
    rw [quoteL, fixL]
    by_cases h : p < s.size
    · rw [if_pos h, if_pos h, List.flatMap_append, quote_fix s b, qb_flat]
    · rw [if_neg h, if_neg h]; rfl
/-- What is quoted. -/
def quoted (s : ByteArray) : ByteArray := ⟨([34] ++ quoteL s s.size 0 ++ [34]).toArray⟩
theorem prog (s : ByteArray) (hs : s.size ≤ 1048576) : jsontext_Quote.f s = some (quoted s) := if_pos hs
end Go.Proofs.YtebmgmagdhedgaaGreatDoor.XQuote

end
