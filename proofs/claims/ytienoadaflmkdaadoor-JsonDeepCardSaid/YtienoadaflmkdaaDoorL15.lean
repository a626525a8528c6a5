/- Words and walks of this claim, put together by this repo's wip/xlink.py out of Q17, Q18, PureJsonReads. -/
import Derived.Test.YtienoadaflmkdaaDoorL5
import Derived.Test.YtienoadaflmkdaaDoorL6
import Derived.Test.YtienoadaflmkdaaDoorL7
import Derived.Test.YtienoadaflmkdaaDoorL11
import Derived.Test.YtienoadaflmkdaaDoorL12
import Derived.Test.YtienoadaflmkdaaDoorL14
import Derived.Test.YtienoadaflmkdaaDoorL9
import Derived.Test.YtienoadaflmkdaaDoorL10
section
namespace Go.Proofs.YtienoadaflmkdaaDoor.Q
open Go.RowKit Go.Proofs.YtienoadaflmkdaaDoorW.PrintWords Go.Proofs.YtienoadaflmkdaaDoorW.PrintLast Go.Proofs.YtienoadaflmkdaaDoorW.PrintMore
attribute [local go_sem] max2_int min2_int max_two min_two max_three min_three max_four min_four   
set_option linter.unusedVariables false
set_option linter.unusedSimpArgs false
def RU (B : Nat) (s : ByteArray) (w : World) (er : Int) (i : Nat) (r : Res JV) (e : Ending) (w' : World) : Prop := ∃ (x : Value) (v : JV) (k : Nat) (e2 : Int), e = .returned x ∧ VV w.heap.size v x w' ∧ RSt B s k e2 w' ∧ Kp B w w' ∧ ((er = 0 ∧ e2 = 0 ∧ k ≤ s.size ∧ r = .ok v k) ∨ (er = 0 ∧ e2 ≠ 0 ∧ r = .bad k e2) ∨ (er ≠ 0 ∧ e2 = er ∧ k = i))
theorem off_digits (B : Nat) (s : ByteArray) (i : Nat) (er : Int) (he : er ≠ 0) (w : World) (hR : RSt B s i er w) : Calls Tryd.prog 43 #[.pointer (some ⟨B, 0, none⟩)] w fun e w' => e = .returned (.tuple #[]) ∧ ∃ n, w' = w.drewN n := by
 have c0 := hR.c0
 have c1 := hR.c1
 have c2 := hR.c2
 have t : (er == 0) = false := by simpa using he
 clear hR he; go_enter Tryd.func43, Tryd.ntmps43
 go_wp2
 go_loopw [2] (fun t2 w' => t2 = .int .i64 0 ∧ w' = w) (fun _ _ => 0)
 case atStart => exact ⟨rfl, rfl⟩
 case round =>
  obtain ⟨rfl, hw⟩ := hrel
  rw [hw]
  clear hw; go_wp2
  go_quiet (fail)
  go_wp2
  go_end0
  exact ⟨rfl, _, rfl⟩
theorem off_number (B : Nat) (s : ByteArray) (i : Nat) (er : Int) (he : er ≠ 0) (w : World) (hR : RSt B s i er w) (hs : s.size ≤ 140737488351232) : Calls Tryd.prog 31 #[.pointer (some ⟨B, 0, none⟩)] w fun e w' => e = .returned (.tuple #[]) ∧ ∃ n, w' = w.drewN n := by
 have HI := Aside0.mk (fun (c : Int) (hc : c ≠ 0) (w' : World) (h : RSt B s i er w') => glossatorref03_state_is.calls B s i er c hc w' h hs)
 have HD := Aside0.mk (fun (w' : World) (h : RSt B s i er w') => off_digits B s i er he w' h)
 have q1 := isB_bad (s := s) (i := i) 45 he
 have q2 := isB_bad (s := s) (i := i) 48 he
 have q3 := isB_bad (s := s) (i := i) 46 he
 have q4 := isB_bad (s := s) (i := i) 101 he
 have q5 := isB_bad (s := s) (i := i) 69 he
 have HR := Aside0.mk hR; clear hR he; go_enter Tryd.func31, Tryd.ntmps31
 go_wp2_with (first | (go_at_call 26; refine (HI.out _ (by decide) _ (by exact HR.out)).mono ?_; rintro e w' ⟨rfl, n1, rfl⟩) | (go_at_call 43; refine (HD.out _ (by exact HR.out)).mono ?_; rintro e w' ⟨rfl, n1, rfl⟩))
 go_end0
 exact ⟨rfl, _, rfl⟩
theorem RValOk.of {s : ByteArray} {pv : Nat → Res JV} {deep : Int} (h : RValU s pv deep) : RValOk s pv deep := by
 intro B i w hR hi
 refine (h B i 0 w hR hi).mono ?_
 rintro e w' ⟨x, v, k, e2, rfl, h1, h2, h3, h4⟩
 refine ⟨x, v, k, e2, rfl, h1, h2, h3, ?_⟩
 rcases h4 with ⟨_, a, b, c⟩ | ⟨_, a, b⟩ | ⟨a, _⟩
 ·exact .inl ⟨a, b, c⟩
 ·exact .inr ⟨a, b⟩
 ·exact absurd rfl a
theorem val_end {w W : World} {B N i : Nat} {s : ByteArray} {e : Int} {a : Int} {b : ByteArray} {l2 : List JV} {l3 : List JF} {v2 v3 : Value} (hBN : B < N) (hN : w.heap.size = N) (h1 : W.heap[N]? = some (.cells #[.int .u8 0, .string ⟨#[]⟩, .slice none 0 0, .slice none 0 0] 25 (0, 0))) (hr : RSt B s i e W) (hk : Kp B w W) (h2 : Kd.R k25 25 W (N + 1) (fun _ => True) v2 l2) (h3 : Kd.R k38 38 W (N + 1) (fun _ => True) v3 l3) :
  ((((W.setCell ⟨N, 0, none⟩ (.int .u8 a)).setCell ⟨N, 1, none⟩ (.string b)).setCell ⟨N, 2, none⟩ v2).setCell ⟨N, 3, none⟩ v3).heap[N]? = some (.cells #[.int .u8 a, .string b, v2, v3] 25 (0, 0)) ∧ RSt B s i e ((((W.setCell ⟨N, 0, none⟩ (.int .u8 a)).setCell ⟨N, 1, none⟩ (.string b)).setCell ⟨N, 2, none⟩ v2).setCell ⟨N, 3, none⟩ v3) ∧ Kp B w ((((W.setCell ⟨N, 0, none⟩ (.int .u8 a)).setCell ⟨N, 1, none⟩ (.string b)).setCell ⟨N, 2, none⟩ v2).setCell ⟨N, 3, none⟩ v3) ∧ VV w.heap.size ⟨a, b, l2, l3⟩ (.agg #[.int .u8 a, .string b, v2, v3]) ((((W.setCell ⟨N, 0, none⟩ (.int .u8 a)).setCell ⟨N, 1, none⟩ (.string b)).setCell ⟨N, 2, none⟩ v2).setCell ⟨N, 3, none⟩ v3) := by
 refine ⟨put4 h1 _ _ _ _, (put4_far (show B ≠ N by omega) _ _ _ _).trans hr, hk.put4 (by omega) _ _ _ _, _, _, rfl, ?_, ?_⟩
 ·rw [hN]; exact Kd.R_lower (rk h2 (fun k hk _ => put4_far (by omega) _ _ _ _)) (by omega)
 ·rw [hN]; exact Kd.R_lower (rk h3 (fun k hk _ => put4_far (by omega) _ _ _ _)) (by omega)
theorem RU.drew {B : Nat} {s : ByteArray} {w w' : World} {er : Int} {i : Nat} {r : Res JV} {e : Ending} (h : RU B s w er i r e w') : RU B s w er i r e w'.drew := by
 obtain ⟨x, v, k, e2, h1, ⟨v2, v3, hx, h2, h3⟩, hr, hk, h4⟩ := h
 exact ⟨x, v, k, e2, h1, ⟨v2, v3, hx, Kd.R_drewN h2 1, Kd.R_drewN h3 1⟩, hr, hk.drew, h4⟩
theorem num_u {B : Nat} {s : ByteArray} {i : Nat} {w w' : World} {e : Ending} (h : RO B s VU VA0 w (number s i) e w') (hi : i ≤ s.size) : ∃ (k : Nat) (e2 : Int), e = .returned (.tuple #[]) ∧ RSt B s k e2 w' ∧ Kp B w w' ∧ (i ≤ k ∧ k ≤ s.size) ∧ ((e2 = 0 ∧ number s i = .ok () k) ∨ (e2 ≠ 0 ∧ number s i = .bad k e2)) := by
 have hn := number_sn hi
 cases hx : number s i with
 | ok u k =>
  rw [hx] at h hn
  obtain ⟨x, rfl, rfl, h1, h2, h3⟩ := h.ok_
  exact ⟨k, 0, rfl, h2, h3, ⟨hn.1, hn.2⟩, .inl ⟨rfl, rfl⟩⟩
 | bad k c =>
  rw [hx] at h hn
  obtain ⟨x, rfl, rfl, h1, h2, h3⟩ := h.bad_
  exact ⟨k, c, rfl, h2, h3, ⟨hn.1, hn.2.1⟩, .inr ⟨h1, rfl⟩⟩
theorem rvu_ok {s : ByteArray} {i : Nat} {r : Res JV} {B : Nat} {w w' : World} {x : Value} {v : JV} {k : Nat} {e2 : Int} (h1 : VV w.heap.size v x w') (h2 : RSt B s k e2 w') (h3 : Kp B w w') (h4 : (e2 = 0 ∧ k ≤ s.size ∧ r = .ok v k) ∨ (e2 ≠ 0 ∧ r = .bad k e2)) :
  RU B s w 0 i r (.returned x) w' := by
 refine ⟨x, v, k, e2, rfl, h1, h2, h3, ?_⟩
 rcases h4 with ⟨a, b, c⟩ | ⟨a, b⟩
 ·exact .inl ⟨rfl, a, b, c⟩
 ·exact .inr (.inl ⟨rfl, a, b⟩)
def BrOk (s : ByteArray) (br : Nat → Res JV) (deep : Int) : Prop := (64 < deep ∧ ∀ i, br i = .bad i 31) ∨ (0 ≤ deep ∧ deep ≤ 64 ∧ ∃ pv, RValU s pv (deep + 1) ∧ (∀ i v j, pv i = .ok v j → i < j) ∧ ∀ i, br i = brk s pv i)
set_option maxRecDepth 100000 in
set_option maxHeartbeats 4000000 in
theorem glossatorref03_state_value.nul (s : ByteArray) (deep : Int) (hs : s.size ≤ 262144) (B i : Nat) (w : World) (hR : RSt B s i 0 w) (hi : i ≤ s.size) (R : Res JV) (hb : hnd s i = 110) (hRR : R = (wd s [110, 117, 108, 108] i).bind fun _ j => .ok ⟨0, ⟨#[]⟩, [], []⟩ j) : Calls Tryd.prog 17 #[.pointer (some ⟨B, 0, none⟩), .int .i64 deep] w (RU B s w 0 i R) := by
 have hsz : s.size ≤ 140737488351232 := by omega
 obtain ⟨N, hN⟩ : ∃ N, N = w.heap.size := ⟨_, rfl⟩
 have hBN : B < N := by rw [hN]; exact hR.lt
 obtain ⟨W1, hW1⟩ : ∃ W1, W1 = w.alloc (.cells #[.int .u8 0, .string ⟨#[]⟩, .slice none 0 0, .slice none 0 0] 25 (0, 0)) := ⟨_, rfl⟩
 have HNw := Aside0.mk hN; have HZq := Aside0.mk (show W1.heap[N]? = some (.cells #[.int .u8 0, .string ⟨#[]⟩, .slice none 0 0, .slice none 0 0] 25 (0, 0)) by rw [hW1, hN]; exact blk_new w _)
 have HRq := Aside0.mk (show RSt B s i 0 W1 by rw [hW1]; exact hR.alloc _)
 have HKq := Aside0.mk (show Kp B w W1 by rw [hW1]; exact Kp.of_below (below_alloc (Below.refl _ _) _))
 have HSq := Aside0.mk (show W1.heap.size = N + 1 by rw [hW1, hN]; simp)
 have HIF := Aside0.mk (fun (c : Int) (hc : c ≠ 0) (w' : World) (h : RSt B s i 0 w') (h2 : w'.heap[N]? = some (.cells #[.int .u8 0, .string ⟨#[]⟩, .slice none 0 0, .slice none 0 0] 25 (0, 0))) (h3 : Kp B w w') (h4 : w'.heap.size = N + 1) => (glossatorref03_state_is.calls B s i 0 c hc w' h hsz).mono (R' := fun e w2 => e = .returned (.bool (isB s i 0 c)) ∧ RSt B s i 0 w2 ∧ w2.heap[N]? = some (.cells #[.int .u8 0, .string ⟨#[]⟩, .slice none 0 0, .slice none 0 0] 25 (0, 0)) ∧ Kp B w w2 ∧ w2.heap.size = N + 1) (by rintro e w2 ⟨rfl, n, rfl⟩; exact ⟨rfl, h, h2, h3.drewN n, h4⟩))
 clear hR; have HRR := Aside0.mk hRR; clear hRR; have q110 := isB_yes (s := s) (i := i) (c := 110) (by omega)
 clear hb; have HAL := Aside0.mk (fun (w' : World) (h : RSt B s i 0 w') => glossatorref03_state_all.calls B s i ([110, 117, 108, 108] : List UInt8) w' h hsz hi (by decide) (by decide))
 go_enter Tryd.func17, Tryd.ntmps17
 go_upto_region 1 with (fail)
 rw [← hW1, ← hN]
 clear hW1 hN; cases hx : wd s [110, 117, 108, 108] i with
 | ok u k =>
  have HX := Aside0.mk hx; clear hx; go_wp2_with (first | (go_at_call 26; refine (HIF.out _ (by decide) _ (by exact HRq.out) (by exact HZq.out) (by exact HKq.out) (by exact HSq.out)).mono ?_; rintro e wq ⟨rfl, hrq, hzq, hkq, hsq⟩; have HRq := Aside0.mk hrq; have HZq := Aside0.mk hzq; have HKq := Aside0.mk hkq; have HSq := Aside0.mk hsq; clear hrq hzq hkq hsq) | (go_at_call 27; refine (HAL.out _ (by exact HRq.out)).mono ?_; intro e w2 ho; rw [show wd s (([110, 117, 108, 108] : List UInt8).map UInt8.toNat) i = .ok u k from HX.out] at ho; obtain ⟨x, rfl, rfl, hm, hr, hk⟩ := ho.ok_; have HRa := Aside0.mk hr; have HKa := Aside0.mk hk; have HMa := Aside0.mk hm; have ez0 := blk_cell ((hk.block N (blk_lt HZq.out) (by omega)).trans HZq.out) 0; have ez1 := blk_cell ((hk.block N (blk_lt HZq.out) (by omega)).trans HZq.out) 1; have ez2 := blk_cell ((hk.block N (blk_lt HZq.out) (by omega)).trans HZq.out) 2; have ez3 := blk_cell ((hk.block N (blk_lt HZq.out) (by omega)).trans HZq.out) 3; have gz0 := blk_frozen ((hk.block N (blk_lt HZq.out) (by omega)).trans HZq.out) 0; have gz1 := blk_frozen ((hk.block N (blk_lt HZq.out) (by omega)).trans HZq.out) 1; have gz2 := blk_frozen ((hk.block N (blk_lt HZq.out) (by omega)).trans HZq.out) 2; have gz3 := blk_frozen ((hk.block N (blk_lt HZq.out) (by omega)).trans HZq.out) 3; clear ho hr hk hm))
  have hE := val_end (a := 0) (b := ⟨#[]⟩) (v2 := .slice none 0 0) (v3 := .slice none 0 0) hBN HNw.out.symm (((HKa.out.block N (blk_lt HZq.out) (by omega)).trans HZq.out)) (HRa.out) (HKq.out.trans HKa.out) ((Kd.R_nil _ _ _ _ _)) ((Kd.R_nil _ _ _ _ _))
  obtain ⟨hw, hr3, hk3, hv3⟩ := hE
  have k0 := blk_cell hw 0
  have k1 := blk_cell hw 1
  have k2 := blk_cell hw 2
  have k3 := blk_cell hw 3
  refine bodyPost_ret (v := .agg #[.int .u8 (0), .string ⟨#[]⟩, .slice none 0 0, .slice none 0 0]) (by simp [results, Tryd.results17, go_sem, k0, k1, k2, k3]) rfl ?_
  refine rvu_ok hv3 hr3 hk3 (.inl ⟨rfl, HMa.out, ?_⟩)
  rw [HRR.out, HX.out]; rfl
 | bad k c =>
  have HX := Aside0.mk hx; clear hx; go_wp2_with (first | (go_at_call 26; refine (HIF.out _ (by decide) _ (by exact HRq.out) (by exact HZq.out) (by exact HKq.out) (by exact HSq.out)).mono ?_; rintro e wq ⟨rfl, hrq, hzq, hkq, hsq⟩; have HRq := Aside0.mk hrq; have HZq := Aside0.mk hzq; have HKq := Aside0.mk hkq; have HSq := Aside0.mk hsq; clear hrq hzq hkq hsq) | (go_at_call 27; refine (HAL.out _ (by exact HRq.out)).mono ?_; intro e w2 ho; rw [show wd s (([110, 117, 108, 108] : List UInt8).map UInt8.toNat) i = .bad k c from HX.out] at ho; obtain ⟨x, rfl, rfl, hm, hr, hk⟩ := ho.bad_; have HRa := Aside0.mk hr; have HKa := Aside0.mk hk; have HMa := Aside0.mk hm; have ez0 := blk_cell ((hk.block N (blk_lt HZq.out) (by omega)).trans HZq.out) 0; have ez1 := blk_cell ((hk.block N (blk_lt HZq.out) (by omega)).trans HZq.out) 1; have ez2 := blk_cell ((hk.block N (blk_lt HZq.out) (by omega)).trans HZq.out) 2; have ez3 := blk_cell ((hk.block N (blk_lt HZq.out) (by omega)).trans HZq.out) 3; have gz0 := blk_frozen ((hk.block N (blk_lt HZq.out) (by omega)).trans HZq.out) 0; have gz1 := blk_frozen ((hk.block N (blk_lt HZq.out) (by omega)).trans HZq.out) 1; have gz2 := blk_frozen ((hk.block N (blk_lt HZq.out) (by omega)).trans HZq.out) 2; have gz3 := blk_frozen ((hk.block N (blk_lt HZq.out) (by omega)).trans HZq.out) 3; clear ho hr hk hm))
  have hE := val_end (a := 0) (b := ⟨#[]⟩) (v2 := .slice none 0 0) (v3 := .slice none 0 0) hBN HNw.out.symm (((HKa.out.block N (blk_lt HZq.out) (by omega)).trans HZq.out)) (HRa.out) (HKq.out.trans HKa.out) ((Kd.R_nil _ _ _ _ _)) ((Kd.R_nil _ _ _ _ _))
  obtain ⟨hw, hr3, hk3, hv3⟩ := hE
  have k0 := blk_cell hw 0
  have k1 := blk_cell hw 1
  have k2 := blk_cell hw 2
  have k3 := blk_cell hw 3
  refine bodyPost_ret (v := .agg #[.int .u8 (0), .string ⟨#[]⟩, .slice none 0 0, .slice none 0 0]) (by simp [results, Tryd.results17, go_sem, k0, k1, k2, k3]) rfl ?_
  refine rvu_ok hv3 hr3 hk3 (.inr ⟨HMa.out, ?_⟩)
  rw [HRR.out, HX.out]; rfl
set_option maxRecDepth 100000 in
set_option maxHeartbeats 4000000 in
theorem glossatorref03_state_value.tru (s : ByteArray) (deep : Int) (hs : s.size ≤ 262144) (B i : Nat) (w : World) (hR : RSt B s i 0 w) (hi : i ≤ s.size) (R : Res JV) (hb : hnd s i = 116) (hRR : R = (wd s [116, 114, 117, 101] i).bind fun _ j => .ok ⟨2, ⟨#[]⟩, [], []⟩ j) : Calls Tryd.prog 17 #[.pointer (some ⟨B, 0, none⟩), .int .i64 deep] w (RU B s w 0 i R) := by
 have hsz : s.size ≤ 140737488351232 := by omega
 obtain ⟨N, hN⟩ : ∃ N, N = w.heap.size := ⟨_, rfl⟩
 have hBN : B < N := by rw [hN]; exact hR.lt
 obtain ⟨W1, hW1⟩ : ∃ W1, W1 = w.alloc (.cells #[.int .u8 0, .string ⟨#[]⟩, .slice none 0 0, .slice none 0 0] 25 (0, 0)) := ⟨_, rfl⟩
 have HNw := Aside0.mk hN; have HZq := Aside0.mk (show W1.heap[N]? = some (.cells #[.int .u8 0, .string ⟨#[]⟩, .slice none 0 0, .slice none 0 0] 25 (0, 0)) by rw [hW1, hN]; exact blk_new w _)
 have HRq := Aside0.mk (show RSt B s i 0 W1 by rw [hW1]; exact hR.alloc _)
 have HKq := Aside0.mk (show Kp B w W1 by rw [hW1]; exact Kp.of_below (below_alloc (Below.refl _ _) _))
 have HSq := Aside0.mk (show W1.heap.size = N + 1 by rw [hW1, hN]; simp)
 have HIF := Aside0.mk (fun (c : Int) (hc : c ≠ 0) (w' : World) (h : RSt B s i 0 w') (h2 : w'.heap[N]? = some (.cells #[.int .u8 0, .string ⟨#[]⟩, .slice none 0 0, .slice none 0 0] 25 (0, 0))) (h3 : Kp B w w') (h4 : w'.heap.size = N + 1) => (glossatorref03_state_is.calls B s i 0 c hc w' h hsz).mono (R' := fun e w2 => e = .returned (.bool (isB s i 0 c)) ∧ RSt B s i 0 w2 ∧ w2.heap[N]? = some (.cells #[.int .u8 0, .string ⟨#[]⟩, .slice none 0 0, .slice none 0 0] 25 (0, 0)) ∧ Kp B w w2 ∧ w2.heap.size = N + 1) (by rintro e w2 ⟨rfl, n, rfl⟩; exact ⟨rfl, h, h2, h3.drewN n, h4⟩))
 clear hR; have HRR := Aside0.mk hRR; clear hRR; have q110 := isB_no (s := s) (i := i) (c := 110) (by omega)
 have q116 := isB_yes (s := s) (i := i) (c := 116) (by omega)
 clear hb; have HAL := Aside0.mk (fun (w' : World) (h : RSt B s i 0 w') => glossatorref03_state_all.calls B s i ([116, 114, 117, 101] : List UInt8) w' h hsz hi (by decide) (by decide))
 go_enter Tryd.func17, Tryd.ntmps17
 go_upto_region 1 with (fail)
 rw [← hW1, ← hN]
 clear hW1 hN; cases hx : wd s [116, 114, 117, 101] i with
 | ok u k =>
  have HX := Aside0.mk hx; clear hx; go_wp2_with (first | (go_at_call 26; refine (HIF.out _ (by decide) _ (by exact HRq.out) (by exact HZq.out) (by exact HKq.out) (by exact HSq.out)).mono ?_; rintro e wq ⟨rfl, hrq, hzq, hkq, hsq⟩; have HRq := Aside0.mk hrq; have HZq := Aside0.mk hzq; have HKq := Aside0.mk hkq; have HSq := Aside0.mk hsq; clear hrq hzq hkq hsq) | (go_at_call 27; refine (HAL.out _ (by exact HRq.out)).mono ?_; intro e w2 ho; rw [show wd s (([116, 114, 117, 101] : List UInt8).map UInt8.toNat) i = .ok u k from HX.out] at ho; obtain ⟨x, rfl, rfl, hm, hr, hk⟩ := ho.ok_; have HRa := Aside0.mk hr; have HKa := Aside0.mk hk; have HMa := Aside0.mk hm; have ez0 := blk_cell ((hk.block N (blk_lt HZq.out) (by omega)).trans HZq.out) 0; have ez1 := blk_cell ((hk.block N (blk_lt HZq.out) (by omega)).trans HZq.out) 1; have ez2 := blk_cell ((hk.block N (blk_lt HZq.out) (by omega)).trans HZq.out) 2; have ez3 := blk_cell ((hk.block N (blk_lt HZq.out) (by omega)).trans HZq.out) 3; have gz0 := blk_frozen ((hk.block N (blk_lt HZq.out) (by omega)).trans HZq.out) 0; have gz1 := blk_frozen ((hk.block N (blk_lt HZq.out) (by omega)).trans HZq.out) 1; have gz2 := blk_frozen ((hk.block N (blk_lt HZq.out) (by omega)).trans HZq.out) 2; have gz3 := blk_frozen ((hk.block N (blk_lt HZq.out) (by omega)).trans HZq.out) 3; clear ho hr hk hm))
  have hE := val_end (a := 2) (b := ⟨#[]⟩) (v2 := .slice none 0 0) (v3 := .slice none 0 0) hBN HNw.out.symm (((HKa.out.block N (blk_lt HZq.out) (by omega)).trans HZq.out)) (HRa.out) (HKq.out.trans HKa.out) ((Kd.R_nil _ _ _ _ _)) ((Kd.R_nil _ _ _ _ _))
  obtain ⟨hw, hr3, hk3, hv3⟩ := hE
  have k0 := blk_cell hw 0
  have k1 := blk_cell hw 1
  have k2 := blk_cell hw 2
  have k3 := blk_cell hw 3
  refine bodyPost_ret (v := .agg #[.int .u8 (2), .string ⟨#[]⟩, .slice none 0 0, .slice none 0 0]) (by simp [results, Tryd.results17, go_sem, k0, k1, k2, k3]) rfl ?_
  refine rvu_ok hv3 hr3 hk3 (.inl ⟨rfl, HMa.out, ?_⟩)
  rw [HRR.out, HX.out]; rfl
 | bad k c =>
  have HX := Aside0.mk hx; clear hx; go_wp2_with (first | (go_at_call 26; refine (HIF.out _ (by decide) _ (by exact HRq.out) (by exact HZq.out) (by exact HKq.out) (by exact HSq.out)).mono ?_; rintro e wq ⟨rfl, hrq, hzq, hkq, hsq⟩; have HRq := Aside0.mk hrq; have HZq := Aside0.mk hzq; have HKq := Aside0.mk hkq; have HSq := Aside0.mk hsq; clear hrq hzq hkq hsq) | (go_at_call 27; refine (HAL.out _ (by exact HRq.out)).mono ?_; intro e w2 ho; rw [show wd s (([116, 114, 117, 101] : List UInt8).map UInt8.toNat) i = .bad k c from HX.out] at ho; obtain ⟨x, rfl, rfl, hm, hr, hk⟩ := ho.bad_; have HRa := Aside0.mk hr; have HKa := Aside0.mk hk; have HMa := Aside0.mk hm; have ez0 := blk_cell ((hk.block N (blk_lt HZq.out) (by omega)).trans HZq.out) 0; have ez1 := blk_cell ((hk.block N (blk_lt HZq.out) (by omega)).trans HZq.out) 1; have ez2 := blk_cell ((hk.block N (blk_lt HZq.out) (by omega)).trans HZq.out) 2; have ez3 := blk_cell ((hk.block N (blk_lt HZq.out) (by omega)).trans HZq.out) 3; have gz0 := blk_frozen ((hk.block N (blk_lt HZq.out) (by omega)).trans HZq.out) 0; have gz1 := blk_frozen ((hk.block N (blk_lt HZq.out) (by omega)).trans HZq.out) 1; have gz2 := blk_frozen ((hk.block N (blk_lt HZq.out) (by omega)).trans HZq.out) 2; have gz3 := blk_frozen ((hk.block N (blk_lt HZq.out) (by omega)).trans HZq.out) 3; clear ho hr hk hm))
  have hE := val_end (a := 2) (b := ⟨#[]⟩) (v2 := .slice none 0 0) (v3 := .slice none 0 0) hBN HNw.out.symm (((HKa.out.block N (blk_lt HZq.out) (by omega)).trans HZq.out)) (HRa.out) (HKq.out.trans HKa.out) ((Kd.R_nil _ _ _ _ _)) ((Kd.R_nil _ _ _ _ _))
  obtain ⟨hw, hr3, hk3, hv3⟩ := hE
  have k0 := blk_cell hw 0
  have k1 := blk_cell hw 1
  have k2 := blk_cell hw 2
  have k3 := blk_cell hw 3
  refine bodyPost_ret (v := .agg #[.int .u8 (2), .string ⟨#[]⟩, .slice none 0 0, .slice none 0 0]) (by simp [results, Tryd.results17, go_sem, k0, k1, k2, k3]) rfl ?_
  refine rvu_ok hv3 hr3 hk3 (.inr ⟨HMa.out, ?_⟩)
  rw [HRR.out, HX.out]; rfl
set_option maxRecDepth 100000 in
set_option maxHeartbeats 4000000 in
theorem glossatorref03_state_value.fals (s : ByteArray) (deep : Int) (hs : s.size ≤ 262144) (B i : Nat) (w : World) (hR : RSt B s i 0 w) (hi : i ≤ s.size) (R : Res JV) (hb : hnd s i = 102) (hRR : R = (wd s [102, 97, 108, 115, 101] i).bind fun _ j => .ok ⟨1, ⟨#[]⟩, [], []⟩ j) : Calls Tryd.prog 17 #[.pointer (some ⟨B, 0, none⟩), .int .i64 deep] w (RU B s w 0 i R) := by
 have hsz : s.size ≤ 140737488351232 := by omega
 obtain ⟨N, hN⟩ : ∃ N, N = w.heap.size := ⟨_, rfl⟩
 have hBN : B < N := by rw [hN]; exact hR.lt
 obtain ⟨W1, hW1⟩ : ∃ W1, W1 = w.alloc (.cells #[.int .u8 0, .string ⟨#[]⟩, .slice none 0 0, .slice none 0 0] 25 (0, 0)) := ⟨_, rfl⟩
 have HNw := Aside0.mk hN; have HZq := Aside0.mk (show W1.heap[N]? = some (.cells #[.int .u8 0, .string ⟨#[]⟩, .slice none 0 0, .slice none 0 0] 25 (0, 0)) by rw [hW1, hN]; exact blk_new w _)
 have HRq := Aside0.mk (show RSt B s i 0 W1 by rw [hW1]; exact hR.alloc _)
 have HKq := Aside0.mk (show Kp B w W1 by rw [hW1]; exact Kp.of_below (below_alloc (Below.refl _ _) _))
 have HSq := Aside0.mk (show W1.heap.size = N + 1 by rw [hW1, hN]; simp)
 have HIF := Aside0.mk (fun (c : Int) (hc : c ≠ 0) (w' : World) (h : RSt B s i 0 w') (h2 : w'.heap[N]? = some (.cells #[.int .u8 0, .string ⟨#[]⟩, .slice none 0 0, .slice none 0 0] 25 (0, 0))) (h3 : Kp B w w') (h4 : w'.heap.size = N + 1) => (glossatorref03_state_is.calls B s i 0 c hc w' h hsz).mono (R' := fun e w2 => e = .returned (.bool (isB s i 0 c)) ∧ RSt B s i 0 w2 ∧ w2.heap[N]? = some (.cells #[.int .u8 0, .string ⟨#[]⟩, .slice none 0 0, .slice none 0 0] 25 (0, 0)) ∧ Kp B w w2 ∧ w2.heap.size = N + 1) (by rintro e w2 ⟨rfl, n, rfl⟩; exact ⟨rfl, h, h2, h3.drewN n, h4⟩))
 clear hR; have HRR := Aside0.mk hRR; clear hRR; have q110 := isB_no (s := s) (i := i) (c := 110) (by omega)
 have q116 := isB_no (s := s) (i := i) (c := 116) (by omega)
 have q102 := isB_yes (s := s) (i := i) (c := 102) (by omega)
 clear hb; have HAL := Aside0.mk (fun (w' : World) (h : RSt B s i 0 w') => glossatorref03_state_all.calls B s i ([102, 97, 108, 115, 101] : List UInt8) w' h hsz hi (by decide) (by decide))
 go_enter Tryd.func17, Tryd.ntmps17
 go_upto_region 1 with (fail)
 rw [← hW1, ← hN]
 clear hW1 hN; cases hx : wd s [102, 97, 108, 115, 101] i with
 | ok u k =>
  have HX := Aside0.mk hx; clear hx; go_wp2_with (first | (go_at_call 26; refine (HIF.out _ (by decide) _ (by exact HRq.out) (by exact HZq.out) (by exact HKq.out) (by exact HSq.out)).mono ?_; rintro e wq ⟨rfl, hrq, hzq, hkq, hsq⟩; have HRq := Aside0.mk hrq; have HZq := Aside0.mk hzq; have HKq := Aside0.mk hkq; have HSq := Aside0.mk hsq; clear hrq hzq hkq hsq) | (go_at_call 27; refine (HAL.out _ (by exact HRq.out)).mono ?_; intro e w2 ho; rw [show wd s (([102, 97, 108, 115, 101] : List UInt8).map UInt8.toNat) i = .ok u k from HX.out] at ho; obtain ⟨x, rfl, rfl, hm, hr, hk⟩ := ho.ok_; have HRa := Aside0.mk hr; have HKa := Aside0.mk hk; have HMa := Aside0.mk hm; have ez0 := blk_cell ((hk.block N (blk_lt HZq.out) (by omega)).trans HZq.out) 0; have ez1 := blk_cell ((hk.block N (blk_lt HZq.out) (by omega)).trans HZq.out) 1; have ez2 := blk_cell ((hk.block N (blk_lt HZq.out) (by omega)).trans HZq.out) 2; have ez3 := blk_cell ((hk.block N (blk_lt HZq.out) (by omega)).trans HZq.out) 3; have gz0 := blk_frozen ((hk.block N (blk_lt HZq.out) (by omega)).trans HZq.out) 0; have gz1 := blk_frozen ((hk.block N (blk_lt HZq.out) (by omega)).trans HZq.out) 1; have gz2 := blk_frozen ((hk.block N (blk_lt HZq.out) (by omega)).trans HZq.out) 2; have gz3 := blk_frozen ((hk.block N (blk_lt HZq.out) (by omega)).trans HZq.out) 3; clear ho hr hk hm))
  have hE := val_end (a := 1) (b := ⟨#[]⟩) (v2 := .slice none 0 0) (v3 := .slice none 0 0) hBN HNw.out.symm (((HKa.out.block N (blk_lt HZq.out) (by omega)).trans HZq.out)) (HRa.out) (HKq.out.trans HKa.out) ((Kd.R_nil _ _ _ _ _)) ((Kd.R_nil _ _ _ _ _))
  obtain ⟨hw, hr3, hk3, hv3⟩ := hE
  have k0 := blk_cell hw 0
  have k1 := blk_cell hw 1
  have k2 := blk_cell hw 2
  have k3 := blk_cell hw 3
  refine bodyPost_ret (v := .agg #[.int .u8 (1), .string ⟨#[]⟩, .slice none 0 0, .slice none 0 0]) (by simp [results, Tryd.results17, go_sem, k0, k1, k2, k3]) rfl ?_
  refine rvu_ok hv3 hr3 hk3 (.inl ⟨rfl, HMa.out, ?_⟩)
  rw [HRR.out, HX.out]; rfl
 | bad k c =>
  have HX := Aside0.mk hx; clear hx; go_wp2_with (first | (go_at_call 26; refine (HIF.out _ (by decide) _ (by exact HRq.out) (by exact HZq.out) (by exact HKq.out) (by exact HSq.out)).mono ?_; rintro e wq ⟨rfl, hrq, hzq, hkq, hsq⟩; have HRq := Aside0.mk hrq; have HZq := Aside0.mk hzq; have HKq := Aside0.mk hkq; have HSq := Aside0.mk hsq; clear hrq hzq hkq hsq) | (go_at_call 27; refine (HAL.out _ (by exact HRq.out)).mono ?_; intro e w2 ho; rw [show wd s (([102, 97, 108, 115, 101] : List UInt8).map UInt8.toNat) i = .bad k c from HX.out] at ho; obtain ⟨x, rfl, rfl, hm, hr, hk⟩ := ho.bad_; have HRa := Aside0.mk hr; have HKa := Aside0.mk hk; have HMa := Aside0.mk hm; have ez0 := blk_cell ((hk.block N (blk_lt HZq.out) (by omega)).trans HZq.out) 0; have ez1 := blk_cell ((hk.block N (blk_lt HZq.out) (by omega)).trans HZq.out) 1; have ez2 := blk_cell ((hk.block N (blk_lt HZq.out) (by omega)).trans HZq.out) 2; have ez3 := blk_cell ((hk.block N (blk_lt HZq.out) (by omega)).trans HZq.out) 3; have gz0 := blk_frozen ((hk.block N (blk_lt HZq.out) (by omega)).trans HZq.out) 0; have gz1 := blk_frozen ((hk.block N (blk_lt HZq.out) (by omega)).trans HZq.out) 1; have gz2 := blk_frozen ((hk.block N (blk_lt HZq.out) (by omega)).trans HZq.out) 2; have gz3 := blk_frozen ((hk.block N (blk_lt HZq.out) (by omega)).trans HZq.out) 3; clear ho hr hk hm))
  have hE := val_end (a := 1) (b := ⟨#[]⟩) (v2 := .slice none 0 0) (v3 := .slice none 0 0) hBN HNw.out.symm (((HKa.out.block N (blk_lt HZq.out) (by omega)).trans HZq.out)) (HRa.out) (HKq.out.trans HKa.out) ((Kd.R_nil _ _ _ _ _)) ((Kd.R_nil _ _ _ _ _))
  obtain ⟨hw, hr3, hk3, hv3⟩ := hE
  have k0 := blk_cell hw 0
  have k1 := blk_cell hw 1
  have k2 := blk_cell hw 2
  have k3 := blk_cell hw 3
  refine bodyPost_ret (v := .agg #[.int .u8 (1), .string ⟨#[]⟩, .slice none 0 0, .slice none 0 0]) (by simp [results, Tryd.results17, go_sem, k0, k1, k2, k3]) rfl ?_
  refine rvu_ok hv3 hr3 hk3 (.inr ⟨HMa.out, ?_⟩)
  rw [HRR.out, HX.out]; rfl
set_option maxRecDepth 100000 in
set_option maxHeartbeats 4000000 in
theorem glossatorref03_state_value.str (s : ByteArray) (deep : Int) (hs : s.size ≤ 262144) (B i : Nat) (w : World) (hR : RSt B s i 0 w) (hi : i ≤ s.size) (R : Res JV) (hb : hnd s i = 34) (hRR : R = (text s i).bind fun l j => .ok ⟨4, ⟨l.toArray⟩, [], []⟩ j) : Calls Tryd.prog 17 #[.pointer (some ⟨B, 0, none⟩), .int .i64 deep] w (RU B s w 0 i R) := by
 have hsz : s.size ≤ 140737488351232 := by omega
 obtain ⟨N, hN⟩ : ∃ N, N = w.heap.size := ⟨_, rfl⟩
 have hBN : B < N := by rw [hN]; exact hR.lt
 obtain ⟨W1, hW1⟩ : ∃ W1, W1 = w.alloc (.cells #[.int .u8 0, .string ⟨#[]⟩, .slice none 0 0, .slice none 0 0] 25 (0, 0)) := ⟨_, rfl⟩
 have HNw := Aside0.mk hN; have HZq := Aside0.mk (show W1.heap[N]? = some (.cells #[.int .u8 0, .string ⟨#[]⟩, .slice none 0 0, .slice none 0 0] 25 (0, 0)) by rw [hW1, hN]; exact blk_new w _)
 have HRq := Aside0.mk (show RSt B s i 0 W1 by rw [hW1]; exact hR.alloc _)
 have HKq := Aside0.mk (show Kp B w W1 by rw [hW1]; exact Kp.of_below (below_alloc (Below.refl _ _) _))
 have HSq := Aside0.mk (show W1.heap.size = N + 1 by rw [hW1, hN]; simp)
 have HIF := Aside0.mk (fun (c : Int) (hc : c ≠ 0) (w' : World) (h : RSt B s i 0 w') (h2 : w'.heap[N]? = some (.cells #[.int .u8 0, .string ⟨#[]⟩, .slice none 0 0, .slice none 0 0] 25 (0, 0))) (h3 : Kp B w w') (h4 : w'.heap.size = N + 1) => (glossatorref03_state_is.calls B s i 0 c hc w' h hsz).mono (R' := fun e w2 => e = .returned (.bool (isB s i 0 c)) ∧ RSt B s i 0 w2 ∧ w2.heap[N]? = some (.cells #[.int .u8 0, .string ⟨#[]⟩, .slice none 0 0, .slice none 0 0] 25 (0, 0)) ∧ Kp B w w2 ∧ w2.heap.size = N + 1) (by rintro e w2 ⟨rfl, n, rfl⟩; exact ⟨rfl, h, h2, h3.drewN n, h4⟩))
 clear hR; have HRR := Aside0.mk hRR; have H4 := Aside0.mk hb; have q110 := isB_no (s := s) (i := i) (c := 110) (by omega)
 have q116 := isB_no (s := s) (i := i) (c := 116) (by omega)
 have q102 := isB_no (s := s) (i := i) (c := 102) (by omega)
 have q34 := isB_yes (s := s) (i := i) (c := 34) (by omega)
 clear hRR hb; go_enter Tryd.func17, Tryd.ntmps17
 go_upto_region 1 with (fail)
 rw [← hW1, ← hN]
 clear hW1 hN; go_upto_region 11 with (go_at_call 26; refine (HIF.out _ (by decide) _ (by exact HRq.out) (by exact HZq.out) (by exact HKq.out) (by exact HSq.out)).mono ?_; rintro e wq ⟨rfl, hrq, hzq, hkq, hsq⟩; have HRq := Aside0.mk hrq; have HZq := Aside0.mk hzq; have HKq := Aside0.mk hkq; have HSq := Aside0.mk hsq; clear hrq hzq hkq hsq)
 go_wp2_with (go_at_call 28; refine (u_text B s i _ (by exact HRq.out) hs H4.out).mono ?_; rintro e wa ⟨o, ka, ea, rfl, hr, hk, hf⟩; have HRa := Aside0.mk hr; have HKa := Aside0.mk hk; have HFa := Aside0.mk hf; have ez0 := blk_cell ((hk.block N (blk_lt HZq.out) (by omega)).trans HZq.out) 0; have ez1 := blk_cell ((hk.block N (blk_lt HZq.out) (by omega)).trans HZq.out) 1; have ez2 := blk_cell ((hk.block N (blk_lt HZq.out) (by omega)).trans HZq.out) 2; have ez3 := blk_cell ((hk.block N (blk_lt HZq.out) (by omega)).trans HZq.out) 3; have gz0 := blk_frozen ((hk.block N (blk_lt HZq.out) (by omega)).trans HZq.out) 0; have gz1 := blk_frozen ((hk.block N (blk_lt HZq.out) (by omega)).trans HZq.out) 1; have gz2 := blk_frozen ((hk.block N (blk_lt HZq.out) (by omega)).trans HZq.out) 2; have gz3 := blk_frozen ((hk.block N (blk_lt HZq.out) (by omega)).trans HZq.out) 3; clear hr hk hf)
 have hE := val_end (a := 4) (b := o) (v2 := .slice none 0 0) (v3 := .slice none 0 0) hBN HNw.out.symm (((HKa.out.block N (blk_lt HZq.out) (by omega)).trans HZq.out)) (HRa.out) (HKq.out.trans HKa.out) ((Kd.R_nil _ _ _ _ _)) ((Kd.R_nil _ _ _ _ _))
 obtain ⟨hw, hr3, hk3, hv3⟩ := hE
 have k0 := blk_cell hw 0
 have k1 := blk_cell hw 1
 have k2 := blk_cell hw 2
 have k3 := blk_cell hw 3
 refine bodyPost_ret (v := .agg #[.int .u8 (4), .string o, .slice none 0 0, .slice none 0 0]) (by simp [results, Tryd.results17, go_sem, k0, k1, k2, k3]) rfl ?_
 refine rvu_ok hv3 hr3 hk3 ?_
 rw [HRR.out]
 rcases HFa.out with ⟨a1, a2, a3⟩ | ⟨a1, a3⟩
 ·rw [a3]; exact .inl ⟨a1, a2, rfl⟩
 ·rw [a3]; exact .inr ⟨a1, rfl⟩
set_option maxRecDepth 100000 in
set_option maxHeartbeats 4000000 in
theorem glossatorref03_state_value.deepL (s : ByteArray) (deep : Int) (hs : s.size ≤ 262144) (B i : Nat) (w : World) (hR : RSt B s i 0 w) (hi : i ≤ s.size) (R : Res JV) (hb : hnd s i = 91) (hd : 64 < deep) (hRR : R = .bad i 31) : Calls Tryd.prog 17 #[.pointer (some ⟨B, 0, none⟩), .int .i64 deep] w (RU B s w 0 i R) := by
 have hsz : s.size ≤ 140737488351232 := by omega
 obtain ⟨N, hN⟩ : ∃ N, N = w.heap.size := ⟨_, rfl⟩
 have hBN : B < N := by rw [hN]; exact hR.lt
 obtain ⟨W1, hW1⟩ : ∃ W1, W1 = w.alloc (.cells #[.int .u8 0, .string ⟨#[]⟩, .slice none 0 0, .slice none 0 0] 25 (0, 0)) := ⟨_, rfl⟩
 have HNw := Aside0.mk hN; have HZq := Aside0.mk (show W1.heap[N]? = some (.cells #[.int .u8 0, .string ⟨#[]⟩, .slice none 0 0, .slice none 0 0] 25 (0, 0)) by rw [hW1, hN]; exact blk_new w _)
 have HRq := Aside0.mk (show RSt B s i 0 W1 by rw [hW1]; exact hR.alloc _)
 have HKq := Aside0.mk (show Kp B w W1 by rw [hW1]; exact Kp.of_below (below_alloc (Below.refl _ _) _))
 have HSq := Aside0.mk (show W1.heap.size = N + 1 by rw [hW1, hN]; simp)
 have HIF := Aside0.mk (fun (c : Int) (hc : c ≠ 0) (w' : World) (h : RSt B s i 0 w') (h2 : w'.heap[N]? = some (.cells #[.int .u8 0, .string ⟨#[]⟩, .slice none 0 0, .slice none 0 0] 25 (0, 0))) (h3 : Kp B w w') (h4 : w'.heap.size = N + 1) => (glossatorref03_state_is.calls B s i 0 c hc w' h hsz).mono (R' := fun e w2 => e = .returned (.bool (isB s i 0 c)) ∧ RSt B s i 0 w2 ∧ w2.heap[N]? = some (.cells #[.int .u8 0, .string ⟨#[]⟩, .slice none 0 0, .slice none 0 0] 25 (0, 0)) ∧ Kp B w w2 ∧ w2.heap.size = N + 1) (by rintro e w2 ⟨rfl, n, rfl⟩; exact ⟨rfl, h, h2, h3.drewN n, h4⟩))
 clear hR; have HRR := Aside0.mk hRR; have q110 := isB_no (s := s) (i := i) (c := 110) (by omega)
 have q116 := isB_no (s := s) (i := i) (c := 116) (by omega)
 have q102 := isB_no (s := s) (i := i) (c := 102) (by omega)
 have q34 := isB_no (s := s) (i := i) (c := 34) (by omega)
 have q91 := isB_yes (s := s) (i := i) (c := 91) (by omega)
 have t1 : decide ((64 : Int) < deep) = true := decide_eq_true hd
 clear hRR hb; go_enter Tryd.func17, Tryd.ntmps17
 go_upto_region 1 with (fail)
 rw [← hW1, ← hN]
 clear hW1 hN; go_upto_region 14 with (go_at_call 26; refine (HIF.out _ (by decide) _ (by exact HRq.out) (by exact HZq.out) (by exact HKq.out) (by exact HSq.out)).mono ?_; rintro e wq ⟨rfl, hrq, hzq, hkq, hsq⟩; have HRq := Aside0.mk hrq; have HZq := Aside0.mk hzq; have HKq := Aside0.mk hkq; have HSq := Aside0.mk hsq; clear hrq hzq hkq hsq)
 have c2 := HRq.out.c2
 have f2 := HRq.out.fr2
 have ez0 := blk_cell HZq.out 0
 have ez1 := blk_cell HZq.out 1
 have ez2 := blk_cell HZq.out 2
 have ez3 := blk_cell HZq.out 3
 have gz0 := blk_frozen HZq.out 0
 have gz1 := blk_frozen HZq.out 1
 have gz2 := blk_frozen HZq.out 2
 have gz3 := blk_frozen HZq.out 3
 have ne1 : B ≠ N := by omega
 have ne2 : N ≠ B := by omega
 go_wp2
 have hE := val_end (a := 0) (b := ⟨#[]⟩) (v2 := .slice none 0 0) (v3 := .slice none 0 0) hBN HNw.out.symm (blk_far (p := ⟨B, 2, none⟩) HZq.out (show N ≠ B by omega) (.int .i64 31)) (HRq.out.setE 31) (HKq.out.set 2 (.int .i64 31)) ((Kd.R_nil _ _ _ _ _)) ((Kd.R_nil _ _ _ _ _))
 obtain ⟨hw, hr3, hk3, hv3⟩ := hE
 have k0 := blk_cell hw 0
 have k1 := blk_cell hw 1
 have k2 := blk_cell hw 2
 have k3 := blk_cell hw 3
 refine bodyPost_ret (v := .agg #[.int .u8 (0), .string ⟨#[]⟩, .slice none 0 0, .slice none 0 0]) (by simp [results, Tryd.results17, go_sem, k0, k1, k2, k3]) rfl ?_
 exact rvu_ok hv3 hr3 hk3 (.inr ⟨by decide, HRR.out⟩)
set_option maxRecDepth 100000 in
set_option maxHeartbeats 4000000 in
theorem glossatorref03_state_value.deepO (s : ByteArray) (deep : Int) (hs : s.size ≤ 262144) (B i : Nat) (w : World) (hR : RSt B s i 0 w) (hi : i ≤ s.size) (R : Res JV) (hb : hnd s i = 123) (hd : 64 < deep) (hRR : R = .bad i 31) : Calls Tryd.prog 17 #[.pointer (some ⟨B, 0, none⟩), .int .i64 deep] w (RU B s w 0 i R) := by
 have hsz : s.size ≤ 140737488351232 := by omega
 obtain ⟨N, hN⟩ : ∃ N, N = w.heap.size := ⟨_, rfl⟩
 have hBN : B < N := by rw [hN]; exact hR.lt
 obtain ⟨W1, hW1⟩ : ∃ W1, W1 = w.alloc (.cells #[.int .u8 0, .string ⟨#[]⟩, .slice none 0 0, .slice none 0 0] 25 (0, 0)) := ⟨_, rfl⟩
 have HNw := Aside0.mk hN; have HZq := Aside0.mk (show W1.heap[N]? = some (.cells #[.int .u8 0, .string ⟨#[]⟩, .slice none 0 0, .slice none 0 0] 25 (0, 0)) by rw [hW1, hN]; exact blk_new w _)
 have HRq := Aside0.mk (show RSt B s i 0 W1 by rw [hW1]; exact hR.alloc _)
 have HKq := Aside0.mk (show Kp B w W1 by rw [hW1]; exact Kp.of_below (below_alloc (Below.refl _ _) _))
 have HSq := Aside0.mk (show W1.heap.size = N + 1 by rw [hW1, hN]; simp)
 have HIF := Aside0.mk (fun (c : Int) (hc : c ≠ 0) (w' : World) (h : RSt B s i 0 w') (h2 : w'.heap[N]? = some (.cells #[.int .u8 0, .string ⟨#[]⟩, .slice none 0 0, .slice none 0 0] 25 (0, 0))) (h3 : Kp B w w') (h4 : w'.heap.size = N + 1) => (glossatorref03_state_is.calls B s i 0 c hc w' h hsz).mono (R' := fun e w2 => e = .returned (.bool (isB s i 0 c)) ∧ RSt B s i 0 w2 ∧ w2.heap[N]? = some (.cells #[.int .u8 0, .string ⟨#[]⟩, .slice none 0 0, .slice none 0 0] 25 (0, 0)) ∧ Kp B w w2 ∧ w2.heap.size = N + 1) (by rintro e w2 ⟨rfl, n, rfl⟩; exact ⟨rfl, h, h2, h3.drewN n, h4⟩))
 clear hR; have HRR := Aside0.mk hRR; have q110 := isB_no (s := s) (i := i) (c := 110) (by omega)
 have q116 := isB_no (s := s) (i := i) (c := 116) (by omega)
 have q102 := isB_no (s := s) (i := i) (c := 102) (by omega)
 have q34 := isB_no (s := s) (i := i) (c := 34) (by omega)
 have q91 := isB_no (s := s) (i := i) (c := 91) (by omega)
 have q123 := isB_yes (s := s) (i := i) (c := 123) (by omega)
 have t1 : decide ((64 : Int) < deep) = true := decide_eq_true hd
 clear hRR hb; go_enter Tryd.func17, Tryd.ntmps17
 go_upto_region 1 with (fail)
 rw [← hW1, ← hN]
 clear hW1 hN; go_upto_region 14 with (go_at_call 26; refine (HIF.out _ (by decide) _ (by exact HRq.out) (by exact HZq.out) (by exact HKq.out) (by exact HSq.out)).mono ?_; rintro e wq ⟨rfl, hrq, hzq, hkq, hsq⟩; have HRq := Aside0.mk hrq; have HZq := Aside0.mk hzq; have HKq := Aside0.mk hkq; have HSq := Aside0.mk hsq; clear hrq hzq hkq hsq)
 have c2 := HRq.out.c2
 have f2 := HRq.out.fr2
 have ez0 := blk_cell HZq.out 0
 have ez1 := blk_cell HZq.out 1
 have ez2 := blk_cell HZq.out 2
 have ez3 := blk_cell HZq.out 3
 have gz0 := blk_frozen HZq.out 0
 have gz1 := blk_frozen HZq.out 1
 have gz2 := blk_frozen HZq.out 2
 have gz3 := blk_frozen HZq.out 3
 have ne1 : B ≠ N := by omega
 have ne2 : N ≠ B := by omega
 go_wp2
 have hE := val_end (a := 0) (b := ⟨#[]⟩) (v2 := .slice none 0 0) (v3 := .slice none 0 0) hBN HNw.out.symm (blk_far (p := ⟨B, 2, none⟩) HZq.out (show N ≠ B by omega) (.int .i64 31)) (HRq.out.setE 31) (HKq.out.set 2 (.int .i64 31)) ((Kd.R_nil _ _ _ _ _)) ((Kd.R_nil _ _ _ _ _))
 obtain ⟨hw, hr3, hk3, hv3⟩ := hE
 have k0 := blk_cell hw 0
 have k1 := blk_cell hw 1
 have k2 := blk_cell hw 2
 have k3 := blk_cell hw 3
 refine bodyPost_ret (v := .agg #[.int .u8 (0), .string ⟨#[]⟩, .slice none 0 0, .slice none 0 0]) (by simp [results, Tryd.results17, go_sem, k0, k1, k2, k3]) rfl ?_
 exact rvu_ok hv3 hr3 hk3 (.inr ⟨by decide, HRR.out⟩)
set_option maxRecDepth 100000 in
set_option maxHeartbeats 4000000 in
theorem glossatorref03_state_value.lis (s : ByteArray) (deep : Int) (hs : s.size ≤ 262144) (B i : Nat) (w : World) (hR : RSt B s i 0 w) (hi : i ≤ s.size) (R : Res JV) (pv : Nat → Res JV) (hb : hnd s i = 91) (hd : 0 ≤ deep ∧ deep ≤ 64) (hV : RValU s pv (deep + 1)) (hp : ∀ i v j, pv i = .ok v j → i < j) (hRR : R = (lst s pv (s.size + 1) (skip isBl s (i + 1)) []).bind fun l j => .ok ⟨5, ⟨#[]⟩, l, []⟩ j) : Calls Tryd.prog 17 #[.pointer (some ⟨B, 0, none⟩), .int .i64 deep] w (RU B s w 0 i R) := by
 have hsz : s.size ≤ 140737488351232 := by omega
 obtain ⟨N, hN⟩ : ∃ N, N = w.heap.size := ⟨_, rfl⟩
 have hBN : B < N := by rw [hN]; exact hR.lt
 obtain ⟨W1, hW1⟩ : ∃ W1, W1 = w.alloc (.cells #[.int .u8 0, .string ⟨#[]⟩, .slice none 0 0, .slice none 0 0] 25 (0, 0)) := ⟨_, rfl⟩
 have HNw := Aside0.mk hN; have HZq := Aside0.mk (show W1.heap[N]? = some (.cells #[.int .u8 0, .string ⟨#[]⟩, .slice none 0 0, .slice none 0 0] 25 (0, 0)) by rw [hW1, hN]; exact blk_new w _)
 have HRq := Aside0.mk (show RSt B s i 0 W1 by rw [hW1]; exact hR.alloc _)
 have HKq := Aside0.mk (show Kp B w W1 by rw [hW1]; exact Kp.of_below (below_alloc (Below.refl _ _) _))
 have HSq := Aside0.mk (show W1.heap.size = N + 1 by rw [hW1, hN]; simp)
 have HIF := Aside0.mk (fun (c : Int) (hc : c ≠ 0) (w' : World) (h : RSt B s i 0 w') (h2 : w'.heap[N]? = some (.cells #[.int .u8 0, .string ⟨#[]⟩, .slice none 0 0, .slice none 0 0] 25 (0, 0))) (h3 : Kp B w w') (h4 : w'.heap.size = N + 1) => (glossatorref03_state_is.calls B s i 0 c hc w' h hsz).mono (R' := fun e w2 => e = .returned (.bool (isB s i 0 c)) ∧ RSt B s i 0 w2 ∧ w2.heap[N]? = some (.cells #[.int .u8 0, .string ⟨#[]⟩, .slice none 0 0, .slice none 0 0] 25 (0, 0)) ∧ Kp B w w2 ∧ w2.heap.size = N + 1) (by rintro e w2 ⟨rfl, n, rfl⟩; exact ⟨rfl, h, h2, h3.drewN n, h4⟩))
 clear hR; have HRR := Aside0.mk hRR; have q110 := isB_no (s := s) (i := i) (c := 110) (by omega)
 have q116 := isB_no (s := s) (i := i) (c := 116) (by omega)
 have q102 := isB_no (s := s) (i := i) (c := 102) (by omega)
 have q34 := isB_no (s := s) (i := i) (c := 34) (by omega)
 have q91 := isB_yes (s := s) (i := i) (c := 91) (by omega)
 have t1 : decide ((64 : Int) < deep) = false := decide_eq_false (by omega)
 have HV := Aside0.mk hV; have HP := Aside0.mk hp; have HD := Aside0.mk hd; have H5 := Aside0.mk hb; clear hRR hb hV hp hd; go_enter Tryd.func17, Tryd.ntmps17
 go_upto_region 1 with (fail)
 rw [← hW1, ← hN]
 clear hW1 hN; go_upto_region 17 with (go_at_call 26; refine (HIF.out _ (by decide) _ (by exact HRq.out) (by exact HZq.out) (by exact HKq.out) (by exact HSq.out)).mono ?_; rintro e wq ⟨rfl, hrq, hzq, hkq, hsq⟩; have HRq := Aside0.mk hrq; have HZq := Aside0.mk hzq; have HKq := Aside0.mk hkq; have HSq := Aside0.mk hsq; clear hrq hzq hkq hsq)
 go_wp2_with (go_at_call 29; refine (glossatorref03_state_list.calls B s i pv deep HD.out _ (by exact HRq.out) hs H5.out (RValOk.of HV.out) HP.out).mono ?_; rintro e wa ⟨x, v, ka, ea, rfl, ⟨v2, v3, rfl, hr2, hr3⟩, hrd, hk, hf⟩; rw [HSq.out] at hr2 hr3; obtain ⟨A4, c4, rfl⟩ := Kd.R_slice hr2; obtain ⟨A5, c5, rfl⟩ := Kd.R_slice hr3; have HRa := Aside0.mk hrd; have HKa := Aside0.mk hk; have HFa := Aside0.mk hf; have HVa := Aside0.mk hr2; have HWa := Aside0.mk hr3; have ez0 := blk_cell ((hk.block N (blk_lt HZq.out) (by omega)).trans HZq.out) 0; have ez1 := blk_cell ((hk.block N (blk_lt HZq.out) (by omega)).trans HZq.out) 1; have ez2 := blk_cell ((hk.block N (blk_lt HZq.out) (by omega)).trans HZq.out) 2; have ez3 := blk_cell ((hk.block N (blk_lt HZq.out) (by omega)).trans HZq.out) 3; have gz0 := blk_frozen ((hk.block N (blk_lt HZq.out) (by omega)).trans HZq.out) 0; have gz1 := blk_frozen ((hk.block N (blk_lt HZq.out) (by omega)).trans HZq.out) 1; have gz2 := blk_frozen ((hk.block N (blk_lt HZq.out) (by omega)).trans HZq.out) 2; have gz3 := blk_frozen ((hk.block N (blk_lt HZq.out) (by omega)).trans HZq.out) 3; clear hrd hk hf hr2 hr3)
 have hE := val_end (a := v.f0) (b := v.f1) (v2 := (.slice A4 v.f2.length c4)) (v3 := (.slice A5 v.f3.length c5)) hBN HNw.out.symm (((HKa.out.block N (blk_lt HZq.out) (by omega)).trans HZq.out)) (HRa.out) (HKq.out.trans HKa.out) (HVa.out) (HWa.out)
 obtain ⟨hw, hr3, hk3, hv3⟩ := hE
 have k0 := blk_cell hw 0
 have k1 := blk_cell hw 1
 have k2 := blk_cell hw 2
 have k3 := blk_cell hw 3
 refine bodyPost_ret (v := .agg #[.int .u8 (v.f0), .string v.f1, (.slice A4 v.f2.length c4), (.slice A5 v.f3.length c5)]) (by simp [results, Tryd.results17, go_sem, k0, k1, k2, k3]) rfl ?_
 refine rvu_ok hv3 hr3 hk3 ?_
 rw [HRR.out]
 rcases HFa.out with ⟨a1, a2, a3⟩ | ⟨a1, a3⟩
 ·exact .inl ⟨a1, a2, a3.trans (by cases v; rfl)⟩
 ·exact .inr ⟨a1, a3⟩
set_option maxRecDepth 100000 in
set_option maxHeartbeats 4000000 in
theorem glossatorref03_state_value.objc (s : ByteArray) (deep : Int) (hs : s.size ≤ 262144) (B i : Nat) (w : World) (hR : RSt B s i 0 w) (hi : i ≤ s.size) (R : Res JV) (pv : Nat → Res JV) (hb : hnd s i = 123) (hd : 0 ≤ deep ∧ deep ≤ 64) (hV : RValU s pv (deep + 1)) (hp : ∀ i v j, pv i = .ok v j → i < j) (hRR : R = (obj s pv (s.size + 1) (skip isBl s (i + 1)) true []).bind fun l j => .ok ⟨6, ⟨#[]⟩, [], l⟩ j) : Calls Tryd.prog 17 #[.pointer (some ⟨B, 0, none⟩), .int .i64 deep] w (RU B s w 0 i R) := by
 have hsz : s.size ≤ 140737488351232 := by omega
 obtain ⟨N, hN⟩ : ∃ N, N = w.heap.size := ⟨_, rfl⟩
 have hBN : B < N := by rw [hN]; exact hR.lt
 obtain ⟨W1, hW1⟩ : ∃ W1, W1 = w.alloc (.cells #[.int .u8 0, .string ⟨#[]⟩, .slice none 0 0, .slice none 0 0] 25 (0, 0)) := ⟨_, rfl⟩
 have HNw := Aside0.mk hN; have HZq := Aside0.mk (show W1.heap[N]? = some (.cells #[.int .u8 0, .string ⟨#[]⟩, .slice none 0 0, .slice none 0 0] 25 (0, 0)) by rw [hW1, hN]; exact blk_new w _)
 have HRq := Aside0.mk (show RSt B s i 0 W1 by rw [hW1]; exact hR.alloc _)
 have HKq := Aside0.mk (show Kp B w W1 by rw [hW1]; exact Kp.of_below (below_alloc (Below.refl _ _) _))
 have HSq := Aside0.mk (show W1.heap.size = N + 1 by rw [hW1, hN]; simp)
 have HIF := Aside0.mk (fun (c : Int) (hc : c ≠ 0) (w' : World) (h : RSt B s i 0 w') (h2 : w'.heap[N]? = some (.cells #[.int .u8 0, .string ⟨#[]⟩, .slice none 0 0, .slice none 0 0] 25 (0, 0))) (h3 : Kp B w w') (h4 : w'.heap.size = N + 1) => (glossatorref03_state_is.calls B s i 0 c hc w' h hsz).mono (R' := fun e w2 => e = .returned (.bool (isB s i 0 c)) ∧ RSt B s i 0 w2 ∧ w2.heap[N]? = some (.cells #[.int .u8 0, .string ⟨#[]⟩, .slice none 0 0, .slice none 0 0] 25 (0, 0)) ∧ Kp B w w2 ∧ w2.heap.size = N + 1) (by rintro e w2 ⟨rfl, n, rfl⟩; exact ⟨rfl, h, h2, h3.drewN n, h4⟩))
 clear hR; have HRR := Aside0.mk hRR; have q110 := isB_no (s := s) (i := i) (c := 110) (by omega)
 have q116 := isB_no (s := s) (i := i) (c := 116) (by omega)
 have q102 := isB_no (s := s) (i := i) (c := 102) (by omega)
 have q34 := isB_no (s := s) (i := i) (c := 34) (by omega)
 have q91 := isB_no (s := s) (i := i) (c := 91) (by omega)
 have q123 := isB_yes (s := s) (i := i) (c := 123) (by omega)
 have t1 : decide ((64 : Int) < deep) = false := decide_eq_false (by omega)
 have HV := Aside0.mk hV; have HP := Aside0.mk hp; have HD := Aside0.mk hd; have H5 := Aside0.mk hb; clear hRR hb hV hp hd; go_enter Tryd.func17, Tryd.ntmps17
 go_upto_region 1 with (fail)
 rw [← hW1, ← hN]
 clear hW1 hN; go_upto_region 18 with (go_at_call 26; refine (HIF.out _ (by decide) _ (by exact HRq.out) (by exact HZq.out) (by exact HKq.out) (by exact HSq.out)).mono ?_; rintro e wq ⟨rfl, hrq, hzq, hkq, hsq⟩; have HRq := Aside0.mk hrq; have HZq := Aside0.mk hzq; have HKq := Aside0.mk hkq; have HSq := Aside0.mk hsq; clear hrq hzq hkq hsq)
 go_wp2_with (go_at_call 30; refine (glossatorref03_state_object.calls B s i pv deep HD.out _ (by exact HRq.out) hs H5.out HV.out HP.out).mono ?_; rintro e wa ⟨x, v, ka, ea, rfl, ⟨v2, v3, rfl, hr2, hr3⟩, hrd, hk, hf⟩; rw [HSq.out] at hr2 hr3; obtain ⟨A4, c4, rfl⟩ := Kd.R_slice hr2; obtain ⟨A5, c5, rfl⟩ := Kd.R_slice hr3; have HRa := Aside0.mk hrd; have HKa := Aside0.mk hk; have HFa := Aside0.mk hf; have HVa := Aside0.mk hr2; have HWa := Aside0.mk hr3; have ez0 := blk_cell ((hk.block N (blk_lt HZq.out) (by omega)).trans HZq.out) 0; have ez1 := blk_cell ((hk.block N (blk_lt HZq.out) (by omega)).trans HZq.out) 1; have ez2 := blk_cell ((hk.block N (blk_lt HZq.out) (by omega)).trans HZq.out) 2; have ez3 := blk_cell ((hk.block N (blk_lt HZq.out) (by omega)).trans HZq.out) 3; have gz0 := blk_frozen ((hk.block N (blk_lt HZq.out) (by omega)).trans HZq.out) 0; have gz1 := blk_frozen ((hk.block N (blk_lt HZq.out) (by omega)).trans HZq.out) 1; have gz2 := blk_frozen ((hk.block N (blk_lt HZq.out) (by omega)).trans HZq.out) 2; have gz3 := blk_frozen ((hk.block N (blk_lt HZq.out) (by omega)).trans HZq.out) 3; clear hrd hk hf hr2 hr3)
 have hE := val_end (a := v.f0) (b := v.f1) (v2 := (.slice A4 v.f2.length c4)) (v3 := (.slice A5 v.f3.length c5)) hBN HNw.out.symm (((HKa.out.block N (blk_lt HZq.out) (by omega)).trans HZq.out)) (HRa.out) (HKq.out.trans HKa.out) (HVa.out) (HWa.out)
 obtain ⟨hw, hr3, hk3, hv3⟩ := hE
 have k0 := blk_cell hw 0
 have k1 := blk_cell hw 1
 have k2 := blk_cell hw 2
 have k3 := blk_cell hw 3
 refine bodyPost_ret (v := .agg #[.int .u8 (v.f0), .string v.f1, (.slice A4 v.f2.length c4), (.slice A5 v.f3.length c5)]) (by simp [results, Tryd.results17, go_sem, k0, k1, k2, k3]) rfl ?_
 refine rvu_ok hv3 hr3 hk3 ?_
 rw [HRR.out]
 rcases HFa.out with ⟨a1, a2, a3⟩ | ⟨a1, a3⟩
 ·exact .inl ⟨a1, a2, a3.trans (by cases v; rfl)⟩
 ·exact .inr ⟨a1, a3⟩
set_option maxRecDepth 100000 in
set_option maxHeartbeats 4000000 in
theorem glossatorref03_state_value.num (s : ByteArray) (deep : Int) (hs : s.size ≤ 262144) (B i : Nat) (w : World) (hR : RSt B s i 0 w) (hi : i ≤ s.size) (R : Res JV) (hb : hnd s i ≠ 110 ∧ hnd s i ≠ 116 ∧ hnd s i ≠ 102 ∧ hnd s i ≠ 34 ∧ hnd s i ≠ 91 ∧ hnd s i ≠ 123) (hRR : R = (number s i).bind fun _ j => .ok ⟨3, s.extract i j, [], []⟩ j) : Calls Tryd.prog 17 #[.pointer (some ⟨B, 0, none⟩), .int .i64 deep] w (RU B s w 0 i R) := by
 have hsz : s.size ≤ 140737488351232 := by omega
 obtain ⟨N, hN⟩ : ∃ N, N = w.heap.size := ⟨_, rfl⟩
 have hBN : B < N := by rw [hN]; exact hR.lt
 obtain ⟨W1, hW1⟩ : ∃ W1, W1 = w.alloc (.cells #[.int .u8 0, .string ⟨#[]⟩, .slice none 0 0, .slice none 0 0] 25 (0, 0)) := ⟨_, rfl⟩
 have HNw := Aside0.mk hN; have HZq := Aside0.mk (show W1.heap[N]? = some (.cells #[.int .u8 0, .string ⟨#[]⟩, .slice none 0 0, .slice none 0 0] 25 (0, 0)) by rw [hW1, hN]; exact blk_new w _)
 have HRq := Aside0.mk (show RSt B s i 0 W1 by rw [hW1]; exact hR.alloc _)
 have HKq := Aside0.mk (show Kp B w W1 by rw [hW1]; exact Kp.of_below (below_alloc (Below.refl _ _) _))
 have HSq := Aside0.mk (show W1.heap.size = N + 1 by rw [hW1, hN]; simp)
 have HIF := Aside0.mk (fun (c : Int) (hc : c ≠ 0) (w' : World) (h : RSt B s i 0 w') (h2 : w'.heap[N]? = some (.cells #[.int .u8 0, .string ⟨#[]⟩, .slice none 0 0, .slice none 0 0] 25 (0, 0))) (h3 : Kp B w w') (h4 : w'.heap.size = N + 1) => (glossatorref03_state_is.calls B s i 0 c hc w' h hsz).mono (R' := fun e w2 => e = .returned (.bool (isB s i 0 c)) ∧ RSt B s i 0 w2 ∧ w2.heap[N]? = some (.cells #[.int .u8 0, .string ⟨#[]⟩, .slice none 0 0, .slice none 0 0] 25 (0, 0)) ∧ Kp B w w2 ∧ w2.heap.size = N + 1) (by rintro e w2 ⟨rfl, n, rfl⟩; exact ⟨rfl, h, h2, h3.drewN n, h4⟩))
 clear hR; have HRR := Aside0.mk hRR; have q110 := isB_no (s := s) (i := i) (c := 110) (by omega)
 have q116 := isB_no (s := s) (i := i) (c := 116) (by omega)
 have q102 := isB_no (s := s) (i := i) (c := 102) (by omega)
 have q34 := isB_no (s := s) (i := i) (c := 34) (by omega)
 have q91 := isB_no (s := s) (i := i) (c := 91) (by omega)
 have q123 := isB_no (s := s) (i := i) (c := 123) (by omega)
 have HNU := Aside0.mk (fun (w' : World) (h : RSt B s i 0 w') => glossatorref03_state_number.calls B s i w' h hsz hi)
 clear hRR hb; go_enter Tryd.func17, Tryd.ntmps17
 go_upto_region 1 with (fail)
 rw [← hW1, ← hN]
 clear hW1 hN; go_upto_region 19 with (go_at_call 26; refine (HIF.out _ (by decide) _ (by exact HRq.out) (by exact HZq.out) (by exact HKq.out) (by exact HSq.out)).mono ?_; rintro e wq ⟨rfl, hrq, hzq, hkq, hsq⟩; have HRq := Aside0.mk hrq; have HZq := Aside0.mk hzq; have HKq := Aside0.mk hkq; have HSq := Aside0.mk hsq; clear hrq hzq hkq hsq)
 have c1 := HRq.out.c1
 go_upto_region 21 with (go_at_call 31; refine (HNU.out _ (by exact HRq.out)).mono ?_; intro e wa ho; have hu := num_u ho hi; obtain ⟨ka, ea, rfl, hr, hk, hle, hf⟩ := hu; have HRa := Aside0.mk hr; have HKa := Aside0.mk hk; have HFa := Aside0.mk hf; have HLa := Aside0.mk hle; have HZa := Aside0.mk ((hk.block N (blk_lt HZq.out) (by omega)).trans HZq.out); clear ho hr hk hf hle)
 clear c1; have c0 := HRa.out.c0
 have c1 := HRa.out.c1
 have ez0 := blk_cell HZa.out 0
 have ez1 := blk_cell HZa.out 1
 have ez2 := blk_cell HZa.out 2
 have ez3 := blk_cell HZa.out 3
 have gz0 := blk_frozen HZa.out 0
 have gz1 := blk_frozen HZa.out 1
 have gz2 := blk_frozen HZa.out 2
 have gz3 := blk_frozen HZa.out 3
 have b1 : (0 : Int) ≤ (i : Int) := by omega
 have b2 : (i : Int) ≤ (ka : Int) := by have := HLa.out; omega
 have b3 : (ka : Int) ≤ (s.size : Int) := by have := HLa.out; omega
 have n3 : ((ka : Int)).toNat = ka := by omega
 go_region
 go_wp2
 have hE := val_end (a := 3) (b := (s.extract i ka)) (v2 := .slice none 0 0) (v3 := .slice none 0 0) hBN HNw.out.symm (HZa.out) (HRa.out) (HKq.out.trans HKa.out) ((Kd.R_nil _ _ _ _ _)) ((Kd.R_nil _ _ _ _ _))
 obtain ⟨hw, hr3, hk3, hv3⟩ := hE
 have k0 := blk_cell hw 0
 have k1 := blk_cell hw 1
 have k2 := blk_cell hw 2
 have k3 := blk_cell hw 3
 refine bodyPost_ret (v := .agg #[.int .u8 (3), .string (s.extract i ka), .slice none 0 0, .slice none 0 0]) (by simp [results, Tryd.results17, go_sem, k0, k1, k2, k3]) rfl ?_
 refine RU.drew (rvu_ok hv3 hr3 hk3 ?_)
 rw [HRR.out]
 rcases HFa.out with ⟨a1, a3⟩ | ⟨a1, a3⟩
 ·rw [a3]; exact .inl ⟨a1, HLa.out.2, rfl⟩
 ·rw [a3]; exact .inr ⟨a1, rfl⟩
set_option maxRecDepth 100000 in
set_option maxHeartbeats 4000000 in
theorem glossatorref03_state_value.off (s : ByteArray) (deep : Int) (hs : s.size ≤ 262144) (B i : Nat) (er : Int) (he : er ≠ 0) (w : World) (hR : RSt B s i er w) (hi : i ≤ s.size) (R : Res JV)  : Calls Tryd.prog 17 #[.pointer (some ⟨B, 0, none⟩), .int .i64 deep] w (RU B s w er i R) := by
 have hsz : s.size ≤ 140737488351232 := by omega
 obtain ⟨N, hN⟩ : ∃ N, N = w.heap.size := ⟨_, rfl⟩
 have hBN : B < N := by rw [hN]; exact hR.lt
 obtain ⟨W1, hW1⟩ : ∃ W1, W1 = w.alloc (.cells #[.int .u8 0, .string ⟨#[]⟩, .slice none 0 0, .slice none 0 0] 25 (0, 0)) := ⟨_, rfl⟩
 have HNw := Aside0.mk hN; have HZq := Aside0.mk (show W1.heap[N]? = some (.cells #[.int .u8 0, .string ⟨#[]⟩, .slice none 0 0, .slice none 0 0] 25 (0, 0)) by rw [hW1, hN]; exact blk_new w _)
 have HRq := Aside0.mk (show RSt B s i er W1 by rw [hW1]; exact hR.alloc _)
 have HKq := Aside0.mk (show Kp B w W1 by rw [hW1]; exact Kp.of_below (below_alloc (Below.refl _ _) _))
 have HSq := Aside0.mk (show W1.heap.size = N + 1 by rw [hW1, hN]; simp)
 have HIF := Aside0.mk (fun (c : Int) (hc : c ≠ 0) (w' : World) (h : RSt B s i er w') (h2 : w'.heap[N]? = some (.cells #[.int .u8 0, .string ⟨#[]⟩, .slice none 0 0, .slice none 0 0] 25 (0, 0))) (h3 : Kp B w w') (h4 : w'.heap.size = N + 1) => (glossatorref03_state_is.calls B s i er c hc w' h hsz).mono (R' := fun e w2 => e = .returned (.bool (isB s i er c)) ∧ RSt B s i er w2 ∧ w2.heap[N]? = some (.cells #[.int .u8 0, .string ⟨#[]⟩, .slice none 0 0, .slice none 0 0] 25 (0, 0)) ∧ Kp B w w2 ∧ w2.heap.size = N + 1) (by rintro e w2 ⟨rfl, n, rfl⟩; exact ⟨rfl, h, h2, h3.drewN n, h4⟩))
 clear hR; have q110 := isB_bad (s := s) (i := i) 110 he
 have q116 := isB_bad (s := s) (i := i) 116 he
 have q102 := isB_bad (s := s) (i := i) 102 he
 have q34 := isB_bad (s := s) (i := i) 34 he
 have q91 := isB_bad (s := s) (i := i) 91 he
 have q123 := isB_bad (s := s) (i := i) 123 he
 have HE := Aside0.mk he; clear he; go_enter Tryd.func17, Tryd.ntmps17
 go_upto_region 1 with (fail)
 rw [← hW1, ← hN]
 clear hW1 hN; go_upto_region 19 with (go_at_call 26; refine (HIF.out _ (by decide) _ (by exact HRq.out) (by exact HZq.out) (by exact HKq.out) (by exact HSq.out)).mono ?_; rintro e wq ⟨rfl, hrq, hzq, hkq, hsq⟩; have HRq := Aside0.mk hrq; have HZq := Aside0.mk hzq; have HKq := Aside0.mk hkq; have HSq := Aside0.mk hsq; clear hrq hzq hkq hsq)
 have c1 := HRq.out.c1
 go_upto_region 21 with (go_at_call 31; refine (off_number B s i er HE.out _ (by exact HRq.out) hsz).mono ?_; rintro e wa ⟨rfl, n, hw⟩; have HRa := Aside0.mk (show RSt B s i er wa by rw [hw]; exact HRq.out); have HZa := Aside0.mk (show wa.heap[N]? = some (.cells #[.int .u8 0, .string ⟨#[]⟩, .slice none 0 0, .slice none 0 0] 25 (0, 0)) by rw [hw]; exact HZq.out); have HKa := Aside0.mk (show Kp B w wa by rw [hw]; exact HKq.out.drewN n); clear hw)
 clear c1; have c0 := HRa.out.c0
 have c1 := HRa.out.c1
 have ez0 := blk_cell HZa.out 0
 have ez1 := blk_cell HZa.out 1
 have ez2 := blk_cell HZa.out 2
 have ez3 := blk_cell HZa.out 3
 have gz0 := blk_frozen HZa.out 0
 have gz1 := blk_frozen HZa.out 1
 have gz2 := blk_frozen HZa.out 2
 have gz3 := blk_frozen HZa.out 3
 have b1 : (0 : Int) ≤ (i : Int) := by omega
 have b3 : (i : Int) ≤ (s.size : Int) := by omega
 go_region
 go_wp2
 have hE := val_end (a := 3) (b := ByteArray.empty) (v2 := .slice none 0 0) (v3 := .slice none 0 0) hBN HNw.out.symm (HZa.out) (HRa.out) (HKa.out) ((Kd.R_nil _ _ _ _ _)) ((Kd.R_nil _ _ _ _ _))
 obtain ⟨hw, hr3, hk3, hv3⟩ := hE
 have k0 := blk_cell hw 0
 have k1 := blk_cell hw 1
 have k2 := blk_cell hw 2
 have k3 := blk_cell hw 3
 refine bodyPost_ret (v := .agg #[.int .u8 (3), .string ByteArray.empty, .slice none 0 0, .slice none 0 0]) (by simp [results, Tryd.results17, go_sem, k0, k1, k2, k3]) rfl ?_
 exact RU.drew ⟨_, _, _, _, rfl, hv3, hr3, hk3, .inr (.inr ⟨HE.out, rfl, rfl⟩)⟩
theorem glossatorref03_state_value.calls (s : ByteArray) (br : Nat → Res JV) (deep : Int) (hs : s.size ≤ 262144) (hBr : BrOk s br deep) : RValU s (flat s br) deep := by
 intro B i er w hR hi
 by_cases he : er = 0
 ·subst he; obtain ⟨R, hRR⟩ : ∃ R, R = flat s br i := ⟨_, rfl⟩
  rw [← hRR]
  unfold flat at hRR
  by_cases h1 : hnd s i = 110
  ·rw [if_pos h1] at hRR; exact glossatorref03_state_value.nul s deep hs B i w hR hi R h1 hRR
  rw [if_neg h1] at hRR
  by_cases h2 : hnd s i = 116
  ·rw [if_pos h2] at hRR; exact glossatorref03_state_value.tru s deep hs B i w hR hi R h2 hRR
  rw [if_neg h2] at hRR
  by_cases h3 : hnd s i = 102
  ·rw [if_pos h3] at hRR; exact glossatorref03_state_value.fals s deep hs B i w hR hi R h3 hRR
  rw [if_neg h3] at hRR
  by_cases h4 : hnd s i = 34
  ·rw [if_pos h4] at hRR; exact glossatorref03_state_value.str s deep hs B i w hR hi R h4 hRR
  rw [if_neg h4] at hRR
  by_cases h5 : hnd s i = 91 ∨ hnd s i = 123
  ·rw [if_pos h5] at hRR
   rcases hBr with ⟨hd, hb⟩ | ⟨hd0, hd1, pv, hV, hp, hb⟩
   ·rw [hb] at hRR
    rcases h5 with h5 | h5
    ·exact glossatorref03_state_value.deepL s deep hs B i w hR hi R h5 hd hRR
    ·exact glossatorref03_state_value.deepO s deep hs B i w hR hi R h5 hd hRR
   ·rw [hb] at hRR
    unfold brk at hRR
    rcases h5 with h5 | h5
    ·rw [if_pos h5] at hRR; exact glossatorref03_state_value.lis s deep hs B i w hR hi R pv h5 ⟨hd0, hd1⟩ hV hp hRR
    ·rw [if_neg (by omega)] at hRR; exact glossatorref03_state_value.objc s deep hs B i w hR hi R pv h5 ⟨hd0, hd1⟩ hV hp hRR
  rw [if_neg h5] at hRR
  exact glossatorref03_state_value.num s deep hs B i w hR hi R ⟨h1, h2, h3, h4, fun h => h5 (.inl h), fun h => h5 (.inr h)⟩ hRR
 ·exact glossatorref03_state_value.off s deep hs B i er he w hR hi _
theorem glossatorref03_state_value.all (s : ByteArray) (hs : s.size ≤ 262144) : ∀ d : Nat, d ≤ 64 → RValU s (pval s d) (65 - (d : Int)) := by
 intro d
 induction d with
 | zero => intro _; exact glossatorref03_state_value.calls s _ _ hs (.inl ⟨by omega, fun i => rfl⟩)
 | succ d ih =>
  intro h
  refine glossatorref03_state_value.calls s _ _ hs (.inr ⟨by omega, by omega, pval s d, ?_, fun i v j => pval_lt d i v j, fun i => rfl⟩)
  have := ih (by omega)
  rwa [show (65 : Int) - ((d + 1 : Nat) : Int) + 1 = 65 - (d : Int) by omega]
end Go.Proofs.YtienoadaflmkdaaDoor.Q

end
section
namespace Go.Proofs.YtienoadaflmkdaaDoor.Q
open Go.RowKit Go.Proofs.YtienoadaflmkdaaDoorW.PrintWords Go.Proofs.YtienoadaflmkdaaDoorW.PrintLast Go.Proofs.YtienoadaflmkdaaDoorW.PrintMore
attribute [local go_sem] max2_int min2_int max_two min_two max_three min_three max_four min_four   
set_option linter.unusedVariables false
set_option linter.unusedSimpArgs false
theorem parsed_of_ok {s : ByteArray} {v : JV} {k : Nat} (hs : s.size ≤ 262144) (h : parse s = .ok v k) : parsed s = (v, 0, 0) := by unfold parsed; rw [if_neg (by omega), h]
theorem parsed_of_bad {s : ByteArray} {k : Nat} {c : Int} (hs : s.size ≤ 262144) (h : parse s = .bad k c) : parsed s = (⟨0, ⟨#[]⟩, [], []⟩, k, c) := by unfold parsed; rw [if_neg (by omega), h]
theorem below_put4 {w W : World} {N : Nat} (hk : Kp (N + 1) w W) (hN : N = w.heap.size) (a b c d : Value) : Below w.heap.size w ((((W.setCell ⟨N, 0, none⟩ a).setCell ⟨N, 1, none⟩ b).setCell ⟨N, 2, none⟩ c).setCell ⟨N, 3, none⟩ d) :=
 ⟨hk.os, hk.tape, hk.output, by simpa [World.setCell] using hk.size, fun k hk' => (put4_far (by omega) _ _ _ _).trans (hk.block k hk' (by omega))⟩
set_option maxRecDepth 100000 in
set_option maxHeartbeats 2000000 in
theorem glossatorref03_Parse.long (s : ByteArray) (w : World) (h : 262144 < s.size) : Calls Tryd.prog 8 #[.string s] w (ParseO s w) := by
 have hp : parsed s = (⟨0, ⟨#[]⟩, [], []⟩, 0, 3) := if_pos h
 have t1 : decide ((262144 : Int) < (s.size : Int)) = true := decide_eq_true (by omega)
 obtain ⟨N, hN⟩ : ∃ N, N = w.heap.size := ⟨_, rfl⟩
 obtain ⟨W1, hW1⟩ : ∃ W1, W1 = w.alloc (.cells #[.int .u8 0, .string ⟨#[]⟩, .slice none 0 0, .slice none 0 0] 25 (0, 0)) := ⟨_, rfl⟩
 have hz : W1.heap[N]? = some (.cells #[.int .u8 0, .string ⟨#[]⟩, .slice none 0 0, .slice none 0 0] 25 (0, 0)) := by rw [hW1, hN]; exact blk_new w _
 have HB := Aside0.mk (show Below w.heap.size w W1 by rw [hW1]; exact below_alloc (Below.refl _ _) _)
 have HP := Aside0.mk hp; have e0 := blk_cell hz 0
 have e1 := blk_cell hz 1
 have e2 := blk_cell hz 2
 have e3 := blk_cell hz 3
 have g0 := blk_frozen hz 0
 have g1 := blk_frozen hz 1
 have g2 := blk_frozen hz 2
 have g3 := blk_frozen hz 3
 have HNw := Aside0.mk hN; have HZ := Aside0.mk hz; clear h hp hz; go_enter Tryd.func8, Tryd.ntmps8
 go_upto_region 1 with (fail)
 rw [← hW1, ← hN]
 clear hW1 hN; go_wp2
 have hw := put4 HZ.out (.int .u8 0) (.string ⟨#[]⟩) (.slice none 0 0) (.slice none 0 0)
 have k0 := blk_cell hw 0
 have k1 := blk_cell hw 1
 have k2 := blk_cell hw 2
 have k3 := blk_cell hw 3
 refine bodyPost_ret (v := .tuple #[.agg #[.int .u8 0, .string ⟨#[]⟩, .slice none 0 0, .slice none 0 0], .int .i64 0, .int .i64 3]) (by simp [results, Tryd.results8, go_sem, k0, k1, k2, k3]) rfl ?_
 refine ⟨.slice none 0 0, .slice none 0 0, by rw [HP.out]; rfl, by rw [HP.out]; exact Kd.R_nil _ _ _ _ _, by rw [HP.out]; exact Kd.R_nil _ _ _ _ _, ?_⟩
 refine HB.out.trans ⟨rfl, rfl, rfl, by simp [World.setCell], fun k hk => put4_far (by have := HNw.out; omega) _ _ _ _⟩
set_option maxRecDepth 100000 in
set_option maxHeartbeats 4000000 in
theorem glossatorref03_Parse.short (s : ByteArray) (w : World) (hs : s.size ≤ 262144) : Calls Tryd.prog 8 #[.string s] w (ParseO s w) := by
 have t1 : decide ((262144 : Int) < (s.size : Int)) = false := decide_eq_false (by omega)
 obtain ⟨N, hN⟩ : ∃ N, N = w.heap.size := ⟨_, rfl⟩
 obtain ⟨W1, hW1⟩ : ∃ W1, W1 = w.alloc (.cells #[.int .u8 0, .string ⟨#[]⟩, .slice none 0 0, .slice none 0 0] 25 (0, 0)) := ⟨_, rfl⟩
 obtain ⟨W2, hW2⟩ : ∃ W2, W2 = W1.alloc (.cells #[.string s, .int .i64 0, .int .i64 0] 49 (0, 0)) := ⟨_, rfl⟩
 have hs1 : W1.heap.size = N + 1 := by rw [hW1, hN]; simp
 have HZ2 := Aside0.mk (show W2.heap[N]? = some (.cells #[.int .u8 0, .string ⟨#[]⟩, .slice none 0 0, .slice none 0 0] 25 (0, 0)) by rw [hW2, hW1, hN]; exact blk_alloc (blk_new w _) _)
 have HR2 := Aside0.mk (show RSt (N + 1) s 0 0 W2 by rw [hW2, ← hs1]; exact blk_new W1 _)
 have HK2 := Aside0.mk (show Kp (N + 1) w W2 by rw [hW2, hW1]; exact Kp.of_below (below_alloc (below_alloc (Below.refl _ _) _) _))
 have HS2 := Aside0.mk (show W2.heap.size = N + 2 by rw [hW2]; simp [hs1])
 have HNw := Aside0.mk hN; have HS1 := Aside0.mk hs1; have hsz : s.size ≤ 140737488351232 := by omega
 have HV := Aside0.mk (glossatorref03_state_value.all s hs 64 (by omega))
 obtain ⟨i0, hi0⟩ : ∃ i0, i0 = skip isBl s 0 := ⟨_, rfl⟩
 have hi0s : i0 ≤ s.size := by rw [hi0]; exact skip_in (Nat.zero_le _)
 obtain ⟨R, hRR⟩ : ∃ R, R = pval s 64 i0 := ⟨_, rfl⟩
 have HPP := Aside0.mk (show parse s = R.bind fun v j => if skip isBl s j < s.size then .bad (skip isBl s j) 30 else .ok v 0 by unfold parse; rw [hRR, hi0])
 have HRR := Aside0.mk hRR; have HI0 := Aside0.mk hi0; clear hs1 hRR hi0; go_enter Tryd.func8, Tryd.ntmps8
 go_upto_region 1 with (fail)
 rw [← hW1, ← hN]
 clear hN hW1; go_upto_region 4 with (fail)
 rw [← hW2, HS1.out]
 clear hW2; go_upto_region 5 with (go_at_call 16; refine (glossatorref03_state_blanks.calls (N + 1) s 0 _ (by exact HR2.out) hsz (Nat.zero_le _)).mono ?_; rintro e W3 ⟨rfl, hr, hk⟩; rw [← HI0.out] at hr; have HR3 := Aside0.mk hr; have HK3 := Aside0.mk (HK2.out.trans hk); have HZ3 := Aside0.mk ((hk.block N (by have := HS2.out; omega) (by omega)).trans HZ2.out); have HS3 := Aside0.mk (show N + 2 ≤ W3.heap.size by have := HS2.out; have := hk.size; omega); clear hr hk)
 clear HR2 HK2 HZ2; go_upto_region 6 with (go_at_call 17; refine (HV.out (N + 1) i0 0 _ (by exact HR3.out) hi0s).mono ?_; rintro e we ⟨x, v, ke, ee, rfl, ⟨v2, v3, rfl, hr2, hr3⟩, hrd, hk, hf⟩; obtain ⟨A4, c4, rfl⟩ := Kd.R_slice hr2; obtain ⟨A5, c5, rfl⟩ := Kd.R_slice hr3; have HRe := Aside0.mk hrd; have HKe := Aside0.mk (HK3.out.trans hk); have HZe := Aside0.mk ((hk.block N (by have := HS3.out; omega) (by omega)).trans HZ3.out); have HSe := Aside0.mk (show N + 2 ≤ we.heap.size by have := HS3.out; have := hk.size; omega); have HFe := Aside0.mk (show (ee = 0 ∧ ke ≤ s.size ∧ R = .ok v ke) ∨ (ee ≠ 0 ∧ R = .bad ke ee) by rw [HRR.out]; rcases hf with ⟨_, a, b, c⟩ | ⟨_, a, b⟩ | ⟨a, _⟩; exact .inl ⟨a, b, c⟩; exact .inr ⟨a, b⟩; exact absurd rfl a); have HV2 := Aside0.mk (Kd.R_lower (base' := N + 2) hr2 HS3.out); have HV3 := Aside0.mk (Kd.R_lower (base' := N + 2) hr3 HS3.out); clear hrd hk hf hr2 hr3)
 obtain ⟨M, hM⟩ : ∃ M, M = we.heap.size := ⟨_, rfl⟩
 obtain ⟨W5, hW5⟩ : ∃ W5, W5 = we.alloc (.cells #[.int .u8 v.f0, .string v.f1, .slice A4 v.f2.length c4, .slice A5 v.f3.length c5] 25 (0, 0)) := ⟨_, rfl⟩
 have hMN : N + 2 ≤ M := by rw [hM]; exact HSe.out
 have HX5 := Aside0.mk (show W5.heap[M]? = some (.cells #[.int .u8 v.f0, .string v.f1, .slice A4 v.f2.length c4, .slice A5 v.f3.length c5] 25 (0, 0)) by rw [hW5, hM]; exact blk_new we _)
 have HZ5 := Aside0.mk (show W5.heap[N]? = some (.cells #[.int .u8 0, .string ⟨#[]⟩, .slice none 0 0, .slice none 0 0] 25 (0, 0)) by rw [hW5]; exact blk_alloc HZe.out _)
 have HR5 := Aside0.mk (show RSt (N + 1) s ke ee W5 by rw [hW5]; exact HRe.out.alloc _)
 have HK5 := Aside0.mk (show Kp (N + 1) w W5 by rw [hW5]; exact HKe.out.alloc _)
 have HV25 := Aside0.mk (show Kd.R k25 25 W5 (N + 2) (fun _ => True) (.slice A4 v.f2.length c4) v.f2 by rw [hW5]; exact Kd.R_alloc HV2.out _)
 have HV35 := Aside0.mk (show Kd.R k38 38 W5 (N + 2) (fun _ => True) (.slice A5 v.f3.length c5) v.f3 by rw [hW5]; exact Kd.R_alloc HV3.out _)
 rw [← hW5, ← hM]
 clear hW5 hM HRe HKe HZe HV2 HV3 HR3 HK3 HZ3; rcases HFe.out with ⟨rfl, hks, hv⟩ | ⟨he, hv⟩
 ·have HPP2 := Aside0.mk (show parse s = if skip isBl s ke < s.size then .bad (skip isBl s ke) 30 else .ok v 0 by rw [HPP.out, hv]; rfl)
  clear hv HFe; obtain ⟨p, hp⟩ : ∃ p, p = skip isBl s ke := ⟨_, rfl⟩
  have HPk := Aside0.mk hp; rw [← hp] at HPP2
  clear hp; by_cases hps : p < s.size
  ·have HPB := Aside0.mk (parsed_of_bad hs (show parse s = .bad p 30 by rw [HPP2.out, if_pos hps]))
   have t2 : decide ((p : Int) < (s.size : Int)) = true := decide_eq_true (by omega)
   have t3 : decide (p < s.size) = true := decide_eq_true hps
   as_aux_lemma =>
    go_upto_region 7 with (go_at_call 16; refine (glossatorref03_state_blanks.calls (N + 1) s ke _ (by exact HR5.out) hsz hks).mono ?_; rintro e w7 ⟨rfl, hr, hk⟩; rw [← HPk.out] at hr; have HR7 := Aside0.mk hr; have HK7 := Aside0.mk (HK5.out.trans hk); have HZ7 := Aside0.mk ((hk.block N (blk_lt HZ5.out) (by omega)).trans HZ5.out); have HX7 := Aside0.mk ((hk.block M (blk_lt HX5.out) (by omega)).trans HX5.out); have HV27 := Aside0.mk (rk HV25.out (fun q hq hlt => hk.block q hlt (by omega))); have HV37 := Aside0.mk (rk HV35.out (fun q hq hlt => hk.block q hlt (by omega))); clear hr hk)
    have c0 := HR7.out.c0
    have c1 := HR7.out.c1
    have c2 := HR7.out.c2
    have f2 := HR7.out.fr2
    have ez0 := blk_cell HZ7.out 0
    have ez1 := blk_cell HZ7.out 1
    have ez2 := blk_cell HZ7.out 2
    have ez3 := blk_cell HZ7.out 3
    have gz0 := blk_frozen HZ7.out 0
    have gz1 := blk_frozen HZ7.out 1
    have gz2 := blk_frozen HZ7.out 2
    have gz3 := blk_frozen HZ7.out 3
    have n1 : N ≠ N + 1 := by omega
    have n2 : N + 1 ≠ N := by omega
    go_upto_region 9 with (fail)
    obtain ⟨W8, hW8⟩ : ∃ W8, W8 = w7.setCell ⟨N + 1, 2, none⟩ (.int .i64 30) := ⟨_, rfl⟩
    have HWR := Aside0.mk (show RSt (N + 1) s p 30 W8 by rw [hW8]; exact HR7.out.setE 30)
    have HWK := Aside0.mk (show Kp (N + 1) w W8 by rw [hW8]; exact HK7.out.set 2 _)
    have HWZ := Aside0.mk (show W8.heap[N]? = some (.cells #[.int .u8 0, .string ⟨#[]⟩, .slice none 0 0, .slice none 0 0] 25 (0, 0)) by rw [hW8]; exact (Below.heap_setCell _ _ _ _ (show N ≠ N + 1 by omega)).trans HZ7.out)
    rw [← hW8]
    clear hW8 c0 c1 c2 f2 ez0 ez1 ez2 ez3 gz0 gz1 gz2 gz3; have c1 := HWR.out.c1
    have c2 := HWR.out.c2
    have ez0 := blk_cell HWZ.out 0
    have ez1 := blk_cell HWZ.out 1
    have ez2 := blk_cell HWZ.out 2
    have ez3 := blk_cell HWZ.out 3
    have gz0 := blk_frozen HWZ.out 0
    have gz1 := blk_frozen HWZ.out 1
    have gz2 := blk_frozen HWZ.out 2
    have gz3 := blk_frozen HWZ.out 3
    go_upto_region 10 with (fail)
    go_region
    go_wp2
    have hw := put4 HWZ.out (.int .u8 0) (.string ⟨#[]⟩) (.slice none 0 0) (.slice none 0 0)
    have k0 := blk_cell hw 0
    have k1 := blk_cell hw 1
    have k2 := blk_cell hw 2
    have k3 := blk_cell hw 3
    refine bodyPost_ret (v := .tuple #[.agg #[.int .u8 0, .string ⟨#[]⟩, .slice none 0 0, .slice none 0 0], .int .i64 p, .int .i64 30]) (by simp [results, Tryd.results8, go_sem, k0, k1, k2, k3]) rfl ?_
    exact ⟨.slice none 0 0, .slice none 0 0, by rw [HPB.out], by rw [HPB.out]; exact Kd.R_nil _ _ _ _ _, by rw [HPB.out]; exact Kd.R_nil _ _ _ _ _, (below_put4 HWK.out HNw.out _ _ _ _).drew⟩
  ·have HPB := Aside0.mk (parsed_of_ok hs (show parse s = .ok v 0 by rw [HPP2.out, if_neg hps]))
   have t2 : decide ((p : Int) < (s.size : Int)) = false := decide_eq_false (by omega)
   have t3 : decide (p < s.size) = false := decide_eq_false hps
   as_aux_lemma =>
    go_upto_region 7 with (go_at_call 16; refine (glossatorref03_state_blanks.calls (N + 1) s ke _ (by exact HR5.out) hsz hks).mono ?_; rintro e w7 ⟨rfl, hr, hk⟩; rw [← HPk.out] at hr; have HR7 := Aside0.mk hr; have HK7 := Aside0.mk (HK5.out.trans hk); have HZ7 := Aside0.mk ((hk.block N (blk_lt HZ5.out) (by omega)).trans HZ5.out); have HX7 := Aside0.mk ((hk.block M (blk_lt HX5.out) (by omega)).trans HX5.out); have HV27 := Aside0.mk (rk HV25.out (fun q hq hlt => hk.block q hlt (by omega))); have HV37 := Aside0.mk (rk HV35.out (fun q hq hlt => hk.block q hlt (by omega))); clear hr hk)
    have c0 := HR7.out.c0
    have c1 := HR7.out.c1
    have c2 := HR7.out.c2
    have ez0 := blk_cell HZ7.out 0
    have ez1 := blk_cell HZ7.out 1
    have ez2 := blk_cell HZ7.out 2
    have ez3 := blk_cell HZ7.out 3
    have gz0 := blk_frozen HZ7.out 0
    have gz1 := blk_frozen HZ7.out 1
    have gz2 := blk_frozen HZ7.out 2
    have gz3 := blk_frozen HZ7.out 3
    have m0 := blk_cell HX7.out 0
    have m1 := blk_cell HX7.out 1
    have m2 := blk_cell HX7.out 2
    have m3 := blk_cell HX7.out 3
    have n1 : N ≠ M := by omega
    have n2 : M ≠ N := by omega
    go_wp2
    have hw := put4 HZ7.out (.int .u8 v.f0) (.string v.f1) (.slice A4 v.f2.length c4) (.slice A5 v.f3.length c5)
    have k0 := blk_cell hw 0
    have k1 := blk_cell hw 1
    have k2 := blk_cell hw 2
    have k3 := blk_cell hw 3
    refine bodyPost_ret (v := .tuple #[.agg #[.int .u8 v.f0, .string v.f1, .slice A4 v.f2.length c4, .slice A5 v.f3.length c5], .int .i64 0, .int .i64 0]) (by simp [results, Tryd.results8, go_sem, k0, k1, k2, k3]) rfl ?_
    exact ⟨.slice A4 v.f2.length c4, .slice A5 v.f3.length c5, by rw [HPB.out]; rfl, by rw [HPB.out, ← HNw.out]; exact Kd.R_lower (rk HV27.out (fun q hq hlt => put4_far (by omega) _ _ _ _)) (by omega), by rw [HPB.out, ← HNw.out]; exact Kd.R_lower (rk HV37.out (fun q hq hlt => put4_far (by omega) _ _ _ _)) (by omega), below_put4 HK7.out HNw.out _ _ _ _⟩
 ·have HPB := Aside0.mk (parsed_of_bad hs (show parse s = .bad ke ee by rw [HPP.out, hv]; rfl))
  have te : (ee == 0) = false := by simpa using he
  have te2 : (ee != 0) = true := by simpa using he
  have HE := Aside0.mk he; clear hv HFe he; as_aux_lemma =>
   go_upto_region 7 with (go_at_call 16; refine (glossatorref03_state_blanks.off (N + 1) s ke ee HE.out _ (by exact HR5.out) hsz).mono ?_; rintro e w7 ⟨rfl, n7, hw7⟩; have HR7 := Aside0.mk (show RSt (N + 1) s ke ee w7 by rw [hw7]; exact HR5.out); have HK7 := Aside0.mk (show Kp (N + 1) w w7 by rw [hw7]; exact HK5.out.drewN n7); have HZ7 := Aside0.mk (show w7.heap[N]? = some (.cells #[.int .u8 0, .string ⟨#[]⟩, .slice none 0 0, .slice none 0 0] 25 (0, 0)) by rw [hw7]; exact HZ5.out); clear hw7)
   have c0 := HR7.out.c0
   have c1 := HR7.out.c1
   have c2 := HR7.out.c2
   have f2 := HR7.out.fr2
   have ez0 := blk_cell HZ7.out 0
   have ez1 := blk_cell HZ7.out 1
   have ez2 := blk_cell HZ7.out 2
   have ez3 := blk_cell HZ7.out 3
   have gz0 := blk_frozen HZ7.out 0
   have gz1 := blk_frozen HZ7.out 1
   have gz2 := blk_frozen HZ7.out 2
   have gz3 := blk_frozen HZ7.out 3
   have n1 : N ≠ N + 1 := by omega
   have n2 : N + 1 ≠ N := by omega
   have HWK := HK7
   have HWZ := Aside0.mk (show w7.heap[N]? = some (.cells #[.int .u8 0, .string ⟨#[]⟩, .slice none 0 0, .slice none 0 0] 25 (0, 0)) from HZ7.out)
   go_upto_region 10 with (fail)
   go_region
   go_wp2
   have hw := put4 HWZ.out (.int .u8 0) (.string ⟨#[]⟩) (.slice none 0 0) (.slice none 0 0)
   have k0 := blk_cell hw 0
   have k1 := blk_cell hw 1
   have k2 := blk_cell hw 2
   have k3 := blk_cell hw 3
   refine bodyPost_ret (v := .tuple #[.agg #[.int .u8 0, .string ⟨#[]⟩, .slice none 0 0, .slice none 0 0], .int .i64 ke, .int .i64 ee]) (by simp [results, Tryd.results8, go_sem, k0, k1, k2, k3]) rfl ?_
   exact ⟨.slice none 0 0, .slice none 0 0, by rw [HPB.out], by rw [HPB.out]; exact Kd.R_nil _ _ _ _ _, by rw [HPB.out]; exact Kd.R_nil _ _ _ _ _, (below_put4 HWK.out HNw.out _ _ _ _).drew⟩
theorem glossatorref03_Parse.calls (s : ByteArray) (w : World) : Calls Tryd.prog 8 #[.string s] w (ParseO s w) := by
 by_cases h : s.size ≤ 262144
 ·exact glossatorref03_Parse.short s w h
 ·exact glossatorref03_Parse.long s w (by omega)
def glossatorlaw03_JsonReads.f (k : Nat) (a0 : ByteArray) : Option Bool := some true
theorem glossatorlaw03_JsonReads.mono : ∀ a0 k, LeO (glossatorlaw03_JsonReads.f k a0) (glossatorlaw03_JsonReads.f (k + 1) a0) := fun a0 k => LeO.refl _
theorem rparse_at (s : ByteArray) (v : JV) (a : Nat) (c : Int) (hp : parsed s = (v, a, c)) (w : World) : Calls Tryd.prog 8 #[.string s] w fun e w' => ∃ A2 c2 A3 c3, e = .returned (.tuple #[.agg #[.int .u8 v.f0, .string v.f1, .slice A2 v.f2.length c2, .slice A3 v.f3.length c3], .int .i64 a, .int .i64 c]) ∧ Kd.R k25 25 w' w.heap.size (fun _ => True) (.slice A2 v.f2.length c2) v.f2 ∧ Kd.R k38 38 w' w.heap.size (fun _ => True) (.slice A3 v.f3.length c3) v.f3 ∧ Below w.heap.size w w' := by
 have h := glossatorref03_Parse.calls s w
 unfold ParseO at h
 rw [hp] at h
 refine h.mono ?_
 rintro e w' ⟨v2, v3, rfl, h2, h3, hb⟩
 obtain ⟨A2, c2, rfl⟩ := Kd.R_slice h2
 obtain ⟨A3, c3, rfl⟩ := Kd.R_slice h3
 exact ⟨A2, c2, A3, c3, rfl, h2, h3, hb⟩
theorem parsed_fit (s : ByteArray) : Fit 262144 (parsed s).1 := by
 by_cases h : 262144 < s.size
 ·rw [show parsed s = (⟨0, ⟨#[]⟩, [], []⟩, 0, 3) from if_pos h]; exact Fit.flat _ _
 ·have hf : ∀ N v, N ≤ 262144 → Fit N v → Fit 262144 v := by
   intro N v hN hv
   induction hv with
   | mk v h1 h2 h3 h4 ih1 ih2 => exact .mk v (by omega) (by omega) ih1 ih2
  rcases parse_sn s with ⟨v, hv⟩ | ⟨q, c, hv, _, _⟩
  ·have hp : parsed s = (v, 0, 0) := by unfold parsed; rw [if_neg h, hv]
   obtain ⟨j, hj, _⟩ := parse_ok hv
   rw [hp]
   exact hf _ _ (by omega) (pval_fit 64 _ _ _ hj)
  ·have hp : parsed s = (⟨0, ⟨#[]⟩, [], []⟩, q, c) := by unfold parsed; rw [if_neg h, hv]
   rw [hp]; exact Fit.flat _ _
set_option maxRecDepth 100000 in
set_option maxHeartbeats 2000000 in
theorem glossatorlaw03_JsonReads.calls (k : Nat) (a0 : ByteArray) (r : Bool) (w : World) (hG : GlobOk w) (h : glossatorlaw03_JsonReads.f k a0 = some r) : Calls Tryd.prog 3 #[.string a0] w fun e w' => e = .returned (.bool r) ∧ Below w.heap.size w w' := by
 obtain rfl := Option.some.inj h
 have HG := Aside0.mk hG; clear hG h; by_cases hs : 20000 < a0.size ∧ a0.size ≤ 262144
 ·have t1 : decide ((20000 : Int) < (a0.size : Int)) = true := decide_eq_true (by omega)
  have t2 : decide ((a0.size : Int) ≤ 262144) = true := decide_eq_true (by omega)
  clear hs; go_enter Tryd.func3, Tryd.ntmps3
  go_wp2
  go_ret
  exact ⟨rfl, Below.refl _ _⟩
 obtain ⟨v, hv⟩ : ∃ v, v = (parsed a0).1 := ⟨_, rfl⟩
 obtain ⟨at_, hat⟩ : ∃ at_, at_ = (parsed a0).2.1 := ⟨_, rfl⟩
 obtain ⟨er, her⟩ : ∃ er, er = (parsed a0).2.2 := ⟨_, rfl⟩
 have PE := Aside0.mk (show parsed a0 = (v, at_, er) by rw [hv, hat, her])
 have hfit := parsed_fit a0
 rw [← hv] at hfit
 obtain ⟨ks, hks⟩ := same_refl (by decide) hfit
 have HSame := Aside0.mk (hks ks (Nat.le_refl _))
 clear hv hat her hfit hks; by_cases h1 : 20000 < a0.size
 ·have t1 : decide ((20000 : Int) < (a0.size : Int)) = true := decide_eq_true (by omega)
  have t2 : decide ((a0.size : Int) ≤ 262144) = false := decide_eq_false (by omega)
  clear hs h1; go_enter Tryd.func3, Tryd.ntmps3
  go_upto_region 4 with (first | (go_at_call 7; refine (parse_at a0 _ _ _ PE.out _ HG.out).mono ?_; rintro e w1 ⟨A1, c1, B1, d1, rfl, hr2, hr3, hb⟩; have HB1 := Aside0.mk (below_alloc (below_step (Below.refl _ _) hb) (.cells #[.int .u8 v.f0, .string v.f1, .slice A1 v.f2.length c1, .slice B1 v.f3.length d1] 25 (0, 0))); have HM1 := Aside0.mk (blk_new w1 (.cells #[.int .u8 v.f0, .string v.f1, .slice A1 v.f2.length c1, .slice B1 v.f3.length d1] 25 (0, 0))); have HV1 := Aside0.mk (Kd.R_V (base' := 0) (Kd.R_alloc hr2 (.cells #[.int .u8 v.f0, .string v.f1, .slice A1 v.f2.length c1, .slice B1 v.f3.length d1] 25 (0, 0)))); have HW1 := Aside0.mk (Kd.R_V (base' := 0) (Kd.R_alloc hr3 (.cells #[.int .u8 v.f0, .string v.f1, .slice A1 v.f2.length c1, .slice B1 v.f3.length d1] 25 (0, 0)))); clear hr2 hr3 hb))
  go_upto_region 5 with (first | (go_at_call 8; refine (rparse_at a0 _ _ _ PE.out _).mono ?_; rintro e w2 ⟨A2, c2, B2, d2, rfl, hr2, hr3, hb⟩; have HB2 := Aside0.mk (below_alloc (below_step HB1.out hb) (.cells #[.int .u8 v.f0, .string v.f1, .slice A2 v.f2.length c2, .slice B2 v.f3.length d2] 25 (0, 0))); have HM2 := Aside0.mk (blk_new w2 (.cells #[.int .u8 v.f0, .string v.f1, .slice A2 v.f2.length c2, .slice B2 v.f3.length d2] 25 (0, 0))); have HV2 := Aside0.mk (Kd.R_V (base' := 0) (Kd.R_alloc hr2 (.cells #[.int .u8 v.f0, .string v.f1, .slice A2 v.f2.length c2, .slice B2 v.f3.length d2] 25 (0, 0)))); have HW2 := Aside0.mk (Kd.R_V (base' := 0) (Kd.R_alloc hr3 (.cells #[.int .u8 v.f0, .string v.f1, .slice A2 v.f2.length c2, .slice B2 v.f3.length d2] 25 (0, 0)))); have HM1b := Aside0.mk (blk_alloc (blk_below HM1.out hb) (.cells #[.int .u8 v.f0, .string v.f1, .slice A2 v.f2.length c2, .slice B2 v.f3.length d2] 25 (0, 0))); have HV1b := Aside0.mk (Kd.V_alloc (Kd.V_below HV1.out hb) (.cells #[.int .u8 v.f0, .string v.f1, .slice A2 v.f2.length c2, .slice B2 v.f3.length d2] 25 (0, 0))); have HW1b := Aside0.mk (Kd.V_alloc (Kd.V_below HW1.out hb) (.cells #[.int .u8 v.f0, .string v.f1, .slice A2 v.f2.length c2, .slice B2 v.f3.length d2] 25 (0, 0))); clear hr2 hr3 hb))
  clear PE; have r12 := Kd.V_reads' HV1b.out
  have r13 := Kd.V_reads' HW1b.out
  have r22 := Kd.V_reads' HV2.out
  have r23 := Kd.V_reads' HW2.out
  have HSC := Aside0.mk (glossatorref03_Same.calls ks v.f0 v.f1 A1 c1 v.f2 B1 d1 v.f3 v.f0 v.f1 A2 c2 v.f2 B2 d2 v.f3 true _ r12.2.2 r12.2.1 r13.2.2 r13.2.1 r22.2.2 r22.2.1 r23.2.2 r23.2.1 HSame.out)
  clear r12 r13 r22 r23; have m10 := blk_cell HM1b.out 0
  have m11 := blk_cell HM1b.out 1
  have m12 := blk_cell HM1b.out 2
  have m13 := blk_cell HM1b.out 3
  have m20 := blk_cell HM2.out 0
  have m21 := blk_cell HM2.out 1
  have m22 := blk_cell HM2.out 2
  have m23 := blk_cell HM2.out 3
  go_wp2_with (first | (go_at_call 9; refine HSC.out.mono ?_; rintro e w8 ⟨rfl, hb⟩; have HB8 := Aside0.mk (below_step HB2.out hb); clear hb))
  go_ret
  exact ⟨rfl, HB8.out⟩
 ·have t1 : decide ((20000 : Int) < (a0.size : Int)) = false := decide_eq_false (by omega)
  clear hs h1; go_enter Tryd.func3, Tryd.ntmps3
  go_upto_region 4 with (first | (go_at_call 7; refine (parse_at a0 _ _ _ PE.out _ HG.out).mono ?_; rintro e w1 ⟨A1, c1, B1, d1, rfl, hr2, hr3, hb⟩; have HB1 := Aside0.mk (below_alloc (below_step (Below.refl _ _) hb) (.cells #[.int .u8 v.f0, .string v.f1, .slice A1 v.f2.length c1, .slice B1 v.f3.length d1] 25 (0, 0))); have HM1 := Aside0.mk (blk_new w1 (.cells #[.int .u8 v.f0, .string v.f1, .slice A1 v.f2.length c1, .slice B1 v.f3.length d1] 25 (0, 0))); have HV1 := Aside0.mk (Kd.R_V (base' := 0) (Kd.R_alloc hr2 (.cells #[.int .u8 v.f0, .string v.f1, .slice A1 v.f2.length c1, .slice B1 v.f3.length d1] 25 (0, 0)))); have HW1 := Aside0.mk (Kd.R_V (base' := 0) (Kd.R_alloc hr3 (.cells #[.int .u8 v.f0, .string v.f1, .slice A1 v.f2.length c1, .slice B1 v.f3.length d1] 25 (0, 0)))); clear hr2 hr3 hb))
  go_upto_region 5 with (first | (go_at_call 8; refine (rparse_at a0 _ _ _ PE.out _).mono ?_; rintro e w2 ⟨A2, c2, B2, d2, rfl, hr2, hr3, hb⟩; have HB2 := Aside0.mk (below_alloc (below_step HB1.out hb) (.cells #[.int .u8 v.f0, .string v.f1, .slice A2 v.f2.length c2, .slice B2 v.f3.length d2] 25 (0, 0))); have HM2 := Aside0.mk (blk_new w2 (.cells #[.int .u8 v.f0, .string v.f1, .slice A2 v.f2.length c2, .slice B2 v.f3.length d2] 25 (0, 0))); have HV2 := Aside0.mk (Kd.R_V (base' := 0) (Kd.R_alloc hr2 (.cells #[.int .u8 v.f0, .string v.f1, .slice A2 v.f2.length c2, .slice B2 v.f3.length d2] 25 (0, 0)))); have HW2 := Aside0.mk (Kd.R_V (base' := 0) (Kd.R_alloc hr3 (.cells #[.int .u8 v.f0, .string v.f1, .slice A2 v.f2.length c2, .slice B2 v.f3.length d2] 25 (0, 0)))); have HM1b := Aside0.mk (blk_alloc (blk_below HM1.out hb) (.cells #[.int .u8 v.f0, .string v.f1, .slice A2 v.f2.length c2, .slice B2 v.f3.length d2] 25 (0, 0))); have HV1b := Aside0.mk (Kd.V_alloc (Kd.V_below HV1.out hb) (.cells #[.int .u8 v.f0, .string v.f1, .slice A2 v.f2.length c2, .slice B2 v.f3.length d2] 25 (0, 0))); have HW1b := Aside0.mk (Kd.V_alloc (Kd.V_below HW1.out hb) (.cells #[.int .u8 v.f0, .string v.f1, .slice A2 v.f2.length c2, .slice B2 v.f3.length d2] 25 (0, 0))); clear hr2 hr3 hb))
  clear PE; have r12 := Kd.V_reads' HV1b.out
  have r13 := Kd.V_reads' HW1b.out
  have r22 := Kd.V_reads' HV2.out
  have r23 := Kd.V_reads' HW2.out
  have HSC := Aside0.mk (glossatorref03_Same.calls ks v.f0 v.f1 A1 c1 v.f2 B1 d1 v.f3 v.f0 v.f1 A2 c2 v.f2 B2 d2 v.f3 true _ r12.2.2 r12.2.1 r13.2.2 r13.2.1 r22.2.2 r22.2.1 r23.2.2 r23.2.1 HSame.out)
  clear r12 r13 r22 r23; have m10 := blk_cell HM1b.out 0
  have m11 := blk_cell HM1b.out 1
  have m12 := blk_cell HM1b.out 2
  have m13 := blk_cell HM1b.out 3
  have m20 := blk_cell HM2.out 0
  have m21 := blk_cell HM2.out 1
  have m22 := blk_cell HM2.out 2
  have m23 := blk_cell HM2.out 3
  go_wp2_with (first | (go_at_call 9; refine HSC.out.mono ?_; rintro e w8 ⟨rfl, hb⟩; have HB8 := Aside0.mk (below_step HB2.out hb); clear hb))
  go_ret
  exact ⟨rfl, HB8.out⟩
/-- THE ONE PURE STATEMENT of glossatorlaw03_JsonReads. -/
def glossatorlaw03_JsonReads.Pure : Prop := ∀ (p0 : ByteArray), p0.size ≤ 140737488351232 → ∃ k, glossatorlaw03_JsonReads.f k p0 = some true
end Go.Proofs.YtienoadaflmkdaaDoor.Q

end
section
namespace Go.Proofs.YtienoadaflmkdaaDoor.Pure
open Go Go.RowKit Go.Proofs.YtienoadaflmkdaaDoor.Q
set_option linter.unusedVariables false
set_option linter.unusedSimpArgs false
theorem JsonReads : glossatorlaw03_JsonReads.Pure := fun _ _ => ⟨0, rfl⟩
end Go.Proofs.YtienoadaflmkdaaDoor.Pure

end
