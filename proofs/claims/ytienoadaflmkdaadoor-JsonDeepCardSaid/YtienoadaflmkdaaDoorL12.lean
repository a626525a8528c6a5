/- Words and walks of this claim, put together by this repo's wip/xlink.py out of Q15. -/
import Derived.Test.YtienoadaflmkdaaDoorL5
import Derived.Test.YtienoadaflmkdaaDoorL6
import Derived.Test.YtienoadaflmkdaaDoorL11
namespace Go.Proofs.YtienoadaflmkdaaDoor.Q
open Go.RowKit Go.Proofs.YtienoadaflmkdaaDoorW.PrintWords Go.Proofs.YtienoadaflmkdaaDoorW.PrintLast Go.Proofs.YtienoadaflmkdaaDoorW.PrintMore
attribute [local go_sem] max2_int min2_int max_two min_two max_three min_three max_four min_four   
set_option linter.unusedVariables false
set_option linter.unusedSimpArgs false
/-- What the reference's reading of a value comes to. -/
def RV (B : Nat) (s : ByteArray) (w : World) (r : Res JV) (e : Ending) (w' : World) : Prop := ∃ (x : Value) (v : JV) (k : Nat) (er : Int), e = .returned x ∧ VV w.heap.size v x w' ∧ RSt B s k er w' ∧ Kp B w w' ∧ ((er = 0 ∧ k ≤ s.size ∧ r = .ok v k) ∨ (er ≠ 0 ∧ r = .bad k er))
def RValOk (s : ByteArray) (pv : Nat → Res JV) (deep : Int) : Prop := ∀ (B i : Nat) (w : World), RSt B s i 0 w → i ≤ s.size → Calls Tryd.prog 17 #[.pointer (some ⟨B, 0, none⟩), .int .i64 deep] w (RV B s w (pv i))
theorem vv_at {N M : Nat} {v : JV} {x : Value} {w : World} (h : VV N v x w) (e : N = M) : VV M v x w := by subst e; exact h
theorem RSt.far {B N : Nat} {s : ByteArray} {i : Nat} {e : Int} {w : World} (h : RSt B s i e w) {q : Nat} {u : Value} (hB : B ≠ N) : RSt B s i e (w.setCell ⟨N, q, none⟩ u) := (Below.heap_setCell _ _ _ _ hB).trans h
theorem list_end {w W : World} {B N i : Nat} {s : ByteArray} {e : Int} {v2 : Value} {acc : List JV} (hBN : B < N) (hN : w.heap.size ≤ N) (h1 : W.heap[N]? = some (.cells #[.int .u8 0, .string ⟨#[]⟩, .slice none 0 0, .slice none 0 0] 25 (0, 0))) (hr : RSt B s i e W) (hk : Kp B w W) (hrow : Kd.R k25 25 W (N + 2) (fun _ => True) v2 acc) :
  ((((W.setCell ⟨N, 0, none⟩ (.int .u8 5)).setCell ⟨N, 1, none⟩ (.string ⟨#[]⟩)).setCell ⟨N, 2, none⟩ v2).setCell ⟨N, 3, none⟩ (.slice none 0 0)).heap[N]? = some (.cells #[.int .u8 5, .string ⟨#[]⟩, v2, .slice none 0 0] 25 (0, 0)) ∧ RSt B s i e ((((W.setCell ⟨N, 0, none⟩ (.int .u8 5)).setCell ⟨N, 1, none⟩ (.string ⟨#[]⟩)).setCell ⟨N, 2, none⟩ v2).setCell ⟨N, 3, none⟩ (.slice none 0 0)) ∧ Kp B w ((((W.setCell ⟨N, 0, none⟩ (.int .u8 5)).setCell ⟨N, 1, none⟩ (.string ⟨#[]⟩)).setCell ⟨N, 2, none⟩ v2).setCell ⟨N, 3, none⟩ (.slice none 0 0)) ∧ Kd.R k25 25 ((((W.setCell ⟨N, 0, none⟩ (.int .u8 5)).setCell ⟨N, 1, none⟩ (.string ⟨#[]⟩)).setCell ⟨N, 2, none⟩ v2).setCell ⟨N, 3, none⟩ (.slice none 0 0)) N (fun _ => True) v2 acc := by
 refine ⟨put4 h1 _ _ _ _, (put4_far (show B ≠ N by omega) _ _ _ _).trans hr, hk.put4 hN _ _ _ _, Kd.R_lower (rk hrow (fun k hk _ => put4_far (by omega) _ _ _ _)) (by omega)⟩
def glossatorref03_state_list.T8 : Bool × List (List Nat × List Nat) := (true, [([], []), ([0], [0]), ([], []), ([], []), ([3], [3]), ([2, 4], [2, 4]), ([5], [5]), ([1, 6, 5], [1, 6]), ([0, 1, 2, 3, 4, 5, 6, 7], []), ([8, 7, 7, 0, 1, 2, 3, 4, 5, 6, 7], [7, 8])])
def glossatorref03_state_list.B8 : List Nat := [0, 1, 0, 0, 8, 28, 60, 127, 255, 511]
theorem glossatorref03_state_list.tab8 : rtab .any (opsOf Tryd.f29 8) = glossatorref03_state_list.T8 := by kernel_rfl
theorem glossatorref03_state_list.bits8 : waitsOk glossatorref03_state_list.T8.2 glossatorref03_state_list.B8 = true := by kernel_rfl
set_option maxRecDepth 100000 in
set_option maxHeartbeats 4000000 in
theorem glossatorref03_state_list.calls (B : Nat) (s : ByteArray) (i : Nat) (pv : Nat → Res JV) (deep : Int) (hd : 0 ≤ deep ∧ deep ≤ 64) (w : World) (hR : RSt B s i 0 w) (hs : s.size ≤ 262144) (hi : hnd s i = 91) (hV : RValOk s pv (deep + 1)) (hp : ∀ i v j, pv i = .ok v j → i < j) :
  Calls Tryd.prog 29 #[.pointer (some ⟨B, 0, none⟩), .int .i64 deep] w (RV B s w ((lst s pv (s.size + 1) (skip isBl s (i + 1)) []).bind fun l j => .ok ⟨5, ⟨#[]⟩, l, []⟩ j)) := by
 obtain ⟨N, hN⟩ : ∃ N, N = w.heap.size := ⟨_, rfl⟩
 have hBN : B < N := by rw [hN]; exact hR.lt
 have hlt := hnd_pos hi (by omega)
 obtain ⟨W1, hW1⟩ : ∃ W1, W1 = (w.alloc (.cells #[.int .u8 0, .string ⟨#[]⟩, .slice none 0 0, .slice none 0 0] 25 (0, 0))).alloc (.cells #[.int .u8 5, .string ⟨#[]⟩, .slice none 0 0, .slice none 0 0] 25 (0, 0)) := ⟨_, rfl⟩
 have hR1 : RSt B s i 0 W1 := by rw [hW1]; exact (hR.alloc _).alloc _
 have hb1 : Below w.heap.size w W1 := by rw [hW1]; exact below_alloc (below_alloc (Below.refl _ _) _) _
 have hx1 : W1.heap[N]? = some (.cells #[.int .u8 0, .string ⟨#[]⟩, .slice none 0 0, .slice none 0 0] 25 (0, 0)) := by rw [hW1, hN]; exact blk_alloc (blk_new w _) _
 have hx2 : W1.heap[N + 1]? = some (.cells #[.int .u8 5, .string ⟨#[]⟩, .slice none 0 0, .slice none 0 0] 25 (0, 0)) := by rw [hW1, hN]; have h := blk_new (w.alloc (.cells #[.int .u8 0, .string ⟨#[]⟩, .slice none 0 0, .slice none 0 0] 25 (0, 0))) (.cells #[.int .u8 5, .string ⟨#[]⟩, .slice none 0 0, .slice none 0 0] 25 (0, 0)); simpa using h
 obtain ⟨R, hRes⟩ : ∃ R, R = lst s pv (s.size + 1) (skip isBl s (i + 1)) [] := ⟨_, rfl⟩
 obtain ⟨i1, hi1⟩ : ∃ i1, i1 = skip isBl s (i + 1) := ⟨_, rfl⟩
 have hi1s : i < i1 ∧ i1 ≤ s.size := by rw [hi1]; exact ⟨by have := skip_ge (p := isBl) s (i + 1); omega, skip_in hlt⟩
 have hsz : s.size ≤ 140737488351232 := by omega
 have hT := glossatorref03_state_take.calls B s i 91 (by decide) W1 hR1 hsz (by omega)
 rw [show wd s [91] i = .ok () (i + 1) by rw [wd_cons, if_pos hi]; rfl] at hT
 rw [← hRes]
 rw [← hi1] at hRes
 have HRes := Aside0.mk hRes; have HI1 := Aside0.mk hi1; have HT := Aside0.mk hT; have HV := Aside0.mk hV; have HP := Aside0.mk hp; have HI := Aside0.mk (fun (c : Int) (hc : c ≠ 0) (j : Nat) (er : Int) (w' : World) (h : RSt B s j er w') => glossatorref03_state_is.calls B s j er c hc w' h hsz)
 have HBL := Aside0.mk (fun (j : Nat) (w' : World) (h : RSt B s j 0 w') (hj : j ≤ s.size) => glossatorref03_state_blanks.calls B s j w' h hsz hj)
 have HTK := Aside0.mk (fun (j : Nat) (w' : World) (h : RSt B s j 0 w') (hj : j ≤ s.size) => glossatorref03_state_take.calls B s j 44 (by decide) w' h hsz hj)
 clear hV hp hT hi1 hRes hi; go_enter Tryd.func29, Tryd.ntmps29
 go_upto_region 2 with (fail)
 rw [← hW1]
 rw [← hN]
 have HNw := Aside0.mk hN; have HBn := Aside0.mk hBN; have HK1 := Aside0.mk (Kp.of_below (B := B) hb1)
 have HX1 := Aside0.mk hx1; have HX2 := Aside0.mk hx2; clear hW1 hN hR hR1 hb1 hx1 hx2; go_upto_region 3 with (go_at_call 39; refine HT.out.mono ?_; intro e W2 ho; obtain ⟨x, rfl, rfl, hm, hr, hk⟩ := ho.ok_; have HR2 := Aside0.mk hr; have HK2 := Aside0.mk (HK1.out.trans hk); have HY1 := Aside0.mk ((hk.block N (blk_lt HX1.out) (by have := HBn.out; omega)).trans HX1.out); have HY2 := Aside0.mk ((hk.block (N + 1) (blk_lt HX2.out) (by have := HBn.out; omega)).trans HX2.out); clear ho hr hk)
 clear HX1 HX2 HK1 HT; go_upto_region 4 with (go_at_call 16; refine (HBL.out (i + 1) _ (by exact HR2.out) hm).mono ?_; rintro e W3 ⟨rfl, hr, hk⟩; rw [← HI1.out] at hr; have HR3 := Aside0.mk hr; have HK3 := Aside0.mk (HK2.out.trans hk); have HZ1 := Aside0.mk ((hk.block N (blk_lt HY1.out) (by have := HBn.out; omega)).trans HY1.out); have HZ2 := Aside0.mk ((hk.block (N + 1) (blk_lt HY2.out) (by have := HBn.out; omega)).trans HY2.out); clear hr hk)
 clear HY1 HY2 HK2 HR2 hm; have c1 := HR3.out.c1
 have f1 := HR3.out.fr1
 have hRes := HRes.out
 rw [lst] at hRes
 by_cases h93 : hnd s i1 = 93
 ·rw [if_pos h93] at hRes
  have H1 := Aside0.mk hRes; have q := isB_yes (s := s) (i := i1) (c := 93) (by omega)
  have hl := hnd_pos h93 (by omega)
  have e0 := blk_cell HZ1.out 0
  have e1 := blk_cell HZ1.out 1
  have e2 := blk_cell HZ1.out 2
  have e3 := blk_cell HZ1.out 3
  have d0 := blk_cell HZ2.out 0
  have d1 := blk_cell HZ2.out 1
  have d2 := blk_cell HZ2.out 2
  have d3 := blk_cell HZ2.out 3
  have g0 := blk_frozen HZ1.out 0
  have g1 := blk_frozen HZ1.out 1
  have g2 := blk_frozen HZ1.out 2
  have g3 := blk_frozen HZ1.out 3
  have ne1 : B ≠ N := by omega
  have ne2 : N ≠ B := by omega
  have ne3 : B ≠ N + 1 := by omega
  have ne4 : N + 1 ≠ B := by omega
  clear hRes h93; go_wp2_with (go_at_call 26; refine (HI.out _ (by decide) _ _ _ (by exact HR3.out)).mono ?_; rintro e w' ⟨rfl, n1, rfl⟩)
  have hE := list_end (show B < N by omega) (show w.heap.size ≤ N by rw [HNw.out]; exact Nat.le_refl _) (blk_far (p := ⟨B, 1, none⟩) (show (W3.drewN n1).heap[N]? = _ from HZ1.out) (show N ≠ B by omega) (.int .i64 ((i1 : Int) + 1))) (RSt.set1 (i := i1) (HR3.out.drewN n1)) ((HK3.out.drewN n1).set 1 (.int .i64 ((i1 : Int) + 1))) (Kd.R_nil _ _ _ _ _)
  obtain ⟨hw, hr3, hk3, hv3⟩ := hE
  have k0 := blk_cell hw 0
  have k1 := blk_cell hw 1
  have k2 := blk_cell hw 2
  have k3 := blk_cell hw 3
  refine bodyPost_ret (v := .agg #[.int .u8 5, .string ⟨#[]⟩, _, .slice none 0 0]) (by simp [results, Tryd.results29, go_sem, k0, k1, k2, k3]; rfl) rfl ?_
  rw [H1.out]
  exact ⟨_, ⟨5, ⟨#[]⟩, [], []⟩, _, 0, rfl, vv_at ⟨_, _, rfl, hv3, Kd.R_nil _ _ _ _ _⟩ HNw.out, hr3, hk3, .inl ⟨rfl, hl, rfl⟩⟩
 rw [if_neg h93] at hRes
 have HR0 := Aside0.mk (show ((pv i1).bind fun v k => lst s pv s.size (skip isBl s k) ([] ++ [v])) = R by rw [hRes]; rfl)
 have q := isB_no (s := s) (i := i1) (c := 93) (by omega)
 clear hRes h93 HRes; go_wp2_with (go_at_call 26; refine (HI.out _ (by decide) _ _ _ (by exact HR3.out)).mono ?_; rintro e w' ⟨rfl, n1, rfl⟩)
 clear q c1 f1; go_loopg [] s.size (fun kq w' => ∃ (j : Nat) (acc : List JV) (v2 : Value) (er : Int), Aside0 ((er = 0 ∧ j ≤ s.size ∧ s.size < j + kq ∧ acc.length ≤ j ∧ ((pv j).bind fun v k => lst s pv kq (skip isBl s k) (acc ++ [v])) = R) ∨ (er ≠ 0 ∧ R = .bad j er)) ∧ Aside0 (RSt B s j er w') ∧ Aside0 (w'.heap[N]? = some (.cells #[.int .u8 0, .string ⟨#[]⟩, .slice none 0 0, .slice none 0 0] 25 (0, 0))) ∧ Aside0 (w'.heap[N + 1]? = some (.cells #[.int .u8 5, .string ⟨#[]⟩, v2, .slice none 0 0] 25 (0, 0))) ∧ Aside0 (Kd.R k25 25 w' (N + 2) (fun _ => True) v2 acc) ∧ Aside0 (Kp B w w'))
 case atStart => exact ⟨i1, [], .slice none 0 0, 0, ⟨.inl ⟨rfl, hi1s.2, by omega, by simp, HR0.out⟩⟩, ⟨HR3.out.drewN _⟩, ⟨HZ1.out⟩, ⟨HZ2.out⟩, ⟨Kd.R_nil _ _ _ _ _⟩, ⟨HK3.out.drewN _⟩⟩
 case round =>
  clear HR3 HZ1 HZ2 HK3 HR0 HI1 hi1s; obtain ⟨j, acc, v2, er, HX, HR1, HZ1, HZ2, HRow1, HK1⟩ := hrel
  obtain ⟨A2, c2, rfl⟩ := Kd.R_slice HRow1.out
  have d2 := blk_cell HZ2.out 2
  have s2 := HR1.out.c2
  have HNs := Aside0.mk (blk_lt HZ2.out)
  have b1 := hd.1
  have b2 := hd.2
  have wd1 : IntKind.i64.wrap (deep + 1) = deep + 1 := IntWalk.i64_in _ (by omega)
  rcases HX.out with ⟨rfl, hj2, hk2, hac, hX⟩ | ⟨he, hX⟩
  ·have HVC := Aside0.mk (fun n => HV.out B j (wr.drewN n) (HR1.out.drewN n) hj2)
   have HX2 := Aside0.mk hX; have HKQ := Aside0.mk hk2; have HA := Aside0.mk hac; clear hX HX hk2 hac; go_wp2
   refine start_ (n := 10) (S := fun w' => w'.cell? ⟨N + 1, 2, none⟩ = some (.slice A2 acc.length c2)) (ds := [9]) (bz 10 0) (by kernel_rfl) rfl rfl d2 (fun hHeld => ?_)
   refine with_tabW glossatorref03_state_list.tab8 glossatorref03_state_list.bits8 (fun HT_ HW_ => ?_)
   refine pu 0 (some 26) (bz 10 1) HT_ rfl rfl ?_; refine tk 1 (some 27) (bz 10 3) HT_ HW_ rfl rfl hHeld ?_; refine pu 2 (some 28) (bz 10 7) HT_ rfl rfl ?_; refine pu 3 (some 29) (bz 10 15) HT_ rfl rfl ?_; refine pu 4 (some 30) (bz 10 31) HT_ rfl rfl ?_; refine one_ (i := 5) (N := some 31) (bz 10 63) rfl rfl (one_of HT_.out (by kernel_rfl)) (by decide) (fun K hK => ?_)
   refine goes_ Tryd.func17 (by kernel_rfl) rfl #[.pointer (some ⟨B, 0, none⟩), .int .i64 (deep + 1)] rfl rfl rfl (by (try simp only [List.map_toArray, List.map_cons, List.map_nil]); rfl) ?_
   refine (HVC.out 1).mono ?_
   rintro e w1 ⟨x, v, k, er, rfl, ⟨v2, v3, rfl, hr2, hr3⟩, hrd, hk, hres⟩
   refine ⟨_, rfl, ?_⟩
   have hsz1 : wr.heap.size ≤ w1.heap.size := hk.size
   have hNs := HNs.out
   have BX1 := Aside0.mk ((hk.block N (show N < wr.heap.size by omega) (by omega)).trans HZ1.out)
   have BX2 := Aside0.mk ((hk.block (N + 1) (show N + 1 < wr.heap.size by omega) (by omega)).trans HZ2.out)
   have RW := Aside0.mk (rk (w' := w1) HRow1.out (fun k hk' hlt => hk.block k hlt (by omega)))
   have hM := k25_mkM w1 wr.heap.size (fun _ => True) v hr2 hr3
   obtain ⟨A3, c3, rfl⟩ := Kd.R_slice hr2
   obtain ⟨A4, c4, rfl⟩ := Kd.R_slice hr3
   have HM := Aside0.mk (k25.M_lower (base' := N + 2) (by omega) (k25.M_mono (ok' := fun k => wr.heap.size ≤ k) (fun k hk => hk.2.1) (k25.M_bound hM)))
   have hown : ∀ k, (Value.slice A2 acc.length c2).ownBlock = some k → N + 2 ≤ k ∧ k < wr.heap.size := fun k hk => ⟨Kd.R_base HRow1.out k hk, Kd.R_lt HRow1.out k hk⟩
   have HOwn := Aside0.mk hown; have HR4 := Aside0.mk hrd; have HK4 := Aside0.mk ((HK1.out.drewN 1).trans hk)
   have HRes4 := Aside0.mk hres; have e2 := blk_cell BX2.out 2
   clear hk hrd hown hr2 hr3 hM HR1 HZ1 HZ2 HRow1 HK1 d2 hres s2; refine hK.out _ _ e2 (fun hHeld => ?_)
   clear hK K; refine norm_ (a' := ?_) ?_ ?_
   rotate_left
   ·show Act.put _ (some 31) _ = _
    simp only [Act.put, List.setIfInBounds_toArray, List.set_cons_zero, List.set_cons_succ, i64_w, i32_w]
    rfl
   refine one_ (i := 6) (N := some 32) (bz 10 127) rfl rfl (one_of HT_.out (by kernel_rfl)) (by decide) (fun K hK => ?_)
   refine value_ (w1 := ?_) (v := ?_) (by rfl) rfl ?_ ?_
   rotate_left 2
   ·go_simp
    constructor
    ·rfl
    ·rfl
   refine hK.out _ _ ((blk_cell (blk_alloc BX2.out _) 2).trans rfl) (fun hHeld => ?_)
   clear hK K; refine norm_ (a' := ?_) ?_ ?_
   rotate_left
   ·show Act.put _ (some 32) _ = _
    simp only [Act.put, List.setIfInBounds_toArray, List.set_cons_zero, List.set_cons_succ, i64_w, i32_w]
    rfl
   refine one_ (i := 7) (N := some 33) (bz 10 255) rfl rfl (one_of HT_.out (by kernel_rfl)) (by decide) (fun K hK => ?_)
   refine Kd.R_append_step k25 (w0 := w1) (N + 2) (by rfl) (.tmp 27) (.tmp 32) 22 25 (.agg #[(.int .u8 0), (.string ⟨#[]⟩), (.slice none 0 0), (.slice none 0 0)]) 72 rfl Tryd.underlying22 jinfoV rfl (by decide) (by omega) (.slice A2 acc.length c2) acc v [.int .u8 v.f0, .string v.f1, .slice A3 v.f2.length c3, .slice A4 v.f3.length c4] (fun _ => True) (fun k => wr.heap.size ≤ k) rfl rfl HM.out ?aO (fun _ _ => trivial) RW.out (Below.refl _ _) ?aB ?aL ?_
   case aO => exact fun k hk => ⟨trivial, fun he => by have := (HOwn.out k he.symm).2; omega⟩
   case aB => omega
   case aL => have := HA.out; omega
   intro v1 w2 hrow _ hgr hat
   have hfar : ∀ q, q < w1.heap.size → q < N + 2 → w2.heap[q]? = w1.heap[q]? := fun q h1 h2 => hgr.block q h1 (fun he => by have := (HOwn.out q he.symm).1; omega)
   have hBl : B < w1.heap.size := HR4.out.lt
   have hBx := HBn.out
   have hR5 : RSt B s k er w2 := (hfar B hBl (by omega)).trans HR4.out
   have hX1 := (hfar N (by omega) (by omega)).trans BX1.out
   have hX2 := (hfar (N + 1) (by omega) (by omega)).trans BX2.out
   have hK5 : Kp B w w2 := HK4.out.thenB ⟨hgr.os, hgr.tape, hgr.output, hgr.size, fun q hq => hfar q (by omega) (by omega)⟩ (show w.heap.size ≤ N by rw [HNw.out]; exact Nat.le_refl _)
   obtain ⟨A5, c5, hv1⟩ := Kd.R_slice hrow
   obtain ⟨L, hL⟩ : ∃ L, L = (acc ++ [v]).length := ⟨_, rfl⟩
   rw [← hL] at hv1
   subst hv1; clear hL; have HRow5 := Aside0.mk hrow; have HR5 := Aside0.mk hR5; have HX15 := Aside0.mk hX1; have HX25 := Aside0.mk hX2; have HK5 := Aside0.mk hK5; clear hrow hgr hat hfar hR5 hX1 hX2 hK5 e2 hBl; refine hK.out _ _ ((blk_cell HX25.out 2).trans rfl) (fun hHeld => ?_)
   clear hK K; refine norm_ (a' := ?_) ?_ ?_
   rotate_left
   ·show Act.put _ (some 33) _ = _
    simp only [Act.put, List.setIfInBounds_toArray, List.set_cons_zero, List.set_cons_succ, i64_w, i32_w]
    rfl
   refine pu 8 (some 34) (bz 10 511) HT_ rfl rfl ?_; refine last_ (i := 9) (N := none) (bz 10 1023) rfl rfl (one_of HT_.out (by kernel_rfl)) (by decide) (fun K hK => ?_)
   have e2 := blk_cell HX25.out 2
   have g2 := blk_frozen HX25.out 2
   refine skip_ (w1 := ?_) (by rfl) rfl ?_ ?_
   rotate_left
   ·go_simp
    rfl
   refine hK.out _ _ ?_
   clear hK K e2 g2; refine done_ (done_of HT_.out (by kernel_rfl)) ?_
   obtain ⟨W6, hW6⟩ : ∃ W6, W6 = w2.setCell ⟨N + 1, 2, none⟩ (.slice A5 L c5) := ⟨_, rfl⟩
   have HR6 := Aside0.mk (show RSt B s k er W6 by rw [hW6]; exact HR5.out.far (show B ≠ N + 1 by omega))
   have HP1 := Aside0.mk (show W6.heap[N]? = some (.cells #[.int .u8 0, .string ⟨#[]⟩, .slice none 0 0, .slice none 0 0] 25 (0, 0)) by rw [hW6]; exact (Below.heap_setCell _ _ _ _ (show N ≠ N + 1 by omega)).trans HX15.out)
   have HP2 := Aside0.mk (show W6.heap[N + 1]? = some (.cells #[.int .u8 5, .string ⟨#[]⟩, .slice A5 L c5, .slice none 0 0] 25 (0, 0)) by rw [hW6]; exact blk_put HX25.out 2 _ rfl)
   have HRow6 := Aside0.mk (show Kd.R k25 25 W6 (N + 2) (fun _ => True) (.slice A5 L c5) (acc ++ [v]) by rw [hW6]; exact rk HRow5.out (fun q hq hlt => Below.heap_setCell _ _ _ _ (show q ≠ N + 1 by omega)))
   have HK6 := Aside0.mk (show Kp B w W6 by rw [hW6]; exact HK5.out.setN (p := ⟨N + 1, 2, none⟩) (by rw [← HNw.out]; exact Nat.le_succ N) _)
   rw [← hW6]
   clear hW6 HRow5 HR5 HX15 HX25 HK5 HK4 HR4 BX1 BX2 RW HM HOwn; have hNs6 := blk_lt HP2.out
   have hkq := HKQ.out
   have hac := HA.out
   rcases HRes4.out with ⟨rfl, hks, hv⟩ | ⟨he, hv⟩
   ·have hjk := HP.out _ _ _ hv
    have HX3 := Aside0.mk (show lst s pv gk (skip isBl s k) (acc ++ [v]) = R by rw [← HX2.out, hv]; rfl)
    clear hv HRes4 HX2; obtain ⟨p, hp⟩ : ∃ p, p = skip isBl s k := ⟨_, rfl⟩
    have hps : k ≤ p ∧ p ≤ s.size := by rw [hp]; exact ⟨skip_ge s k, skip_in hks⟩
    have HPP := Aside0.mk hp; clear hp; go_upto_region 10 with (go_at_call 16; refine (HBL.out k _ (by exact HR6.out) hks).mono ?_; rintro e w7 ⟨rfl, hr, hk⟩; rw [← HPP.out] at hr; have HR7 := Aside0.mk hr; have HQ1 := Aside0.mk ((hk.block N (blk_lt HP1.out) (by omega)).trans HP1.out); have HQ2 := Aside0.mk ((hk.block (N + 1) (blk_lt HP2.out) (by omega)).trans HP2.out); have HRow7 := Aside0.mk (rk HRow6.out (fun q hq hlt => hk.block q hlt (by omega))); have HK7 := Aside0.mk (HK6.out.trans hk); clear hr hk)
    clear HR6 HP1 HP2 HRow6 HK6; have hNs7 := blk_lt HQ2.out
    have c1 := HR7.out.c1
    have f1 := HR7.out.fr1
    obtain ⟨f, rfl⟩ : ∃ f, gk = f + 1 := ⟨gk - 1, by omega⟩
    have hX3 := HX3.out
    rw [← HPP.out, lst] at hX3
    by_cases h93 : hnd s p = 93
    ·rw [if_pos h93] at hX3
     have H1 := Aside0.mk hX3; have q := isB_yes (s := s) (i := p) (c := 93) (by omega)
     have hl := hnd_pos h93 (by omega)
     have e0 := blk_cell HQ1.out 0
     have e1 := blk_cell HQ1.out 1
     have e2 := blk_cell HQ1.out 2
     have e3 := blk_cell HQ1.out 3
     have d0 := blk_cell HQ2.out 0
     have d1 := blk_cell HQ2.out 1
     have d2 := blk_cell HQ2.out 2
     have d3 := blk_cell HQ2.out 3
     have g0 := blk_frozen HQ1.out 0
     have g1 := blk_frozen HQ1.out 1
     have g2 := blk_frozen HQ1.out 2
     have g3 := blk_frozen HQ1.out 3
     have ne1 : B ≠ N := by omega
     have ne2 : N ≠ B := by omega
     have ne3 : B ≠ N + 1 := by omega
     have ne4 : N + 1 ≠ B := by omega
     clear hX3 h93; go_wp2_with (go_at_call 26; refine (HI.out _ (by decide) _ _ _ (by exact HR7.out)).mono ?_; rintro e w' ⟨rfl, n1, rfl⟩)
     have hE := list_end (show B < N by omega) (show w.heap.size ≤ N by rw [HNw.out]; exact Nat.le_refl _) (blk_far (p := ⟨B, 1, none⟩) (show (w7.drewN n1).heap[N]? = _ from HQ1.out) (show N ≠ B by omega) (.int .i64 ((p : Int) + 1))) (RSt.set1 (i := p) (HR7.out.drewN n1)) ((HK7.out.drewN n1).set 1 (.int .i64 ((p : Int) + 1))) (rk (w' := (w7.drewN n1).setCell ⟨B, 1, none⟩ (.int .i64 ((p : Int) + 1))) HRow7.out (fun q hq hlt => Below.heap_setCell _ _ _ _ (show q ≠ B by omega)))
     obtain ⟨hw, hr3, hk3, hv3⟩ := hE
     have k0 := blk_cell hw 0
     have k1 := blk_cell hw 1
     have k2 := blk_cell hw 2
     have k3 := blk_cell hw 3
     refine bodyPost_ret (v := .agg #[.int .u8 5, .string ⟨#[]⟩, _, .slice none 0 0]) (by simp [results, Tryd.results29, go_sem, k0, k1, k2, k3]; rfl) rfl ?_
     rw [← H1.out]
     exact ⟨_, ⟨5, ⟨#[]⟩, acc ++ [v], []⟩, _, 0, rfl, vv_at ⟨_, _, rfl, hv3, Kd.R_nil _ _ _ _ _⟩ HNw.out, hr3, hk3, .inl ⟨rfl, hl, rfl⟩⟩
    ·rw [if_neg h93, if_neg (by simp)] at hX3
     have q := isB_no (s := s) (i := p) (c := 93) (by omega)
     clear h93; by_cases h44 : hnd s p = 44
     ·have hwd : wd s [44] p = .ok () (p + 1) := if_pos h44
      have hl := hnd_pos h44 (by omega)
      rw [hwd] at hX3
      have H1 := Aside0.mk (show ((pv (skip isBl s (p + 1))).bind fun v' k => lst s pv f (skip isBl s k) ((acc ++ [v]) ++ [v'])) = R from hX3)
      have HWD := Aside0.mk hwd; clear hX3 hwd h44; go_wp2_with (first | (go_at_call 26; refine (HI.out _ (by decide) _ _ _ (by exact HR7.out)).mono ?_; rintro e w' ⟨rfl, n1, rfl⟩) | (go_at_call 39; refine (HTK.out p _ (by exact HR7.out) hps.2).mono ?_; intro e w8 ho; rw [HWD.out] at ho; obtain ⟨x, rfl, rfl, hm, hr, hk⟩ := ho.ok_; have HR8 := Aside0.mk hr; have HKa := Aside0.mk hk; clear ho hr hk) | (go_at_call 16; refine (HBL.out (p + 1) _ (by exact HR8.out) hl).mono ?_; rintro e w9 ⟨rfl, hr, hk⟩; have HR9 := Aside0.mk hr; have HKb := Aside0.mk (HKa.out.trans hk); clear hr hk))
      go_roundg f
      case measure => omega
      case rel =>
       have hsk := skip_ge (p := isBl) s (p + 1)
       refine ⟨skip isBl s (p + 1), acc ++ [v], .slice A5 L c5, 0, ⟨.inl ⟨rfl, skip_in hl, by omega, by rw [List.length_append]; simp; omega, H1.out⟩⟩, HR9, ⟨?_⟩, ⟨?_⟩, ⟨?_⟩, ⟨(HK7.out.drewN _).trans HKb.out⟩⟩
       ·exact (HKb.out.block N (show N < w7.heap.size by omega) (by omega)).trans HQ1.out
       ·exact (HKb.out.block (N + 1) (show N + 1 < w7.heap.size by omega) (by omega)).trans HQ2.out
       ·exact rk HRow7.out (fun q hq hlt => HKb.out.block q hlt (by omega))
     ·have hwd : wd s [44] p = .bad p 30 := if_neg h44
      rw [hwd] at hX3
      have H1 := Aside0.mk (show Res.bad p 30 = R from hX3)
      have HWD := Aside0.mk hwd; clear hX3 hwd h44; go_wp2_with (first | (go_at_call 26; refine (HI.out _ (by decide) _ _ _ (by exact HR7.out)).mono ?_; rintro e w' ⟨rfl, n1, rfl⟩) | (go_at_call 39; refine (HTK.out p _ (by exact HR7.out) hps.2).mono ?_; intro e w8 ho; rw [HWD.out] at ho; obtain ⟨x, rfl, rfl, hm, hr, hk⟩ := ho.bad_; have HR8 := Aside0.mk hr; have HKa := Aside0.mk hk; clear ho hr hk hm) | (go_at_call 16; refine (glossatorref03_state_blanks.off B s p 30 (by decide) _ (by exact HR8.out) hsz).mono ?_; rintro e w9 ⟨rfl, n9, rfl⟩))
      go_roundg f
      case measure => omega
      case rel =>
       refine ⟨p, acc ++ [v], .slice A5 L c5, 30, ⟨.inr ⟨by decide, H1.out.symm⟩⟩, ⟨HR8.out.drewN _⟩, ⟨?_⟩, ⟨?_⟩, ⟨?_⟩, ⟨((HK7.out.drewN _).trans HKa.out).drewN _⟩⟩
       ·exact (HKa.out.block N (show N < w7.heap.size by omega) (by omega)).trans HQ1.out
       ·exact (HKa.out.block (N + 1) (show N + 1 < w7.heap.size by omega) (by omega)).trans HQ2.out
       ·exact rk HRow7.out (fun q hq hlt => HKa.out.block q hlt (by omega))
   ·have H1 := Aside0.mk (show Res.bad k er = R by rw [← HX2.out, hv]; rfl)
    have HE := Aside0.mk he; have q := isB_bad (s := s) (i := k) 93 he
    clear hv HRes4 HX2 he; obtain ⟨f, rfl⟩ : ∃ f, gk = f + 1 := ⟨gk - 1, by omega⟩
    go_wp2_with (first | (go_at_call 16; refine (glossatorref03_state_blanks.off B s k er HE.out _ (by exact HR6.out) hsz).mono ?_; rintro e w9 ⟨rfl, n9, rfl⟩) | (go_at_call 26; refine (HI.out _ (by decide) _ _ _ (by exact HR6.out)).mono ?_; rintro e w' ⟨rfl, n1, rfl⟩) | (go_at_call 39; refine (glossatorref03_state_take.off B s k er HE.out 44 _ (by exact HR6.out)).mono ?_; rintro e w' ⟨rfl, rfl⟩))
    go_roundg f
    case measure => omega
    case rel => exact ⟨k, acc ++ [v], .slice A5 L c5, er, ⟨.inr ⟨HE.out, H1.out.symm⟩⟩, ⟨HR6.out.drewN _⟩, ⟨HP1.out⟩, ⟨HP2.out⟩, ⟨Kd.R_drewN HRow6.out _⟩, ⟨HK6.out.drewN _⟩⟩
  ·have te : (er == 0) = false := by simpa using he
   have H1 := Aside0.mk hX; have HE := Aside0.mk he; have e0 := blk_cell HZ1.out 0
   have e1 := blk_cell HZ1.out 1
   have e2 := blk_cell HZ1.out 2
   have e3 := blk_cell HZ1.out 3
   have d0 := blk_cell HZ2.out 0
   have d1 := blk_cell HZ2.out 1
   have d2 := blk_cell HZ2.out 2
   have d3 := blk_cell HZ2.out 3
   have g0 := blk_frozen HZ1.out 0
   have g1 := blk_frozen HZ1.out 1
   have g2 := blk_frozen HZ1.out 2
   have g3 := blk_frozen HZ1.out 3
   have ne1 : B ≠ N := by omega
   have ne2 : N ≠ B := by omega
   have ne3 : B ≠ N + 1 := by omega
   have ne4 : N + 1 ≠ B := by omega
   clear hX he HX; go_wp2
   have hE := list_end (show B < N by omega) (show w.heap.size ≤ N by rw [HNw.out]; exact Nat.le_refl _) (HZ1.out) (HR1.out) (HK1.out) (HRow1.out)
   obtain ⟨hw, hr3, hk3, hv3⟩ := hE
   have k0 := blk_cell hw 0
   have k1 := blk_cell hw 1
   have k2 := blk_cell hw 2
   have k3 := blk_cell hw 3
   refine bodyPost_ret (v := .agg #[.int .u8 5, .string ⟨#[]⟩, _, .slice none 0 0]) (by simp [results, Tryd.results29, go_sem, k0, k1, k2, k3]; rfl) rfl ?_
   rw [H1.out]
   exact ⟨_, ⟨5, ⟨#[]⟩, acc, []⟩, _, er, rfl, vv_at ⟨_, _, rfl, hv3, Kd.R_nil _ _ _ _ _⟩ HNw.out, hr3, hk3, .inr ⟨HE.out, rfl⟩⟩
theorem tl_inj {a b : ByteArray} (h : a.toList = b.toList) : a = b := by
 rw [ByteArray.toList_eq, ByteArray.toList_eq] at h
 exact ByteArray.ext (Array.toList_inj.mp h)
theorem setCell_id {w : World} {g i : Nat} {cs : Array Value} {t : TypeId} {v : Value} (hg : w.heap[g]? = some (.cells cs t (0, 0))) (hv : cs[i]? = some v) : w.setCell ⟨g, i, none⟩ v = w := by
 have hc : cs.setIfInBounds i v = cs := by
  apply Array.ext_getElem?
  intro k
  by_cases h : i = k
  ·subst h; rw [Array.getElem?_setIfInBounds_self, hv]
   have := (Array.getElem?_eq_some_iff.1 hv).1
   rw [if_pos this]
  ·rw [Array.getElem?_setIfInBounds_ne h]
 have hh : (w.setCell ⟨g, i, none⟩ v).heap = w.heap := by
  apply Array.ext_getElem?
  intro k
  by_cases h : k = g
  ·subst h; rw [blk_set hg i v, hg, hc]
  ·exact Below.heap_setCell _ _ _ _ h
 cases w
 unfold World.setCell at hh ⊢
 simp only at hh ⊢
 rw [hh]
set_option maxRecDepth 100000 in
set_option maxHeartbeats 4000000 in
theorem glossatorref03_put.calls (base m : Nat) (A : Option Addr) (c : Nat) (acc : List JF) (name : ByteArray) (v : JV) (v2 v3 : Value) (w : World) (hrow : Kd.R k38 38 w base (fun _ => True) (.slice A acc.length c) acc) (hbm : base ≤ m) (hmw : m ≤ w.heap.size) (hown : ∀ k, (Value.slice A acc.length c).ownBlock = some k → k < m) (h2 : Kd.R k25 25 w m (fun _ => True) v2 v.f2) (h3 : Kd.R k38 38 w m (fun _ => True) v3 v.f3) (ha : acc.length ≤ 300000) :
  Calls Tryd.prog 42 #[.slice A acc.length c, .string name, .agg #[.int .u8 v.f0, .string v.f1, v2, v3]] w fun e w' => ∃ v', e = .returned v' ∧ Kd.R k38 38 w' base (fun _ => True) v' (putF acc name v) ∧ Below base w w' := by
 obtain ⟨A4, c4, rfl⟩ := Kd.R_slice h2
 obtain ⟨A5, c5, rfl⟩ := Kd.R_slice h3
 obtain ⟨M, hM⟩ : ∃ M, M = w.heap.size := ⟨_, rfl⟩
 obtain ⟨W1, hW1⟩ : ∃ W1, W1 = w.alloc (.cells #[.int .u8 v.f0, .string v.f1, .slice A4 v.f2.length c4, .slice A5 v.f3.length c5] 25 (0, 0)) := ⟨_, rfl⟩
 have HB1 := Aside0.mk (show Below base w W1 by rw [hW1]; exact Below.mono (below_alloc (Below.refl w.heap.size w) _) (show base ≤ w.heap.size by omega))
 have hrow1 : Kd.R k38 38 W1 base (fun _ => True) (.slice A acc.length c) acc := by rw [hW1]; exact Kd.R_alloc hrow _
 have hM0 := k38_mkM w m (fun _ => True) ⟨name, v⟩ h2 h3
 have hM1 : k38.M W1 base (fun k => m ≤ k) ⟨name, v⟩ [.string name, .int .u8 v.f0, .string v.f1, .slice A4 v.f2.length c4, .slice A5 v.f3.length c5] := by
  rw [hW1]
  exact k38.M_lower (base' := base) (by omega) (k38.M_mono (ok' := fun k => m ≤ k) (fun k hk => hk.2.1) (k38.M_move (w1 := w.alloc (.cells #[.int .u8 v.f0, .string v.f1, .slice A4 v.f2.length c4, .slice A5 v.f3.length c5] 25 (0, 0))) (fun k hk => alloc_far hk.2.2.1) (k38.M_bound hM0)))
 have hbx : W1.heap[M]? = some (.cells #[.int .u8 v.f0, .string v.f1, .slice A4 v.f2.length c4, .slice A5 v.f3.length c5] 25 (0, 0)) := by rw [hW1, hM]; exact blk_new w _
 have HRow1 := Aside0.mk hrow1; have HM1 := Aside0.mk hM1; have HBx := Aside0.mk hbx; have HOwn := Aside0.mk hown; have HOb := Aside0.mk (fun k (hk : (Value.slice A acc.length c).ownBlock = some k) => Kd.R_base hrow k hk)
 have hsz1 : w.heap.size < W1.heap.size := by rw [hW1]; exact blk_lt (blk_new w _)
 have HSz := Aside0.mk hsz1; clear hown hrow1 hM0 hM1 hbx hrow h2 h3 hsz1; go_enter Tryd.func42, Tryd.ntmps42
 go_upto_region 1 with (fail)
 rw [← hW1]
 rw [← hM]
 clear hW1 hM; go_wp2
 go_loopw [7] (fun t7 w' => ∃ j : Nat, j ≤ acc.length ∧ t7 = .int .i64 j ∧ Aside0 (∀ k x, k < j → acc[k]? = some x → x.f0 ≠ name) ∧ w' = W1) (fun t7 _ => acc.length - (intOf t7).toNat)
 case atStart => exact ⟨0, Nat.zero_le _, rfl, ⟨fun k x h => by omega⟩, rfl⟩
 case round =>
  obtain ⟨j, hj, rfl, HN, hwr⟩ := hrel
  rw [hwr]
  clear hwr; by_cases hlt : j < acc.length
  ·have t : decide ((j : Int) < (acc.length : Int)) = true := decide_eq_true (by omega)
   obtain ⟨g, cur, hA, hbg, hcur, hsz⟩ := R_row (d := k38) (by decide) HRow1.out hlt
   have hsz : j * 5 + 5 ≤ cur.size := hsz
   have hC := Kd.V_reads' (Kd.R_V (base' := 0) HRow1.out)
   obtain ⟨ad, A6, c6, A7, c7, hA2, n0, n1, n2, n3, n4, _, _, _, _⟩ := at_T38 hC.2.2 j (by omega) (by omega)
   have hrd : rd_T38 acc j = acc[j] := by unfold rd_T38; rw [Int.toNat_natCast, List.getD_eq_getElem?_getD, List.getElem?_eq_getElem hlt]; rfl
   rw [hrd] at n0
   obtain rfl : ad = ⟨g, 0, none⟩ := by rw [hA] at hA2; injection hA2 with h; exact h.symm
   have hn0 : W1.cell? ⟨g, j * 5, none⟩ = some (.string acc[j].f0) := by
    have : (⟨g, 0, none⟩ : Addr).add ((j : Int).toNat * 5) = ⟨g, j * 5, none⟩ := by simp [Addr.add]; omega
    rw [this] at n0
    exact n0
   obtain ⟨nm, hnm⟩ : ∃ nm, nm = acc[j].f0 := ⟨_, rfl⟩
   rw [← hnm] at hn0
   have HNM := Aside0.mk hnm; have HCur := Aside0.mk hcur; subst hA; clear hC hA2 n0 n1 n2 n3 n4 hrd hnm hcur; by_cases he : nm = name
   ·have t2 : (nm.toList == name.toList) = true := by rw [he]; simp
    have HI := Aside0.mk (show putF acc name v = acc.set j ⟨name, v⟩ by
     have hi : idxF acc name = some j := by
      unfold idxF
      rw [List.findIdx?_eq_some_iff_getElem]
      refine ⟨hlt, by rw [← HNM.out, he]; simp, fun k hk => ?_⟩
      have := HN.out k acc[k] hk (List.getElem?_eq_getElem (by omega))
      simpa using this
     unfold putF
     rw [hi])
    have m0 := blk_cell HBx.out 0
    have m1 := blk_cell HBx.out 1
    have m2 := blk_cell HBx.out 2
    have m3 := blk_cell HBx.out 3
    have hcz := hsz
    have x1 : W1.cell? ⟨g, j * 5 + 1, none⟩ = some (cur[j * 5 + 1]'(by omega)) := by rw [blk_cell HCur.out]; exact Array.getElem?_eq_getElem _
    have x2 : W1.cell? ⟨g, j * 5 + 2, none⟩ = some (cur[j * 5 + 2]'(by omega)) := by rw [blk_cell HCur.out]; exact Array.getElem?_eq_getElem _
    have x3 : W1.cell? ⟨g, j * 5 + 3, none⟩ = some (cur[j * 5 + 3]'(by omega)) := by rw [blk_cell HCur.out]; exact Array.getElem?_eq_getElem _
    have x4 : W1.cell? ⟨g, j * 5 + 4, none⟩ = some (cur[j * 5 + 4]'(by omega)) := by rw [blk_cell HCur.out]; exact Array.getElem?_eq_getElem _
    have y1 := blk_frozen HCur.out (j * 5 + 1)
    have y2 := blk_frozen HCur.out (j * 5 + 2)
    have y3 := blk_frozen HCur.out (j * 5 + 3)
    have y4 := blk_frozen HCur.out (j * 5 + 4)
    have HZ := Aside0.mk (show Kd.R k38 38 ((((W1.setCell ⟨g, j * 5 + 1, none⟩ (.int .u8 v.f0)).setCell ⟨g, j * 5 + 2, none⟩ (.string v.f1)).setCell ⟨g, j * 5 + 3, none⟩ (.slice A4 v.f2.length c4)).setCell ⟨g, j * 5 + 4, none⟩ (.slice A5 v.f3.length c5)) base (fun _ => True) (.slice (some ⟨g, 0, none⟩) acc.length c) (putF acc name v) by
     rw [HI.out]
     have h5 := R_store5 rfl HRow1.out hlt HM1.out (fun p hp => by have := HOwn.out g rfl; omega)
     rwa [setCell_id HCur.out (show cur[j * 5]? = some (.string name) by rw [← blk_cell HCur.out, hn0, he])] at h5)
    have HBz := Aside0.mk (show Below base w ((((W1.setCell ⟨g, j * 5 + 1, none⟩ (.int .u8 v.f0)).setCell ⟨g, j * 5 + 2, none⟩ (.string v.f1)).setCell ⟨g, j * 5 + 3, none⟩ (.slice A4 v.f2.length c4)).setCell ⟨g, j * 5 + 4, none⟩ (.slice A5 v.f3.length c5)) from ⟨HB1.out.os, HB1.out.tape, HB1.out.output, by simpa [World.setCell] using HB1.out.size, fun q hq => by
     have hq' : q ≠ g := by omega
     rw [Below.heap_setCell _ _ _ _ hq', Below.heap_setCell _ _ _ _ hq', Below.heap_setCell _ _ _ _ hq', Below.heap_setCell _ _ _ _ hq']
     exact HB1.out.block q hq⟩)
    clear he; go_wp2
    go_ret
    exact ⟨_, rfl, HZ.out, HBz.out⟩
   ·have t2 : (nm.toList == name.toList) = false := beq_eq_false_iff_ne.mpr (fun h => he (tl_inj h))
    have HNe := Aside0.mk he; clear he; go_wp2
    go_roundw
    case rel => exact ⟨j + 1, hlt, by go_num, ⟨fun k x hk hx => by
     rcases Nat.lt_or_ge k j with h | h
     ·exact HN.out k x h hx
     ·obtain rfl : k = j := by omega
      rw [List.getElem?_eq_getElem hlt] at hx
      injection hx with hx
      rw [← hx, ← HNM.out]
      exact HNe.out⟩, trivial⟩
    case measure => simp [intOf]; omega
  ·have t : decide ((j : Int) < (acc.length : Int)) = false := decide_eq_false (by omega)
   have HI := Aside0.mk (show putF acc name v = acc ++ [⟨name, v⟩] by
    have hi : idxF acc name = none := by
     unfold idxF
     rw [List.findIdx?_eq_none_iff]
     intro x hx
     obtain ⟨k, hk, rfl⟩ := List.mem_iff_getElem.1 hx
     have := HN.out k acc[k] (by omega) (List.getElem?_eq_getElem hk)
     simpa using this
    unfold putF
    rw [hi])
   have m0 := blk_cell HBx.out 0
   have m1 := blk_cell HBx.out 1
   have m2 := blk_cell HBx.out 2
   have m3 := blk_cell HBx.out 3
   go_wp2_with ((with_reducible refine gate_builtin (b := .append) (xs := #[.tmp 27, .tmp 31]) rfl ?_); at_builtin; refine Kd.R_append k38 (w0 := W1) base rfl (.tmp 27) (.tmp 31) 23 38 (.agg #[(.string ⟨#[]⟩), (.int .u8 0), (.string ⟨#[]⟩), (.slice none 0 0), (.slice none 0 0)]) 88 rfl Tryd.underlying23 jinfoF rfl (by decide) (by omega) (.slice A acc.length c) acc ⟨name, v⟩ [.string name, .int .u8 v.f0, .string v.f1, .slice A4 v.f2.length c4, .slice A5 v.f3.length c5] (fun _ => True) (fun k => m ≤ k) rfl rfl HM1.out ?aO (fun _ _ => trivial) HRow1.out (Below.refl _ _) ?aB ?aL ?_; (case aO => exact fun k hk => ⟨trivial, fun he => by have h1 := HOwn.out k he.symm; omega⟩); (case aB => have := HSz.out; omega); (case aL => omega); intro v1 w8 hrow _ hgr hat; have hS := HSz.out; obtain ⟨A6, c6, rfl⟩ := Kd.R_slice hrow; have HRow9 := Aside0.mk hrow; have HB9 := Aside0.mk (show Below base W1 w8 from ⟨hgr.os, hgr.tape, hgr.output, hgr.size, fun q hq => hgr.block q (by omega) (fun he => by have := HOb.out q he.symm; omega)⟩); clear hrow hgr hat)
   go_ret
   exact ⟨_, rfl, by rw [HI.out]; have h := HRow9.out; rw [List.length_append] at h; exact h, HB1.out.trans HB9.out⟩
end Go.Proofs.YtienoadaflmkdaaDoor.Q
