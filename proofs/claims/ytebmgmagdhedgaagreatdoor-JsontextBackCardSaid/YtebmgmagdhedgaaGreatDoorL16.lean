/- Words and walks of this claim, put together by this repo's wip/xlink.py out of Q14, Q15. -/
import Derived.Test.YtebmgmagdhedgaaGreatDoorL8
import Derived.Test.YtebmgmagdhedgaaGreatDoorL9
import Derived.Test.YtebmgmagdhedgaaGreatDoorL11
import Derived.Test.YtebmgmagdhedgaaGreatDoorL12
import Derived.Test.YtebmgmagdhedgaaGreatDoorL14
import Derived.Test.YtebmgmagdhedgaaGreatDoorL15
section
namespace Go.Proofs.YtebmgmagdhedgaaGreatDoor.Q
open Go.RowKit Go.Proofs.YtebmgmagdhedgaaGreatDoorW.PrintWords Go.Proofs.YtebmgmagdhedgaaGreatDoorW.PrintLast Go.Proofs.YtebmgmagdhedgaaGreatDoorW.PrintMore
attribute [local go_sem] max2_int min2_int max_two min_two max_three min_three max_four min_four   
set_option linter.unusedVariables false
set_option linter.unusedSimpArgs false
set_option maxRecDepth 100000 in
set_option maxHeartbeats 4000000 in
theorem jsontext_Print.calls (v : JV) (A2 A3 : Option Addr) (c2 c3 : Nat) (w : World) (hG : GlobOk w) (hz : Sz 1048576 v) (hm : (wrD 64 v).length ≤ 140737488300000) (h2 : k25.C w A2 v.f2.length v.f2) (h3 : k45.C w A3 v.f3.length v.f3) :
  Calls Tryz.prog 9 #[.agg #[.int .u8 v.f0, .string v.f1, .slice A2 v.f2.length c2, .slice A3 v.f3.length c3]] w fun e w' => e = .returned (.tuple #[.string (printedV v).1, .int .i64 (printedV v).2]) ∧ Below w.heap.size w w' := by
 obtain ⟨P1, hP1⟩ : ∃ P1, P1 = (printedV v).1 := ⟨_, rfl⟩
 obtain ⟨P2, hP2⟩ : ∃ P2, P2 = (printedV v).2 := ⟨_, rfl⟩
 rw [← hP1, ← hP2]
 obtain ⟨W1, hW1⟩ : ∃ W1, W1 = w.alloc (.cells #[.int .u8 v.f0, .string v.f1, .slice A2 v.f2.length c2, .slice A3 v.f3.length c3] 25 (0, 0)) := ⟨_, rfl⟩
 obtain ⟨N, hN⟩ : ∃ N, N = w.heap.size := ⟨_, rfl⟩
 have HX := Aside0.mk (show W1.heap[N]? = some (.cells #[.int .u8 v.f0, .string v.f1, .slice A2 v.f2.length c2, .slice A3 v.f3.length c3] 25 (0, 0)) by rw [hW1, hN]; exact blk_new w _)
 have HB1 := Aside0.mk (show Below w.heap.size w W1 by rw [hW1]; exact below_alloc (Below.refl _ _) _)
 have HMay := Aside0.mk (jsontext_May.calls v A2 A3 c2 c3 W1 (hG.below HB1.out) (hz.le (by omega)) (Kd.C_below h2 HB1.out) (Kd.C_below h3 HB1.out))
 have HC := Aside0.mk (show k25.C W1 A2 v.f2.length v.f2 ∧ k45.C W1 A3 v.f3.length v.f3 from ⟨Kd.C_below h2 HB1.out, Kd.C_below h3 HB1.out⟩)
 have HP1 := Aside0.mk hP1; have HP2 := Aside0.mk hP2; have HZ := Aside0.mk hz; have HM := Aside0.mk hm; have x0 := blk_cell HX.out 0
 have x1 := blk_cell HX.out 1
 have x2 := blk_cell HX.out 2
 have x3 := blk_cell HX.out 3
 obtain ⟨m, hmay⟩ : ∃ m, m = mayD 64 v := ⟨_, rfl⟩
 rw [← hmay] at HMay
 have HMV := Aside0.mk hmay; clear hG hz hm h2 h3 hP1 hP2 hmay; go_enter Tryz.func9, Tryz.ntmps9
 go_upto_region 1 with (fail)
 rw [← hW1, ← hN]
 clear hW1 hN; cases m
 ·have HE := Aside0.mk (show P1 = ⟨#[]⟩ ∧ P2 = 40 by rw [HP1.out, HP2.out]; unfold printedV; rw [← HMV.out]; exact ⟨rfl, rfl⟩)
  go_wp2_with (go_at_call 12; refine HMay.out.mono ?_; rintro e w2 ⟨rfl, hb⟩; have HB2 := Aside0.mk (below_step HB1.out hb); clear hb)
  go_ret2
  exact ⟨by rw [HE.out.1, HE.out.2]; rfl, HB2.out⟩
 ·go_upto_region 3 with (go_at_call 12; refine HMay.out.mono ?_; rintro e w2 ⟨rfl, hb⟩; have HB2 := Aside0.mk (below_step HB1.out hb); have HX2 := Aside0.mk (blk_below HX.out hb); have HC2 := Aside0.mk (show k25.C w2 A2 v.f2.length v.f2 ∧ k45.C w2 A3 v.f3.length v.f3 from ⟨Kd.C_below HC.out.1 hb, Kd.C_below HC.out.2 hb⟩); clear hb)
  clear x0 x1 x2 x3; obtain ⟨b, hb⟩ : ∃ b, b = w2.heap.size := ⟨_, rfl⟩
  obtain ⟨W3, hW3⟩ : ∃ W3, W3 = w2.alloc (.cells #[.pointer none, .slice none 0 0] 52 (0, 0)) := ⟨_, rfl⟩
  have HS3 := Aside0.mk (show WS b [] W3 by rw [hW3, hb]; exact Lib.IsBuilderF.of (Lib.fresh_isBuilder 52 5 w2))
  have HK3 := Aside0.mk (show Below w2.heap.size w2 W3 by rw [hW3]; exact below_alloc (Below.refl _ _) _)
  have HX3 := Aside0.mk (show W3.heap[N]? = some (.cells #[.int .u8 v.f0, .string v.f1, .slice A2 v.f2.length c2, .slice A3 v.f3.length c3] 25 (0, 0)) by rw [hW3]; exact blk_alloc HX2.out _)
  have HVL := Aside0.mk (jsontext_writer_value.calls 64 v HMV.out.symm HZ.out b [] A2 A3 c2 c3 w2 W3 HS3.out (by rw [hb]; exact Nat.le_refl _) HK3.out HC2.out.1 HC2.out.2 (by have := HM.out; simpa using this))
  have HBB := Aside0.mk (show ∀ w4, Below b W3 w4 → Below w.heap.size w w4 from fun w4 hk => HB2.out.trans ((HK3.out.trans (hk.mono (by rw [hb]; exact Nat.le_refl _))).mono HB2.out.size))
  obtain ⟨out, hout⟩ : ∃ out, out = wpD 64 [] v := ⟨_, rfl⟩
  rw [← hout] at HVL
  have hcl := wpD_cl 64 v HMV.out.symm []
  rw [← hout, List.nil_append] at hcl
  have HCL := Aside0.mk hcl; go_upto_region 4 with (fail)
  rw [← hW3, ← hb]
  clear hW3 hb hout hcl; have x0 := blk_cell HX3.out 0
  have x1 := blk_cell HX3.out 1
  have x2 := blk_cell HX3.out 2
  have x3 := blk_cell HX3.out 3
  by_cases hl : 262144 < out.length
  ·have tl : decide ((262144 : Int) < (out.length : Int)) = true := decide_eq_true (by omega)
   have HE := Aside0.mk (show P1 = ⟨#[]⟩ ∧ P2 = 3 by
    rw [HP1.out, HP2.out]
    unfold printedV
    have : 262144 < (wrD 64 v).length := by rcases HCL.out.2 with h | h; (rw [← h]; exact hl); exact h.2
    rw [← HMV.out, if_pos rfl, if_pos this]
    exact ⟨rfl, rfl⟩)
   clear hl; go_wp2_with (first | (go_at_call 25; refine HVL.out.mono ?_; rintro e w4 ⟨rfl, h1, h2⟩; have HS4 := Aside0.mk h1; have HB4 := Aside0.mk (HBB.out w4 h2.1); clear h1 h2) | (go_at_call 26; refine (ws_len b out _ (by exact HS4.out)).mono ?_; rintro e w5 ⟨rfl, rfl⟩))
   go_ret2
   exact ⟨by rw [HE.out.1, HE.out.2]; rfl, HB4.out⟩
  ·have tl : decide ((262144 : Int) < (out.length : Int)) = false := decide_eq_false (by omega)
   have HE := Aside0.mk (show P1 = ⟨out.toArray⟩ ∧ P2 = 0 ∧ out ≠ [] by
    rw [HP1.out, HP2.out]
    unfold printedV
    have e : out = wrD 64 v := HCL.out.2.resolve_right (fun h => hl h.1)
    rw [← HMV.out, if_pos rfl, if_neg (by rw [← e]; exact hl), e]
    obtain ⟨ch, ew⟩ := wrD_eq 64 v
    obtain ⟨x, r, eq, _⟩ := wrF_begins (ch := ch) (mayD_fine HMV.out.symm)
    exact ⟨rfl, rfl, by rw [ew, eq]; simp⟩)
   clear hl; go_wp2_with (first | (go_at_call 25; refine HVL.out.mono ?_; rintro e w4 ⟨rfl, h1, h2⟩; have HS4 := Aside0.mk h1; have HB4 := Aside0.mk (HBB.out w4 h2.1); have HK4 := Aside0.mk h2; clear h1 h2) | (go_at_call 26; refine (ws_len b out _ (by exact HS4.out)).mono ?_; rintro e w5 ⟨rfl, rfl⟩) | (go_at_call 27; refine (wb_string b b out _ HS4.out HE.out.2.2).mono ?_; rintro e w6 ⟨rfl, hb6⟩; have HB6 := Aside0.mk (HBB.out w6 (HK4.out.1.trans hb6)); clear hb6))
   go_ret2
   exact ⟨by rw [HE.out.1, HE.out.2.1]; rfl, HB6.out⟩
def digSet : List UInt8 := [45, 48, 49, 50, 51, 52, 53, 54, 55, 56, 57]
theorem trim_c (s : ByteArray) (w : World) (hs : s.size ≤ 140737488351232) : Calls Tryz.prog 33 #[.string s, .string ⟨#[45, 48, 49, 50, 51, 52, 53, 54, 55, 56, 57]⟩] w fun e w' => e = .returned (.string ⟨(Lib.trimS s.data.toList digSet).toArray⟩) ∧ Below w.heap.size w w' := by
 exact Any.strings_Trim_laid Tryz.lays160 (by kernel_rfl) s ⟨#[45, 48, 49, 50, 51, 52, 53, 54, 55, 56, 57]⟩ w (by omega) (by decide) (ascii_of_all (by decide))
/-- What a value's number is. -/
def intV (v : JV) : Int × Bool := if v.f0 = 3 then (if Lib.trimS v.f1.data.toList digSet = [] then (if numOk v.f1 = true then (match Lib.atoiAll v.f1.data.toList with | .ok n => (n, true) | _ => (0, false)) else (0, false)) else (0, false)) else (0, false)
def AtoiO (s : ByteArray) (e : Ending) : Prop := ∃ n x, e = .returned (.tuple #[.int .i64 n, x]) ∧ ((Lib.atoiAll s.data.toList = .ok n ∧ x = .nilIface) ∨ ((∀ m, Lib.atoiAll s.data.toList ≠ .ok m) ∧ ∃ p, x = .iface 115 p))
theorem atoi_c (s : ByteArray) (w : World) (hs : s.size ≤ 140737488351232) (hG : GlobOk w) (hR : Lib.atoiAll s.data.toList = .range → ∃ te pe, w.cell? ⟨2, 0, none⟩ = some (.iface te pe)) : Calls Tryz.prog 35 #[.string s] w fun e w' => AtoiO s e ∧ Below w.heap.size w w' := by
 cases h : Lib.atoiAll s.data.toList with
 | ok v =>
  refine (Tryz.strconv_Atoi_ok s (by omega) v h w).mono ?_
  rintro e w' ⟨rfl, hw⟩
  refine ⟨⟨v, _, rfl, .inl ⟨h, rfl⟩⟩, ?_⟩
  rcases hw with rfl | ⟨t, rfl⟩
  ·exact Below.refl _ _
  ·exact Lib.bytesWorld_below w _ t
 | range =>
  obtain ⟨te, pe, he⟩ := hR h
  refine (Tryz.strconv_Atoi_range s (by omega) h _ w he (.inr ⟨te, pe, rfl⟩)).mono ?_
  rintro e w' ⟨N, rfl, _, _, hb⟩
  exact ⟨⟨_, _, rfl, .inr ⟨(fun m hm => by rw [h] at hm; cases hm), _, rfl⟩⟩, hb⟩
 | _ =>
  obtain ⟨te, pe, he⟩ := hG.err
  refine (Tryz.strconv_Atoi_syntax s (by omega) h _ w he (.inr ⟨te, pe, rfl⟩)).mono ?_
  rintro e w' ⟨N, rfl, _, _, hb⟩
  exact ⟨⟨0, _, rfl, .inr ⟨(fun m hm => by rw [h] at hm; cases hm), _, rfl⟩⟩, hb⟩
set_option maxRecDepth 100000 in
set_option maxHeartbeats 4000000 in
theorem jsontext_Int.calls (v : JV) (A2 A3 : Option Addr) (n2 c2 n3 c3 : Nat) (w : World) (hG : GlobOk w) (hs : v.f1.size ≤ 140737488351232) (hR : v.f0 = 3 → Lib.atoiAll v.f1.data.toList = .range → ∃ te pe, w.cell? ⟨2, 0, none⟩ = some (.iface te pe)) :
  Calls Tryz.prog 13 #[.agg #[.int .u8 v.f0, .string v.f1, .slice A2 n2 c2, .slice A3 n3 c3]] w fun e w' => e = .returned (.tuple #[.int .i64 (intV v).1, .bool (intV v).2]) ∧ Below w.heap.size w w' := by
 obtain ⟨P1, hP1⟩ : ∃ P1, P1 = (intV v).1 := ⟨_, rfl⟩
 obtain ⟨P2, hP2⟩ : ∃ P2, P2 = (intV v).2 := ⟨_, rfl⟩
 rw [← hP1, ← hP2]
 have HP := Aside0.mk (show P1 = (intV v).1 ∧ P2 = (intV v).2 from ⟨hP1, hP2⟩)
 obtain ⟨k, hk⟩ : ∃ k, k = v.f0 := ⟨_, rfl⟩
 obtain ⟨t, ht⟩ : ∃ t, t = v.f1 := ⟨_, rfl⟩
 rw [← ht] at hs hR
 rw [← hk] at hR
 rw [← hk, ← ht]
 have HQ := Aside0.mk (show intV v = if k = 3 then (if Lib.trimS t.data.toList digSet = [] then (if numOk t = true then (match Lib.atoiAll t.data.toList with | .ok n => (n, true) | _ => (0, false)) else (0, false)) else (0, false)) else (0, false) by rw [hk, ht]; rfl)
 obtain ⟨W1, hW1⟩ : ∃ W1, W1 = w.alloc (.cells #[.int .u8 k, .string t, .slice A2 n2 c2, .slice A3 n3 c3] 25 (0, 0)) := ⟨_, rfl⟩
 obtain ⟨N, hN⟩ : ∃ N, N = w.heap.size := ⟨_, rfl⟩
 have HX := Aside0.mk (show W1.heap[N]? = some (.cells #[.int .u8 k, .string t, .slice A2 n2 c2, .slice A3 n3 c3] 25 (0, 0)) by rw [hW1, hN]; exact blk_new w _)
 have HB1 := Aside0.mk (show Below w.heap.size w W1 by rw [hW1]; exact below_alloc (Below.refl _ _) _)
 have HG := Aside0.mk hG; have HR := Aside0.mk hR; have HS := Aside0.mk hs; have x0 := blk_cell HX.out 0
 have x1 := blk_cell HX.out 1
 have x2 := blk_cell HX.out 2
 have x3 := blk_cell HX.out 3
 clear hP1 hP2 hk ht hG hs hR; by_cases h3 : k = 3
 ·subst h3; have hq := HQ.out
  rw [if_pos rfl] at hq
  have HTR := Aside0.mk (trim_c t W1 HS.out)
  obtain ⟨T, hT⟩ : ∃ T : ByteArray, T = ⟨(Lib.trimS t.data.toList digSet).toArray⟩ := ⟨_, rfl⟩
  rw [← hT] at HTR
  by_cases h4 : Lib.trimS t.data.toList digSet = []
  ·rw [if_pos h4] at hq
   have hT0 : T = ⟨#[]⟩ := by rw [hT, h4]
   rw [hT0] at HTR
   obtain ⟨nb, hnb⟩ : ∃ nb, nb = numOk t := ⟨_, rfl⟩
   rw [← hnb] at hq
   have HNB := Aside0.mk hnb; clear hT hT0 h4 hnb; cases nb
   ·have HE := Aside0.mk (show P1 = 0 ∧ P2 = false by rw [HP.out.1, HP.out.2, hq]; exact ⟨rfl, rfl⟩)
    clear hq; go_enter Tryz.func13, Tryz.ntmps13
    go_upto_region 1 with (fail)
    rw [← hW1, ← hN]
    clear hW1 hN; go_wp2_with (first | (go_at_call 33; refine HTR.out.mono ?_; rintro e w2 ⟨rfl, hb⟩; have HB2 := Aside0.mk (below_step HB1.out hb); have HX2 := Aside0.mk (blk_below HX.out hb); have y0 := blk_cell HX2.out 0; have y1 := blk_cell HX2.out 1; have y2 := blk_cell HX2.out 2; have y3 := blk_cell HX2.out 3; clear hb) | (go_at_call 34; refine (jsontext_number.calls 3 t A2 A3 n2 c2 n3 c3 _ (HG.out.below HB2.out)).mono ?_; rintro e w3 ⟨rfl, hb⟩; rw [← HNB.out]; have HB3 := Aside0.mk (below_step HB2.out hb); clear hb))
    go_ret2
    exact ⟨by rw [HE.out.1, HE.out.2]; rfl, HB3.out⟩
   ·rw [if_pos rfl] at hq
    have HQ2 := Aside0.mk hq; clear hq; go_enter Tryz.func13, Tryz.ntmps13
    go_upto_region 1 with (fail)
    rw [← hW1, ← hN]
    clear hW1 hN; go_upto_region 3 with (first | (go_at_call 33; refine HTR.out.mono ?_; rintro e w2 ⟨rfl, hb⟩; have HB2 := Aside0.mk (below_step HB1.out hb); have HX2 := Aside0.mk (blk_below HX.out hb); have y0 := blk_cell HX2.out 0; have y1 := blk_cell HX2.out 1; have y2 := blk_cell HX2.out 2; have y3 := blk_cell HX2.out 3; clear hb) | (go_at_call 34; refine (jsontext_number.calls 3 t A2 A3 n2 c2 n3 c3 _ (HG.out.below HB2.out)).mono ?_; rintro e w3 ⟨rfl, hb⟩; rw [← HNB.out]; have HB3 := Aside0.mk (below_step HB2.out hb); have HX3 := Aside0.mk (blk_below HX2.out hb); clear hb))
    have z1 := blk_cell HX3.out 1
    go_upto_region 4 with (go_at_call 35; refine (atoi_c t _ HS.out (HG.out.below HB3.out) (fun h => by obtain ⟨te, pe, hc⟩ := HR.out (by first | rfl | trivial) h; exact ⟨te, pe, pw_cell_below HB3.out hc⟩)).mono ?_; rintro e w4 ⟨⟨n, x, rfl, ho⟩, hb⟩; have HO := Aside0.mk ho; have HB4 := Aside0.mk (below_step HB3.out hb); clear ho hb)
    rcases HO.out with ⟨h1, h2⟩ | ⟨h1, p, h2⟩
    ·subst h2; have HE := Aside0.mk (show P1 = n ∧ P2 = true by rw [HP.out.1, HP.out.2, HQ2.out, h1]; exact ⟨rfl, rfl⟩)
     clear h1 HO; go_wp2
     go_ret2
     exact ⟨by rw [HE.out.1, HE.out.2]; rfl, HB4.out⟩
    ·subst h2; have HE := Aside0.mk (show P1 = 0 ∧ P2 = false by
      rw [HP.out.1, HP.out.2, HQ2.out]
      cases hh : Lib.atoiAll t.data.toList with
      | ok m => exact absurd hh (h1 m)
      | range => exact ⟨rfl, rfl⟩
      | _ => exact ⟨rfl, rfl⟩)
     clear h1 HO; go_wp2
     go_ret2
     exact ⟨by rw [HE.out.1, HE.out.2]; rfl, HB4.out⟩
  ·rw [if_neg h4] at hq
   have HE := Aside0.mk (show P1 = 0 ∧ P2 = false by rw [HP.out.1, HP.out.2, hq]; exact ⟨rfl, rfl⟩)
   have hne : T.toList ≠ [] := by rw [ByteArray.toList_eq, hT]; simpa using h4
   have tp : T.toList.isEmpty = false := by simpa using hne
   have tp2 : (T.toList == []) = false := by simpa using hne
   clear hq hT h4 hne; go_enter Tryz.func13, Tryz.ntmps13
   go_upto_region 1 with (fail)
   rw [← hW1, ← hN]
   clear hW1 hN; go_wp2_with (go_at_call 33; refine HTR.out.mono ?_; rintro e w2 ⟨rfl, hb⟩; have HB2 := Aside0.mk (below_step HB1.out hb); clear hb)
   go_ret2
   exact ⟨by rw [HE.out.1, HE.out.2]; rfl, HB2.out⟩
 ·have HE := Aside0.mk (show P1 = 0 ∧ P2 = false by rw [HP.out.1, HP.out.2, HQ.out, if_neg h3]; exact ⟨rfl, rfl⟩)
  have t3 : (k == 3) = false := by simpa using h3
  have t3n : (k != 3) = true := by simpa using h3
  clear h3; go_enter Tryz.func13, Tryz.ntmps13
  go_upto_region 1 with (fail)
  rw [← hW1, ← hN]
  clear hW1 hN; go_wp2
  go_ret2
  exact ⟨by rw [HE.out.1, HE.out.2]; rfl, HB1.out⟩
mutual
def qV : JV → Nat
 | ⟨k, t, l, f⟩ => 1 + qL l + qF f
def qL : List JV → Nat
 | [] => 0
 | v :: r => qV v + qL r
def qF : List JF → Nat
 | [] => 0
 | ⟨n, v⟩ :: r => qV v + qF r
end
theorem qV_mk (v : JV) : qV v = 1 + qL v.f2 + qF v.f3 := by cases v; simp [qV]
theorem jv_ind {P : JV → Prop} (h : ∀ v, (∀ x ∈ v.f2, P x) → (∀ y ∈ v.f3, P y.f1) → P v) : ∀ v, P v := by
 intro v
 obtain ⟨n, hn⟩ : ∃ n, qV v ≤ n := ⟨_, Nat.le_refl _⟩
 induction n generalizing v with
 | zero => rw [qV_mk] at hn; omega
 | succ n ih =>
  rw [qV_mk] at hn
  refine h v (fun x hx => ih x ?_) (fun y hy => ih y.f1 ?_)
  ·have : ∀ l : List JV, x ∈ l → qV x ≤ qL l := by
    intro l
    induction l with
    | nil => intro h; cases h
    | cons a r ihl =>
     intro h
     simp only [qL]
     cases h with
     | head => omega
     | tail _ h => have := ihl h; omega
   have := this _ hx
   omega
  ·have : ∀ l : List JF, y ∈ l → qV y.f1 ≤ qF l := by
    intro l
    induction l with
    | nil => intro h; cases h
    | cons a r ihl =>
     intro h
     cases a
     simp only [qF]
     cases h with
     | head => dsimp only; omega
     | tail _ h => have := ihl h; omega
   have := this _ hy
   omega
mutual
/-- Are two values the same? -/
def eqV : JV → JV → Bool
 | ⟨k, t, l, f⟩, b => decide (k = b.f0) && (decide (t = b.f1) && (eqL l b.f2 && eqF f b.f3))
def eqL : List JV → List JV → Bool
 | [], m => m.isEmpty
 | x :: r, [] => false
 | x :: r, y :: s => eqV x y && eqL r s
def eqF : List JF → List JF → Bool
 | [], m => m.isEmpty
 | x :: r, [] => false
 | ⟨n, x⟩ :: r, y :: s => (decide (n = y.f0) && eqV x y.f1) && eqF r s
end
theorem eqV_mk (a b : JV) : eqV a b = (decide (a.f0 = b.f0) && (decide (a.f1 = b.f1) && (eqL a.f2 b.f2 && eqF a.f3 b.f3))) := by cases a; rw [eqV]
theorem eqL_cons (x y : JV) (r s : List JV) : eqL (x :: r) (y :: s) = (eqV x y && eqL r s) := by rw [eqL]
/-- Are two fields the same? -/
def eqF1 (x y : JF) : Bool := decide (x.f0 = y.f0) && eqV x.f1 y.f1
theorem eqF_cons (x y : JF) (r s : List JF) : eqF (x :: r) (y :: s) = (eqF1 x y && eqF r s) := by cases x; rw [eqF]; rfl
theorem eqL_nil (l : List JV) : eqL [] l = l.isEmpty := by rw [eqL]
theorem eqF_nil (l : List JF) : eqF [] l = l.isEmpty := by rw [eqF]
theorem eqL_len : ∀ (l m : List JV), l.length ≠ m.length → eqL l m = false := by
 intro l
 induction l with
 | nil => intro m h; rw [eqL_nil]; cases m with
  | nil => exact absurd rfl h
  | cons y s => rfl
 | cons x r ih => intro m h; cases m with
  | nil => rw [eqL]
  | cons y s => rw [eqL_cons, ih s (by simp at h; exact h), Bool.and_false]
theorem eqF_len : ∀ (l m : List JF), l.length ≠ m.length → eqF l m = false := by
 intro l
 induction l with
 | nil => intro m h; rw [eqF_nil]; cases m with
  | nil => exact absurd rfl h
  | cons y s => rfl
 | cons x r ih => intro m h; cases m with
  | nil => cases x; rw [eqF]
  | cons y s => rw [eqF_cons, ih s (by simp at h; exact h), Bool.and_false]
theorem eqV_iff : ∀ (a b : JV), eqV a b = true ↔ a = b := by
 intro a
 refine jv_ind (P := fun a => ∀ b, eqV a b = true ↔ a = b) (fun a h2 h3 b => ?_) a
 have hL : ∀ l m : List JV, (∀ x ∈ l, ∀ y, eqV x y = true ↔ x = y) → (eqL l m = true ↔ l = m) := by
  intro l
  induction l with
  | nil => intro m _; rw [eqL_nil]; cases m <;> simp
  | cons x r ih => intro m h; cases m with
   | nil => rw [eqL]; simp
   | cons y s => rw [eqL_cons, Bool.and_eq_true, h x (by simp) y, ih s (fun z hz => h z (by simp [hz]))]; simp
 have hF : ∀ l m : List JF, (∀ x ∈ l, ∀ y, eqV x.f1 y = true ↔ x.f1 = y) → (eqF l m = true ↔ l = m) := by
  intro l
  induction l with
  | nil => intro m _; rw [eqF_nil]; cases m <;> simp
  | cons x r ih => intro m h; cases m with
   | nil => cases x; rw [eqF]; simp
   | cons y s =>
    rw [eqF_cons, Bool.and_eq_true, ih s (fun z hz => h z (by simp [hz]))]
    unfold eqF1
    rw [Bool.and_eq_true, h x (by simp) y.f1, decide_eq_true_eq]
    cases x; cases y; simp
 rw [eqV_mk, Bool.and_eq_true, Bool.and_eq_true, Bool.and_eq_true, hL _ _ h2, hF _ _ h3, decide_eq_true_eq, decide_eq_true_eq]
 cases a; cases b; simp
/-- A value that is read where it lies. -/
def Rd (v : JV) (A2 A3 : Option Addr) (w : World) : Prop := k25.C w A2 v.f2.length v.f2 ∧ k45.C w A3 v.f3.length v.f3
theorem Rd.below {v : JV} {A2 A3 : Option Addr} {w w' : World} (h : Rd v A2 A3 w) (hb : Below w.heap.size w w') : Rd v A2 A3 w' := ⟨Kd.C_below h.1 hb, Kd.C_below h.2 hb⟩
theorem Rd.alloc {v : JV} {A2 A3 : Option Addr} {w : World} (h : Rd v A2 A3 w) (o : Obj) : Rd v A2 A3 (w.alloc o) := ⟨Kd.C_alloc h.1 _, Kd.C_alloc h.2 _⟩
/-- The same is told of two values, wherever they are read. -/
def SameAt (x y : JV) : Prop := ∀ (W : World) (A2 A3 B2 B3 : Option Addr) (c2 c3 d2 d3 : Nat), Rd x A2 A3 W → Rd y B2 B3 W → Calls Tryz.prog 21 #[.agg #[.int .u8 x.f0, .string x.f1, .slice A2 x.f2.length c2, .slice A3 x.f3.length c3], .agg #[.int .u8 y.f0, .string y.f1, .slice B2 y.f2.length d2, .slice B3 y.f3.length d3]] W fun e W' => e = .returned (.bool (eqV x y)) ∧ Below W.heap.size W W'
def SameAt1 (x y : JF) : Prop := ∀ (W : World) (A2 A3 B2 B3 : Option Addr) (c2 c3 d2 d3 : Nat), Rd x.f1 A2 A3 W → Rd y.f1 B2 B3 W → Calls Tryz.prog 47 #[.agg #[.string x.f0, .int .u8 x.f1.f0, .string x.f1.f1, .slice A2 x.f1.f2.length c2, .slice A3 x.f1.f3.length c3], .agg #[.string y.f0, .int .u8 y.f1.f0, .string y.f1.f1, .slice B2 y.f1.f2.length d2, .slice B3 y.f1.f3.length d3]] W fun e W' => e = .returned (.bool (eqF1 x y)) ∧ Below W.heap.size W W'
theorem may_e2 {w wr : World} {A2 : Option Addr} {n2 j : Nat} {l : List JV} (hn : n2 = l.length) (hlt : j < n2) (hC : k25.C w A2 n2 l) (hB : Below w.heap.size w wr) : ∃ (ad : Addr) (A6 : Option Addr) (c6 : Nat) (A7 : Option Addr) (c7 : Nat) (x : JV), A2 = some ad ∧ wr.cell? (ad.add (j * 4)) = some (.int .u8 x.f0) ∧ wr.cell? ⟨(ad.add (j * 4)).block, (ad.add (j * 4)).off + 1, none⟩ = some (.string x.f1) ∧ wr.cell? ⟨(ad.add (j * 4)).block, (ad.add (j * 4)).off + 2, none⟩ = some (.slice A6 x.f2.length c6) ∧ wr.cell? ⟨(ad.add (j * 4)).block, (ad.add (j * 4)).off + 3, none⟩ = some (.slice A7 x.f3.length c7) ∧ (x ∈ l ∧ k25.C wr A6 x.f2.length x.f2 ∧ k45.C wr A7 x.f3.length x.f3 ∧ l.drop j = x :: l.drop (j + 1)) := by
 have hlt' : j < l.length := by omega
 obtain ⟨ad, A6, c6, A7, c7, hA2, n0, n1, n2', n3, _, g6, _, g7⟩ := at_T25 (Kd.C_below hC hB) j (by omega) (by omega)
 have hrd : rd_T25 l j = l[j] := by unfold rd_T25; rw [Int.toNat_natCast, List.getD_eq_getElem?_getD, List.getElem?_eq_getElem hlt']; rfl
 rw [hrd] at n0 n1 n2' n3 g6 g7
 rw [Int.toNat_natCast] at n0 n1 n2' n3
 exact ⟨ad, A6, c6, A7, c7, l[j], hA2, n0, n1, n2', n3, List.getElem_mem hlt', g6, g7, List.drop_eq_getElem_cons hlt'⟩
theorem may_e3 {w wr : World} {A2 : Option Addr} {n2 j : Nat} {l : List JF} (hn : n2 = l.length) (hlt : j < n2) (hC : k45.C w A2 n2 l) (hB : Below w.heap.size w wr) : ∃ (ad : Addr) (A6 : Option Addr) (c6 : Nat) (A7 : Option Addr) (c7 : Nat) (x : JF), A2 = some ad ∧ wr.cell? (ad.add (j * 5)) = some (.string x.f0) ∧ wr.cell? ⟨(ad.add (j * 5)).block, (ad.add (j * 5)).off + 1, none⟩ = some (.int .u8 x.f1.f0) ∧ wr.cell? ⟨(ad.add (j * 5)).block, (ad.add (j * 5)).off + 2, none⟩ = some (.string x.f1.f1) ∧ wr.cell? ⟨(ad.add (j * 5)).block, (ad.add (j * 5)).off + 3, none⟩ = some (.slice A6 x.f1.f2.length c6) ∧ wr.cell? ⟨(ad.add (j * 5)).block, (ad.add (j * 5)).off + 4, none⟩ = some (.slice A7 x.f1.f3.length c7) ∧ (x ∈ l ∧ k25.C wr A6 x.f1.f2.length x.f1.f2 ∧ k45.C wr A7 x.f1.f3.length x.f1.f3 ∧ l.drop j = x :: l.drop (j + 1)) := by
 have hlt' : j < l.length := by omega
 obtain ⟨ad, A6, c6, A7, c7, hA2, n0, n1, n2', n3, n4, _, g6, _, g7⟩ := at_T45 (Kd.C_below hC hB) j (by omega) (by omega)
 have hrd : rd_T45 l j = l[j] := by unfold rd_T45; rw [Int.toNat_natCast, List.getD_eq_getElem?_getD, List.getElem?_eq_getElem hlt']; rfl
 rw [hrd] at n0 n1 n2' n3 n4 g6 g7
 rw [Int.toNat_natCast] at n0 n1 n2' n3 n4
 exact ⟨ad, A6, c6, A7, c7, l[j], hA2, n0, n1, n2', n3, n4, List.getElem_mem hlt', g6, g7, List.drop_eq_getElem_cons hlt'⟩
set_option maxRecDepth 100000 in
set_option maxHeartbeats 4000000 in
theorem ef_L (l1 l2 : List JV) (A B : Option Addr) (c d : Nat) (w : World) (h1 : k25.C w A l1.length l1) (h2 : k25.C w B l2.length l2) (hl1 : l1.length ≤ 140737488351232) (hI : ∀ x ∈ l1, ∀ y, SameAt x y) :
  Calls Tryz.prog 45 #[.slice A l1.length c, .slice B l2.length d, .func (.func 21) #[] #[]] w fun e w' => e = .returned (.bool (eqL l1 l2)) ∧ Below w.heap.size w w' := by
 obtain ⟨res, hres⟩ : ∃ res, res = eqL l1 l2 := ⟨_, rfl⟩
 obtain ⟨n1, hn1⟩ : ∃ n, n = l1.length := ⟨_, rfl⟩
 obtain ⟨n2, hn2⟩ : ∃ n, n = l2.length := ⟨_, rfl⟩
 rw [← hres]
 rw [← hn1] at h1 hl1 ⊢
 rw [← hn2] at h2 ⊢
 have HN1 := Aside0.mk hn1; have HN2 := Aside0.mk hn2; have HRES := Aside0.mk hres; have HC1 := Aside0.mk h1; have HC2 := Aside0.mk h2; have HI := Aside0.mk hI; by_cases hne : n1 = n2
 ·have te : ((n1 : Int) == (n2 : Int)) = true := by simp only [beq_iff_eq]; omega
  have te2 : ((n1 : Int) != (n2 : Int)) = false := by simp only [bne_eq_false_iff_eq]; omega
  have te3 : (n1 == n2) = true := by simpa using hne
  have te4 : (n1 != n2) = false := by simpa using hne
  have HNE := Aside0.mk hne; clear hres hn1 hn2 h1 h2 hI hne; go_enter Tryz.func45, Tryz.ntmps45
  go_upto_region 4 with (fail)
  clear te te2 te3 te4; go_wp2
  go_loopw [17] (fun t17 w' => ∃ j : Nat, j ≤ n1 ∧ t17 = .int .i64 j ∧ Aside0 (res = eqL (l1.drop j) (l2.drop j)) ∧ Aside0 (Below w.heap.size w w')) (fun t17 _ => n1 - (intOf t17).toNat)
  case atStart => exact ⟨0, Nat.zero_le _, rfl, ⟨HRES.out⟩, ⟨Below.refl _ _⟩⟩
  case round =>
   obtain ⟨j, hj, rfl, HR1, HB5⟩ := hrel
   by_cases hlt : j < n1
   ·have tlt : decide ((j : Int) < (n1 : Int)) = true := decide_eq_true (by omega)
    have tln : decide (j < n1) = true := decide_eq_true (by omega)
    have hlt2 : j < n2 := by have := HNE.out; omega
    have HJ := Aside0.mk hlt; obtain ⟨ad, A6, c6, A7, c7, x, hA2, m0, m1, m2, m3, hx⟩ := may_e2 HN1.out hlt HC1.out HB5.out
    obtain ⟨bd, B6, d6, B7, d7, y, hB2, o0, o1, o2, o3, hy⟩ := may_e2 HN2.out hlt2 HC2.out HB5.out
    have HXX := Aside0.mk hx; have HYY := Aside0.mk hy; subst hA2 hB2
    clear hx hy; obtain ⟨E, hE⟩ : ∃ E, E = wr.heap.size := ⟨_, rfl⟩
    obtain ⟨W3, hW3⟩ : ∃ W3, W3 = wr.alloc (.cells #[.int .u8 x.f0, .string x.f1, .slice A6 x.f2.length c6, .slice A7 x.f3.length c7] 25 (0, 0)) := ⟨_, rfl⟩
    obtain ⟨E2, hE2⟩ : ∃ E2, E2 = W3.heap.size := ⟨_, rfl⟩
    obtain ⟨W4, hW4⟩ : ∃ W4, W4 = W3.alloc (.cells #[.int .u8 y.f0, .string y.f1, .slice B6 y.f2.length d6, .slice B7 y.f3.length d7] 25 (0, 0)) := ⟨_, rfl⟩
    have HE3 := Aside0.mk (show W4.heap[E]? = some (.cells #[.int .u8 x.f0, .string x.f1, .slice A6 x.f2.length c6, .slice A7 x.f3.length c7] 25 (0, 0)) by rw [hW4, hW3, hE]; exact blk_alloc (blk_new wr _) _)
    have HE4 := Aside0.mk (show W4.heap[E2]? = some (.cells #[.int .u8 y.f0, .string y.f1, .slice B6 y.f2.length d6, .slice B7 y.f3.length d7] 25 (0, 0)) by rw [hW4, hE2]; exact blk_new W3 _)
    have HB6 := Aside0.mk (show Below w.heap.size w W4 by rw [hW4, hW3]; exact below_alloc (below_alloc HB5.out _) _)
    have HG1 := Aside0.mk (show Rd x A6 A7 W4 by rw [hW4, hW3]; exact Rd.alloc (Rd.alloc ⟨HXX.out.2.1, HXX.out.2.2.1⟩ _) _)
    have HG2 := Aside0.mk (show Rd y B6 B7 W4 by rw [hW4, hW3]; exact Rd.alloc (Rd.alloc ⟨HYY.out.2.1, HYY.out.2.2.1⟩ _) _)
    have hb3 : Below wr.heap.size wr W3 := by rw [hW3]; exact below_alloc (Below.refl _ _) _
    have p0 := (hb3.cell (World.block_lt_of_cell? wr _ o0)).trans o0
    have p1 := (hb3.cell (World.block_lt_of_cell? wr _ o1)).trans o1
    have p2 := (hb3.cell (World.block_lt_of_cell? wr _ o2)).trans o2
    have p3 := (hb3.cell (World.block_lt_of_cell? wr _ o3)).trans o3
    clear hb3; have HW4 := Aside0.mk hW4; have HEE := Aside0.mk hE; have HEE2 := Aside0.mk hE2; clear hW4 hE hE2; go_upto_region 6 with (fail)
    rw [← hW3]
    clear hW3; go_upto_region 7 with (fail)
    rw [← HW4.out, ← HEE.out, ← HEE2.out]
    clear m0 m1 m2 m3 o0 o1 o2 o3 p0 p1 p2 p3 tlt tln hlt hlt2; have y0 := blk_cell HE3.out 0
    have z0 := blk_cell HE4.out 0
    have y1 := blk_cell HE3.out 1
    have z1 := blk_cell HE4.out 1
    have y2 := blk_cell HE3.out 2
    have z2 := blk_cell HE4.out 2
    have y3 := blk_cell HE3.out 3
    have z3 := blk_cell HE4.out 3
    have HCL := Aside0.mk (HI.out x HXX.out.1 y W4 A6 A7 B6 B7 c6 c7 d6 d7 HG1.out HG2.out)
    have HR2 := Aside0.mk (show res = (eqV x y && eqL (l1.drop (j + 1)) (l2.drop (j + 1))) by rw [HR1.out, HXX.out.2.2.2, HYY.out.2.2.2, eqL_cons])
    obtain ⟨cx, hcx⟩ : ∃ cx, cx = eqV x y := ⟨_, rfl⟩
    rw [← hcx] at HCL HR2
    clear hcx; cases cx
    ·go_wp2_with (go_at_call 21; refine HCL.out.mono ?_; rintro e w7 ⟨rfl, hb⟩; have HB7 := Aside0.mk (below_step HB6.out hb); clear hb)
     go_ret
     exact ⟨by rw [HR2.out]; rfl, HB7.out⟩
    ·go_wp2_with (go_at_call 21; refine HCL.out.mono ?_; rintro e w7 ⟨rfl, hb⟩; have HB7 := Aside0.mk (below_step HB6.out hb); clear hb)
     go_roundw
     case rel => exact ⟨j + 1, HJ.out, by go_num, ⟨by rw [HR2.out, Bool.true_and]⟩, HB7⟩
     case measure => have := HJ.out; simp [intOf]; omega
   ·have tlt : decide ((j : Int) < (n1 : Int)) = false := decide_eq_false (by omega)
    have tln : decide (j < n1) = false := decide_eq_false (by omega)
    have HE3 := Aside0.mk (show res = true by
     have h := HR1.out
     rw [List.drop_eq_nil_of_le (by have := HN1.out; omega), List.drop_eq_nil_of_le (by have := HN2.out; have := HNE.out; omega), eqL_nil] at h
     exact h)
    clear HR1 hlt; go_wp2
    go_ret
    exact ⟨by rw [HE3.out]; rfl, HB5.out⟩
 ·have te : ((n1 : Int) == (n2 : Int)) = false := by simp only [beq_eq_false_iff_ne, ne_eq]; omega
  have te2 : ((n1 : Int) != (n2 : Int)) = true := by simp only [bne_iff_ne, ne_eq]; omega
  have te3 : (n1 == n2) = false := by simpa using hne
  have te4 : (n1 != n2) = true := by simpa using hne
  have HE := Aside0.mk (show res = false by rw [HRES.out]; exact eqL_len l1 l2 (by have := HN1.out; have := HN2.out; omega))
  clear hres hn1 hn2 h1 h2 hI hne; go_enter Tryz.func45, Tryz.ntmps45
  go_wp2
  go_ret
  exact ⟨by rw [HE.out]; rfl, Below.refl _ _⟩
set_option maxRecDepth 100000 in
set_option maxHeartbeats 4000000 in
theorem ef_F (l1 l2 : List JF) (A B : Option Addr) (c d : Nat) (w : World) (h1 : k45.C w A l1.length l1) (h2 : k45.C w B l2.length l2) (hl1 : l1.length ≤ 140737488351232) (hI : ∀ x ∈ l1, ∀ y, SameAt1 x y) :
  Calls Tryz.prog 46 #[.slice A l1.length c, .slice B l2.length d, .func (.func 47) #[] #[]] w fun e w' => e = .returned (.bool (eqF l1 l2)) ∧ Below w.heap.size w w' := by
 obtain ⟨res, hres⟩ : ∃ res, res = eqF l1 l2 := ⟨_, rfl⟩
 obtain ⟨n1, hn1⟩ : ∃ n, n = l1.length := ⟨_, rfl⟩
 obtain ⟨n2, hn2⟩ : ∃ n, n = l2.length := ⟨_, rfl⟩
 rw [← hres]
 rw [← hn1] at h1 hl1 ⊢
 rw [← hn2] at h2 ⊢
 have HN1 := Aside0.mk hn1; have HN2 := Aside0.mk hn2; have HRES := Aside0.mk hres; have HC1 := Aside0.mk h1; have HC2 := Aside0.mk h2; have HI := Aside0.mk hI; by_cases hne : n1 = n2
 ·have te : ((n1 : Int) == (n2 : Int)) = true := by simp only [beq_iff_eq]; omega
  have te2 : ((n1 : Int) != (n2 : Int)) = false := by simp only [bne_eq_false_iff_eq]; omega
  have te3 : (n1 == n2) = true := by simpa using hne
  have te4 : (n1 != n2) = false := by simpa using hne
  have HNE := Aside0.mk hne; clear hres hn1 hn2 h1 h2 hI hne; go_enter Tryz.func46, Tryz.ntmps46
  go_upto_region 4 with (fail)
  clear te te2 te3 te4; go_wp2
  go_loopw [17] (fun t17 w' => ∃ j : Nat, j ≤ n1 ∧ t17 = .int .i64 j ∧ Aside0 (res = eqF (l1.drop j) (l2.drop j)) ∧ Aside0 (Below w.heap.size w w')) (fun t17 _ => n1 - (intOf t17).toNat)
  case atStart => exact ⟨0, Nat.zero_le _, rfl, ⟨HRES.out⟩, ⟨Below.refl _ _⟩⟩
  case round =>
   obtain ⟨j, hj, rfl, HR1, HB5⟩ := hrel
   by_cases hlt : j < n1
   ·have tlt : decide ((j : Int) < (n1 : Int)) = true := decide_eq_true (by omega)
    have tln : decide (j < n1) = true := decide_eq_true (by omega)
    have hlt2 : j < n2 := by have := HNE.out; omega
    have HJ := Aside0.mk hlt; obtain ⟨ad, A6, c6, A7, c7, x, hA2, m0, m1, m2, m3, m4, hx⟩ := may_e3 HN1.out hlt HC1.out HB5.out
    obtain ⟨bd, B6, d6, B7, d7, y, hB2, o0, o1, o2, o3, o4, hy⟩ := may_e3 HN2.out hlt2 HC2.out HB5.out
    have HXX := Aside0.mk hx; have HYY := Aside0.mk hy; subst hA2 hB2
    clear hx hy; obtain ⟨E, hE⟩ : ∃ E, E = wr.heap.size := ⟨_, rfl⟩
    obtain ⟨W3, hW3⟩ : ∃ W3, W3 = wr.alloc (.cells #[.string x.f0, .int .u8 x.f1.f0, .string x.f1.f1, .slice A6 x.f1.f2.length c6, .slice A7 x.f1.f3.length c7] 45 (0, 0)) := ⟨_, rfl⟩
    obtain ⟨E2, hE2⟩ : ∃ E2, E2 = W3.heap.size := ⟨_, rfl⟩
    obtain ⟨W4, hW4⟩ : ∃ W4, W4 = W3.alloc (.cells #[.string y.f0, .int .u8 y.f1.f0, .string y.f1.f1, .slice B6 y.f1.f2.length d6, .slice B7 y.f1.f3.length d7] 45 (0, 0)) := ⟨_, rfl⟩
    have HE3 := Aside0.mk (show W4.heap[E]? = some (.cells #[.string x.f0, .int .u8 x.f1.f0, .string x.f1.f1, .slice A6 x.f1.f2.length c6, .slice A7 x.f1.f3.length c7] 45 (0, 0)) by rw [hW4, hW3, hE]; exact blk_alloc (blk_new wr _) _)
    have HE4 := Aside0.mk (show W4.heap[E2]? = some (.cells #[.string y.f0, .int .u8 y.f1.f0, .string y.f1.f1, .slice B6 y.f1.f2.length d6, .slice B7 y.f1.f3.length d7] 45 (0, 0)) by rw [hW4, hE2]; exact blk_new W3 _)
    have HB6 := Aside0.mk (show Below w.heap.size w W4 by rw [hW4, hW3]; exact below_alloc (below_alloc HB5.out _) _)
    have HG1 := Aside0.mk (show Rd x.f1 A6 A7 W4 by rw [hW4, hW3]; exact Rd.alloc (Rd.alloc ⟨HXX.out.2.1, HXX.out.2.2.1⟩ _) _)
    have HG2 := Aside0.mk (show Rd y.f1 B6 B7 W4 by rw [hW4, hW3]; exact Rd.alloc (Rd.alloc ⟨HYY.out.2.1, HYY.out.2.2.1⟩ _) _)
    have hb3 : Below wr.heap.size wr W3 := by rw [hW3]; exact below_alloc (Below.refl _ _) _
    have p0 := (hb3.cell (World.block_lt_of_cell? wr _ o0)).trans o0
    have p1 := (hb3.cell (World.block_lt_of_cell? wr _ o1)).trans o1
    have p2 := (hb3.cell (World.block_lt_of_cell? wr _ o2)).trans o2
    have p3 := (hb3.cell (World.block_lt_of_cell? wr _ o3)).trans o3
    have p4 := (hb3.cell (World.block_lt_of_cell? wr _ o4)).trans o4
    clear hb3; have HW4 := Aside0.mk hW4; have HEE := Aside0.mk hE; have HEE2 := Aside0.mk hE2; clear hW4 hE hE2; go_upto_region 6 with (fail)
    rw [← hW3]
    clear hW3; go_upto_region 7 with (fail)
    rw [← HW4.out, ← HEE.out, ← HEE2.out]
    clear m0 m1 m2 m3 m4 o0 o1 o2 o3 o4 p0 p1 p2 p3 p4 tlt tln hlt hlt2; have y0 := blk_cell HE3.out 0
    have z0 := blk_cell HE4.out 0
    have y1 := blk_cell HE3.out 1
    have z1 := blk_cell HE4.out 1
    have y2 := blk_cell HE3.out 2
    have z2 := blk_cell HE4.out 2
    have y3 := blk_cell HE3.out 3
    have z3 := blk_cell HE4.out 3
    have y4 := blk_cell HE3.out 4
    have z4 := blk_cell HE4.out 4
    have HCL := Aside0.mk (HI.out x HXX.out.1 y W4 A6 A7 B6 B7 c6 c7 d6 d7 HG1.out HG2.out)
    have HR2 := Aside0.mk (show res = (eqF1 x y && eqF (l1.drop (j + 1)) (l2.drop (j + 1))) by rw [HR1.out, HXX.out.2.2.2, HYY.out.2.2.2, eqF_cons])
    obtain ⟨cx, hcx⟩ : ∃ cx, cx = eqF1 x y := ⟨_, rfl⟩
    rw [← hcx] at HCL HR2
    clear hcx; cases cx
    ·go_wp2_with (go_at_call 47; refine HCL.out.mono ?_; rintro e w7 ⟨rfl, hb⟩; have HB7 := Aside0.mk (below_step HB6.out hb); clear hb)
     go_ret
     exact ⟨by rw [HR2.out]; rfl, HB7.out⟩
    ·go_wp2_with (go_at_call 47; refine HCL.out.mono ?_; rintro e w7 ⟨rfl, hb⟩; have HB7 := Aside0.mk (below_step HB6.out hb); clear hb)
     go_roundw
     case rel => exact ⟨j + 1, HJ.out, by go_num, ⟨by rw [HR2.out, Bool.true_and]⟩, HB7⟩
     case measure => have := HJ.out; simp [intOf]; omega
   ·have tlt : decide ((j : Int) < (n1 : Int)) = false := decide_eq_false (by omega)
    have tln : decide (j < n1) = false := decide_eq_false (by omega)
    have HE3 := Aside0.mk (show res = true by
     have h := HR1.out
     rw [List.drop_eq_nil_of_le (by have := HN1.out; omega), List.drop_eq_nil_of_le (by have := HN2.out; have := HNE.out; omega), eqF_nil] at h
     exact h)
    clear HR1 hlt; go_wp2
    go_ret
    exact ⟨by rw [HE3.out]; rfl, HB5.out⟩
 ·have te : ((n1 : Int) == (n2 : Int)) = false := by simp only [beq_eq_false_iff_ne, ne_eq]; omega
  have te2 : ((n1 : Int) != (n2 : Int)) = true := by simp only [bne_iff_ne, ne_eq]; omega
  have te3 : (n1 == n2) = false := by simpa using hne
  have te4 : (n1 != n2) = true := by simpa using hne
  have HE := Aside0.mk (show res = false by rw [HRES.out]; exact eqF_len l1 l2 (by have := HN1.out; have := HN2.out; omega))
  clear hres hn1 hn2 h1 h2 hI hne; go_enter Tryz.func46, Tryz.ntmps46
  go_wp2
  go_ret
  exact ⟨by rw [HE.out]; rfl, Below.refl _ _⟩
set_option maxRecDepth 100000 in
set_option maxHeartbeats 4000000 in
theorem same1 (x y : JF) (H : SameAt x.f1 y.f1) : SameAt1 x y := by
 intro w A2 A3 B2 B3 c2 c3 d2 d3 h1 h2
 obtain ⟨res, hres⟩ : ∃ res, res = eqF1 x y := ⟨_, rfl⟩
 rw [← hres]
 have HRES := Aside0.mk hres; obtain ⟨W1, hW1⟩ : ∃ W1, W1 = (w.alloc (.cells #[.string x.f0, .int .u8 x.f1.f0, .string x.f1.f1, .slice A2 x.f1.f2.length c2, .slice A3 x.f1.f3.length c3] 45 (0, 0))).alloc (.cells #[.string y.f0, .int .u8 y.f1.f0, .string y.f1.f1, .slice B2 y.f1.f2.length d2, .slice B3 y.f1.f3.length d3] 45 (0, 0)) := ⟨_, rfl⟩
 obtain ⟨N, hN⟩ : ∃ N, N = w.heap.size := ⟨_, rfl⟩
 have HX := Aside0.mk (show W1.heap[N]? = some (.cells #[.string x.f0, .int .u8 x.f1.f0, .string x.f1.f1, .slice A2 x.f1.f2.length c2, .slice A3 x.f1.f3.length c3] 45 (0, 0)) by rw [hW1, hN]; exact blk_alloc (blk_new w _) _)
 have HY := Aside0.mk (show W1.heap[N + 1]? = some (.cells #[.string y.f0, .int .u8 y.f1.f0, .string y.f1.f1, .slice B2 y.f1.f2.length d2, .slice B3 y.f1.f3.length d3] 45 (0, 0)) by rw [hW1, hN]; have h := blk_new (w.alloc (.cells #[.string x.f0, .int .u8 x.f1.f0, .string x.f1.f1, .slice A2 x.f1.f2.length c2, .slice A3 x.f1.f3.length c3] 45 (0, 0))) (.cells #[.string y.f0, .int .u8 y.f1.f0, .string y.f1.f1, .slice B2 y.f1.f2.length d2, .slice B3 y.f1.f3.length d3] 45 (0, 0)); simpa using h)
 have HB1 := Aside0.mk (show Below w.heap.size w W1 by rw [hW1]; exact below_alloc (below_alloc (Below.refl _ _) _) _)
 have HCL := Aside0.mk (H W1 A2 A3 B2 B3 c2 c3 d2 d3 (by rw [hW1]; exact (h1.alloc _).alloc _) (by rw [hW1]; exact (h2.alloc _).alloc _))
 have x0 := blk_cell HX.out 0
 have y0 := blk_cell HY.out 0
 have x1 := blk_cell HX.out 1
 have y1 := blk_cell HY.out 1
 have x2 := blk_cell HX.out 2
 have y2 := blk_cell HY.out 2
 have x3 := blk_cell HX.out 3
 have y3 := blk_cell HY.out 3
 have x4 := blk_cell HX.out 4
 have y4 := blk_cell HY.out 4
 clear H h1 h2 hres; by_cases hn : x.f0 = y.f0
 ·have te : (x.f0.toList == y.f0.toList) = true := by rw [hn]; simp
  have HE := Aside0.mk (show res = eqV x.f1 y.f1 by rw [HRES.out]; unfold eqF1; rw [decide_eq_true hn, Bool.true_and])
  clear hn; go_enter Tryz.func47, Tryz.ntmps47
  go_upto_region 1 with (fail)
  rw [← hW1, ← hN]
  clear hW1 hN; go_wp2_with (go_at_call 21; refine HCL.out.mono ?_; rintro e w7 ⟨rfl, hb⟩; have HB7 := Aside0.mk (below_step HB1.out hb); clear hb)
  go_ret
  exact ⟨by rw [HE.out]; rfl, HB7.out⟩
 ·have te : (x.f0.toList == y.f0.toList) = false := by
   have h : x.f0.toList ≠ y.f0.toList := fun h => hn (by rw [ByteArray.toList_eq, ByteArray.toList_eq] at h; apply ByteArray.ext; exact Array.toList_inj.1 h)
   simpa using h
  have HE := Aside0.mk (show res = false by rw [HRES.out]; unfold eqF1; rw [decide_eq_false hn, Bool.false_and])
  clear hn; go_enter Tryz.func47, Tryz.ntmps47
  go_upto_region 1 with (fail)
  rw [← hW1, ← hN]
  clear hW1 hN; go_wp2
  go_ret
  exact ⟨by rw [HE.out]; rfl, HB1.out⟩
set_option maxRecDepth 100000 in
set_option maxHeartbeats 4000000 in
theorem same_go (a b : JV) (hl : a.f2.length ≤ 140737488351232 ∧ a.f3.length ≤ 140737488351232) (H2 : ∀ x ∈ a.f2, ∀ y, SameAt x y) (H3 : ∀ x ∈ a.f3, ∀ y, SameAt1 x y) : SameAt a b := by
 intro w A2 A3 B2 B3 c2 c3 d2 d3 h1 h2
 obtain ⟨res, hres⟩ : ∃ res, res = eqV a b := ⟨_, rfl⟩
 rw [← hres]
 rw [eqV_mk] at hres
 have HRES := Aside0.mk hres; obtain ⟨W1, hW1⟩ : ∃ W1, W1 = (w.alloc (.cells #[.int .u8 a.f0, .string a.f1, .slice A2 a.f2.length c2, .slice A3 a.f3.length c3] 25 (0, 0))).alloc (.cells #[.int .u8 b.f0, .string b.f1, .slice B2 b.f2.length d2, .slice B3 b.f3.length d3] 25 (0, 0)) := ⟨_, rfl⟩
 obtain ⟨N, hN⟩ : ∃ N, N = w.heap.size := ⟨_, rfl⟩
 have HX := Aside0.mk (show W1.heap[N]? = some (.cells #[.int .u8 a.f0, .string a.f1, .slice A2 a.f2.length c2, .slice A3 a.f3.length c3] 25 (0, 0)) by rw [hW1, hN]; exact blk_alloc (blk_new w _) _)
 have HY := Aside0.mk (show W1.heap[N + 1]? = some (.cells #[.int .u8 b.f0, .string b.f1, .slice B2 b.f2.length d2, .slice B3 b.f3.length d3] 25 (0, 0)) by rw [hW1, hN]; have h := blk_new (w.alloc (.cells #[.int .u8 a.f0, .string a.f1, .slice A2 a.f2.length c2, .slice A3 a.f3.length c3] 25 (0, 0))) (.cells #[.int .u8 b.f0, .string b.f1, .slice B2 b.f2.length d2, .slice B3 b.f3.length d3] 25 (0, 0)); simpa using h)
 have HB1 := Aside0.mk (show Below w.heap.size w W1 by rw [hW1]; exact below_alloc (below_alloc (Below.refl _ _) _) _)
 have HRa := Aside0.mk (show Rd a A2 A3 W1 by rw [hW1]; exact (h1.alloc _).alloc _)
 have HRb := Aside0.mk (show Rd b B2 B3 W1 by rw [hW1]; exact (h2.alloc _).alloc _)
 have HL1 := Aside0.mk (fun (W : World) (ha : Rd a A2 A3 W) (hb : Rd b B2 B3 W) => ef_L a.f2 b.f2 A2 B2 c2 d2 W ha.1 hb.1 hl.1 H2)
 have HL2 := Aside0.mk (fun (W : World) (ha : Rd a A2 A3 W) (hb : Rd b B2 B3 W) => ef_F a.f3 b.f3 A3 B3 c3 d3 W ha.2 hb.2 hl.2 H3)
 have x0 := blk_cell HX.out 0
 have y0 := blk_cell HY.out 0
 have x1 := blk_cell HX.out 1
 have y1 := blk_cell HY.out 1
 have x2 := blk_cell HX.out 2
 have y2 := blk_cell HY.out 2
 have x3 := blk_cell HX.out 3
 have y3 := blk_cell HY.out 3
 obtain ⟨q1, hq1⟩ : ∃ q1, q1 = eqL a.f2 b.f2 := ⟨_, rfl⟩
 obtain ⟨q2, hq2⟩ : ∃ q2, q2 = eqF a.f3 b.f3 := ⟨_, rfl⟩
 rw [← hq1] at HL1 HRES
 rw [← hq2] at HL2 HRES
 clear H2 H3 h1 h2 hres hl hq1 hq2; by_cases hk : a.f0 = b.f0
 ·have tk : (a.f0 == b.f0) = true := by simpa using hk
  by_cases ht : a.f1 = b.f1
  ·have te : (a.f1.toList == b.f1.toList) = true := by rw [ht]; simp
   have HE := Aside0.mk (show res = (q1 && q2) by rw [HRES.out, decide_eq_true hk, decide_eq_true ht, Bool.true_and, Bool.true_and])
   clear hk ht; cases q1
   ·go_enter Tryz.func21, Tryz.ntmps21
    go_upto_region 1 with (fail)
    rw [← hW1, ← hN]
    clear hW1 hN; go_wp2_with (go_at_call 45; refine (HL1.out _ HRa.out HRb.out).mono ?_; rintro e w7 ⟨rfl, hb⟩; have HB7 := Aside0.mk (below_step HB1.out hb); clear hb)
    go_ret
    exact ⟨by rw [HE.out]; rfl, HB7.out⟩
   ·go_enter Tryz.func21, Tryz.ntmps21
    go_upto_region 1 with (fail)
    rw [← hW1, ← hN]
    clear hW1 hN; go_wp2_with (first | (go_at_call 45; refine (HL1.out _ HRa.out HRb.out).mono ?_; rintro e w7 ⟨rfl, hb⟩; have HB7 := Aside0.mk (below_step HB1.out hb); have HRa7 := Aside0.mk (HRa.out.below hb); have HRb7 := Aside0.mk (HRb.out.below hb); have HX7 := Aside0.mk (blk_below HX.out hb); have HY7 := Aside0.mk (blk_below HY.out hb); have u3 := blk_cell HX7.out 3; have v3 := blk_cell HY7.out 3; clear hb) | (go_at_call 46; refine (HL2.out _ HRa7.out HRb7.out).mono ?_; rintro e w8 ⟨rfl, hb⟩; have HB8 := Aside0.mk (below_step HB7.out hb); clear hb))
    go_ret
    exact ⟨by rw [HE.out]; rfl, HB8.out⟩
  ·have te : (a.f1.toList == b.f1.toList) = false := by
    have h : a.f1.toList ≠ b.f1.toList := fun h => ht (by rw [ByteArray.toList_eq, ByteArray.toList_eq] at h; apply ByteArray.ext; exact Array.toList_inj.1 h)
    simpa using h
   have HE := Aside0.mk (show res = false by rw [HRES.out, decide_eq_false ht, Bool.false_and, Bool.and_false])
   clear hk ht; go_enter Tryz.func21, Tryz.ntmps21
   go_upto_region 1 with (fail)
   rw [← hW1, ← hN]
   clear hW1 hN; go_wp2
   go_ret
   exact ⟨by rw [HE.out]; rfl, HB1.out⟩
 ·have tk : (a.f0 == b.f0) = false := by simpa using hk
  have HE := Aside0.mk (show res = false by rw [HRES.out, decide_eq_false hk, Bool.false_and])
  clear hk; go_enter Tryz.func21, Tryz.ntmps21
  go_upto_region 1 with (fail)
  rw [← hW1, ← hN]
  clear hW1 hN; go_wp2
  go_ret
  exact ⟨by rw [HE.out]; rfl, HB1.out⟩
/-- Rows are in bounds. -/
inductive Bd : JV → Prop
 | mk (v : JV) (h2 : v.f2.length ≤ 140737488351232) (h3 : v.f3.length ≤ 140737488351232) (hl : ∀ x ∈ v.f2, Bd x) (hf : ∀ y ∈ v.f3, Bd y.f1) : Bd v
theorem jsontext_Same.calls (a b : JV) (h : Bd a) : SameAt a b := by
 induction h generalizing b with
 | mk v h2 h3 _ _ ih2 ih3 => exact same_go v b ⟨h2, h3⟩ (fun x hx y => ih2 x hx y) (fun x hx y => same1 x y (ih3 x hx y.f1))
theorem C_two {α : Type} (d : Kd α) {w : World} {g : Nat} {c1 c2 : List Value} {T : TypeId} {fz : Nat × Nat} {p q : α} (h : w.heap[g]? = some (.cells (c1 ++ c2).toArray T fz)) (k1 : d.K w p c1) (k2 : d.K w q c2) : d.C w (some ⟨g, 0, none⟩) 2 [p, q] := by
 refine ⟨rfl, by decide, fun _ => ⟨_, rfl, fun j r hj => ?_⟩⟩
 have hadd : ∀ m, (⟨g, 0, none⟩ : Addr).add m = ⟨g, m, none⟩ := fun m => by unfold Addr.add; split <;> simp_all
 have l1 := d.K_len k1
 match j, hj with
 | 0, hj =>
  obtain rfl := Option.some.inj hj
  refine ⟨c1, l1, k1, fun i u hu => ?_⟩
  rw [hadd, cell_of_row w g _ _ T fz h, Nat.zero_mul, Nat.zero_add]
  have hi := (List.getElem?_eq_some_iff.1 hu).1
  simp only [List.getElem?_toArray]
  rw [List.getElem?_append_left hi]
  exact hu
 | 1, hj =>
  obtain rfl := Option.some.inj hj
  refine ⟨c2, d.K_len k2, k2, fun i u hu => ?_⟩
  rw [hadd, cell_of_row w g _ _ T fz h, Nat.one_mul]
  simp only [List.getElem?_toArray]
  rw [List.getElem?_append_right (by omega), l1, Nat.add_sub_cancel_left]
  exact hu
theorem sz_flat {M : Nat} (k : Int) (t : ByteArray) (h0 : 0 ≤ k) (h1 : t.size ≤ M) : Sz M ⟨k, t, [], []⟩ := .mk _ h0 h1 (by simp) (by simp) (fun x hx => by cases hx) (fun x hx => by cases hx) (fun x hx => by cases hx)
def awL : JV := ⟨5, ⟨#[]⟩, [⟨3, ⟨#[49]⟩, [], []⟩, ⟨0, ⟨#[]⟩, [], []⟩], []⟩
def awF : List JF := [⟨⟨#[97]⟩, awL⟩, ⟨⟨#[195, 169]⟩, ⟨4, ⟨#[34, 10, 1, 127]⟩, [], []⟩⟩]
def awV : JV := ⟨6, ⟨#[]⟩, [], awF⟩
theorem awL_sz : Sz 1048576 awL := .mk _ (by decide) (by decide) (by decide) (by decide) (fun x hx => by
  rcases List.mem_cons.1 hx with rfl | hx
  ·exact sz_flat _ _ (by decide) (by decide)
  ·rcases List.mem_cons.1 hx with rfl | hx
   ·exact sz_flat _ _ (by decide) (by decide)
   ·cases hx) (fun x hx => by cases hx) (fun x hx => by cases hx)
theorem awV_sz : Sz 1048576 awV := .mk _ (by decide) (by decide) (by decide) (by decide) (fun x hx => by cases hx) (fun x hx => by
  rcases List.mem_cons.1 hx with rfl | hx
  ·decide
  ·rcases List.mem_cons.1 hx with rfl | hx
   ·decide
   ·cases hx) (fun x hx => by
  rcases List.mem_cons.1 hx with rfl | hx
  ·exact awL_sz
  ·rcases List.mem_cons.1 hx with rfl | hx
   ·exact sz_flat _ _ (by decide) (by decide)
   ·cases hx)
set_option maxRecDepth 100000 in
theorem aw_p1 : printedV awV = (⟨#[123, 34, 97, 34, 58, 91, 49, 44, 110, 117, 108, 108, 93, 44, 34, 195, 169, 34, 58, 34, 92, 34, 92, 110, 92, 117, 48, 48, 48, 49, 127, 34, 125]⟩, 0) := by kernel_rfl
set_option maxRecDepth 100000 in
theorem aw_l1 : (wrD 64 awV).length ≤ 140737488300000 := of_decide_eq_true (by kernel_rfl)
set_option maxRecDepth 100000 in
theorem aw_p2 : printedV ⟨3, ⟨#[48, 49]⟩, [], []⟩ = (⟨#[]⟩, 40) := by kernel_rfl
theorem aw_l2 : (wrD 64 ⟨3, ⟨#[48, 49]⟩, [], []⟩).length ≤ 140737488300000 := of_decide_eq_true (by kernel_rfl)
set_option maxRecDepth 100000 in
theorem aw_i1 : intV ⟨3, ⟨#[45, 49, 50]⟩, [], []⟩ = (-12, true) := by kernel_rfl
set_option maxRecDepth 100000 in
theorem aw_i2 : intV ⟨3, ⟨#[49, 46, 48]⟩, [], []⟩ = (0, false) := by kernel_rfl
theorem aw_r1 : Lib.atoiAll (⟨#[45, 49, 50]⟩ : ByteArray).data.toList ≠ .range := of_decide_eq_true (by kernel_rfl)
theorem aw_r2 : Lib.atoiAll (⟨#[49, 46, 48]⟩ : ByteArray).data.toList ≠ .range := of_decide_eq_true (by kernel_rfl)
set_option maxRecDepth 100000 in
theorem aw_q : jsontext_Quote.f ⟨#[97, 92, 98, 255]⟩ = some ⟨#[34, 97, 92, 92, 98, 239, 191, 189, 34]⟩ := by kernel_rfl
set_option maxRecDepth 100000 in
set_option maxHeartbeats 4000000 in
theorem glossatorlaw04_awake.calls (w : World) (hG : GlobOk w) : Calls Tryz.prog 7 #[] w fun e w' => e = .returned (.bool true) ∧ Below w.heap.size w w' := by
 have HG := Aside0.mk hG; clear hG; obtain ⟨Wa, hWa⟩ : ∃ Wa, Wa = w.alloc (.cells #[.int .u8 3, .string ⟨#[49]⟩, .slice none 0 0, .slice none 0 0, .int .u8 0, .string ⟨#[]⟩, .slice none 0 0, .slice none 0 0] 25 (0, 0)) := ⟨_, rfl⟩
 obtain ⟨Wb, hWb⟩ : ∃ Wb, Wb = Wa.alloc (.cells #[.string ⟨#[97]⟩, .int .u8 5, .string ⟨#[]⟩, .slice (some ⟨w.heap.size, 0, none⟩) 2 2, .slice none 0 0, .string ⟨#[195, 169]⟩, .int .u8 4, .string ⟨#[34, 10, 1, 127]⟩, .slice none 0 0, .slice none 0 0] 45 (0, 0)) := ⟨_, rfl⟩
 obtain ⟨W1, hW1⟩ : ∃ W1, W1 = Wb.alloc (.cells #[.int .u8 6, .string ⟨#[]⟩, .slice none 0 0, .slice (some ⟨w.heap.size + 1, 0, none⟩) 2 2] 25 (0, 0)) := ⟨_, rfl⟩
 have ha : Wa.heap.size = w.heap.size + 1 := by rw [hWa]; simp
 have hb : Wb.heap.size = w.heap.size + 1 + 1 := by rw [hWb]; simp [ha]
 have HB1 := Aside0.mk (show Below w.heap.size w W1 by rw [hW1, hWb, hWa]; exact below_alloc (below_alloc (below_alloc (Below.refl _ _) _) _) _)
 have hV := show W1.heap[w.heap.size + 1 + 1]? = some (.cells #[.int .u8 6, .string ⟨#[]⟩, .slice none 0 0, .slice (some ⟨w.heap.size + 1, 0, none⟩) 2 2] 25 (0, 0)) by rw [hW1, ← hb]; exact blk_new Wb _
 have hcL : k25.C Wa (some ⟨w.heap.size, 0, none⟩) awL.f2.length awL.f2 := by
  refine C_two k25 (c1 := [.int .u8 3, .string ⟨#[49]⟩, .slice none 0 0, .slice none 0 0]) (c2 := [.int .u8 0, .string ⟨#[]⟩, .slice none 0 0, .slice none 0 0]) (by rw [hWa]; exact blk_new w _) ?_ ?_
  ·exact k25_mk Wa ⟨3, ⟨#[49]⟩, [], []⟩ (Nat.le_refl _) (Kd.C_nil _ _) (Nat.le_refl _) (Kd.C_nil _ _)
  ·exact k25_mk Wa ⟨0, ⟨#[]⟩, [], []⟩ (Nat.le_refl _) (Kd.C_nil _ _) (Nat.le_refl _) (Kd.C_nil _ _)
 have hcF : k45.C Wb (some ⟨w.heap.size + 1, 0, none⟩) awF.length awF := by
  refine C_two k45 (c1 := [.string ⟨#[97]⟩, .int .u8 5, .string ⟨#[]⟩, .slice (some ⟨w.heap.size, 0, none⟩) 2 2, .slice none 0 0]) (c2 := [.string ⟨#[195, 169]⟩, .int .u8 4, .string ⟨#[34, 10, 1, 127]⟩, .slice none 0 0, .slice none 0 0]) (by rw [hWb, ← ha]; exact blk_new Wa _) ?_ ?_
  ·exact k45_mk Wb ⟨⟨#[97]⟩, awL⟩ (Nat.le_refl _) (by rw [hWb]; exact Kd.C_alloc hcL _) (Nat.le_refl _) (Kd.C_nil _ _)
  ·exact k45_mk Wb ⟨⟨#[195, 169]⟩, ⟨4, ⟨#[34, 10, 1, 127]⟩, [], []⟩⟩ (Nat.le_refl _) (Kd.C_nil _ _) (Nat.le_refl _) (Kd.C_nil _ _)
 have HX := Aside0.mk hV; have HP1 := Aside0.mk (jsontext_Print.calls awV none (some ⟨w.heap.size + 1, 0, none⟩) 0 2 W1 (HG.out.below HB1.out) awV_sz aw_l1 (Kd.C_nil _ _) (by rw [hW1]; exact Kd.C_alloc hcF _))
 rw [aw_p1] at HP1
 clear hV hcL hcF; go_enter Tryz.func7, Tryz.ntmps7
 have HWa := Aside0.mk hWa; have HWb := Aside0.mk hWb; have HW1 := Aside0.mk hW1; have HN := Aside0.mk (show w.heap.size + 1 = Wa.heap.size ∧ w.heap.size + 1 + 1 = Wb.heap.size from ⟨ha.symm, hb.symm⟩)
 clear hWa hWb hW1 ha hb; go_upto_region 2 with (fail)
 rw [← HWa.out, ← HWb.out, ← HW1.out]
 have x0 := blk_cell HX.out 0
 have x1 := blk_cell HX.out 1
 have x2 := blk_cell HX.out 2
 have x3 := blk_cell HX.out 3
 go_upto_region 3 with (go_at_call 9; refine HP1.out.mono ?_; rintro e w2 ⟨rfl, hb⟩; have HB2 := Aside0.mk (below_step HB1.out hb); clear hb)
 clear x0 x1 x2 x3; have HP2 := Aside0.mk (jsontext_Print.calls ⟨3, ⟨#[48, 49]⟩, [], []⟩ none none 0 0 w2 (HG.out.below HB2.out) (sz_flat _ _ (by decide) (by decide)) aw_l2 (Kd.C_nil _ _) (Kd.C_nil _ _))
 rw [aw_p2] at HP2
 go_upto_region 4 with (go_at_call 9; refine HP2.out.mono ?_; rintro e w3 ⟨rfl, hb⟩; have HB3 := Aside0.mk (below_step HB2.out hb); clear hb)
 have HI1 := Aside0.mk (jsontext_Int.calls ⟨3, ⟨#[45, 49, 50]⟩, [], []⟩ none none 0 0 0 0 w3 (HG.out.below HB3.out) (by decide) (fun _ h => absurd h aw_r1))
 rw [aw_i1] at HI1
 go_upto_region 5 with (go_at_call 13; refine HI1.out.mono ?_; rintro e w4 ⟨rfl, hb⟩; have HB4 := Aside0.mk (below_step HB3.out hb); clear hb)
 have HI2 := Aside0.mk (jsontext_Int.calls ⟨3, ⟨#[49, 46, 48]⟩, [], []⟩ none none 0 0 0 0 w4 (HG.out.below HB4.out) (by decide) (fun _ h => absurd h aw_r2))
 rw [aw_i2] at HI2
 go_upto_region 6 with (go_at_call 13; refine HI2.out.mono ?_; rintro e w5 ⟨rfl, hb⟩; have HB5 := Aside0.mk (below_step HB4.out hb); clear hb)
 have HQ := Aside0.mk aw_q; go_wp2_with (go_at_call 16; refine (jsontext_Quote.calls _ _ _ HQ.out).mono ?_; rintro e w6 ⟨rfl, hb⟩; have HB6 := Aside0.mk (below_step HB5.out hb); clear hb)
 go_ret
 exact ⟨rfl, HB6.out⟩
def jsontext_Text.f (a0 : ByteArray) : Option (Int × ByteArray × (List (S25)) × (List (S45))) := (utf_Fix.f a0).bind fun t171 => (some (4, t171, ([] : List (S25)), ([] : List (S45))))
set_option maxHeartbeats 8000000 in
set_option maxRecDepth 100000 in
theorem jsontext_Text.calls (a0 : ByteArray) (r1 : Int) (r2 : ByteArray) (r3 : List (S25)) (r4 : List (S45)) (w : World) (hG : GlobOk w) (h : jsontext_Text.f a0 = some (r1, r2, r3, r4)) :
  Calls Tryz.prog 15 #[.string a0] w fun e w' => ∃ v2_ v3_ : Value, e = .returned (.agg #[.int .u8 r1, .string r2, v2_, v3_]) ∧ Kd.R k25 25 w' w.heap.size (fun k_ => some k_ ≠ (v3_ : Value).ownBlock) v2_ r3 ∧ Kd.R k45 45 w' w.heap.size (fun k_ => some k_ ≠ (v2_ : Value).ownBlock) v3_ r4 ∧ Below w.heap.size w w' := by
 have HG := Aside0.mk hG; clear hG; have hu25 := Tryz.underlying25
 have HB := Aside0.mk (Below.refl w.heap.size w)
 have H : ((utf_Fix.f a0).bind fun t171 => (some (4, t171, ([] : List (S25)), ([] : List (S45))))) = some (r1, r2, r3, r4) := h
 clear h; replace H := Option.bind_eq_some_iff.mp H
 obtain ⟨t171, A20, H⟩ := H
 replace H : (some (4, t171, ([] : List (S25)), ([] : List (S45)))) = some (r1, r2, r3, r4) := H
 have A2 := Aside0.mk A20; clear A20; simp only [Option.some.injEq, Prod.mk.injEq] at H
 obtain ⟨rfl, rfl, rfl, rfl⟩ := H
 go_enter Tryz.func15, Tryz.ntmps15
 go_wp2_with (first | ((with_reducible refine gate_dst (N := 2) rfl ?_); refine box_event ?hg (N := 2) ?hd (cs := #[.int .u8 0, .string (⟨#[]⟩ : ByteArray), .slice none 0 0, .slice none 0 0]) (t := 25) ?hr ?_; (case hd => rfl); (case hg => rfl); (case hr => first | (go_simp; done) | (go_simp; rfl)); intro gb170 hg w3 hbox hb; have n0_ := Aside0.mk (below_step (bl HB) hb); have n1_ := Aside0.mk (hbox); have n2_ := Aside0.mk ((by rw [hg]; exact (below_size (bl HB)) : w.heap.size ≤ gb170)); have n3_ := Aside0.mk ((by rw [hg]; exact (below_size (bl HB)) : w.heap.size ≤ gb170)); clear HB; have HB := n0_; have BK170 := n1_; have GW170 := n2_; have GE170 := n3_; clear n0_ n1_ n2_ n3_; clear hb hbox hg) | ((with_reducible refine gate_callee (f := 37) rfl ?_); refine goesL_ (some 4) rfl rfl Tryz.func37 (by kernel_rfl) rfl #[.string a0] rfl (by (try simp only [List.map_toArray, List.map_cons, List.map_nil]); first | done | rfl | (simp only [List.length_drop, List.length_take]; rfl)) ?_; (with_reducible refine (utf_Fix.calls a0 t171 _ (by first | exact HG.out | exact GlobOk.below HG.out (by repeat (first | (with_reducible first | exact HB.out | apply below_alloc | apply pw_below_drewN | apply below_drew1 | refine below_set ?_ GE170.out) | exact HB.out))) A2.out).mono ?_); rintro e w4 ⟨rfl, hb⟩; refine ⟨_, rfl, ?_⟩; have n0_ := Aside0.mk (blk_below (g := gb170) (o := .cells #[.int .u8 0, .string (⟨#[]⟩ : ByteArray), .slice none 0 0, .slice none 0 0] 25 (0, 0)) (kl BK170) hb); have n1_ := Aside0.mk (below_step (by repeat (first | (with_reducible first | exact HB.out | apply below_alloc | apply pw_below_drewN | apply below_drew1 | refine below_set ?_ GE170.out) | exact HB.out)) hb); clear BK170; clear HB; have BK170 := n0_; have HB := n1_; clear n0_ n1_; (try clear hb); (try clear hb2); (try clear hk); (try clear hi); have hcz5_0 : w4.cell? ⟨gb170, 0, none⟩ = some (.int .u8 0) := (blk_cell BK170.out 0).trans rfl; have hcz5_1 : w4.cell? ⟨gb170, 1, none⟩ = some (.string (⟨#[]⟩ : ByteArray)) := (blk_cell BK170.out 1).trans rfl; have hcz5_2 : w4.cell? ⟨gb170, 2, none⟩ = some (.slice none 0 0) := (blk_cell BK170.out 2).trans rfl; have hcz5_3 : w4.cell? ⟨gb170, 3, none⟩ = some (.slice none 0 0) := (blk_cell BK170.out 3).trans rfl; have hfz5_0 := blk_frozen BK170.out 0; have hfz5_1 := blk_frozen BK170.out 1; have hfz5_2 := blk_frozen BK170.out 2; have hfz5_3 := blk_frozen BK170.out 3))
 refine bodyPost_ret (results_cell_row rfl _ _ gb170 25 #[.int .u8 4, .string t171, .slice none 0 0, .slice none 0 0] (0, 0) _ rfl (by (with_reducible repeat (first | refine blk_drewN ?_ _ | refine blk_drew ?_ | refine blk_alloc ?_ _)); refine blk_put (cs := #[.int .u8 4, .string t171, .slice none 0 0, .slice none 0 0]) ?_ 3 _ rfl; (with_reducible repeat (first | refine blk_drewN ?_ _ | refine blk_drew ?_ | refine blk_alloc ?_ _)); refine blk_put (cs := #[.int .u8 4, .string t171, .slice none 0 0, .slice none 0 0]) ?_ 2 _ rfl; (with_reducible repeat (first | refine blk_drewN ?_ _ | refine blk_drew ?_ | refine blk_alloc ?_ _)); refine blk_put (cs := #[.int .u8 4, .string (⟨#[]⟩ : ByteArray), .slice none 0 0, .slice none 0 0]) ?_ 1 _ rfl; (with_reducible repeat (first | refine blk_drewN ?_ _ | refine blk_drew ?_ | refine blk_alloc ?_ _)); refine blk_put (cs := #[.int .u8 0, .string (⟨#[]⟩ : ByteArray), .slice none 0 0, .slice none 0 0]) ?_ 0 _ rfl; (with_reducible repeat (first | refine blk_drewN ?_ _ | refine blk_drew ?_ | refine blk_alloc ?_ _)); exact BK170.out) Tryz.underlying25 rfl (by kernel_rfl)) rfl ?_
 exact ⟨_, _, by first | rfl | (simp [errW_none, errW_some] <;> rfl) | (simp [*, errW_none, errW_some] <;> rfl), by first | exact Kd.R_nil _ _ _ _ _ | exact Kd.N_nil _ _ _ _ _ | exact Kd.V_nil _ _ _ _ _ | exact Kd.Q_nil _ _ _ _ _ | exact Kd.S_nil _ _ _ _ _, by first | exact Kd.R_nil _ _ _ _ _ | exact Kd.N_nil _ _ _ _ _ | exact Kd.V_nil _ _ _ _ _ | exact Kd.Q_nil _ _ _ _ _ | exact Kd.S_nil _ _ _ _ _, by repeat (first | (with_reducible first | exact HB.out | apply below_alloc | apply pw_below_drewN | apply below_drew1 | refine below_set ?_ GE170.out) | exact HB.out)⟩
def strconv_Itoa.f (a0 : Int) : Option ByteArray := if -9223372036854775808 ≤ a0 then (if a0 ≤ 9223372036854775807 then some ⟨(Lib.itoa a0).toArray⟩ else none) else none
theorem strconv_Itoa.calls (a0 : Int) (r : ByteArray) (w : World) (hG : GlobOk w) (h : strconv_Itoa.f a0 = some r) :
  Calls Tryz.prog 36 #[.int .i64 a0] w fun e w' => e = .returned (.string r) ∧ Below w.heap.size w w' := by
 unfold strconv_Itoa.f at h
 split at h
 ·split at h
  ·rename_i h0 h1
   obtain rfl := Option.some.inj h
   refine (Tryz.strconv_Itoa a0 h0 h1 w hG.tab).mono ?_
   rintro e w' ⟨rfl, k, os, rfl⟩
   exact ⟨rfl, Lib.below_grow _ w (Nat.le_refl _) k os⟩
  ·cases h
 ·cases h
end Go.Proofs.YtebmgmagdhedgaaGreatDoor.Q

end
section
namespace Go.Proofs.YtebmgmagdhedgaaGreatDoor.Q
open Go.RowKit Go.Proofs.YtebmgmagdhedgaaGreatDoorW.PrintWords Go.Proofs.YtebmgmagdhedgaaGreatDoorW.PrintLast Go.Proofs.YtebmgmagdhedgaaGreatDoorW.PrintMore
attribute [local go_sem] max2_int min2_int max_two min_two max_three min_three max_four min_four   
set_option linter.unusedVariables false
set_option linter.unusedSimpArgs false
def jsontext_Number.f (a0 : Int) : Option (Int × ByteArray × (List (S25)) × (List (S45))) := (strconv_Itoa.f a0).bind fun t173 => (some (3, t173, ([] : List (S25)), ([] : List (S45))))
set_option maxHeartbeats 8000000 in
set_option maxRecDepth 100000 in
theorem jsontext_Number.calls (a0 : Int) (r1 : Int) (r2 : ByteArray) (r3 : List (S25)) (r4 : List (S45)) (w : World) (hG : GlobOk w) (h : jsontext_Number.f a0 = some (r1, r2, r3, r4)) :
  Calls Tryz.prog 14 #[.int .i64 a0] w fun e w' => ∃ v2_ v3_ : Value, e = .returned (.agg #[.int .u8 r1, .string r2, v2_, v3_]) ∧ Kd.R k25 25 w' w.heap.size (fun k_ => some k_ ≠ (v3_ : Value).ownBlock) v2_ r3 ∧ Kd.R k45 45 w' w.heap.size (fun k_ => some k_ ≠ (v2_ : Value).ownBlock) v3_ r4 ∧ Below w.heap.size w w' := by
 have HG := Aside0.mk hG; clear hG; have hu25 := Tryz.underlying25
 have HB := Aside0.mk (Below.refl w.heap.size w)
 have H : ((strconv_Itoa.f a0).bind fun t173 => (some (3, t173, ([] : List (S25)), ([] : List (S45))))) = some (r1, r2, r3, r4) := h
 clear h; replace H := Option.bind_eq_some_iff.mp H
 obtain ⟨t173, A20, H⟩ := H
 replace H : (some (3, t173, ([] : List (S25)), ([] : List (S45)))) = some (r1, r2, r3, r4) := H
 have A2 := Aside0.mk A20; clear A20; simp only [Option.some.injEq, Prod.mk.injEq] at H
 obtain ⟨rfl, rfl, rfl, rfl⟩ := H
 go_enter Tryz.func14, Tryz.ntmps14
 go_wp2_with (first | ((with_reducible refine gate_dst (N := 2) rfl ?_); refine box_event ?hg (N := 2) ?hd (cs := #[.int .u8 0, .string (⟨#[]⟩ : ByteArray), .slice none 0 0, .slice none 0 0]) (t := 25) ?hr ?_; (case hd => rfl); (case hg => rfl); (case hr => first | (go_simp; done) | (go_simp; rfl)); intro gb172 hg w3 hbox hb; have n0_ := Aside0.mk (below_step (bl HB) hb); have n1_ := Aside0.mk (hbox); have n2_ := Aside0.mk ((by rw [hg]; exact (below_size (bl HB)) : w.heap.size ≤ gb172)); have n3_ := Aside0.mk ((by rw [hg]; exact (below_size (bl HB)) : w.heap.size ≤ gb172)); clear HB; have HB := n0_; have BK172 := n1_; have GW172 := n2_; have GE172 := n3_; clear n0_ n1_ n2_ n3_; clear hb hbox hg) | ((with_reducible refine gate_callee (f := 36) rfl ?_); refine goesL_ (some 4) rfl rfl Tryz.func36 (by kernel_rfl) rfl #[.int .i64 a0] rfl (by (try simp only [List.map_toArray, List.map_cons, List.map_nil]); first | done | rfl | (simp only [List.length_drop, List.length_take]; rfl)) ?_; (with_reducible refine (strconv_Itoa.calls a0 t173 _ (by first | exact HG.out | exact GlobOk.below HG.out (by repeat (first | (with_reducible first | exact HB.out | apply below_alloc | apply pw_below_drewN | apply below_drew1 | refine below_set ?_ GE172.out) | exact HB.out))) A2.out).mono ?_); rintro e w4 ⟨rfl, hb⟩; refine ⟨_, rfl, ?_⟩; have n0_ := Aside0.mk (blk_below (g := gb172) (o := .cells #[.int .u8 0, .string (⟨#[]⟩ : ByteArray), .slice none 0 0, .slice none 0 0] 25 (0, 0)) (kl BK172) hb); have n1_ := Aside0.mk (below_step (by repeat (first | (with_reducible first | exact HB.out | apply below_alloc | apply pw_below_drewN | apply below_drew1 | refine below_set ?_ GE172.out) | exact HB.out)) hb); clear BK172; clear HB; have BK172 := n0_; have HB := n1_; clear n0_ n1_; (try clear hb); (try clear hb2); (try clear hk); (try clear hi); have hcz5_0 : w4.cell? ⟨gb172, 0, none⟩ = some (.int .u8 0) := (blk_cell BK172.out 0).trans rfl; have hcz5_1 : w4.cell? ⟨gb172, 1, none⟩ = some (.string (⟨#[]⟩ : ByteArray)) := (blk_cell BK172.out 1).trans rfl; have hcz5_2 : w4.cell? ⟨gb172, 2, none⟩ = some (.slice none 0 0) := (blk_cell BK172.out 2).trans rfl; have hcz5_3 : w4.cell? ⟨gb172, 3, none⟩ = some (.slice none 0 0) := (blk_cell BK172.out 3).trans rfl; have hfz5_0 := blk_frozen BK172.out 0; have hfz5_1 := blk_frozen BK172.out 1; have hfz5_2 := blk_frozen BK172.out 2; have hfz5_3 := blk_frozen BK172.out 3))
 refine bodyPost_ret (results_cell_row rfl _ _ gb172 25 #[.int .u8 3, .string t173, .slice none 0 0, .slice none 0 0] (0, 0) _ rfl (by (with_reducible repeat (first | refine blk_drewN ?_ _ | refine blk_drew ?_ | refine blk_alloc ?_ _)); refine blk_put (cs := #[.int .u8 3, .string t173, .slice none 0 0, .slice none 0 0]) ?_ 3 _ rfl; (with_reducible repeat (first | refine blk_drewN ?_ _ | refine blk_drew ?_ | refine blk_alloc ?_ _)); refine blk_put (cs := #[.int .u8 3, .string t173, .slice none 0 0, .slice none 0 0]) ?_ 2 _ rfl; (with_reducible repeat (first | refine blk_drewN ?_ _ | refine blk_drew ?_ | refine blk_alloc ?_ _)); refine blk_put (cs := #[.int .u8 3, .string (⟨#[]⟩ : ByteArray), .slice none 0 0, .slice none 0 0]) ?_ 1 _ rfl; (with_reducible repeat (first | refine blk_drewN ?_ _ | refine blk_drew ?_ | refine blk_alloc ?_ _)); refine blk_put (cs := #[.int .u8 0, .string (⟨#[]⟩ : ByteArray), .slice none 0 0, .slice none 0 0]) ?_ 0 _ rfl; (with_reducible repeat (first | refine blk_drewN ?_ _ | refine blk_drew ?_ | refine blk_alloc ?_ _)); exact BK172.out) Tryz.underlying25 rfl (by kernel_rfl)) rfl ?_
 exact ⟨_, _, by first | rfl | (simp [errW_none, errW_some] <;> rfl) | (simp [*, errW_none, errW_some] <;> rfl), by first | exact Kd.R_nil _ _ _ _ _ | exact Kd.N_nil _ _ _ _ _ | exact Kd.V_nil _ _ _ _ _ | exact Kd.Q_nil _ _ _ _ _ | exact Kd.S_nil _ _ _ _ _, by first | exact Kd.R_nil _ _ _ _ _ | exact Kd.N_nil _ _ _ _ _ | exact Kd.V_nil _ _ _ _ _ | exact Kd.Q_nil _ _ _ _ _ | exact Kd.S_nil _ _ _ _ _, by repeat (first | (with_reducible first | exact HB.out | apply below_alloc | apply pw_below_drewN | apply below_drew1 | refine below_set ?_ GE172.out) | exact HB.out)⟩
end Go.Proofs.YtebmgmagdhedgaaGreatDoor.Q

end
