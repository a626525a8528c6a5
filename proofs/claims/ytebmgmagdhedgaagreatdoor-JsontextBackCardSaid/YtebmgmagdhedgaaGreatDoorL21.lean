/- Words and walks of this claim, put together by this repo's wip/xlink.py out of Q20, PureJsontextOne. -/
import Derived.Test.YtebmgmagdhedgaaGreatDoorL13
import Derived.Test.YtebmgmagdhedgaaGreatDoorL8
import Derived.Test.YtebmgmagdhedgaaGreatDoorL9
import Derived.Test.YtebmgmagdhedgaaGreatDoorL14
import Derived.Test.YtebmgmagdhedgaaGreatDoorL15
import Derived.Test.YtebmgmagdhedgaaGreatDoorL16
import Derived.Test.YtebmgmagdhedgaaGreatDoorL19
import Derived.Test.YtebmgmagdhedgaaGreatDoorL20
section
namespace Go.Proofs.YtebmgmagdhedgaaGreatDoor.Q
open Go.RowKit Go.Proofs.YtebmgmagdhedgaaGreatDoorW.PrintWords Go.Proofs.YtebmgmagdhedgaaGreatDoorW.PrintLast Go.Proofs.YtebmgmagdhedgaaGreatDoorW.PrintMore
attribute [local go_sem] max2_int min2_int max_two min_two max_three min_three max_four min_four   
set_option linter.unusedVariables false
set_option linter.unusedSimpArgs false
theorem eta_V (x : JV) : (⟨x.f0, x.f1, x.f2, x.f3⟩ : JV) = x := by cases x; rfl
theorem eta_F (y : JF) : (⟨y.f0, ⟨y.f1.f0, y.f1.f1, y.f1.f2, y.f1.f3⟩⟩ : JF) = y := by obtain ⟨a, b⟩ := y; cases b; rfl
open Go.Proofs.YtebmgmagdhedgaaGreatDoor.XEv in
/-- The reference's twin is the same value. -/
theorem twin3 : ∀ v, ndV v ≤ 1000000 → Ev (fun k => glossatorref03_Twin.f k v.f0 v.f1 v.f2 v.f3) (v.f0, v.f1, v.f2, v.f3) := by
 refine jv_ind fun v h2 h3 hn => ?_
 have e := ndV_mk v
 have l2 := ndL_len v.f2
 have l3 := ndF_len v.f3
 have L1 : ∀ n (m : Nat), v.f3.length = m + n → Ev (fun k => glossatorref03_Twin.l1 k (m : Int) v.f0 v.f1 v.f2 v.f3 v.f0 v.f1 v.f2 (v.f3.take m)) (v.f0, v.f1, v.f2, v.f3) := by
  intro n
  induction n with
  | zero =>
   intro m hm
   rw [List.take_of_length_le (by omega)]
   refine up ?_
   simp only [glossatorref03_Twin.l1]
   exact now fun _ => if_neg (by omega)
  | succ n ihn =>
   intro m hm
   have hml : m < v.f3.length := by omega
   refine up ?_
   have c0 : (m : Int) < (v.f3.length : Int) := by omega
   have c1 : (0 : Int) ≤ (m : Int) := by omega
   have c2 : (v.f3.take m).length < 1599289640401 := by rw [List.length_take]; omega
   have hr : rd_T45 v.f3 (m : Int) = v.f3[m]'hml := by unfold rd_T45; rw [Int.toNat_natCast, List.getD_eq_getElem?_getD, List.getElem?_eq_getElem hml]; rfl
   simp only [glossatorref03_Twin.l1, if_pos c0, if_pos c1, if_pos c2, hr]
   refine bind (h3 (v.f3[m]'hml) (List.getElem_mem _) (by have := ndF_mem (List.getElem_mem hml); omega)) ?_
   have hx := ihn (m + 1) (by omega)
   rw [List.take_add_one, List.getElem?_eq_getElem hml, Option.toList_some, ← eta_F (v.f3[m]'hml)] at hx
   rw [w1 m (by omega)]
   exact hx
 have L0 : ∀ n (m : Nat), v.f2.length = m + n → Ev (fun k => glossatorref03_Twin.l0 k (m : Int) v.f0 v.f1 v.f2 v.f3 v.f0 v.f1 (v.f2.take m)) (v.f0, v.f1, v.f2, v.f3) := by
  intro n
  induction n with
  | zero =>
   intro m hm
   rw [List.take_of_length_le (by omega)]
   refine up ?_
   simp only [glossatorref03_Twin.l0]
   refine neg (by omega) ?_
   exact L1 v.f3.length 0 (by omega)
  | succ n ihn =>
   intro m hm
   have hml : m < v.f2.length := by omega
   refine up ?_
   have c0 : (m : Int) < (v.f2.length : Int) := by omega
   have c1 : (0 : Int) ≤ (m : Int) := by omega
   have c2 : (v.f2.take m).length < 1954687338268 := by rw [List.length_take]; omega
   have hr : rd_T25 v.f2 (m : Int) = v.f2[m]'hml := by unfold rd_T25; rw [Int.toNat_natCast, List.getD_eq_getElem?_getD, List.getElem?_eq_getElem hml]; rfl
   simp only [glossatorref03_Twin.l0, if_pos c0, if_pos c1, if_pos c2, hr]
   refine bind (h2 (v.f2[m]'hml) (List.getElem_mem _) (by have := ndL_mem (List.getElem_mem hml); omega)) ?_
   have hx := ihn (m + 1) (by omega)
   rw [List.take_add_one, List.getElem?_eq_getElem hml, Option.toList_some, ← eta_V (v.f2[m]'hml)] at hx
   rw [w1 m (by omega)]
   exact hx
 refine up ?_
 simp only [glossatorref03_Twin.f]
 exact L0 v.f2.length 0 (by omega)
theorem twin_c (v : JV) (hn : ndV v ≤ 1000000) (A2 A3 : Option Addr) (c2 c3 : Nat) (h2 : v.f2.length ≤ c2) (h3 : v.f3.length ≤ c3) (w : World) (hR : Rd v A2 A3 w) : Calls Tryz.prog 17 #[.agg #[.int .u8 v.f0, .string v.f1, .slice A2 v.f2.length c2, .slice A3 v.f3.length c3]] w fun e w' => ∃ (B2 B3 : Option Addr) (d2 d3 : Nat), e = .returned (.agg #[.int .u8 v.f0, .string v.f1, .slice B2 v.f2.length d2, .slice B3 v.f3.length d3]) ∧ Rd v B2 B3 w' ∧ Below w.heap.size w w' := by
 obtain ⟨k, hk0⟩ := twin3 v hn
 have hk := hk0 k (Nat.le_refl k)
 refine (glossatorref03_Twin.calls k v.f0 v.f1 A2 c2 v.f2 A3 c3 v.f3 _ _ _ _ w hR.1 h2 hR.2 h3 hk).mono ?_
 rintro e w' ⟨v2, v3, rfl, r2, r3, hb⟩
 obtain ⟨B2, d2, rfl, _, g2⟩ := Kd.R_reads r2
 obtain ⟨B3, d3, rfl, _, g3⟩ := Kd.R_reads r3
 exact ⟨B2, B3, d2, d3, rfl, ⟨g2, g3⟩, hb⟩
def On (w : World) (N1 N2 : Nat) (O1 O2 : Obj) (v u : JV) (A2 A3 B2 B3 : Option Addr) (W : World) : Prop := W.heap[N1]? = some O1 ∧ W.heap[N2]? = some O2 ∧ Rd v A2 A3 W ∧ Rd u B2 B3 W ∧ Below w.heap.size w W
theorem On.below {w : World} {N1 N2 : Nat} {O1 O2 : Obj} {v u : JV} {A2 A3 B2 B3 : Option Addr} {W W' : World} (h : On w N1 N2 O1 O2 v u A2 A3 B2 B3 W) (hb : Below W.heap.size W W') : On w N1 N2 O1 O2 v u A2 A3 B2 B3 W' := ⟨blk_below h.1 hb, blk_below h.2.1 hb, h.2.2.1.below hb, h.2.2.2.1.below hb, below_step h.2.2.2.2 hb⟩
theorem On.drew {w : World} {N1 N2 : Nat} {O1 O2 : Obj} {v u : JV} {A2 A3 B2 B3 : Option Addr} {W : World} (h : On w N1 N2 O1 O2 v u A2 A3 B2 B3 W) : On w N1 N2 O1 O2 v u A2 A3 B2 B3 W.drew := ⟨h.1, h.2.1, ⟨Kd.C_drew h.2.2.1.1, Kd.C_drew h.2.2.1.2⟩, ⟨Kd.C_drew h.2.2.2.1.1, Kd.C_drew h.2.2.2.1.2⟩, below_drew1 h.2.2.2.2⟩
theorem printed_two (v : JV) : ((printedV v).2 = 0 ∧ mayD 64 v = true ∧ (wrD 64 v).length ≤ 262144 ∧ (printedV v).1 = ⟨(wrD 64 v).toArray⟩) ∨ (printedV v).2 = 3 ∨ (printedV v).2 = 40 := by
 unfold printedV
 by_cases a : mayD 64 v = true
 ·rw [if_pos a]
  by_cases b : 262144 < (wrD 64 v).length
  ·rw [if_pos b]; exact .inr (.inl rfl)
  ·rw [if_neg b]; exact .inl ⟨rfl, a, by omega, rfl⟩
 ·rw [if_neg a]; exact .inr (.inr rfl)
theorem same_text {v u : JV} (hv : wfV v = true) (hu : wfV u = true) (h0 : (printedV v).2 = 0) (h1 : (printedV u).2 = 0) : (printedV v).1 = (printedV u).1 ↔ v = u := by
 constructor
 ·intro h
  obtain ⟨_, a, b, c⟩ | x | x := printed_two v
  ·obtain ⟨_, a', b', c'⟩ | x | x := printed_two u
   ·rw [c, c'] at h
    refine wr_inj a (pos_wf _ _ hv) b a' (pos_wf _ _ hu) ?_
    have := congrArg (fun z : ByteArray => z.data.toList) h
    simpa using this
   ·rw [x] at h1; cases h1
   ·rw [x] at h1; cases h1
  ·rw [x] at h0; cases h0
  ·rw [x] at h0; cases h0
 ·rintro rfl; rfl
theorem str_eq {P Q : ByteArray} {b : Bool} (h : P = Q ↔ b = true) : (P.toList == Q.toList) = b := by
 rw [ByteArray.toList_eq, ByteArray.toList_eq]
 cases b with
 | true => rw [h.2 rfl]; exact beq_self_eq_true _
 | false => exact beq_eq_false_iff_ne.2 fun c => by cases h.1 (ByteArray.ext (Array.toList_inj.1 c))
theorem print_c (v : JV) (hw : wfV v = true) (hg : gB v = false) (A2 A3 : Option Addr) (c2 c3 : Nat) (W : World) (hG : GlobOk W) (hR : Rd v A2 A3 W) :
  Calls Tryz.prog 9 #[(.agg #[.int .u8 v.f0, .string v.f1, .slice A2 v.f2.length c2, .slice A3 v.f3.length c3])] W fun e w' => e = .returned (.tuple #[.string (printedV v).1, .int .i64 (printedV v).2]) ∧ Below W.heap.size W w' :=
 jsontext_Print.calls v A2 A3 c2 c3 W hG (.of_wf _ v hw (by have := gB_no hg; omega)) (by have := gB_no hg; have := wr_len 64 v; omega) hR.1 hR.2
set_option maxRecDepth 100000 in
set_option maxHeartbeats 8000000 in
theorem one_a (v u : JV) (hv : wfV v = true) (hu : wfV u = true) (hg : gB v = true) (A2 A3 B2 B3 : Option Addr) (c2 c3 d2 d3 : Nat) (hc2 : v.f2.length ≤ c2) (hc3 : v.f3.length ≤ c3) (w : World) (hG : GlobOk w) (hRv : Rd v A2 A3 w) (hRu : Rd u B2 B3 w) :
  Calls Tryz.prog 6 #[(.agg #[.int .u8 v.f0, .string v.f1, .slice A2 v.f2.length c2, .slice A3 v.f3.length c3]), (.agg #[.int .u8 u.f0, .string u.f1, .slice B2 u.f2.length d2, .slice B3 u.f3.length d3])] w fun e w' => e = .returned (.bool true) ∧ Below w.heap.size w w' := by
 obtain ⟨O1, hO1⟩ : ∃ O : Obj, O = (.cells #[.int .u8 v.f0, .string v.f1, .slice A2 v.f2.length c2, .slice A3 v.f3.length c3] 25 (0, 0)) := ⟨_, rfl⟩
 obtain ⟨O2, hO2⟩ : ∃ O : Obj, O = (.cells #[.int .u8 u.f0, .string u.f1, .slice B2 u.f2.length d2, .slice B3 u.f3.length d3] 25 (0, 0)) := ⟨_, rfl⟩
 obtain ⟨N1, hN1⟩ : ∃ N, N = w.heap.size := ⟨_, rfl⟩
 obtain ⟨N2, hN2⟩ : ∃ N, N = w.heap.size + 1 := ⟨_, rfl⟩
 obtain ⟨W2, hW2⟩ : ∃ W2, W2 = (w.alloc (.cells #[.int .u8 v.f0, .string v.f1, .slice A2 v.f2.length c2, .slice A3 v.f3.length c3] 25 (0, 0))).alloc (.cells #[.int .u8 u.f0, .string u.f1, .slice B2 u.f2.length d2, .slice B3 u.f3.length d3] 25 (0, 0)) := ⟨_, rfl⟩
 have hs : (w.alloc O1).heap.size = w.heap.size + 1 := by first | exact Array.size_push .. | rfl
 have H2 := Aside0.mk (show On w N1 N2 O1 O2 v u A2 A3 B2 B3 W2 by
  rw [hW2, ← hO1, ← hO2, hN1, hN2, ← hs]
  exact ⟨blk_alloc (blk_new w _) _, blk_new _ _, (hRv.alloc _).alloc _, (hRu.alloc _).alloc _, below_alloc (below_alloc (Below.refl _ _) _) _⟩)
 have hcell : ∀ {W : World}, On w N1 N2 O1 O2 v u A2 A3 B2 B3 W → W.cell? ⟨N1, 0, none⟩ = some (.int .u8 v.f0) ∧ W.cell? ⟨N1, 1, none⟩ = some (.string v.f1) ∧ W.cell? ⟨N1, 2, none⟩ = some (.slice A2 v.f2.length c2) ∧ W.cell? ⟨N1, 3, none⟩ = some (.slice A3 v.f3.length c3) ∧ W.cell? ⟨N2, 0, none⟩ = some (.int .u8 u.f0) ∧ W.cell? ⟨N2, 1, none⟩ = some (.string u.f1) ∧ W.cell? ⟨N2, 2, none⟩ = some (.slice B2 u.f2.length d2) ∧ W.cell? ⟨N2, 3, none⟩ = some (.slice B3 u.f3.length d3) := by
  intro W h
  have a := h.1
  have b := h.2.1
  rw [hO1] at a
  rw [hO2] at b
  exact ⟨blk_cell a 0, blk_cell a 1, blk_cell a 2, blk_cell a 3, blk_cell b 0, blk_cell b 1, blk_cell b 2, blk_cell b 3⟩
 have HCell := Aside0.mk @hcell
 have HG := Aside0.mk hG; have HV := Aside0.mk hv; have HU := Aside0.mk hu; clear hcell hs hG hRv hRu hv hu hO1 hO2; have HGV := Aside0.mk hg; clear hg; go_enter Tryz.func6, Tryz.ntmps6
 go_upto_region 1 with (fail)
 try rw [← hW2]
 try rw [← hN2]
 try rw [← hN1]
 clear hW2 hN2 hN1; go_upto_region 3 with (go_at_call 7; refine (glossatorlaw04_awake.calls _ (HG.out.below H2.out.2.2.2.2)).mono ?_; rintro e w3 ⟨rfl, hb⟩; have H3 := Aside0.mk (H2.out.below hb); clear hb)
 obtain ⟨y0, y1, y2, y3, z0, z1, z2, z3⟩ := HCell.out H3.out
 go_wp2_with (go_at_call 8; refine (great.calls v HV.out A2 A3 c2 c3 _ H3.out.2.2.1).mono ?_; rintro e w4 ⟨rfl, hb⟩; rw [HGV.out]; have H4 := Aside0.mk (H3.out.below hb); clear hb y0 y1 y2 y3 z0 z1 z2 z3; obtain ⟨y0, y1, y2, y3, z0, z1, z2, z3⟩ := HCell.out H4.out)
 go_ret
 exact ⟨rfl, H4.out.2.2.2.2⟩
set_option maxRecDepth 100000 in
set_option maxHeartbeats 8000000 in
theorem one_b (v u : JV) (hv : wfV v = true) (hu : wfV u = true) (hg : gB v = false) (hg2 : gB u = true) (A2 A3 B2 B3 : Option Addr) (c2 c3 d2 d3 : Nat) (hc2 : v.f2.length ≤ c2) (hc3 : v.f3.length ≤ c3) (w : World) (hG : GlobOk w) (hRv : Rd v A2 A3 w) (hRu : Rd u B2 B3 w) :
  Calls Tryz.prog 6 #[(.agg #[.int .u8 v.f0, .string v.f1, .slice A2 v.f2.length c2, .slice A3 v.f3.length c3]), (.agg #[.int .u8 u.f0, .string u.f1, .slice B2 u.f2.length d2, .slice B3 u.f3.length d3])] w fun e w' => e = .returned (.bool true) ∧ Below w.heap.size w w' := by
 obtain ⟨O1, hO1⟩ : ∃ O : Obj, O = (.cells #[.int .u8 v.f0, .string v.f1, .slice A2 v.f2.length c2, .slice A3 v.f3.length c3] 25 (0, 0)) := ⟨_, rfl⟩
 obtain ⟨O2, hO2⟩ : ∃ O : Obj, O = (.cells #[.int .u8 u.f0, .string u.f1, .slice B2 u.f2.length d2, .slice B3 u.f3.length d3] 25 (0, 0)) := ⟨_, rfl⟩
 obtain ⟨N1, hN1⟩ : ∃ N, N = w.heap.size := ⟨_, rfl⟩
 obtain ⟨N2, hN2⟩ : ∃ N, N = w.heap.size + 1 := ⟨_, rfl⟩
 obtain ⟨W2, hW2⟩ : ∃ W2, W2 = (w.alloc (.cells #[.int .u8 v.f0, .string v.f1, .slice A2 v.f2.length c2, .slice A3 v.f3.length c3] 25 (0, 0))).alloc (.cells #[.int .u8 u.f0, .string u.f1, .slice B2 u.f2.length d2, .slice B3 u.f3.length d3] 25 (0, 0)) := ⟨_, rfl⟩
 have hs : (w.alloc O1).heap.size = w.heap.size + 1 := by first | exact Array.size_push .. | rfl
 have H2 := Aside0.mk (show On w N1 N2 O1 O2 v u A2 A3 B2 B3 W2 by
  rw [hW2, ← hO1, ← hO2, hN1, hN2, ← hs]
  exact ⟨blk_alloc (blk_new w _) _, blk_new _ _, (hRv.alloc _).alloc _, (hRu.alloc _).alloc _, below_alloc (below_alloc (Below.refl _ _) _) _⟩)
 have hcell : ∀ {W : World}, On w N1 N2 O1 O2 v u A2 A3 B2 B3 W → W.cell? ⟨N1, 0, none⟩ = some (.int .u8 v.f0) ∧ W.cell? ⟨N1, 1, none⟩ = some (.string v.f1) ∧ W.cell? ⟨N1, 2, none⟩ = some (.slice A2 v.f2.length c2) ∧ W.cell? ⟨N1, 3, none⟩ = some (.slice A3 v.f3.length c3) ∧ W.cell? ⟨N2, 0, none⟩ = some (.int .u8 u.f0) ∧ W.cell? ⟨N2, 1, none⟩ = some (.string u.f1) ∧ W.cell? ⟨N2, 2, none⟩ = some (.slice B2 u.f2.length d2) ∧ W.cell? ⟨N2, 3, none⟩ = some (.slice B3 u.f3.length d3) := by
  intro W h
  have a := h.1
  have b := h.2.1
  rw [hO1] at a
  rw [hO2] at b
  exact ⟨blk_cell a 0, blk_cell a 1, blk_cell a 2, blk_cell a 3, blk_cell b 0, blk_cell b 1, blk_cell b 2, blk_cell b 3⟩
 have HCell := Aside0.mk @hcell
 have HG := Aside0.mk hG; have HV := Aside0.mk hv; have HU := Aside0.mk hu; clear hcell hs hG hRv hRu hv hu hO1 hO2; have HGV := Aside0.mk hg; have HGU := Aside0.mk hg2; clear hg hg2; go_enter Tryz.func6, Tryz.ntmps6
 go_upto_region 1 with (fail)
 try rw [← hW2]
 try rw [← hN2]
 try rw [← hN1]
 clear hW2 hN2 hN1; go_upto_region 3 with (go_at_call 7; refine (glossatorlaw04_awake.calls _ (HG.out.below H2.out.2.2.2.2)).mono ?_; rintro e w3 ⟨rfl, hb⟩; have H3 := Aside0.mk (H2.out.below hb); clear hb)
 obtain ⟨y0, y1, y2, y3, z0, z1, z2, z3⟩ := HCell.out H3.out
 go_wp2_with (first | (go_at_call 8; refine (great.calls u HU.out B2 B3 d2 d3 _ H4.out.2.2.2.1).mono ?_; rintro e w5 ⟨rfl, hb⟩; rw [HGU.out]; have H5 := Aside0.mk (H4.out.below hb); clear hb y0 y1 y2 y3 z0 z1 z2 z3; obtain ⟨y0, y1, y2, y3, z0, z1, z2, z3⟩ := HCell.out H5.out) | (go_at_call 8; refine (great.calls v HV.out A2 A3 c2 c3 _ H3.out.2.2.1).mono ?_; rintro e w4 ⟨rfl, hb⟩; rw [HGV.out]; have H4 := Aside0.mk (H3.out.below hb); clear hb y0 y1 y2 y3 z0 z1 z2 z3; obtain ⟨y0, y1, y2, y3, z0, z1, z2, z3⟩ := HCell.out H4.out))
 go_ret
 exact ⟨rfl, H5.out.2.2.2.2⟩
set_option maxRecDepth 100000 in
set_option maxHeartbeats 8000000 in
theorem one_dtrue (v u : JV) (hv : wfV v = true) (hu : wfV u = true) (hg : gB v = false) (hg2 : gB u = false) (hvu : eqV v u = true) (h1 : (printedV v).2 = 0) (h2 : (printedV u).2 = 0) (A2 A3 B2 B3 : Option Addr) (c2 c3 d2 d3 : Nat) (hc2 : v.f2.length ≤ c2) (hc3 : v.f3.length ≤ c3) (w : World) (hG : GlobOk w) (hRv : Rd v A2 A3 w) (hRu : Rd u B2 B3 w) :
  Calls Tryz.prog 6 #[(.agg #[.int .u8 v.f0, .string v.f1, .slice A2 v.f2.length c2, .slice A3 v.f3.length c3]), (.agg #[.int .u8 u.f0, .string u.f1, .slice B2 u.f2.length d2, .slice B3 u.f3.length d3])] w fun e w' => e = .returned (.bool true) ∧ Below w.heap.size w w' := by
 obtain ⟨O1, hO1⟩ : ∃ O : Obj, O = (.cells #[.int .u8 v.f0, .string v.f1, .slice A2 v.f2.length c2, .slice A3 v.f3.length c3] 25 (0, 0)) := ⟨_, rfl⟩
 obtain ⟨O2, hO2⟩ : ∃ O : Obj, O = (.cells #[.int .u8 u.f0, .string u.f1, .slice B2 u.f2.length d2, .slice B3 u.f3.length d3] 25 (0, 0)) := ⟨_, rfl⟩
 obtain ⟨N1, hN1⟩ : ∃ N, N = w.heap.size := ⟨_, rfl⟩
 obtain ⟨N2, hN2⟩ : ∃ N, N = w.heap.size + 1 := ⟨_, rfl⟩
 obtain ⟨W2, hW2⟩ : ∃ W2, W2 = (w.alloc (.cells #[.int .u8 v.f0, .string v.f1, .slice A2 v.f2.length c2, .slice A3 v.f3.length c3] 25 (0, 0))).alloc (.cells #[.int .u8 u.f0, .string u.f1, .slice B2 u.f2.length d2, .slice B3 u.f3.length d3] 25 (0, 0)) := ⟨_, rfl⟩
 have hs : (w.alloc O1).heap.size = w.heap.size + 1 := by first | exact Array.size_push .. | rfl
 have H2 := Aside0.mk (show On w N1 N2 O1 O2 v u A2 A3 B2 B3 W2 by
  rw [hW2, ← hO1, ← hO2, hN1, hN2, ← hs]
  exact ⟨blk_alloc (blk_new w _) _, blk_new _ _, (hRv.alloc _).alloc _, (hRu.alloc _).alloc _, below_alloc (below_alloc (Below.refl _ _) _) _⟩)
 have hcell : ∀ {W : World}, On w N1 N2 O1 O2 v u A2 A3 B2 B3 W → W.cell? ⟨N1, 0, none⟩ = some (.int .u8 v.f0) ∧ W.cell? ⟨N1, 1, none⟩ = some (.string v.f1) ∧ W.cell? ⟨N1, 2, none⟩ = some (.slice A2 v.f2.length c2) ∧ W.cell? ⟨N1, 3, none⟩ = some (.slice A3 v.f3.length c3) ∧ W.cell? ⟨N2, 0, none⟩ = some (.int .u8 u.f0) ∧ W.cell? ⟨N2, 1, none⟩ = some (.string u.f1) ∧ W.cell? ⟨N2, 2, none⟩ = some (.slice B2 u.f2.length d2) ∧ W.cell? ⟨N2, 3, none⟩ = some (.slice B3 u.f3.length d3) := by
  intro W h
  have a := h.1
  have b := h.2.1
  rw [hO1] at a
  rw [hO2] at b
  exact ⟨blk_cell a 0, blk_cell a 1, blk_cell a 2, blk_cell a 3, blk_cell b 0, blk_cell b 1, blk_cell b 2, blk_cell b 3⟩
 have HCell := Aside0.mk @hcell
 have HG := Aside0.mk hG; have HV := Aside0.mk hv; have HU := Aside0.mk hu; clear hcell hs hG hRv hRu hv hu hO1 hO2; have HGV := Aside0.mk hg; have HGU := Aside0.mk hg2; have HPV := Aside0.mk (fun W hG hR => print_c v HV.out hg A2 A3 c2 c3 W hG hR)
 have HPU := Aside0.mk (fun W hG hR => print_c u HU.out hg2 B2 B3 d2 d3 W hG hR)
 have HST := Aside0.mk (fun h0 h1 => same_text HV.out HU.out h0 h1)
 have HND := Aside0.mk (gB_no hg).2
 obtain ⟨P, hP⟩ : ∃ P, P = (printedV v).1 := ⟨_, rfl⟩
 obtain ⟨e1, he1⟩ : ∃ P, P = (printedV v).2 := ⟨_, rfl⟩
 obtain ⟨Q, hQ⟩ : ∃ P, P = (printedV u).1 := ⟨_, rfl⟩
 obtain ⟨e2, he2⟩ : ∃ P, P = (printedV u).2 := ⟨_, rfl⟩
 rw [← hP, ← he1] at HPV
 rw [← hQ, ← he2] at HPU
 rw [← hP, ← hQ, ← he1, ← he2] at HST
 have HSvu := Aside0.mk (fun (W : World) (h : On w N1 N2 O1 O2 v u A2 A3 B2 B3 W) => jsontext_Same.calls v u (.of_wf v HV.out) W A2 A3 B2 B3 c2 c3 d2 d3 h.2.2.1 h.2.2.2.1)
 have HSuv := Aside0.mk (fun (W : World) (h : On w N1 N2 O1 O2 v u A2 A3 B2 B3 W) => jsontext_Same.calls u v (.of_wf u HU.out) W B2 B3 A2 A3 d2 d3 c2 c3 h.2.2.2.1 h.2.2.1)
 rw [show eqV v u = true from hvu] at HSvu
 rw [show eqV u v = true from by first | exact (eqV_iff u v).2 ((eqV_iff v u).1 hvu).symm | exact Bool.eq_false_iff.2 fun h => Bool.eq_false_iff.1 hvu ((eqV_iff v u).2 ((eqV_iff u v).1 h).symm)] at HSuv
 rw [← he1] at h1
 rw [← he2] at h2
 have hst := HST.out h1 h2
 have h3 := eqV_iff v u
 rw [hvu] at h3
 have hPQ2 := str_eq (hst.trans h3.symm)
 clear hst h3; subst h1; subst h2; clear hvu; clear hg hg2 hP hQ he1 he2; go_enter Tryz.func6, Tryz.ntmps6
 go_upto_region 1 with (fail)
 try rw [← hW2]
 try rw [← hN2]
 try rw [← hN1]
 clear hW2 hN2 hN1; go_upto_region 3 with (go_at_call 7; refine (glossatorlaw04_awake.calls _ (HG.out.below H2.out.2.2.2.2)).mono ?_; rintro e w3 ⟨rfl, hb⟩; have H3 := Aside0.mk (H2.out.below hb); clear hb)
 obtain ⟨y0, y1, y2, y3, z0, z1, z2, z3⟩ := HCell.out H3.out
 go_upto_region 5 with (first | (go_at_call 8; refine (great.calls u HU.out B2 B3 d2 d3 _ H4.out.2.2.2.1).mono ?_; rintro e w5 ⟨rfl, hb⟩; rw [HGU.out]; have H5 := Aside0.mk (H4.out.below hb); clear hb y0 y1 y2 y3 z0 z1 z2 z3; obtain ⟨y0, y1, y2, y3, z0, z1, z2, z3⟩ := HCell.out H5.out) | (go_at_call 8; refine (great.calls v HV.out A2 A3 c2 c3 _ H3.out.2.2.1).mono ?_; rintro e w4 ⟨rfl, hb⟩; rw [HGV.out]; have H4 := Aside0.mk (H3.out.below hb); clear hb y0 y1 y2 y3 z0 z1 z2 z3; obtain ⟨y0, y1, y2, y3, z0, z1, z2, z3⟩ := HCell.out H4.out))
 go_upto_region 6 with (go_at_call 9; refine (HPV.out _ (HG.out.below H5.out.2.2.2.2) H5.out.2.2.1).mono ?_; rintro e w6 ⟨rfl, hb⟩; have H6 := Aside0.mk (H5.out.below hb); clear hb y0 y1 y2 y3 z0 z1 z2 z3; obtain ⟨y0, y1, y2, y3, z0, z1, z2, z3⟩ := HCell.out H6.out)
 go_upto_region 7 with (go_at_call 9; refine (HPU.out _ (HG.out.below H6.out.2.2.2.2) H6.out.2.2.2.1).mono ?_; rintro e w7 ⟨rfl, hb⟩; have H7 := Aside0.mk (H6.out.below hb); clear hb y0 y1 y2 y3 z0 z1 z2 z3; obtain ⟨y0, y1, y2, y3, z0, z1, z2, z3⟩ := HCell.out H7.out)
 go_upto_region 9 with (fail)
 refine Go.Proofs.YtebmgmagdhedgaaGreatDoor.XRound.quiet_any (fun w' => w'.cell? ⟨N1, 0, none⟩ = some (.int .u8 v.f0) ∧ w'.cell? ⟨N1, 1, none⟩ = some (.string v.f1) ∧ w'.cell? ⟨N1, 2, none⟩ = some (.slice A2 v.f2.length c2) ∧ w'.cell? ⟨N1, 3, none⟩ = some (.slice A3 v.f3.length c3) ∧ w'.cell? ⟨N2, 0, none⟩ = some (.int .u8 u.f0) ∧ w'.cell? ⟨N2, 1, none⟩ = some (.string u.f1) ∧ w'.cell? ⟨N2, 2, none⟩ = some (.slice B2 u.f2.length d2) ∧ w'.cell? ⟨N2, 3, none⟩ = some (.slice B3 u.f3.length d3) ∧ Aside0 (On w N1 N2 O1 O2 v u A2 A3 B2 B3 w')) ⟨y0, y1, y2, y3, z0, z1, z2, z3, ⟨H7.out.drew⟩⟩ (by kernel_rfl) (by kernel_rfl) ?_
 iterate 5 refine Go.Proofs.YtebmgmagdhedgaaGreatDoor.XRound.q_op ?_
 refine Go.Proofs.YtebmgmagdhedgaaGreatDoor.XRound.q_call (f := 21) (args := #[(.agg #[.int .u8 v.f0, .string v.f1, .slice A2 v.f2.length c2, .slice A3 v.f3.length c3]), (.agg #[.int .u8 u.f0, .string u.f1, .slice B2 u.f2.length d2, .slice B3 u.f3.length d3])]) (.bool true) (fun w' hw' => ?s1) ?_ (hy := fun w' => by go_simp)
 case s1 =>
  obtain ⟨_, _, _, _, _, _, _, _, hO⟩ := hw'
  refine (HSvu.out w' hO.out).mono ?_
  rintro e w'' ⟨rfl, hb⟩
  have hn := hO.out.below hb
  obtain ⟨a0, a1, a2, a3, a4, a5, a6, a7⟩ := HCell.out hn
  exact ⟨rfl, a0, a1, a2, a3, a4, a5, a6, a7, ⟨hn⟩⟩
 iterate 4 refine Go.Proofs.YtebmgmagdhedgaaGreatDoor.XRound.q_op ?_
 refine Go.Proofs.YtebmgmagdhedgaaGreatDoor.XRound.q_call (f := 21) (args := #[(.agg #[.int .u8 v.f0, .string v.f1, .slice A2 v.f2.length c2, .slice A3 v.f3.length c3]), (.agg #[.int .u8 u.f0, .string u.f1, .slice B2 u.f2.length d2, .slice B3 u.f3.length d3])]) (.bool true) (fun w' hw' => ?s2) ?_ (hy := fun w' => by go_simp)
 case s2 =>
  obtain ⟨_, _, _, _, _, _, _, _, hO⟩ := hw'
  refine (HSvu.out w' hO.out).mono ?_
  rintro e w'' ⟨rfl, hb⟩
  have hn := hO.out.below hb
  obtain ⟨a0, a1, a2, a3, a4, a5, a6, a7⟩ := HCell.out hn
  exact ⟨rfl, a0, a1, a2, a3, a4, a5, a6, a7, ⟨hn⟩⟩
 iterate 2 refine Go.Proofs.YtebmgmagdhedgaaGreatDoor.XRound.q_op ?_
 refine Go.Proofs.YtebmgmagdhedgaaGreatDoor.XRound.q_call (f := 21) (args := #[(.agg #[.int .u8 u.f0, .string u.f1, .slice B2 u.f2.length d2, .slice B3 u.f3.length d3]), (.agg #[.int .u8 v.f0, .string v.f1, .slice A2 v.f2.length c2, .slice A3 v.f3.length c3])]) (.bool true) (fun w' hw' => ?s3) ?_ (hy := fun w' => by go_simp)
 case s3 =>
  obtain ⟨_, _, _, _, _, _, _, _, hO⟩ := hw'
  refine (HSuv.out w' hO.out).mono ?_
  rintro e w'' ⟨rfl, hb⟩
  have hn := hO.out.below hb
  obtain ⟨a0, a1, a2, a3, a4, a5, a6, a7⟩ := HCell.out hn
  exact ⟨rfl, a0, a1, a2, a3, a4, a5, a6, a7, ⟨hn⟩⟩
 iterate 3 refine Go.Proofs.YtebmgmagdhedgaaGreatDoor.XRound.q_op ?_
 refine wpQuiet_nil ?_
 rintro w' ⟨_, _, _, _, _, _, _, _, hO⟩
 clear y0 y1 y2 y3 z0 z1 z2 z3; go_wp2
 go_ret
 exact ⟨rfl, hO.out.2.2.2.2⟩
set_option maxRecDepth 100000 in
set_option maxHeartbeats 8000000 in
theorem one_dfalse (v u : JV) (hv : wfV v = true) (hu : wfV u = true) (hg : gB v = false) (hg2 : gB u = false) (hvu : eqV v u = false) (h1 : (printedV v).2 = 0) (h2 : (printedV u).2 = 0) (A2 A3 B2 B3 : Option Addr) (c2 c3 d2 d3 : Nat) (hc2 : v.f2.length ≤ c2) (hc3 : v.f3.length ≤ c3) (w : World) (hG : GlobOk w) (hRv : Rd v A2 A3 w) (hRu : Rd u B2 B3 w) :
  Calls Tryz.prog 6 #[(.agg #[.int .u8 v.f0, .string v.f1, .slice A2 v.f2.length c2, .slice A3 v.f3.length c3]), (.agg #[.int .u8 u.f0, .string u.f1, .slice B2 u.f2.length d2, .slice B3 u.f3.length d3])] w fun e w' => e = .returned (.bool true) ∧ Below w.heap.size w w' := by
 obtain ⟨O1, hO1⟩ : ∃ O : Obj, O = (.cells #[.int .u8 v.f0, .string v.f1, .slice A2 v.f2.length c2, .slice A3 v.f3.length c3] 25 (0, 0)) := ⟨_, rfl⟩
 obtain ⟨O2, hO2⟩ : ∃ O : Obj, O = (.cells #[.int .u8 u.f0, .string u.f1, .slice B2 u.f2.length d2, .slice B3 u.f3.length d3] 25 (0, 0)) := ⟨_, rfl⟩
 obtain ⟨N1, hN1⟩ : ∃ N, N = w.heap.size := ⟨_, rfl⟩
 obtain ⟨N2, hN2⟩ : ∃ N, N = w.heap.size + 1 := ⟨_, rfl⟩
 obtain ⟨W2, hW2⟩ : ∃ W2, W2 = (w.alloc (.cells #[.int .u8 v.f0, .string v.f1, .slice A2 v.f2.length c2, .slice A3 v.f3.length c3] 25 (0, 0))).alloc (.cells #[.int .u8 u.f0, .string u.f1, .slice B2 u.f2.length d2, .slice B3 u.f3.length d3] 25 (0, 0)) := ⟨_, rfl⟩
 have hs : (w.alloc O1).heap.size = w.heap.size + 1 := by first | exact Array.size_push .. | rfl
 have H2 := Aside0.mk (show On w N1 N2 O1 O2 v u A2 A3 B2 B3 W2 by
  rw [hW2, ← hO1, ← hO2, hN1, hN2, ← hs]
  exact ⟨blk_alloc (blk_new w _) _, blk_new _ _, (hRv.alloc _).alloc _, (hRu.alloc _).alloc _, below_alloc (below_alloc (Below.refl _ _) _) _⟩)
 have hcell : ∀ {W : World}, On w N1 N2 O1 O2 v u A2 A3 B2 B3 W → W.cell? ⟨N1, 0, none⟩ = some (.int .u8 v.f0) ∧ W.cell? ⟨N1, 1, none⟩ = some (.string v.f1) ∧ W.cell? ⟨N1, 2, none⟩ = some (.slice A2 v.f2.length c2) ∧ W.cell? ⟨N1, 3, none⟩ = some (.slice A3 v.f3.length c3) ∧ W.cell? ⟨N2, 0, none⟩ = some (.int .u8 u.f0) ∧ W.cell? ⟨N2, 1, none⟩ = some (.string u.f1) ∧ W.cell? ⟨N2, 2, none⟩ = some (.slice B2 u.f2.length d2) ∧ W.cell? ⟨N2, 3, none⟩ = some (.slice B3 u.f3.length d3) := by
  intro W h
  have a := h.1
  have b := h.2.1
  rw [hO1] at a
  rw [hO2] at b
  exact ⟨blk_cell a 0, blk_cell a 1, blk_cell a 2, blk_cell a 3, blk_cell b 0, blk_cell b 1, blk_cell b 2, blk_cell b 3⟩
 have HCell := Aside0.mk @hcell
 have HG := Aside0.mk hG; have HV := Aside0.mk hv; have HU := Aside0.mk hu; clear hcell hs hG hRv hRu hv hu hO1 hO2; have HGV := Aside0.mk hg; have HGU := Aside0.mk hg2; have HPV := Aside0.mk (fun W hG hR => print_c v HV.out hg A2 A3 c2 c3 W hG hR)
 have HPU := Aside0.mk (fun W hG hR => print_c u HU.out hg2 B2 B3 d2 d3 W hG hR)
 have HST := Aside0.mk (fun h0 h1 => same_text HV.out HU.out h0 h1)
 have HND := Aside0.mk (gB_no hg).2
 obtain ⟨P, hP⟩ : ∃ P, P = (printedV v).1 := ⟨_, rfl⟩
 obtain ⟨e1, he1⟩ : ∃ P, P = (printedV v).2 := ⟨_, rfl⟩
 obtain ⟨Q, hQ⟩ : ∃ P, P = (printedV u).1 := ⟨_, rfl⟩
 obtain ⟨e2, he2⟩ : ∃ P, P = (printedV u).2 := ⟨_, rfl⟩
 rw [← hP, ← he1] at HPV
 rw [← hQ, ← he2] at HPU
 rw [← hP, ← hQ, ← he1, ← he2] at HST
 have HSvu := Aside0.mk (fun (W : World) (h : On w N1 N2 O1 O2 v u A2 A3 B2 B3 W) => jsontext_Same.calls v u (.of_wf v HV.out) W A2 A3 B2 B3 c2 c3 d2 d3 h.2.2.1 h.2.2.2.1)
 have HSuv := Aside0.mk (fun (W : World) (h : On w N1 N2 O1 O2 v u A2 A3 B2 B3 W) => jsontext_Same.calls u v (.of_wf u HU.out) W B2 B3 A2 A3 d2 d3 c2 c3 h.2.2.2.1 h.2.2.1)
 rw [show eqV v u = false from hvu] at HSvu
 rw [show eqV u v = false from by first | exact (eqV_iff u v).2 ((eqV_iff v u).1 hvu).symm | exact Bool.eq_false_iff.2 fun h => Bool.eq_false_iff.1 hvu ((eqV_iff v u).2 ((eqV_iff u v).1 h).symm)] at HSuv
 rw [← he1] at h1
 rw [← he2] at h2
 have hst := HST.out h1 h2
 have h3 := eqV_iff v u
 rw [hvu] at h3
 have hPQ2 := str_eq (hst.trans h3.symm)
 clear hst h3; subst h1; subst h2; clear hvu; clear hg hg2 hP hQ he1 he2; go_enter Tryz.func6, Tryz.ntmps6
 go_upto_region 1 with (fail)
 try rw [← hW2]
 try rw [← hN2]
 try rw [← hN1]
 clear hW2 hN2 hN1; go_upto_region 3 with (go_at_call 7; refine (glossatorlaw04_awake.calls _ (HG.out.below H2.out.2.2.2.2)).mono ?_; rintro e w3 ⟨rfl, hb⟩; have H3 := Aside0.mk (H2.out.below hb); clear hb)
 obtain ⟨y0, y1, y2, y3, z0, z1, z2, z3⟩ := HCell.out H3.out
 go_upto_region 5 with (first | (go_at_call 8; refine (great.calls u HU.out B2 B3 d2 d3 _ H4.out.2.2.2.1).mono ?_; rintro e w5 ⟨rfl, hb⟩; rw [HGU.out]; have H5 := Aside0.mk (H4.out.below hb); clear hb y0 y1 y2 y3 z0 z1 z2 z3; obtain ⟨y0, y1, y2, y3, z0, z1, z2, z3⟩ := HCell.out H5.out) | (go_at_call 8; refine (great.calls v HV.out A2 A3 c2 c3 _ H3.out.2.2.1).mono ?_; rintro e w4 ⟨rfl, hb⟩; rw [HGV.out]; have H4 := Aside0.mk (H3.out.below hb); clear hb y0 y1 y2 y3 z0 z1 z2 z3; obtain ⟨y0, y1, y2, y3, z0, z1, z2, z3⟩ := HCell.out H4.out))
 go_upto_region 6 with (go_at_call 9; refine (HPV.out _ (HG.out.below H5.out.2.2.2.2) H5.out.2.2.1).mono ?_; rintro e w6 ⟨rfl, hb⟩; have H6 := Aside0.mk (H5.out.below hb); clear hb y0 y1 y2 y3 z0 z1 z2 z3; obtain ⟨y0, y1, y2, y3, z0, z1, z2, z3⟩ := HCell.out H6.out)
 go_upto_region 7 with (go_at_call 9; refine (HPU.out _ (HG.out.below H6.out.2.2.2.2) H6.out.2.2.2.1).mono ?_; rintro e w7 ⟨rfl, hb⟩; have H7 := Aside0.mk (H6.out.below hb); clear hb y0 y1 y2 y3 z0 z1 z2 z3; obtain ⟨y0, y1, y2, y3, z0, z1, z2, z3⟩ := HCell.out H7.out)
 go_upto_region 9 with (fail)
 refine Go.Proofs.YtebmgmagdhedgaaGreatDoor.XRound.quiet_any (fun w' => w'.cell? ⟨N1, 0, none⟩ = some (.int .u8 v.f0) ∧ w'.cell? ⟨N1, 1, none⟩ = some (.string v.f1) ∧ w'.cell? ⟨N1, 2, none⟩ = some (.slice A2 v.f2.length c2) ∧ w'.cell? ⟨N1, 3, none⟩ = some (.slice A3 v.f3.length c3) ∧ w'.cell? ⟨N2, 0, none⟩ = some (.int .u8 u.f0) ∧ w'.cell? ⟨N2, 1, none⟩ = some (.string u.f1) ∧ w'.cell? ⟨N2, 2, none⟩ = some (.slice B2 u.f2.length d2) ∧ w'.cell? ⟨N2, 3, none⟩ = some (.slice B3 u.f3.length d3) ∧ Aside0 (On w N1 N2 O1 O2 v u A2 A3 B2 B3 w')) ⟨y0, y1, y2, y3, z0, z1, z2, z3, ⟨H7.out.drew⟩⟩ (by kernel_rfl) (by kernel_rfl) ?_
 iterate 5 refine Go.Proofs.YtebmgmagdhedgaaGreatDoor.XRound.q_op ?_
 refine Go.Proofs.YtebmgmagdhedgaaGreatDoor.XRound.q_call (f := 21) (args := #[(.agg #[.int .u8 v.f0, .string v.f1, .slice A2 v.f2.length c2, .slice A3 v.f3.length c3]), (.agg #[.int .u8 u.f0, .string u.f1, .slice B2 u.f2.length d2, .slice B3 u.f3.length d3])]) (.bool false) (fun w' hw' => ?s1) ?_ (hy := fun w' => by go_simp)
 case s1 =>
  obtain ⟨_, _, _, _, _, _, _, _, hO⟩ := hw'
  refine (HSvu.out w' hO.out).mono ?_
  rintro e w'' ⟨rfl, hb⟩
  have hn := hO.out.below hb
  obtain ⟨a0, a1, a2, a3, a4, a5, a6, a7⟩ := HCell.out hn
  exact ⟨rfl, a0, a1, a2, a3, a4, a5, a6, a7, ⟨hn⟩⟩
 iterate 4 refine Go.Proofs.YtebmgmagdhedgaaGreatDoor.XRound.q_op ?_
 refine Go.Proofs.YtebmgmagdhedgaaGreatDoor.XRound.q_call (f := 21) (args := #[(.agg #[.int .u8 v.f0, .string v.f1, .slice A2 v.f2.length c2, .slice A3 v.f3.length c3]), (.agg #[.int .u8 u.f0, .string u.f1, .slice B2 u.f2.length d2, .slice B3 u.f3.length d3])]) (.bool false) (fun w' hw' => ?s2) ?_ (hy := fun w' => by go_simp)
 case s2 =>
  obtain ⟨_, _, _, _, _, _, _, _, hO⟩ := hw'
  refine (HSvu.out w' hO.out).mono ?_
  rintro e w'' ⟨rfl, hb⟩
  have hn := hO.out.below hb
  obtain ⟨a0, a1, a2, a3, a4, a5, a6, a7⟩ := HCell.out hn
  exact ⟨rfl, a0, a1, a2, a3, a4, a5, a6, a7, ⟨hn⟩⟩
 iterate 2 refine Go.Proofs.YtebmgmagdhedgaaGreatDoor.XRound.q_op ?_
 refine Go.Proofs.YtebmgmagdhedgaaGreatDoor.XRound.q_call (f := 21) (args := #[(.agg #[.int .u8 u.f0, .string u.f1, .slice B2 u.f2.length d2, .slice B3 u.f3.length d3]), (.agg #[.int .u8 v.f0, .string v.f1, .slice A2 v.f2.length c2, .slice A3 v.f3.length c3])]) (.bool false) (fun w' hw' => ?s3) ?_ (hy := fun w' => by go_simp)
 case s3 =>
  obtain ⟨_, _, _, _, _, _, _, _, hO⟩ := hw'
  refine (HSuv.out w' hO.out).mono ?_
  rintro e w'' ⟨rfl, hb⟩
  have hn := hO.out.below hb
  obtain ⟨a0, a1, a2, a3, a4, a5, a6, a7⟩ := HCell.out hn
  exact ⟨rfl, a0, a1, a2, a3, a4, a5, a6, a7, ⟨hn⟩⟩
 iterate 3 refine Go.Proofs.YtebmgmagdhedgaaGreatDoor.XRound.q_op ?_
 refine wpQuiet_nil ?_
 rintro w' ⟨_, _, _, _, _, _, _, _, hO⟩
 clear y0 y1 y2 y3 z0 z1 z2 z3; go_wp2
 go_ret
 exact ⟨rfl, hO.out.2.2.2.2⟩
set_option maxRecDepth 100000 in
set_option maxHeartbeats 8000000 in
theorem one_c1 (v u : JV) (hv : wfV v = true) (hu : wfV u = true) (hg : gB v = false) (hg2 : gB u = false) (h1 : (printedV v).2 ≠ 0) (A2 A3 B2 B3 : Option Addr) (c2 c3 d2 d3 : Nat) (hc2 : v.f2.length ≤ c2) (hc3 : v.f3.length ≤ c3) (w : World) (hG : GlobOk w) (hRv : Rd v A2 A3 w) (hRu : Rd u B2 B3 w) :
  Calls Tryz.prog 6 #[(.agg #[.int .u8 v.f0, .string v.f1, .slice A2 v.f2.length c2, .slice A3 v.f3.length c3]), (.agg #[.int .u8 u.f0, .string u.f1, .slice B2 u.f2.length d2, .slice B3 u.f3.length d3])] w fun e w' => e = .returned (.bool true) ∧ Below w.heap.size w w' := by
 obtain ⟨O1, hO1⟩ : ∃ O : Obj, O = (.cells #[.int .u8 v.f0, .string v.f1, .slice A2 v.f2.length c2, .slice A3 v.f3.length c3] 25 (0, 0)) := ⟨_, rfl⟩
 obtain ⟨O2, hO2⟩ : ∃ O : Obj, O = (.cells #[.int .u8 u.f0, .string u.f1, .slice B2 u.f2.length d2, .slice B3 u.f3.length d3] 25 (0, 0)) := ⟨_, rfl⟩
 obtain ⟨N1, hN1⟩ : ∃ N, N = w.heap.size := ⟨_, rfl⟩
 obtain ⟨N2, hN2⟩ : ∃ N, N = w.heap.size + 1 := ⟨_, rfl⟩
 obtain ⟨W2, hW2⟩ : ∃ W2, W2 = (w.alloc (.cells #[.int .u8 v.f0, .string v.f1, .slice A2 v.f2.length c2, .slice A3 v.f3.length c3] 25 (0, 0))).alloc (.cells #[.int .u8 u.f0, .string u.f1, .slice B2 u.f2.length d2, .slice B3 u.f3.length d3] 25 (0, 0)) := ⟨_, rfl⟩
 have hs : (w.alloc O1).heap.size = w.heap.size + 1 := by first | exact Array.size_push .. | rfl
 have H2 := Aside0.mk (show On w N1 N2 O1 O2 v u A2 A3 B2 B3 W2 by
  rw [hW2, ← hO1, ← hO2, hN1, hN2, ← hs]
  exact ⟨blk_alloc (blk_new w _) _, blk_new _ _, (hRv.alloc _).alloc _, (hRu.alloc _).alloc _, below_alloc (below_alloc (Below.refl _ _) _) _⟩)
 have hcell : ∀ {W : World}, On w N1 N2 O1 O2 v u A2 A3 B2 B3 W → W.cell? ⟨N1, 0, none⟩ = some (.int .u8 v.f0) ∧ W.cell? ⟨N1, 1, none⟩ = some (.string v.f1) ∧ W.cell? ⟨N1, 2, none⟩ = some (.slice A2 v.f2.length c2) ∧ W.cell? ⟨N1, 3, none⟩ = some (.slice A3 v.f3.length c3) ∧ W.cell? ⟨N2, 0, none⟩ = some (.int .u8 u.f0) ∧ W.cell? ⟨N2, 1, none⟩ = some (.string u.f1) ∧ W.cell? ⟨N2, 2, none⟩ = some (.slice B2 u.f2.length d2) ∧ W.cell? ⟨N2, 3, none⟩ = some (.slice B3 u.f3.length d3) := by
  intro W h
  have a := h.1
  have b := h.2.1
  rw [hO1] at a
  rw [hO2] at b
  exact ⟨blk_cell a 0, blk_cell a 1, blk_cell a 2, blk_cell a 3, blk_cell b 0, blk_cell b 1, blk_cell b 2, blk_cell b 3⟩
 have HCell := Aside0.mk @hcell
 have HG := Aside0.mk hG; have HV := Aside0.mk hv; have HU := Aside0.mk hu; clear hcell hs hG hRv hRu hv hu hO1 hO2; have HGV := Aside0.mk hg; have HGU := Aside0.mk hg2; have HPV := Aside0.mk (fun W hG hR => print_c v HV.out hg A2 A3 c2 c3 W hG hR)
 have HPU := Aside0.mk (fun W hG hR => print_c u HU.out hg2 B2 B3 d2 d3 W hG hR)
 have HST := Aside0.mk (fun h0 h1 => same_text HV.out HU.out h0 h1)
 have HND := Aside0.mk (gB_no hg).2
 obtain ⟨P, hP⟩ : ∃ P, P = (printedV v).1 := ⟨_, rfl⟩
 obtain ⟨e1, he1⟩ : ∃ P, P = (printedV v).2 := ⟨_, rfl⟩
 obtain ⟨Q, hQ⟩ : ∃ P, P = (printedV u).1 := ⟨_, rfl⟩
 obtain ⟨e2, he2⟩ : ∃ P, P = (printedV u).2 := ⟨_, rfl⟩
 rw [← hP, ← he1] at HPV
 rw [← hQ, ← he2] at HPU
 rw [← hP, ← hQ, ← he1, ← he2] at HST
 have HTW := Aside0.mk (fun W hR => twin_c v (by have := (gB_no hg).2; omega) A2 A3 c2 c3 hc2 hc3 W hR)
 have HSA := Aside0.mk (fun (W : World) (D2 D3 : Option Addr) (k2 k3 : Nat) (h : Rd v A2 A3 W) (h' : Rd v D2 D3 W) => jsontext_Same.calls v v (.of_wf v HV.out) W A2 A3 D2 D3 c2 c3 k2 k3 h h')
 rw [(eqV_iff v v).2 rfl] at HSA
 rw [← he1] at h1
 have te1 : (e1 == 0) = false := beq_eq_false_iff_ne.2 h1
 have te2 : decide (e1 = 0) = false := decide_eq_false h1
 have te3 : (e1 != 0) = true := by simp [bne, te1]
 clear h1; clear hg hg2 hP hQ he1 he2; go_enter Tryz.func6, Tryz.ntmps6
 go_upto_region 1 with (fail)
 try rw [← hW2]
 try rw [← hN2]
 try rw [← hN1]
 clear hW2 hN2 hN1; go_upto_region 3 with (go_at_call 7; refine (glossatorlaw04_awake.calls _ (HG.out.below H2.out.2.2.2.2)).mono ?_; rintro e w3 ⟨rfl, hb⟩; have H3 := Aside0.mk (H2.out.below hb); clear hb)
 obtain ⟨y0, y1, y2, y3, z0, z1, z2, z3⟩ := HCell.out H3.out
 go_upto_region 5 with (first | (go_at_call 8; refine (great.calls u HU.out B2 B3 d2 d3 _ H4.out.2.2.2.1).mono ?_; rintro e w5 ⟨rfl, hb⟩; rw [HGU.out]; have H5 := Aside0.mk (H4.out.below hb); clear hb y0 y1 y2 y3 z0 z1 z2 z3; obtain ⟨y0, y1, y2, y3, z0, z1, z2, z3⟩ := HCell.out H5.out) | (go_at_call 8; refine (great.calls v HV.out A2 A3 c2 c3 _ H3.out.2.2.1).mono ?_; rintro e w4 ⟨rfl, hb⟩; rw [HGV.out]; have H4 := Aside0.mk (H3.out.below hb); clear hb y0 y1 y2 y3 z0 z1 z2 z3; obtain ⟨y0, y1, y2, y3, z0, z1, z2, z3⟩ := HCell.out H4.out))
 go_upto_region 6 with (go_at_call 9; refine (HPV.out _ (HG.out.below H5.out.2.2.2.2) H5.out.2.2.1).mono ?_; rintro e w6 ⟨rfl, hb⟩; have H6 := Aside0.mk (H5.out.below hb); clear hb y0 y1 y2 y3 z0 z1 z2 z3; obtain ⟨y0, y1, y2, y3, z0, z1, z2, z3⟩ := HCell.out H6.out)
 go_upto_region 7 with (go_at_call 9; refine (HPU.out _ (HG.out.below H6.out.2.2.2.2) H6.out.2.2.2.1).mono ?_; rintro e w7 ⟨rfl, hb⟩; have H7 := Aside0.mk (H6.out.below hb); clear hb y0 y1 y2 y3 z0 z1 z2 z3; obtain ⟨y0, y1, y2, y3, z0, z1, z2, z3⟩ := HCell.out H7.out)
 go_upto_region 8 with (fail)
 go_region_with (first | (go_at_call 21; refine (HSA.out _ D2 D3 k2 k3 H8.out.2.2.1 HR8.out).mono ?_; rintro e w9 ⟨rfl, hb⟩; have H9 := Aside0.mk (H8.out.below hb); clear hb) | (go_at_call 17; refine (HTW.out _ H7.out.drew.2.2.1).mono ?_; rintro e w8 ⟨D2, D3, k2, k3, rfl, hr, hb⟩; have H8 := Aside0.mk (H7.out.drew.below hb); have HR8 := Aside0.mk hr; clear hb hr y0 y1 y2 y3 z0 z1 z2 z3; obtain ⟨y0, y1, y2, y3, z0, z1, z2, z3⟩ := HCell.out H8.out))
 all_goals (first | go_wp2 | (simp only [Exit.then]; go_wp2) | (simp only [Exit.then, Act.put]; go_wp2))
 all_goals (go_ret; exact ⟨rfl, H9.out.2.2.2.2⟩)
set_option maxRecDepth 100000 in
set_option maxHeartbeats 8000000 in
theorem one_c2 (v u : JV) (hv : wfV v = true) (hu : wfV u = true) (hg : gB v = false) (hg2 : gB u = false) (h1 : (printedV v).2 = 0) (h2 : (printedV u).2 ≠ 0) (A2 A3 B2 B3 : Option Addr) (c2 c3 d2 d3 : Nat) (hc2 : v.f2.length ≤ c2) (hc3 : v.f3.length ≤ c3) (w : World) (hG : GlobOk w) (hRv : Rd v A2 A3 w) (hRu : Rd u B2 B3 w) :
  Calls Tryz.prog 6 #[(.agg #[.int .u8 v.f0, .string v.f1, .slice A2 v.f2.length c2, .slice A3 v.f3.length c3]), (.agg #[.int .u8 u.f0, .string u.f1, .slice B2 u.f2.length d2, .slice B3 u.f3.length d3])] w fun e w' => e = .returned (.bool true) ∧ Below w.heap.size w w' := by
 obtain ⟨O1, hO1⟩ : ∃ O : Obj, O = (.cells #[.int .u8 v.f0, .string v.f1, .slice A2 v.f2.length c2, .slice A3 v.f3.length c3] 25 (0, 0)) := ⟨_, rfl⟩
 obtain ⟨O2, hO2⟩ : ∃ O : Obj, O = (.cells #[.int .u8 u.f0, .string u.f1, .slice B2 u.f2.length d2, .slice B3 u.f3.length d3] 25 (0, 0)) := ⟨_, rfl⟩
 obtain ⟨N1, hN1⟩ : ∃ N, N = w.heap.size := ⟨_, rfl⟩
 obtain ⟨N2, hN2⟩ : ∃ N, N = w.heap.size + 1 := ⟨_, rfl⟩
 obtain ⟨W2, hW2⟩ : ∃ W2, W2 = (w.alloc (.cells #[.int .u8 v.f0, .string v.f1, .slice A2 v.f2.length c2, .slice A3 v.f3.length c3] 25 (0, 0))).alloc (.cells #[.int .u8 u.f0, .string u.f1, .slice B2 u.f2.length d2, .slice B3 u.f3.length d3] 25 (0, 0)) := ⟨_, rfl⟩
 have hs : (w.alloc O1).heap.size = w.heap.size + 1 := by first | exact Array.size_push .. | rfl
 have H2 := Aside0.mk (show On w N1 N2 O1 O2 v u A2 A3 B2 B3 W2 by
  rw [hW2, ← hO1, ← hO2, hN1, hN2, ← hs]
  exact ⟨blk_alloc (blk_new w _) _, blk_new _ _, (hRv.alloc _).alloc _, (hRu.alloc _).alloc _, below_alloc (below_alloc (Below.refl _ _) _) _⟩)
 have hcell : ∀ {W : World}, On w N1 N2 O1 O2 v u A2 A3 B2 B3 W → W.cell? ⟨N1, 0, none⟩ = some (.int .u8 v.f0) ∧ W.cell? ⟨N1, 1, none⟩ = some (.string v.f1) ∧ W.cell? ⟨N1, 2, none⟩ = some (.slice A2 v.f2.length c2) ∧ W.cell? ⟨N1, 3, none⟩ = some (.slice A3 v.f3.length c3) ∧ W.cell? ⟨N2, 0, none⟩ = some (.int .u8 u.f0) ∧ W.cell? ⟨N2, 1, none⟩ = some (.string u.f1) ∧ W.cell? ⟨N2, 2, none⟩ = some (.slice B2 u.f2.length d2) ∧ W.cell? ⟨N2, 3, none⟩ = some (.slice B3 u.f3.length d3) := by
  intro W h
  have a := h.1
  have b := h.2.1
  rw [hO1] at a
  rw [hO2] at b
  exact ⟨blk_cell a 0, blk_cell a 1, blk_cell a 2, blk_cell a 3, blk_cell b 0, blk_cell b 1, blk_cell b 2, blk_cell b 3⟩
 have HCell := Aside0.mk @hcell
 have HG := Aside0.mk hG; have HV := Aside0.mk hv; have HU := Aside0.mk hu; clear hcell hs hG hRv hRu hv hu hO1 hO2; have HGV := Aside0.mk hg; have HGU := Aside0.mk hg2; have HPV := Aside0.mk (fun W hG hR => print_c v HV.out hg A2 A3 c2 c3 W hG hR)
 have HPU := Aside0.mk (fun W hG hR => print_c u HU.out hg2 B2 B3 d2 d3 W hG hR)
 have HST := Aside0.mk (fun h0 h1 => same_text HV.out HU.out h0 h1)
 have HND := Aside0.mk (gB_no hg).2
 obtain ⟨P, hP⟩ : ∃ P, P = (printedV v).1 := ⟨_, rfl⟩
 obtain ⟨e1, he1⟩ : ∃ P, P = (printedV v).2 := ⟨_, rfl⟩
 obtain ⟨Q, hQ⟩ : ∃ P, P = (printedV u).1 := ⟨_, rfl⟩
 obtain ⟨e2, he2⟩ : ∃ P, P = (printedV u).2 := ⟨_, rfl⟩
 rw [← hP, ← he1] at HPV
 rw [← hQ, ← he2] at HPU
 rw [← hP, ← hQ, ← he1, ← he2] at HST
 have HTW := Aside0.mk (fun W hR => twin_c v (by have := (gB_no hg).2; omega) A2 A3 c2 c3 hc2 hc3 W hR)
 have HSA := Aside0.mk (fun (W : World) (D2 D3 : Option Addr) (k2 k3 : Nat) (h : Rd v A2 A3 W) (h' : Rd v D2 D3 W) => jsontext_Same.calls v v (.of_wf v HV.out) W A2 A3 D2 D3 c2 c3 k2 k3 h h')
 rw [(eqV_iff v v).2 rfl] at HSA
 rw [← he1] at h1
 rw [← he2] at h2
 have te1 : (e2 == 0) = false := beq_eq_false_iff_ne.2 h2
 have te2 : decide (e2 = 0) = false := decide_eq_false h2
 have te3 : (e2 != 0) = true := by simp [bne, te1]
 subst h1; clear h2; clear hg hg2 hP hQ he1 he2; go_enter Tryz.func6, Tryz.ntmps6
 go_upto_region 1 with (fail)
 try rw [← hW2]
 try rw [← hN2]
 try rw [← hN1]
 clear hW2 hN2 hN1; go_upto_region 3 with (go_at_call 7; refine (glossatorlaw04_awake.calls _ (HG.out.below H2.out.2.2.2.2)).mono ?_; rintro e w3 ⟨rfl, hb⟩; have H3 := Aside0.mk (H2.out.below hb); clear hb)
 obtain ⟨y0, y1, y2, y3, z0, z1, z2, z3⟩ := HCell.out H3.out
 go_upto_region 5 with (first | (go_at_call 8; refine (great.calls u HU.out B2 B3 d2 d3 _ H4.out.2.2.2.1).mono ?_; rintro e w5 ⟨rfl, hb⟩; rw [HGU.out]; have H5 := Aside0.mk (H4.out.below hb); clear hb y0 y1 y2 y3 z0 z1 z2 z3; obtain ⟨y0, y1, y2, y3, z0, z1, z2, z3⟩ := HCell.out H5.out) | (go_at_call 8; refine (great.calls v HV.out A2 A3 c2 c3 _ H3.out.2.2.1).mono ?_; rintro e w4 ⟨rfl, hb⟩; rw [HGV.out]; have H4 := Aside0.mk (H3.out.below hb); clear hb y0 y1 y2 y3 z0 z1 z2 z3; obtain ⟨y0, y1, y2, y3, z0, z1, z2, z3⟩ := HCell.out H4.out))
 go_upto_region 6 with (go_at_call 9; refine (HPV.out _ (HG.out.below H5.out.2.2.2.2) H5.out.2.2.1).mono ?_; rintro e w6 ⟨rfl, hb⟩; have H6 := Aside0.mk (H5.out.below hb); clear hb y0 y1 y2 y3 z0 z1 z2 z3; obtain ⟨y0, y1, y2, y3, z0, z1, z2, z3⟩ := HCell.out H6.out)
 go_upto_region 7 with (go_at_call 9; refine (HPU.out _ (HG.out.below H6.out.2.2.2.2) H6.out.2.2.2.1).mono ?_; rintro e w7 ⟨rfl, hb⟩; have H7 := Aside0.mk (H6.out.below hb); clear hb y0 y1 y2 y3 z0 z1 z2 z3; obtain ⟨y0, y1, y2, y3, z0, z1, z2, z3⟩ := HCell.out H7.out)
 go_upto_region 8 with (fail)
 go_region_with (first | (go_at_call 21; refine (HSA.out _ D2 D3 k2 k3 H8.out.2.2.1 HR8.out).mono ?_; rintro e w9 ⟨rfl, hb⟩; have H9 := Aside0.mk (H8.out.below hb); clear hb) | (go_at_call 17; refine (HTW.out _ H7.out.drew.2.2.1).mono ?_; rintro e w8 ⟨D2, D3, k2, k3, rfl, hr, hb⟩; have H8 := Aside0.mk (H7.out.drew.below hb); have HR8 := Aside0.mk hr; clear hb hr y0 y1 y2 y3 z0 z1 z2 z3; obtain ⟨y0, y1, y2, y3, z0, z1, z2, z3⟩ := HCell.out H8.out))
 all_goals (first | go_wp2 | (simp only [Exit.then]; go_wp2) | (simp only [Exit.then, Act.put]; go_wp2))
 all_goals (go_ret; exact ⟨rfl, H9.out.2.2.2.2⟩)
def glossatorlaw04_JsontextOne.f (k : Nat) (a0 : Int) (a1 : ByteArray) (a2 : List JV) (a3 : List JF) (b0 : Int) (b1 : ByteArray) (b2 : List JV) (b3 : List JF) : Option Bool := if (wfV ⟨a0, a1, a2, a3⟩ && wfV ⟨b0, b1, b2, b3⟩) = true then some true else none
theorem glossatorlaw04_JsontextOne.mono : ∀ a0 a1 a2 a3 b0 b1 b2 b3 k, LeO (glossatorlaw04_JsontextOne.f k a0 a1 a2 a3 b0 b1 b2 b3) (glossatorlaw04_JsontextOne.f (k + 1) a0 a1 a2 a3 b0 b1 b2 b3) := fun _ _ _ _ _ _ _ _ _ _ h => h
theorem one_all (v u : JV) (hv : wfV v = true) (hu : wfV u = true) (A2 A3 B2 B3 : Option Addr) (c2 c3 d2 d3 : Nat) (hc2 : v.f2.length ≤ c2) (hc3 : v.f3.length ≤ c3) (w : World) (hG : GlobOk w) (hRv : Rd v A2 A3 w) (hRu : Rd u B2 B3 w) :
  Calls Tryz.prog 6 #[(.agg #[.int .u8 v.f0, .string v.f1, .slice A2 v.f2.length c2, .slice A3 v.f3.length c3]), (.agg #[.int .u8 u.f0, .string u.f1, .slice B2 u.f2.length d2, .slice B3 u.f3.length d3])] w fun e w' => e = .returned (.bool true) ∧ Below w.heap.size w w' := by
 cases hg : gB v with
 | true => exact one_a v u hv hu hg A2 A3 B2 B3 c2 c3 d2 d3 hc2 hc3 w hG hRv hRu
 | false =>
  cases hg2 : gB u with
  | true => exact one_b v u hv hu hg hg2 A2 A3 B2 B3 c2 c3 d2 d3 hc2 hc3 w hG hRv hRu
  | false =>
   by_cases h1 : (printedV v).2 = 0
   ·by_cases h2 : (printedV u).2 = 0
    ·cases hvu : eqV v u with
     | true => exact one_dtrue v u hv hu hg hg2 hvu h1 h2 A2 A3 B2 B3 c2 c3 d2 d3 hc2 hc3 w hG hRv hRu
     | false => exact one_dfalse v u hv hu hg hg2 hvu h1 h2 A2 A3 B2 B3 c2 c3 d2 d3 hc2 hc3 w hG hRv hRu
    ·exact one_c2 v u hv hu hg hg2 h1 h2 A2 A3 B2 B3 c2 c3 d2 d3 hc2 hc3 w hG hRv hRu
   ·exact one_c1 v u hv hu hg hg2 h1 A2 A3 B2 B3 c2 c3 d2 d3 hc2 hc3 w hG hRv hRu
theorem glossatorlaw04_JsontextOne.calls (k : Nat) (a0 : Int) (a1 : ByteArray) (A2 : Option Addr) (c2 : Nat) (l2 : List JV) (A3 : Option Addr) (c3 : Nat) (l3 : List JF) (b0 : Int) (b1 : ByteArray) (B2 : Option Addr) (d2 : Nat) (m2 : List JV) (B3 : Option Addr) (d3 : Nat) (m3 : List JF) (r : Bool) (w : World) (h2 : Kd.C k25 w A2 l2.length l2) (hc2 : l2.length ≤ c2) (h3 : Kd.C k45 w A3 l3.length l3) (hc3 : l3.length ≤ c3) (g2 : Kd.C k25 w B2 m2.length m2) (hd2 : m2.length ≤ d2) (g3 : Kd.C k45 w B3 m3.length m3) (hd3 : m3.length ≤ d3) (hG : GlobOk w) (h : glossatorlaw04_JsontextOne.f k a0 a1 l2 l3 b0 b1 m2 m3 = some r) :
  Calls Tryz.prog 6 #[.agg #[.int .u8 a0, .string a1, .slice A2 l2.length c2, .slice A3 l3.length c3], .agg #[.int .u8 b0, .string b1, .slice B2 m2.length d2, .slice B3 m3.length d3]] w fun e w' => e = .returned (.bool r) ∧ Below w.heap.size w w' := by
 unfold glossatorlaw04_JsontextOne.f at h
 by_cases hw : (wfV ⟨a0, a1, l2, l3⟩ && wfV ⟨b0, b1, m2, m3⟩) = true
 ·rw [if_pos hw] at h
  obtain rfl := Option.some.inj h
  rw [Bool.and_eq_true] at hw
  exact one_all ⟨a0, a1, l2, l3⟩ ⟨b0, b1, m2, m3⟩ hw.1 hw.2 A2 A3 B2 B3 c2 c3 d2 d3 hc2 hc3 w hG ⟨h2, h3⟩ ⟨g2, g3⟩
 ·rw [if_neg hw] at h
  cases h
/-- THE ONE PURE STATEMENT of glossatorlaw04_JsontextOne. -/
def glossatorlaw04_JsontextOne.Pure : Prop := ∀ (p0 : S25) (p1 : S25), Wf25 p0 → Wf25 p1 → ∃ k, glossatorlaw04_JsontextOne.f k p0.f0 p0.f1 p0.f2 p0.f3 p1.f0 p1.f1 p1.f2 p1.f3 = some true
end Go.Proofs.YtebmgmagdhedgaaGreatDoor.Q

end
section
namespace Go.Proofs.YtebmgmagdhedgaaGreatDoor.Pure
open Go Go.RowKit Go.Proofs.YtebmgmagdhedgaaGreatDoor.Q Go.Proofs.YtebmgmagdhedgaaGreatDoorW.PrintWords Go.Proofs.YtebmgmagdhedgaaGreatDoorW.PrintLast Go.Proofs.YtebmgmagdhedgaaGreatDoorW.PrintMore Go.Proofs.YtebmgmagdhedgaaGreatDoor.XEv
set_option linter.unusedVariables false
set_option linter.unusedSimpArgs false
theorem lit_u8 {a : Int} (h : (Lit.int .u8 a).wf = true) : 0 ≤ a ∧ a ≤ 255 := by
  simpa [Lit.wf, IntKind.min, IntKind.max, IntKind.signed, IntKind.bits] using h
theorem wf_v : ∀ v : S25, Wf25 v → wfV v = true := by
  intro v h
  induction h with
  | mk x h0 h1 h2 h3 r2 q30 q31 ih2 ih3 =>
    have a0 : 0 ≤ x.f0 := (lit_u8 h0).1
    exact wfV_iff.2 ⟨a0, h1, by omega, by omega, ih2, fun y hy => ⟨q30 y hy, ih3 y hy⟩⟩
theorem JsontextOne : glossatorlaw04_JsontextOne.Pure := by
  unfold glossatorlaw04_JsontextOne.Pure
  intro p0 p1 w0 w1
  refine ⟨0, if_pos ?_⟩
  rw [Bool.and_eq_true]
  exact ⟨by have := wf_v p0 w0; cases p0; exact this, by have := wf_v p1 w1; cases p1; exact this⟩
end Go.Proofs.YtebmgmagdhedgaaGreatDoor.Pure

end
