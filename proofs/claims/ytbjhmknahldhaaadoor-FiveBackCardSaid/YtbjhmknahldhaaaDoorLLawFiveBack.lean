/-
  The law FiveBack of this seat: whatever the input that the row reads, it returns true and leaves its arguments as they were. Conditions of ours: none.
  (Written by this repo's wip/xprint.py: the row of the law, out of its pure statement, which is proved in YtbjhmknahldhaaaDoorPureFiveBack, and the walk.)
-/
import Derived.Test.YtbjhmknahldhaaaDoorCards
import Derived.Test.YtbjhmknahldhaaaDoorTie
import Derived.Test.YtbjhmknahldhaaaDoorL0
import Derived.Test.YtbjhmknahldhaaaDoorL9
import Derived.WalkKit
import Derived.ProofKit
import Derived.OpenShut
import Derived.ShutString
import Derived.ChangeOld
import Derived.Below
import Derived.SizedLaws
import Derived.Deep.DeepHandedRow
import Derived.Lay
import Derived.JoinedCond
import Derived.MakeChecks
import Derived.SevenTiedAt
import Derived.Lib.LaidU8
import Derived.PinnedBridge
namespace Go.Proofs.YtbjhmknahldhaaaDoor.fiveBack
open Go Go.ChangeShapes Go.WideShapes Go.ChangeAt Go.RowKit Go.Proofs.YtbjhmknahldhaaaDoor.Q Go.Proofs.YtbjhmknahldhaaaDoorW.PrintWords Go.Proofs.YtbjhmknahldhaaaDoorW.PrintLast
set_option linter.unusedVariables false
set_option linter.unusedSimpArgs false
theorem own : ownKnob Tryd.prog.godebug = none := by kernel_rfl
theorem laidOut : laidOutB Tryd.prog = true := by kernel_rfl
set_option maxRecDepth 100000 in
theorem open36 {H : Type} {enc : TypeId × Value → H} {W : World} {fuel : Nat} {cs : List Value} {y : DataW H × List MemPlace} (h : XOpen.Tr enc Tryd.prog W fuel 36 cs = some y) (hl : XOpen.Light Tryd.prog 36 y.1) : ∃ x : S36, k36.K W x cs ∧ Wf36 x ∧ mu36 x ≤ XOpen.bulk y.1 := by
  obtain ⟨xs, n, rfl, rfl, hcl, hxl, hall⟩ := DataW.trod_struct Tryd.underlying36 h
  rw [show Tryd.prog.cellsOf 36 = 2 by kernel_rfl] at hcl
  match xs, hxl, hall, hl with
  | [y0, y1], _, hall, hl =>
  have hl2 := XOpen.light_agg Tryd.underlying36 hl
  simp only [List.map_cons, List.map_nil] at hl2
  obtain ⟨L0, hl2⟩ := XOpen.light_cons hl2
  have h0 := hall 0 _ rfl
  change XOpen.Tr enc Tryd.prog W n 3 ((cs.drop 0).take (Tryd.prog.cellsOf 3)) = some y0 at h0
  rw [show Tryd.prog.cellsOf 3 = 1 by kernel_rfl] at h0
  obtain ⟨x0, e0, w0, b0⟩ := XOpen.open_int Tryd.underlying3 h0
  obtain ⟨L1, hl2⟩ := XOpen.light_cons hl2
  have h1 := hall 1 _ rfl
  change XOpen.Tr enc Tryd.prog W n 3 ((cs.drop 1).take (Tryd.prog.cellsOf 3)) = some y1 at h1
  rw [show Tryd.prog.cellsOf 3 = 1 by kernel_rfl] at h1
  obtain ⟨x1, e1, w1, b1⟩ := XOpen.open_int Tryd.underlying3 h1
  have z2 := XOpen.cut_end hcl
  have z1 := XOpen.cut (o := 1) (n := 1) e1 z2
  have z0 := XOpen.cut (o := 0) (n := 1) e0 z1
  simp only [List.drop_zero, List.cons_append, List.nil_append, List.append_nil] at z0
  refine ⟨(⟨x0, x1⟩ : S36), ?_, ?_, ?_⟩
  · rw [z0]
    exact k36_mk W (⟨x0, x1⟩ : S36) 
  · exact ⟨w0, w1⟩
  · simp only [XOpen.bulk, XOpen.bulkAll, List.map_cons, List.map_nil, mu36]
    omega
set_option maxRecDepth 100000 in
theorem open38 {H : Type} {enc : TypeId × Value → H} {W : World} {fuel : Nat} {cs : List Value} {y : DataW H × List MemPlace} (h : XOpen.Tr enc Tryd.prog W fuel 38 cs = some y) (hl : XOpen.Light Tryd.prog 38 y.1) : ∃ x : S38, k38.K W x cs ∧ Wf38 x ∧ mu38 x ≤ XOpen.bulk y.1 := by
  obtain ⟨xs, n, rfl, rfl, hcl, hxl, hall⟩ := DataW.trod_struct Tryd.underlying38 h
  rw [show Tryd.prog.cellsOf 38 = 4 by kernel_rfl] at hcl
  match xs, hxl, hall, hl with
  | [y0, y1, y2], _, hall, hl =>
  have hl2 := XOpen.light_agg Tryd.underlying38 hl
  simp only [List.map_cons, List.map_nil] at hl2
  obtain ⟨L0, hl2⟩ := XOpen.light_cons hl2
  have h0 := hall 0 _ rfl
  change XOpen.Tr enc Tryd.prog W n 36 ((cs.drop 0).take (Tryd.prog.cellsOf 36)) = some y0 at h0
  rw [show Tryd.prog.cellsOf 36 = 2 by kernel_rfl] at h0
  obtain ⟨x0, K0, w0, b0⟩ := open36 h0 L0
  obtain e0 := k36_open K0
  obtain ⟨L1, hl2⟩ := XOpen.light_cons hl2
  have h1 := hall 1 _ rfl
  change XOpen.Tr enc Tryd.prog W n 3 ((cs.drop 2).take (Tryd.prog.cellsOf 3)) = some y1 at h1
  rw [show Tryd.prog.cellsOf 3 = 1 by kernel_rfl] at h1
  obtain ⟨x1, e1, w1, b1⟩ := XOpen.open_int Tryd.underlying3 h1
  obtain ⟨L2, hl2⟩ := XOpen.light_cons hl2
  have h2 := hall 2 _ rfl
  change XOpen.Tr enc Tryd.prog W n 3 ((cs.drop 3).take (Tryd.prog.cellsOf 3)) = some y2 at h2
  rw [show Tryd.prog.cellsOf 3 = 1 by kernel_rfl] at h2
  obtain ⟨x2, e2, w2, b2⟩ := XOpen.open_int Tryd.underlying3 h2
  have z3 := XOpen.cut_end hcl
  have z2 := XOpen.cut (o := 3) (n := 1) e2 z3
  have z1 := XOpen.cut (o := 2) (n := 1) e1 z2
  have z0 := XOpen.cut (o := 0) (n := 2) e0 z1
  simp only [List.drop_zero, List.cons_append, List.nil_append, List.append_nil] at z0
  refine ⟨(⟨x0, x1, x2⟩ : S38), ?_, ?_, ?_⟩
  · rw [z0]
    exact k38_mk W (⟨x0, x1, x2⟩ : S38) 
  · exact ⟨w0, w1, w2⟩
  · simp only [XOpen.bulk, XOpen.bulkAll, List.map_cons, List.map_nil, mu38]
    omega
set_option maxRecDepth 100000 in
set_option maxHeartbeats 1000000 in
theorem contract (H : Type) (enc : TypeId × Value → H) (P : glossatorlaw23_FiveBack.Pure) (W : World) (base : Nat) (args : Array Value) (ds gs : List (DataW H)) (before : List MemPlace)
    (hval0 : ∀ (j : Nat) t v, Tryd.f5.params[j]? = some t → args[j]? = some v → Value.okWide Tryd.prog W .any base t v)
    (hW : DataW.Whole enc Tryd.prog Tryd.f5.params.toList Rows.fiveBackSpec.vars false W args.toList ds gs before)
    (hsz0 : (DataW.weightsEach Tryd.prog (Tryd.f5.params.toList ++ Rows.fiveBackSpec.plain.varTypes Tryd.prog) (ds ++ gs)).all (fun x => decide (x ≤ reachBytes)) = true) (hG : GlobOk W) :
    Calls Tryd.prog 5 args W fun e W' => ∃ v, e = .returned v ∧ Rows.fiveBackSpec.post enc Tryd.prog Tryd.f5 false true false false W args v W' := by
  have hval : ∀ (j : Nat) t v, Tryd.f5.params[j]? = some t → args[j]? = some v → Value.okWide Tryd.prog W .any base t v := hval0
  have hW' := hW
  obtain ⟨p, q, hA0, hV, rfl, hfz, hnd⟩ := hW
  have hA : DataW.TrodAll enc Tryd.prog W 0 (fun _ => true) true Tryd.f5.params.toList args.toList ds p := hA0
  have hsz : ∀ n ∈ DataW.weightsEach Tryd.prog (Tryd.f5.params.toList ++ Rows.fiveBackSpec.plain.varTypes Tryd.prog) (ds ++ gs), n ≤ 140737488351232 := XOpen.light_sized hsz0
  rw [Tryd.params5] at hA hval hsz
  obtain ⟨v0, vs0, d0, ds0, pl0, q0, hargs, rfl, rfl, h0, r0⟩ := trodAll_cons hA
  obtain ⟨v1, vs1, d1, ds1, pl1, q1, rfl, rfl, rfl, h1, r1⟩ := trodAll_cons r0
  obtain ⟨v2, vs2, d2, ds2, pl2, q2, rfl, rfl, rfl, h2, r2⟩ := trodAll_cons r1
  obtain ⟨rfl, rfl, rfl⟩ := trodAll_nil r2
  obtain rfl : args = #[v0, v1, v2] := by cases args; simp_all
  obtain ⟨rfl, rfl⟩ := trodVars_none hV
  simp only [List.cons_append, List.nil_append] at hsz
  obtain ⟨L0, hsz⟩ := XOpen.light_cons hsz
  have kk0 := h0
  have lt0 : ∀ x ∈ pl0, x.block < W.heap.size := by obtain ⟨m, hm⟩ := kk0; exact DataW.trod_lt m _ _ _ hm
  obtain ⟨fu0, hf0⟩ := h0
  obtain ⟨x0, hc0⟩ := okWide_string Tryd.underlying9 (hval 0 9 v0 rfl rfl)
  subst hc0
  obtain ⟨a0, e0, w0, b0⟩ := XOpen.open_string Tryd.underlying9 hf0 L0
  obtain rfl : x0 = a0 := by simpa [Value.cells] using e0
  obtain ⟨L1, hsz⟩ := XOpen.light_cons hsz
  have kk1 := h1
  have lt1 : ∀ x ∈ pl1, x.block < W.heap.size := by obtain ⟨m, hm⟩ := kk1; exact DataW.trod_lt m _ _ _ hm
  obtain ⟨fu1, hf1⟩ := h1
  obtain ⟨aa1, len1, cap1, rfl⟩ := okWide_slice Tryd.underlying22 (hval 1 22 v1 rfl rfl)
  obtain ⟨A1, c1, x1, e1, lc1, g1, m1, z1, w1, b1⟩ := XOpen.open_slice (d := k38) (wf := (fun x : S38 => Wf38 x)) (μ := mu38) (b := 32) Tryd.underlying22 (by kernel_rfl) (by kernel_rfl) hf1 L1 (fun n_ cs_ y_ hn_ h_ l_ => by exact open38 h_ l_)
  have e1_ : aa1 = A1 ∧ len1 = x1.length ∧ cap1 = c1 := by simpa [Value.cells] using e1
  obtain ⟨rfl, rfl, rfl⟩ := e1_
  obtain ⟨L2, hsz⟩ := XOpen.light_cons hsz
  have kk2 := h2
  have lt2 : ∀ x ∈ pl2, x.block < W.heap.size := by obtain ⟨m, hm⟩ := kk2; exact DataW.trod_lt m _ _ _ hm
  obtain ⟨fu2, hf2⟩ := h2
  obtain ⟨aa2, len2, cap2, rfl⟩ := okWide_slice Tryd.underlying23 (hval 2 23 v2 rfl rfl)
  obtain ⟨A2, c2, x2, e2, lc2, g2, m2, z2, w2, b2⟩ := XOpen.open_slice (d := (Kd.int .i64)) (wf := (fun x : Int => (Lit.int .i64 x).wf = true)) (μ := (fun x : Int => 1)) (b := 8) Tryd.underlying23 (by kernel_rfl) (by kernel_rfl) hf2 L2 (fun n_ cs_ y_ hn_ h_ l_ => by obtain ⟨x, rfl, w_, b_⟩ := XOpen.open_int Tryd.underlying3 h_; exact ⟨x, rfl, w_, b_⟩)
  have e2_ : aa2 = A2 ∧ len2 = x2.length ∧ cap2 = c2 := by simpa [Value.cells] using e2
  obtain ⟨rfl, rfl, rfl⟩ := e2_
  obtain ⟨k, hk⟩ := P x0 x1 x2 w0 ⟨m1, z1, w1⟩ ⟨m2, z2, w2⟩
  refine (glossatorlaw23_FiveBack.calls k x0 _ _ x1 _ _ x2 true W g1 lc1 g2 lc2 hG hk).mono fun e W' hbel => ?_
  obtain ⟨rfl, bel0⟩ := hbel
  have bel : Below W.heap.size W W' := bel0
  exact ⟨_, rfl, _, _, _, [], _, [], hW', trodAll_mk1 (shut_bool Tryd.underlying4 _), (trodAll_cons_mk (Below.trod laidOut (by kernel_rfl) (of_decide_eq_true (by kernel_rfl)) kk0 bel lt0) (trodAll_cons_mk (Below.trod laidOut (by kernel_rfl) (of_decide_eq_true (by kernel_rfl)) kk1 bel lt1) (trodAll_cons_mk (Below.trod laidOut (by kernel_rfl) (of_decide_eq_true (by kernel_rfl)) kk2 bel lt2) trodAll_mk0))), rfl, bel.frame _, fun h => by cases h⟩
set_option maxRecDepth 100000 in
theorem lifted (P : glossatorlaw23_FiveBack.Pure) (os : Os) (started : os.Started) (H : Type) (enc : TypeId × Value → H) (F : Stop.Interp) :
    ReturnsInHanded {} Tryd.checked os 5 .any ((OpenSpec.ofChange Rows.fiveBackSpec).preRow enc Tryd.prog Tryd.f5 Rows.fiveBackRow.domain false Rows.fiveBackRow.laid) (((OpenSpec.ofChange Rows.fiveBackSpec).at F).post enc Tryd.prog Tryd.f5 false true false false) := by
  refine returnsInHanded_of_row (C := Tryd.checked) (s := (OpenSpec.ofChange Rows.fiveBackSpec)) own started (by kernel_rfl) Tryd.func5
    ⟨World.laidAll Tryd.prog os Rows.fiveBackRow.laid, fun _ _ => 0, ⟨#[], #[.string ByteArray.empty, .slice none 0 0, .slice none 0 0], []⟩, World.laidAll_os _ _ _, World.shaped_of_ZipB (by kernel_rfl) (by kernel_rfl), rfl, (Input.okWide_of_okWideB (by kernel_rfl)).2,
      OpenSpec.preRow_of_cond 8 (x := ([.lit (.string []), .nil, .nil], [], [])) (by kernel_rfl) (by kernel_rfl) (fun k hk => by cases hk) (by kernel_rfl) (by rw [MakeChecks.laidMetH_plain _ _ _ (by kernel_rfl)]; exact laidMet_laidAll _ (by kernel_rfl) (by kernel_rfl)), by
        simp only [Assume.holds]
        exact ⟨by simp, by simp, fun _ => Modest.zero, by simp, by simp⟩⟩ ?_
  intro W base args ds gs before hval hW _ hcond hsz hL hsh _
  exact contract H enc P W base args ds gs before hval hW hsz (GlobOk.of_laid (l := Rows.fiveBackRow.laid) hL (by kernel_rfl) (.tail _ (.head _)) Pinned.utf8First_eq (.head _) (by kernel_rfl))
theorem said : Rows.FiveBackSaid :=
  OpenClaim.holds_of_cond 5 Tryd.f5 rfl rfl rfl rfl rfl rfl rfl ⟨rfl, rfl, rfl, rfl, rfl⟩ rfl rfl rfl rfl rfl (by kernel_rfl) Tryd.func5 (by kernel_rfl)
    (of_decide_eq_true (by kernel_rfl)) (by unfold Func.isWrapper; first | (rw [if_pos (by decide +kernel)]; kernel_rfl) | (rw [if_neg (by decide +kernel)]; exact ⟨rfl, rfl⟩))
    (fun os started H enc _ F => by rw [OpenClaim.pre_eq_preRow]; exact lifted Pure.FiveBack os started H enc F)
theorem plain (f : FuncId) (fn : Func) (hf : Tryd.pinned.checked.prog.funcNamed "glossator/glossatorlaw23.FiveBack" = some f) (hfn : Tryd.pinned.checked.prog.funcs[f]? = some fn) :
    false = Tryd.pinned.checked.prog.looks [] ∧ ∀ (j : Nat) t, fn.params[j]? = some t → Tryd.pinned.checked.prog.wantsStandIn t = false := by
  obtain rfl : f = 5 := Option.some.inj ((show Tryd.prog.funcNamed "glossator/glossatorlaw23.FiveBack" = some 5 by kernel_rfl).symm.trans hf) |>.symm
  obtain rfl : fn = Tryd.f5 := (Option.some.inj (Tryd.func5.symm.trans hfn)).symm
  refine ⟨by kernel_rfl, fun j t ht => ?_⟩
  rw [Tryd.params5] at ht
  have hm : t ∈ [9, 22, 23] := by simpa using Array.mem_of_getElem? ht
  have hall : ([9, 22, 23].all fun u => !Tryd.prog.wantsStandIn u) = true := by kernel_rfl
  exact (show Tryd.prog.wantsStandIn t = false by simpa using List.all_eq_true.1 hall t hm)
theorem card : Rows.FiveBackCardSaid :=
  Claim7.holds_tied_plain_at .later [] _ _ _ _ said (fun _ h => by cases h) (by kernel_rfl) (fun _ h => by cases h) fiveBack_row_tie rfl ⟨rfl, rfl⟩ (by kernel_rfl) rfl plain (by kernel_rfl)
#print axioms card
end Go.Proofs.YtbjhmknahldhaaaDoor.fiveBack
namespace Go.Proofs.YtbjhmknahldhaaaDoor
/-- The law's row, under a short name, for the claim. -/
theorem fiveBack_holds : Rows.FiveBackCardSaid := fiveBack.card
end Go.Proofs.YtbjhmknahldhaaaDoor
