/-
  The law LinesTell of this seat: whatever the input that the row reads, it returns true and leaves its arguments as they were. Conditions of ours: none.
  (Written by this repo's wip/xprint.py: the row of the law, out of its pure statement, which is proved in YtfjanedappcolaaPureLinesTell, and the walk.)
-/
import Derived.Test.YtfjanedappcolaaRows
import Derived.Test.YtfjanedappcolaaXOpen
import Derived.Test.YtfjanedappcolaaQ8
import Derived.Test.YtfjanedappcolaaPureLinesTell
import Derived.WalkKit
import Derived.ProofKit
import Derived.OpenShut
import Derived.ShutString
import Derived.ChangeOld
import Derived.Below
import Derived.SizedLaws
import Derived.Deep.DeepHandedRow
import Derived.Lay
import Derived.JoinedCond
import Derived.MakeChecks
namespace Go.Proofs.Ytfjanedappcolaa.linesTell
open Go Go.ChangeShapes Go.WideShapes Go.ChangeAt Go.RowKit Go.Proofs.Ytfjanedappcolaa.Q Go.Proofs.YtfjanedappcolaaW.PrintWords Go.Proofs.YtfjanedappcolaaW.PrintLast
set_option linter.unusedVariables false
set_option linter.unusedSimpArgs false
theorem own : ownKnob Try.prog.godebug = none := by kernel_rfl
theorem laidOut : laidOutB Try.prog = true := by kernel_rfl
set_option maxRecDepth 100000 in
theorem open42 {H : Type} {enc : TypeId × Value → H} {W : World} {fuel : Nat} {cs : List Value} {y : DataW H × List MemPlace} (h : XOpen.Tr enc Try.prog W fuel 42 cs = some y) (hl : XOpen.Light Try.prog 42 y.1) : ∃ x : S42, k42.K W x cs ∧ Wf42 x ∧ mu42 x ≤ XOpen.bulk y.1 := by
  obtain ⟨xs, n, rfl, rfl, hcl, hxl, hall⟩ := DataW.trod_struct Try.underlying42 h
  rw [show Try.prog.cellsOf 42 = 3 by kernel_rfl] at hcl
  match xs, hxl, hall, hl with
  | [y0, y1, y2], _, hall, hl =>
  have hl2 := XOpen.light_agg Try.underlying42 hl
  simp only [List.map_cons, List.map_nil] at hl2
  obtain ⟨L0, hl2⟩ := XOpen.light_cons hl2
  have h0 := hall 0 _ rfl
  change XOpen.Tr enc Try.prog W n 3 ((cs.drop 0).take (Try.prog.cellsOf 3)) = some y0 at h0
  rw [show Try.prog.cellsOf 3 = 1 by kernel_rfl] at h0
  obtain ⟨x0, e0, w0, b0⟩ := XOpen.open_int Try.underlying3 h0
  obtain ⟨L1, hl2⟩ := XOpen.light_cons hl2
  have h1 := hall 1 _ rfl
  change XOpen.Tr enc Try.prog W n 3 ((cs.drop 1).take (Try.prog.cellsOf 3)) = some y1 at h1
  rw [show Try.prog.cellsOf 3 = 1 by kernel_rfl] at h1
  obtain ⟨x1, e1, w1, b1⟩ := XOpen.open_int Try.underlying3 h1
  obtain ⟨L2, hl2⟩ := XOpen.light_cons hl2
  have h2 := hall 2 _ rfl
  change XOpen.Tr enc Try.prog W n 9 ((cs.drop 2).take (Try.prog.cellsOf 9)) = some y2 at h2
  rw [show Try.prog.cellsOf 9 = 1 by kernel_rfl] at h2
  obtain ⟨x2, e2, w2, b2⟩ := XOpen.open_string Try.underlying9 h2 L2
  have z3 := XOpen.cut_end hcl
  have z2 := XOpen.cut (o := 2) (n := 1) e2 z3
  have z1 := XOpen.cut (o := 1) (n := 1) e1 z2
  have z0 := XOpen.cut (o := 0) (n := 1) e0 z1
  simp only [List.drop_zero, List.cons_append, List.nil_append, List.append_nil] at z0
  refine ⟨(⟨x0, x1, x2⟩ : S42), ?_, ?_, ?_⟩
  · rw [z0]
    exact k42_mk W (⟨x0, x1, x2⟩ : S42) 
  · exact ⟨w0, w1, w2⟩
  · simp only [XOpen.bulk, XOpen.bulkAll, List.map_cons, List.map_nil, mu42]
    omega
set_option maxRecDepth 100000 in
set_option maxHeartbeats 1000000 in
theorem contract (H : Type) (enc : TypeId × Value → H) (P : glossatorlaw02_LinesTell.Pure) (W : World) (base : Nat) (args : Array Value) (ds gs : List (DataW H)) (before : List MemPlace)
    (hval0 : ∀ (j : Nat) t v, Try.f5.params[j]? = some t → args[j]? = some v → Value.okWide Try.prog W .any base t v)
    (hW : DataW.Whole enc Try.prog Try.f5.params.toList Rows.linesTellSpec.vars false W args.toList ds gs before)
    (hsz0 : (DataW.weightsEach Try.prog (Try.f5.params.toList ++ Rows.linesTellSpec.plain.varTypes Try.prog) (ds ++ gs)).all (fun x => decide (x ≤ reachBytes)) = true) :
    Calls Try.prog 5 args W fun e W' => ∃ v, e = .returned v ∧ Rows.linesTellSpec.post enc Try.prog Try.f5 false true false false W args v W' := by
  have hval : ∀ (j : Nat) t v, Try.f5.params[j]? = some t → args[j]? = some v → Value.okWide Try.prog W .any base t v := hval0
  have hW' := hW
  obtain ⟨p, q, hA0, hV, rfl, hfz, hnd⟩ := hW
  have hA : DataW.TrodAll enc Try.prog W 0 (fun _ => true) true Try.f5.params.toList args.toList ds p := hA0
  have hsz : ∀ n ∈ DataW.weightsEach Try.prog (Try.f5.params.toList ++ Rows.linesTellSpec.plain.varTypes Try.prog) (ds ++ gs), n ≤ 140737488351232 := XOpen.light_sized hsz0
  rw [Try.params5] at hA hval hsz
  obtain ⟨v0, vs0, d0, ds0, pl0, q0, hargs, rfl, rfl, h0, r0⟩ := trodAll_cons hA
  obtain ⟨v1, vs1, d1, ds1, pl1, q1, rfl, rfl, rfl, h1, r1⟩ := trodAll_cons r0
  obtain ⟨rfl, rfl, rfl⟩ := trodAll_nil r1
  obtain rfl : args = #[v0, v1] := by cases args; simp_all
  obtain ⟨rfl, rfl⟩ := trodVars_none hV
  simp only [List.cons_append, List.nil_append] at hsz
  obtain ⟨L0, hsz⟩ := XOpen.light_cons hsz
  have kk0 := h0
  have lt0 : ∀ x ∈ pl0, x.block < W.heap.size := by obtain ⟨m, hm⟩ := kk0; exact DataW.trod_lt m _ _ _ hm
  obtain ⟨fu0, hf0⟩ := h0
  obtain ⟨x0, hc0⟩ := okWide_string Try.underlying9 (hval 0 9 v0 rfl rfl)
  subst hc0
  obtain ⟨a0, e0, w0, b0⟩ := XOpen.open_string Try.underlying9 hf0 L0
  obtain rfl : x0 = a0 := by simpa [Value.cells] using e0
  obtain ⟨L1, hsz⟩ := XOpen.light_cons hsz
  have kk1 := h1
  have lt1 : ∀ x ∈ pl1, x.block < W.heap.size := by obtain ⟨m, hm⟩ := kk1; exact DataW.trod_lt m _ _ _ hm
  obtain ⟨fu1, hf1⟩ := h1
  obtain ⟨x1, hc1⟩ := okWide_int Try.underlying3 (hval 1 3 v1 rfl rfl)
  subst hc1
  obtain ⟨a1, e1, w1, b1⟩ := XOpen.open_int Try.underlying3 hf1
  obtain rfl : x1 = a1 := by simpa [Value.cells] using e1
  obtain ⟨k, hk⟩ := P x0 x1 w0 w1
  refine (glossatorlaw02_LinesTell.calls k x0 x1 true W hk).mono fun e W' hbel => ?_
  obtain ⟨rfl, bel0⟩ := hbel
  have bel : Below W.heap.size W W' := bel0
  exact ⟨_, rfl, _, _, _, [], _, [], hW', trodAll_mk1 (shut_bool Try.underlying4 _), (trodAll_cons_mk (Below.trod laidOut (by kernel_rfl) (of_decide_eq_true (by kernel_rfl)) kk0 bel lt0) (trodAll_cons_mk (Below.trod laidOut (by kernel_rfl) (of_decide_eq_true (by kernel_rfl)) kk1 bel lt1) trodAll_mk0)), rfl, bel.frame _, fun h => by cases h⟩
set_option maxRecDepth 100000 in
theorem lifted (P : glossatorlaw02_LinesTell.Pure) (os : Os) (started : os.Started) (H : Type) (enc : TypeId × Value → H) (F : Stop.Interp) :
    ReturnsInHanded {} Try.checked os 5 .any ((OpenSpec.ofChange Rows.linesTellSpec).preRow enc Try.prog Try.f5 Rows.linesTellRow.domain false Rows.linesTellRow.laid) (((OpenSpec.ofChange Rows.linesTellSpec).at F).post enc Try.prog Try.f5 false true false false) := by
  refine returnsInHanded_of_row (C := Try.checked) (s := (OpenSpec.ofChange Rows.linesTellSpec)) own started (by kernel_rfl) Try.func5
    ⟨World.laidAll Try.prog os Rows.linesTellRow.laid, fun _ _ => 0, ⟨#[], #[.string ByteArray.empty, .int .i64 0], []⟩, World.laidAll_os _ _ _, World.shaped_of_ZipB (by kernel_rfl) (by kernel_rfl), rfl, (Input.okWide_of_okWideB (by kernel_rfl)).2,
      OpenSpec.preRow_of_cond 8 (x := ([.lit (.string []), .lit (.int .i64 0)], [], [])) (by kernel_rfl) (by kernel_rfl) (fun k hk => by cases hk) (by kernel_rfl) (by rw [MakeChecks.laidMetH_plain _ _ _ (by kernel_rfl)]; exact laidMet_laidAll _ (by kernel_rfl) (by kernel_rfl)), by
        simp only [Assume.holds]
        exact ⟨by simp, by simp, fun _ => Modest.zero, by simp, by simp⟩⟩ ?_
  intro W base args ds gs before hval hW _ hcond hsz hL hsh _
  exact contract H enc P W base args ds gs before hval hW hsz
theorem said : Rows.LinesTellSaid :=
  OpenClaim.holds_of_cond 5 Try.f5 rfl rfl rfl rfl rfl rfl rfl ⟨rfl, rfl, rfl, rfl, rfl⟩ rfl rfl rfl rfl rfl (by kernel_rfl) Try.func5 (by kernel_rfl)
    (of_decide_eq_true (by kernel_rfl)) (by unfold Func.isWrapper; first | (rw [if_pos (by decide +kernel)]; kernel_rfl) | (rw [if_neg (by decide +kernel)]; exact ⟨rfl, rfl⟩))
    (fun os started H enc _ F => by rw [OpenClaim.pre_eq_preRow]; exact lifted Pure.LinesTell os started H enc F)
#print axioms said
end Go.Proofs.Ytfjanedappcolaa.linesTell
namespace Go.Proofs.Ytfjanedappcolaa
/-- The law's row, under a short name, for the claim. -/
theorem linesTell_holds : Rows.LinesTellSaid := linesTell.said
end Go.Proofs.Ytfjanedappcolaa
