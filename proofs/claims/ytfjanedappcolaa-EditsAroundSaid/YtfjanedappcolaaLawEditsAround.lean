/-
  The law EditsAround of this seat: whatever the input that the row reads, it returns true and leaves its arguments as they were. Conditions of ours: none.
  (Written by this repo's wip/xprint.py: the row of the law, out of its pure statement, which is proved in YtfjanedappcolaaPureEditsAround, and the walk.)
-/
import Derived.Test.YtfjanedappcolaaRows
import Derived.Test.YtfjanedappcolaaXOpen
import Derived.Test.YtfjanedappcolaaQ6
import Derived.Test.YtfjanedappcolaaPureEditsAround
import Derived.WalkKit
import Derived.ProofKit
import Derived.OpenShut
import Derived.ShutString
import Derived.ChangeOld
import Derived.Below
import Derived.SizedLaws
import Derived.Deep.DeepHandedRow
import Derived.Lay
import Derived.JoinedCond
import Derived.MakeChecks
namespace Go.Proofs.Ytfjanedappcolaa.editsAround
open Go Go.ChangeShapes Go.WideShapes Go.ChangeAt Go.RowKit Go.Proofs.Ytfjanedappcolaa.Q Go.Proofs.YtfjanedappcolaaW.PrintWords Go.Proofs.YtfjanedappcolaaW.PrintLast
set_option linter.unusedVariables false
set_option linter.unusedSimpArgs false
theorem own : ownKnob Try.prog.godebug = none := by kernel_rfl
theorem laidOut : laidOutB Try.prog = true := by kernel_rfl
set_option maxRecDepth 100000 in
theorem open42 {H : Type} {enc : TypeId × Value → H} {W : World} {fuel : Nat} {cs : List Value} {y : DataW H × List MemPlace} (h : XOpen.Tr enc Try.prog W fuel 42 cs = some y) (hl : XOpen.Light Try.prog 42 y.1) : ∃ x : S42, k42.K W x cs ∧ Wf42 x ∧ mu42 x ≤ XOpen.bulk y.1 := by
  obtain ⟨xs, n, rfl, rfl, hcl, hxl, hall⟩ := DataW.trod_struct Try.underlying42 h
  rw [show Try.prog.cellsOf 42 = 3 by kernel_rfl] at hcl
  match xs, hxl, hall, hl with
  | [y0, y1, y2], _, hall, hl =>
  have hl2 := XOpen.light_agg Try.underlying42 hl
  simp only [List.map_cons, List.map_nil] at hl2
  obtain ⟨L0, hl2⟩ := XOpen.light_cons hl2
  have h0 := hall 0 _ rfl
  change XOpen.Tr enc Try.prog W n 3 ((cs.drop 0).take (Try.prog.cellsOf 3)) = some y0 at h0
  rw [show Try.prog.cellsOf 3 = 1 by kernel_rfl] at h0
  obtain ⟨x0, e0, w0, b0⟩ := XOpen.open_int Try.underlying3 h0
  obtain ⟨L1, hl2⟩ := XOpen.light_cons hl2
  have h1 := hall 1 _ rfl
  change XOpen.Tr enc Try.prog W n 3 ((cs.drop 1).take (Try.prog.cellsOf 3)) = some y1 at h1
  rw [show Try.prog.cellsOf 3 = 1 by kernel_rfl] at h1
  obtain ⟨x1, e1, w1, b1⟩ := XOpen.open_int Try.underlying3 h1
  obtain ⟨L2, hl2⟩ := XOpen.light_cons hl2
  have h2 := hall 2 _ rfl
  change XOpen.Tr enc Try.prog W n 9 ((cs.drop 2).take (Try.prog.cellsOf 9)) = some y2 at h2
  rw [show Try.prog.cellsOf 9 = 1 by kernel_rfl] at h2
  obtain ⟨x2, e2, w2, b2⟩ := XOpen.open_string Try.underlying9 h2 L2
  have z3 := XOpen.cut_end hcl
  have z2 := XOpen.cut (o := 2) (n := 1) e2 z3
  have z1 := XOpen.cut (o := 1) (n := 1) e1 z2
  have z0 := XOpen.cut (o := 0) (n := 1) e0 z1
  simp only [List.drop_zero, List.cons_append, List.nil_append, List.append_nil] at z0
  refine ⟨(⟨x0, x1, x2⟩ : S42), ?_, ?_, ?_⟩
  · rw [z0]
    exact k42_mk W (⟨x0, x1, x2⟩ : S42) 
  · exact ⟨w0, w1, w2⟩
  · simp only [XOpen.bulk, XOpen.bulkAll, List.map_cons, List.map_nil, mu42]
    omega
set_option maxRecDepth 100000 in
set_option maxHeartbeats 1000000 in
theorem contract (H : Type) (enc : TypeId × Value → H) (P : glossatorlaw10_EditsAround.Pure) (W : World) (base : Nat) (args : Array Value) (ds gs : List (DataW H)) (before : List MemPlace)
    (hval0 : ∀ (j : Nat) t v, Try.f3.params[j]? = some t → args[j]? = some v → Value.okWide Try.prog W .any base t v)
    (hW : DataW.Whole enc Try.prog Try.f3.params.toList Rows.editsAroundSpec.vars false W args.toList ds gs before)
    (hsz0 : (DataW.weightsEach Try.prog (Try.f3.params.toList ++ Rows.editsAroundSpec.plain.varTypes Try.prog) (ds ++ gs)).all (fun x => decide (x ≤ reachBytes)) = true) :
    Calls Try.prog 3 args W fun e W' => ∃ v, e = .returned v ∧ Rows.editsAroundSpec.post enc Try.prog Try.f3 false true false false W args v W' := by
  have hval : ∀ (j : Nat) t v, Try.f3.params[j]? = some t → args[j]? = some v → Value.okWide Try.prog W .any base t v := hval0
  have hW' := hW
  obtain ⟨p, q, hA0, hV, rfl, hfz, hnd⟩ := hW
  have hA : DataW.TrodAll enc Try.prog W 0 (fun _ => true) true Try.f3.params.toList args.toList ds p := hA0
  have hsz : ∀ n ∈ DataW.weightsEach Try.prog (Try.f3.params.toList ++ Rows.editsAroundSpec.plain.varTypes Try.prog) (ds ++ gs), n ≤ 140737488351232 := XOpen.light_sized hsz0
  rw [Try.params3] at hA hval hsz
  obtain ⟨v0, vs0, d0, ds0, pl0, q0, hargs, rfl, rfl, h0, r0⟩ := trodAll_cons hA
  obtain ⟨rfl, rfl, rfl⟩ := trodAll_nil r0
  obtain rfl : args = #[v0] := by cases args; simp_all
  obtain ⟨rfl, rfl⟩ := trodVars_none hV
  simp only [List.cons_append, List.nil_append] at hsz
  obtain ⟨L0, hsz⟩ := XOpen.light_cons hsz
  have kk0 := h0
  have lt0 : ∀ x ∈ pl0, x.block < W.heap.size := by obtain ⟨m, hm⟩ := kk0; exact DataW.trod_lt m _ _ _ hm
  obtain ⟨fu0, hf0⟩ := h0
  obtain ⟨aa0, len0, cap0, rfl⟩ := okWide_slice Try.underlying22 (hval 0 22 v0 rfl rfl)
  obtain ⟨A0, c0, x0, e0, lc0, g0, m0, z0, w0, b0⟩ := XOpen.open_slice (d := k42) (wf := (fun x : S42 => Wf42 x)) (μ := mu42) (b := 32) Try.underlying22 (by kernel_rfl) (by kernel_rfl) hf0 L0 (fun n_ cs_ y_ hn_ h_ l_ => by exact open42 h_ l_)
  have e0_ : aa0 = A0 ∧ len0 = x0.length ∧ cap0 = c0 := by simpa [Value.cells] using e0
  obtain ⟨rfl, rfl, rfl⟩ := e0_
  obtain ⟨k, hk⟩ := P x0 ⟨m0, z0, w0⟩
  refine (glossatorlaw10_EditsAround.calls k _ _ x0 true W g0 lc0 hk).mono fun e W' hbel => ?_
  obtain ⟨rfl, bel0⟩ := hbel
  have bel : Below W.heap.size W W' := bel0
  exact ⟨_, rfl, _, _, _, [], _, [], hW', trodAll_mk1 (shut_bool Try.underlying4 _), (trodAll_cons_mk (Below.trod laidOut (by kernel_rfl) (of_decide_eq_true (by kernel_rfl)) kk0 bel lt0) trodAll_mk0), rfl, bel.frame _, fun h => by cases h⟩
set_option maxRecDepth 100000 in
theorem lifted (P : glossatorlaw10_EditsAround.Pure) (os : Os) (started : os.Started) (H : Type) (enc : TypeId × Value → H) (F : Stop.Interp) :
    ReturnsInHanded {} Try.checked os 3 .any ((OpenSpec.ofChange Rows.editsAroundSpec).preRow enc Try.prog Try.f3 Rows.editsAroundRow.domain false Rows.editsAroundRow.laid) (((OpenSpec.ofChange Rows.editsAroundSpec).at F).post enc Try.prog Try.f3 false true false false) := by
  refine returnsInHanded_of_row (C := Try.checked) (s := (OpenSpec.ofChange Rows.editsAroundSpec)) own started (by kernel_rfl) Try.func3
    ⟨World.laidAll Try.prog os Rows.editsAroundRow.laid, fun _ _ => 0, ⟨#[], #[.slice none 0 0], []⟩, World.laidAll_os _ _ _, World.shaped_of_ZipB (by kernel_rfl) (by kernel_rfl), rfl, (Input.okWide_of_okWideB (by kernel_rfl)).2,
      OpenSpec.preRow_of_cond 8 (x := ([.nil], [], [])) (by kernel_rfl) (by kernel_rfl) (fun k hk => by cases hk) (by kernel_rfl) (by rw [MakeChecks.laidMetH_plain _ _ _ (by kernel_rfl)]; exact laidMet_laidAll _ (by kernel_rfl) (by kernel_rfl)), by
        simp only [Assume.holds]
        exact ⟨by simp, by simp, fun _ => Modest.zero, by simp, by simp⟩⟩ ?_
  intro W base args ds gs before hval hW _ hcond hsz hL hsh _
  exact contract H enc P W base args ds gs before hval hW hsz
theorem said : Rows.EditsAroundSaid :=
  OpenClaim.holds_of_cond 3 Try.f3 rfl rfl rfl rfl rfl rfl rfl ⟨rfl, rfl, rfl, rfl, rfl⟩ rfl rfl rfl rfl rfl (by kernel_rfl) Try.func3 (by kernel_rfl)
    (of_decide_eq_true (by kernel_rfl)) (by unfold Func.isWrapper; first | (rw [if_pos (by decide +kernel)]; kernel_rfl) | (rw [if_neg (by decide +kernel)]; exact ⟨rfl, rfl⟩))
    (fun os started H enc _ F => by rw [OpenClaim.pre_eq_preRow]; exact lifted Pure.EditsAround os started H enc F)
#print axioms said
end Go.Proofs.Ytfjanedappcolaa.editsAround
namespace Go.Proofs.Ytfjanedappcolaa
/-- The law's row, under a short name, for the claim. -/
theorem editsAround_holds : Rows.EditsAroundSaid := editsAround.said
end Go.Proofs.Ytfjanedappcolaa
