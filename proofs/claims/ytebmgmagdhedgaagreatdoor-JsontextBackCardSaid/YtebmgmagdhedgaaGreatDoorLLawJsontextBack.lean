/-
  The law JsontextBack of this seat: whatever the input that the row reads, it returns true and leaves its arguments as they were. Conditions of ours: none.
  (Written by this repo's wip/xprint.py: the row of the law, out of its pure statement, which is proved in YtebmgmagdhedgaaGreatDoorPureJsontextBack, and the walk.)
-/
import Derived.Test.YtebmgmagdhedgaaGreatDoorLALawJsontextBack
import Derived.Test.YtebmgmagdhedgaaGreatDoorCards
import Derived.Test.YtebmgmagdhedgaaGreatDoorTie
import Derived.WalkKit
import Derived.ProofKit
import Derived.OpenShut
import Derived.ShutString
import Derived.ChangeOld
import Derived.Below
import Derived.SizedLaws
import Derived.Deep.DeepHandedRow
import Derived.Lay
import Derived.JoinedCond
import Derived.MakeChecks
import Derived.SevenTiedAt
import Derived.Lib.LaidU8
import Derived.PinnedBridge
import Derived.Lib.SmallJoins
namespace Go.Proofs.YtebmgmagdhedgaaGreatDoor.jsontextBack
open Go Go.ChangeShapes Go.WideShapes Go.ChangeAt Go.RowKit Go.Proofs.YtebmgmagdhedgaaGreatDoor.Q Go.Proofs.YtebmgmagdhedgaaGreatDoorW.PrintWords Go.Proofs.YtebmgmagdhedgaaGreatDoorW.PrintLast
set_option linter.unusedVariables false
set_option linter.unusedSimpArgs false
theorem own : ownKnob Tryz.prog.godebug = none := by kernel_rfl
theorem laidOut : laidOutB Tryz.prog = true := by kernel_rfl
set_option maxRecDepth 100000 in
theorem open45_ {H : Type} {enc : TypeId × Value → H} {W : World} {fuel : Nat} (ih : ∀ n, n < fuel → ∀ {cs : List Value} {y : DataW H × List MemPlace}, XOpen.Tr enc Tryz.prog W n 25 cs = some y → XOpen.Light Tryz.prog 25 y.1 → ∃ x : S25, k25.K W x cs ∧ Wf25 x ∧ mu25 x ≤ XOpen.bulk y.1) {cs : List Value} {y : DataW H × List MemPlace} (h : XOpen.Tr enc Tryz.prog W fuel 45 cs = some y) (hl : XOpen.Light Tryz.prog 45 y.1) : ∃ x : S45, k45.K W x cs ∧ Wf45 x ∧ mu45 x ≤ XOpen.bulk y.1 := by
  obtain ⟨xs, n, rfl, rfl, hcl, hxl, hall⟩ := DataW.trod_struct Tryz.underlying45 h
  rw [show Tryz.prog.cellsOf 45 = 5 by kernel_rfl] at hcl
  match xs, hxl, hall, hl with
  | [y0, y1], _, hall, hl =>
  have hl2 := XOpen.light_agg Tryz.underlying45 hl
  simp only [List.map_cons, List.map_nil] at hl2
  obtain ⟨L0, hl2⟩ := XOpen.light_cons hl2
  have h0 := hall 0 _ rfl
  change XOpen.Tr enc Tryz.prog W n 9 ((cs.drop 0).take (Tryz.prog.cellsOf 9)) = some y0 at h0
  rw [show Tryz.prog.cellsOf 9 = 1 by kernel_rfl] at h0
  obtain ⟨x0, e0, w0, b0⟩ := XOpen.open_string Tryz.underlying9 h0 L0
  obtain ⟨L1, hl2⟩ := XOpen.light_cons hl2
  have h1 := hall 1 _ rfl
  change XOpen.Tr enc Tryz.prog W n 25 ((cs.drop 1).take (Tryz.prog.cellsOf 25)) = some y1 at h1
  rw [show Tryz.prog.cellsOf 25 = 4 by kernel_rfl] at h1
  obtain ⟨x1, K1, w1, b1⟩ := ih n (Nat.lt_succ_self n) h1 L1
  obtain ⟨A1_2, c1_2, A1_3, c1_3, e1, lc1_2, g1_2, lc1_3, g1_3⟩ := k25_open K1
  have z2 := XOpen.cut_end hcl
  have z1 := XOpen.cut (o := 1) (n := 4) e1 z2
  have z0 := XOpen.cut (o := 0) (n := 1) e0 z1
  simp only [List.drop_zero, List.cons_append, List.nil_append, List.append_nil] at z0
  refine ⟨(⟨x0, x1⟩ : S45), ?_, ?_, ?_⟩
  · rw [z0]
    exact k45_mk W (⟨x0, x1⟩ : S45) lc1_2 g1_2 lc1_3 g1_3
  · exact ⟨w0, w1⟩
  · simp only [XOpen.bulk, XOpen.bulkAll, List.map_cons, List.map_nil, mu45, mup45]
    omega
set_option maxRecDepth 100000 in
theorem open25 {H : Type} {enc : TypeId × Value → H} {W : World} {fuel : Nat} {cs : List Value} {y : DataW H × List MemPlace} (h : XOpen.Tr enc Tryz.prog W fuel 25 cs = some y) (hl : XOpen.Light Tryz.prog 25 y.1) : ∃ x : S25, k25.K W x cs ∧ Wf25 x ∧ mu25 x ≤ XOpen.bulk y.1 := by
  induction fuel using Nat.strongRecOn generalizing cs y with
  | _ fuel ih =>
  obtain ⟨xs, n, rfl, rfl, hcl, hxl, hall⟩ := DataW.trod_struct Tryz.underlying25 h
  rw [show Tryz.prog.cellsOf 25 = 4 by kernel_rfl] at hcl
  match xs, hxl, hall, hl with
  | [y0, y1, y2, y3], _, hall, hl =>
  have hl2 := XOpen.light_agg Tryz.underlying25 hl
  simp only [List.map_cons, List.map_nil] at hl2
  obtain ⟨L0, hl2⟩ := XOpen.light_cons hl2
  have h0 := hall 0 _ rfl
  change XOpen.Tr enc Tryz.prog W n 5 ((cs.drop 0).take (Tryz.prog.cellsOf 5)) = some y0 at h0
  rw [show Tryz.prog.cellsOf 5 = 1 by kernel_rfl] at h0
  obtain ⟨x0, e0, w0, b0⟩ := XOpen.open_int Tryz.underlying5 h0
  obtain ⟨L1, hl2⟩ := XOpen.light_cons hl2
  have h1 := hall 1 _ rfl
  change XOpen.Tr enc Tryz.prog W n 9 ((cs.drop 1).take (Tryz.prog.cellsOf 9)) = some y1 at h1
  rw [show Tryz.prog.cellsOf 9 = 1 by kernel_rfl] at h1
  obtain ⟨x1, e1, w1, b1⟩ := XOpen.open_string Tryz.underlying9 h1 L1
  obtain ⟨L2, hl2⟩ := XOpen.light_cons hl2
  have h2 := hall 2 _ rfl
  change XOpen.Tr enc Tryz.prog W n 22 ((cs.drop 2).take (Tryz.prog.cellsOf 22)) = some y2 at h2
  rw [show Tryz.prog.cellsOf 22 = 1 by kernel_rfl] at h2
  obtain ⟨A2, c2, x2, e2, lc2, g2, m2, q2, w2, b2⟩ := XOpen.open_slice (d := k25) (wf := (fun x : S25 => Wf25 x)) (μ := mu25) (b := 72) Tryz.underlying22 (by kernel_rfl) (by kernel_rfl) h2 L2 (fun n_ cs_ y_ hn_ h_ l_ => by exact ih n_ (Nat.lt_succ_of_lt hn_) h_ l_)
  obtain ⟨L3, hl2⟩ := XOpen.light_cons hl2
  have h3 := hall 3 _ rfl
  change XOpen.Tr enc Tryz.prog W n 23 ((cs.drop 3).take (Tryz.prog.cellsOf 23)) = some y3 at h3
  rw [show Tryz.prog.cellsOf 23 = 1 by kernel_rfl] at h3
  obtain ⟨A3, c3, x3, e3, lc3, g3, m3, q3, w3, b3⟩ := XOpen.open_slice (d := k45) (wf := (fun x : S45 => Wf45 x)) (μ := mu45) (b := 88) Tryz.underlying23 (by kernel_rfl) (by kernel_rfl) h3 L3 (fun n_ cs_ y_ hn_ h_ l_ => by exact open45_ (fun n2_ hn2_ => ih n2_ (Nat.lt_trans hn2_ (Nat.lt_succ_of_lt hn_))) h_ l_)
  have z4 := XOpen.cut_end hcl
  have z3 := XOpen.cut (o := 3) (n := 1) e3 z4
  have z2 := XOpen.cut (o := 2) (n := 1) e2 z3
  have z1 := XOpen.cut (o := 1) (n := 1) e1 z2
  have z0 := XOpen.cut (o := 0) (n := 1) e0 z1
  simp only [List.drop_zero, List.cons_append, List.nil_append, List.append_nil] at z0
  refine ⟨(⟨x0, x1, x2, x3⟩ : S25), ?_, ?_, ?_⟩
  · rw [z0]
    exact k25_mk W (⟨x0, x1, x2, x3⟩ : S25) lc2 g2 lc3 g3
  · exact Wf25.mk _ w0 w1 ⟨m2, q2⟩ ⟨m3, q3⟩ w2 (fun y hy => (w3 y hy).1) (fun y hy => (w3 y hy).2)
  · simp only [XOpen.bulk, XOpen.bulkAll, List.map_cons, List.map_nil, mu25, mus25_sum, mut45_sum]
    omega
theorem open45 {H : Type} {enc : TypeId × Value → H} {W : World} {fuel : Nat} {cs : List Value} {y : DataW H × List MemPlace} (h : XOpen.Tr enc Tryz.prog W fuel 45 cs = some y) (hl : XOpen.Light Tryz.prog 45 y.1) : ∃ x : S45, k45.K W x cs ∧ Wf45 x ∧ mu45 x ≤ XOpen.bulk y.1 := open45_ (fun _ _ => open25) h hl
set_option maxRecDepth 100000 in
set_option maxHeartbeats 1000000 in
theorem contract (H : Type) (enc : TypeId × Value → H) (P : glossatorlaw04_JsontextBack.Pure) (W : World) (base : Nat) (args : Array Value) (ds gs : List (DataW H)) (before : List MemPlace)
    (hval0 : ∀ (j : Nat) t v, Tryz.f3.params[j]? = some t → args[j]? = some v → Value.okWide Tryz.prog W .any base t v)
    (hW : DataW.Whole enc Tryz.prog Tryz.f3.params.toList Rows.jsontextBackSpec.vars false W args.toList ds gs before)
    (hsz0 : (DataW.weightsEach Tryz.prog (Tryz.f3.params.toList ++ Rows.jsontextBackSpec.plain.varTypes Tryz.prog) (ds ++ gs)).all (fun x => decide (x ≤ reachBytes)) = true) (hG : GlobOk W) :
    Calls Tryz.prog 3 args W fun e W' => ∃ v, e = .returned v ∧ Rows.jsontextBackSpec.post enc Tryz.prog Tryz.f3 false true false false W args v W' := by
  have hval : ∀ (j : Nat) t v, Tryz.f3.params[j]? = some t → args[j]? = some v → Value.okWide Tryz.prog W .any base t v := hval0
  have hW' := hW
  obtain ⟨p, q, hA0, hV, rfl, hfz, hnd⟩ := hW
  have hA : DataW.TrodAll enc Tryz.prog W 0 (fun _ => true) true Tryz.f3.params.toList args.toList ds p := hA0
  have hsz : ∀ n ∈ DataW.weightsEach Tryz.prog (Tryz.f3.params.toList ++ Rows.jsontextBackSpec.plain.varTypes Tryz.prog) (ds ++ gs), n ≤ 140737488351232 := XOpen.light_sized hsz0
  rw [Tryz.params3] at hA hval hsz
  obtain ⟨v0, vs0, d0, ds0, pl0, q0, hargs, rfl, rfl, h0, r0⟩ := trodAll_cons hA
  obtain ⟨v1, vs1, d1, ds1, pl1, q1, rfl, rfl, rfl, h1, r1⟩ := trodAll_cons r0
  obtain ⟨rfl, rfl, rfl⟩ := trodAll_nil r1
  obtain rfl : args = #[v0, v1] := by cases args; simp_all
  obtain ⟨rfl, rfl⟩ := trodVars_none hV
  simp only [List.cons_append, List.nil_append] at hsz
  obtain ⟨L0, hsz⟩ := XOpen.light_cons hsz
  have kk0 := h0
  have lt0 : ∀ x ∈ pl0, x.block < W.heap.size := by obtain ⟨m, hm⟩ := kk0; exact DataW.trod_lt m _ _ _ hm
  obtain ⟨fu0, hf0⟩ := h0
  obtain ⟨cs0, rfl, _⟩ := okWide_struct Tryz.underlying25 (hval 0 25 v0 rfl rfl)
  obtain ⟨x0, K0, w0, b0⟩ := open25 hf0 L0
  obtain ⟨A0_2, c0_2, A0_3, c0_3, e0, lc0_2, g0_2, lc0_3, g0_3⟩ := k25_open K0
  obtain rfl : cs0 = #[.int .u8 x0.f0, .string x0.f1, .slice A0_2 x0.f2.length c0_2, .slice A0_3 x0.f3.length c0_3] := by have := congrArg List.toArray e0; simpa [Value.cells] using this
  obtain ⟨L1, hsz⟩ := XOpen.light_cons hsz
  have kk1 := h1
  have lt1 : ∀ x ∈ pl1, x.block < W.heap.size := by obtain ⟨m, hm⟩ := kk1; exact DataW.trod_lt m _ _ _ hm
  obtain ⟨fu1, hf1⟩ := h1
  obtain ⟨x1, hc1⟩ := okWide_string Tryz.underlying9 (hval 1 9 v1 rfl rfl)
  subst hc1
  obtain ⟨a1, e1, w1, b1⟩ := XOpen.open_string Tryz.underlying9 hf1 L1
  obtain rfl : x1 = a1 := by simpa [Value.cells] using e1
  obtain ⟨k, hk⟩ := P x0 x1 w0 w1
  refine (glossatorlaw04_JsontextBack.calls k x0.f0 x0.f1 _ _ x0.f2 _ _ x0.f3 x1 true W g0_2 lc0_2 g0_3 lc0_3 hG hk).mono fun e W' hbel => ?_
  obtain ⟨rfl, bel0⟩ := hbel
  have bel : Below W.heap.size W W' := bel0
  exact ⟨_, rfl, _, _, _, [], _, [], hW', trodAll_mk1 (shut_bool Tryz.underlying4 _), (trodAll_cons_mk (Below.trod laidOut (by kernel_rfl) (of_decide_eq_true (by kernel_rfl)) kk0 bel lt0) (trodAll_cons_mk (Below.trod laidOut (by kernel_rfl) (of_decide_eq_true (by kernel_rfl)) kk1 bel lt1) trodAll_mk0)), rfl, bel.frame _, fun h => by cases h⟩
set_option maxRecDepth 100000 in
theorem lifted (P : glossatorlaw04_JsontextBack.Pure) (os : Os) (started : os.Started) (H : Type) (enc : TypeId × Value → H) (F : Stop.Interp) :
    ReturnsInHanded {} Tryz.checked os 3 .any ((OpenSpec.ofChange Rows.jsontextBackSpec).preRow enc Tryz.prog Tryz.f3 Rows.jsontextBackRow.domain false Rows.jsontextBackRow.laid) (((OpenSpec.ofChange Rows.jsontextBackSpec).at F).post enc Tryz.prog Tryz.f3 false true false false) := by
  refine returnsInHanded_of_row (C := Tryz.checked) (s := (OpenSpec.ofChange Rows.jsontextBackSpec)) own started (by kernel_rfl) Tryz.func3
    ⟨World.laidAll Tryz.prog os Rows.jsontextBackRow.laid, fun _ _ => 0, ⟨#[], #[.agg #[.int .u8 0, .string ByteArray.empty, .slice none 0 0, .slice none 0 0], .string ByteArray.empty], []⟩, World.laidAll_os _ _ _, World.shaped_of_ZipB (by kernel_rfl) (by kernel_rfl), rfl, (Input.okWide_of_okWideB (by kernel_rfl)).2,
      OpenSpec.preRow_of_cond 8 (x := ([.agg [.lit (.int .u8 0), .lit (.string []), .nil, .nil], .lit (.string [])], [], [])) (by kernel_rfl) (by kernel_rfl) (fun k hk => by cases hk) (by kernel_rfl) (by rw [MakeChecks.laidMetH_plain _ _ _ (by kernel_rfl)]; exact laidMet_laidAll _ (by kernel_rfl) (by kernel_rfl)), by
        simp only [Assume.holds]
        exact ⟨by simp, by simp, fun _ => Modest.zero, by simp, by simp⟩⟩ ?_
  intro W base args ds gs before hval hW _ hcond hsz hL hsh _
  exact contract H enc P W base args ds gs before hval hW hsz (GlobOk.of_laid (l := Rows.jsontextBackRow.laid) hL (by kernel_rfl) (.tail _ (.tail _ (.tail _ (.tail _ (.tail _ (.tail _ (.head _))))))) Pinned.utf8First_eq (.tail _ (.tail _ (.tail _ (.head _)))) (by kernel_rfl) (.tail _ (.tail _ (.head _))) (by kernel_rfl) (.tail _ (.tail _ (.tail _ (.tail _ (.tail _ (.head _)))))) rfl (.tail _ (.tail _ (.tail _ (.tail _ (.head _))))) rfl)
theorem said : Rows.JsontextBackSaid :=
  OpenClaim.holds_of_cond 3 Tryz.f3 rfl rfl rfl rfl rfl rfl rfl ⟨rfl, rfl, rfl, rfl, rfl⟩ rfl rfl rfl rfl rfl (by kernel_rfl) Tryz.func3 (by kernel_rfl)
    (of_decide_eq_true (by kernel_rfl)) (by unfold Func.isWrapper; first | (rw [if_pos (by decide +kernel)]; kernel_rfl) | (rw [if_neg (by decide +kernel)]; exact ⟨rfl, rfl⟩))
    (fun os started H enc _ F => by rw [OpenClaim.pre_eq_preRow]; exact lifted Pure.JsontextBack os started H enc F)
theorem plain (f : FuncId) (fn : Func) (hf : Tryz.pinned.checked.prog.funcNamed "glossator/glossatorlaw04.JsontextBack" = some f) (hfn : Tryz.pinned.checked.prog.funcs[f]? = some fn) :
    true = Tryz.pinned.checked.prog.looks [] ∧ ∀ (j : Nat) t, fn.params[j]? = some t → Tryz.pinned.checked.prog.wantsStandIn t = false := by
  obtain rfl : f = 3 := Option.some.inj ((show Tryz.prog.funcNamed "glossator/glossatorlaw04.JsontextBack" = some 3 by kernel_rfl).symm.trans hf) |>.symm
  obtain rfl : fn = Tryz.f3 := (Option.some.inj (Tryz.func3.symm.trans hfn)).symm
  refine ⟨by kernel_rfl, fun j t ht => ?_⟩
  rw [Tryz.params3] at ht
  have hm : t ∈ [25, 9] := by simpa using Array.mem_of_getElem? ht
  have hall : ([25, 9].all fun u => !Tryz.prog.wantsStandIn u) = true := by kernel_rfl
  exact (show Tryz.prog.wantsStandIn t = false by simpa using List.all_eq_true.1 hall t hm)
theorem card : Rows.JsontextBackCardSaid :=
  Claim7.holds_tied_plain_at .later [] _ _ _ _ said (fun _ h => by cases h) (by kernel_rfl) (fun _ h => by cases h) jsontextBack_row_tie rfl ⟨rfl, rfl⟩ (by kernel_rfl) rfl plain (by kernel_rfl)
#print axioms card
end Go.Proofs.YtebmgmagdhedgaaGreatDoor.jsontextBack
namespace Go.Proofs.YtebmgmagdhedgaaGreatDoor
/-- The law's row, under a short name, for the claim. -/
theorem jsontextBack_holds : Rows.JsontextBackCardSaid := jsontextBack.card
end Go.Proofs.YtebmgmagdhedgaaGreatDoor

