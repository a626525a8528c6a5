/- Words and walks of this claim, put together by this repo's wip/xlink.py out of Q6, Q7, XUtfV. -/
import Derived.Test.YtebmgmagdhedgaaGreatDoorL8
import Derived.Test.YtebmgmagdhedgaaGreatDoorL9
import Derived.Test.YtebmgmagdhedgaaGreatDoorL10
import Derived.Test.YtebmgmagdhedgaaGreatDoorL4
section
namespace Go.Proofs.YtebmgmagdhedgaaGreatDoor.Q
open Go.RowKit Go.Proofs.YtebmgmagdhedgaaGreatDoorW.PrintWords Go.Proofs.YtebmgmagdhedgaaGreatDoorW.PrintLast Go.Proofs.YtebmgmagdhedgaaGreatDoorW.PrintMore
attribute [local go_sem] max2_int min2_int max_two min_two max_three min_three max_four min_four   
set_option linter.unusedVariables false
set_option linter.unusedSimpArgs false
theorem wpS_of_wp_ {P : Program} {Q : Exit → Act → List Frame → World → Prop} {a : Act} {cs : List Frame} {w : World} {c : Code} (Q' : Exit → Act → World → Prop) (hQ : ∀ e a' w', Q' e a' w' → Q e a' cs w') (h : c.wp P Q' a w) : c.wpS P Q a cs w :=
  fun b k _ _ => let ⟨e, a', w', q, r⟩ := h b k cs; ⟨e, a', cs, w', hQ _ _ _ q, r⟩
theorem wp_tmps {P : Program} {c : Code} {Q : Exit → Act → World → Prop} {t1 t2 : Array Value} {ds : List Deferred} {w : World} (h : t1 = t2) (hw : c.wp P Q { tmps := t2, defers := ds } w) : c.wp P Q { tmps := t1, defers := ds } w := by rw [h]; exact hw
def Closed (N i : Nat) (c : Int) (w w' : World) : Prop := w'.heap[N]? = some (.cells #[.int .u8 0, .string ⟨#[]⟩, .slice none 0 0, .slice none 0 0] 25 (0, 0)) ∧ w'.heap[N + 1]? = some (.cells #[.int .i64 i] 3 (0, 0)) ∧ w'.heap[N + 2]? = some (.cells #[.int .i64 c] 28 (0, 0)) ∧ Below N w w'
theorem Closed.drew {N i : Nat} {c : Int} {w w' : World} (h : Closed N i c w w') : Closed N i c w w'.drew := ⟨h.1, h.2.1, h.2.2.1, h.2.2.2.drew⟩
set_option maxRecDepth 100000 in
set_option maxHeartbeats 2000000 in
theorem json_Parse_1.idle (a b c : Addr) (w : World) :
    CallsD Tryz.prog 28 #[.pointer (some a), .pointer (some b), .pointer (some c)] .returning w fun e u' w' => e = .returned (.tuple #[]) ∧ u' = .returning ∧ w' = w := by
  refine callsD_of_wpS Tryz.func28 rfl fun c₀ cs hu => ?_
  apply wpS_seq
  apply wpS_region
  simp [wpOpsS, go_sem, recoverD, hu, Tryz.ntmps28, Exit.thenS]
  apply wpS_seq
  apply wpS_region
  simp [wpOpsS, go_sem, Exit.thenS]
  refine wpS_cond (t := false) (by simp [Act.eval, Array.replicate]) ?_
  simp only [Bool.false_eq_true, if_false]
  refine wpS_of_wp (wp_skip ?_)
  cases c₀
  simp_all [bodyPostS, results, Tryz.results28]
set_option maxRecDepth 100000 in
set_option maxHeartbeats 2000000 in
theorem json_Parse_1.caught (N i : Nat) (c : Int) (a0 a1 a2 a3 : Value) (w : World) (h0 : w.heap[N]? = some (.cells #[a0, a1, a2, a3] 25 (0, 0))) (h1 : w.heap[N + 1]? = some (.cells #[.int .i64 0] 3 (0, 0))) (h2 : w.heap[N + 2]? = some (.cells #[.int .i64 0] 28 (0, 0))) :
    CallsD Tryz.prog 28 #[.pointer (some ⟨N, 0, none⟩), .pointer (some ⟨N + 1, 0, none⟩), .pointer (some ⟨N + 2, 0, none⟩)] (.panicking [thrown i c]) w fun e u' w' => e = .returned (.tuple #[]) ∧ u' = .panicking [{ thrown i c with recovered := true }] ∧ Closed N i c w w' := by
  have HH0 := Aside0.mk h0; have HH1 := Aside0.mk h1; have HH2 := Aside0.mk h2; clear h0 h1 h2; refine callsD_of_wpS Tryz.func28 rfl fun c₀ cs hu => ?_
  apply wpS_seq
  apply wpS_region
  simp [wpOpsS, go_sem, recoverD, hu, Tryz.ntmps28, Exit.thenS, thrown]
  obtain ⟨Q', hQ'⟩ : ∃ Q' : Exit → Act → World → Prop, Q' = fun e a' w' => e = .normal ∧ a'.defers = [] ∧ Closed N i c w w' := ⟨_, rfl⟩
  refine wpS_of_wp_ Q' ?_ ?_
  · rintro e a' w' h
    rw [hQ'] at h
    obtain ⟨rfl, hd, h⟩ := h
    simp [Exit.thenS, bodyPostS, results, Tryz.results28, hd, h]
  clear hu; refine wp_tmps (t2 := #[.pointer (some ⟨N, 0, none⟩), .pointer (some ⟨N + 1, 0, none⟩), .pointer (some ⟨N + 2, 0, none⟩), .iface 57 (.agg #[.int .i64 i, .int .i64 c]), undef, undef, .iface 57 (.agg #[.int .i64 i, .int .i64 c]), undef, undef, undef, undef, undef, undef, undef, undef, undef, undef, undef, undef, undef, undef, undef]) (by kernel_rfl) ?_
  have hne : ∀ w : World, (binOp BinOp.neq 20 (.iface 57 (.agg #[.int .i64 i, .int .i64 c])) Value.nilIface).run Tryz.prog w = .ok (.bool true) w := fun _ => by kernel_rfl
  have hta : ∀ w : World, (Instr.typeAssert (.iface 57 (.agg #[.int .i64 i, .int .i64 c])) 20 57 true).run Tryz.prog w = .ok (.tuple #[.agg #[.int .i64 i, .int .i64 c], .bool true]) w := fun _ => by kernel_rfl
  go_upto_region 5 with (fail)
  have hb := below_alloc (Below.refl w.heap.size w) (.cells #[.int .i64 i, .int .i64 c] 57 (0, 0))
  have hm := blk_new w (.cells #[.int .i64 i, .int .i64 c] 57 (0, 0))
  have k0 := blk_lt HH0.out
  have k1 := blk_lt HH1.out
  have k2 := blk_lt HH2.out
  have HA0 := Aside0.mk (blk_alloc HH0.out (.cells #[.int .i64 i, .int .i64 c] 57 (0, 0)))
  have HA1 := Aside0.mk (blk_alloc HH1.out (.cells #[.int .i64 i, .int .i64 c] 57 (0, 0)))
  have HA2 := Aside0.mk (blk_alloc HH2.out (.cells #[.int .i64 i, .int .i64 c] 57 (0, 0)))
  have HB := Aside0.mk hb; clear hb hne hta; generalize hWa : w.alloc (.cells #[.int .i64 i, .int .i64 c] 57 (0, 0)) = Wa at hm HA0 HA1 HA2 HB ⊢
  have m0 := blk_cell hm 0
  have m1 := blk_cell hm 1
  have e0 := blk_cell HA0.out 0
  have e1 := blk_cell HA0.out 1
  have e2 := blk_cell HA0.out 2
  have e3 := blk_cell HA0.out 3
  have f0 := blk_frozen HA0.out 0
  have f1 := blk_frozen HA0.out 1
  have f2 := blk_frozen HA0.out 2
  have f3 := blk_frozen HA0.out 3
  have e4 := blk_cell HA1.out 0
  have f4 := blk_frozen HA1.out 0
  have e5 := blk_cell HA2.out 0
  have f5 := blk_frozen HA2.out 0
  have ne1 : w.heap.size ≠ N := by omega
  have ne2 : w.heap.size ≠ N + 1 := by omega
  have ne3 : w.heap.size ≠ N + 2 := by omega
  go_region
  have hend : ∀ a' w', a'.defers = [] → Closed N i c w w' → Q' .normal a' w' := fun a' w' h1 h2 => by rw [hQ']; exact ⟨rfl, h1, h2⟩
  refine hend _ _ rfl ?_
  clear hend hQ'; refine Closed.drew ?_
  refine ⟨?_, ?_, ?_, ?_⟩
  · exact (Below.heap_setCell _ _ _ _ (show N ≠ N + 2 by omega)).trans ((Below.heap_setCell _ _ _ _ (show N ≠ N + 1 by omega)).trans (put4 HA0.out _ _ _ _))
  · exact (Below.heap_setCell _ _ _ _ (show N + 1 ≠ N + 2 by omega)).trans (blk_put ((put4_far (show N + 1 ≠ N by omega) _ _ _ _).trans HA1.out) 0 _ rfl)
  · exact blk_put ((Below.heap_setCell _ _ _ _ (show N + 2 ≠ N + 1 by omega)).trans ((put4_far (show N + 2 ≠ N by omega) _ _ _ _).trans HA2.out)) 0 _ rfl
  · exact ((((((((HB.out.mono (Nat.le_of_lt k0)).setCell (p := ⟨N, 0, none⟩) (Nat.le_refl _) _).setCell (p := ⟨N, 1, none⟩) (Nat.le_refl _) _).setCell (p := ⟨N, 2, none⟩) (Nat.le_refl _) _).setCell (p := ⟨N, 3, none⟩) (Nat.le_refl _) _).setCell (p := ⟨N + 1, 0, none⟩) (Nat.le_succ _) _).setCell (p := ⟨N + 2, 0, none⟩) (by show N ≤ N + 2; omega) _))
/-- A text read whole. -/
def parse (s : ByteArray) : Res JV := (pval s 64 (skip isBl s 0)).bind fun v j => if skip isBl s j < s.size then .bad (skip isBl s j) 30 else .ok v 0
def parsed (s : ByteArray) : JV × Nat × Int := if 262144 < s.size then (⟨0, ⟨#[]⟩, [], []⟩, 0, 3) else match parse s with
  | .ok v _ => (v, 0, 0)
  | .bad i c => (⟨0, ⟨#[]⟩, [], []⟩, i, c)
def ParseO (s : ByteArray) (w : World) (e : Ending) (w' : World) : Prop := ∃ v2 v3, e = .returned (.tuple #[.agg #[.int .u8 (parsed s).1.f0, .string (parsed s).1.f1, v2, v3], .int .i64 (parsed s).2.1, .int .i64 (parsed s).2.2]) ∧ Kd.R k25 25 w' w.heap.size (fun _ => True) v2 (parsed s).1.f2 ∧ Kd.R k45 45 w' w.heap.size (fun _ => True) v3 (parsed s).1.f3 ∧ Below w.heap.size w w'
set_option maxRecDepth 100000 in
set_option maxHeartbeats 2000000 in
theorem json_Parse.long (s : ByteArray) (w : World) (h : 262144 < s.size) : Calls Tryz.prog 10 #[.string s] w (ParseO s w) := by
  have hp : parsed s = (⟨0, ⟨#[]⟩, [], []⟩, 0, 3) := if_pos h
  have t1 : decide ((262144 : Int) < (s.size : Int)) = true := decide_eq_true (by omega)
  obtain ⟨W1, hW1⟩ : ∃ W1, W1 = ((w.alloc (.cells #[.int .u8 0, .string ⟨#[]⟩, .slice none 0 0, .slice none 0 0] 25 (0, 0))).alloc (.cells #[.int .i64 0] 3 (0, 0))).alloc (.cells #[.int .i64 0] 28 (0, 0)) := ⟨_, rfl⟩
  have hx0 : W1.heap[w.heap.size]? = some (.cells #[.int .u8 0, .string ⟨#[]⟩, .slice none 0 0, .slice none 0 0] 25 (0, 0)) := by rw [hW1]; exact blk_alloc (blk_alloc (blk_new w _) _) _
  have hx1 : W1.heap[w.heap.size + 1]? = some (.cells #[.int .i64 0] 3 (0, 0)) := by
    rw [hW1]
    have h := blk_alloc (blk_new (w.alloc (.cells #[.int .u8 0, .string ⟨#[]⟩, .slice none 0 0, .slice none 0 0] 25 (0, 0))) (.cells #[.int .i64 0] 3 (0, 0))) (.cells #[.int .i64 0] 28 (0, 0))
    simpa using h
  have hx2 : W1.heap[w.heap.size + 2]? = some (.cells #[.int .i64 0] 28 (0, 0)) := by
    rw [hW1]
    have h := blk_new ((w.alloc (.cells #[.int .u8 0, .string ⟨#[]⟩, .slice none 0 0, .slice none 0 0] 25 (0, 0))).alloc (.cells #[.int .i64 0] 3 (0, 0))) (.cells #[.int .i64 0] 28 (0, 0))
    simpa using h
  have hb1 : Below w.heap.size w W1 := by rw [hW1]; exact below_alloc (below_alloc (below_alloc (Below.refl _ _) _) _) _
  have HX0 := Aside0.mk hx0; have HX1 := Aside0.mk hx1; have HX2 := Aside0.mk hx2; have HB := Aside0.mk hb1; have HP := Aside0.mk hp; have HW := Aside0.mk hW1; clear hx0 hx1 hx2 hb1 hp hW1 h; obtain ⟨N, hN⟩ : ∃ N, N = w.heap.size := ⟨_, rfl⟩
  rw [← hN] at HX0 HX1 HX2
  go_enter_defers Tryz.func10, Tryz.ntmps10
  go_upto_region 1 with (fail)
  rw [← HW.out, ← hN]
  have HNw := Aside0.mk hN; clear hN; have e0 := blk_cell HX0.out 0
  have e1 := blk_cell HX0.out 1
  have e2 := blk_cell HX0.out 2
  have e3 := blk_cell HX0.out 3
  have f0 := blk_frozen HX0.out 0
  have f1 := blk_frozen HX0.out 1
  have f2 := blk_frozen HX0.out 2
  have f3 := blk_frozen HX0.out 3
  have e4 := blk_cell HX1.out 0
  have f4 := blk_frozen HX1.out 0
  have e5 := blk_cell HX2.out 0
  have f5 := blk_frozen HX2.out 0
  go_wp2
  have hw := (Below.heap_setCell (((((W1.setCell ⟨N, 0, none⟩ (.int .u8 0)).setCell ⟨N, 1, none⟩ (.string ⟨#[]⟩)).setCell ⟨N, 2, none⟩ (.slice none 0 0)).setCell ⟨N, 3, none⟩ (.slice none 0 0)).setCell ⟨N + 1, 0, none⟩ (.int .i64 0)) ⟨N + 1 + 1, 0, none⟩ (.int .i64 3) N (show N ≠ N + 1 + 1 by omega)).trans ((Below.heap_setCell ((((W1.setCell ⟨N, 0, none⟩ (.int .u8 0)).setCell ⟨N, 1, none⟩ (.string ⟨#[]⟩)).setCell ⟨N, 2, none⟩ (.slice none 0 0)).setCell ⟨N, 3, none⟩ (.slice none 0 0)) ⟨N + 1, 0, none⟩ (.int .i64 0) N (show N ≠ N + 1 by omega)).trans (put4 HX0.out (.int .u8 0) (.string ⟨#[]⟩) (.slice none 0 0) (.slice none 0 0)))
  have hw1 := (Below.heap_setCell (((((W1.setCell ⟨N, 0, none⟩ (.int .u8 0)).setCell ⟨N, 1, none⟩ (.string ⟨#[]⟩)).setCell ⟨N, 2, none⟩ (.slice none 0 0)).setCell ⟨N, 3, none⟩ (.slice none 0 0)).setCell ⟨N + 1, 0, none⟩ (.int .i64 0)) ⟨N + 1 + 1, 0, none⟩ (.int .i64 3) (N + 1) (show N + 1 ≠ N + 1 + 1 by omega)).trans (blk_put ((put4_far (show N + 1 ≠ N by omega) (.int .u8 0) (.string ⟨#[]⟩) (.slice none 0 0) (.slice none 0 0)).trans HX1.out) 0 (.int .i64 0) rfl)
  have hw2 : ((((((W1.setCell ⟨N, 0, none⟩ (.int .u8 0)).setCell ⟨N, 1, none⟩ (.string ⟨#[]⟩)).setCell ⟨N, 2, none⟩ (.slice none 0 0)).setCell ⟨N, 3, none⟩ (.slice none 0 0)).setCell ⟨N + 1, 0, none⟩ (.int .i64 0)).setCell ⟨N + 1 + 1, 0, none⟩ (.int .i64 3)).heap[N + 1 + 1]? = some (.cells #[.int .i64 3] 28 (0, 0)) := blk_put ((Below.heap_setCell ((((W1.setCell ⟨N, 0, none⟩ (.int .u8 0)).setCell ⟨N, 1, none⟩ (.string ⟨#[]⟩)).setCell ⟨N, 2, none⟩ (.slice none 0 0)).setCell ⟨N, 3, none⟩ (.slice none 0 0)) ⟨N + 1, 0, none⟩ (.int .i64 0) (N + 1 + 1) (show N + 1 + 1 ≠ N + 1 by omega)).trans ((put4_far (show N + 1 + 1 ≠ N by omega) (.int .u8 0) (.string ⟨#[]⟩) (.slice none 0 0) (.slice none 0 0)).trans HX2.out)) 0 (.int .i64 3) rfl
  have hNw := HNw.out
  have hb := ((((((HB.out.setCell (p := ⟨N, 0, none⟩) (by show w.heap.size ≤ N; omega) (.int .u8 0)).setCell (p := ⟨N, 1, none⟩) (by show w.heap.size ≤ N; omega) (.string ⟨#[]⟩)).setCell (p := ⟨N, 2, none⟩) (by show w.heap.size ≤ N; omega) (.slice none 0 0)).setCell (p := ⟨N, 3, none⟩) (by show w.heap.size ≤ N; omega) (.slice none 0 0)).setCell (p := ⟨N + 1, 0, none⟩) (by show w.heap.size ≤ N + 1; omega) (.int .i64 0)).setCell (p := ⟨N + 1 + 1, 0, none⟩) (by show w.heap.size ≤ N + 1 + 1; omega) (.int .i64 3))
  generalize ((((((W1.setCell ⟨N, 0, none⟩ (.int .u8 0)).setCell ⟨N, 1, none⟩ (.string ⟨#[]⟩)).setCell ⟨N, 2, none⟩ (.slice none 0 0)).setCell ⟨N, 3, none⟩ (.slice none 0 0)).setCell ⟨N + 1, 0, none⟩ (.int .i64 0)).setCell ⟨N + 1 + 1, 0, none⟩ (.int .i64 3)) = Wf at hw hw1 hw2 hb ⊢
  have g0 := blk_cell hw 0
  have g1 := blk_cell hw 1
  have g2 := blk_cell hw 2
  have g3 := blk_cell hw 3
  have g4 := blk_cell hw1 0
  have g5 := blk_cell hw2 0
  refine ⟨.tuple #[.agg #[.int .u8 0, .string ⟨#[]⟩, .slice none 0 0, .slice none 0 0], .int .i64 0, .int .i64 3], by simp [results, Tryz.results10, go_sem, g0, g1, g2, g3, g4, g5], ?_⟩
  unfold ParseO
  rw [HP.out]
  exact ⟨_, _, rfl, Kd.R_nil _ _ _ _ _, Kd.R_nil _ _ _ _ _, hb⟩
theorem ParseO.bad {s : ByteArray} {w : World} {i : Nat} {c : Int} (hs : ¬ 262144 < s.size) (h : parse s = .bad i c) {w' : World} (hb : Below w.heap.size w w') : ParseO s w (.returned (.tuple #[.agg #[.int .u8 0, .string ⟨#[]⟩, .slice none 0 0, .slice none 0 0], .int .i64 i, .int .i64 c])) w' := by
  have hp : parsed s = (⟨0, ⟨#[]⟩, [], []⟩, i, c) := by unfold parsed; rw [if_neg hs, h]
  unfold ParseO
  rw [hp]
  exact ⟨_, _, rfl, Kd.R_nil _ _ _ _ _, Kd.R_nil _ _ _ _ _, hb⟩
theorem Kp.belowN {B : Nat} {a b c : World} (h : Below a.heap.size a b) (k : Kp B b c) (hB : a.heap.size ≤ B) : Below a.heap.size a c := h.trans ⟨k.os, k.tape, k.output, k.size, fun q hq => k.block q (Nat.lt_of_lt_of_le hq h.size) (by omega)⟩
/-- What the deferred call makes of a panic. -/
theorem door_bad {s : ByteArray} {w w4 : World} {N i : Nat} {c : Int} {a0 a1 a2 a3 : Value} {tmps : Array Value} (hs : ¬ 262144 < s.size) (h : parse s = .bad i c) (hN : N = w.heap.size) (hb : Below w.heap.size w w4)
    (h0 : w4.heap[N]? = some (.cells #[a0, a1, a2, a3] 25 (0, 0))) (h1 : w4.heap[N + 1]? = some (.cells #[.int .i64 0] 3 (0, 0))) (h2 : w4.heap[N + 1 + 1]? = some (.cells #[.int .i64 0] 28 (0, 0)))
    (ht2 : tmps[2]? = some (.pointer (some ⟨N, 0, none⟩))) (ht3 : tmps[3]? = some (.pointer (some ⟨N + 1, 0, none⟩))) (ht4 : tmps[4]? = some (.pointer (some ⟨N + 1 + 1, 0, none⟩))) :
    bodyPostD Tryz.prog Tryz.f10 (ParseO s w) (.panic [thrown i c]) { tmps := tmps, defers := [{ target := .fn (.func 28) #[.pointer (some ⟨N, 0, none⟩), .pointer (some ⟨N + 1, 0, none⟩), .pointer (some ⟨N + 1 + 1, 0, none⟩)], args := #[] }] } w4 := by
  refine leaves_cons (f := 28) (args := #[.pointer (some ⟨N, 0, none⟩), .pointer (some ⟨N + 1, 0, none⟩), .pointer (some ⟨N + 1 + 1, 0, none⟩)]) (by simp) (by simp [go_sem]) ?_
  refine (json_Parse_1.caught N i c a0 a1 a2 a3 w4 h0 h1 h2).mono ?_
  rintro e u' w'' ⟨rfl, rfl, k0, k1, k2, kb⟩
  have g0 := blk_cell k0 0
  have g1 := blk_cell k0 1
  have g2 := blk_cell k0 2
  have g3 := blk_cell k0 3
  have g4 := blk_cell k1 0
  have g5 : w''.cell? ⟨N + 1 + 1, 0, none⟩ = _ := blk_cell k2 0
  have hb2 : Below w.heap.size w w'' := hb.trans (kb.mono (Nat.le_of_eq hN.symm))
  refine ⟨.tuple #[.agg #[.int .u8 0, .string ⟨#[]⟩, .slice none 0 0, .slice none 0 0], .int .i64 i, .int .i64 c], ?_, ParseO.bad hs h hb2⟩
  simp [results, Tryz.results10, go_sem, g0, g1, g2, g3, g4, g5, ht2, ht3, ht4]
/-- What stands behind a return. -/
theorem door_ok {s : ByteArray} {w w3 : World} {N : Nat} {v : JV} {A2 A3 : Option Addr} {c2 c3 : Nat} {tmps : Array Value} (hs : ¬ 262144 < s.size) (h : parse s = .ok v 0) (hN : N = w.heap.size) (hb : Below w.heap.size w w3)
    (h0 : w3.heap[N]? = some (.cells #[.int .u8 v.f0, .string v.f1, .slice A2 v.f2.length c2, .slice A3 v.f3.length c3] 25 (0, 0))) (h1 : w3.heap[N + 1]? = some (.cells #[.int .i64 0] 3 (0, 0))) (h2 : w3.heap[N + 1 + 1]? = some (.cells #[.int .i64 0] 28 (0, 0)))
    (hv2 : Kd.R k25 25 w3 (N + 4) (fun _ => True) (.slice A2 v.f2.length c2) v.f2) (hv3 : Kd.R k45 45 w3 (N + 4) (fun _ => True) (.slice A3 v.f3.length c3) v.f3)
    (ht2 : tmps[2]? = some (.pointer (some ⟨N, 0, none⟩))) (ht3 : tmps[3]? = some (.pointer (some ⟨N + 1, 0, none⟩))) (ht4 : tmps[4]? = some (.pointer (some ⟨N + 1 + 1, 0, none⟩))) :
    bodyPostD Tryz.prog Tryz.f10 (ParseO s w) .ret { tmps := tmps, defers := [{ target := .fn (.func 28) #[.pointer (some ⟨N, 0, none⟩), .pointer (some ⟨N + 1, 0, none⟩), .pointer (some ⟨N + 1 + 1, 0, none⟩)], args := #[] }] } ((((((w3.setCell ⟨N, 0, none⟩ (.int .u8 v.f0)).setCell ⟨N, 1, none⟩ (.string v.f1)).setCell ⟨N, 2, none⟩ (.slice A2 v.f2.length c2)).setCell ⟨N, 3, none⟩ (.slice A3 v.f3.length c3)).setCell ⟨N + 1, 0, none⟩ (.int .i64 0)).setCell ⟨N + 1 + 1, 0, none⟩ (.int .i64 0)) := by
  have hp : parsed s = (v, 0, 0) := by unfold parsed; rw [if_neg hs, h]
  have k0 := (Below.heap_setCell (((((w3.setCell ⟨N, 0, none⟩ (.int .u8 v.f0)).setCell ⟨N, 1, none⟩ (.string v.f1)).setCell ⟨N, 2, none⟩ (.slice A2 v.f2.length c2)).setCell ⟨N, 3, none⟩ (.slice A3 v.f3.length c3)).setCell ⟨N + 1, 0, none⟩ (.int .i64 0)) ⟨N + 1 + 1, 0, none⟩ (.int .i64 0) N (show N ≠ N + 1 + 1 by omega)).trans ((Below.heap_setCell ((((w3.setCell ⟨N, 0, none⟩ (.int .u8 v.f0)).setCell ⟨N, 1, none⟩ (.string v.f1)).setCell ⟨N, 2, none⟩ (.slice A2 v.f2.length c2)).setCell ⟨N, 3, none⟩ (.slice A3 v.f3.length c3)) ⟨N + 1, 0, none⟩ (.int .i64 0) N (show N ≠ N + 1 by omega)).trans (put4 h0 (.int .u8 v.f0) (.string v.f1) (.slice A2 v.f2.length c2) (.slice A3 v.f3.length c3)))
  have k1 := (Below.heap_setCell (((((w3.setCell ⟨N, 0, none⟩ (.int .u8 v.f0)).setCell ⟨N, 1, none⟩ (.string v.f1)).setCell ⟨N, 2, none⟩ (.slice A2 v.f2.length c2)).setCell ⟨N, 3, none⟩ (.slice A3 v.f3.length c3)).setCell ⟨N + 1, 0, none⟩ (.int .i64 0)) ⟨N + 1 + 1, 0, none⟩ (.int .i64 0) (N + 1) (show N + 1 ≠ N + 1 + 1 by omega)).trans (blk_put ((put4_far (show N + 1 ≠ N by omega) (.int .u8 v.f0) (.string v.f1) (.slice A2 v.f2.length c2) (.slice A3 v.f3.length c3)).trans h1) 0 (.int .i64 0) rfl)
  have k2 : ((((((w3.setCell ⟨N, 0, none⟩ (.int .u8 v.f0)).setCell ⟨N, 1, none⟩ (.string v.f1)).setCell ⟨N, 2, none⟩ (.slice A2 v.f2.length c2)).setCell ⟨N, 3, none⟩ (.slice A3 v.f3.length c3)).setCell ⟨N + 1, 0, none⟩ (.int .i64 0)).setCell ⟨N + 1 + 1, 0, none⟩ (.int .i64 0)).heap[N + 1 + 1]? = some (.cells #[.int .i64 0] 28 (0, 0)) := blk_put ((Below.heap_setCell ((((w3.setCell ⟨N, 0, none⟩ (.int .u8 v.f0)).setCell ⟨N, 1, none⟩ (.string v.f1)).setCell ⟨N, 2, none⟩ (.slice A2 v.f2.length c2)).setCell ⟨N, 3, none⟩ (.slice A3 v.f3.length c3)) ⟨N + 1, 0, none⟩ (.int .i64 0) (N + 1 + 1) (show N + 1 + 1 ≠ N + 1 by omega)).trans ((put4_far (show N + 1 + 1 ≠ N by omega) (.int .u8 v.f0) (.string v.f1) (.slice A2 v.f2.length c2) (.slice A3 v.f3.length c3)).trans h2)) 0 (.int .i64 0) rfl
  have kb := ((((((hb.setCell (p := ⟨N, 0, none⟩) (by show w.heap.size ≤ N; omega) (.int .u8 v.f0)).setCell (p := ⟨N, 1, none⟩) (by show w.heap.size ≤ N; omega) (.string v.f1)).setCell (p := ⟨N, 2, none⟩) (by show w.heap.size ≤ N; omega) (.slice A2 v.f2.length c2)).setCell (p := ⟨N, 3, none⟩) (by show w.heap.size ≤ N; omega) (.slice A3 v.f3.length c3)).setCell (p := ⟨N + 1, 0, none⟩) (by show w.heap.size ≤ N + 1; omega) (.int .i64 0)).setCell (p := ⟨N + 1 + 1, 0, none⟩) (by show w.heap.size ≤ N + 1 + 1; omega) (.int .i64 0))
  have far : ∀ k, N + 4 ≤ k → (((((((w3.setCell ⟨N, 0, none⟩ (.int .u8 v.f0)).setCell ⟨N, 1, none⟩ (.string v.f1)).setCell ⟨N, 2, none⟩ (.slice A2 v.f2.length c2)).setCell ⟨N, 3, none⟩ (.slice A3 v.f3.length c3)).setCell ⟨N + 1, 0, none⟩ (.int .i64 0)).setCell ⟨N + 1 + 1, 0, none⟩ (.int .i64 0))).heap[k]? = w3.heap[k]? := fun k hk => (Below.heap_setCell _ _ _ _ (show k ≠ N + 1 + 1 by omega)).trans ((Below.heap_setCell _ _ _ _ (show k ≠ N + 1 by omega)).trans (put4_far (show k ≠ N by omega) _ _ _ _))
  have r2 := rk hv2 (fun k hk _ => far k hk)
  have r3 := rk hv3 (fun k hk _ => far k hk)
  clear far h0 h1 h2 hv2 hv3 hb; generalize ((((((w3.setCell ⟨N, 0, none⟩ (.int .u8 v.f0)).setCell ⟨N, 1, none⟩ (.string v.f1)).setCell ⟨N, 2, none⟩ (.slice A2 v.f2.length c2)).setCell ⟨N, 3, none⟩ (.slice A3 v.f3.length c3)).setCell ⟨N + 1, 0, none⟩ (.int .i64 0)).setCell ⟨N + 1 + 1, 0, none⟩ (.int .i64 0)) = Wf at k0 k1 k2 kb r2 r3 ⊢
  refine leaves_cons (f := 28) (args := #[.pointer (some ⟨N, 0, none⟩), .pointer (some ⟨N + 1, 0, none⟩), .pointer (some ⟨N + 1 + 1, 0, none⟩)]) (by simp) (by simp [go_sem]) ?_
  refine (json_Parse_1.idle ⟨N, 0, none⟩ ⟨N + 1, 0, none⟩ ⟨N + 1 + 1, 0, none⟩ Wf).mono ?_
  rintro e u' w'' ⟨rfl, rfl, rfl⟩
  have g0 := blk_cell k0 0
  have g1 := blk_cell k0 1
  have g2 := blk_cell k0 2
  have g3 := blk_cell k0 3
  have g4 := blk_cell k1 0
  have g5 := blk_cell k2 0
  refine ⟨.tuple #[.agg #[.int .u8 v.f0, .string v.f1, .slice A2 v.f2.length c2, .slice A3 v.f3.length c3], .int .i64 0, .int .i64 0], ?_, ?_⟩
  · simp [results, Tryz.results10, go_sem, g0, g1, g2, g3, g4, g5, ht2, ht3, ht4]
  · unfold ParseO
    rw [hp]
    exact ⟨_, _, rfl, Kd.R_lower r2 (by omega), Kd.R_lower r3 (by omega), kb⟩
set_option maxRecDepth 100000 in
set_option maxHeartbeats 2000000 in
theorem json_Parse.short (s : ByteArray) (w : World) (hG : GlobOk w) (h : ¬ 262144 < s.size) : Calls Tryz.prog 10 #[.string s] w (ParseO s w) := by
  have t1 : decide ((262144 : Int) < (s.size : Int)) = false := decide_eq_false (by omega)
  have hs : s.size ≤ 262144 := by omega
  have hsz : s.size ≤ 140737488351232 := by omega
  obtain ⟨W1, hW1⟩ : ∃ W1, W1 = (((w.alloc (.cells #[.int .u8 0, .string ⟨#[]⟩, .slice none 0 0, .slice none 0 0] 25 (0, 0))).alloc (.cells #[.int .i64 0] 3 (0, 0))).alloc (.cells #[.int .i64 0] 28 (0, 0))).alloc (.cells #[.string s, .int .i64 0] 61 (0, 0)) := ⟨_, rfl⟩
  obtain ⟨N, hN⟩ : ∃ N, N = w.heap.size := ⟨_, rfl⟩
  have hx0 : W1.heap[N]? = some (.cells #[.int .u8 0, .string ⟨#[]⟩, .slice none 0 0, .slice none 0 0] 25 (0, 0)) := by rw [hW1, hN]; exact blk_alloc (blk_alloc (blk_alloc (blk_new w _) _) _) _
  have hx1 : W1.heap[N + 1]? = some (.cells #[.int .i64 0] 3 (0, 0)) := by
    rw [hW1, hN]
    have h := blk_alloc (blk_alloc (blk_new (w.alloc (.cells #[.int .u8 0, .string ⟨#[]⟩, .slice none 0 0, .slice none 0 0] 25 (0, 0))) (.cells #[.int .i64 0] 3 (0, 0))) (.cells #[.int .i64 0] 28 (0, 0))) (.cells #[.string s, .int .i64 0] 61 (0, 0))
    simpa using h
  have hx2 : W1.heap[N + 1 + 1]? = some (.cells #[.int .i64 0] 28 (0, 0)) := by
    rw [hW1, hN]
    have h := blk_alloc (blk_new ((w.alloc (.cells #[.int .u8 0, .string ⟨#[]⟩, .slice none 0 0, .slice none 0 0] 25 (0, 0))).alloc (.cells #[.int .i64 0] 3 (0, 0))) (.cells #[.int .i64 0] 28 (0, 0))) (.cells #[.string s, .int .i64 0] 61 (0, 0))
    simpa using h
  have hx3 : Rdr (N + 1 + 1 + 1) s 0 W1 := by
    unfold Rdr
    rw [hW1, hN]
    have h := blk_new (((w.alloc (.cells #[.int .u8 0, .string ⟨#[]⟩, .slice none 0 0, .slice none 0 0] 25 (0, 0))).alloc (.cells #[.int .i64 0] 3 (0, 0))).alloc (.cells #[.int .i64 0] 28 (0, 0))) (.cells #[.string s, .int .i64 0] 61 (0, 0))
    simpa using h
  have hb1 : Below w.heap.size w W1 := by rw [hW1]; exact below_alloc (below_alloc (below_alloc (below_alloc (Below.refl _ _) _) _) _) _
  have hmf : ∀ (fn : Fn) (first cap : Array Value) (w : World), (Instr.makeFunc fn first cap).run Tryz.prog w = .ok (.func fn first cap) w := fun _ _ _ _ => rfl
  have HX0 := Aside0.mk hx0; have HX1 := Aside0.mk hx1; have HX2 := Aside0.mk hx2; have HR := Aside0.mk hx3; have HB := Aside0.mk hb1; have HW := Aside0.mk hW1; have HNw := Aside0.mk hN; have HF := Aside0.mk (hG.free (B := N + 1 + 1 + 1) (by omega))
  have HG := Aside0.mk (hG.below hb1)
  have HS := Aside0.mk h; clear hx0 hx1 hx2 hx3 hb1 hW1 h hG; go_enter_defers Tryz.func10, Tryz.ntmps10
  go_upto_region 5 with (fail)
  rw [← HW.out, ← hN]
  clear hN; have hV := json_reader_value.ok s hs 64 (by decide)
  rw [show (65 : Int) - ((64 : Nat) : Int) = 1 from rfl] at hV
  have HV := Aside0.mk hV; have hj0 : skip isBl s 0 ≤ s.size := skip_in (Nat.zero_le _)
  clear hV; cases hv : pval s 64 (skip isBl s 0) with
  | bad k c =>
    have HPB := Aside0.mk (show parse s = .bad k c by unfold parse; rw [hv]; rfl)
    have HPV := Aside0.mk hv; clear hv; go_wp2_with (first | (go_at_call 29; refine (json_reader_blanks.calls (N + 1 + 1 + 1) s 0 W1 HR.out hsz (Nat.zero_le _)).mono ?_; rintro e w1 ⟨rfl, hr, hk⟩; have HR1 := Aside0.mk hr; have HK1 := Aside0.mk hk; clear hr hk) | (go_at_call 30; refine (HV.out (N + 1 + 1 + 1) (skip isBl s 0) w1 HR1.out hj0 (HG.out.kept HF.out HK1.out.block) HF.out).mono ?_; intro e w2 ho; rw [HPV.out] at ho; obtain ⟨rfl, hk⟩ := ho.bad_; have HK2 := Aside0.mk (HK1.out.trans hk); clear ho hk))
    have hNw := HNw.out
    have hY0 := (HK2.out.block N (blk_lt HX0.out) (by omega)).trans HX0.out
    have hY1 := (HK2.out.block (N + 1) (blk_lt HX1.out) (by omega)).trans HX1.out
    have hY2 := (HK2.out.block (N + 1 + 1) (blk_lt HX2.out) (by omega)).trans HX2.out
    have hb : Below w.heap.size w w2 := Kp.belowN HB.out HK2.out (by omega)
    exact door_bad HS.out HPB.out hNw hb hY0 hY1 hY2 rfl rfl rfl
  | ok v j =>
    have HPV := Aside0.mk hv; have hpo : parse s = if skip isBl s j < s.size then .bad (skip isBl s j) 30 else .ok v 0 := by unfold parse; rw [hv]; rfl
    have HPO := Aside0.mk hpo; clear hv hpo; go_upto_region 7 with (first | (go_at_call 29; refine (json_reader_blanks.calls (N + 1 + 1 + 1) s 0 W1 HR.out hsz (Nat.zero_le _)).mono ?_; rintro e w1 ⟨rfl, hr, hk⟩; have HR1 := Aside0.mk hr; have HK1 := Aside0.mk hk; clear hr hk) | (go_at_call 30; refine (HV.out (N + 1 + 1 + 1) (skip isBl s 0) w1 HR1.out hj0 (HG.out.kept HF.out HK1.out.block) HF.out).mono ?_; intro e w2 ho; rw [HPV.out] at ho; obtain ⟨x, rfl, ⟨v2, v3, rfl, hr2, hr3⟩, hjs, hr, hk⟩ := ho.ok_; have HS1 := Aside0.mk HK1.out.size; have HK2 := Aside0.mk (HK1.out.trans hk); have HR2 := Aside0.mk hr; have HV2 := Aside0.mk hr2; have HV3 := Aside0.mk hr3; obtain ⟨A2, c2, rfl⟩ := Kd.R_slice hr2; obtain ⟨A3, c3, rfl⟩ := Kd.R_slice hr3; clear ho hk hr hr2 hr3; have HY0 := Aside0.mk ((HK2.out.block N (blk_lt HX0.out) (by omega)).trans HX0.out); have e0 := blk_cell HY0.out 0; have e1 := blk_cell HY0.out 1; have e2 := blk_cell HY0.out 2; have e3 := blk_cell HY0.out 3; have f0 := blk_frozen HY0.out 0; have f1 := blk_frozen HY0.out 1; have f2 := blk_frozen HY0.out 2; have f3 := blk_frozen HY0.out 3))
    have hNw := HNw.out
    have hYv := put4 HY0.out (.int .u8 v.f0) (.string v.f1) (.slice A2 v.f2.length c2) (.slice A3 v.f3.length c3)
    have hY1 := (put4_far (show N + 1 ≠ N by omega) (.int .u8 v.f0) (.string v.f1) (.slice A2 v.f2.length c2) (.slice A3 v.f3.length c3)).trans ((HK2.out.block (N + 1) (blk_lt HX1.out) (by omega)).trans HX1.out)
    have hY2 := (put4_far (show N + 1 + 1 ≠ N by omega) (.int .u8 v.f0) (.string v.f1) (.slice A2 v.f2.length c2) (.slice A3 v.f3.length c3)).trans ((HK2.out.block (N + 1 + 1) (blk_lt HX2.out) (by omega)).trans HX2.out)
    have hRv : Rdr (N + 1 + 1 + 1) s j (((((w2.setCell ⟨N, 0, none⟩ (.int .u8 v.f0)).setCell ⟨N, 1, none⟩ (.string v.f1)).setCell ⟨N, 2, none⟩ (.slice A2 v.f2.length c2)).setCell ⟨N, 3, none⟩ (.slice A3 v.f3.length c3))) := (put4_far (show N + 1 + 1 + 1 ≠ N by omega) (.int .u8 v.f0) (.string v.f1) (.slice A2 v.f2.length c2) (.slice A3 v.f3.length c3)).trans HR2.out
    have hb2 : Below w.heap.size w w2 := Kp.belowN HB.out HK2.out (by omega)
    have hbv : Below w.heap.size w (((((w2.setCell ⟨N, 0, none⟩ (.int .u8 v.f0)).setCell ⟨N, 1, none⟩ (.string v.f1)).setCell ⟨N, 2, none⟩ (.slice A2 v.f2.length c2)).setCell ⟨N, 3, none⟩ (.slice A3 v.f3.length c3))) := (((hb2.setCell (p := ⟨N, 0, none⟩) (by show w.heap.size ≤ N; omega) _).setCell (p := ⟨N, 1, none⟩) (by show w.heap.size ≤ N; omega) _).setCell (p := ⟨N, 2, none⟩) (by show w.heap.size ≤ N; omega) _).setCell (p := ⟨N, 3, none⟩) (by show w.heap.size ≤ N; omega) _
    have hNl : N + 1 + 1 + 1 < w1.heap.size := HR1.out.lt
    have hv2 : Kd.R k25 25 (((((w2.setCell ⟨N, 0, none⟩ (.int .u8 v.f0)).setCell ⟨N, 1, none⟩ (.string v.f1)).setCell ⟨N, 2, none⟩ (.slice A2 v.f2.length c2)).setCell ⟨N, 3, none⟩ (.slice A3 v.f3.length c3))) (N + 4) (fun _ => True) (.slice A2 v.f2.length c2) v.f2 := Kd.R_lower (rk HV2.out (fun k hk _ => put4_far (by omega) _ _ _ _)) (by omega)
    have hv3 : Kd.R k45 45 (((((w2.setCell ⟨N, 0, none⟩ (.int .u8 v.f0)).setCell ⟨N, 1, none⟩ (.string v.f1)).setCell ⟨N, 2, none⟩ (.slice A2 v.f2.length c2)).setCell ⟨N, 3, none⟩ (.slice A3 v.f3.length c3))) (N + 4) (fun _ => True) (.slice A3 v.f3.length c3) v.f3 := Kd.R_lower (rk HV3.out (fun k hk _ => put4_far (by omega) _ _ _ _)) (by omega)
    clear e0 e1 e2 e3 f0 f1 f2 f3; generalize ((((w2.setCell ⟨N, 0, none⟩ (.int .u8 v.f0)).setCell ⟨N, 1, none⟩ (.string v.f1)).setCell ⟨N, 2, none⟩ (.slice A2 v.f2.length c2)).setCell ⟨N, 3, none⟩ (.slice A3 v.f3.length c3)) = Wv at hYv hY1 hY2 hRv hbv hv2 hv3 ⊢
    have HYv := Aside0.mk hYv; have HY1 := Aside0.mk hY1; have HY2 := Aside0.mk hY2; have HRv := Aside0.mk hRv; have HBv := Aside0.mk hbv; have HV2' := Aside0.mk hv2; have HV3' := Aside0.mk hv3; clear hYv hY1 hY2 hRv hbv hv2 hv3 hNw hb2 hNl; go_upto_region 8 with (first | (go_at_call 29; refine (json_reader_blanks.calls (N + 1 + 1 + 1) s j Wv HRv.out hsz hjs).mono ?_; rintro e w3 ⟨rfl, hr, hk⟩; have HR3 := Aside0.mk hr; have HK3 := Aside0.mk hk; clear hr hk))
    have hZ0 := (HK3.out.block N (blk_lt HYv.out) (by omega)).trans HYv.out
    have hZ1 := (HK3.out.block (N + 1) (blk_lt HY1.out) (by omega)).trans HY1.out
    have hZ2 := (HK3.out.block (N + 1 + 1) (blk_lt HY2.out) (by omega)).trans HY2.out
    have HZ0 := Aside0.mk hZ0; have HZ1 := Aside0.mk hZ1; have HZ2 := Aside0.mk hZ2; have HB3 := Aside0.mk (show Below w.heap.size w w3 from Kp.belowN HBv.out HK3.out (by have := HNw.out; omega))
    have c1 := HR3.out.c1
    clear hZ0 hZ1 hZ2; by_cases hlt : skip isBl s j < s.size
    · have t2 : decide (skip isBl s j < s.size) = true := decide_eq_true hlt
      have HPB := Aside0.mk (show parse s = .bad (skip isBl s j) 30 by rw [HPO.out, if_pos hlt])
      clear hlt; go_wp2_with (go_at_call 31; refine (json_reader_stop.calls (N + 1 + 1 + 1) s (skip isBl s j) _ HR3.out).mono ?_; rintro e w4 ⟨rfl, rfl⟩)
      exact door_bad HS.out HPB.out HNw.out HB3.out HZ0.out HZ1.out HZ2.out rfl rfl rfl
    · have t2 : decide (skip isBl s j < s.size) = false := decide_eq_false hlt
      have HPB := Aside0.mk (show parse s = .ok v 0 by rw [HPO.out, if_neg hlt])
      have e0 := blk_cell HZ0.out 0
      have e1 := blk_cell HZ0.out 1
      have e2 := blk_cell HZ0.out 2
      have e3 := blk_cell HZ0.out 3
      have f0 := blk_frozen HZ0.out 0
      have f1 := blk_frozen HZ0.out 1
      have f2 := blk_frozen HZ0.out 2
      have f3 := blk_frozen HZ0.out 3
      have e4 := blk_cell HZ1.out 0
      have f4 := blk_frozen HZ1.out 0
      have e5 := blk_cell HZ2.out 0
      have f5 := blk_frozen HZ2.out 0
      clear hlt; go_wp2
      exact door_ok HS.out HPB.out HNw.out HB3.out HZ0.out HZ1.out HZ2.out (rkp HV2'.out HK3.out (by omega)) (rkp HV3'.out HK3.out (by omega)) rfl rfl rfl
theorem json_Parse.calls (s : ByteArray) (w : World) (hG : GlobOk w) : Calls Tryz.prog 10 #[.string s] w (ParseO s w) := by
  by_cases h : 262144 < s.size
  · exact json_Parse.long s w h
  · exact json_Parse.short s w hG h
/-- Behind these bytes no number goes on, and no escape. -/
def NumStop (x : Nat) : Prop := isDig x = false ∧ x ≠ 46 ∧ x ≠ 101 ∧ x ≠ 69 ∧ x ≠ 92 ∧ x ≠ 117 ∧ hexv x = none
/-- k bytes of s from a on stand in t from b on; what stands behind them there ends a number. -/
structure Sub (s t : ByteArray) (a b k : Nat) : Prop where
  same : ∀ q, q < k → hnd t (b + q) = hnd s (a + q)
  from_ : a + k ≤ s.size
  fits : b + k ≤ t.size
  stop : NumStop (hnd t (b + k))
theorem skip_spec (p : Nat → Bool) (s : ByteArray) : ∀ (n i : Nat), s.size - i = n → (∀ q, i ≤ q → q < skip p s i → p (hnd s q) = true) ∧ ¬ (skip p s i < s.size ∧ p (hnd s (skip p s i)) = true) := by
  intro n
  induction n with
  | zero =>
    intro i h
    rw [skip_no (fun c => by omega)]
    exact ⟨fun q h1 h2 => by omega, fun c => by omega⟩
  | succ n ih =>
    intro i h
    by_cases c : i < s.size ∧ p (hnd s i) = true
    · rw [skip_yes c.1 c.2]
      have := ih (i + 1) (by omega)
      refine ⟨fun q h1 h2 => ?_, this.2⟩
      by_cases hq : q = i
      · rw [hq]; exact c.2
      · exact this.1 q (by omega) h2
    · rw [skip_no c]
      exact ⟨fun q h1 h2 => by omega, c⟩
theorem hnd_out {s : ByteArray} {i : Nat} (h : ¬ i < s.size) : hnd s i = 0 := by unfold hnd; rw [dif_neg h]
theorem skip_to {p : Nat → Bool} (h0 : p 0 = false) {s : ByteArray} : ∀ (n i m : Nat), m - i = n → i ≤ m → (∀ q, i ≤ q → q < m → p (hnd s q) = true) → p (hnd s m) = false → skip p s i = m := by
  intro n
  induction n with
  | zero =>
    intro i m h1 h2 _ h4
    obtain rfl : i = m := by omega
    exact skip_no (fun c => by rw [h4] at c; exact absurd c.2 (by decide))
  | succ n ih =>
    intro i m h1 h2 h3 h4
    have hp := h3 i (Nat.le_refl _) (by omega)
    have hi : i < s.size := by
      by_cases c : i < s.size
      · exact c
      · rw [hnd_out c, h0] at hp; cases hp
    rw [skip_yes hi hp]
    exact ih (i + 1) m (by omega) (by omega) (fun q h5 h6 => h3 q (by omega) h6) h4
theorem skip_end {p : Nat → Bool} (h0 : p 0 = false) (s : ByteArray) (i : Nat) : p (hnd s (skip p s i)) = false := by
  have h := (skip_spec p s _ i rfl).2
  by_cases c : skip p s i < s.size
  · cases hp : p (hnd s (skip p s i)) with
    | false => rfl
    | true => exact absurd ⟨c, hp⟩ h
  · rw [hnd_out c]; exact h0
theorem skip_sub {p : Nat → Bool} (h0 : p 0 = false) {s t : ByteArray} {a b k i m : Nat} (hS : Sub s t a b k) (h : skip p s (a + i) = a + m) (hm : m < k ∨ m = k ∧ p (hnd t (b + k)) = false) : skip p t (b + i) = b + m := by
  have hge := skip_ge (p := p) s (a + i)
  have hsp := (skip_spec p s _ (a + i) rfl).1
  have hen := skip_end h0 s (a + i)
  rw [h] at hge hsp hen
  refine skip_to h0 _ _ _ rfl (by omega) (fun q h1 h2 => ?_) ?_
  · obtain ⟨q', rfl⟩ : ∃ q', q = b + q' := ⟨q - b, by omega⟩
    rw [hS.same q' (by omega)]
    exact hsp (a + q') (by omega) (by omega)
  · rcases hm with hm | ⟨rfl, hm⟩
    · rw [hS.same m hm]; exact hen
    · exact hm
theorem bl0 : isBl 0 = false := by decide
theorem dig0 : isDig 0 = false := by decide
theorem digits_sub {s t : ByteArray} {a b k i j : Nat} (hS : Sub s t a b k) (h : digits s (a + i) = .ok () (a + j)) (hj : j ≤ k) : digits t (b + i) = .ok () (b + j) := by
  have hlt := digits_lt h
  unfold digits at h ⊢
  split at h
  · rename_i hd
    injection h with _ h
    rw [if_pos (by rw [hS.same i (by omega)]; exact hd)]
    congr 1
    refine skip_sub dig0 hS h ?_
    by_cases c : j < k
    · exact .inl c
    · exact .inr ⟨by omega, hS.stop.1⟩
  · cases h
theorem nE_sub {s t : ByteArray} {a b k i j : Nat} (hS : Sub s t a b k) (h : nE s (a + i) = .ok () (a + j)) (hj : j ≤ k) : nE t (b + i) = .ok () (b + j) := by
  have hle := nE_le h
  unfold nE at h ⊢
  split at h
  · rename_i hd
    have hlt := digits_lt h
    have hik : i < k := by split at hlt <;> omega
    rw [hS.same i hik, if_pos hd]
    have hs1 : i + 1 < k := by split at hlt <;> omega
    rw [show b + i + 1 = b + (i + 1) by omega, hS.same (i + 1) hs1]
    rw [show a + i + 1 = a + (i + 1) by omega] at h
    split at h
    · rename_i h2
      rw [if_pos h2]
      rw [show a + i + 2 = a + (i + 2) by omega] at h
      rw [show b + i + 2 = b + (i + 2) by omega]
      exact digits_sub hS h hj
    · rename_i h2
      rw [if_neg h2]
      exact digits_sub hS h hj
  · rename_i hd
    injection h with _ h
    obtain rfl : i = j := by omega
    rw [if_neg ?_]
    by_cases c : i < k
    · rw [hS.same i c]; exact hd
    · obtain rfl : i = k := by omega
      have := hS.stop
      exact fun h => h.elim this.2.2.1 this.2.2.2.1
theorem nD_sub {s t : ByteArray} {a b k i j : Nat} (hS : Sub s t a b k) (h : nD s (a + i) = .ok () (a + j)) (hj : j ≤ k) : nD t (b + i) = .ok () (b + j) := by
  have hle := nD_le h
  unfold nD at h ⊢
  split at h
  · rename_i hd
    cases hg : digits s (a + i + 1) with
    | bad m c => rw [hg] at h; cases h
    | ok u m =>
      rw [hg] at h
      have h1 := digits_lt (show digits s (a + i + 1) = .ok () m from hg)
      have h2 := nE_le (show nE s m = .ok () (a + j) from h)
      obtain ⟨m', rfl⟩ : ∃ m', m = a + m' := ⟨m - a, by omega⟩
      rw [hS.same i (by omega), if_pos hd, show b + i + 1 = b + (i + 1) by omega, digits_sub hS (show digits s (a + (i + 1)) = .ok () (a + m') from hg) (by omega)]
      exact nE_sub hS (show nE s (a + m') = .ok () (a + j) from h) hj
  · rename_i hd
    have h' := nE_sub hS (show nE s (a + i) = .ok () (a + j) from h) hj
    rw [if_neg ?_]
    · exact h'
    · by_cases c : i < k
      · rw [hS.same i c]; exact hd
      · obtain rfl : i = k := by omega
        exact hS.stop.2.1
theorem nI_lt {s : ByteArray} {m j : Nat} (h : nI s m = .ok () j) : m < j := by
  unfold nI at h
  split at h
  · have h2 := nD_le (show nD s (m + 1) = .ok () j from h); omega
  · cases hd : digits s m with
    | bad k c => rw [hd] at h; cases h
    | ok u k => rw [hd] at h; have h1 := digits_lt (show digits s m = .ok () k from hd); have h2 := nD_le (show nD s k = .ok () j from h); omega
theorem nI_sub {s t : ByteArray} {a b k i j : Nat} (hS : Sub s t a b k) (h : nI s (a + i) = .ok () (a + j)) (hj : j ≤ k) : nI t (b + i) = .ok () (b + j) := by
  have hlt := nI_lt h
  unfold nI at h ⊢
  rw [hS.same i (by omega)]
  split at h
  · rename_i hd
    rw [if_pos hd]
    exact nD_sub (i := i + 1) hS h hj
  · rename_i hd
    rw [if_neg hd]
    cases hg : digits s (a + i) with
    | bad m c => rw [hg] at h; cases h
    | ok u m =>
      rw [hg] at h
      have h1 := digits_lt (show digits s (a + i) = .ok () m from hg)
      have h2 := nD_le (show nD s m = .ok () (a + j) from h)
      obtain ⟨m', rfl⟩ : ∃ m', m = a + m' := ⟨m - a, by omega⟩
      rw [digits_sub hS (show digits s (a + i) = .ok () (a + m') from hg) (by omega)]
      exact nD_sub hS (show nD s (a + m') = .ok () (a + j) from h) hj
theorem number_sub {s t : ByteArray} {a b k i j : Nat} (hS : Sub s t a b k) (h : number s (a + i) = .ok () (a + j)) (hj : j ≤ k) : number t (b + i) = .ok () (b + j) := by
  have hlt := number_lt h
  unfold number at h ⊢
  rw [hS.same i (by omega)]
  split at h
  · rename_i hd
    rw [if_pos hd]
    exact nI_sub (i := i + 1) hS h hj
  · rename_i hd
    rw [if_neg hd]
    exact nI_sub hS h hj
theorem get_hnd (s : ByteArray) (i : Nat) : (s.get! i).toNat = hnd s i := by
  cases s with
  | mk d =>
    unfold hnd
    by_cases h : i < d.size
    · rw [dif_pos (show i < (⟨d⟩ : ByteArray).size from h)]
      show (d[i]!).toNat = (d[i]).toNat
      rw [getElem!_pos d i h]
    · rw [dif_neg (show ¬ i < (⟨d⟩ : ByteArray).size from h)]
      show (d[i]!).toNat = 0
      rw [getElem!_neg d i h]
      rfl
theorem dN_full (n b0 b1 b2 b3 : Nat) (h1 : ¬ 1 < n → b1 = 0) (h2 : ¬ 2 < n → b2 = 0) (h3 : ¬ 3 < n → b3 = 0) : Lib.decodeN n b0 b1 b2 b3 = Lib.decodeN 4 b0 b1 b2 b3 := by
  have e1 : (1 < n ∧ b1 / 64 = 2) = (1 < 4 ∧ b1 / 64 = 2) := propext ⟨fun h => ⟨by decide, h.2⟩, fun h => ⟨by by_cases c : 1 < n; exact c; have := h1 c; omega, h.2⟩⟩
  have e2 : (2 < n ∧ b2 / 64 = 2) = (2 < 4 ∧ b2 / 64 = 2) := propext ⟨fun h => ⟨by decide, h.2⟩, fun h => ⟨by by_cases c : 2 < n; exact c; have := h2 c; omega, h.2⟩⟩
  have e3 : (3 < n ∧ b3 / 64 = 2) = (3 < 4 ∧ b3 / 64 = 2) := propext ⟨fun h => ⟨by decide, h.2⟩, fun h => ⟨by by_cases c : 3 < n; exact c; have := h3 c; omega, h.2⟩⟩
  unfold Lib.decodeN
  simp only [e1, e2, e3]
theorem dec_hnd (s : ByteArray) (i : Nat) : Utf8.decode s i = Lib.decodeN 4 (hnd s i) (hnd s (i + 1)) (hnd s (i + 2)) (hnd s (i + 3)) := by
  rw [Lib.decode_at, get_hnd, get_hnd, get_hnd, get_hnd]
  exact dN_full _ _ _ _ _ (fun h => hnd_out (by omega)) (fun h => hnd_out (by omega)) (fun h => hnd_out (by omega))
theorem dN_same {b0 b1 b2 b3 c0 c1 c2 c3 r z : Nat} (h : Lib.decodeN 4 b0 b1 b2 b3 = (r, z)) (hn : ¬ (r = 65533 ∧ z = 1)) (h0 : c0 = b0) (h1 : 2 ≤ z → c1 = b1) (h2 : 3 ≤ z → c2 = b2) (h3 : 4 ≤ z → c3 = b3) : Lib.decodeN 4 c0 c1 c2 c3 = (r, z) := by
  subst h0; unfold Lib.decodeN at h
  split at h
  · rename_i a1
    injection h with e1 e2
    subst e1 e2
    unfold Lib.decodeN
    rw [if_pos a1]
  · rename_i a1
    split at h
    · rename_i a2
      split at h
      · rename_i a3
        injection h with e1 e2
        subst e1 e2
        obtain rfl := h1 (by omega)
        unfold Lib.decodeN
        rw [if_neg a1, if_pos a2, if_pos a3]
      · injection h with e1 e2
        exact absurd ⟨e1.symm, e2.symm⟩ hn
    · rename_i a2
      split at h
      · rename_i a3
        split at h
        · rename_i a4
          injection h with e1 e2
          subst e1 e2
          obtain rfl := h1 (by omega)
          obtain rfl := h2 (by omega)
          unfold Lib.decodeN
          rw [if_neg a1, if_neg a2, if_pos a3, if_pos a4]
        · injection h with e1 e2
          exact absurd ⟨e1.symm, e2.symm⟩ hn
      · rename_i a3
        split at h
        · rename_i a4
          split at h
          · rename_i a5
            injection h with e1 e2
            subst e1 e2
            obtain rfl := h1 (by omega)
            obtain rfl := h2 (by omega)
            obtain rfl := h3 (by omega)
            unfold Lib.decodeN
            rw [if_neg a1, if_neg a2, if_neg a3, if_pos a4, if_pos a5]
          · injection h with e1 e2
            exact absurd ⟨e1.symm, e2.symm⟩ hn
        · injection h with e1 e2
          exact absurd ⟨e1.symm, e2.symm⟩ hn
theorem nxt_pos {s : ByteArray} {i z : Nat} (h : nxt s i = some z) : 0 < z := by
  unfold nxt at h
  split at h
  · cases h
  · injection h with h
    subst h; rw [dec_hnd]
    unfold Lib.decodeN
    repeat' split
    all_goals simp
theorem hnd_eq {s : ByteArray} {i : Nat} (h : i < s.size) : hnd s i = s[i].toNat := by unfold hnd; rw [dif_pos h]
theorem cut_list (s : ByteArray) : ∀ (n i : Nat), i + n ≤ s.size → (s.extract i (i + n)).data.toList.map UInt8.toNat = (List.range' i n).map (hnd s) := by
  intro n i h
  apply List.ext_getElem
  · have : (s.extract i (i + n)).data.toList.length = (s.extract i (i + n)).size := rfl
    rw [List.length_map, List.length_map, List.length_range', this, ByteArray.size_extract]
    omega
  · intro q h1 h2
    rw [List.getElem_map, List.getElem_map, List.getElem_range', Nat.one_mul]
    have hq : q < n := by rw [List.length_map, List.length_range'] at h2; exact h2
    rw [hnd_eq (by omega)]
    congr 1
    have h3 : q < (s.extract i (i + n)).size := by rw [ByteArray.size_extract]; omega
    show (s.extract i (i + n))[q] = s[i + q]
    rw [ByteArray.getElem_extract]
theorem map_inj {l m : List UInt8} (h : l.map UInt8.toNat = m.map UInt8.toNat) : l = m := by
  induction l generalizing m with
  | nil => cases m with
    | nil => rfl
    | cons c r => cases h
  | cons c r ih => cases m with
    | nil => cases h
    | cons d q =>
      simp only [List.map_cons, List.cons.injEq] at h
      rw [UInt8.toNat_inj.1 h.1, ih h.2]
/-- A pair, byte by byte. -/
def pairH (s : ByteArray) (i h : Nat) : Bool := if hnd s i = 92 ∧ hnd s (i + 1) = 117 then (match hexN s 4 (i + 2) 0 with | .ok n _ => joined h n != 65533 | .bad _ _ => false) else false
theorem hex4_in {s : ByteArray} {i n j : Nat} (h : hexN s 4 i 0 = .ok n j) : i + 4 ≤ s.size ∧ j = i + 4 := by
  have key : ∀ (q i m v j : Nat), hexN s q i m = .ok v j → j = i + q ∧ ∀ p, p < q → hexv (hnd s (i + p)) ≠ none := by
    intro q
    induction q with
    | zero => intro i m v j h; simp only [hexN] at h; injection h with _ h; exact ⟨by omega, fun p hp => by omega⟩
    | succ q ih =>
      intro i m v j h
      rw [hexN] at h
      cases hv : hexv (hnd s i) with
      | none => rw [hv] at h; cases h
      | some d =>
        rw [hv] at h
        have h2 := ih _ _ _ _ h
        refine ⟨by omega, fun p hp => ?_⟩
        by_cases c : p = 0
        · subst c; rw [Nat.add_zero, hv]; simp
        · have := h2.2 (p - 1) (by omega)
          rwa [show i + 1 + (p - 1) = i + p by omega] at this
  have h1 := key _ _ _ _ _ h
  refine ⟨?_, h1.1⟩
  by_cases c : i + 3 < s.size
  · omega
  · exact absurd (by rw [hnd_out c]; decide) (h1.2 3 (by omega))
theorem pairB_eq (s : ByteArray) (i h : Nat) : pairB s i h = pairH s i h := by
  unfold pairB pairH
  by_cases h6 : s.size < i + 6
  · rw [if_pos h6]
    split
    · cases hx : hexN s 4 (i + 2) 0 with
      | bad k c => rfl
      | ok n j => have := hex4_in hx; omega
    · rfl
  · rw [if_neg h6]
    have e1 := cut_list s 2 i (by omega)
    have e2 := cut_list s 4 (i + 2) (by omega)
    have c1 : ((s.extract i (i + 2)).data.toList = [92, 117]) ↔ (hnd s i = 92 ∧ hnd s (i + 1) = 117) := by
      constructor
      · intro c
        rw [c] at e1
        simp [List.range'] at e1
        exact ⟨e1.1.symm, e1.2.symm⟩
      · intro c
        refine map_inj ?_
        rw [e1]
        simp [List.range', c.1, c.2]
    by_cases c : hnd s i = 92 ∧ hnd s (i + 1) = 117
    · rw [if_pos c, if_pos (c1.2 c), show i + 6 = i + 2 + 4 by omega, e2]
      simp only [List.range', List.map_cons, List.map_nil, hexL, hexN]
      cases h0 : hexv (hnd s (i + 2)) with
      | none => rfl
      | some d0 =>
        simp only []
        cases h1 : hexv (hnd s (i + 2 + 1)) with
        | none => rfl
        | some d1 =>
          simp only []
          cases h2 : hexv (hnd s (i + 2 + 1 + 1)) with
          | none => rfl
          | some d2 =>
            simp only []
            cases h3 : hexv (hnd s (i + 2 + 1 + 1 + 1)) with
            | none => rfl
            | some d3 => rfl
    · rw [if_neg c, if_neg (fun d => c (c1.1 d))]
theorem pair_unit {s : ByteArray} {i u : Nat} (h : pairB s i u = true) : ∃ l, unit s (i + 1) = .ok l (i + 6) := by
  rw [pairB_eq] at h
  unfold pairH at h
  split at h
  · rename_i hc
    cases hx : hexN s 4 (i + 2) 0 with
    | bad q c => rw [hx] at h; cases h
    | ok n j =>
      have := hex4_in hx
      refine ⟨n, ?_⟩
      unfold unit
      rw [if_pos hc.2]
      rw [this.2] at hx
      exact hx
  · cases h
/-- A reading's answer lies behind its begin and within the text; its errors are two. -/
def Sn {α : Type} (s : ByteArray) (i : Nat) (r : Res α) : Prop := match r with
  | .ok _ j => i ≤ j ∧ j ≤ s.size
  | .bad k c => i ≤ k ∧ k ≤ s.size ∧ (c = 30 ∨ c = 31)
theorem Sn.bind {α β : Type} {s : ByteArray} {i : Nat} {r : Res α} {f : α → Nat → Res β} (h : Sn s i r) (hf : ∀ v j, r = .ok v j → i ≤ j → j ≤ s.size → Sn s j (f v j)) : Sn s i (r.bind f) := by
  cases r with
  | bad k c => exact h
  | ok v j =>
    have h2 := hf v j rfl h.1 h.2
    show Sn s i (f v j)
    have h1 : i ≤ j := h.1
    cases hr : f v j with
    | bad k c => rw [hr] at h2; exact ⟨Nat.le_trans h1 h2.1, h2.2⟩
    | ok w q => rw [hr] at h2; exact ⟨Nat.le_trans h1 h2.1, h2.2⟩
theorem Sn.le {α : Type} {s : ByteArray} {i m : Nat} {r : Res α} (h : Sn s m r) (hm : i ≤ m) : Sn s i r := by
  cases r with
  | bad k c => exact ⟨Nat.le_trans hm h.1, h.2⟩
  | ok w q => exact ⟨Nat.le_trans hm h.1, h.2⟩
theorem sn_bad {α : Type} {s : ByteArray} {i : Nat} (h : i ≤ s.size) : Sn s i (.bad i 30 : Res α) := ⟨Nat.le_refl _, h, .inl rfl⟩
theorem wd_sn {s : ByteArray} : ∀ {l : List Nat} {i : Nat}, (∀ c ∈ l, c ≠ 0) → i ≤ s.size → Sn s i (wd s l i) := by
  intro l
  induction l with
  | nil => intro i _ h; exact ⟨Nat.le_refl _, h⟩
  | cons c r ih =>
    intro i hl h
    rw [wd_cons]
    split
    · rename_i hc
      have hlt := hnd_pos hc (hl c List.mem_cons_self)
      exact (ih (fun c hc => hl c (List.mem_cons_of_mem _ hc)) hlt).le (Nat.le_succ i)
    · exact sn_bad h
theorem digits_sn {s : ByteArray} {i : Nat} (h : i ≤ s.size) : Sn s i (digits s i) := by
  unfold digits
  split
  · exact ⟨skip_ge s i, skip_in h⟩
  · exact sn_bad h
theorem nE_sn {s : ByteArray} {i : Nat} (h : i ≤ s.size) : Sn s i (nE s i) := by
  unfold nE
  split
  · rename_i hc
    have hi : i < s.size := by rcases hc with hc | hc <;> exact hnd_pos hc (by omega)
    split
    · rename_i hd
      have hi2 : i + 1 < s.size := by rcases hd with hc | hc <;> exact hnd_pos hc (by omega)
      exact (digits_sn hi2).le (by omega)
    · exact (digits_sn hi).le (by omega)
  · exact ⟨Nat.le_refl _, h⟩
theorem nD_sn {s : ByteArray} {i : Nat} (h : i ≤ s.size) : Sn s i (nD s i) := by
  unfold nD
  refine Sn.bind ?_ (fun v j _ _ hj => nE_sn hj)
  split
  · rename_i hc
    exact (digits_sn (hnd_pos hc (by omega))).le (by omega)
  · exact ⟨Nat.le_refl _, h⟩
theorem nI_sn {s : ByteArray} {i : Nat} (h : i ≤ s.size) : Sn s i (nI s i) := by
  unfold nI
  refine Sn.bind ?_ (fun v j _ _ hj => nD_sn hj)
  split
  · rename_i hc
    exact ⟨Nat.le_succ _, hnd_pos hc (by omega)⟩
  · exact digits_sn h
theorem number_sn {s : ByteArray} {i : Nat} (h : i ≤ s.size) : Sn s i (number s i) := by
  unfold number
  split
  · rename_i hc
    exact (nI_sn (hnd_pos hc (by omega))).le (by omega)
  · exact nI_sn h
theorem hexv0 : hexv 0 = none := by decide
theorem hexN_sn {s : ByteArray} : ∀ (n : Nat) {i m : Nat}, i ≤ s.size → Sn s i (hexN s n i m) := by
  intro n
  induction n with
  | zero => intro i m h; exact ⟨Nat.le_refl _, h⟩
  | succ n ih =>
    intro i m h
    rw [hexN]
    cases hv : hexv (hnd s i) with
    | none => exact sn_bad h
    | some d =>
      have hi : i < s.size := by
        by_cases c : i < s.size
        · exact c
        · rw [hnd_out c, hexv0] at hv; cases hv
      exact (ih (i := i + 1) hi).le (Nat.le_succ i)
theorem unit_sn {s : ByteArray} {i : Nat} (h : i ≤ s.size) : Sn s i (unit s i) := by
  unfold unit
  split
  · rename_i hc
    exact (hexN_sn 4 (hnd_pos hc (by omega))).le (Nat.le_succ i)
  · exact sn_bad h
theorem pair_in {s : ByteArray} {i u : Nat} (h : pairB s i u = true) : i + 6 ≤ s.size := by
  unfold pairB at h
  split at h
  · cases h
  · omega
theorem escU_sn {s : ByteArray} {u i : Nat} (h : i ≤ s.size) : Sn s i (escU s u i) := by
  unfold escU
  split
  · split
    · rename_i hp
      obtain ⟨l, hl⟩ := pair_unit hp
      have := pair_in hp
      rw [hl]
      exact ⟨by omega, this⟩
    · exact ⟨Nat.le_refl _, h⟩
  · exact ⟨Nat.le_refl _, h⟩
theorem escV0 : escV 0 = none := by decide
theorem escape_sn {s : ByteArray} {i : Nat} (h : i ≤ s.size) : Sn s i (escape s i) := by
  unfold escape
  cases hv : escV (hnd s i) with
  | some v =>
    have hi : i < s.size := by
      by_cases c : i < s.size
      · exact c
      · rw [hnd_out c, escV0] at hv; cases hv
    exact ⟨Nat.le_succ i, hi⟩
  | none => exact (unit_sn h).bind (fun v j _ _ hj => escU_sn hj)
theorem dec_in (s : ByteArray) (i : Nat) (hi : i < s.size) : i + (Utf8.decode s i).2 ≤ s.size := by
  rw [Lib.decode_at]
  unfold Lib.decodeN
  repeat' split
  all_goals (simp only; omega)
theorem txt_sn {s : ByteArray} : ∀ (f : Nat) {i : Nat} {acc : List UInt8}, i ≤ s.size → s.size < i + f → Sn s i (txt s f i acc) := by
  intro f
  induction f with
  | zero => intro i acc h1 h2; omega
  | succ f ih =>
    intro i acc h1 h2
    rw [txt]
    split
    · rename_i c
      exact ⟨Nat.le_succ i, hnd_pos c (by omega)⟩
    · split
      · exact sn_bad h1
      · rename_i c0 c
        have hi : i < s.size := by
          by_cases c2 : i < s.size
          · exact c2
          · rw [hnd_out c2] at c; omega
        split
        · refine (Sn.bind (escape_sn (i := i + 1) hi) (fun v j _ h3 hj => ih hj (by omega))).le (Nat.le_succ i)
        · cases hn : nxt s i with
          | none => exact sn_bad h1
          | some z =>
            have hz := nxt_pos hn
            have hd := dec_in s i hi
            have he : z = (Utf8.decode s i).2 := by unfold nxt at hn; split at hn; cases hn; injection hn with hn; exact hn.symm
            rw [← he] at hd
            exact (ih (i := i + z) hd (by omega)).le (by omega)
theorem text_sn {s : ByteArray} {i : Nat} (h : i < s.size) : Sn s i (text s i) := by
  unfold text
  exact (txt_sn _ (i := i + 1) h (by omega)).le (Nat.le_succ i)
theorem lst_sn {s : ByteArray} {pv : Nat → Res JV} (hp : ∀ i v j, pv i = .ok v j → i < j) (hv : ∀ i, i ≤ s.size → Sn s i (pv i)) : ∀ (f : Nat) {i : Nat} {acc : List JV}, i ≤ s.size → s.size < i + f → Sn s i (lst s pv f i acc) := by
  intro f
  induction f with
  | zero => intro i acc h1 h2; omega
  | succ f ih =>
    intro i acc h1 h2
    rw [lst]
    split
    · rename_i c
      exact ⟨Nat.le_succ i, hnd_pos c (by omega)⟩
    · refine Sn.bind ?_ (fun v j _ h3 hj => ?_)
      · split
        · exact ⟨Nat.le_refl _, h1⟩
        · exact Sn.bind (wd_sn (by decide) h1) (fun v j _ h3 hj => ⟨skip_ge s j, skip_in hj⟩)
      · refine Sn.bind (hv j hj) (fun v q hq h4 hq2 => ?_)
        have := hp _ _ _ hq
        have h5 := skip_ge (p := isBl) s q
        exact (ih (skip_in hq2) (by omega)).le h5
theorem obj_sn {s : ByteArray} {pv : Nat → Res JV} (hp : ∀ i v j, pv i = .ok v j → i < j) (hv : ∀ i, i ≤ s.size → Sn s i (pv i)) : ∀ (f : Nat) {i : Nat} {fl : Bool} {acc : List JF}, i ≤ s.size → s.size < i + f → Sn s i (obj s pv f i fl acc) := by
  intro f
  induction f with
  | zero => intro i fl acc h1 h2; omega
  | succ f ih =>
    intro i fl acc h1 h2
    rw [obj]
    split
    · rename_i c
      exact ⟨Nat.le_succ i, hnd_pos c (by omega)⟩
    · refine Sn.bind ?_ (fun v j _ h3 hj => ?_)
      · split
        · exact ⟨Nat.le_refl _, h1⟩
        · exact Sn.bind (wd_sn (by decide) h1) (fun v j _ h3 hj => ⟨skip_ge s j, skip_in hj⟩)
      · split
        · rename_i c
          refine Sn.bind (text_sn (hnd_pos c (by omega))) (fun tx q hq h4 hq2 => ?_)
          have k1 := skip_ge (p := isBl) s q
          refine (Sn.bind (wd_sn (i := skip isBl s q) (by decide) (skip_in hq2)) (fun _ m _ h5 hm => ?_)).le k1
          have k2 := skip_ge (p := isBl) s m
          refine (Sn.bind (hv (skip isBl s m) (skip_in hm)) (fun v n hn h6 hn2 => ?_)).le k2
          have := hp _ _ _ hn
          have k3 := skip_ge (p := isBl) s n
          exact (ih (skip_in hn2) (by omega)).le k3
        · exact sn_bad hj
theorem brk_sn {s : ByteArray} {pv : Nat → Res JV} (hp : ∀ i v j, pv i = .ok v j → i < j) (hv : ∀ i, i ≤ s.size → Sn s i (pv i)) {i : Nat} (hi : i < s.size) : Sn s i (brk s pv i) := by
  have k1 := skip_ge (p := isBl) s (i + 1)
  unfold brk
  split
  · refine Sn.le (m := skip isBl s (i + 1)) ?_ (by omega)
    exact Sn.bind (lst_sn hp hv _ (skip_in hi) (by omega)) (fun v j _ _ hj => ⟨Nat.le_refl _, hj⟩)
  · refine Sn.le (m := skip isBl s (i + 1)) ?_ (by omega)
    exact Sn.bind (obj_sn hp hv _ (skip_in hi) (by omega)) (fun v j _ _ hj => ⟨Nat.le_refl _, hj⟩)
theorem flat_sn {s : ByteArray} {br : Nat → Res JV} (hb : ∀ i, i < s.size → Sn s i (br i)) {i : Nat} (hi : i ≤ s.size) : Sn s i (flat s br i) := by
  unfold flat
  split
  · exact Sn.bind (wd_sn (by decide) hi) (fun v j _ _ hj => ⟨Nat.le_refl _, hj⟩)
  split
  · exact Sn.bind (wd_sn (by decide) hi) (fun v j _ _ hj => ⟨Nat.le_refl _, hj⟩)
  split
  · exact Sn.bind (wd_sn (by decide) hi) (fun v j _ _ hj => ⟨Nat.le_refl _, hj⟩)
  split
  · rename_i c; exact Sn.bind (text_sn (hnd_pos c (by omega))) (fun v j _ _ hj => ⟨Nat.le_refl _, hj⟩)
  split
  · rename_i c; exact hb i (by rcases c with c | c <;> exact hnd_pos c (by omega))
  · exact Sn.bind (number_sn hi) (fun v j _ _ hj => ⟨Nat.le_refl _, hj⟩)
theorem pval_sn {s : ByteArray} : ∀ (d i : Nat), i ≤ s.size → Sn s i (pval s d i) := by
  intro d
  induction d with
  | zero =>
    intro i hi
    refine flat_sn (fun i h => ?_) hi
    exact ⟨Nat.le_refl _, Nat.le_of_lt h, .inr rfl⟩
  | succ d ih => intro i hi; exact flat_sn (fun i h => brk_sn (pval_lt d) ih h) hi
/-- t is what stands ahead of k in s. -/
structure Hd (s t : ByteArray) (k : Nat) : Prop where
  same : ∀ q, q < k → hnd t q = hnd s q
  size : t.size = k
  le : k ≤ s.size
theorem Hd.last {s t : ByteArray} {k : Nat} (h : Hd s t k) : hnd t k = 0 := hnd_out (by rw [h.size]; omega)
theorem numStop0 : NumStop 0 := ⟨rfl, by decide, by decide, by decide, by decide, by decide, rfl⟩
theorem Hd.sub {s t : ByteArray} {k : Nat} (h : Hd s t k) : Sub s t 0 0 k :=
  ⟨fun q hq => by rw [Nat.zero_add]; exact h.same q hq, by have := h.le; omega, by have := h.size; omega, by rw [Nat.zero_add, h.last]; exact numStop0⟩
theorem parse_sn (s : ByteArray) : (∃ v, parse s = .ok v 0) ∨ ∃ k c, parse s = .bad k c ∧ k ≤ s.size ∧ (c = 30 ∨ c = 31) := by
  have h0 : skip isBl s 0 ≤ s.size := skip_in (Nat.zero_le _)
  have h1 := pval_sn 64 _ h0
  unfold parse
  cases hv : pval s 64 (skip isBl s 0) with
  | bad k c => rw [hv] at h1; exact .inr ⟨k, c, rfl, h1.2⟩
  | ok v j =>
    rw [hv] at h1
    show (∃ w, (if skip isBl s j < s.size then Res.bad (skip isBl s j) 30 else Res.ok v 0) = .ok w 0) ∨ ∃ k c, (if skip isBl s j < s.size then Res.bad (skip isBl s j) 30 else Res.ok v 0) = .bad k c ∧ k ≤ s.size ∧ (c = 30 ∨ c = 31)
    split
    · exact .inr ⟨_, _, rfl, skip_in h1.2, .inl rfl⟩
    · exact .inl ⟨v, rfl⟩
end Go.Proofs.YtebmgmagdhedgaaGreatDoor.Q

end
section
namespace Go.Proofs.YtebmgmagdhedgaaGreatDoor.Q
open Go.RowKit Go.Proofs.YtebmgmagdhedgaaGreatDoorW.PrintWords Go.Proofs.YtebmgmagdhedgaaGreatDoorW.PrintLast Go.Proofs.YtebmgmagdhedgaaGreatDoorW.PrintMore
attribute [local go_sem] max2_int min2_int max_two min_two max_three min_three max_four min_four   
set_option linter.unusedVariables false
set_option linter.unusedSimpArgs false
theorem jp_at (s : ByteArray) (v : JV) (a : Nat) (c : Int) (hp : parsed s = (v, a, c)) (w : World) (hG : GlobOk w) : Calls Tryz.prog 10 #[.string s] w fun e w' => ∃ A2 c2 A3 c3, e = .returned (.tuple #[.agg #[.int .u8 v.f0, .string v.f1, .slice A2 v.f2.length c2, .slice A3 v.f3.length c3], .int .i64 a, .int .i64 c]) ∧ Kd.R k25 25 w' w.heap.size (fun _ => True) (.slice A2 v.f2.length c2) v.f2 ∧ Kd.R k45 45 w' w.heap.size (fun _ => True) (.slice A3 v.f3.length c3) v.f3 ∧ Below w.heap.size w w' := by
 have h := json_Parse.calls s w hG
 unfold ParseO at h
 rw [hp] at h
 refine h.mono ?_
 rintro e w' ⟨v2, v3, rfl, h2, h3, hb⟩
 obtain ⟨A2, c2, rfl⟩ := Kd.R_slice h2
 obtain ⟨A3, c3, rfl⟩ := Kd.R_slice h3
 exact ⟨A2, c2, A3, c3, rfl, h2, h3, hb⟩
/-- Is a text a number's, whole? -/
def numOk (t : ByteArray) : Bool := if (parsed t).2.2 = 0 then (if (parsed t).1.f0 = 3 then ((parsed t).1.f1.toList == t.toList) else false) else false
set_option maxRecDepth 100000 in
set_option maxHeartbeats 2000000 in
theorem jsontext_number.calls (k : Int) (t : ByteArray) (A2 A3 : Option Addr) (n2 c2 n3 c3 : Nat) (w : World) (hG : GlobOk w) : Calls Tryz.prog 34 #[.agg #[.int .u8 k, .string t, .slice A2 n2 c2, .slice A3 n3 c3]] w fun e w' => e = .returned (.bool (numOk t)) ∧ Below w.heap.size w w' := by
 obtain ⟨v, hv⟩ : ∃ v, v = (parsed t).1 := ⟨_, rfl⟩
 obtain ⟨a, ha⟩ : ∃ a, a = (parsed t).2.1 := ⟨_, rfl⟩
 obtain ⟨er, her⟩ : ∃ er, er = (parsed t).2.2 := ⟨_, rfl⟩
 have PE := Aside0.mk (show parsed t = (v, a, er) by rw [hv, ha, her])
 have hq : numOk t = if er = 0 then (if v.f0 = 3 then (v.f1.toList == t.toList) else false) else false := by unfold numOk; rw [← hv, ← her]
 obtain ⟨W1, hW1⟩ : ∃ W1, W1 = w.alloc (.cells #[.int .u8 k, .string t, .slice A2 n2 c2, .slice A3 n3 c3] 25 (0, 0)) := ⟨_, rfl⟩
 obtain ⟨N, hN⟩ : ∃ N, N = w.heap.size := ⟨_, rfl⟩
 have HX := Aside0.mk (show W1.heap[N]? = some (.cells #[.int .u8 k, .string t, .slice A2 n2 c2, .slice A3 n3 c3] 25 (0, 0)) by rw [hW1, hN]; exact blk_new w _)
 have HB1 := Aside0.mk (show Below w.heap.size w W1 by rw [hW1]; exact below_alloc (Below.refl _ _) _)
 have HG := Aside0.mk (hG.below HB1.out)
 have x1 := blk_cell HX.out 1
 clear hv ha her hG; by_cases h1 : er = 0
 ·rw [if_pos h1] at hq
  subst h1; by_cases h2 : v.f0 = 3
  ·rw [if_pos h2] at hq
   have t2 : (v.f0 == 3) = true := by simpa using h2
   have HQ := Aside0.mk hq; clear hq h2; go_enter Tryz.func34, Tryz.ntmps34
   go_upto_region 1 with (fail)
   rw [← hW1, ← hN]
   clear hW1 hN; go_upto_region 2 with (go_at_call 10; refine (jp_at t _ _ _ PE.out _ HG.out).mono ?_; rintro e w1 ⟨A4, c4, A5, c5, rfl, _, _, hb⟩; have HB2 := Aside0.mk (below_alloc (below_step HB1.out hb) (.cells #[.int .u8 v.f0, .string v.f1, .slice A4 v.f2.length c4, .slice A5 v.f3.length c5] 25 (0, 0))); have HY := Aside0.mk (blk_new w1 (.cells #[.int .u8 v.f0, .string v.f1, .slice A4 v.f2.length c4, .slice A5 v.f3.length c5] 25 (0, 0))); have HX2 := Aside0.mk (blk_alloc (blk_below HX.out hb) (.cells #[.int .u8 v.f0, .string v.f1, .slice A4 v.f2.length c4, .slice A5 v.f3.length c5] 25 (0, 0))); clear hb)
   have y0 := blk_cell HY.out 0
   have y1 := blk_cell HY.out 1
   have y2 := blk_cell HX2.out 1
   go_wp2
   go_ret
   exact ⟨by rw [HQ.out]; rfl, HB2.out⟩
  ·rw [if_neg h2] at hq
   have t2 : (v.f0 == 3) = false := by simpa using h2
   have HQ := Aside0.mk hq; clear hq h2; go_enter Tryz.func34, Tryz.ntmps34
   go_upto_region 1 with (fail)
   rw [← hW1, ← hN]
   clear hW1 hN; go_upto_region 2 with (go_at_call 10; refine (jp_at t _ _ _ PE.out _ HG.out).mono ?_; rintro e w1 ⟨A4, c4, A5, c5, rfl, _, _, hb⟩; have HB2 := Aside0.mk (below_alloc (below_step HB1.out hb) (.cells #[.int .u8 v.f0, .string v.f1, .slice A4 v.f2.length c4, .slice A5 v.f3.length c5] 25 (0, 0))); have HY := Aside0.mk (blk_new w1 (.cells #[.int .u8 v.f0, .string v.f1, .slice A4 v.f2.length c4, .slice A5 v.f3.length c5] 25 (0, 0))); have HX2 := Aside0.mk (blk_alloc (blk_below HX.out hb) (.cells #[.int .u8 v.f0, .string v.f1, .slice A4 v.f2.length c4, .slice A5 v.f3.length c5] 25 (0, 0))); clear hb)
   have y0 := blk_cell HY.out 0
   have y1 := blk_cell HY.out 1
   have y2 := blk_cell HX2.out 1
   go_wp2
   go_ret
   exact ⟨by rw [HQ.out]; rfl, HB2.out⟩
 ·rw [if_neg h1] at hq
  have t1 : (er == 0) = false := by simpa using h1
  have HQ := Aside0.mk hq; clear hq h1; go_enter Tryz.func34, Tryz.ntmps34
  go_upto_region 1 with (fail)
  rw [← hW1, ← hN]
  clear hW1 hN; go_upto_region 2 with (go_at_call 10; refine (jp_at t _ _ _ PE.out _ HG.out).mono ?_; rintro e w1 ⟨A4, c4, A5, c5, rfl, _, _, hb⟩; have HB2 := Aside0.mk (below_alloc (below_step HB1.out hb) (.cells #[.int .u8 v.f0, .string v.f1, .slice A4 v.f2.length c4, .slice A5 v.f3.length c5] 25 (0, 0))); have HY := Aside0.mk (blk_new w1 (.cells #[.int .u8 v.f0, .string v.f1, .slice A4 v.f2.length c4, .slice A5 v.f3.length c5] 25 (0, 0))); have HX2 := Aside0.mk (blk_alloc (blk_below HX.out hb) (.cells #[.int .u8 v.f0, .string v.f1, .slice A4 v.f2.length c4, .slice A5 v.f3.length c5] 25 (0, 0))); clear hb)
  have y0 := blk_cell HY.out 0
  have y1 := blk_cell HY.out 1
  have y2 := blk_cell HX2.out 1
  go_wp2
  go_ret
  exact ⟨by rw [HQ.out]; rfl, HB2.out⟩
def utf8_ValidString.f (a0 : ByteArray) : Option Bool := if a0.size ≤ 140737488351232 then some (Lib.validD a0.data.toList) else none
theorem utf8_ValidString.calls (a0 : ByteArray) (r : Bool) (w : World) (hG : GlobOk w) (h : utf8_ValidString.f a0 = some r) :
  Calls Tryz.prog 93 #[.string a0] w fun e w' => e = .returned (.bool r) ∧ Below w.heap.size w w' := by
 unfold utf8_ValidString.f at h
 split at h
 ·rename_i hs
  obtain rfl := Option.some.inj h
  exact Tryz.utf8_ValidString a0 w (by omega) hG.utf
 ·cases h
def utf_Valid.f (a0 : ByteArray) : Option (Bool) := (utf8_ValidString.f a0).bind fun t101 => (some t101)
set_option maxHeartbeats 8000000 in
set_option maxRecDepth 100000 in
theorem utf_Valid.calls (a0 : ByteArray) (r : Bool) (w : World) (hG : GlobOk w) (h : utf_Valid.f a0 = some r) :
  Calls Tryz.prog 68 #[.string a0] w fun e w' => e = .returned (.bool r) ∧ Below w.heap.size w w' := by
 have HG := Aside0.mk hG; clear hG; have HB := Aside0.mk (Below.refl w.heap.size w)
 have H : ((utf8_ValidString.f a0).bind fun t101 => (some t101)) = some r := h
 clear h; replace H := Option.bind_eq_some_iff.mp H
 obtain ⟨t101, A20, H⟩ := H
 replace H : (some t101) = some r := H
 have A2 := Aside0.mk A20; clear A20; obtain rfl := Option.some.inj H; go_enter Tryz.func68, Tryz.ntmps68
 go_wp2_with (first | ((with_reducible refine gate_callee (f := 93) rfl ?_); refine goesL_ (some 4) rfl rfl Tryz.func93 (by kernel_rfl) rfl #[.string a0] rfl (by (try simp only [List.map_toArray, List.map_cons, List.map_nil]); first | done | rfl | (simp only [List.length_drop, List.length_take]; rfl)) ?_; (with_reducible refine (utf8_ValidString.calls a0 t101 _ (by first | exact HG.out | exact GlobOk.below HG.out (bl HB)) A2.out).mono ?_); rintro e w3 ⟨rfl, hb⟩; refine ⟨_, rfl, ?_⟩; have n0_ := Aside0.mk (below_step (bl HB) hb); clear HB; have HB := n0_; clear n0_; (try clear hb); (try clear hb2); (try clear hk); (try clear hi)))
 go_ret
 exact ⟨by first | rfl | (simp [errW_none, errW_some] <;> rfl) | (simp [*, errW_none, errW_some] <;> rfl), bl HB⟩
open Go.Maps Go.WideMaps
theorem jsontext_named.law : Keyed Tryz.prog 9 := string_keyed Tryz.underlying9
theorem jsontext_named.zeroE (w : World) : (zeroValue 3).run Tryz.prog w = .ok (.int .i64 0) w := by kernel_rfl
/-- Are the fields' names all valid, and no two the same? `met`: the names that were met ahead of them. -/
def namedF : List JF → List (List UInt8) → Bool
 | [], _ => true
 | f :: r, met => if f.f0.data.toList ∈ met then false else if Lib.validD f.f0.data.toList = true then namedF r (met ++ [f.f0.data.toList]) else false
/-- The map tells how often a name was met. -/
def MetD (D : DataW Unit) (met : List (List UInt8)) : Prop := Maps.IsMap D ∧ ∀ l : List UInt8, D.atKey (.string l) (.lit (.int .i64 0)) = .lit (.int .i64 (if l ∈ met then 1 else 0))
theorem _root_.Go.World.ownsMap.belowW {H : Type} {w w1 : World} {P : Program} {k : TypeId} {R : Value → Option (DataW H × List MemPlace)} {b n : Nat} {D : DataW H} (h : w.ownsMap P k R b n D) (hb : Below w.heap.size w w1) : w1.ownsMap P k R b n D := by
 obtain ⟨es, cl, hm, h2⟩ := h
 exact ⟨es, cl, (hb.block b (Array.getElem?_eq_some_iff.1 hm).1).trans hm, h2⟩
theorem MetD.start : MetD (.map []) [] := ⟨Maps.isMap_empty, fun l => by simp [DataW.atKey]⟩
theorem MetD.next {D : DataW Unit} {met : List (List UInt8)} (h : MetD D met) (l : List UInt8) : MetD (D.put (.string l) (.lit (.int .i64 1))) (met ++ [l]) := by
 refine ⟨h.1.put _ _, fun x => ?_⟩
 by_cases e : x = l
 ·subst e; rw [Maps.atKey_put_same h.1 (by trivial)]
  simp
 ·rw [Maps.atKey_put_other (by intro c; injection c with c; exact e c), h.2]
  simp [e]
set_option maxRecDepth 100000 in
set_option maxHeartbeats 4000000 in
theorem jsontext_named.calls (k : Int) (t : ByteArray) (A2 A3 : Option Addr) (n2 c2 c3 : Nat) (fs : List JF) (w : World) (hG : GlobOk w) (h3 : k45.C w A3 fs.length fs) (hb : ∀ f ∈ fs, f.f0.size ≤ 140737488351232) (hn : fs.length ≤ 140737488351232) :
  Calls Tryz.prog 82 #[.agg #[.int .u8 k, .string t, .slice A2 n2 c2, .slice A3 fs.length c3]] w fun e w' => e = .returned (.bool (namedF fs [])) ∧ Below w.heap.size w w' := by
 obtain ⟨W1, hW1⟩ : ∃ W1, W1 = w.alloc (.cells #[.int .u8 k, .string t, .slice A2 n2 c2, .slice A3 fs.length c3] 25 (0, 0)) := ⟨_, rfl⟩
 obtain ⟨N, hN⟩ : ∃ N, N = w.heap.size := ⟨_, rfl⟩
 have HX := Aside0.mk (show W1.heap[N]? = some (.cells #[.int .u8 k, .string t, .slice A2 n2 c2, .slice A3 fs.length c3] 25 (0, 0)) by rw [hW1, hN]; exact blk_new w _)
 have HB1 := Aside0.mk (show Below w.heap.size w W1 by rw [hW1]; exact below_alloc (Below.refl _ _) _)
 have HG := Aside0.mk hG; have HC := Aside0.mk h3; have HLen := Aside0.mk hb; have hmm := @run_makeMap Tryz.prog
 clear hG h3 hb; go_enter Tryz.func82, Tryz.ntmps82
 go_upto_region 1 with (fail)
 rw [← hW1, ← hN]
 clear hW1 hN; obtain ⟨M, hM⟩ : ∃ M, M = W1.heap.size := ⟨_, rfl⟩
 obtain ⟨W2, hW2⟩ : ∃ W2, W2 = W1.alloc (.map #[] 0) := ⟨_, rfl⟩
 have HX2 := Aside0.mk (show W2.heap[N]? = some (.cells #[.int .u8 k, .string t, .slice A2 n2 c2, .slice A3 fs.length c3] 25 (0, 0)) by rw [hW2]; exact blk_alloc HX.out _)
 have HB2 := Aside0.mk (show Below w.heap.size w W2 by rw [hW2]; exact below_alloc HB1.out _)
 have HO2 := Aside0.mk (show W2.ownsMap Tryz.prog 9 (plainElem Tryz.prog 3) M 0 (.map [] : DataW Unit) by rw [hW2, hM]; exact World.ownsMap_made _ _ _ _)
 have HM := Aside0.mk (show w.heap.size ≤ M by rw [hM]; exact HB1.out.size)
 have x3 := blk_cell HX.out 3
 have x3' := blk_cell (blk_alloc HX.out (.map #[] 0)) 3
 go_upto_region 2 with (fail)
 go_wp2
 rw [← hW2, ← hM]
 clear x3 x3' hW2 hM; go_loopw [10] (fun t10 w' => ∃ (j : Nat) (met : List (List UInt8)) (D : DataW Unit), j ≤ fs.length ∧ t10 = .int .i64 j ∧ Aside0 (namedF (fs.drop j) met = namedF fs []) ∧ Aside0 (MetD D met) ∧ Aside0 (w'.ownsMap Tryz.prog 9 (plainElem Tryz.prog 3) M j D) ∧ Aside0 (Below w.heap.size w w')) (fun t10 _ => fs.length - (intOf t10).toNat)
 case atStart => exact ⟨0, [], _, Nat.zero_le _, rfl, ⟨rfl⟩, ⟨MetD.start⟩, HO2, HB2⟩
 case round =>
  obtain ⟨j, met, D, hj, rfl, HF, HD, HO, HB⟩ := hrel
  by_cases hlt : j < fs.length
  ·have t : decide ((j : Int) < (fs.length : Int)) = true := decide_eq_true (by omega)
   have hC := Kd.C_below HC.out HB.out
   obtain ⟨ad, A6, c6, A7, c7, hA2, n0, n1, n2', n3, n4, _, _, _, _⟩ := at_T45 hC j (by omega) (by omega)
   have hrd : rd_T45 fs j = fs[j] := by unfold rd_T45; rw [Int.toNat_natCast, List.getD_eq_getElem?_getD, List.getElem?_eq_getElem hlt]; rfl
   rw [hrd] at n0 n1 n2' n3 n4
   have hl := HLen.out fs[j] (List.getElem_mem hlt)
   have hdr : fs.drop j = fs[j] :: fs.drop (j + 1) := (List.drop_eq_getElem_cons hlt)
   have HF2 := Aside0.mk (show namedF (fs[j] :: fs.drop (j + 1)) met = namedF fs [] by rw [← hdr]; exact HF.out)
   clear HF hdr hrd hC; obtain ⟨f, hf⟩ : ∃ f, f = fs[j] := ⟨_, rfl⟩
   rw [← hf] at n0 n1 n2' n3 n4 HF2 hl
   have HK := Aside0.mk (show keyOf Tryz.prog 9 (.string f.f0) = some (.string f.f0.data.toList) from keyOf_string_mk Tryz.underlying9 (by unfold maxLen; omega))
   have HL := Aside0.mk hl; clear hf hl; simp only [Int.toNat_natCast] at n0 n1 n2' n3 n4
   subst hA2; obtain ⟨E, hE⟩ : ∃ E, E = wr.heap.size := ⟨_, rfl⟩
   obtain ⟨W3, hW3⟩ : ∃ W3, W3 = wr.alloc (.cells #[.string f.f0, .int .u8 f.f1.f0, .string f.f1.f1, .slice A6 f.f1.f2.length c6, .slice A7 f.f1.f3.length c7] 45 (0, 0)) := ⟨_, rfl⟩
   have HX3 := Aside0.mk (show W3.heap[E]? = some (.cells #[.string f.f0, .int .u8 f.f1.f0, .string f.f1.f1, .slice A6 f.f1.f2.length c6, .slice A7 f.f1.f3.length c7] 45 (0, 0)) by rw [hW3, hE]; exact blk_new wr _)
   have HB3 := Aside0.mk (show Below w.heap.size w W3 by rw [hW3]; exact below_alloc HB.out _)
   have HO3 := Aside0.mk (show W3.ownsMap Tryz.prog 9 (plainElem Tryz.prog 3) M j D by rw [hW3]; exact HO.out.alloc _)
   have HEM := Aside0.mk (show E ≠ M by obtain ⟨es, cl, hm, _⟩ := HO.out; have := (Array.getElem?_eq_some_iff.1 hm).1; omega)
   go_upto_region 4 with (fail)
   go_upto_region 5 with (fail)
   rw [← hW3, ← hE]
   clear n0 n1 n2' n3 n4 hW3 hE t; have y0 : W3.cell? ⟨E, 0, none⟩ = some (.string f.f0) := blk_cell HX3.out 0
   obtain ⟨c, hrun, hat, hwc⟩ := HO3.out.lookup_int jsontext_named.law Tryz.underlying107 Tryz.underlying3 (jsontext_named.zeroE _) HK.out
   rw [HD.out.2] at hat
   by_cases hm : f.f0.data.toList ∈ met
   ·rw [if_pos hm] at hat
    injection hat with hat; injection hat with _ hat
    subst hat; have HR := Aside0.mk (show namedF fs [] = false by rw [← HF2.out, namedF, if_pos hm])
    clear hm hwc; obtain ⟨w1, hrun2, hown1, hgrow1⟩ := HO3.out.update jsontext_named.law Tryz.underlying107 (by unfold maxLen; omega) HK.out (plainElem_int Tryz.underlying3 (a := 2) (by decide))
    have HBw := Aside0.mk (Below.grown HB3.out hgrow1 HB3.out.size (fun j hj => by cases hj; exact HM.out))
    obtain ⟨c2', hrun3, hat3, _⟩ := hown1.lookup_int jsontext_named.law Tryz.underlying107 Tryz.underlying3 (jsontext_named.zeroE _) HK.out
    rw [Maps.atKey_put_same HD.out.1 (by trivial)] at hat3
    injection hat3 with hat3; injection hat3 with _ hat3
    subst hat3; have y1 : w1.cell? ⟨E, 0, none⟩ = some (.string f.f0) := hgrow1.cell y0 (by intro h; injection h with h; exact HEM.out h)
    go_wp2
    go_ret
    exact ⟨by rw [HR.out]; rfl, HBw.out⟩
   ·rw [if_neg hm] at hat
    injection hat with hat; injection hat with _ hat
    subst hat; have HD2 := Aside0.mk (HD.out.next f.f0.data.toList)
    obtain ⟨w1, hrun2, hown1, hgrow1⟩ := HO3.out.update jsontext_named.law Tryz.underlying107 (by unfold maxLen; omega) HK.out (plainElem_int Tryz.underlying3 (a := 1) (by decide))
    have HBw := Aside0.mk (Below.grown HB3.out hgrow1 HB3.out.size (fun j hj => by cases hj; exact HM.out))
    obtain ⟨c2', hrun3, hat3, _⟩ := hown1.lookup_int jsontext_named.law Tryz.underlying107 Tryz.underlying3 (jsontext_named.zeroE _) HK.out
    rw [Maps.atKey_put_same HD.out.1 (by trivial)] at hat3
    injection hat3 with hat3; injection hat3 with _ hat3
    subst hat3; have HO4 := Aside0.mk hown1; have y1 : w1.cell? ⟨E, 0, none⟩ = some (.string f.f0) := hgrow1.cell y0 (by intro h; injection h with h; exact HEM.out h)
    have HV := Aside0.mk (show utf_Valid.f f.f0 = some (Lib.validD f.f0.data.toList) by
     unfold utf_Valid.f utf8_ValidString.f
     rw [if_pos HL.out]
     rfl)
    have HG1 := Aside0.mk (HG.out.below HBw.out)
    obtain ⟨b, hb⟩ : ∃ b, b = Lib.validD f.f0.data.toList := ⟨_, rfl⟩
    have HF3 := Aside0.mk (show namedF fs [] = if b = true then namedF (fs.drop (j + 1)) (met ++ [f.f0.data.toList]) else false by rw [← HF2.out, namedF, if_neg hm, hb])
    rw [← hb] at HV
    clear hb hm hwc hown1 hgrow1; have HJ := Aside0.mk hlt; cases b
    ·have HR := Aside0.mk (show namedF fs [] = false from HF3.out)
     go_wp2_with (go_at_call 68; refine (utf_Valid.calls f.f0 false w1 HG1.out HV.out).mono ?_; rintro e w2 ⟨rfl, hb2⟩; have HBx := Aside0.mk (below_step HBw.out hb2); clear hb2)
     go_ret
     exact ⟨by rw [HR.out]; rfl, HBx.out⟩
    ·have HR := Aside0.mk (show namedF (fs.drop (j + 1)) (met ++ [f.f0.data.toList]) = namedF fs [] from HF3.out.symm)
     go_wp2_with (go_at_call 68; refine (utf_Valid.calls f.f0 true w1 HG1.out HV.out).mono ?_; rintro e w2 ⟨rfl, hb2⟩; have HBx := Aside0.mk (below_step HBw.out hb2); have HOx := Aside0.mk (HO4.out.belowW hb2); clear hb2)
     go_roundw
     case rel => exact ⟨j + 1, _, _, HJ.out, by go_num, HR, HD2, HOx, HBx⟩
     case measure => simp [intOf]; omega
  ·have t : decide ((j : Int) < (fs.length : Int)) = false := decide_eq_false (by omega)
   have HR := Aside0.mk (show namedF fs [] = true by
    have h := HF.out
    rw [List.drop_eq_nil_of_le (by omega)] at h
    exact h.symm)
   go_wp2
   go_ret
   exact ⟨by rw [HR.out]; rfl, HB.out⟩
set_option maxRecDepth 100000 in
set_option maxHeartbeats 2000000 in
theorem jsontext_rules_1.calls (k : Int) (t : ByteArray) (A2 A3 : Option Addr) (n2 c2 n3 c3 : Nat) (w : World) (hG : GlobOk w) (ht : t.size ≤ 140737488351232) : Calls Tryz.prog 81 #[.agg #[.int .u8 k, .string t, .slice A2 n2 c2, .slice A3 n3 c3]] w fun e w' => e = .returned (.bool (Lib.validD t.data.toList)) ∧ Below w.heap.size w w' := by
 obtain ⟨W1, hW1⟩ : ∃ W1, W1 = w.alloc (.cells #[.int .u8 k, .string t, .slice A2 n2 c2, .slice A3 n3 c3] 25 (0, 0)) := ⟨_, rfl⟩
 obtain ⟨N, hN⟩ : ∃ N, N = w.heap.size := ⟨_, rfl⟩
 have HX := Aside0.mk (show W1.heap[N]? = some (.cells #[.int .u8 k, .string t, .slice A2 n2 c2, .slice A3 n3 c3] 25 (0, 0)) by rw [hW1, hN]; exact blk_new w _)
 have HB1 := Aside0.mk (show Below w.heap.size w W1 by rw [hW1]; exact below_alloc (Below.refl _ _) _)
 have HG := Aside0.mk (hG.below HB1.out)
 have x1 := blk_cell HX.out 1
 have HV := Aside0.mk (show utf_Valid.f t = some (Lib.validD t.data.toList) by
  unfold utf_Valid.f utf8_ValidString.f
  rw [if_pos ht]
  rfl)
 clear hG ht; go_enter Tryz.func81, Tryz.ntmps81
 go_upto_region 1 with (fail)
 rw [← hW1, ← hN]
 clear hW1 hN; go_wp2_with (go_at_call 68; refine (utf_Valid.calls t _ W1 HG.out HV.out).mono ?_; rintro e w2 ⟨rfl, hb2⟩; have HB2 := Aside0.mk (below_step HB1.out hb2); clear hb2)
 go_ret
 exact ⟨rfl, HB2.out⟩
def rz : List Value := [.bool false, .bool false, .bool false, .nilFunc]
def ruleL : List Value := rz ++ rz ++ rz ++ [.bool true, .bool false, .bool false, .func (.func 34) #[] #[]] ++ [.bool true, .bool false, .bool false, .func (.func 81) #[] #[]] ++ [.bool false, .bool true, .bool false, .nilFunc] ++ [.bool false, .bool false, .bool true, .func (.func 82) #[] #[]]
def ruleA : Array Value := ruleL.toArray
set_option maxRecDepth 100000 in
set_option maxHeartbeats 2000000 in
theorem jsontext_rules.calls (w : World) : Calls Tryz.prog 57 #[] w fun e w' => e = .returned (.agg ruleA) ∧ Below w.heap.size w w' := by
 go_enter Tryz.func57, Tryz.ntmps57
 go_upto_region 1 with (fail)
 go_wp2_with (refine wpList_store_row rfl 88 _ _ rfl w.heap.size ruleA (by first | rfl | (simp; rfl)) (by first | rfl | (simp; rfl)) 88 _ (blk_new w _) (by kernel_rfl) (by first | rfl | kernel_rfl) (by first | rfl | kernel_rfl) ?_)
 obtain ⟨W, hW⟩ : ∃ W, W = w.alloc (.cells #[.bool false, .bool false, .bool false, .nilFunc, .bool false, .bool false, .bool false, .nilFunc, .bool false, .bool false, .bool false, .nilFunc, .bool false, .bool false, .bool false, .nilFunc, .bool false, .bool false, .bool false, .nilFunc, .bool false, .bool false, .bool false, .nilFunc, .bool false, .bool false, .bool false, .nilFunc] 88 (0, 0)) := ⟨_, rfl⟩
 obtain ⟨old, hb⟩ : ∃ old, W.heap[w.heap.size]? = some (.cells old 88 (0, 0)) := by rw [hW]; exact ⟨_, blk_new w _⟩
 have hbw : Below w.heap.size w W := by rw [hW]; exact below_alloc (Below.refl _ _) _
 rw [← hW]
 clear hW; have hh := setRow_heap W w.heap.size _ ruleA _ _ hb
 have hb2 : Below w.heap.size w (W.setRow w.heap.size ruleA) := below_setRow hbw (Nat.le_refl _) _
 have hl := run_loadVar_row (P := Tryz.prog) (W.setRow w.heap.size ruleA) w.heap.size 88 88 ruleA (0, 0) _ hh Tryz.underlying88 rfl (by kernel_rfl)
 refine bodyPost_ret (v := .agg ruleA) ?_ rfl ⟨rfl, hb2⟩
 simp only [results, Tryz.results57]
 simp [Sem.run_bind]
 exact hl
/-- The bytes of a string's characters from a place on, each that is none told as the replacement. -/
def fixL (s : ByteArray) : Nat → Nat → List UInt8
 | 0, _ => []
 | f + 1, pos => if pos < s.size then Lib.encodeRune (Utf8.decode s pos).1 ++ fixL s f (pos + (Utf8.decode s pos).2) else []
theorem fixL_end (s : ByteArray) (f pos : Nat) (h : ¬ pos < s.size) : fixL s f pos = [] := by
 cases f with
 | zero => rfl
 | succ f => simp [fixL, h]
def utf_Fix.f (a0 : ByteArray) : Option ByteArray := (utf_Valid.f a0).bind fun v => if v = true then some a0 else if a0.size ≤ 35184372088832 then some ⟨(fixL a0 a0.size 0).toArray⟩ else none
set_option maxHeartbeats 4000000 in
set_option maxRecDepth 1000000 in
theorem utf_Fix.calls (a0 : ByteArray) (r : ByteArray) (w : World) (hG : GlobOk w) (h : utf_Fix.f a0 = some r) :
  Calls Tryz.prog 37 #[.string a0] w fun e w' => e = .returned (.string r) ∧ Below w.heap.size w w' := by
 unfold utf_Fix.f at h
 cases hv : utf_Valid.f a0 with
 | none => rw [hv] at h; cases h
 | some v =>
  rw [hv] at h
  have hV := utf_Valid.calls a0 v w hG hv
  cases v with
  | true =>
   obtain rfl : a0 = r := by simpa using h
   clear h hv; go_enter Tryz.func37, Tryz.ntmps37
   go_wp2_with (go_at_call 68; refine hV.mono ?_; clear hV; rintro e w' ⟨rfl, hb⟩)
   go_ret
   exact ⟨rfl, hb⟩
  | false =>
   simp only [Option.bind_some, Bool.false_eq_true, if_false] at h
   by_cases hs : a0.size ≤ 35184372088832
   ·rw [if_pos hs] at h
    obtain rfl := Option.some.inj h
    clear h hv; go_enter Tryz.func37, Tryz.ntmps37
    go_wp2_with (go_at_call 68; refine hV.mono ?_; clear hV; rintro e w1 ⟨rfl, hb⟩)
    go_loopw [] (fun wr => ∃ (pos fuel : Nat) (acc : List UInt8), Lib.IsBuilderF 50 5 w1.heap.size w1.heap.size (Lib.byteCells acc) wr ∧ wr.heap[w1.heap.size + 1]? = some (.stringIter a0 pos) ∧ Below w1.heap.size w1 wr ∧ acc ++ fixL a0 fuel pos = fixL a0 a0.size 0 ∧ a0.size ≤ pos + fuel ∧ acc.length ≤ 4 * pos) (fun wr => a0.size - wr.iterPos (w1.heap.size + 1))
    case atStart =>
     refine ⟨0, a0.size, [], (Lib.IsBuilderF.of (Lib.fresh_isBuilder 50 5 w1)).alloc _, ?_, ((Below.refl _ w1).alloc (Nat.le_refl _) _).alloc (by simp) _, rfl, by omega, by simp⟩
     have := World.iter_heap (w1.alloc (.cells #[.pointer none, .slice none 0 0] 50)) a0 0
     simpa using this
    case round =>
     obtain ⟨pos, fuel, acc, hI, hit, hbw, hacc, hfu, hal⟩ := hrel
     have hsz : w1.heap.size + 1 < wr.heap.size := (Array.getElem?_eq_some_iff.1 hit).1
     by_cases hp : pos < a0.size
     ·have hnx : ∀ ty, (Instr.next (.pointer (some ⟨w1.heap.size + 1, 0, none⟩)) true ty).run Tryz.prog wr = _ := fun ty => Lib.run_next_any_at wr (w1.heap.size + 1) a0 pos ty hit hp
      have hwd := Lib.decode_width_pos a0 pos hp
      have hd1 := decode_le a0 pos
      have hI2 := hI.iterAt hit (pos + (Utf8.decode a0 pos).2)
      have hit2 := Lib.iterAt_heap wr (w1.heap.size + 1) a0 pos (pos + (Utf8.decode a0 pos).2) hit
      have hbw2 := Lib.below_iterAt hbw (k := w1.heap.size + 1) (by omega) a0 (pos + (Utf8.decode a0 pos).2)
      have hsz2 : w1.heap.size ≤ (wr.iterAt (w1.heap.size + 1) a0 (pos + (Utf8.decode a0 pos).2)).heap.size := by rw [Lib.iterAt_size]; omega
      obtain ⟨f, rfl⟩ : ∃ f, fuel = f + 1 := ⟨fuel - 1, by omega⟩
      go_wp2_with (go_at_call 41; refine (bw_rune w1.heap.size w1.heap.size _ _ (by omega) (by omega) _ hI2 (by rw [Lib.byteCells_length]; omega) hsz2).mono ?_)
      rintro e W1 ⟨rfl, h1, b1, k1⟩
      go_wp2
      go_roundw
      case rel =>
       have hl4 := Lib.runeCells_le ((Utf8.decode a0 pos).1 : Int)
       rw [Lib.runeCells_length] at hl4
       refine ⟨pos + (Utf8.decode a0 pos).2, f, acc ++ Lib.encodeRune (Utf8.decode a0 pos).1, ?_, k1.iter hit2 (by omega), hbw2.trans b1, ?_, by omega, by simp; omega⟩
       ·rw [Lib.byteCells_append, Lib.byteCells_encodeRune]; exact Or.inr h1
       ·rw [← hacc]; simp [fixL, hp]
      case measure =>
       simp only [World.iterPos, k1.iter hit2 (by omega), hit]
       omega
     ·have hnx : ∀ ty, (Instr.next (.pointer (some ⟨w1.heap.size + 1, 0, none⟩)) true ty).run Tryz.prog wr = _ := fun ty => Lib.run_next_end_at wr (w1.heap.size + 1) a0 pos ty hit hp
      go_wp2_with (go_at_call 27; refine (Tryz.Builder_String_any_k w1.heap.size w1.heap.size acc _ hI (by omega)).mono ?_)
      rintro e W1 ⟨rfl, _, b1, _⟩
      go_wp2
      go_ret
      rw [fixL_end a0 fuel pos hp, List.append_nil] at hacc
      subst hacc; exact ⟨rfl, hb.trans ((hbw.trans b1).mono hb.size)⟩
   ·rw [if_neg hs] at h; cases h
end Go.Proofs.YtebmgmagdhedgaaGreatDoor.Q

end
section
namespace Go.Proofs.YtebmgmagdhedgaaGreatDoor.XUtfT
open Go Go.RowKit Go.Proofs.YtebmgmagdhedgaaGreatDoor.Q Go.Proofs.YtebmgmagdhedgaaGreatDoorW.PrintWords Go.Proofs.YtebmgmagdhedgaaGreatDoorW.PrintLast Go.Proofs.YtebmgmagdhedgaaGreatDoorW.PrintMore Go.Proofs.YtebmgmagdhedgaaGreatDoor.XEv Go.Proofs.YtebmgmagdhedgaaGreatDoor.XRef01
set_option linter.unusedVariables false
set_option linter.unusedSimpArgs false
theorem utf_valid (s : ByteArray) (hs : s.size ≤ 140737488351232) : utf_Valid.f s = some (okF s s.size 0) := by
  have h : utf8_ValidString.f s = some (okF s s.size 0) := by
    unfold utf8_ValidString.f
    rw [if_pos hs, ← valid_ok s s.size 0 (by omega), List.drop_zero]
  simp only [utf_Valid.f, h, Option.bind_some]
end Go.Proofs.YtebmgmagdhedgaaGreatDoor.XUtfT

end
