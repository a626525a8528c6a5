/- Words and walks of this claim, put together by this repo's wip/xlink.py out of Q6. -/
import Derived.Test.YtienoadaflmkdaaDoorL5
import Derived.Test.YtienoadaflmkdaaDoorL6
namespace Go.Proofs.YtienoadaflmkdaaDoor.Q
open Go.RowKit Go.Proofs.YtienoadaflmkdaaDoorW.PrintWords Go.Proofs.YtienoadaflmkdaaDoorW.PrintLast Go.Proofs.YtienoadaflmkdaaDoorW.PrintMore
attribute [local go_sem] max2_int min2_int max_two min_two max_three min_three max_four min_four   
set_option linter.unusedVariables false
set_option linter.unusedSimpArgs false
theorem wpS_of_wp_ {P : Program} {Q : Exit → Act → List Frame → World → Prop} {a : Act} {cs : List Frame} {w : World} {c : Code} (Q' : Exit → Act → World → Prop) (hQ : ∀ e a' w', Q' e a' w' → Q e a' cs w') (h : c.wp P Q' a w) : c.wpS P Q a cs w :=
  fun b k _ _ => let ⟨e, a', w', q, r⟩ := h b k cs; ⟨e, a', cs, w', hQ _ _ _ q, r⟩
theorem wp_tmps {P : Program} {c : Code} {Q : Exit → Act → World → Prop} {t1 t2 : Array Value} {ds : List Deferred} {w : World} (h : t1 = t2) (hw : c.wp P Q { tmps := t2, defers := ds } w) : c.wp P Q { tmps := t1, defers := ds } w := by rw [h]; exact hw
def Closed (N i : Nat) (c : Int) (w w' : World) : Prop := w'.heap[N]? = some (.cells #[.int .u8 0, .string ⟨#[]⟩, .slice none 0 0, .slice none 0 0] 25 (0, 0)) ∧ w'.heap[N + 1]? = some (.cells #[.int .i64 i] 3 (0, 0)) ∧ w'.heap[N + 2]? = some (.cells #[.int .i64 c] 26 (0, 0)) ∧ Below N w w'
theorem Closed.drew {N i : Nat} {c : Int} {w w' : World} (h : Closed N i c w w') : Closed N i c w w'.drew := ⟨h.1, h.2.1, h.2.2.1, h.2.2.2.drew⟩
set_option maxRecDepth 100000 in
set_option maxHeartbeats 2000000 in
theorem json_Parse_1.idle (a b c : Addr) (w : World) :
    CallsD Tryd.prog 12 #[.pointer (some a), .pointer (some b), .pointer (some c)] .returning w fun e u' w' => e = .returned (.tuple #[]) ∧ u' = .returning ∧ w' = w := by
  refine callsD_of_wpS Tryd.func12 rfl fun c₀ cs hu => ?_
  apply wpS_seq
  apply wpS_region
  simp [wpOpsS, go_sem, recoverD, hu, Tryd.ntmps12, Exit.thenS]
  apply wpS_seq
  apply wpS_region
  simp [wpOpsS, go_sem, Exit.thenS]
  refine wpS_cond (t := false) (by simp [Act.eval, Array.replicate]) ?_
  simp only [Bool.false_eq_true, if_false]
  refine wpS_of_wp (wp_skip ?_)
  cases c₀
  simp_all [bodyPostS, results, Tryd.results12]
set_option maxRecDepth 100000 in
set_option maxHeartbeats 2000000 in
theorem json_Parse_1.caught (N i : Nat) (c : Int) (a0 a1 a2 a3 : Value) (w : World) (h0 : w.heap[N]? = some (.cells #[a0, a1, a2, a3] 25 (0, 0))) (h1 : w.heap[N + 1]? = some (.cells #[.int .i64 0] 3 (0, 0))) (h2 : w.heap[N + 2]? = some (.cells #[.int .i64 0] 26 (0, 0))) :
    CallsD Tryd.prog 12 #[.pointer (some ⟨N, 0, none⟩), .pointer (some ⟨N + 1, 0, none⟩), .pointer (some ⟨N + 2, 0, none⟩)] (.panicking [thrown i c]) w fun e u' w' => e = .returned (.tuple #[]) ∧ u' = .panicking [{ thrown i c with recovered := true }] ∧ Closed N i c w w' := by
  have HH0 := Aside0.mk h0; have HH1 := Aside0.mk h1; have HH2 := Aside0.mk h2; clear h0 h1 h2; refine callsD_of_wpS Tryd.func12 rfl fun c₀ cs hu => ?_
  apply wpS_seq
  apply wpS_region
  simp [wpOpsS, go_sem, recoverD, hu, Tryd.ntmps12, Exit.thenS, thrown]
  obtain ⟨Q', hQ'⟩ : ∃ Q' : Exit → Act → World → Prop, Q' = fun e a' w' => e = .normal ∧ a'.defers = [] ∧ Closed N i c w w' := ⟨_, rfl⟩
  refine wpS_of_wp_ Q' ?_ ?_
  · rintro e a' w' h
    rw [hQ'] at h
    obtain ⟨rfl, hd, h⟩ := h
    simp [Exit.thenS, bodyPostS, results, Tryd.results12, hd, h]
  clear hu; refine wp_tmps (t2 := #[.pointer (some ⟨N, 0, none⟩), .pointer (some ⟨N + 1, 0, none⟩), .pointer (some ⟨N + 2, 0, none⟩), .iface 41 (.agg #[.int .i64 i, .int .i64 c]), undef, undef, .iface 41 (.agg #[.int .i64 i, .int .i64 c]), undef, undef, undef, undef, undef, undef, undef, undef, undef, undef, undef, undef, undef, undef, undef]) (by kernel_rfl) ?_
  have hne : ∀ w : World, (binOp BinOp.neq 20 (.iface 41 (.agg #[.int .i64 i, .int .i64 c])) Value.nilIface).run Tryd.prog w = .ok (.bool true) w := fun _ => by kernel_rfl
  have hta : ∀ w : World, (Instr.typeAssert (.iface 41 (.agg #[.int .i64 i, .int .i64 c])) 20 41 true).run Tryd.prog w = .ok (.tuple #[.agg #[.int .i64 i, .int .i64 c], .bool true]) w := fun _ => by kernel_rfl
  go_upto_region 5 with (fail)
  have hb := below_alloc (Below.refl w.heap.size w) (.cells #[.int .i64 i, .int .i64 c] 41 (0, 0))
  have hm := blk_new w (.cells #[.int .i64 i, .int .i64 c] 41 (0, 0))
  have k0 := blk_lt HH0.out
  have k1 := blk_lt HH1.out
  have k2 := blk_lt HH2.out
  have HA0 := Aside0.mk (blk_alloc HH0.out (.cells #[.int .i64 i, .int .i64 c] 41 (0, 0)))
  have HA1 := Aside0.mk (blk_alloc HH1.out (.cells #[.int .i64 i, .int .i64 c] 41 (0, 0)))
  have HA2 := Aside0.mk (blk_alloc HH2.out (.cells #[.int .i64 i, .int .i64 c] 41 (0, 0)))
  have HB := Aside0.mk hb; clear hb hne hta; generalize hWa : w.alloc (.cells #[.int .i64 i, .int .i64 c] 41 (0, 0)) = Wa at hm HA0 HA1 HA2 HB ⊢
  have m0 := blk_cell hm 0
  have m1 := blk_cell hm 1
  have e0 := blk_cell HA0.out 0
  have e1 := blk_cell HA0.out 1
  have e2 := blk_cell HA0.out 2
  have e3 := blk_cell HA0.out 3
  have f0 := blk_frozen HA0.out 0
  have f1 := blk_frozen HA0.out 1
  have f2 := blk_frozen HA0.out 2
  have f3 := blk_frozen HA0.out 3
  have e4 := blk_cell HA1.out 0
  have f4 := blk_frozen HA1.out 0
  have e5 := blk_cell HA2.out 0
  have f5 := blk_frozen HA2.out 0
  have ne1 : w.heap.size ≠ N := by omega
  have ne2 : w.heap.size ≠ N + 1 := by omega
  have ne3 : w.heap.size ≠ N + 2 := by omega
  go_region
  have hend : ∀ a' w', a'.defers = [] → Closed N i c w w' → Q' .normal a' w' := fun a' w' h1 h2 => by rw [hQ']; exact ⟨rfl, h1, h2⟩
  refine hend _ _ rfl ?_
  clear hend hQ'; refine Closed.drew ?_
  refine ⟨?_, ?_, ?_, ?_⟩
  · exact (Below.heap_setCell _ _ _ _ (show N ≠ N + 2 by omega)).trans ((Below.heap_setCell _ _ _ _ (show N ≠ N + 1 by omega)).trans (put4 HA0.out _ _ _ _))
  · exact (Below.heap_setCell _ _ _ _ (show N + 1 ≠ N + 2 by omega)).trans (blk_put ((put4_far (show N + 1 ≠ N by omega) _ _ _ _).trans HA1.out) 0 _ rfl)
  · exact blk_put ((Below.heap_setCell _ _ _ _ (show N + 2 ≠ N + 1 by omega)).trans ((put4_far (show N + 2 ≠ N by omega) _ _ _ _).trans HA2.out)) 0 _ rfl
  · exact ((((((((HB.out.mono (Nat.le_of_lt k0)).setCell (p := ⟨N, 0, none⟩) (Nat.le_refl _) _).setCell (p := ⟨N, 1, none⟩) (Nat.le_refl _) _).setCell (p := ⟨N, 2, none⟩) (Nat.le_refl _) _).setCell (p := ⟨N, 3, none⟩) (Nat.le_refl _) _).setCell (p := ⟨N + 1, 0, none⟩) (Nat.le_succ _) _).setCell (p := ⟨N + 2, 0, none⟩) (by show N ≤ N + 2; omega) _))
/-- A text read whole. -/
def parse (s : ByteArray) : Res JV := (pval s 64 (skip isBl s 0)).bind fun v j => if skip isBl s j < s.size then .bad (skip isBl s j) 30 else .ok v 0
def parsed (s : ByteArray) : JV × Nat × Int := if 262144 < s.size then (⟨0, ⟨#[]⟩, [], []⟩, 0, 3) else match parse s with
  | .ok v _ => (v, 0, 0)
  | .bad i c => (⟨0, ⟨#[]⟩, [], []⟩, i, c)
def ParseO (s : ByteArray) (w : World) (e : Ending) (w' : World) : Prop := ∃ v2 v3, e = .returned (.tuple #[.agg #[.int .u8 (parsed s).1.f0, .string (parsed s).1.f1, v2, v3], .int .i64 (parsed s).2.1, .int .i64 (parsed s).2.2]) ∧ Kd.R k25 25 w' w.heap.size (fun _ => True) v2 (parsed s).1.f2 ∧ Kd.R k38 38 w' w.heap.size (fun _ => True) v3 (parsed s).1.f3 ∧ Below w.heap.size w w'
set_option maxRecDepth 100000 in
set_option maxHeartbeats 2000000 in
theorem json_Parse.long (s : ByteArray) (w : World) (h : 262144 < s.size) : Calls Tryd.prog 7 #[.string s] w (ParseO s w) := by
  have hp : parsed s = (⟨0, ⟨#[]⟩, [], []⟩, 0, 3) := if_pos h
  have t1 : decide ((262144 : Int) < (s.size : Int)) = true := decide_eq_true (by omega)
  obtain ⟨W1, hW1⟩ : ∃ W1, W1 = ((w.alloc (.cells #[.int .u8 0, .string ⟨#[]⟩, .slice none 0 0, .slice none 0 0] 25 (0, 0))).alloc (.cells #[.int .i64 0] 3 (0, 0))).alloc (.cells #[.int .i64 0] 26 (0, 0)) := ⟨_, rfl⟩
  have hx0 : W1.heap[w.heap.size]? = some (.cells #[.int .u8 0, .string ⟨#[]⟩, .slice none 0 0, .slice none 0 0] 25 (0, 0)) := by rw [hW1]; exact blk_alloc (blk_alloc (blk_new w _) _) _
  have hx1 : W1.heap[w.heap.size + 1]? = some (.cells #[.int .i64 0] 3 (0, 0)) := by
    rw [hW1]
    have h := blk_alloc (blk_new (w.alloc (.cells #[.int .u8 0, .string ⟨#[]⟩, .slice none 0 0, .slice none 0 0] 25 (0, 0))) (.cells #[.int .i64 0] 3 (0, 0))) (.cells #[.int .i64 0] 26 (0, 0))
    simpa using h
  have hx2 : W1.heap[w.heap.size + 2]? = some (.cells #[.int .i64 0] 26 (0, 0)) := by
    rw [hW1]
    have h := blk_new ((w.alloc (.cells #[.int .u8 0, .string ⟨#[]⟩, .slice none 0 0, .slice none 0 0] 25 (0, 0))).alloc (.cells #[.int .i64 0] 3 (0, 0))) (.cells #[.int .i64 0] 26 (0, 0))
    simpa using h
  have hb1 : Below w.heap.size w W1 := by rw [hW1]; exact below_alloc (below_alloc (below_alloc (Below.refl _ _) _) _) _
  have HX0 := Aside0.mk hx0; have HX1 := Aside0.mk hx1; have HX2 := Aside0.mk hx2; have HB := Aside0.mk hb1; have HP := Aside0.mk hp; have HW := Aside0.mk hW1; clear hx0 hx1 hx2 hb1 hp hW1 h; obtain ⟨N, hN⟩ : ∃ N, N = w.heap.size := ⟨_, rfl⟩
  rw [← hN] at HX0 HX1 HX2
  go_enter_defers Tryd.func7, Tryd.ntmps7
  go_upto_region 1 with (fail)
  rw [← HW.out, ← hN]
  have HNw := Aside0.mk hN; clear hN; have e0 := blk_cell HX0.out 0
  have e1 := blk_cell HX0.out 1
  have e2 := blk_cell HX0.out 2
  have e3 := blk_cell HX0.out 3
  have f0 := blk_frozen HX0.out 0
  have f1 := blk_frozen HX0.out 1
  have f2 := blk_frozen HX0.out 2
  have f3 := blk_frozen HX0.out 3
  have e4 := blk_cell HX1.out 0
  have f4 := blk_frozen HX1.out 0
  have e5 := blk_cell HX2.out 0
  have f5 := blk_frozen HX2.out 0
  go_wp2
  have hw := (Below.heap_setCell (((((W1.setCell ⟨N, 0, none⟩ (.int .u8 0)).setCell ⟨N, 1, none⟩ (.string ⟨#[]⟩)).setCell ⟨N, 2, none⟩ (.slice none 0 0)).setCell ⟨N, 3, none⟩ (.slice none 0 0)).setCell ⟨N + 1, 0, none⟩ (.int .i64 0)) ⟨N + 1 + 1, 0, none⟩ (.int .i64 3) N (show N ≠ N + 1 + 1 by omega)).trans ((Below.heap_setCell ((((W1.setCell ⟨N, 0, none⟩ (.int .u8 0)).setCell ⟨N, 1, none⟩ (.string ⟨#[]⟩)).setCell ⟨N, 2, none⟩ (.slice none 0 0)).setCell ⟨N, 3, none⟩ (.slice none 0 0)) ⟨N + 1, 0, none⟩ (.int .i64 0) N (show N ≠ N + 1 by omega)).trans (put4 HX0.out (.int .u8 0) (.string ⟨#[]⟩) (.slice none 0 0) (.slice none 0 0)))
  have hw1 := (Below.heap_setCell (((((W1.setCell ⟨N, 0, none⟩ (.int .u8 0)).setCell ⟨N, 1, none⟩ (.string ⟨#[]⟩)).setCell ⟨N, 2, none⟩ (.slice none 0 0)).setCell ⟨N, 3, none⟩ (.slice none 0 0)).setCell ⟨N + 1, 0, none⟩ (.int .i64 0)) ⟨N + 1 + 1, 0, none⟩ (.int .i64 3) (N + 1) (show N + 1 ≠ N + 1 + 1 by omega)).trans (blk_put ((put4_far (show N + 1 ≠ N by omega) (.int .u8 0) (.string ⟨#[]⟩) (.slice none 0 0) (.slice none 0 0)).trans HX1.out) 0 (.int .i64 0) rfl)
  have hw2 : ((((((W1.setCell ⟨N, 0, none⟩ (.int .u8 0)).setCell ⟨N, 1, none⟩ (.string ⟨#[]⟩)).setCell ⟨N, 2, none⟩ (.slice none 0 0)).setCell ⟨N, 3, none⟩ (.slice none 0 0)).setCell ⟨N + 1, 0, none⟩ (.int .i64 0)).setCell ⟨N + 1 + 1, 0, none⟩ (.int .i64 3)).heap[N + 1 + 1]? = some (.cells #[.int .i64 3] 26 (0, 0)) := blk_put ((Below.heap_setCell ((((W1.setCell ⟨N, 0, none⟩ (.int .u8 0)).setCell ⟨N, 1, none⟩ (.string ⟨#[]⟩)).setCell ⟨N, 2, none⟩ (.slice none 0 0)).setCell ⟨N, 3, none⟩ (.slice none 0 0)) ⟨N + 1, 0, none⟩ (.int .i64 0) (N + 1 + 1) (show N + 1 + 1 ≠ N + 1 by omega)).trans ((put4_far (show N + 1 + 1 ≠ N by omega) (.int .u8 0) (.string ⟨#[]⟩) (.slice none 0 0) (.slice none 0 0)).trans HX2.out)) 0 (.int .i64 3) rfl
  have hNw := HNw.out
  have hb := ((((((HB.out.setCell (p := ⟨N, 0, none⟩) (by show w.heap.size ≤ N; omega) (.int .u8 0)).setCell (p := ⟨N, 1, none⟩) (by show w.heap.size ≤ N; omega) (.string ⟨#[]⟩)).setCell (p := ⟨N, 2, none⟩) (by show w.heap.size ≤ N; omega) (.slice none 0 0)).setCell (p := ⟨N, 3, none⟩) (by show w.heap.size ≤ N; omega) (.slice none 0 0)).setCell (p := ⟨N + 1, 0, none⟩) (by show w.heap.size ≤ N + 1; omega) (.int .i64 0)).setCell (p := ⟨N + 1 + 1, 0, none⟩) (by show w.heap.size ≤ N + 1 + 1; omega) (.int .i64 3))
  generalize ((((((W1.setCell ⟨N, 0, none⟩ (.int .u8 0)).setCell ⟨N, 1, none⟩ (.string ⟨#[]⟩)).setCell ⟨N, 2, none⟩ (.slice none 0 0)).setCell ⟨N, 3, none⟩ (.slice none 0 0)).setCell ⟨N + 1, 0, none⟩ (.int .i64 0)).setCell ⟨N + 1 + 1, 0, none⟩ (.int .i64 3)) = Wf at hw hw1 hw2 hb ⊢
  have g0 := blk_cell hw 0
  have g1 := blk_cell hw 1
  have g2 := blk_cell hw 2
  have g3 := blk_cell hw 3
  have g4 := blk_cell hw1 0
  have g5 := blk_cell hw2 0
  refine ⟨.tuple #[.agg #[.int .u8 0, .string ⟨#[]⟩, .slice none 0 0, .slice none 0 0], .int .i64 0, .int .i64 3], by simp [results, Tryd.results7, go_sem, g0, g1, g2, g3, g4, g5], ?_⟩
  unfold ParseO
  rw [HP.out]
  exact ⟨_, _, rfl, Kd.R_nil _ _ _ _ _, Kd.R_nil _ _ _ _ _, hb⟩
theorem ParseO.bad {s : ByteArray} {w : World} {i : Nat} {c : Int} (hs : ¬ 262144 < s.size) (h : parse s = .bad i c) {w' : World} (hb : Below w.heap.size w w') : ParseO s w (.returned (.tuple #[.agg #[.int .u8 0, .string ⟨#[]⟩, .slice none 0 0, .slice none 0 0], .int .i64 i, .int .i64 c])) w' := by
  have hp : parsed s = (⟨0, ⟨#[]⟩, [], []⟩, i, c) := by unfold parsed; rw [if_neg hs, h]
  unfold ParseO
  rw [hp]
  exact ⟨_, _, rfl, Kd.R_nil _ _ _ _ _, Kd.R_nil _ _ _ _ _, hb⟩
theorem Kp.belowN {B : Nat} {a b c : World} (h : Below a.heap.size a b) (k : Kp B b c) (hB : a.heap.size ≤ B) : Below a.heap.size a c := h.trans ⟨k.os, k.tape, k.output, k.size, fun q hq => k.block q (Nat.lt_of_lt_of_le hq h.size) (by omega)⟩
/-- What the deferred call makes of a panic. -/
theorem door_bad {s : ByteArray} {w w4 : World} {N i : Nat} {c : Int} {a0 a1 a2 a3 : Value} {tmps : Array Value} (hs : ¬ 262144 < s.size) (h : parse s = .bad i c) (hN : N = w.heap.size) (hb : Below w.heap.size w w4)
    (h0 : w4.heap[N]? = some (.cells #[a0, a1, a2, a3] 25 (0, 0))) (h1 : w4.heap[N + 1]? = some (.cells #[.int .i64 0] 3 (0, 0))) (h2 : w4.heap[N + 1 + 1]? = some (.cells #[.int .i64 0] 26 (0, 0)))
    (ht2 : tmps[2]? = some (.pointer (some ⟨N, 0, none⟩))) (ht3 : tmps[3]? = some (.pointer (some ⟨N + 1, 0, none⟩))) (ht4 : tmps[4]? = some (.pointer (some ⟨N + 1 + 1, 0, none⟩))) :
    bodyPostD Tryd.prog Tryd.f7 (ParseO s w) (.panic [thrown i c]) { tmps := tmps, defers := [{ target := .fn (.func 12) #[.pointer (some ⟨N, 0, none⟩), .pointer (some ⟨N + 1, 0, none⟩), .pointer (some ⟨N + 1 + 1, 0, none⟩)], args := #[] }] } w4 := by
  refine leaves_cons (f := 12) (args := #[.pointer (some ⟨N, 0, none⟩), .pointer (some ⟨N + 1, 0, none⟩), .pointer (some ⟨N + 1 + 1, 0, none⟩)]) (by simp) (by simp [go_sem]) ?_
  refine (json_Parse_1.caught N i c a0 a1 a2 a3 w4 h0 h1 h2).mono ?_
  rintro e u' w'' ⟨rfl, rfl, k0, k1, k2, kb⟩
  have g0 := blk_cell k0 0
  have g1 := blk_cell k0 1
  have g2 := blk_cell k0 2
  have g3 := blk_cell k0 3
  have g4 := blk_cell k1 0
  have g5 : w''.cell? ⟨N + 1 + 1, 0, none⟩ = _ := blk_cell k2 0
  have hb2 : Below w.heap.size w w'' := hb.trans (kb.mono (Nat.le_of_eq hN.symm))
  refine ⟨.tuple #[.agg #[.int .u8 0, .string ⟨#[]⟩, .slice none 0 0, .slice none 0 0], .int .i64 i, .int .i64 c], ?_, ParseO.bad hs h hb2⟩
  simp [results, Tryd.results7, go_sem, g0, g1, g2, g3, g4, g5, ht2, ht3, ht4]
/-- What stands behind a return. -/
theorem door_ok {s : ByteArray} {w w3 : World} {N : Nat} {v : JV} {A2 A3 : Option Addr} {c2 c3 : Nat} {tmps : Array Value} (hs : ¬ 262144 < s.size) (h : parse s = .ok v 0) (hN : N = w.heap.size) (hb : Below w.heap.size w w3)
    (h0 : w3.heap[N]? = some (.cells #[.int .u8 v.f0, .string v.f1, .slice A2 v.f2.length c2, .slice A3 v.f3.length c3] 25 (0, 0))) (h1 : w3.heap[N + 1]? = some (.cells #[.int .i64 0] 3 (0, 0))) (h2 : w3.heap[N + 1 + 1]? = some (.cells #[.int .i64 0] 26 (0, 0)))
    (hv2 : Kd.R k25 25 w3 (N + 4) (fun _ => True) (.slice A2 v.f2.length c2) v.f2) (hv3 : Kd.R k38 38 w3 (N + 4) (fun _ => True) (.slice A3 v.f3.length c3) v.f3)
    (ht2 : tmps[2]? = some (.pointer (some ⟨N, 0, none⟩))) (ht3 : tmps[3]? = some (.pointer (some ⟨N + 1, 0, none⟩))) (ht4 : tmps[4]? = some (.pointer (some ⟨N + 1 + 1, 0, none⟩))) :
    bodyPostD Tryd.prog Tryd.f7 (ParseO s w) .ret { tmps := tmps, defers := [{ target := .fn (.func 12) #[.pointer (some ⟨N, 0, none⟩), .pointer (some ⟨N + 1, 0, none⟩), .pointer (some ⟨N + 1 + 1, 0, none⟩)], args := #[] }] } ((((((w3.setCell ⟨N, 0, none⟩ (.int .u8 v.f0)).setCell ⟨N, 1, none⟩ (.string v.f1)).setCell ⟨N, 2, none⟩ (.slice A2 v.f2.length c2)).setCell ⟨N, 3, none⟩ (.slice A3 v.f3.length c3)).setCell ⟨N + 1, 0, none⟩ (.int .i64 0)).setCell ⟨N + 1 + 1, 0, none⟩ (.int .i64 0)) := by
  have hp : parsed s = (v, 0, 0) := by unfold parsed; rw [if_neg hs, h]
  have k0 := (Below.heap_setCell (((((w3.setCell ⟨N, 0, none⟩ (.int .u8 v.f0)).setCell ⟨N, 1, none⟩ (.string v.f1)).setCell ⟨N, 2, none⟩ (.slice A2 v.f2.length c2)).setCell ⟨N, 3, none⟩ (.slice A3 v.f3.length c3)).setCell ⟨N + 1, 0, none⟩ (.int .i64 0)) ⟨N + 1 + 1, 0, none⟩ (.int .i64 0) N (show N ≠ N + 1 + 1 by omega)).trans ((Below.heap_setCell ((((w3.setCell ⟨N, 0, none⟩ (.int .u8 v.f0)).setCell ⟨N, 1, none⟩ (.string v.f1)).setCell ⟨N, 2, none⟩ (.slice A2 v.f2.length c2)).setCell ⟨N, 3, none⟩ (.slice A3 v.f3.length c3)) ⟨N + 1, 0, none⟩ (.int .i64 0) N (show N ≠ N + 1 by omega)).trans (put4 h0 (.int .u8 v.f0) (.string v.f1) (.slice A2 v.f2.length c2) (.slice A3 v.f3.length c3)))
  have k1 := (Below.heap_setCell (((((w3.setCell ⟨N, 0, none⟩ (.int .u8 v.f0)).setCell ⟨N, 1, none⟩ (.string v.f1)).setCell ⟨N, 2, none⟩ (.slice A2 v.f2.length c2)).setCell ⟨N, 3, none⟩ (.slice A3 v.f3.length c3)).setCell ⟨N + 1, 0, none⟩ (.int .i64 0)) ⟨N + 1 + 1, 0, none⟩ (.int .i64 0) (N + 1) (show N + 1 ≠ N + 1 + 1 by omega)).trans (blk_put ((put4_far (show N + 1 ≠ N by omega) (.int .u8 v.f0) (.string v.f1) (.slice A2 v.f2.length c2) (.slice A3 v.f3.length c3)).trans h1) 0 (.int .i64 0) rfl)
  have k2 : ((((((w3.setCell ⟨N, 0, none⟩ (.int .u8 v.f0)).setCell ⟨N, 1, none⟩ (.string v.f1)).setCell ⟨N, 2, none⟩ (.slice A2 v.f2.length c2)).setCell ⟨N, 3, none⟩ (.slice A3 v.f3.length c3)).setCell ⟨N + 1, 0, none⟩ (.int .i64 0)).setCell ⟨N + 1 + 1, 0, none⟩ (.int .i64 0)).heap[N + 1 + 1]? = some (.cells #[.int .i64 0] 26 (0, 0)) := blk_put ((Below.heap_setCell ((((w3.setCell ⟨N, 0, none⟩ (.int .u8 v.f0)).setCell ⟨N, 1, none⟩ (.string v.f1)).setCell ⟨N, 2, none⟩ (.slice A2 v.f2.length c2)).setCell ⟨N, 3, none⟩ (.slice A3 v.f3.length c3)) ⟨N + 1, 0, none⟩ (.int .i64 0) (N + 1 + 1) (show N + 1 + 1 ≠ N + 1 by omega)).trans ((put4_far (show N + 1 + 1 ≠ N by omega) (.int .u8 v.f0) (.string v.f1) (.slice A2 v.f2.length c2) (.slice A3 v.f3.length c3)).trans h2)) 0 (.int .i64 0) rfl
  have kb := ((((((hb.setCell (p := ⟨N, 0, none⟩) (by show w.heap.size ≤ N; omega) (.int .u8 v.f0)).setCell (p := ⟨N, 1, none⟩) (by show w.heap.size ≤ N; omega) (.string v.f1)).setCell (p := ⟨N, 2, none⟩) (by show w.heap.size ≤ N; omega) (.slice A2 v.f2.length c2)).setCell (p := ⟨N, 3, none⟩) (by show w.heap.size ≤ N; omega) (.slice A3 v.f3.length c3)).setCell (p := ⟨N + 1, 0, none⟩) (by show w.heap.size ≤ N + 1; omega) (.int .i64 0)).setCell (p := ⟨N + 1 + 1, 0, none⟩) (by show w.heap.size ≤ N + 1 + 1; omega) (.int .i64 0))
  have far : ∀ k, N + 4 ≤ k → (((((((w3.setCell ⟨N, 0, none⟩ (.int .u8 v.f0)).setCell ⟨N, 1, none⟩ (.string v.f1)).setCell ⟨N, 2, none⟩ (.slice A2 v.f2.length c2)).setCell ⟨N, 3, none⟩ (.slice A3 v.f3.length c3)).setCell ⟨N + 1, 0, none⟩ (.int .i64 0)).setCell ⟨N + 1 + 1, 0, none⟩ (.int .i64 0))).heap[k]? = w3.heap[k]? := fun k hk => (Below.heap_setCell _ _ _ _ (show k ≠ N + 1 + 1 by omega)).trans ((Below.heap_setCell _ _ _ _ (show k ≠ N + 1 by omega)).trans (put4_far (show k ≠ N by omega) _ _ _ _))
  have r2 := rk hv2 (fun k hk _ => far k hk)
  have r3 := rk hv3 (fun k hk _ => far k hk)
  clear far h0 h1 h2 hv2 hv3 hb; generalize ((((((w3.setCell ⟨N, 0, none⟩ (.int .u8 v.f0)).setCell ⟨N, 1, none⟩ (.string v.f1)).setCell ⟨N, 2, none⟩ (.slice A2 v.f2.length c2)).setCell ⟨N, 3, none⟩ (.slice A3 v.f3.length c3)).setCell ⟨N + 1, 0, none⟩ (.int .i64 0)).setCell ⟨N + 1 + 1, 0, none⟩ (.int .i64 0)) = Wf at k0 k1 k2 kb r2 r3 ⊢
  refine leaves_cons (f := 12) (args := #[.pointer (some ⟨N, 0, none⟩), .pointer (some ⟨N + 1, 0, none⟩), .pointer (some ⟨N + 1 + 1, 0, none⟩)]) (by simp) (by simp [go_sem]) ?_
  refine (json_Parse_1.idle ⟨N, 0, none⟩ ⟨N + 1, 0, none⟩ ⟨N + 1 + 1, 0, none⟩ Wf).mono ?_
  rintro e u' w'' ⟨rfl, rfl, rfl⟩
  have g0 := blk_cell k0 0
  have g1 := blk_cell k0 1
  have g2 := blk_cell k0 2
  have g3 := blk_cell k0 3
  have g4 := blk_cell k1 0
  have g5 := blk_cell k2 0
  refine ⟨.tuple #[.agg #[.int .u8 v.f0, .string v.f1, .slice A2 v.f2.length c2, .slice A3 v.f3.length c3], .int .i64 0, .int .i64 0], ?_, ?_⟩
  · simp [results, Tryd.results7, go_sem, g0, g1, g2, g3, g4, g5, ht2, ht3, ht4]
  · unfold ParseO
    rw [hp]
    exact ⟨_, _, rfl, Kd.R_lower r2 (by omega), Kd.R_lower r3 (by omega), kb⟩
set_option maxRecDepth 100000 in
set_option maxHeartbeats 2000000 in
theorem json_Parse.short (s : ByteArray) (w : World) (hG : GlobOk w) (h : ¬ 262144 < s.size) : Calls Tryd.prog 7 #[.string s] w (ParseO s w) := by
  have t1 : decide ((262144 : Int) < (s.size : Int)) = false := decide_eq_false (by omega)
  have hs : s.size ≤ 262144 := by omega
  have hsz : s.size ≤ 140737488351232 := by omega
  obtain ⟨W1, hW1⟩ : ∃ W1, W1 = (((w.alloc (.cells #[.int .u8 0, .string ⟨#[]⟩, .slice none 0 0, .slice none 0 0] 25 (0, 0))).alloc (.cells #[.int .i64 0] 3 (0, 0))).alloc (.cells #[.int .i64 0] 26 (0, 0))).alloc (.cells #[.string s, .int .i64 0] 45 (0, 0)) := ⟨_, rfl⟩
  obtain ⟨N, hN⟩ : ∃ N, N = w.heap.size := ⟨_, rfl⟩
  have hx0 : W1.heap[N]? = some (.cells #[.int .u8 0, .string ⟨#[]⟩, .slice none 0 0, .slice none 0 0] 25 (0, 0)) := by rw [hW1, hN]; exact blk_alloc (blk_alloc (blk_alloc (blk_new w _) _) _) _
  have hx1 : W1.heap[N + 1]? = some (.cells #[.int .i64 0] 3 (0, 0)) := by
    rw [hW1, hN]
    have h := blk_alloc (blk_alloc (blk_new (w.alloc (.cells #[.int .u8 0, .string ⟨#[]⟩, .slice none 0 0, .slice none 0 0] 25 (0, 0))) (.cells #[.int .i64 0] 3 (0, 0))) (.cells #[.int .i64 0] 26 (0, 0))) (.cells #[.string s, .int .i64 0] 45 (0, 0))
    simpa using h
  have hx2 : W1.heap[N + 1 + 1]? = some (.cells #[.int .i64 0] 26 (0, 0)) := by
    rw [hW1, hN]
    have h := blk_alloc (blk_new ((w.alloc (.cells #[.int .u8 0, .string ⟨#[]⟩, .slice none 0 0, .slice none 0 0] 25 (0, 0))).alloc (.cells #[.int .i64 0] 3 (0, 0))) (.cells #[.int .i64 0] 26 (0, 0))) (.cells #[.string s, .int .i64 0] 45 (0, 0))
    simpa using h
  have hx3 : Rdr (N + 1 + 1 + 1) s 0 W1 := by
    unfold Rdr
    rw [hW1, hN]
    have h := blk_new (((w.alloc (.cells #[.int .u8 0, .string ⟨#[]⟩, .slice none 0 0, .slice none 0 0] 25 (0, 0))).alloc (.cells #[.int .i64 0] 3 (0, 0))).alloc (.cells #[.int .i64 0] 26 (0, 0))) (.cells #[.string s, .int .i64 0] 45 (0, 0))
    simpa using h
  have hb1 : Below w.heap.size w W1 := by rw [hW1]; exact below_alloc (below_alloc (below_alloc (below_alloc (Below.refl _ _) _) _) _) _
  have hmf : ∀ (fn : Fn) (first cap : Array Value) (w : World), (Instr.makeFunc fn first cap).run Tryd.prog w = .ok (.func fn first cap) w := fun _ _ _ _ => rfl
  have HX0 := Aside0.mk hx0; have HX1 := Aside0.mk hx1; have HX2 := Aside0.mk hx2; have HR := Aside0.mk hx3; have HB := Aside0.mk hb1; have HW := Aside0.mk hW1; have HNw := Aside0.mk hN; have HF := Aside0.mk (hG.free (B := N + 1 + 1 + 1) (by omega))
  have HG := Aside0.mk (hG.below hb1)
  have HS := Aside0.mk h; clear hx0 hx1 hx2 hx3 hb1 hW1 h hG; go_enter_defers Tryd.func7, Tryd.ntmps7
  go_upto_region 5 with (fail)
  rw [← HW.out, ← hN]
  clear hN; have hV := json_reader_value.ok s hs 64 (by decide)
  rw [show (65 : Int) - ((64 : Nat) : Int) = 1 from rfl] at hV
  have HV := Aside0.mk hV; have hj0 : skip isBl s 0 ≤ s.size := skip_in (Nat.zero_le _)
  clear hV; cases hv : pval s 64 (skip isBl s 0) with
  | bad k c =>
    have HPB := Aside0.mk (show parse s = .bad k c by unfold parse; rw [hv]; rfl)
    have HPV := Aside0.mk hv; clear hv; go_wp2_with (first | (go_at_call 13; refine (json_reader_blanks.calls (N + 1 + 1 + 1) s 0 W1 HR.out hsz (Nat.zero_le _)).mono ?_; rintro e w1 ⟨rfl, hr, hk⟩; have HR1 := Aside0.mk hr; have HK1 := Aside0.mk hk; clear hr hk) | (go_at_call 14; refine (HV.out (N + 1 + 1 + 1) (skip isBl s 0) w1 HR1.out hj0 (HG.out.kept HF.out HK1.out.block) HF.out).mono ?_; intro e w2 ho; rw [HPV.out] at ho; obtain ⟨rfl, hk⟩ := ho.bad_; have HK2 := Aside0.mk (HK1.out.trans hk); clear ho hk))
    have hNw := HNw.out
    have hY0 := (HK2.out.block N (blk_lt HX0.out) (by omega)).trans HX0.out
    have hY1 := (HK2.out.block (N + 1) (blk_lt HX1.out) (by omega)).trans HX1.out
    have hY2 := (HK2.out.block (N + 1 + 1) (blk_lt HX2.out) (by omega)).trans HX2.out
    have hb : Below w.heap.size w w2 := Kp.belowN HB.out HK2.out (by omega)
    exact door_bad HS.out HPB.out hNw hb hY0 hY1 hY2 rfl rfl rfl
  | ok v j =>
    have HPV := Aside0.mk hv; have hpo : parse s = if skip isBl s j < s.size then .bad (skip isBl s j) 30 else .ok v 0 := by unfold parse; rw [hv]; rfl
    have HPO := Aside0.mk hpo; clear hv hpo; go_upto_region 7 with (first | (go_at_call 13; refine (json_reader_blanks.calls (N + 1 + 1 + 1) s 0 W1 HR.out hsz (Nat.zero_le _)).mono ?_; rintro e w1 ⟨rfl, hr, hk⟩; have HR1 := Aside0.mk hr; have HK1 := Aside0.mk hk; clear hr hk) | (go_at_call 14; refine (HV.out (N + 1 + 1 + 1) (skip isBl s 0) w1 HR1.out hj0 (HG.out.kept HF.out HK1.out.block) HF.out).mono ?_; intro e w2 ho; rw [HPV.out] at ho; obtain ⟨x, rfl, ⟨v2, v3, rfl, hr2, hr3⟩, hjs, hr, hk⟩ := ho.ok_; have HS1 := Aside0.mk HK1.out.size; have HK2 := Aside0.mk (HK1.out.trans hk); have HR2 := Aside0.mk hr; have HV2 := Aside0.mk hr2; have HV3 := Aside0.mk hr3; obtain ⟨A2, c2, rfl⟩ := Kd.R_slice hr2; obtain ⟨A3, c3, rfl⟩ := Kd.R_slice hr3; clear ho hk hr hr2 hr3; have HY0 := Aside0.mk ((HK2.out.block N (blk_lt HX0.out) (by omega)).trans HX0.out); have e0 := blk_cell HY0.out 0; have e1 := blk_cell HY0.out 1; have e2 := blk_cell HY0.out 2; have e3 := blk_cell HY0.out 3; have f0 := blk_frozen HY0.out 0; have f1 := blk_frozen HY0.out 1; have f2 := blk_frozen HY0.out 2; have f3 := blk_frozen HY0.out 3))
    have hNw := HNw.out
    have hYv := put4 HY0.out (.int .u8 v.f0) (.string v.f1) (.slice A2 v.f2.length c2) (.slice A3 v.f3.length c3)
    have hY1 := (put4_far (show N + 1 ≠ N by omega) (.int .u8 v.f0) (.string v.f1) (.slice A2 v.f2.length c2) (.slice A3 v.f3.length c3)).trans ((HK2.out.block (N + 1) (blk_lt HX1.out) (by omega)).trans HX1.out)
    have hY2 := (put4_far (show N + 1 + 1 ≠ N by omega) (.int .u8 v.f0) (.string v.f1) (.slice A2 v.f2.length c2) (.slice A3 v.f3.length c3)).trans ((HK2.out.block (N + 1 + 1) (blk_lt HX2.out) (by omega)).trans HX2.out)
    have hRv : Rdr (N + 1 + 1 + 1) s j (((((w2.setCell ⟨N, 0, none⟩ (.int .u8 v.f0)).setCell ⟨N, 1, none⟩ (.string v.f1)).setCell ⟨N, 2, none⟩ (.slice A2 v.f2.length c2)).setCell ⟨N, 3, none⟩ (.slice A3 v.f3.length c3))) := (put4_far (show N + 1 + 1 + 1 ≠ N by omega) (.int .u8 v.f0) (.string v.f1) (.slice A2 v.f2.length c2) (.slice A3 v.f3.length c3)).trans HR2.out
    have hb2 : Below w.heap.size w w2 := Kp.belowN HB.out HK2.out (by omega)
    have hbv : Below w.heap.size w (((((w2.setCell ⟨N, 0, none⟩ (.int .u8 v.f0)).setCell ⟨N, 1, none⟩ (.string v.f1)).setCell ⟨N, 2, none⟩ (.slice A2 v.f2.length c2)).setCell ⟨N, 3, none⟩ (.slice A3 v.f3.length c3))) := (((hb2.setCell (p := ⟨N, 0, none⟩) (by show w.heap.size ≤ N; omega) _).setCell (p := ⟨N, 1, none⟩) (by show w.heap.size ≤ N; omega) _).setCell (p := ⟨N, 2, none⟩) (by show w.heap.size ≤ N; omega) _).setCell (p := ⟨N, 3, none⟩) (by show w.heap.size ≤ N; omega) _
    have hNl : N + 1 + 1 + 1 < w1.heap.size := HR1.out.lt
    have hv2 : Kd.R k25 25 (((((w2.setCell ⟨N, 0, none⟩ (.int .u8 v.f0)).setCell ⟨N, 1, none⟩ (.string v.f1)).setCell ⟨N, 2, none⟩ (.slice A2 v.f2.length c2)).setCell ⟨N, 3, none⟩ (.slice A3 v.f3.length c3))) (N + 4) (fun _ => True) (.slice A2 v.f2.length c2) v.f2 := Kd.R_lower (rk HV2.out (fun k hk _ => put4_far (by omega) _ _ _ _)) (by omega)
    have hv3 : Kd.R k38 38 (((((w2.setCell ⟨N, 0, none⟩ (.int .u8 v.f0)).setCell ⟨N, 1, none⟩ (.string v.f1)).setCell ⟨N, 2, none⟩ (.slice A2 v.f2.length c2)).setCell ⟨N, 3, none⟩ (.slice A3 v.f3.length c3))) (N + 4) (fun _ => True) (.slice A3 v.f3.length c3) v.f3 := Kd.R_lower (rk HV3.out (fun k hk _ => put4_far (by omega) _ _ _ _)) (by omega)
    clear e0 e1 e2 e3 f0 f1 f2 f3; generalize ((((w2.setCell ⟨N, 0, none⟩ (.int .u8 v.f0)).setCell ⟨N, 1, none⟩ (.string v.f1)).setCell ⟨N, 2, none⟩ (.slice A2 v.f2.length c2)).setCell ⟨N, 3, none⟩ (.slice A3 v.f3.length c3)) = Wv at hYv hY1 hY2 hRv hbv hv2 hv3 ⊢
    have HYv := Aside0.mk hYv; have HY1 := Aside0.mk hY1; have HY2 := Aside0.mk hY2; have HRv := Aside0.mk hRv; have HBv := Aside0.mk hbv; have HV2' := Aside0.mk hv2; have HV3' := Aside0.mk hv3; clear hYv hY1 hY2 hRv hbv hv2 hv3 hNw hb2 hNl; go_upto_region 8 with (first | (go_at_call 13; refine (json_reader_blanks.calls (N + 1 + 1 + 1) s j Wv HRv.out hsz hjs).mono ?_; rintro e w3 ⟨rfl, hr, hk⟩; have HR3 := Aside0.mk hr; have HK3 := Aside0.mk hk; clear hr hk))
    have hZ0 := (HK3.out.block N (blk_lt HYv.out) (by omega)).trans HYv.out
    have hZ1 := (HK3.out.block (N + 1) (blk_lt HY1.out) (by omega)).trans HY1.out
    have hZ2 := (HK3.out.block (N + 1 + 1) (blk_lt HY2.out) (by omega)).trans HY2.out
    have HZ0 := Aside0.mk hZ0; have HZ1 := Aside0.mk hZ1; have HZ2 := Aside0.mk hZ2; have HB3 := Aside0.mk (show Below w.heap.size w w3 from Kp.belowN HBv.out HK3.out (by have := HNw.out; omega))
    have c1 := HR3.out.c1
    clear hZ0 hZ1 hZ2; by_cases hlt : skip isBl s j < s.size
    · have t2 : decide (skip isBl s j < s.size) = true := decide_eq_true hlt
      have HPB := Aside0.mk (show parse s = .bad (skip isBl s j) 30 by rw [HPO.out, if_pos hlt])
      clear hlt; go_wp2_with (go_at_call 15; refine (json_reader_stop.calls (N + 1 + 1 + 1) s (skip isBl s j) _ HR3.out).mono ?_; rintro e w4 ⟨rfl, rfl⟩)
      exact door_bad HS.out HPB.out HNw.out HB3.out HZ0.out HZ1.out HZ2.out rfl rfl rfl
    · have t2 : decide (skip isBl s j < s.size) = false := decide_eq_false hlt
      have HPB := Aside0.mk (show parse s = .ok v 0 by rw [HPO.out, if_neg hlt])
      have e0 := blk_cell HZ0.out 0
      have e1 := blk_cell HZ0.out 1
      have e2 := blk_cell HZ0.out 2
      have e3 := blk_cell HZ0.out 3
      have f0 := blk_frozen HZ0.out 0
      have f1 := blk_frozen HZ0.out 1
      have f2 := blk_frozen HZ0.out 2
      have f3 := blk_frozen HZ0.out 3
      have e4 := blk_cell HZ1.out 0
      have f4 := blk_frozen HZ1.out 0
      have e5 := blk_cell HZ2.out 0
      have f5 := blk_frozen HZ2.out 0
      clear hlt; go_wp2
      exact door_ok HS.out HPB.out HNw.out HB3.out HZ0.out HZ1.out HZ2.out (rkp HV2'.out HK3.out (by omega)) (rkp HV3'.out HK3.out (by omega)) rfl rfl rfl
theorem json_Parse.calls (s : ByteArray) (w : World) (hG : GlobOk w) : Calls Tryd.prog 7 #[.string s] w (ParseO s w) := by
  by_cases h : 262144 < s.size
  · exact json_Parse.long s w h
  · exact json_Parse.short s w hG h
/-- Behind these bytes no number goes on, and no escape. -/
def NumStop (x : Nat) : Prop := isDig x = false ∧ x ≠ 46 ∧ x ≠ 101 ∧ x ≠ 69 ∧ x ≠ 92 ∧ x ≠ 117 ∧ hexv x = none
/-- k bytes of s from a on stand in t from b on; what stands behind them there ends a number. -/
structure Sub (s t : ByteArray) (a b k : Nat) : Prop where
  same : ∀ q, q < k → hnd t (b + q) = hnd s (a + q)
  from_ : a + k ≤ s.size
  fits : b + k ≤ t.size
  stop : NumStop (hnd t (b + k))
theorem skip_spec (p : Nat → Bool) (s : ByteArray) : ∀ (n i : Nat), s.size - i = n → (∀ q, i ≤ q → q < skip p s i → p (hnd s q) = true) ∧ ¬ (skip p s i < s.size ∧ p (hnd s (skip p s i)) = true) := by
  intro n
  induction n with
  | zero =>
    intro i h
    rw [skip_no (fun c => by omega)]
    exact ⟨fun q h1 h2 => by omega, fun c => by omega⟩
  | succ n ih =>
    intro i h
    by_cases c : i < s.size ∧ p (hnd s i) = true
    · rw [skip_yes c.1 c.2]
      have := ih (i + 1) (by omega)
      refine ⟨fun q h1 h2 => ?_, this.2⟩
      by_cases hq : q = i
      · rw [hq]; exact c.2
      · exact this.1 q (by omega) h2
    · rw [skip_no c]
      exact ⟨fun q h1 h2 => by omega, c⟩
theorem hnd_out {s : ByteArray} {i : Nat} (h : ¬ i < s.size) : hnd s i = 0 := by unfold hnd; rw [dif_neg h]
theorem skip_to {p : Nat → Bool} (h0 : p 0 = false) {s : ByteArray} : ∀ (n i m : Nat), m - i = n → i ≤ m → (∀ q, i ≤ q → q < m → p (hnd s q) = true) → p (hnd s m) = false → skip p s i = m := by
  intro n
  induction n with
  | zero =>
    intro i m h1 h2 _ h4
    obtain rfl : i = m := by omega
    exact skip_no (fun c => by rw [h4] at c; exact absurd c.2 (by decide))
  | succ n ih =>
    intro i m h1 h2 h3 h4
    have hp := h3 i (Nat.le_refl _) (by omega)
    have hi : i < s.size := by
      by_cases c : i < s.size
      · exact c
      · rw [hnd_out c, h0] at hp; cases hp
    rw [skip_yes hi hp]
    exact ih (i + 1) m (by omega) (by omega) (fun q h5 h6 => h3 q (by omega) h6) h4
theorem skip_end {p : Nat → Bool} (h0 : p 0 = false) (s : ByteArray) (i : Nat) : p (hnd s (skip p s i)) = false := by
  have h := (skip_spec p s _ i rfl).2
  by_cases c : skip p s i < s.size
  · cases hp : p (hnd s (skip p s i)) with
    | false => rfl
    | true => exact absurd ⟨c, hp⟩ h
  · rw [hnd_out c]; exact h0
theorem skip_sub {p : Nat → Bool} (h0 : p 0 = false) {s t : ByteArray} {a b k i m : Nat} (hS : Sub s t a b k) (h : skip p s (a + i) = a + m) (hm : m < k ∨ m = k ∧ p (hnd t (b + k)) = false) : skip p t (b + i) = b + m := by
  have hge := skip_ge (p := p) s (a + i)
  have hsp := (skip_spec p s _ (a + i) rfl).1
  have hen := skip_end h0 s (a + i)
  rw [h] at hge hsp hen
  refine skip_to h0 _ _ _ rfl (by omega) (fun q h1 h2 => ?_) ?_
  · obtain ⟨q', rfl⟩ : ∃ q', q = b + q' := ⟨q - b, by omega⟩
    rw [hS.same q' (by omega)]
    exact hsp (a + q') (by omega) (by omega)
  · rcases hm with hm | ⟨rfl, hm⟩
    · rw [hS.same m hm]; exact hen
    · exact hm
theorem bl0 : isBl 0 = false := by decide
theorem dig0 : isDig 0 = false := by decide
theorem wd_sub {s t : ByteArray} {a b k : Nat} (hS : Sub s t a b k) : ∀ (l : List Nat) (i j : Nat), wd s l (a + i) = .ok () (a + j) → j ≤ k → wd t l (b + i) = .ok () (b + j) := by
  intro l
  induction l with
  | nil => intro i j h _; injection h with _ h; obtain rfl : i = j := by omega
           rfl
  | cons c r ih =>
    intro i j h hj
    have hl := wd_lt h
    rw [List.length_cons] at hl
    rw [wd_cons] at h ⊢
    split at h
    · rename_i hc
      rw [if_pos ((hS.same i (by omega)).trans hc)]
      exact ih (i + 1) j h hj
    · cases h
theorem digits_sub {s t : ByteArray} {a b k i j : Nat} (hS : Sub s t a b k) (h : digits s (a + i) = .ok () (a + j)) (hj : j ≤ k) : digits t (b + i) = .ok () (b + j) := by
  have hlt := digits_lt h
  unfold digits at h ⊢
  split at h
  · rename_i hd
    injection h with _ h
    rw [if_pos (by rw [hS.same i (by omega)]; exact hd)]
    congr 1
    refine skip_sub dig0 hS h ?_
    by_cases c : j < k
    · exact .inl c
    · exact .inr ⟨by omega, hS.stop.1⟩
  · cases h
theorem nE_sub {s t : ByteArray} {a b k i j : Nat} (hS : Sub s t a b k) (h : nE s (a + i) = .ok () (a + j)) (hj : j ≤ k) : nE t (b + i) = .ok () (b + j) := by
  have hle := nE_le h
  unfold nE at h ⊢
  split at h
  · rename_i hd
    have hlt := digits_lt h
    have hik : i < k := by split at hlt <;> omega
    rw [hS.same i hik, if_pos hd]
    have hs1 : i + 1 < k := by split at hlt <;> omega
    rw [show b + i + 1 = b + (i + 1) by omega, hS.same (i + 1) hs1]
    rw [show a + i + 1 = a + (i + 1) by omega] at h
    split at h
    · rename_i h2
      rw [if_pos h2]
      rw [show a + i + 2 = a + (i + 2) by omega] at h
      rw [show b + i + 2 = b + (i + 2) by omega]
      exact digits_sub hS h hj
    · rename_i h2
      rw [if_neg h2]
      exact digits_sub hS h hj
  · rename_i hd
    injection h with _ h
    obtain rfl : i = j := by omega
    rw [if_neg ?_]
    by_cases c : i < k
    · rw [hS.same i c]; exact hd
    · obtain rfl : i = k := by omega
      have := hS.stop
      exact fun h => h.elim this.2.2.1 this.2.2.2.1
theorem nD_sub {s t : ByteArray} {a b k i j : Nat} (hS : Sub s t a b k) (h : nD s (a + i) = .ok () (a + j)) (hj : j ≤ k) : nD t (b + i) = .ok () (b + j) := by
  have hle := nD_le h
  unfold nD at h ⊢
  split at h
  · rename_i hd
    cases hg : digits s (a + i + 1) with
    | bad m c => rw [hg] at h; cases h
    | ok u m =>
      rw [hg] at h
      have h1 := digits_lt (show digits s (a + i + 1) = .ok () m from hg)
      have h2 := nE_le (show nE s m = .ok () (a + j) from h)
      obtain ⟨m', rfl⟩ : ∃ m', m = a + m' := ⟨m - a, by omega⟩
      rw [hS.same i (by omega), if_pos hd, show b + i + 1 = b + (i + 1) by omega, digits_sub hS (show digits s (a + (i + 1)) = .ok () (a + m') from hg) (by omega)]
      exact nE_sub hS (show nE s (a + m') = .ok () (a + j) from h) hj
  · rename_i hd
    have h' := nE_sub hS (show nE s (a + i) = .ok () (a + j) from h) hj
    rw [if_neg ?_]
    · exact h'
    · by_cases c : i < k
      · rw [hS.same i c]; exact hd
      · obtain rfl : i = k := by omega
        exact hS.stop.2.1
theorem nI_lt {s : ByteArray} {m j : Nat} (h : nI s m = .ok () j) : m < j := by
  unfold nI at h
  split at h
  · have h2 := nD_le (show nD s (m + 1) = .ok () j from h); omega
  · cases hd : digits s m with
    | bad k c => rw [hd] at h; cases h
    | ok u k => rw [hd] at h; have h1 := digits_lt (show digits s m = .ok () k from hd); have h2 := nD_le (show nD s k = .ok () j from h); omega
theorem nI_sub {s t : ByteArray} {a b k i j : Nat} (hS : Sub s t a b k) (h : nI s (a + i) = .ok () (a + j)) (hj : j ≤ k) : nI t (b + i) = .ok () (b + j) := by
  have hlt := nI_lt h
  unfold nI at h ⊢
  rw [hS.same i (by omega)]
  split at h
  · rename_i hd
    rw [if_pos hd]
    exact nD_sub (i := i + 1) hS h hj
  · rename_i hd
    rw [if_neg hd]
    cases hg : digits s (a + i) with
    | bad m c => rw [hg] at h; cases h
    | ok u m =>
      rw [hg] at h
      have h1 := digits_lt (show digits s (a + i) = .ok () m from hg)
      have h2 := nD_le (show nD s m = .ok () (a + j) from h)
      obtain ⟨m', rfl⟩ : ∃ m', m = a + m' := ⟨m - a, by omega⟩
      rw [digits_sub hS (show digits s (a + i) = .ok () (a + m') from hg) (by omega)]
      exact nD_sub hS (show nD s (a + m') = .ok () (a + j) from h) hj
theorem number_sub {s t : ByteArray} {a b k i j : Nat} (hS : Sub s t a b k) (h : number s (a + i) = .ok () (a + j)) (hj : j ≤ k) : number t (b + i) = .ok () (b + j) := by
  have hlt := number_lt h
  unfold number at h ⊢
  rw [hS.same i (by omega)]
  split at h
  · rename_i hd
    rw [if_pos hd]
    exact nI_sub (i := i + 1) hS h hj
  · rename_i hd
    rw [if_neg hd]
    exact nI_sub hS h hj
theorem hexN_sub {s t : ByteArray} {a b k : Nat} (hS : Sub s t a b k) : ∀ (n i m v j : Nat), hexN s n (a + i) m = .ok v (a + j) → j ≤ k → hexN t n (b + i) m = .ok v (b + j) ∧ j = i + n := by
  intro n
  induction n with
  | zero => intro i m v j h hj; simp only [hexN] at h ⊢; injection h with h1 h2; subst h1; obtain rfl : i = j := by omega
            exact ⟨rfl, rfl⟩
  | succ n ih =>
    intro i m v j h hj
    have key : ∀ (n i m v j : Nat), hexN s n i m = .ok v j → j = i + n := by
      intro n
      induction n with
      | zero => intro i m v j h; simp only [hexN] at h; injection h with _ h; omega
      | succ n ih =>
        intro i m v j h
        rw [hexN] at h
        cases hv : hexv (hnd s i) with
        | none => rw [hv] at h; cases h
        | some d => rw [hv] at h; have := ih _ _ _ _ h; omega
    have hk := key _ _ _ _ _ h
    rw [hexN] at h ⊢
    rw [hS.same i (by omega)]
    cases hv : hexv (hnd s (a + i)) with
    | none => rw [hv] at h; cases h
    | some d =>
      rw [hv] at h
      have h2 := ih (i + 1) _ v j h hj
      exact ⟨h2.1, by omega⟩
theorem unit_sub {s t : ByteArray} {a b k i v j : Nat} (hS : Sub s t a b k) (h : unit s (a + i) = .ok v (a + j)) (hj : j ≤ k) : unit t (b + i) = .ok v (b + j) := by
  have hlt := (unit_lt h).2
  unfold unit at h ⊢
  rw [hS.same i (by omega)]
  split at h
  · rename_i hd
    rw [if_pos hd]
    exact (hexN_sub hS 4 (i + 1) 0 v j h hj).1
  · cases h
theorem get_hnd (s : ByteArray) (i : Nat) : (s.get! i).toNat = hnd s i := by
  cases s with
  | mk d =>
    unfold hnd
    by_cases h : i < d.size
    · rw [dif_pos (show i < (⟨d⟩ : ByteArray).size from h)]
      show (d[i]!).toNat = (d[i]).toNat
      rw [getElem!_pos d i h]
    · rw [dif_neg (show ¬ i < (⟨d⟩ : ByteArray).size from h)]
      show (d[i]!).toNat = 0
      rw [getElem!_neg d i h]
      rfl
theorem dN_full (n b0 b1 b2 b3 : Nat) (h1 : ¬ 1 < n → b1 = 0) (h2 : ¬ 2 < n → b2 = 0) (h3 : ¬ 3 < n → b3 = 0) : Lib.decodeN n b0 b1 b2 b3 = Lib.decodeN 4 b0 b1 b2 b3 := by
  have e1 : (1 < n ∧ b1 / 64 = 2) = (1 < 4 ∧ b1 / 64 = 2) := propext ⟨fun h => ⟨by decide, h.2⟩, fun h => ⟨by by_cases c : 1 < n; exact c; have := h1 c; omega, h.2⟩⟩
  have e2 : (2 < n ∧ b2 / 64 = 2) = (2 < 4 ∧ b2 / 64 = 2) := propext ⟨fun h => ⟨by decide, h.2⟩, fun h => ⟨by by_cases c : 2 < n; exact c; have := h2 c; omega, h.2⟩⟩
  have e3 : (3 < n ∧ b3 / 64 = 2) = (3 < 4 ∧ b3 / 64 = 2) := propext ⟨fun h => ⟨by decide, h.2⟩, fun h => ⟨by by_cases c : 3 < n; exact c; have := h3 c; omega, h.2⟩⟩
  unfold Lib.decodeN
  simp only [e1, e2, e3]
theorem dec_hnd (s : ByteArray) (i : Nat) : Utf8.decode s i = Lib.decodeN 4 (hnd s i) (hnd s (i + 1)) (hnd s (i + 2)) (hnd s (i + 3)) := by
  rw [Lib.decode_at, get_hnd, get_hnd, get_hnd, get_hnd]
  exact dN_full _ _ _ _ _ (fun h => hnd_out (by omega)) (fun h => hnd_out (by omega)) (fun h => hnd_out (by omega))
theorem dN_same {b0 b1 b2 b3 c0 c1 c2 c3 r z : Nat} (h : Lib.decodeN 4 b0 b1 b2 b3 = (r, z)) (hn : ¬ (r = 65533 ∧ z = 1)) (h0 : c0 = b0) (h1 : 2 ≤ z → c1 = b1) (h2 : 3 ≤ z → c2 = b2) (h3 : 4 ≤ z → c3 = b3) : Lib.decodeN 4 c0 c1 c2 c3 = (r, z) := by
  subst h0; unfold Lib.decodeN at h
  split at h
  · rename_i a1
    injection h with e1 e2
    subst e1 e2
    unfold Lib.decodeN
    rw [if_pos a1]
  · rename_i a1
    split at h
    · rename_i a2
      split at h
      · rename_i a3
        injection h with e1 e2
        subst e1 e2
        obtain rfl := h1 (by omega)
        unfold Lib.decodeN
        rw [if_neg a1, if_pos a2, if_pos a3]
      · injection h with e1 e2
        exact absurd ⟨e1.symm, e2.symm⟩ hn
    · rename_i a2
      split at h
      · rename_i a3
        split at h
        · rename_i a4
          injection h with e1 e2
          subst e1 e2
          obtain rfl := h1 (by omega)
          obtain rfl := h2 (by omega)
          unfold Lib.decodeN
          rw [if_neg a1, if_neg a2, if_pos a3, if_pos a4]
        · injection h with e1 e2
          exact absurd ⟨e1.symm, e2.symm⟩ hn
      · rename_i a3
        split at h
        · rename_i a4
          split at h
          · rename_i a5
            injection h with e1 e2
            subst e1 e2
            obtain rfl := h1 (by omega)
            obtain rfl := h2 (by omega)
            obtain rfl := h3 (by omega)
            unfold Lib.decodeN
            rw [if_neg a1, if_neg a2, if_neg a3, if_pos a4, if_pos a5]
          · injection h with e1 e2
            exact absurd ⟨e1.symm, e2.symm⟩ hn
        · injection h with e1 e2
          exact absurd ⟨e1.symm, e2.symm⟩ hn
theorem nxt_sub {s t : ByteArray} {a b k i z : Nat} (hS : Sub s t a b k) (h : nxt s (a + i) = some z) (hj : i + z ≤ k) (hz : 0 < z) : nxt t (b + i) = some z := by
  unfold nxt at h ⊢
  split at h
  · cases h
  · rename_i hn
    injection h with h
    have hd := dec_hnd s (a + i)
    have hp : Utf8.decode s (a + i) = ((Utf8.decode s (a + i)).1, z) := by rw [← h]
    rw [hp] at hn hd
    have ht : Utf8.decode t (b + i) = ((Utf8.decode s (a + i)).1, z) := by
      rw [dec_hnd]
      refine dN_same hd.symm hn (hS.same i (by omega)) (fun c => ?_) (fun c => ?_) (fun c => ?_)
      · exact hS.same (i + 1) (by omega)
      · exact hS.same (i + 2) (by omega)
      · exact hS.same (i + 3) (by omega)
    rw [ht, if_neg hn]
theorem nxt_pos {s : ByteArray} {i z : Nat} (h : nxt s i = some z) : 0 < z := by
  unfold nxt at h
  split at h
  · cases h
  · injection h with h
    subst h; rw [dec_hnd]
    unfold Lib.decodeN
    repeat' split
    all_goals simp
theorem hnd_eq {s : ByteArray} {i : Nat} (h : i < s.size) : hnd s i = s[i].toNat := by unfold hnd; rw [dif_pos h]
theorem cut_same {s t : ByteArray} {a b k i z : Nat} (hS : Sub s t a b k) (hj : i + z ≤ k) : t.extract (b + i) (b + i + z) = s.extract (a + i) (a + i + z) := by
  have h1 := hS.from_
  have h2 := hS.fits
  apply ByteArray.ext
  apply Array.ext
  · show (t.extract (b + i) (b + i + z)).size = (s.extract (a + i) (a + i + z)).size
    rw [ByteArray.size_extract, ByteArray.size_extract]; omega
  · intro q hq1 hq2
    have hq : q < z := by
      have : q < (t.extract (b + i) (b + i + z)).size := hq1
      rw [ByteArray.size_extract] at this
      omega
    show (t.extract (b + i) (b + i + z))[q] = (s.extract (a + i) (a + i + z))[q]
    rw [ByteArray.getElem_extract, ByteArray.getElem_extract]
    apply UInt8.toNat_inj.1
    have := hS.same (i + q) (by omega)
    rw [hnd_eq (by omega), hnd_eq (by omega)] at this
    simpa [Nat.add_assoc] using this
theorem cut_list (s : ByteArray) : ∀ (n i : Nat), i + n ≤ s.size → (s.extract i (i + n)).data.toList.map UInt8.toNat = (List.range' i n).map (hnd s) := by
  intro n i h
  apply List.ext_getElem
  · have : (s.extract i (i + n)).data.toList.length = (s.extract i (i + n)).size := rfl
    rw [List.length_map, List.length_map, List.length_range', this, ByteArray.size_extract]
    omega
  · intro q h1 h2
    rw [List.getElem_map, List.getElem_map, List.getElem_range', Nat.one_mul]
    have hq : q < n := by rw [List.length_map, List.length_range'] at h2; exact h2
    rw [hnd_eq (by omega)]
    congr 1
    have h3 : q < (s.extract i (i + n)).size := by rw [ByteArray.size_extract]; omega
    show (s.extract i (i + n))[q] = s[i + q]
    rw [ByteArray.getElem_extract]
theorem map_inj {l m : List UInt8} (h : l.map UInt8.toNat = m.map UInt8.toNat) : l = m := by
  induction l generalizing m with
  | nil => cases m with
    | nil => rfl
    | cons c r => cases h
  | cons c r ih => cases m with
    | nil => cases h
    | cons d q =>
      simp only [List.map_cons, List.cons.injEq] at h
      rw [UInt8.toNat_inj.1 h.1, ih h.2]
/-- A pair, byte by byte. -/
def pairH (s : ByteArray) (i h : Nat) : Bool := if hnd s i = 92 ∧ hnd s (i + 1) = 117 then (match hexN s 4 (i + 2) 0 with | .ok n _ => joined h n != 65533 | .bad _ _ => false) else false
theorem hex4_in {s : ByteArray} {i n j : Nat} (h : hexN s 4 i 0 = .ok n j) : i + 4 ≤ s.size ∧ j = i + 4 := by
  have key : ∀ (q i m v j : Nat), hexN s q i m = .ok v j → j = i + q ∧ ∀ p, p < q → hexv (hnd s (i + p)) ≠ none := by
    intro q
    induction q with
    | zero => intro i m v j h; simp only [hexN] at h; injection h with _ h; exact ⟨by omega, fun p hp => by omega⟩
    | succ q ih =>
      intro i m v j h
      rw [hexN] at h
      cases hv : hexv (hnd s i) with
      | none => rw [hv] at h; cases h
      | some d =>
        rw [hv] at h
        have h2 := ih _ _ _ _ h
        refine ⟨by omega, fun p hp => ?_⟩
        by_cases c : p = 0
        · subst c; rw [Nat.add_zero, hv]; simp
        · have := h2.2 (p - 1) (by omega)
          rwa [show i + 1 + (p - 1) = i + p by omega] at this
  have h1 := key _ _ _ _ _ h
  refine ⟨?_, h1.1⟩
  by_cases c : i + 3 < s.size
  · omega
  · exact absurd (by rw [hnd_out c]; decide) (h1.2 3 (by omega))
theorem pairB_eq (s : ByteArray) (i h : Nat) : pairB s i h = pairH s i h := by
  unfold pairB pairH
  by_cases h6 : s.size < i + 6
  · rw [if_pos h6]
    split
    · cases hx : hexN s 4 (i + 2) 0 with
      | bad k c => rfl
      | ok n j => have := hex4_in hx; omega
    · rfl
  · rw [if_neg h6]
    have e1 := cut_list s 2 i (by omega)
    have e2 := cut_list s 4 (i + 2) (by omega)
    have c1 : ((s.extract i (i + 2)).data.toList = [92, 117]) ↔ (hnd s i = 92 ∧ hnd s (i + 1) = 117) := by
      constructor
      · intro c
        rw [c] at e1
        simp [List.range'] at e1
        exact ⟨e1.1.symm, e1.2.symm⟩
      · intro c
        refine map_inj ?_
        rw [e1]
        simp [List.range', c.1, c.2]
    by_cases c : hnd s i = 92 ∧ hnd s (i + 1) = 117
    · rw [if_pos c, if_pos (c1.2 c), show i + 6 = i + 2 + 4 by omega, e2]
      simp only [List.range', List.map_cons, List.map_nil, hexL, hexN]
      cases h0 : hexv (hnd s (i + 2)) with
      | none => rfl
      | some d0 =>
        simp only []
        cases h1 : hexv (hnd s (i + 2 + 1)) with
        | none => rfl
        | some d1 =>
          simp only []
          cases h2 : hexv (hnd s (i + 2 + 1 + 1)) with
          | none => rfl
          | some d2 =>
            simp only []
            cases h3 : hexv (hnd s (i + 2 + 1 + 1 + 1)) with
            | none => rfl
            | some d3 => rfl
    · rw [if_neg c, if_neg (fun d => c (c1.1 d))]
theorem hexN_ok_sub {s t : ByteArray} {a b k i m v j : Nat} (hS : Sub s t a b k) (h : hexN t 4 (b + i) m = .ok v j) (hk : i + 4 ≤ k) : ∃ j', hexN s 4 (a + i) m = .ok v j' := by
  have key : ∀ (q i m v j : Nat), i + q ≤ k → hexN t q (b + i) m = .ok v j → ∃ j', hexN s q (a + i) m = .ok v j' := by
    intro q
    induction q with
    | zero => intro i m v j _ h; simp only [hexN] at h ⊢; injection h with h1 _; subst h1; exact ⟨_, rfl⟩
    | succ q ih =>
      intro i m v j hk h
      rw [hexN] at h ⊢
      rw [hS.same i (by omega)] at h
      cases hv : hexv (hnd s (a + i)) with
      | none => rw [hv] at h; cases h
      | some d => rw [hv] at h; exact ih (i + 1) _ _ _ (by omega) h
  exact key 4 i m v j hk h
theorem hexN_at {s : ByteArray} {i n j : Nat} (h : hexN s 4 i 0 = .ok n j) : ∀ p, p < 4 → hexv (hnd s (i + p)) ≠ none := by
  have key : ∀ (q i m v j : Nat), hexN s q i m = .ok v j → ∀ p, p < q → hexv (hnd s (i + p)) ≠ none := by
    intro q
    induction q with
    | zero => intro i m v j h p hp; omega
    | succ q ih =>
      intro i m v j h p hp
      rw [hexN] at h
      cases hv : hexv (hnd s i) with
      | none => rw [hv] at h; cases h
      | some d =>
        rw [hv] at h
        have h2 := ih _ _ _ _ h
        by_cases c : p = 0
        · subst c; rw [Nat.add_zero, hv]; simp
        · have := h2 (p - 1) (by omega)
          rwa [show i + 1 + (p - 1) = i + p by omega] at this
  exact key _ _ _ _ _ h
/-- A pair in t is one in s. -/
theorem pair_back {s t : ByteArray} {a b k i u : Nat} (hS : Sub s t a b k) (hi : i ≤ k) (h : pairB t (b + i) u = true) : i + 6 ≤ k ∧ pairB s (a + i) u = true := by
  rw [pairB_eq] at h ⊢
  unfold pairH at h ⊢
  split at h
  · rename_i hc
    cases hx : hexN t 4 (b + i + 2) 0 with
    | bad q c => rw [hx] at h; cases h
    | ok n j =>
      rw [hx] at h
      have hat := hexN_at hx
      have hst := hS.stop
      have hk : i + 6 ≤ k := by
        by_cases c0 : k = i
        · rw [← c0] at hc; exact absurd hc.1 hst.2.2.2.2.1
        by_cases c1 : k = i + 1
        · rw [c1] at hst; exact absurd hc.2 hst.2.2.2.2.2.1
        by_cases c2 : k < i + 6
        · have := hat (k - (i + 2)) (by omega)
          rw [show b + i + 2 + (k - (i + 2)) = b + k by omega] at this
          exact absurd hst.2.2.2.2.2.2 this
        · omega
      obtain ⟨j', hj'⟩ := hexN_ok_sub (i := i + 2) hS (show hexN t 4 (b + (i + 2)) 0 = .ok n j from hx) (by omega)
      refine ⟨hk, ?_⟩
      rw [if_pos ⟨(hS.same i (by omega)).symm.trans hc.1, (hS.same (i + 1) (by omega)).symm.trans hc.2⟩, show hexN s 4 (a + i + 2) 0 = .ok n j' from hj']
      exact h
  · cases h
theorem pair_unit {s : ByteArray} {i u : Nat} (h : pairB s i u = true) : ∃ l, unit s (i + 1) = .ok l (i + 6) := by
  rw [pairB_eq] at h
  unfold pairH at h
  split at h
  · rename_i hc
    cases hx : hexN s 4 (i + 2) 0 with
    | bad q c => rw [hx] at h; cases h
    | ok n j =>
      have := hex4_in hx
      refine ⟨n, ?_⟩
      unfold unit
      rw [if_pos hc.2]
      rw [this.2] at hx
      exact hx
  · cases h
theorem pair_sub {s t : ByteArray} {a b k i u : Nat} (hS : Sub s t a b k) (hi : i + 6 ≤ k) (h : pairB s (a + i) u = true) : pairB t (b + i) u = true := by
  rw [pairB_eq] at h ⊢
  unfold pairH at h ⊢
  split at h
  · rename_i hc
    cases hx : hexN s 4 (a + i + 2) 0 with
    | bad q c => rw [hx] at h; cases h
    | ok n j =>
      rw [hx] at h
      have hj := (hex4_in hx).2
      have h2 := hexN_sub hS 4 (i + 2) 0 n (i + 6) (by rw [show a + (i + 6) = j by omega]; exact hx) hi
      rw [if_pos ⟨(hS.same i (by omega)).trans hc.1, (hS.same (i + 1) (by omega)).trans hc.2⟩, show hexN t 4 (b + i + 2) 0 = .ok n (b + (i + 6)) from h2.1]
      exact h
  · cases h
theorem escU_sub {s t : ByteArray} {a b k u i r j : Nat} (hS : Sub s t a b k) (hik : i ≤ k) (h : escU s u (a + i) = .ok r (a + j)) (hj : j ≤ k) : escU t u (b + i) = .ok r (b + j) := by
  unfold escU at h ⊢
  split at h
  · rename_i hu
    rw [if_pos hu]
    split at h
    · rename_i hp
      obtain ⟨l, hl⟩ := pair_unit hp
      rw [hl] at h
      injection h with h1 h2
      have hi : i + 6 ≤ k := by omega
      rw [if_pos (pair_sub hS hi hp), show unit t (b + i + 1) = .ok l (b + (i + 6)) from unit_sub (i := i + 1) hS (by rw [show a + (i + 6) = a + i + 6 by omega]; exact hl) hi]
      show Res.ok (joined u l) (b + (i + 6)) = _
      rw [h1]; congr 1; omega
    · rename_i hp
      injection h with h1 h2
      rw [if_neg (fun c => hp (pair_back hS hik c).2), ← h1]
      congr 1; omega
  · rename_i hu
    rw [if_neg hu]
    injection h with h1 h2
    rw [h1]; congr 1; omega
theorem escU_ge {s : ByteArray} {u i r j : Nat} (h : escU s u i = .ok r j) : i ≤ j := by
  unfold escU at h
  split at h
  · split at h
    · cases hl : unit s (i + 1) with
      | bad q c => rw [hl] at h; cases h
      | ok l m => rw [hl] at h; have := (unit_lt hl).2; injection h with _ h2; omega
    · injection h with _ h2; omega
  · injection h with _ h2; omega
theorem escape_sub {s t : ByteArray} {a b k i r j : Nat} (hS : Sub s t a b k) (h : escape s (a + i) = .ok r (a + j)) (hj : j ≤ k) : escape t (b + i) = .ok r (b + j) := by
  have hlt := (escape_ok h).2
  unfold escape at h ⊢
  cases hv : escV (hnd s (a + i)) with
  | some v =>
    rw [hv] at h
    injection h with h1 h2
    rw [hS.same i (by omega), hv]
    show Res.ok v (b + i + 1) = _
    rw [h1]; congr 1; omega
  | none =>
    rw [hv] at h
    cases hu : unit s (a + i) with
    | bad q c => rw [hu] at h; cases h
    | ok u m =>
      rw [hu] at h
      have hm := (unit_lt hu).2
      have hge := escU_ge (show escU s u m = .ok r (a + j) from h)
      obtain ⟨m', rfl⟩ : ∃ m', m = a + m' := ⟨m - a, by omega⟩
      rw [hS.same i (by omega), hv]
      show (unit t (b + i)).bind (fun u j => escU t u j) = _
      rw [unit_sub hS hu (by omega)]
      exact escU_sub hS (by omega) (show escU s u (a + m') = .ok r (a + j) from h) hj
theorem txt_sub {s t : ByteArray} {a b k : Nat} (hS : Sub s t a b k) : ∀ (f f' i j : Nat) (acc l : List UInt8), t.size < b + i + f' → txt s f (a + i) acc = .ok l (a + j) → j ≤ k → txt t f' (b + i) acc = .ok l (b + j) := by
  intro f
  induction f with
  | zero => intro f' i j acc l _ h _; cases h
  | succ f ih =>
    intro f' i j acc l hf h hj
    have hlt := txt_len h
    have hfit := hS.fits
    obtain ⟨g, rfl⟩ : ∃ g, f' = g + 1 := ⟨f' - 1, by omega⟩
    rw [txt] at h ⊢
    rw [hS.same i (by omega)]
    split at h
    · rename_i c
      rw [if_pos c]
      injection h with h1 h2
      rw [h1]; congr 1; omega
    · rename_i c
      rw [if_neg c]
      split at h
      · cases h
      · rename_i c
        rw [if_neg c]
        split at h
        · rename_i c
          rw [if_pos c]
          cases he : escape s (a + i + 1) with
          | bad q e => rw [he] at h; cases h
          | ok r m =>
            rw [he] at h
            have h1 := escape_ok he
            have h2 := txt_len (show txt s f m (acc ++ Lib.encodeRune r) = .ok l (a + j) from h)
            obtain ⟨m', rfl⟩ : ∃ m', m = a + m' := ⟨m - a, by omega⟩
            rw [show escape t (b + i + 1) = .ok r (b + m') from escape_sub (i := i + 1) hS he (by omega)]
            exact ih g m' j _ l (by have := h1.2; omega) (show txt s f (a + m') (acc ++ Lib.encodeRune r) = .ok l (a + j) from h) hj
        · rename_i c
          rw [if_neg c]
          cases hn : nxt s (a + i) with
          | none => rw [hn] at h; cases h
          | some z =>
            rw [hn] at h
            have hz := nxt_pos hn
            have h2 := txt_len (show txt s f (a + i + z) (acc ++ (s.extract (a + i) (a + i + z)).data.toList) = .ok l (a + j) from h)
            rw [nxt_sub hS hn (by omega) hz]
            show txt t g (b + i + z) (acc ++ (t.extract (b + i) (b + i + z)).data.toList) = _
            rw [cut_same hS (by omega), show b + i + z = b + (i + z) by omega]
            exact ih g (i + z) j _ l (by omega) (by rw [show a + (i + z) = a + i + z by omega]; exact h) hj
theorem text_sub {s t : ByteArray} {a b k i j : Nat} {l : List UInt8} (hS : Sub s t a b k) (h : text s (a + i) = .ok l (a + j)) (hj : j ≤ k) : text t (b + i) = .ok l (b + j) := by
  unfold text at h ⊢
  exact txt_sub hS _ _ (i + 1) j [] l (by omega) h hj
theorem lst_sub {s t : ByteArray} {a b k : Nat} (hS : Sub s t a b k) {pv pw : Nat → Res JV} (hp : ∀ i v j, pv i = .ok v j → i < j) (hv : ∀ i v j, pv (a + i) = .ok v (a + j) → j ≤ k → pw (b + i) = .ok v (b + j)) : ∀ (f f' i j : Nat) (acc l : List JV), t.size < b + i + f' → lst s pv f (a + i) acc = .ok l (a + j) → j ≤ k → lst t pw f' (b + i) acc = .ok l (b + j) := by
  intro f
  induction f with
  | zero => intro f' i j acc l _ h _; cases h
  | succ f ih =>
    intro f' i j acc l hf h hj
    have hlt := lst_lt hp h
    have hfit := hS.fits
    obtain ⟨g, rfl⟩ : ∃ g, f' = g + 1 := ⟨f' - 1, by omega⟩
    rw [lst] at h ⊢
    rw [hS.same i (by omega)]
    split at h
    · rename_i c
      rw [if_pos c]
      injection h with h1 h2
      rw [h1]; congr 1; omega
    · rename_i c
      rw [if_neg c]
      have key : ∀ m, i ≤ m → ((pv (a + m)).bind fun v q => lst s pv f (skip isBl s q) (acc ++ [v])) = .ok l (a + j) → ((pw (b + m)).bind fun v q => lst t pw g (skip isBl t q) (acc ++ [v])) = .ok l (b + j) := by
        intro m hm h
        cases hw : pv (a + m) with
        | bad q e => rw [hw] at h; cases h
        | ok v q =>
          rw [hw] at h
          have h1 := hp _ _ _ hw
          have h2 := lst_lt hp (show lst s pv f (skip isBl s q) (acc ++ [v]) = .ok l (a + j) from h)
          have h3 := skip_ge (p := isBl) s q
          obtain ⟨q', rfl⟩ : ∃ q', q = a + q' := ⟨q - a, by omega⟩
          obtain ⟨n, hn⟩ : ∃ n, skip isBl s (a + q') = a + n := ⟨skip isBl s (a + q') - a, by omega⟩
          rw [hv m v q' hw (by omega)]
          show lst t pw g (skip isBl t (b + q')) (acc ++ [v]) = _
          rw [skip_sub bl0 hS hn (.inl (by omega))]
          exact ih g n j _ l (by omega) (by rw [← hn]; exact h) hj
      by_cases ha : acc.length = 0
      · rw [if_pos ha] at h ⊢
        exact key i (Nat.le_refl _) h
      · rw [if_neg ha] at h ⊢
        cases hw : wd s [44] (a + i) with
        | bad q e => rw [hw] at h; cases h
        | ok u q =>
          rw [hw] at h
          have h1 := wd_lt (show wd s [44] (a + i) = .ok () q from hw)
          rw [List.length_singleton] at h1
          have h3 := skip_ge (p := isBl) s q
          have hlt2 : skip isBl s q < a + j := by
            change ((pv (skip isBl s q)).bind fun v q => lst s pv f (skip isBl s q) (acc ++ [v])) = .ok l (a + j) at h
            cases hw2 : pv (skip isBl s q) with
            | bad q e => rw [hw2] at h; cases h
            | ok v q2 =>
              rw [hw2] at h
              have h4 := hp _ _ _ hw2
              have h5 := lst_lt hp (show lst s pv f (skip isBl s q2) (acc ++ [v]) = .ok l (a + j) from h)
              have h6 := skip_ge (p := isBl) s q2
              omega
          obtain ⟨q', rfl⟩ : ∃ q', q = a + q' := ⟨q - a, by omega⟩
          obtain ⟨n, hn⟩ : ∃ n, skip isBl s (a + q') = a + n := ⟨skip isBl s (a + q') - a, by omega⟩
          rw [wd_sub hS [44] i q' hw (by omega)]
          show ((pw (skip isBl t (b + q'))).bind fun v q => lst t pw g (skip isBl t q) (acc ++ [v])) = _
          rw [skip_sub bl0 hS hn (.inl (by omega))]
          refine key n (by omega) ?_
          rw [← hn]
          exact h
/-- What follows a field's name. -/
def fld (s : ByteArray) (pv : Nat → Res JV) (f : Nat) (acc : List JF) (tx : List UInt8) (q : Nat) : Res (List JF) := (wd s [58] (skip isBl s q)).bind fun _ m => (pv (skip isBl s m)).bind fun v n => obj s pv f (skip isBl s n) false (putF acc ⟨tx.toArray⟩ v)
theorem obj_sub {s t : ByteArray} {a b k : Nat} (hS : Sub s t a b k) {pv pw : Nat → Res JV} (hp : ∀ i v j, pv i = .ok v j → i < j) (hv : ∀ i v j, pv (a + i) = .ok v (a + j) → j ≤ k → pw (b + i) = .ok v (b + j)) : ∀ (f f' i j : Nat) (fl : Bool) (acc l : List JF), t.size < b + i + f' → obj s pv f (a + i) fl acc = .ok l (a + j) → j ≤ k → obj t pw f' (b + i) fl acc = .ok l (b + j) := by
  intro f
  induction f with
  | zero => intro f' i j fl acc l _ h _; cases h
  | succ f ih =>
    intro f' i j fl acc l hf h hj
    have hlt := obj_lt hp h
    have hfit := hS.fits
    obtain ⟨g, rfl⟩ : ∃ g, f' = g + 1 := ⟨f' - 1, by omega⟩
    rw [obj] at h ⊢
    rw [hS.same i (by omega)]
    split at h
    · rename_i c
      rw [if_pos c]
      injection h with h1 h2
      rw [h1]; congr 1; omega
    · rename_i c
      rw [if_neg c]
      have fldkey : ∀ (q : Nat) (tx : List UInt8), i ≤ q → fld s pv f acc tx (a + q) = .ok l (a + j) → q < j ∧ fld t pw g acc tx (b + q) = .ok l (b + j) := by
        intro q tx hq h
        unfold fld at h ⊢
        have k1 := skip_ge (p := isBl) s (a + q)
        obtain ⟨n1, e1⟩ : ∃ n, skip isBl s (a + q) = a + n := ⟨skip isBl s (a + q) - a, by omega⟩
        rw [e1] at h
        cases hw : wd s [58] (a + n1) with
        | bad q e => rw [hw] at h; cases h
        | ok u m =>
          have k2 := wd_lt (show wd s [58] (a + n1) = .ok () m from hw)
          rw [List.length_singleton] at k2
          rw [hw] at h
          have k3 := skip_ge (p := isBl) s m
          obtain ⟨m', rfl⟩ : ∃ m', m = a + m' := ⟨m - a, by omega⟩
          obtain ⟨n2, e2⟩ : ∃ n, skip isBl s (a + m') = a + n := ⟨skip isBl s (a + m') - a, by omega⟩
          change ((pv (skip isBl s (a + m'))).bind fun v n => obj s pv f (skip isBl s n) false (putF acc ⟨tx.toArray⟩ v)) = .ok l (a + j) at h
          rw [e2] at h
          cases hw2 : pv (a + n2) with
          | bad q e => rw [hw2] at h; cases h
          | ok v n3 =>
            rw [hw2] at h
            have k4 := hp _ _ _ hw2
            have k5 := obj_lt hp (show obj s pv f (skip isBl s n3) false (putF acc ⟨tx.toArray⟩ v) = .ok l (a + j) from h)
            have k6 := skip_ge (p := isBl) s n3
            obtain ⟨n3', rfl⟩ : ∃ m', n3 = a + m' := ⟨n3 - a, by omega⟩
            obtain ⟨n4, e4⟩ : ∃ n, skip isBl s (a + n3') = a + n := ⟨skip isBl s (a + n3') - a, by omega⟩
            refine ⟨by omega, ?_⟩
            rw [skip_sub bl0 hS e1 (.inl (by omega)), wd_sub hS [58] n1 m' hw (by omega)]
            show ((pw (skip isBl t (b + m'))).bind fun v n => obj t pw g (skip isBl t n) false (putF acc ⟨tx.toArray⟩ v)) = _
            rw [skip_sub bl0 hS e2 (.inl (by omega)), hv n2 v n3' hw2 (by omega)]
            show obj t pw g (skip isBl t (b + n3')) false (putF acc ⟨tx.toArray⟩ v) = _
            rw [skip_sub bl0 hS e4 (.inl (by omega))]
            exact ih g n4 j _ _ l (by omega) (by rw [← e4]; exact h) hj
      have key : ∀ m, i ≤ m → (if hnd s (a + m) = 34 then (text s (a + m)).bind fun l k => fld s pv f acc l k else .bad (a + m) 30) = .ok l (a + j) → m < j ∧ (if hnd t (b + m) = 34 then (text t (b + m)).bind fun l k => fld t pw g acc l k else .bad (b + m) 30) = .ok l (b + j) := by
        intro m hm h
        split at h
        · rename_i c
          cases ht : text s (a + m) with
          | bad q e => rw [ht] at h; cases h
          | ok tx q =>
            rw [ht] at h
            have k1 := (text_len ht).2
            obtain ⟨q', rfl⟩ : ∃ m', q = a + m' := ⟨q - a, by omega⟩
            have h2 := fldkey q' tx (by omega) h
            refine ⟨by omega, ?_⟩
            rw [if_pos ((hS.same m (by omega)).trans c), text_sub hS ht (by omega)]
            exact h2.2
        · cases h
      by_cases ha : fl = true
      · rw [if_pos ha] at h ⊢
        exact (key i (Nat.le_refl _) h).2
      · rw [if_neg ha] at h ⊢
        cases hw : wd s [44] (a + i) with
        | bad q e => rw [hw] at h; cases h
        | ok u q =>
          rw [hw] at h
          have h1 := wd_lt (show wd s [44] (a + i) = .ok () q from hw)
          rw [List.length_singleton] at h1
          have h3 := skip_ge (p := isBl) s q
          obtain ⟨q', rfl⟩ : ∃ q', q = a + q' := ⟨q - a, by omega⟩
          obtain ⟨n, hn⟩ : ∃ n, skip isBl s (a + q') = a + n := ⟨skip isBl s (a + q') - a, by omega⟩
          change (if hnd s (skip isBl s (a + q')) = 34 then (text s (skip isBl s (a + q'))).bind fun l k => fld s pv f acc l k else .bad (skip isBl s (a + q')) 30) = .ok l (a + j) at h
          rw [hn] at h
          have h4 := key n (by omega) h
          rw [wd_sub hS [44] i q' hw (by omega)]
          show (if hnd t (skip isBl t (b + q')) = 34 then (text t (skip isBl t (b + q'))).bind fun l k => fld t pw g acc l k else .bad (skip isBl t (b + q')) 30) = _
          rw [skip_sub bl0 hS hn (.inl (by omega))]
          exact h4.2
theorem brk_sub {s t : ByteArray} {a b k : Nat} (hS : Sub s t a b k) {pv pw : Nat → Res JV} (hp : ∀ i v j, pv i = .ok v j → i < j) (hv : ∀ i v j, pv (a + i) = .ok v (a + j) → j ≤ k → pw (b + i) = .ok v (b + j)) (i j : Nat) (v : JV) (h : brk s pv (a + i) = .ok v (a + j)) (hj : j ≤ k) : brk t pw (b + i) = .ok v (b + j) := by
  have hlt := brk_lt hp _ _ _ h
  have hge := skip_ge (p := isBl) s (a + i + 1)
  obtain ⟨n, hn⟩ : ∃ n, skip isBl s (a + i + 1) = a + n := ⟨skip isBl s (a + i + 1) - a, by omega⟩
  unfold brk at h ⊢
  rw [hS.same i (by omega)]
  rw [hn] at h
  split at h
  · rename_i c
    rw [if_pos c]
    cases hl : lst s pv (s.size + 1) (a + n) [] with
    | bad q e => rw [hl] at h; cases h
    | ok l q =>
      rw [hl] at h
      have k1 := lst_lt hp hl
      injection h with h1 h2
      subst h2; rw [show b + i + 1 = b + (i + 1) by omega, skip_sub (i := i + 1) bl0 hS hn (.inl (by omega)), lst_sub hS hp hv _ _ n j [] l (by omega) hl hj]
      show Res.ok _ _ = _
      rw [h1]
  · rename_i c
    rw [if_neg c]
    cases hl : obj s pv (s.size + 1) (a + n) true [] with
    | bad q e => rw [hl] at h; cases h
    | ok l q =>
      rw [hl] at h
      have k1 := obj_lt hp hl
      injection h with h1 h2
      subst h2; rw [show b + i + 1 = b + (i + 1) by omega, skip_sub (i := i + 1) bl0 hS hn (.inl (by omega)), obj_sub hS hp hv _ _ n j true [] l (by omega) hl hj]
      show Res.ok _ _ = _
      rw [h1]
theorem flat_sub {s t : ByteArray} {a b k : Nat} (hS : Sub s t a b k) {br bq : Nat → Res JV} (hb : ∀ i v j, br i = .ok v j → i < j) (hv : ∀ i v j, br (a + i) = .ok v (a + j) → j ≤ k → bq (b + i) = .ok v (b + j)) (i j : Nat) (v : JV) (h : flat s br (a + i) = .ok v (a + j)) (hj : j ≤ k) : flat t bq (b + i) = .ok v (b + j) := by
  have hlt := flat_lt hb h
  have kw : ∀ (l : List Nat) (v0 : JV), ((wd s l (a + i)).bind fun _ j => Res.ok v0 j) = .ok v (a + j) → ((wd t l (b + i)).bind fun _ j => Res.ok v0 j) = .ok v (b + j) := by
    intro l v0 h
    cases hw : wd s l (a + i) with
    | bad k c => rw [hw] at h; cases h
    | ok u q =>
      rw [hw] at h
      injection h with h1 h2
      subst h2; rw [wd_sub hS l i j hw hj]
      show Res.ok _ _ = _
      rw [h1]
  unfold flat at h ⊢
  rw [hS.same i (by omega)]
  split at h
  · rename_i c; rw [if_pos c]; exact kw _ _ h
  rename_i c; rw [if_neg c]
  split at h
  · rename_i c; rw [if_pos c]; exact kw _ _ h
  rename_i c; rw [if_neg c]
  split at h
  · rename_i c; rw [if_pos c]; exact kw _ _ h
  rename_i c; rw [if_neg c]
  split at h
  · rename_i c; rw [if_pos c]
    cases ht : text s (a + i) with
    | bad k c => rw [ht] at h; cases h
    | ok l q =>
      rw [ht] at h
      injection h with h1 h2
      subst h2; rw [text_sub hS ht hj]
      show Res.ok _ _ = _
      rw [h1]
  rename_i c; rw [if_neg c]
  split at h
  · rename_i c; rw [if_pos c]; exact hv i v j h hj
  rename_i c; rw [if_neg c]
  cases hn : number s (a + i) with
  | bad k c => rw [hn] at h; cases h
  | ok u q =>
    rw [hn] at h
    injection h with h1 h2
    subst h2; rw [number_sub hS hn hj]
    show Res.ok _ _ = _
    rw [← h1]
    obtain ⟨z, rfl⟩ : ∃ z, j = i + z := ⟨j - i, by omega⟩
    rw [show b + (i + z) = b + i + z by omega, show a + (i + z) = a + i + z by omega, cut_same hS (by omega)]
/-- A value read is the same wherever its bytes stand. -/
theorem pval_sub {s t : ByteArray} {a b k : Nat} (hS : Sub s t a b k) : ∀ (d i : Nat) (v : JV) (j : Nat), pval s d (a + i) = .ok v (a + j) → j ≤ k → pval t d (b + i) = .ok v (b + j) := by
  intro d
  induction d with
  | zero => intro i v j h hj; exact flat_sub hS (fun i v j h => by cases h) (fun i v j h => by cases h) i j v h hj
  | succ d ih => intro i v j h hj; exact flat_sub hS (brk_lt (pval_lt d)) (fun i v j h hj => brk_sub hS (pval_lt d) (fun i v j h hj => ih i v j h hj) i j v h hj) i j v h hj
/-- A reading's answer lies behind its begin and within the text; its errors are two. -/
def Sn {α : Type} (s : ByteArray) (i : Nat) (r : Res α) : Prop := match r with
  | .ok _ j => i ≤ j ∧ j ≤ s.size
  | .bad k c => i ≤ k ∧ k ≤ s.size ∧ (c = 30 ∨ c = 31)
theorem Sn.bind {α β : Type} {s : ByteArray} {i : Nat} {r : Res α} {f : α → Nat → Res β} (h : Sn s i r) (hf : ∀ v j, r = .ok v j → i ≤ j → j ≤ s.size → Sn s j (f v j)) : Sn s i (r.bind f) := by
  cases r with
  | bad k c => exact h
  | ok v j =>
    have h2 := hf v j rfl h.1 h.2
    show Sn s i (f v j)
    have h1 : i ≤ j := h.1
    cases hr : f v j with
    | bad k c => rw [hr] at h2; exact ⟨Nat.le_trans h1 h2.1, h2.2⟩
    | ok w q => rw [hr] at h2; exact ⟨Nat.le_trans h1 h2.1, h2.2⟩
theorem Sn.le {α : Type} {s : ByteArray} {i m : Nat} {r : Res α} (h : Sn s m r) (hm : i ≤ m) : Sn s i r := by
  cases r with
  | bad k c => exact ⟨Nat.le_trans hm h.1, h.2⟩
  | ok w q => exact ⟨Nat.le_trans hm h.1, h.2⟩
theorem sn_bad {α : Type} {s : ByteArray} {i : Nat} (h : i ≤ s.size) : Sn s i (.bad i 30 : Res α) := ⟨Nat.le_refl _, h, .inl rfl⟩
theorem wd_sn {s : ByteArray} : ∀ {l : List Nat} {i : Nat}, (∀ c ∈ l, c ≠ 0) → i ≤ s.size → Sn s i (wd s l i) := by
  intro l
  induction l with
  | nil => intro i _ h; exact ⟨Nat.le_refl _, h⟩
  | cons c r ih =>
    intro i hl h
    rw [wd_cons]
    split
    · rename_i hc
      have hlt := hnd_pos hc (hl c List.mem_cons_self)
      exact (ih (fun c hc => hl c (List.mem_cons_of_mem _ hc)) hlt).le (Nat.le_succ i)
    · exact sn_bad h
theorem digits_sn {s : ByteArray} {i : Nat} (h : i ≤ s.size) : Sn s i (digits s i) := by
  unfold digits
  split
  · exact ⟨skip_ge s i, skip_in h⟩
  · exact sn_bad h
theorem nE_sn {s : ByteArray} {i : Nat} (h : i ≤ s.size) : Sn s i (nE s i) := by
  unfold nE
  split
  · rename_i hc
    have hi : i < s.size := by rcases hc with hc | hc <;> exact hnd_pos hc (by omega)
    split
    · rename_i hd
      have hi2 : i + 1 < s.size := by rcases hd with hc | hc <;> exact hnd_pos hc (by omega)
      exact (digits_sn hi2).le (by omega)
    · exact (digits_sn hi).le (by omega)
  · exact ⟨Nat.le_refl _, h⟩
theorem nD_sn {s : ByteArray} {i : Nat} (h : i ≤ s.size) : Sn s i (nD s i) := by
  unfold nD
  refine Sn.bind ?_ (fun v j _ _ hj => nE_sn hj)
  split
  · rename_i hc
    exact (digits_sn (hnd_pos hc (by omega))).le (by omega)
  · exact ⟨Nat.le_refl _, h⟩
theorem nI_sn {s : ByteArray} {i : Nat} (h : i ≤ s.size) : Sn s i (nI s i) := by
  unfold nI
  refine Sn.bind ?_ (fun v j _ _ hj => nD_sn hj)
  split
  · rename_i hc
    exact ⟨Nat.le_succ _, hnd_pos hc (by omega)⟩
  · exact digits_sn h
theorem number_sn {s : ByteArray} {i : Nat} (h : i ≤ s.size) : Sn s i (number s i) := by
  unfold number
  split
  · rename_i hc
    exact (nI_sn (hnd_pos hc (by omega))).le (by omega)
  · exact nI_sn h
theorem hexv0 : hexv 0 = none := by decide
theorem hexN_sn {s : ByteArray} : ∀ (n : Nat) {i m : Nat}, i ≤ s.size → Sn s i (hexN s n i m) := by
  intro n
  induction n with
  | zero => intro i m h; exact ⟨Nat.le_refl _, h⟩
  | succ n ih =>
    intro i m h
    rw [hexN]
    cases hv : hexv (hnd s i) with
    | none => exact sn_bad h
    | some d =>
      have hi : i < s.size := by
        by_cases c : i < s.size
        · exact c
        · rw [hnd_out c, hexv0] at hv; cases hv
      exact (ih (i := i + 1) hi).le (Nat.le_succ i)
theorem unit_sn {s : ByteArray} {i : Nat} (h : i ≤ s.size) : Sn s i (unit s i) := by
  unfold unit
  split
  · rename_i hc
    exact (hexN_sn 4 (hnd_pos hc (by omega))).le (Nat.le_succ i)
  · exact sn_bad h
theorem pair_in {s : ByteArray} {i u : Nat} (h : pairB s i u = true) : i + 6 ≤ s.size := by
  unfold pairB at h
  split at h
  · cases h
  · omega
theorem escU_sn {s : ByteArray} {u i : Nat} (h : i ≤ s.size) : Sn s i (escU s u i) := by
  unfold escU
  split
  · split
    · rename_i hp
      obtain ⟨l, hl⟩ := pair_unit hp
      have := pair_in hp
      rw [hl]
      exact ⟨by omega, this⟩
    · exact ⟨Nat.le_refl _, h⟩
  · exact ⟨Nat.le_refl _, h⟩
theorem escV0 : escV 0 = none := by decide
theorem escape_sn {s : ByteArray} {i : Nat} (h : i ≤ s.size) : Sn s i (escape s i) := by
  unfold escape
  cases hv : escV (hnd s i) with
  | some v =>
    have hi : i < s.size := by
      by_cases c : i < s.size
      · exact c
      · rw [hnd_out c, escV0] at hv; cases hv
    exact ⟨Nat.le_succ i, hi⟩
  | none => exact (unit_sn h).bind (fun v j _ _ hj => escU_sn hj)
theorem dec_in (s : ByteArray) (i : Nat) (hi : i < s.size) : i + (Utf8.decode s i).2 ≤ s.size := by
  rw [Lib.decode_at]
  unfold Lib.decodeN
  repeat' split
  all_goals (simp only; omega)
theorem txt_sn {s : ByteArray} : ∀ (f : Nat) {i : Nat} {acc : List UInt8}, i ≤ s.size → s.size < i + f → Sn s i (txt s f i acc) := by
  intro f
  induction f with
  | zero => intro i acc h1 h2; omega
  | succ f ih =>
    intro i acc h1 h2
    rw [txt]
    split
    · rename_i c
      exact ⟨Nat.le_succ i, hnd_pos c (by omega)⟩
    · split
      · exact sn_bad h1
      · rename_i c0 c
        have hi : i < s.size := by
          by_cases c2 : i < s.size
          · exact c2
          · rw [hnd_out c2] at c; omega
        split
        · refine (Sn.bind (escape_sn (i := i + 1) hi) (fun v j _ h3 hj => ih hj (by omega))).le (Nat.le_succ i)
        · cases hn : nxt s i with
          | none => exact sn_bad h1
          | some z =>
            have hz := nxt_pos hn
            have hd := dec_in s i hi
            have he : z = (Utf8.decode s i).2 := by unfold nxt at hn; split at hn; cases hn; injection hn with hn; exact hn.symm
            rw [← he] at hd
            exact (ih (i := i + z) hd (by omega)).le (by omega)
theorem text_sn {s : ByteArray} {i : Nat} (h : i < s.size) : Sn s i (text s i) := by
  unfold text
  exact (txt_sn _ (i := i + 1) h (by omega)).le (Nat.le_succ i)
theorem lst_sn {s : ByteArray} {pv : Nat → Res JV} (hp : ∀ i v j, pv i = .ok v j → i < j) (hv : ∀ i, i ≤ s.size → Sn s i (pv i)) : ∀ (f : Nat) {i : Nat} {acc : List JV}, i ≤ s.size → s.size < i + f → Sn s i (lst s pv f i acc) := by
  intro f
  induction f with
  | zero => intro i acc h1 h2; omega
  | succ f ih =>
    intro i acc h1 h2
    rw [lst]
    split
    · rename_i c
      exact ⟨Nat.le_succ i, hnd_pos c (by omega)⟩
    · refine Sn.bind ?_ (fun v j _ h3 hj => ?_)
      · split
        · exact ⟨Nat.le_refl _, h1⟩
        · exact Sn.bind (wd_sn (by decide) h1) (fun v j _ h3 hj => ⟨skip_ge s j, skip_in hj⟩)
      · refine Sn.bind (hv j hj) (fun v q hq h4 hq2 => ?_)
        have := hp _ _ _ hq
        have h5 := skip_ge (p := isBl) s q
        exact (ih (skip_in hq2) (by omega)).le h5
theorem obj_sn {s : ByteArray} {pv : Nat → Res JV} (hp : ∀ i v j, pv i = .ok v j → i < j) (hv : ∀ i, i ≤ s.size → Sn s i (pv i)) : ∀ (f : Nat) {i : Nat} {fl : Bool} {acc : List JF}, i ≤ s.size → s.size < i + f → Sn s i (obj s pv f i fl acc) := by
  intro f
  induction f with
  | zero => intro i fl acc h1 h2; omega
  | succ f ih =>
    intro i fl acc h1 h2
    rw [obj]
    split
    · rename_i c
      exact ⟨Nat.le_succ i, hnd_pos c (by omega)⟩
    · refine Sn.bind ?_ (fun v j _ h3 hj => ?_)
      · split
        · exact ⟨Nat.le_refl _, h1⟩
        · exact Sn.bind (wd_sn (by decide) h1) (fun v j _ h3 hj => ⟨skip_ge s j, skip_in hj⟩)
      · split
        · rename_i c
          refine Sn.bind (text_sn (hnd_pos c (by omega))) (fun tx q hq h4 hq2 => ?_)
          have k1 := skip_ge (p := isBl) s q
          refine (Sn.bind (wd_sn (i := skip isBl s q) (by decide) (skip_in hq2)) (fun _ m _ h5 hm => ?_)).le k1
          have k2 := skip_ge (p := isBl) s m
          refine (Sn.bind (hv (skip isBl s m) (skip_in hm)) (fun v n hn h6 hn2 => ?_)).le k2
          have := hp _ _ _ hn
          have k3 := skip_ge (p := isBl) s n
          exact (ih (skip_in hn2) (by omega)).le k3
        · exact sn_bad hj
theorem brk_sn {s : ByteArray} {pv : Nat → Res JV} (hp : ∀ i v j, pv i = .ok v j → i < j) (hv : ∀ i, i ≤ s.size → Sn s i (pv i)) {i : Nat} (hi : i < s.size) : Sn s i (brk s pv i) := by
  have k1 := skip_ge (p := isBl) s (i + 1)
  unfold brk
  split
  · refine Sn.le (m := skip isBl s (i + 1)) ?_ (by omega)
    exact Sn.bind (lst_sn hp hv _ (skip_in hi) (by omega)) (fun v j _ _ hj => ⟨Nat.le_refl _, hj⟩)
  · refine Sn.le (m := skip isBl s (i + 1)) ?_ (by omega)
    exact Sn.bind (obj_sn hp hv _ (skip_in hi) (by omega)) (fun v j _ _ hj => ⟨Nat.le_refl _, hj⟩)
theorem flat_sn {s : ByteArray} {br : Nat → Res JV} (hb : ∀ i, i < s.size → Sn s i (br i)) {i : Nat} (hi : i ≤ s.size) : Sn s i (flat s br i) := by
  unfold flat
  split
  · exact Sn.bind (wd_sn (by decide) hi) (fun v j _ _ hj => ⟨Nat.le_refl _, hj⟩)
  split
  · exact Sn.bind (wd_sn (by decide) hi) (fun v j _ _ hj => ⟨Nat.le_refl _, hj⟩)
  split
  · exact Sn.bind (wd_sn (by decide) hi) (fun v j _ _ hj => ⟨Nat.le_refl _, hj⟩)
  split
  · rename_i c; exact Sn.bind (text_sn (hnd_pos c (by omega))) (fun v j _ _ hj => ⟨Nat.le_refl _, hj⟩)
  split
  · rename_i c; exact hb i (by rcases c with c | c <;> exact hnd_pos c (by omega))
  · exact Sn.bind (number_sn hi) (fun v j _ _ hj => ⟨Nat.le_refl _, hj⟩)
theorem pval_sn {s : ByteArray} : ∀ (d i : Nat), i ≤ s.size → Sn s i (pval s d i) := by
  intro d
  induction d with
  | zero =>
    intro i hi
    refine flat_sn (fun i h => ?_) hi
    exact ⟨Nat.le_refl _, Nat.le_of_lt h, .inr rfl⟩
  | succ d ih => intro i hi; exact flat_sn (fun i h => brk_sn (pval_lt d) ih h) hi
/-- t is what stands ahead of k in s. -/
structure Hd (s t : ByteArray) (k : Nat) : Prop where
  same : ∀ q, q < k → hnd t q = hnd s q
  size : t.size = k
  le : k ≤ s.size
theorem Hd.last {s t : ByteArray} {k : Nat} (h : Hd s t k) : hnd t k = 0 := hnd_out (by rw [h.size]; omega)
theorem numStop0 : NumStop 0 := ⟨rfl, by decide, by decide, by decide, by decide, by decide, rfl⟩
theorem Hd.sub {s t : ByteArray} {k : Nat} (h : Hd s t k) : Sub s t 0 0 k :=
  ⟨fun q hq => by rw [Nat.zero_add]; exact h.same q hq, by have := h.le; omega, by have := h.size; omega, by rw [Nat.zero_add, h.last]; exact numStop0⟩
/-- An error at k is one of t, at its end. -/
theorem wd_hd {s t : ByteArray} {k : Nat} (H : Hd s t k) : ∀ {l : List Nat} {i : Nat} {c : Int}, (∀ c ∈ l, c ≠ 0) → wd s l i = .bad k c → wd t l i = .bad k 30 := by
  intro l
  induction l with
  | nil => intro i c _ h; cases h
  | cons x r ih =>
    intro i c hl h
    rw [wd_cons] at h ⊢
    split at h
    · rename_i hx
      have hk : i < k := by
        have h0 := hnd_pos hx (hl x List.mem_cons_self)
        have := wd_sn (fun c hc => hl c (List.mem_cons_of_mem _ hc)) (s := s) (i := i + 1) h0
        rw [h] at this
        exact this.1
      rw [H.same i hk, if_pos hx]
      exact ih (fun c hc => hl c (List.mem_cons_of_mem _ hc)) h
    · injection h with h1 _
      subst h1; rw [H.last, if_neg (fun e => hl x List.mem_cons_self e.symm)]
theorem digits_hd {s t : ByteArray} {k i : Nat} {c : Int} (H : Hd s t k) (h : digits s i = .bad k c) : i = k ∧ digits t i = .bad k 30 := by
  unfold digits at h ⊢
  split at h
  · cases h
  · injection h with h1 _
    subst h1; rw [H.last]
    exact ⟨rfl, rfl⟩
theorem nE_hd {s t : ByteArray} {k i : Nat} {c : Int} (H : Hd s t k) (h : nE s i = .bad k c) : i < k ∧ nE t i = .bad k 30 := by
  unfold nE at h ⊢
  split at h
  · rename_i hd
    have h1 := digits_hd H h
    split at h1
    · rename_i h2
      refine ⟨by omega, ?_⟩
      rw [H.same i (by omega), if_pos hd, H.same (i + 1) (by omega), if_pos h2]
      exact h1.2
    · refine ⟨by omega, ?_⟩
      have hl := H.last
      rw [H.same i (by omega), if_pos hd, h1.1, hl, if_neg (by omega), ← h1.1]
      exact h1.1 ▸ h1.2
  · cases h
theorem ok_hd {s t : ByteArray} {k i j : Nat} (H : Hd s t k) (h : digits s i = .ok () j) (hj : j ≤ k) : digits t i = .ok () j := by
  have := digits_sub (i := i) (j := j) H.sub (by rw [Nat.zero_add, Nat.zero_add]; exact h) hj
  rwa [Nat.zero_add, Nat.zero_add] at this
theorem nD_hd {s t : ByteArray} {k i : Nat} {c : Int} (H : Hd s t k) (h : nD s i = .bad k c) : i < k ∧ nD t i = .bad k 30 := by
  unfold nD at h ⊢
  split at h
  · rename_i hd
    cases hg : digits s (i + 1) with
    | bad q e =>
      rw [hg] at h
      injection h with h1 h2
      subst h1; have h3 := digits_hd H hg
      refine ⟨by omega, ?_⟩
      rw [H.same i (by omega), if_pos hd, h3.2]
      rfl
    | ok u q =>
      rw [hg] at h
      have h3 := nE_hd H (show nE s q = .bad k c from h)
      have h4 := digits_lt (show digits s (i + 1) = .ok () q from hg)
      refine ⟨by omega, ?_⟩
      rw [H.same i (by omega), if_pos hd, ok_hd H hg (by omega)]
      exact h3.2
  · rename_i hd
    have h3 := nE_hd H (show nE s i = .bad k c from h)
    refine ⟨h3.1, ?_⟩
    rw [H.same i h3.1, if_neg hd]
    exact h3.2
theorem nI_hd {s t : ByteArray} {k i : Nat} {c : Int} (H : Hd s t k) (h : nI s i = .bad k c) : i ≤ k ∧ nI t i = .bad k 30 := by
  unfold nI at h ⊢
  split at h
  · rename_i hd
    have h3 := nD_hd H (show nD s (i + 1) = .bad k c from h)
    refine ⟨by omega, ?_⟩
    rw [H.same i (by omega), if_pos hd]
    exact h3.2
  · rename_i hd
    cases hg : digits s i with
    | bad q e =>
      rw [hg] at h
      injection h with h1 h2
      subst h1; have h3 := digits_hd H hg
      obtain ⟨rfl, h3⟩ := h3
      refine ⟨by omega, ?_⟩
      rw [H.last, if_neg (by omega), h3]
      rfl
    | ok u q =>
      rw [hg] at h
      have h3 := nD_hd H (show nD s q = .bad k c from h)
      have h4 := digits_lt (show digits s i = .ok () q from hg)
      refine ⟨by omega, ?_⟩
      rw [H.same i (by omega), if_neg hd, ok_hd H hg (by omega)]
      exact h3.2
theorem number_hd {s t : ByteArray} {k i : Nat} {c : Int} (H : Hd s t k) (h : number s i = .bad k c) : number t i = .bad k 30 := by
  unfold number at h ⊢
  split at h
  · rename_i hd
    have h3 := nI_hd H h
    rw [H.same i (by omega), if_pos hd]
    exact h3.2
  · rename_i hd
    have h3 := nI_hd H h
    by_cases hk : i < k
    · rw [H.same i hk, if_neg hd]
      exact h3.2
    · obtain rfl : i = k := by omega
      rw [H.last, if_neg (by omega)]
      exact h3.2
theorem hexN_hd {s t : ByteArray} {k : Nat} (H : Hd s t k) : ∀ (n : Nat) {i m : Nat} {c : Int}, i ≤ s.size → hexN s n i m = .bad k c → hexN t n i m = .bad k 30 := by
  intro n
  induction n with
  | zero => intro i m c _ h; cases h
  | succ n ih =>
    intro i m c hi h
    rw [hexN] at h ⊢
    cases hv : hexv (hnd s i) with
    | none =>
      rw [hv] at h
      injection h with h1 _
      subst h1; rw [H.last, hexv0]
    | some d =>
      rw [hv] at h
      have hi : i < s.size := by
        by_cases c : i < s.size
        · exact c
        · rw [hnd_out c, hexv0] at hv; cases hv
      have := hexN_sn n (s := s) (i := i + 1) (m := m * 16 + d) hi
      rw [show hexN s n (i + 1) (m * 16 + d) = .bad k c from h] at this
      rw [H.same i this.1, hv]
      exact ih hi h
theorem unit_hd {s t : ByteArray} {k i : Nat} {c : Int} (H : Hd s t k) (h : unit s i = .bad k c) : unit t i = .bad k 30 := by
  unfold unit at h ⊢
  split at h
  · rename_i hd
    have hi := hnd_pos hd (by omega)
    have := hexN_sn 4 (s := s) (i := i + 1) (m := 0) hi
    rw [h] at this
    rw [H.same i this.1, if_pos hd]
    exact hexN_hd H 4 hi h
  · injection h with h1 _
    subst h1; rw [H.last, if_neg (by omega)]
theorem escU_ok (s : ByteArray) (u i : Nat) : ∃ r j, escU s u i = .ok r j := by
  unfold escU
  split
  · split
    · rename_i hp
      obtain ⟨l, hl⟩ := pair_unit hp
      rw [hl]
      exact ⟨_, _, rfl⟩
    · exact ⟨_, _, rfl⟩
  · exact ⟨_, _, rfl⟩
theorem escape_hd {s t : ByteArray} {k i : Nat} {c : Int} (H : Hd s t k) (hi : i ≤ s.size) (h : escape s i = .bad k c) : escape t i = .bad k 30 := by
  unfold escape at h ⊢
  cases hv : escV (hnd s i) with
  | some v => rw [hv] at h; cases h
  | none =>
    rw [hv] at h
    cases hu : unit s i with
    | ok u j =>
      rw [hu] at h
      obtain ⟨r, j2, h2⟩ := escU_ok s u j
      rw [show (Res.ok u j : Res Nat).bind (fun u j => escU s u j) = escU s u j from rfl, h2] at h
      cases h
    | bad q e =>
      rw [hu] at h
      injection h with h1 h2
      subst h1; have h3 := unit_hd H hu
      have h4 := unit_sn hi
      rw [hu] at h4
      by_cases hk : i < q
      · rw [H.same i hk, hv]
        show (unit t i).bind _ = _
        rw [h3]; rfl
      · have h5 : i ≤ q := h4.1
        obtain rfl : i = q := by omega
        rw [H.last, escV0]
        show (unit t i).bind _ = _
        rw [h3]; rfl
theorem txt_hd {s t : ByteArray} {k : Nat} (H : Hd s t k) : ∀ (f f' : Nat) {i : Nat} {acc : List UInt8} {c : Int}, i ≤ s.size → s.size < i + f → k < i + f' → txt s f i acc = .bad k c → txt t f' i acc = .bad k 30 := by
  intro f
  induction f with
  | zero => intro f' i acc c h1 h2 _ _; omega
  | succ f ih =>
    intro f' i acc c hi hf hf' h
    have hsn := txt_sn (f + 1) (acc := acc) hi hf
    rw [h] at hsn
    have hik : i ≤ k := hsn.1
    obtain ⟨g, rfl⟩ : ∃ g, f' = g + 1 := ⟨f' - 1, by omega⟩
    by_cases hk : i < k
    · rw [txt] at h ⊢
      rw [H.same i hk]
      split at h
      · cases h
      rename_i c1
      rw [if_neg c1]
      split at h
      · injection h with h1 _; omega
      rename_i c2
      rw [if_neg c2]
      split at h
      · rename_i c3
        rw [if_pos c3]
        have hi1 : i + 1 ≤ s.size := hnd_pos c3 (by omega)
        cases he : escape s (i + 1) with
        | bad q e =>
          rw [he] at h
          injection h with h1 _
          subst h1; rw [escape_hd H hi1 he]
          rfl
        | ok r j =>
          rw [he] at h
          have h3 := escape_sn hi1
          rw [he] at h3
          have h5 : i + 1 ≤ j := h3.1
          have h6 : j ≤ s.size := h3.2
          have h4 := txt_sn f (i := j) (acc := acc ++ Lib.encodeRune r) h6 (by omega)
          rw [show txt s f j (acc ++ Lib.encodeRune r) = .bad k c from h] at h4
          have h7 := escape_sub (i := i + 1) (j := j) (r := r) H.sub (by rw [Nat.zero_add, Nat.zero_add]; exact he) h4.1
          rw [Nat.zero_add, Nat.zero_add] at h7
          rw [h7]
          exact ih g h6 (by omega) (by omega) (show txt s f j (acc ++ Lib.encodeRune r) = .bad k c from h)
      · rename_i c3
        rw [if_neg c3]
        cases hn : nxt s i with
        | none => rw [hn] at h; injection h with h1 _; omega
        | some z =>
          rw [hn] at h
          have hz := nxt_pos hn
          have hil : i < s.size := by have := H.le; omega
          have hd := dec_in s i hil
          have he : z = (Utf8.decode s i).2 := by unfold nxt at hn; split at hn; cases hn; injection hn with hn; exact hn.symm
          rw [← he] at hd
          have h4 := txt_sn f (i := i + z) (acc := acc ++ (s.extract i (i + z)).data.toList) hd (by omega)
          rw [show txt s f (i + z) (acc ++ (s.extract i (i + z)).data.toList) = .bad k c from h] at h4
          have h5 : i + z ≤ k := h4.1
          have h6 := nxt_sub (i := i) (z := z) H.sub (by rw [Nat.zero_add]; exact hn) h5 hz
          have h7 := cut_same (i := i) (z := z) H.sub h5
          rw [Nat.zero_add] at h6 h7
          rw [h6]
          show txt t g (i + z) (acc ++ (t.extract i (i + z)).data.toList) = _
          rw [h7]
          exact ih g hd (by omega) (by omega) h
    · obtain rfl : i = k := by omega
      rw [txt, H.last, if_neg (by omega), if_pos (by omega)]
theorem text_hd {s t : ByteArray} {k i : Nat} {c : Int} (H : Hd s t k) (hi : i < s.size) (h : text s i = .bad k c) : text t i = .bad k 30 := by
  unfold text at h ⊢
  have := H.size
  exact txt_hd H _ _ (i := i + 1) hi (by omega) (by omega) h
theorem skip_hd {s t : ByteArray} {k i m : Nat} (H : Hd s t k) (h : skip isBl s i = m) (hm : m ≤ k) : skip isBl t i = m := by
  have := skip_sub (p := isBl) (i := i) (m := m) bl0 H.sub (by rw [Nat.zero_add, Nat.zero_add]; exact h) (by
    by_cases c : m < k
    · exact .inl c
    · exact .inr ⟨by omega, by rw [Nat.zero_add, H.last]; rfl⟩)
  rwa [Nat.zero_add, Nat.zero_add] at this
theorem wd_ok_hd {s t : ByteArray} {k i j : Nat} {l : List Nat} (H : Hd s t k) (h : wd s l i = .ok () j) (hj : j ≤ k) : wd t l i = .ok () j := by
  have := wd_sub (i := i) (j := j) H.sub l (by rw [Nat.zero_add, Nat.zero_add]; exact h)
  rw [Nat.zero_add, Nat.zero_add] at this
  exact this hj
theorem pval_ok_hd {s t : ByteArray} {k d i j : Nat} {v : JV} (H : Hd s t k) (h : pval s d i = .ok v j) (hj : j ≤ k) : pval t d i = .ok v j := by
  have := pval_sub H.sub d i v j (by rw [Nat.zero_add, Nat.zero_add]; exact h) hj
  rwa [Nat.zero_add, Nat.zero_add] at this
theorem text_ok_hd {s t : ByteArray} {k i j : Nat} {l : List UInt8} (H : Hd s t k) (h : text s i = .ok l j) (hj : j ≤ k) : text t i = .ok l j := by
  have := text_sub (i := i) (j := j) H.sub (by rw [Nat.zero_add, Nat.zero_add]; exact h) hj
  rwa [Nat.zero_add, Nat.zero_add] at this
section
variable {s t : ByteArray} {k : Nat} (H : Hd s t k) {pv pw : Nat → Res JV} (hp : ∀ i v j, pv i = .ok v j → i < j) (hv : ∀ i, i ≤ s.size → Sn s i (pv i)) (hok : ∀ i v j, pv i = .ok v j → j ≤ k → pw i = .ok v j) (hbad : ∀ i c, i ≤ s.size → pv i = .bad k c → pw i = .bad k 30)
include H hp hv hok hbad
theorem lst_hd : ∀ (f f' : Nat) {i : Nat} {acc : List JV} {c : Int}, i ≤ s.size → s.size < i + f → k < i + f' → lst s pv f i acc = .bad k c → lst t pw f' i acc = .bad k 30 := by
  intro f
  induction f with
  | zero => intro f' i acc c h1 h2 _ _; omega
  | succ f ih =>
    intro f' i acc c hi hf hf' h
    have hsn := lst_sn hp hv (f + 1) (acc := acc) hi hf
    rw [h] at hsn
    have hik : i ≤ k := hsn.1
    obtain ⟨g, rfl⟩ : ∃ g, f' = g + 1 := ⟨f' - 1, by omega⟩
    rw [lst] at h ⊢
    have h93 : ¬ hnd t i = 93 := by
      by_cases hk : i < k
      · rw [H.same i hk]
        intro e
        rw [if_pos e] at h
        cases h
      · obtain rfl : i = k := by omega
        rw [H.last]; omega
    rw [if_neg h93]
    split at h
    · cases h
    have key : ∀ m, i ≤ m → m ≤ s.size → ((pv m).bind fun v q => lst s pv f (skip isBl s q) (acc ++ [v])) = .bad k c → ((pw m).bind fun v q => lst t pw g (skip isBl t q) (acc ++ [v])) = .bad k 30 := by
      intro m hm hms h
      have h1 := hv m hms
      cases hw : pv m with
      | bad q e =>
        rw [hw] at h
        injection h with h2 _
        subst h2; rw [hbad m e hms hw]
        rfl
      | ok v q =>
        rw [hw] at h h1
        have h2 := hp _ _ _ hw
        have h3 : q ≤ s.size := h1.2
        have h4 := skip_ge (p := isBl) s q
        have h5 := lst_sn hp hv f (i := skip isBl s q) (acc := acc ++ [v]) (skip_in h3) (by omega)
        rw [show lst s pv f (skip isBl s q) (acc ++ [v]) = .bad k c from h] at h5
        have h6 : skip isBl s q ≤ k := h5.1
        rw [hok m v q hw (by omega)]
        show lst t pw g (skip isBl t q) (acc ++ [v]) = _
        rw [skip_hd H rfl h6]
        exact ih g (skip_in h3) (by omega) (by omega) h
    by_cases ha : acc.length = 0
    · rw [if_pos ha] at h ⊢
      exact key i (Nat.le_refl _) hi h
    · rw [if_neg ha] at h ⊢
      cases hw : wd s [44] i with
      | bad q e =>
        rw [hw] at h
        injection h with h2 _
        subst h2; rw [wd_hd H (by decide) hw]
        rfl
      | ok u q =>
        rw [hw] at h
        have h1 := wd_sn (l := [44]) (by decide) hi
        rw [hw] at h1
        have h3 : q ≤ s.size := h1.2
        have h2 := wd_lt (show wd s [44] i = .ok () q from hw)
        have h4 := skip_ge (p := isBl) s q
        change ((pv (skip isBl s q)).bind fun v q => lst s pv f (skip isBl s q) (acc ++ [v])) = .bad k c at h
        have h5 : skip isBl s q ≤ k := by
          have := Sn.bind (hv (skip isBl s q) (skip_in h3)) (fun v q2 hq h6 h7 => (lst_sn hp hv f (i := skip isBl s q2) (acc := acc ++ [v]) (skip_in h7) (by have := hp _ _ _ hq; have := skip_ge (p := isBl) s q2; rw [List.length_singleton] at h2; omega)).le (skip_ge s q2))
          rw [h] at this
          exact this.1
        rw [wd_ok_hd H hw (by omega)]
        show ((pw (skip isBl t q)).bind fun v q => lst t pw g (skip isBl t q) (acc ++ [v])) = _
        rw [skip_hd H rfl h5]
        exact key _ (by omega) (skip_in h3) h
theorem obj_hd : ∀ (f f' : Nat) {i : Nat} {fl : Bool} {acc : List JF} {c : Int}, i ≤ s.size → s.size < i + f → k < i + f' → obj s pv f i fl acc = .bad k c → obj t pw f' i fl acc = .bad k 30 := by
  intro f
  induction f with
  | zero => intro f' i fl acc c h1 h2 _ _; omega
  | succ f ih =>
    intro f' i fl acc c hi hf hf' h
    have hsn := obj_sn hp hv (f + 1) (fl := fl) (acc := acc) hi hf
    rw [h] at hsn
    have hik : i ≤ k := hsn.1
    obtain ⟨g, rfl⟩ : ∃ g, f' = g + 1 := ⟨f' - 1, by omega⟩
    rw [obj] at h ⊢
    have h93 : ¬ hnd t i = 125 := by
      by_cases hk : i < k
      · rw [H.same i hk]
        intro e
        rw [if_pos e] at h
        cases h
      · obtain rfl : i = k := by omega
        rw [H.last]; omega
    rw [if_neg h93]
    split at h
    · cases h
    have val : ∀ (m : Nat) (tx : List UInt8), i < m → m ≤ s.size → ((pv m).bind fun v n => obj s pv f (skip isBl s n) false (putF acc ⟨tx.toArray⟩ v)) = .bad k c → m ≤ k ∧ ((pw m).bind fun v n => obj t pw g (skip isBl t n) false (putF acc ⟨tx.toArray⟩ v)) = .bad k 30 := by
      intro m tx hm hms h
      have h1 := hv m hms
      cases hw : pv m with
      | bad q e =>
        rw [hw] at h h1
        injection h with h2 _
        subst h2; rw [hbad m e hms hw]
        exact ⟨h1.1, rfl⟩
      | ok v q =>
        rw [hw] at h h1
        have h2 := hp _ _ _ hw
        have h3 : q ≤ s.size := h1.2
        have h4 := skip_ge (p := isBl) s q
        have h5 := obj_sn hp hv f (i := skip isBl s q) (fl := false) (acc := putF acc ⟨tx.toArray⟩ v) (skip_in h3) (by omega)
        rw [show obj s pv f (skip isBl s q) false (putF acc ⟨tx.toArray⟩ v) = .bad k c from h] at h5
        have h6 : skip isBl s q ≤ k := h5.1
        refine ⟨by omega, ?_⟩
        rw [hok m v q hw (by omega)]
        show obj t pw g (skip isBl t q) false (putF acc ⟨tx.toArray⟩ v) = _
        rw [skip_hd H rfl h6]
        exact ih g (skip_in h3) (by omega) (by omega) h
    have fkey : ∀ (q : Nat) (tx : List UInt8), i < q → q ≤ s.size → fld s pv f acc tx q = .bad k c → q ≤ k ∧ fld t pw g acc tx q = .bad k 30 := by
      intro q tx hq hqs h
      unfold fld at h ⊢
      have k1 := skip_ge (p := isBl) s q
      have k2 := skip_in (p := isBl) hqs
      have h1 := wd_sn (l := [58]) (by decide) k2
      cases hw : wd s [58] (skip isBl s q) with
      | bad q2 e =>
        rw [hw] at h h1
        injection h with h2 _
        subst h2; have h3 : skip isBl s q ≤ q2 := h1.1
        refine ⟨by omega, ?_⟩
        rw [skip_hd H rfl h3, wd_hd H (by decide) hw]
        rfl
      | ok u m =>
        rw [hw] at h h1
        have h3 : m ≤ s.size := h1.2
        have h2 := wd_lt (show wd s [58] (skip isBl s q) = .ok () m from hw)
        rw [List.length_singleton] at h2
        have k3 := skip_ge (p := isBl) s m
        have h4 := val (skip isBl s m) tx (by omega) (skip_in h3) h
        refine ⟨by omega, ?_⟩
        rw [skip_hd H rfl (by omega), wd_ok_hd H hw (by omega)]
        show ((pw (skip isBl t m)).bind fun v n => obj t pw g (skip isBl t n) false (putF acc ⟨tx.toArray⟩ v)) = _
        rw [skip_hd H rfl h4.1]
        exact h4.2
    have key : ∀ m, i ≤ m → m ≤ s.size → (if hnd s m = 34 then (text s m).bind fun l k => fld s pv f acc l k else .bad m 30) = .bad k c → m ≤ k ∧ (if hnd t m = 34 then (text t m).bind fun l k => fld t pw g acc l k else .bad m 30) = .bad k 30 := by
      intro m hm hms h
      split at h
      · rename_i c1
        have hml := hnd_pos c1 (by omega)
        have h1 := text_sn hml
        cases ht : text s m with
        | bad q e =>
          rw [ht] at h h1
          injection h with h2 _
          subst h2; have h3 : m ≤ q := h1.1
          have h4 := text_hd H hml ht
          refine ⟨h3, ?_⟩
          by_cases hk : m < q
          · rw [H.same m hk, if_pos c1, h4]; rfl
          · obtain rfl : m = q := by omega
            rw [H.last, if_neg (by omega)]
        | ok tx q =>
          rw [ht] at h h1
          have h2 := (text_len ht).2
          have h3 := fkey q tx (by omega) h1.2 h
          refine ⟨by omega, ?_⟩
          rw [H.same m (by omega), if_pos c1, text_ok_hd H ht h3.1]
          exact h3.2
      · injection h with h1 _
        subst h1; refine ⟨Nat.le_refl _, ?_⟩
        rw [H.last, if_neg (by omega)]
    by_cases ha : fl = true
    · rw [if_pos ha] at h ⊢
      exact (key i (Nat.le_refl _) hi h).2
    · rw [if_neg ha] at h ⊢
      cases hw : wd s [44] i with
      | bad q e =>
        rw [hw] at h
        injection h with h2 _
        subst h2; rw [wd_hd H (by decide) hw]
        rfl
      | ok u q =>
        rw [hw] at h
        have h1 := wd_sn (l := [44]) (by decide) hi
        rw [hw] at h1
        have h3 : q ≤ s.size := h1.2
        have h2 := wd_lt (show wd s [44] i = .ok () q from hw)
        have h4 := skip_ge (p := isBl) s q
        have h5 := key (skip isBl s q) (by omega) (skip_in h3) h
        rw [wd_ok_hd H hw (by omega)]
        show (if hnd t (skip isBl t q) = 34 then (text t (skip isBl t q)).bind fun l k => fld t pw g acc l k else .bad (skip isBl t q) 30) = _
        rw [skip_hd H rfl h5.1]
        exact h5.2
theorem brk_hd {i : Nat} {c : Int} (hi : i < s.size) (h9 : hnd s i = 91 ∨ hnd s i = 123) (h : brk s pv i = .bad k c) : brk t pw i = .bad k 30 := by
  have k1 := skip_ge (p := isBl) s (i + 1)
  have k2 := skip_in (p := isBl) (s := s) (i := i + 1) hi
  have hsz := H.size
  unfold brk at h ⊢
  split at h
  · rename_i c1
    cases hl : lst s pv (s.size + 1) (skip isBl s (i + 1)) [] with
    | ok l q => rw [hl] at h; cases h
    | bad q e =>
      rw [hl] at h
      injection h with h1 _
      subst h1; have h2 := lst_sn hp hv (s.size + 1) (acc := []) k2 (by omega)
      rw [hl] at h2
      have h3 : skip isBl s (i + 1) ≤ q := h2.1
      rw [H.same i (by omega), if_pos c1, skip_hd H rfl h3, lst_hd H hp hv hok hbad (s.size + 1) (t.size + 1) k2 (by omega) (by omega) hl]
      rfl
  · rename_i c1
    cases hl : obj s pv (s.size + 1) (skip isBl s (i + 1)) true [] with
    | ok l q => rw [hl] at h; cases h
    | bad q e =>
      rw [hl] at h
      injection h with h1 _
      subst h1; have h2 := obj_sn hp hv (s.size + 1) (fl := true) (acc := []) k2 (by omega)
      rw [hl] at h2
      have h3 : skip isBl s (i + 1) ≤ q := h2.1
      rw [H.same i (by omega), if_neg c1, skip_hd H rfl h3, obj_hd H hp hv hok hbad (s.size + 1) (t.size + 1) k2 (by omega) (by omega) hl]
      rfl
end
theorem flat_hd {s t : ByteArray} {k : Nat} (H : Hd s t k) {br bq : Nat → Res JV} (hbs : ∀ i, i < s.size → Sn s i (br i)) (hbad : ∀ i c, i < s.size → i < k → (hnd s i = 91 ∨ hnd s i = 123) → br i = .bad k c → bq i = .bad k 30) {i : Nat} {c : Int} (hi : i ≤ s.size) (h : flat s br i = .bad k c) : flat t bq i = .bad k 30 := by
  have hsn := flat_sn hbs hi
  rw [h] at hsn
  have hik : i ≤ k := hsn.1
  by_cases hk : i < k
  · have hil : i < s.size := by have := H.le; omega
    have kw : ∀ (l : List Nat) (v0 : JV), (∀ c ∈ l, c ≠ 0) → ((wd s l i).bind fun _ j => Res.ok v0 j) = .bad k c → ((wd t l i).bind fun _ j => Res.ok v0 j) = .bad k 30 := by
      intro l v0 hl h
      cases hw : wd s l i with
      | ok u q => rw [hw] at h; cases h
      | bad q e =>
        rw [hw] at h
        injection h with h1 _
        subst h1; rw [wd_hd H hl hw]
        rfl
    unfold flat at h ⊢
    rw [H.same i hk]
    split at h
    · rename_i c1; rw [if_pos c1]; exact kw _ _ (by decide) h
    rename_i c1; rw [if_neg c1]
    split at h
    · rename_i c1; rw [if_pos c1]; exact kw _ _ (by decide) h
    rename_i c1; rw [if_neg c1]
    split at h
    · rename_i c1; rw [if_pos c1]; exact kw _ _ (by decide) h
    rename_i c1; rw [if_neg c1]
    split at h
    · rename_i c1; rw [if_pos c1]
      cases ht : text s i with
      | ok l q => rw [ht] at h; cases h
      | bad q e =>
        rw [ht] at h
        injection h with h1 _
        subst h1; rw [text_hd H hil ht]
        rfl
    rename_i c1; rw [if_neg c1]
    split at h
    · rename_i c1; rw [if_pos c1]; exact hbad i c hil hk c1 h
    rename_i c1; rw [if_neg c1]
    cases hn : number s i with
    | ok u q => rw [hn] at h; cases h
    | bad q e =>
      rw [hn] at h
      injection h with h1 _
      subst h1; rw [number_hd H hn]
      rfl
  · obtain rfl : i = k := by omega
    unfold flat
    have hl := H.last
    rw [hl, if_neg (by decide), if_neg (by decide), if_neg (by decide), if_neg (by decide), if_neg (by decide)]
    have : number t i = .bad i 30 := by
      unfold number
      rw [hl, if_neg (by decide)]
      unfold nI
      rw [hl, if_neg (by decide)]
      unfold digits
      rw [hl, if_neg (by decide)]
      rfl
    rw [this]
    rfl
theorem pval_hd {s t : ByteArray} {k : Nat} (H : Hd s t k) : ∀ (d : Nat) {i : Nat} {c : Int}, i ≤ s.size → pval s d i = .bad k c → pval t d i = .bad k 30 := by
  intro d
  induction d with
  | zero =>
    intro i c hi h
    refine flat_hd H (fun i h => ?_) (fun i c h1 h2 _ h3 => ?_) hi h
    · exact ⟨Nat.le_refl _, Nat.le_of_lt h, .inr rfl⟩
    · injection h3 with h4 _; omega
  | succ d ih =>
    intro i c hi h
    exact flat_hd H (fun i h => brk_sn (pval_lt d) (pval_sn d) h) (fun i c h1 h2 h3 h4 => brk_hd H (pval_lt d) (pval_sn d) (fun i v j h hj => pval_ok_hd H h hj) (fun i c h5 h6 => ih h5 h6) h1 h3 h4) hi h
theorem parse_sn (s : ByteArray) : (∃ v, parse s = .ok v 0) ∨ ∃ k c, parse s = .bad k c ∧ k ≤ s.size ∧ (c = 30 ∨ c = 31) := by
  have h0 : skip isBl s 0 ≤ s.size := skip_in (Nat.zero_le _)
  have h1 := pval_sn 64 _ h0
  unfold parse
  cases hv : pval s 64 (skip isBl s 0) with
  | bad k c => rw [hv] at h1; exact .inr ⟨k, c, rfl, h1.2⟩
  | ok v j =>
    rw [hv] at h1
    show (∃ w, (if skip isBl s j < s.size then Res.bad (skip isBl s j) 30 else Res.ok v 0) = .ok w 0) ∨ ∃ k c, (if skip isBl s j < s.size then Res.bad (skip isBl s j) 30 else Res.ok v 0) = .bad k c ∧ k ≤ s.size ∧ (c = 30 ∨ c = 31)
    split
    · exact .inr ⟨_, _, rfl, skip_in h1.2, .inl rfl⟩
    · exact .inl ⟨v, rfl⟩
/-- Where a text is refused, what stands ahead is a text, or is refused at its end. -/
theorem parse_head {s : ByteArray} {k : Nat} {c : Int} (h : parse s = .bad k c) : (∃ v, parse (s.extract 0 k) = .ok v 0 ∧ c = 30) ∨ parse (s.extract 0 k) = .bad k 30 := by
  have hk : k ≤ s.size := by
    rcases parse_sn s with ⟨v, hv⟩ | ⟨k2, c2, hb, h1, _⟩
    · rw [hv] at h; cases h
    · rw [hb] at h; injection h with h2 _; omega
  have H : Hd s (s.extract 0 k) k := by
    have hz : (s.extract 0 k).size = k := by rw [ByteArray.size_extract]; omega
    refine ⟨fun q hq => ?_, hz, hk⟩
    rw [hnd_eq (by omega), hnd_eq (by omega), ByteArray.getElem_extract]
    congr 1
    congr 1
    omega
  have hz := H.size
  have h0 : skip isBl s 0 ≤ s.size := skip_in (Nat.zero_le _)
  have h1 := pval_sn 64 _ h0
  unfold parse at h
  cases hv : pval s 64 (skip isBl s 0) with
  | bad q e =>
    rw [hv] at h h1
    injection h with h2 _
    subst h2; have h3 : skip isBl s 0 ≤ q := h1.1
    refine .inr ?_
    unfold parse
    rw [skip_hd H rfl h3, pval_hd H 64 h0 hv]
    rfl
  | ok v j =>
    rw [hv] at h h1
    change (if skip isBl s j < s.size then Res.bad (skip isBl s j) 30 else Res.ok v 0) = .bad k c at h
    split at h
    · injection h with h2 h3
      have h4 := skip_ge (p := isBl) s j
      have h5 := pval_lt 64 _ _ _ hv
      refine .inl ⟨v, ?_, h3.symm⟩
      unfold parse
      rw [skip_hd H rfl (by omega), pval_ok_hd H hv (by omega)]
      show (if skip isBl (s.extract 0 k) j < (s.extract 0 k).size then _ else _) = _
      rw [skip_hd H h2 (Nat.le_refl _), hz, if_neg (by omega)]
    · cases h
end Go.Proofs.YtienoadaflmkdaaDoor.Q
