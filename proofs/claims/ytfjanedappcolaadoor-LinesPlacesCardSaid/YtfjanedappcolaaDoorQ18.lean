-- Written by this repo's wip/xprint.py (over the kit's print.py) out of the translation. Not trusted: Lean checks it.
import Derived.Test.YtfjanedappcolaaDoorQ0
namespace Go.Proofs.YtfjanedappcolaaDoor.Q
open Go.RowKit Go.Proofs.YtfjanedappcolaaDoorW.PrintWords Go.Proofs.YtfjanedappcolaaDoorW.PrintLast Go.Proofs.YtfjanedappcolaaDoorW.PrintMore
attribute [local go_sem] max2_int min2_int max_two min_two max_three min_three max_four min_four   -- for this text's walks alone
set_option linter.unusedVariables false
set_option linter.unusedSimpArgs false

/-! ### lines_with: function 45 -/
def lines_with.f (l0 : List Int) (l1 : List Int) : Option (List Int) := if l0.length + l1.length < 17592186044416 then (some (l0 ++ l1)) else (none)
set_option maxHeartbeats 8000000 in
set_option maxRecDepth 100000 in
theorem lines_with.calls (P0_ : Nat → Prop) (u9000_ : Value) (l0 : List Int) (A1 : Option Addr) (c1 : Nat) (l1 : List Int) (r : List Int) (w0 w : World) (hB : Below w0.heap.size w0 w) (ho0 : Kd.R (Kd.int .i64) 3 w w0.heap.size P0_ u9000_ l0) (hr1 : ∀ W_, Kept w W_ (fun k_ => P0_ k_) → Kd.C (Kd.int .i64) W_ A1 l1.length l1) (hc1 : l1.length ≤ c1) (h : lines_with.f l0 l1 = some r) :
    Calls Tryd.prog 45 #[u9000_, .slice A1 l1.length c1] w fun e w' => ∃ v0_ : Value, e = .returned (v0_) ∧ Kd.R (Kd.int .i64) 3 w' w0.heap.size (fun k_ => (P0_ k_ ∨ w.heap.size ≤ k_)) v0_ r ∧ Below w0.heap.size w0 w' ∧ Kept w w' (fun k_ => P0_ k_) := by
  have HO0 := Aside0.mk (show Kd.R (Kd.int .i64) 3 w w0.heap.size (fun k_ => (P0_ k_ ∨ w.heap.size ≤ k_)) u9000_ l0 from Kd.R_mono ho0 (fun k_ hk => (.inl hk)))
  have HR1 := Aside0.mk hr1
  have HC1 := Aside0.mk hc1
  clear hr1 hc1
  have HK := Aside0.mk (Kept.refl w (fun k_ => P0_ k_))
  have HW0 := Aside0.mk hB.size
  have HB := Aside0.mk hB
  clear hB
  have H : (if l0.length + l1.length < 17592186044416 then (some (l0 ++ l1)) else (none)) = some r := h
  clear h
  by_cases c3 : l0.length + l1.length < 17592186044416
  · rw [if_pos c3] at H
    have LMc3 := Aside0.mk c3
    clear c3
    obtain ⟨y269, hy269⟩ : ∃ y_ : List Int, y_ = (l0 ++ l1) := ⟨_, rfl⟩
    replace H : (some y269) = some r := by first | (rw [hy269]; with_reducible exact H) | (have H2_ := (Option.bind_some _ _).symm.trans H; rw [hy269]; with_reducible exact H2_) | (have H2_ := (Option.bind_some _ _).symm.trans H; with_reducible exact H2_) | with_reducible exact H | (rw [hy269]; exact H) | exact H
    have Ny269 := Aside0.mk hy269
    clear hy269
    obtain rfl := Option.some.inj H
    go_enter Tryd.func45, Tryd.ntmps45
    go_wp2_with (first | ((with_reducible refine gate_builtin (b := .append) (xs := #[.tmp 5, .tmp 6]) rfl ?_); at_builtin; refine Kd.R_append_rows (Kd.int .i64) (w0 := w0) w0.heap.size rfl (.tmp 5) (.tmp 6) 46 3 (.int .i64 0) 8 rfl Tryd.underlying46 info3 rfl (by decide) (by omega) u9000_ l0 l1 _ _ _ (fun k_ => (P0_ k_ ∨ w.heap.size ≤ k_)) (fun _ => False) rfl rfl ?aO ?aR (fun _ _ h => h) (fun _ h => h.elim) ?aF ?aB ?aS ?aL ?_; (case aR => exact Kd.C_kept_now HR1.out (by repeat (first | (with_reducible first | exact HK.out | apply Kept.alloc | apply Kept.drewN | apply Kept.drew) | exact HK.out))); (case aB => exact (by repeat (first | (with_reducible first | exact HB.out | apply below_alloc | apply pw_below_drewN | apply below_drew1) | exact HB.out))); (case aF => exact (fun k_ hk => (.inr (Nat.le_trans (by first | exact HK.out.1 | exact (show Kept w _ (fun k_ => P0_ k_) from by repeat (first | (with_reducible first | exact HK.out | apply Kept.alloc | apply Kept.drewN | apply Kept.drew) | exact HK.out)).1) hk)))); (case aO => exact (by (with_reducible repeat (first | apply Kd.R_alloc | apply Kd.R_drewN | apply Kd.R_drew)); exact HO0.out)); (case aS => exact (below_size (by repeat (first | (with_reducible first | exact HB.out | apply below_alloc | apply pw_below_drewN | apply below_drew1) | exact HB.out)))); (case aL => have := LMc3.out; omega); intro v270 w4 ho hb hg hat; rw [← Ny269.out] at ho; have n0_ := Aside0.mk (hb); have n1_ := Aside0.mk (Kept.of_grown (S := (fun k_ => P0_ k_)) hg (by repeat (first | (with_reducible first | exact HK.out | apply Kept.alloc | apply Kept.drewN | apply Kept.drew) | exact HK.out)) (fun k_ e_ => (HO0.out.1 k_ e_))); have n2_ := Aside0.mk (ho); clear HB; clear HK; clear HO0; have HB := n0_; have HK := n1_; have HO271 := n2_; clear n0_ n1_ n2_; clear ho hb hg hat))
    go_ret
    exact ⟨_, by first | rfl | (simp [errW_none, errW_some] <;> rfl) | (simp [*, errW_none, errW_some] <;> rfl), by (with_reducible repeat (first | apply Kd.R_alloc | apply Kd.R_drewN | apply Kd.R_drew)); exact HO271.out, by repeat (first | (with_reducible first | exact HB.out | apply below_alloc | apply pw_below_drewN | apply below_drew1) | exact HB.out), by repeat (first | (with_reducible first | exact HK.out | apply Kept.alloc | apply Kept.drewN | apply Kept.drew) | exact HK.out)⟩
  · rw [if_neg c3] at H
    exact absurd H (by simp)

/-! ### lines_Starts: function 32 (by hand) -/
attribute [local go_sem] Oper.semAt_some
theorem lnsFrom_len {s : ByteArray} : ∀ f n a, (lnsFrom s f n a).length ≤ f + 1
  | 0, _, _ => by simp [lnsFrom]
  | f + 1, n, a => by
    unfold lnsFrom
    split
    · simp
    · have := lnsFrom_len (s := s) f (n + 1) (nxt s (a + (kf s a).toNat))
      simp only [List.length_cons]; omega
def begs {s : ByteArray} (l : List (Ln s)) : List Int := l.map fun x => (x.1.2.1 : Int)
def lines_Starts.f (a0 : ByteArray) : Option (List Int) := if a0.size < 4294967281 then some (begs (lns a0)) else none
/-- The blocks of whole numbers that were laid since. -/
def OwnInts (w W : World) (k : Nat) : Prop := w.heap.size ≤ k ∧ k < W.heap.size ∧ ∃ cells, W.heap[k]? = some (.cells cells 3 (0, 0))
theorem ownInts_of {w W : World} {v : Value} {xs : List Int} (h : Kd.R (Kd.int .i64) 3 W w.heap.size (fun _ => True) v xs) : Kd.R (Kd.int .i64) 3 W w.heap.size (OwnInts w W) v xs :=
  Kd.R_mono (Kd.R_bound h) (fun k hk => ⟨hk.2.1, hk.2.2.1, by
    obtain ⟨q, hq, c, hc⟩ := hk.2.2.2
    have : q = 3 := by simpa [Kd.int, Kd.scalar] using hq
    subst this; exact ⟨c, hc⟩⟩)
theorem boxed_ints {w W : World} {B : Nat} {t : TypeId} {v : Value} (h : Boxed W B t v) (hk : OwnInts w W B) (ht : t ≠ 3 := by decide) : False := by
  obtain ⟨_, _, cells, hc⟩ := hk
  rw [show W.heap[B]? = _ from h] at hc
  injection hc with hc
  injection hc with _ hc
  exact ht hc
theorem keeps_ints {w W w' : World} {B : Nat} {o : Obj} (h : Kept (W.alloc o) w' (fun k_ => OwnInts w W k_)) : KeepsFrom B (W.alloc o) w' := by
  refine ⟨h.1, fun k o' _ hk ho => ?_⟩
  refine (h.2 k (Array.getElem?_eq_some_iff.1 hk).1 (fun hw => ?_)).trans hk
  obtain ⟨_, hlt, cells, hc⟩ := hw
  rw [Below.heap_alloc W o k hlt, hc] at hk
  cases hk
  cases ho
theorem rowInts_own {β : Type} (w : World) (B : Nat) (t : TypeId) (f : β → List Int) : Own (fun s W => ∃ v, Boxed W B t v ∧ Kd.R (Kd.int .i64) 3 W w.heap.size (fun _ => True) v (f s)) := by
  rintro s X Y row ⟨v, hv, hR⟩ hg hrow
  refine ⟨v, hv.kept hg (fun e' => ?_), Kd.R_mono (Kd.R_step (ownInts_of hR) (fun k hk hlt => hg.block k hlt (fun e => ?_))) (fun _ _ => trivial)⟩
  · obtain ⟨o, ho, hc⟩ := hrow B e'.symm
    rw [show X.heap[B]? = _ from hv] at ho; cases ho; cases hc
  · obtain ⟨o, ho, hc⟩ := hrow k e.symm
    obtain ⟨_, _, cells, hcc⟩ := hk
    rw [hcc] at ho; cases ho; cases hc
set_option maxRecDepth 100000 in
set_option maxHeartbeats 2000000 in
theorem lines_Starts.calls (a0 : ByteArray) (r : List Int) (w : World) (h : lines_Starts.f a0 = some r) :
    Calls Tryd.prog 32 #[.string a0] w fun e w' => ∃ v0_ : Value, e = .returned v0_ ∧ Kd.R (Kd.int .i64) 3 w' w.heap.size (fun _ => True) v0_ r ∧ Below w.heap.size w w' := by
  unfold lines_Starts.f at h
  split at h
  case isFalse => cases h
  rename_i hs
  obtain rfl := Option.some.inj h
  refine (callsIn_wide (n := 3)).1 ?_
  refine callsIn_of_wp_marks Tryd.func32 rfl trivial ?_ rfl
  simp only [Tryd.ntmps32, List.size_toArray, List.length_cons, List.length_nil, Nat.reduceAdd, Nat.reduceSub, Array.replicate_succ, Array.replicate_zero, List.push_toArray, List.append_toArray, List.nil_append, List.cons_append]
  gi_wp2_with (refine ⟨trivial, ?_⟩; gi_at_call 42; refine (each_in _ _ _).mono ?_; rintro e w' ⟨rfl, rfl⟩)
  have bL := (Boxed.new w 46 (.slice none 0 0)).alloc (.cells #[.string a0] 9)
  have bS := Boxed.new (w.alloc (.cells #[.slice none 0 0] 46)) 9 (.string a0)
  have hB0 : Below w.heap.size w ((w.alloc (.cells #[.slice none 0 0] 46)).alloc (.cells #[.string a0] 9)) := ((Below.refl _ w).alloc (Nat.le_refl _) _).alloc (by simp) _
  simp only [World.size_alloc] at bS
  obtain ⟨W0, hW0⟩ : ∃ W0, ((w.alloc (.cells #[.slice none 0 0] 46)).alloc (.cells #[.string a0] 9)) = W0 := ⟨_, rfl⟩
  have hsz : W0.heap.size = w.heap.size + 2 := by rw [← hW0]; simp
  rw [hW0] at bL bS hB0 ⊢
  clear hW0
  refine wpIn_rangeFunc_ownH rfl (by decide) (gf := 51) (lb := #[.pointer (some ⟨w.heap.size + 1, 0, none⟩)]) rfl trivial (enters_of Tryd.func51 (by kernel_rfl) rfl)
    (each_stops a0 hs 2 (by decide) (w.heap.size + 1) _ bS) kbox_t (kbox_b (by omega)) (Below.refl _ _) (fun _ => rfl)
    (fun pre W => ((∃ v, Boxed W w.heap.size 46 v ∧ Kd.R (Kd.int .i64) 3 W w.heap.size (fun _ => True) v (begs pre)) ∧ Boxed W (w.heap.size + 1) 9 (.string a0)) ∧ Below w.heap.size w W)
    (fun _ _ _ => False)
    (OwnFrom.and (OwnFrom.and (Own.from (rowInts_own w _ _ (fun pre => begs pre)) _) (Own.from (boxed_own _ _ _) _)) (ownFrom_below (Nat.le_refl _) (by omega)))
    (fun _ _ _ _ _ hs _ _ => hs)
    ⟨⟨⟨_, bL, Kd.R_nil _ _ _ _ _⟩, bS⟩, hB0⟩
    (fun x a' W => ∃ Bx, w.heap.size + 1 < Bx ∧ Boxed2 W Bx 40 (.int .i64 x.1.2.1) (.int .i64 x.1.2.2) ∧ a' = { tmps := #[.string a0, undef, .slice none 0 0, .pointer (some ⟨w.heap.size, 0, none⟩), undef, .pointer (some ⟨Bx, 0, none⟩), .string a0, .func (.func 51) #[] #[.pointer (some ⟨w.heap.size + 1, 0, none⟩)], .int .i64 x.1.1, .agg #[.int .i64 x.1.2.1, .int .i64 x.1.2.2], undef, undef, undef, undef, undef, undef], defers := [] })
    (fun x a' _ X Y row hs hg hr => by obtain ⟨Bx, h1, h2, h3⟩ := hs; exact ⟨Bx, h1, boxed2_own Bx _ (fun (_ : Unit) => Value.int .i64 x.1.2.1) (fun (_ : Unit) => Value.int .i64 x.1.2.2) () X Y row h2 hg (fun r e => (hr r e).2), h3⟩)
    ?assign ?body ?done ?stop
  case assign =>
    rintro l pre x W K ⟨⟨⟨v, bL1, hR1⟩, bS1⟩, hB1⟩ hK
    simp only [encLn]
    gi_wp2
    exact hK _ _ ((KeepsOthers.alloc _ _).from _) (kbox_alloc _ _ bS1.lt) ⟨⟨⟨v, bL1.alloc _, Kd.R_below hR1 ((Below.refl _ _).alloc (Nat.le_refl _) _)⟩, bS1.alloc _⟩, hB1.alloc hB1.size _⟩ ⟨W.heap.size, bS1.lt, Boxed2.new W 40 _ _, rfl⟩
  case body =>
    rintro l pre x a' W hl _ ⟨⟨⟨v, bL1, hR1⟩, bS1⟩, hB1⟩ ⟨Bx, hBx, bx, rfl⟩ hlt
    have cL := bL1.cell
    have fL := bL1.frozen
    have cx0 := bx.cell0
    have cx1 := bx.cell1
    have hb1 : Below w.heap.size w (W.alloc (.cells #[.int .i64 x.1.2.1] 3)) := hB1.alloc hB1.size _
    have hf : lines_with.f (begs pre) [(x.1.2.1 : Int)] = some (begs (pre ++ [x])) := by
      unfold lines_with.f
      have h1 : (lns a0).length ≤ a0.size + 1 := lnsFrom_len _ _ _
      rw [if_pos (by rw [begs, List.length_map, List.length_singleton]; omega)]
      simp [begs]
    have hC : ∀ W_, Kept (W.alloc (.cells #[.int .i64 x.1.2.1] 3)) W_ (fun k_ => OwnInts w W k_) → Kd.C (Kd.int .i64) W_ (some ⟨W.heap.size, 0, none⟩) [(x.1.2.1 : Int)].length [(x.1.2.1 : Int)] := by
      intro W_ hk
      refine ⟨rfl, (by decide : (1 : Nat) ≤ 9223372036854775807), fun _ => ⟨_, rfl, fun j p hj => ?_⟩⟩
      obtain rfl : j = 0 := by
        have := (List.getElem?_eq_some_iff.1 hj).1
        simpa using this
      obtain rfl : (x.1.2.1 : Int) = p := by simpa using hj
      refine ⟨[.int .i64 x.1.2.1], rfl, rfl, fun i u hi => ?_⟩
      obtain rfl : i = 0 := by
        have := (List.getElem?_eq_some_iff.1 hi).1
        simpa using this
      obtain rfl : Value.int .i64 x.1.2.1 = u := by simpa using hi
      have hh := hk.2 W.heap.size (by simp) (fun h => by have := h.2.1; omega)
      rw [World.alloc_heap_new] at hh
      simp [World.cell?, Addr.add, hh]
    have hw := lines_with.calls (OwnInts w W) v (begs pre) (some ⟨W.heap.size, 0, none⟩) 1 [(x.1.2.1 : Int)] (begs (pre ++ [x])) w (W.alloc (.cells #[.int .i64 x.1.2.1] 3)) hb1 (Kd.R_below (ownInts_of hR1) ((Below.refl _ _).alloc (Nat.le_refl _) _)) hC (Nat.le_refl _) hf
    gi_wp2_with (refine ⟨trivial, ?_⟩; gi_at_call 45; refine (CallsIn.inRound l (callsIn_wide.2 hw)).mono ?_; clear hw; rintro e w' ⟨v0, rfl, hR2, hB2, hK2⟩; obtain ⟨A2, c2, rfl, hc2, _⟩ := hR2.2.reads; have bL2 : Boxed w' w.heap.size 46 v := (hK2.2 _ (by simp; have := bL1.lt; omega) (fun h => boxed_ints bL1 h)).trans (bL1.alloc _); have cL2 := bL2.cell; have fL2 := bL2.frozen)
    have hlt2 : w.heap.size + 1 < (W.alloc (.cells #[.int .i64 x.1.2.1] 3)).heap.size := by simp; have := bS1.lt; omega
    have bS2 : Boxed w' (w.heap.size + 1) 9 (.string a0) := (hK2.2 _ hlt2 (fun h => boxed_ints bS1 h)).trans (bS1.alloc _)
    refine ⟨((KeepsOthers.alloc _ _).from _).trans ((keeps_ints hK2).trans ((KeepsOthers.setCell _ _ _).from _)), ?_, ⟨⟨_, bL2.set _, ?_⟩, bS2.other (by simp) _⟩, hB2.setCell (p := ⟨w.heap.size, 0, none⟩) (Nat.le_refl _) _⟩
    · exact kbox_t (kbox_t (kbox_alloc _ _ bS1.lt) (hK2.2 _ hlt2 (fun h => boxed_ints bS1 h))) (kbox_set _ _ _ (by simp))
    · refine Kd.R_mono (Kd.R_far hR2 (fun k hk => ?_) _) (fun _ _ => trivial)
      rintro rfl
      rcases hk with hk | hk
      · exact boxed_ints bL1 hk
      · simp at hk; have := bL1.lt; omega
  case done =>
    rintro D ys W hD rfl ⟨⟨⟨v, bL1, hR1⟩, bS1⟩, hB1⟩ hK
    have cL := bL1.cell
    gi_wp2
    refine ⟨by simp, .inl ⟨_, _, rfl, run_takeDeferred hK, ?_⟩⟩
    refine ⟨_, results_tmp rfl _ _ _, v, rfl, Kd.R_mono (Kd.R_step (ownInts_of hR1) (fun k hk hlt => World.putObj_heap_other (fun e => ?_))) (fun _ _ => trivial), hB1.trans (belowK_b (w := w) (Nat.le_refl _) W D _ _ (by omega) hK rfl rfl)⟩
    subst e
    obtain ⟨_, _, cells, hc⟩ := hk
    rw [hc] at hK
    cases hK
  case stop =>
    rintro D c pre W _ _ h _
    exact h.elim

/-! ### lines_Many: function 33 (by hand) -/
attribute [local go_sem] Oper.semAt_some
def manyOf {s : ByteArray} (l : List (Ln s)) : Int := match l.getLast? with | none => 0 | some x => (x.1.1 : Int) + 1
theorem manyOf_snoc {s : ByteArray} (l : List (Ln s)) (x : Ln s) : manyOf (l ++ [x]) = (x.1.1 : Int) + 1 := by simp [manyOf]
def lines_Many.f (a0 : ByteArray) : Option Int := if a0.size < 4294967281 then some (manyOf (lns a0)) else none
set_option maxRecDepth 100000 in
set_option maxHeartbeats 2000000 in
theorem lines_Many.calls (a0 : ByteArray) (r : Int) (w : World) (h : lines_Many.f a0 = some r) :
    Calls Tryd.prog 33 #[.string a0] w fun e w' => e = .returned (.int .i64 r) ∧ Below w.heap.size w w' := by
  unfold lines_Many.f at h
  split at h
  case isFalse => cases h
  rename_i hs
  obtain rfl := Option.some.inj h
  refine (callsIn_wide (n := 3)).1 ?_
  refine callsIn_of_wp_marks Tryd.func33 rfl trivial ?_ rfl
  simp only [Tryd.ntmps33, List.size_toArray, List.length_cons, List.length_nil, Nat.reduceAdd, Nat.reduceSub, Array.replicate_succ, Array.replicate_zero, List.push_toArray, List.append_toArray, List.nil_append, List.cons_append]
  gi_wp2_with (refine ⟨trivial, ?_⟩; gi_at_call 42; refine (each_in _ _ _).mono ?_; rintro e w' ⟨rfl, rfl⟩)
  have bM := Boxed.new w 3 (.int .i64 0)
  have bS := Boxed.new (w.alloc (.cells #[.int .i64 0] 3)) 9 (.string a0)
  rw [World.size_alloc] at bS
  have hB0 : Below w.heap.size w ((w.alloc (.cells #[.int .i64 0] 3)).alloc (.cells #[.string a0] 9)) := ((Below.refl _ w).alloc (Nat.le_refl _) _).alloc (by simp) _
  refine wpIn_rangeFunc_ownG rfl (by decide) (gf := 51) (lb := #[.pointer (some ⟨w.heap.size + 1, 0, none⟩)]) rfl trivial (enters_of Tryd.func51 (by kernel_rfl) rfl)
    (each_stops a0 hs 2 (by decide) (w.heap.size + 1) _ bS) kbox_t (kbox_b (by simp)) (Below.refl _ _) (fun _ => rfl)
    (fun pre W => Boxed W w.heap.size 3 (.int .i64 (manyOf pre)) ∧ Below w.heap.size w W)
    (fun _ _ _ => False)
    (OwnFrom.and (Own.from (boxed_own _ _ _) _) (ownFrom_below (Nat.le_refl _) (by simp; omega)))
    (fun _ _ _ _ _ hs _ _ => hs)
    ⟨bM.alloc _, hB0⟩
    (fun x => { tmps := #[.string a0, undef, .int .i64 0, .pointer (some ⟨w.heap.size, 0, none⟩), .int .i64 x.1.1, .string a0, .func (.func 51) #[] #[.pointer (some ⟨w.heap.size + 1, 0, none⟩)], .int .i64 x.1.1, .agg #[.int .i64 x.1.2.1, .int .i64 x.1.2.2], undef, undef, undef], defers := [] }) ?assign ?body ?done ?stop
  case assign =>
    intro l x W K hK
    simp only [encLn]
    gi_wp2
    exact hK
  case body =>
    rintro l pre x W ⟨hM, hB⟩ _
    have hc := hM.cell
    have hf := hM.frozen
    have hx := x.2
    have e1 : wrap64 ((x.1.1 : Int) + 1) = (x.1.1 : Int) + 1 := wrap_nat (m := x.1.1 + 1) rfl (by omega)
    clear hx
    gi_wp2
    rw [e1]
    exact ⟨(KeepsOthers.setCell _ _ _).from _, kbox_set _ _ _ (by simp), by rw [manyOf_snoc]; exact hM.set _, (hB.setCell (p := ⟨w.heap.size, 0, none⟩) (Nat.le_refl _) _)⟩
  case done =>
    rintro D ys W hD rfl ⟨hM, hB⟩ hK
    have hc := hM.cell
    gi_wp2
    refine ⟨by simp, .inl ⟨_, _, rfl, run_takeDeferred hK, ?_⟩⟩
    exact ⟨_, results_tmp rfl _ _ _, rfl, hB.trans (belowK_b (w := w) (Nat.le_refl _) W D _ _ (by simp at hD; omega) hK rfl rfl)⟩
  case stop =>
    rintro D c pre W _ _ h _
    exact h.elim
end Go.Proofs.YtfjanedappcolaaDoor.Q
