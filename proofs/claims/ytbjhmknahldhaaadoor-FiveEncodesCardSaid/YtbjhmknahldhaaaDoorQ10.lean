-- Written by this repo's wip/xprint.py (over the kit's print.py) out of the translation. Not trusted: Lean checks it.
import Derived.Test.YtbjhmknahldhaaaDoorQ0
namespace Go.Proofs.YtbjhmknahldhaaaDoor.Q
open Go.RowKit Go.Proofs.YtbjhmknahldhaaaDoorW.PrintWords Go.Proofs.YtbjhmknahldhaaaDoorW.PrintLast Go.Proofs.YtbjhmknahldhaaaDoorW.PrintMore
attribute [local go_sem] max2_int min2_int max_two min_two max_three min_three max_four min_four   -- for this text's walks alone
set_option linter.unusedVariables false
set_option linter.unusedSimpArgs false

/-! ### five_row: function 22 (by hand) -/
def fiveOf (x : S60) : List Int := [x.f0, x.f1, x.f2, x.f3, x.f4]
def five_row.f (l0 : List S60) : Option (List Int) := if l0.length < 3000000000000 then some (l0.flatMap fiveOf) else none
theorem flat_len (l : List S60) : (l.flatMap fiveOf).length = 5 * l.length := by
 induction l with
 | nil => rfl
 | cons x r ih => rw [List.flatMap_cons, List.length_append, ih, List.length_cons]; show 5 + _ = _; omega
theorem flat_snoc (l : List S60) (i : Nat) (h : i < l.length) : (l.take (i + 1)).flatMap fiveOf = (l.take i).flatMap fiveOf ++ fiveOf (rd_T60 l (i : Int)) := by
 unfold rd_T60
 rw [List.take_succ_eq_append_getElem h, List.flatMap_append, List.getD_eq_getElem?_getD, show ((i : Int)).toNat = i from rfl, List.getElem?_eq_getElem h]
 simp
/-- Five whole numbers in a block of their own, read as a row. -/
theorem five_reads {w : World} {g : Nat} {x0 x1 x2 x3 x4 : Int} (h0 : w.cell? ⟨g, 0, none⟩ = some (.int .i64 x0)) (h1 : w.cell? ⟨g, 1, none⟩ = some (.int .i64 x1)) (h2 : w.cell? ⟨g, 2, none⟩ = some (.int .i64 x2)) (h3 : w.cell? ⟨g, 3, none⟩ = some (.int .i64 x3)) (h4 : w.cell? ⟨g, 4, none⟩ = some (.int .i64 x4)) :
  Kd.C (Kd.int .i64) w (some ⟨g, 0, none⟩) 5 [x0, x1, x2, x3, x4] := by
 refine ⟨rfl, by omega, fun _ => ⟨_, rfl, fun j p hj => ⟨[.int .i64 p], rfl, rfl, fun i u hi => ?_⟩⟩⟩
 have hi0 : i = 0 := by
  have := (List.getElem?_eq_some_iff.1 hi).1
  simpa using this
 subst hi0; obtain rfl : Value.int .i64 p = u := by simpa using hi
 have hj5 : j < 5 := (List.getElem?_eq_some_iff.1 hj).1
 obtain rfl | rfl | rfl | rfl | rfl : j = 0 ∨ j = 1 ∨ j = 2 ∨ j = 3 ∨ j = 4 := by omega
 all_goals (obtain rfl := Option.some.inj hj; first | exact h0 | exact h1 | exact h2 | exact h3 | exact h4)
set_option maxHeartbeats 4000000 in
set_option maxRecDepth 100000 in
theorem five_row.calls (A0 : Option Addr) (c0 : Nat) (l0 : List S60) (r : List Int) (w : World) (hr0 : Kd.C k60 w A0 l0.length l0) (hc0 : l0.length ≤ c0) (h : five_row.f l0 = some r) :
  Calls Tryd.prog 22 #[.slice A0 l0.length c0] w fun e w' => ∃ v0_ : Value, e = .returned (v0_) ∧ Kd.R (Kd.int .i64) 3 w' w.heap.size (fun _ => True) v0_ r ∧ Below w.heap.size w w' := by
 unfold five_row.f at h
 by_cases hlen : l0.length < 3000000000000
 case neg => rw [if_neg hlen] at h; cases h
 rw [if_pos hlen] at h
 obtain rfl := Option.some.inj h
 have HR := Aside0.mk hr0; clear h hr0 hc0; have hu60 := Tryd.underlying60
 have hu54 := Tryd.underlying54
 have hu23 := Tryd.underlying23
 go_enter Tryd.func22, Tryd.ntmps22
 go_wp2
 go_loopw [3, 8] (fun v3 v8 w' => ∃ (v : Value) (i : Nat), v = v3 ∧ v8 = .int .i64 i ∧ i ≤ l0.length ∧ Aside0 (Kd.R (Kd.int .i64) 3 w' w.heap.size (fun _ => True) v ((l0.take i).flatMap fiveOf)) ∧ Aside0 (Below w.heap.size w w')) (fun _ v8 _ => l0.length - (intOf v8).toNat)
 case atStart => exact ⟨_, 0, rfl, rfl, Nat.zero_le _, ⟨Kd.R_nil _ _ _ _ _⟩, ⟨Below.refl _ _⟩⟩
 case round =>
  obtain ⟨v, i, rfl, rfl, hi, HA, HB⟩ := hrel
  by_cases hlt : i < l0.length
  ·obtain ⟨ad, e, hx0, hx1, hx2, hx3, hx4⟩ := at_T60 HR.out (i : Int) (by omega) (by omega)
   cases e
   have hs := flat_snoc l0 i hlt
   have hl := flat_len (l0.take i)
   have hl2 : (l0.take i).length ≤ l0.length := by rw [List.length_take]; omega
   obtain ⟨m, hm⟩ : ∃ m, rd_T60 l0 (i : Int) = m := ⟨_, rfl⟩
   rw [hm] at hs hx0 hx1 hx2 hx3 hx4
   replace hx0 := (HB.out.cell (World.block_lt_of_cell? w _ hx0)).trans hx0; replace hx1 := (HB.out.cell (World.block_lt_of_cell? w _ hx1)).trans hx1; replace hx2 := (HB.out.cell (World.block_lt_of_cell? w _ hx2)).trans hx2; replace hx3 := (HB.out.cell (World.block_lt_of_cell? w _ hx3)).trans hx3; replace hx4 := (HB.out.cell (World.block_lt_of_cell? w _ hx4)).trans hx4; simp only [Int.toNat_natCast] at hx0 hx1 hx2 hx3 hx4
   have HL : Aside0 ((((l0.take i).flatMap fiveOf).length + 5) * 8 ≤ 140737488355328) := ⟨by omega⟩
   have HS := Aside0.mk hs; clear hs hl hl2 hm; go_wp2_with (first | ((with_reducible refine gate_builtin (b := .append) (xs := #[.tmp 12, .tmp 13]) rfl ?_); at_builtin; refine Kd.R_append_rows (Kd.int .i64) (w0 := w) w.heap.size rfl (.tmp 12) (.tmp 13) 23 3 (.int .i64 0) 8 rfl Tryd.underlying23 info3 rfl (by decide) (by omega) v ((l0.take i).flatMap fiveOf) [m.f0, m.f1, m.f2, m.f3, m.f4] _ _ _ (fun _ => True) (fun _ => False) rfl rfl ?aO ?aR (fun _ _ h => h) (fun _ h => h.elim) (fun _ _ => trivial) ?aB ?aS ?aL ?_; (case aR => exact five_reads (by go_keep) (by go_keep) (by go_keep) (by go_keep) (by go_keep)); (case aB => exact below_alloc HB.out _); (case aO => exact Kd.R_alloc HA.out _); (case aS => exact below_size (below_alloc HB.out _)); (case aL => have := HL.out; simpa using this); intro v2 w4 ho hb hg hat; have HO := Aside0.mk ho; have HB2 := Aside0.mk hb; clear ho hb hg hat))
   go_roundw
   case rel => exact ⟨v2, i + 1, rfl, by go_num, by omega, ⟨by rw [HS.out]; exact HO.out⟩, HB2⟩
   case measure => simp [intOf]; omega
  ·have hii : i = l0.length := by omega
   subst hii; have h2 := HA.out
   rw [List.take_length] at h2
   have H2 := Aside0.mk h2; clear HA h2; go_wp2
   go_ret
   exact ⟨_, rfl, H2.out, HB.out⟩

/-! ### utf_Units: function 36 (by hand) -/
def utf_Units.f (a0 : ByteArray) : Option Int := if a0.size ≤ 140737488351232 then some (XUtf.units a0 a0.size 0 0) else none
set_option maxRecDepth 100000 in
theorem utf_Units.calls (a0 : ByteArray) (r : Int) (w : World) (h : utf_Units.f a0 = some r) :
  Calls Tryd.prog 36 #[.string a0] w fun e w' => e = .returned (.int .i64 r) ∧ Below w.heap.size w w' := by
 unfold utf_Units.f at h
 split at h
 ·rename_i hsz
  obtain rfl := Option.some.inj h
  have hsz' : (a0.size : Int) ≤ 140737488351232 := by omega
  clear h hsz; go_enter Tryd.func36, Tryd.ntmps36
  go_wp2
  go_loopw [3] (fun n w' => ∃ (pos b : Nat) (acc : Int), w' = w.iter a0 pos ∧ n = .int .i64 acc ∧ Aside0 (XUtf.units a0 b pos acc = XUtf.units a0 a0.size 0 0) ∧ a0.size ≤ pos + b ∧ 0 ≤ acc ∧ acc ≤ 2 * (pos : Int) ∧ pos ≤ a0.size) (fun _ w' => a0.size - w'.iterPos w.heap.size)
  case atStart => exact ⟨0, a0.size, 0, rfl, rfl, ⟨rfl⟩, by omega, by omega, by omega, by omega⟩
  case round =>
   obtain ⟨pos, b, acc, rfl, rfl, hc, hb, h0, h1, hle⟩ := hrel
   by_cases hp : pos < a0.size
   ·have hnx : ∀ ty, (Instr.next (.pointer (some ⟨w.heap.size, 0, none⟩)) true ty).run Tryd.prog (w.iter a0 pos) = _ := fun ty => run_next_any w a0 pos ty hp
    have hwd := Lib.decode_width_pos a0 pos hp
    have hfit := XUtf.decode_fit a0 pos hp
    have hst := XUtf.units_step a0 b pos acc hp
    by_cases hbig : 65536 ≤ ((Utf8.decode a0 pos).1 : Int)
    ·have hu : XUtf.uOf (Utf8.decode a0 pos).1 = 2 := by unfold XUtf.uOf; rw [if_pos (by omega)]
     have h2 : 2 ≤ (Utf8.decode a0 pos).2 := XUtf.big_width a0 pos (by omega)
     have HST := Aside0.mk ((hst hb).symm.trans hc.out)
     have HU := Aside0.mk hu; clear hst hu hc; go_wp2
     go_roundw
     case rel => exact ⟨pos + (Utf8.decode a0 pos).2, b - 1, acc + 2, rfl, rfl, ⟨by rw [← HU.out]; exact HST.out⟩, by omega, by omega, by omega, by omega⟩
     case measure => simp; omega
    ·have hu : XUtf.uOf (Utf8.decode a0 pos).1 = 1 := by unfold XUtf.uOf; rw [if_neg (by omega)]
     have HST := Aside0.mk ((hst hb).symm.trans hc.out)
     have HU := Aside0.mk hu; clear hst hu hc; go_wp2
     go_roundw
     case rel => exact ⟨pos + (Utf8.decode a0 pos).2, b - 1, acc + 1, rfl, rfl, ⟨by rw [← HU.out]; exact HST.out⟩, by omega, by omega, by omega, by omega⟩
     case measure => simp; omega
   ·have hnx : ∀ ty, (Instr.next (.pointer (some ⟨w.heap.size, 0, none⟩)) true ty).run Tryd.prog (w.iter a0 pos) = _ := fun ty => run_next_end w a0 pos ty hp
    have HD := Aside0.mk ((XUtf.units_done a0 b pos acc hp).symm.trans hc.out)
    clear hc; go_wp2
    go_ret
    exact ⟨congrArg (fun z => Ending.returned (.int .i64 z)) HD.out, (Below.refl _ _).alloc (Nat.le_refl _) _⟩
 ·cases h
end Go.Proofs.YtbjhmknahldhaaaDoor.Q
