/- Words and walks of this claim, put together by this repo's wip/xlink.py out of Q13. -/
import Derived.Test.YtebmgmagdhedgaaGreatDoorL13
import Derived.Test.YtebmgmagdhedgaaGreatDoorL8
import Derived.Test.YtebmgmagdhedgaaGreatDoorL9
import Derived.Test.YtebmgmagdhedgaaGreatDoorL10
import Derived.Test.YtebmgmagdhedgaaGreatDoorL11
import Derived.Test.YtebmgmagdhedgaaGreatDoorL12
import Derived.Test.YtebmgmagdhedgaaGreatDoorL14
namespace Go.Proofs.YtebmgmagdhedgaaGreatDoor.Q
open Go.RowKit Go.Proofs.YtebmgmagdhedgaaGreatDoorW.PrintWords Go.Proofs.YtebmgmagdhedgaaGreatDoorW.PrintLast Go.Proofs.YtebmgmagdhedgaaGreatDoorW.PrintMore
attribute [local go_sem] max2_int min2_int max_two min_two max_three min_three max_four min_four   
set_option linter.unusedVariables false
set_option linter.unusedSimpArgs false
set_option maxHeartbeats 1000000 in
set_option maxRecDepth 100000 in
theorem wc_fresh (b : Nat) (w : World) (h0 : w.cell? ⟨b, 0, none⟩ = some (.pointer none)) (hsh : w.shape? b = some (52, 2)) (hfz : w.frozen? ⟨b, 0, none⟩ = false) :
  Calls Tryz.prog 69 #[.pointer (some ⟨b, 0, none⟩)] w fun e w' => e = .returned (.tuple #[]) ∧ w' = w.setCell ⟨b, 0, none⟩ (.pointer (some ⟨b, 0, none⟩)) := by
 obtain ⟨j, hj, hjs⟩ := Option.map_eq_some_iff.1 (show (Tryz.prog.info? 50).map (·.size) = some 2 by kernel_rfl)
 go_enter Tryz.func69, Tryz.ntmps69
 go_wp2
 rw [Lib.run_to_unsafe w ⟨b, 0, none⟩ Tryz.underlying47 Tryz.underlying119 hj (by rw [hjs]; decide) hsh (Nat.zero_lt_succ 1)]
 simp only [Result.andThen]
 rw [Oper.upon_value]
 go_wp2
 rw [run_callFunc_extern Tryz.func94 (by kernel_rfl) (by kernel_rfl) (by kernel_rfl) (e := Extern.AbiNoEscape.same) (by kernel_rfl)]
 rw [Lib.run_noEscape]
 simp only [Result.andThen]
 rw [Oper.upon_value]
 go_wp2
 rw [Lib.run_from_unsafe w ⟨b, 0, none⟩ Tryz.underlying119 Tryz.underlying47 hj hsh (by kernel_rfl)]
 simp only [Result.andThen]
 rw [Oper.upon_value]
 go_wp2
 go_end0
 exact ⟨rfl, rfl⟩
theorem wc_k (B b : Nat) (bs : List Value) (w : World) (h : Lib.IsBuilderF 52 5 B b bs w) :
  Calls Tryz.prog 69 #[.pointer (some ⟨b, 0, none⟩)] w fun e w' => e = .returned (.tuple #[]) ∧ (Lib.BuilderAtF 52 5 B b (.pointer (some ⟨b, 0, none⟩)) bs w' ∧ Below B w w' ∧ Lib.OthersKept 5 (some b) w w') := by
 rcases h with h | h
 ·refine (wc_fresh b w h.cell0 h.shape h.frozen0).mono ?_
  rintro e w' ⟨rfl, rfl⟩
  exact ⟨rfl, h.used _, (Below.refl B w).setCell (p := ⟨b, 0, none⟩) h.1 _, (Lib.OthersKept.refl _ _ w).setCell ⟨b, 0, none⟩ rfl _⟩
 ·refine (bc_used b w h.cell0).mono ?_
  rintro e w' ⟨rfl, rfl⟩
  exact ⟨rfl, h, Below.refl B _, Lib.OthersKept.refl _ _ _⟩
set_option maxHeartbeats 4000000 in
set_option maxRecDepth 100000 in
theorem ww_byte (B b : Nat) (bs : List Value) (c : Int) (w : World) (h : Lib.IsBuilderF 52 5 B b bs w) (hlen : bs.length + 1 ≤ 140737488355328) (hBw : B ≤ w.heap.size) :
  Calls Tryz.prog 38 #[.pointer (some ⟨b, 0, none⟩), .int .u8 c] w fun e w' => e = .returned .nilIface ∧ (Lib.BuilderAtF 52 5 B b (.pointer (some ⟨b, 0, none⟩)) (bs ++ [.int .u8 c]) w' ∧ Below B w w' ∧ Lib.OthersKept 5 (some b) w w') := by
 obtain ⟨i0, hi, hz0, hz1, hz2⟩ := info_parts (show (Tryz.prog.info? 5).map (fun i => (i.zero, i.size, i.bytes)) = some (some (.int .u8 0), 1, 1) by kernel_rfl)
 go_enter Tryz.func38, Tryz.ntmps38
 go_wp2_with (go_at_call 69; refine (wc_k B b bs _ h).mono ?_)
 rintro e w1 ⟨rfl, h1, hb1, hk1⟩
 obtain ⟨hB, v, hbk, hown, hne⟩ := h1
 have c0 : w1.cell? ⟨b, 0, none⟩ = some (.pointer (some ⟨b, 0, none⟩)) := by rw [Lib.cell_of_heap hbk]; rfl
 have c1 : w1.cell? ⟨b, 1, none⟩ = some v := by rw [Lib.cell_of_heap hbk]; rfl
 go_wp2_with (at_builtin; refine wpList_append_ownF _ rfl _ _ 48 rfl B 5 i0 (.int .u8 0) 1 1 Tryz.underlying48 hi hz0 hz1 hz2 rfl (by decide) _ _ _ rfl (hown.alloc _) ⟨w1.heap.size, 0, none⟩ 1 1 [.int .u8 c] rfl rfl ?c1 ?c2 ?c3 ?c4 ?c5 ?_)
 case c1 =>
  intro j u hj
  match j, hj with
  | 0, hj => simp at hj; subst hj; simp [Addr.add]
 case c2 => intro u hu; simp at hu; subst hu; rfl
 case c3 => unfold maxLen; omega
 case c4 => omega
 case c5 => have := hb1.size; simp; omega
 intro v' w2 hown' hgrow _
 have hlt : b < w1.heap.size := (Array.getElem?_eq_some_iff.1 hbk).1
 have hb2 : w2.heap[b]? = some (.cells #[.pointer (some ⟨b, 0, none⟩), v] 52 (0, 0)) := by
  rw [hgrow.block b (by simp; omega) (fun e => hne e.symm), Lib.alloc_old w1 _ b hlt]
  exact hbk
 have d0 : w2.cell? ⟨b, 0, none⟩ = some (.pointer (some ⟨b, 0, none⟩)) := by rw [Lib.cell_of_heap hb2]; rfl
 have d1 : w2.cell? ⟨b, 1, none⟩ = some v := by rw [Lib.cell_of_heap hb2]; rfl
 have f1 : w2.frozen? ⟨b, 1, none⟩ = false := Lib.frozen_of_heap hb2 1
 obtain ⟨g, cap, rfl⟩ : ∃ g cap, v' = .slice (some ⟨g, 0, none⟩) (bs.length + 1) cap := by
  rcases hown'.2 with ⟨_, h0⟩ | ⟨g, cap, cur, fz, hv, _⟩
  ·omega
  ·exact ⟨g, cap, hv⟩
 go_wp2
 go_ret
 refine ⟨rfl, ?_, ?_, ((hk1.alloc _).grown hgrow (Lib.ownsRowF_kind (hown.alloc _))).setCell ⟨b, 1, none⟩ rfl _⟩
 ·exact Lib.BuilderAtF.put (T := 52) (e := 5) hB hb2 (bs' := bs ++ [.int .u8 c]) (by simpa using hown') (by decide)
 ·exact ((hb1.alloc (by have := hb1.size; omega) _).grown hgrow (by have := hb1.size; simp; omega) (fun k hk => (hown.lt k hk).1)).setCell (p := ⟨b, 1, none⟩) hB _
set_option maxHeartbeats 4000000 in
set_option maxRecDepth 100000 in
theorem ww_str (B b : Nat) (bs : List Value) (s : ByteArray) (w : World) (h : Lib.IsBuilderF 52 5 B b bs w) (hlen : bs.length + s.size ≤ 140737488355328) (hBw : B ≤ w.heap.size) :
  Calls Tryz.prog 40 #[.pointer (some ⟨b, 0, none⟩), .string s] w fun e w' => e = .returned (.tuple #[.int .i64 s.size, .nilIface]) ∧ (Lib.BuilderAtF 52 5 B b (.pointer (some ⟨b, 0, none⟩)) (bs ++ Lib.strCells s) w' ∧ Below B w w' ∧ Lib.OthersKept 5 (some b) w w') := by
 obtain ⟨i0, hi, hz0, hz1, hz2⟩ := info_parts (show (Tryz.prog.info? 5).map (fun i => (i.zero, i.size, i.bytes)) = some (some (.int .u8 0), 1, 1) by kernel_rfl)
 go_enter Tryz.func40, Tryz.ntmps40
 go_wp2_with (go_at_call 69; refine (wc_k B b bs _ h).mono ?_)
 rintro e w1 ⟨rfl, h1, hb1, hk1⟩
 obtain ⟨hB, v, hbk, hown, hne⟩ := h1
 have c0 : w1.cell? ⟨b, 0, none⟩ = some (.pointer (some ⟨b, 0, none⟩)) := by rw [Lib.cell_of_heap hbk]; rfl
 have c1 : w1.cell? ⟨b, 1, none⟩ = some v := by rw [Lib.cell_of_heap hbk]; rfl
 go_wp2_with (at_builtin; refine Lib.wpList_append_own_stringF _ rfl _ _ 48 9 rfl B 5 i0 Tryz.underlying48 Tryz.underlying9 hi hz0 hz1 hz2 _ _ _ rfl hown s rfl ?c3 ?c4 ?c5 ?_)
 case c3 => unfold maxLen; omega
 case c4 => omega
 case c5 => have := hb1.size; omega
 intro v' w2 hown' hgrow _
 have hlt : b < w1.heap.size := (Array.getElem?_eq_some_iff.1 hbk).1
 have hb2 : w2.heap[b]? = some (.cells #[.pointer (some ⟨b, 0, none⟩), v] 52 (0, 0)) := by
  rw [hgrow.block b hlt (fun e => hne e.symm)]
  exact hbk
 have d0 : w2.cell? ⟨b, 0, none⟩ = some (.pointer (some ⟨b, 0, none⟩)) := by rw [Lib.cell_of_heap hb2]; rfl
 have d1 : w2.cell? ⟨b, 1, none⟩ = some v := by rw [Lib.cell_of_heap hb2]; rfl
 have f1 : w2.frozen? ⟨b, 1, none⟩ = false := Lib.frozen_of_heap hb2 1
 obtain ⟨ao, n', cap, rfl⟩ : ∃ ao n' cap, v' = .slice ao n' cap := by
  rcases hown'.2 with ⟨hv, _⟩ | ⟨g, cap, cur, fz, hv, _⟩
  ·exact ⟨_, _, _, hv⟩
  ·exact ⟨_, _, _, hv⟩
 go_wp2
 go_ret2
 refine ⟨rfl, ?_, ?_, (hk1.grown hgrow (Lib.ownsRowF_kind hown)).setCell ⟨b, 1, none⟩ rfl _⟩
 ·exact Lib.BuilderAtF.put (T := 52) (e := 5) hB hb2 (bs' := bs ++ Lib.strCells s) (by simpa [Lib.strCells_length] using hown') (by decide)
 ·exact (hb1.grown hgrow (by have := hb1.size; omega) (fun k hk => (hown.lt k hk).1)).setCell (p := ⟨b, 1, none⟩) hB _
theorem wb_len (B b : Nat) (bs : List Value) (w : World) (h : Lib.IsBuilderF 52 5 B b bs w) : Calls Tryz.prog 26 #[.pointer (some ⟨b, 0, none⟩)] w fun e w' => e = .returned (.int .i64 bs.length) ∧ w' = w := by
 obtain ⟨p, hAt⟩ : ∃ p, Lib.BuilderAtF 52 5 B b p bs w := by
  rcases h with h | h
  ·exact ⟨_, h⟩
  ·exact ⟨_, h⟩
 obtain ⟨hB, v, hbk, hown, hne⟩ := hAt
 obtain ⟨ao, cap, rfl⟩ : ∃ ao cap, v = .slice ao bs.length cap := by
  rcases hown.2 with ⟨hv, h0⟩ | ⟨g, cap, cur, fz, hv, _⟩
  ·exact ⟨none, 0, by rw [hv, h0]⟩
  ·exact ⟨_, _, hv⟩
 have c1 : w.cell? ⟨b, 1, none⟩ = some (.slice ao bs.length cap) := by rw [Lib.cell_of_heap hbk]; rfl
 go_enter Tryz.func26, Tryz.ntmps26
 go_wp2
 go_ret
 exact ⟨rfl, rfl⟩
set_option maxHeartbeats 1000000 in
set_option maxRecDepth 100000 in
theorem wb_string (B b : Nat) (l : List UInt8) (w : World) (h : Lib.IsBuilderF 52 5 B b (Lib.byteCells l) w) (h0 : l ≠ []) :
  Calls Tryz.prog 27 #[.pointer (some ⟨b, 0, none⟩)] w fun e w' => e = .returned (.string ⟨l.toArray⟩) ∧ Below B w w' := by
 obtain ⟨p, hAt⟩ : ∃ p, Lib.BuilderAtF 52 5 B b p (Lib.byteCells l) w := by
  rcases h with h | h
  ·exact ⟨_, h⟩
  ·exact ⟨_, h⟩
 obtain ⟨hB, v, hbk, hown, hne⟩ := hAt
 have hl0 : l.length ≠ 0 := by simpa using h0
 rw [Lib.byteCells_length] at hown
 obtain ⟨g, cap, cur, fz, rfl, hbg, hg, hfz, hnc, hcm, hcs, htake⟩ : ∃ g cap cur fz, v = .slice (some ⟨g, 0, none⟩) l.length cap ∧ B ≤ g ∧ w.heap[g]? = some (.cells cur 5 fz) ∧ fz.2 ≤ l.length * 1 ∧ l.length ≤ cap ∧ cap ≤ maxLen ∧ cur.size = cap * 1 ∧ cur.toList.take (l.length * 1) = Lib.byteCells l := by
  rcases hown.2 with ⟨_, hz⟩ | ⟨g, cap, cur, fz, hv, r⟩
  ·exact absurd hz hl0
  ·exact ⟨g, cap, cur, fz, hv, r⟩
 have c1 : w.drew.cell? ⟨b, 1, none⟩ = some (.slice (some ⟨g, 0, none⟩) l.length cap) := by
  have : w.drew.heap[b]? = some (.cells #[p, .slice (some ⟨g, 0, none⟩) l.length cap] 52 (0, 0)) := hbk
  rw [Lib.cell_of_heap this]; rfl
 have hSD : (Builtin.unsafeSliceData_ #[48] 82 #[.slice (some ⟨g, 0, none⟩) l.length cap]).run Tryz.prog w.drew = .ok (.pointer (some ⟨g, 0, none⟩)) w.drew :=
  Lib.run_unsafeSliceData_row _ _ _ _ _ _ (by omega)
 have hUS : (Builtin.unsafeString_ #[82, 3] 9 #[.pointer (some ⟨g, 0, none⟩), .int .i64 l.length]).run Tryz.prog w.drew = .ok (.string ⟨l.toArray⟩) (w.drew.freeze ⟨g, 0, none⟩ l.length) := by
  refine Lib.run_unsafeString_row w.drew 82 3 9 5 Tryz.underlying82 (by kernel_rfl) g cur.size (by have hg' : w.drew.heap[g]? = some (.cells cur 5 fz) := hg; simp [World.shape?, hg']) l h0 (by omega) (by unfold maxLen at hcm; omega) ?_
  intro j x hx
  have := hown.cells (g := g) rfl j (.int .u8 x.toNat) (by simp [Lib.byteCells, hx])
  exact this
 go_enter Tryz.func27, Tryz.ntmps27
 go_wp2
 go_region
 all_goals (go_wp2; go_ret; exact ⟨rfl, Lib.below_freeze (Below.drew (Below.refl B w)) (p := ⟨g, 0, none⟩) hbg _⟩)
/-- What a value's text begins with. -/
def Lead (c : Nat) : Prop := isBl c = false ∧ c ≠ 93 ∧ c ≠ 125 ∧ c ≠ 44
theorem dig_lead {c : Nat} (h : c = 45 ∨ isDig c = true) : Lead c := by
 rcases h with rfl | h
 ·exact ⟨rfl, by decide, by decide, by decide⟩
 ·unfold isDig at h
  simp only [Bool.and_eq_true, decide_eq_true_eq] at h
  refine ⟨?_, by omega, by omega, by omega⟩
  unfold isBl
  simp only [Bool.or_eq_false_iff, beq_eq_false_iff_ne]
  omega
/-- A value's text is read as that value, wherever it stands, if a number ends there. -/
def Reads (t : ByteArray) (pv : Nat → Res JV) (l : List UInt8) (v : JV) : Prop := ∀ i, Stands' t i l → i + l.length ≤ t.size → NumStop (hnd t (i + l.length)) → pv i = .ok v (i + l.length)
def Begins (l : List UInt8) : Prop := ∃ c r, l = c :: r ∧ Lead c.toNat
theorem Begins.at_ {l : List UInt8} (h : Begins l) {t : ByteArray} {i : Nat} {r : List UInt8} (hS : Stands' t i (l ++ r)) : Lead (hnd t i) := by
 obtain ⟨c, q, rfl, hc⟩ := h
 rw [(show Stands' t i (c :: (q ++ r)) from hS).one]
 exact hc
theorem Begins.len {l : List UInt8} (h : Begins l) : 1 ≤ l.length := by
 obtain ⟨c, q, rfl, hc⟩ := h
 simp
theorem stop44 : NumStop 44 := ⟨rfl, by decide, by decide, by decide, by decide, by decide, rfl⟩
theorem stop93 : NumStop 93 := ⟨rfl, by decide, by decide, by decide, by decide, by decide, rfl⟩
theorem stop125 : NumStop 125 := ⟨rfl, by decide, by decide, by decide, by decide, by decide, rfl⟩
theorem skip_stop {t : ByteArray} {i : Nat} (h : Lead (hnd t i) ∨ hnd t i = 44 ∨ hnd t i = 93 ∨ hnd t i = 125 ∨ hnd t i = 58 ∨ hnd t i = 34) : skip isBl t i = i := by
 refine skip_at ?_
 rcases h with h | h | h | h | h | h
 ·exact h.1
 all_goals (rw [h]; decide)
/-- What stands behind a thing in a list: a comma, or the end. -/
theorem sep_next {t : ByteArray} {i : Nat} {l : List (List UInt8)} {z : UInt8} {rest : List UInt8} (hS : Stands' t i (sep false l ++ z :: rest)) : hnd t i = 44 ∨ hnd t i = z.toNat := by
 cases l with
 | nil => exact .inr hS.one
 | cons x r => exact .inl (show Stands' t i (44 :: (x ++ sep false r ++ z :: rest)) by simpa [sep] using hS).one
theorem lst_wr {t : ByteArray} {pv : Nat → Res JV} {ch : JV → List UInt8} : ∀ (l : List JV) (f i : Nat) (acc : List JV) (rest : List UInt8), (∀ v ∈ l, Reads t pv (ch v) v ∧ Begins (ch v)) → Stands' t i (sep (decide (acc.length = 0)) (l.map ch) ++ 93 :: rest) → i + (sep (decide (acc.length = 0)) (l.map ch)).length + 1 ≤ t.size → t.size < i + f →
  lst t pv f i acc = .ok (acc ++ l) (i + (sep (decide (acc.length = 0)) (l.map ch)).length + 1) := by
 intro l
 induction l with
 | nil =>
  intro f i acc rest _ hS hz hf
  obtain ⟨f, rfl⟩ : ∃ g, f = g + 1 := ⟨f - 1, by omega⟩
  have h0 : hnd t i = 93 := hS.one
  rw [lst, if_pos h0, List.append_nil]
  rfl
 | cons v r ih =>
  intro f i acc rest hr hS hz hf
  obtain ⟨f, rfl⟩ : ∃ g, f = g + 1 := ⟨f - 1, by omega⟩
  obtain ⟨hv, hb⟩ := hr v (by simp)
  have hbl := hb.len
  have hacc : decide ((acc ++ [v]).length = 0) = false := decide_eq_false (by simp)
  have go : ∀ j, hnd t i ≠ 93 → (if acc.length = 0 then (.ok () i : Res Unit) else (wd t [44] i).bind fun _ j => .ok () (skip isBl t j)) = .ok () j → Stands' t j (ch v ++ (sep false (r.map ch) ++ 93 :: rest)) → i ≤ j → j + (ch v).length + (sep false (r.map ch)).length + 1 ≤ t.size →
    lst t pv (f + 1) i acc = .ok (acc ++ v :: r) (j + (ch v).length + (sep false (r.map ch)).length + 1) := by
   intro j h93 hj hS hij hz
   have hn := sep_next hS.app.2
   have hst : NumStop (hnd t (j + (ch v).length)) := by rcases hn with h | h <;> rw [h]; exact stop44; exact stop93
   have hk : skip isBl t (j + (ch v).length) = j + (ch v).length := skip_stop (by rcases hn with h | h; exact .inr (.inl h); exact .inr (.inr (.inl h)))
   have := ih f (j + (ch v).length) (acc ++ [v]) rest (fun x hx => hr x (by simp [hx])) (by rw [hacc]; exact hS.app.2) (by rw [hacc]; omega) (by omega)
   rw [hacc] at this
   rw [lst, if_neg h93, hj]
   show (pv j).bind _ = _
   rw [hv j hS.app.1 (by omega) hst]
   show lst t pv f (skip isBl t (j + (ch v).length)) (acc ++ [v]) = _
   rw [hk, this, List.append_assoc]
   rfl
  by_cases h0 : acc.length = 0
  ·have e : decide (acc.length = 0) = true := decide_eq_true h0
   rw [e] at hS hz ⊢
   simp only [List.map_cons, sep, if_true, List.append_assoc, List.length_append] at hS hz ⊢
   rw [go i (fun h => (hb.at_ hS).2.1 h) (if_pos h0) hS (by omega) (by omega)]
   congr 1
   omega
  ·have e : decide (acc.length = 0) = false := decide_eq_false h0
   rw [e] at hS hz ⊢
   simp only [List.map_cons, sep, Bool.false_eq_true, if_false, List.append_assoc, List.length_append, List.cons_append, List.length_cons] at hS hz ⊢
   have h44 : hnd t i = 44 := hS.one
   have hk : skip isBl t (i + 1) = i + 1 := skip_stop (.inl (hb.at_ hS.tail))
   rw [go (i + 1) (by omega) (by rw [if_neg h0, wd_one h44]; show (.ok () (skip isBl t (i + 1)) : Res Unit) = _; rw [hk]) hS.tail (by omega) (by omega)]
   congr 1
   omega
def fw (ch : JV → List UInt8) (f : JF) : List UInt8 := quo f.f0 ++ 58 :: ch f.f1
def namesOf (l : List JF) : List (List UInt8) := l.map fun f => f.f0.data.toList
theorem ba_eq {a b : ByteArray} (h : a.data.toList = b.data.toList) : a = b := by
 apply ByteArray.ext
 exact Array.toList_inj.1 h
theorem putF_new {acc : List JF} {n : ByteArray} {v : JV} (h : n.data.toList ∉ namesOf acc) : putF acc n v = acc ++ [⟨n, v⟩] := by
 have : idxF acc n = none := by
  unfold idxF
  rw [List.findIdx?_eq_none_iff]
  intro x hx
  refine decide_eq_false fun e => h ?_
  rw [← e]
  exact List.mem_map.2 ⟨x, hx, rfl⟩
 unfold putF
 rw [this]
theorem quo_begins (s : ByteArray) : ∃ r, quo s = 34 :: r := ⟨_, rfl⟩
theorem quo_len (s : ByteArray) : 2 ≤ (quo s).length := by unfold quo; simp
theorem obj_wr {t : ByteArray} {pv : Nat → Res JV} {ch : JV → List UInt8} : ∀ (l : List JF) (f i : Nat) (first : Bool) (acc : List JF) (rest : List UInt8), (∀ x ∈ l, Reads t pv (ch x.f1) x.f1 ∧ Begins (ch x.f1)) → namedF l (namesOf acc) = true → Stands' t i (sep first (l.map (fw ch)) ++ 125 :: rest) → i + (sep first (l.map (fw ch))).length + 1 ≤ t.size → t.size < i + f →
  obj t pv f i first acc = .ok (acc ++ l) (i + (sep first (l.map (fw ch))).length + 1) := by
 intro l
 induction l with
 | nil =>
  intro f i first acc rest _ _ hS hz hf
  obtain ⟨f, rfl⟩ : ∃ g, f = g + 1 := ⟨f - 1, by omega⟩
  have h0 : hnd t i = 125 := by cases first <;> exact hS.one
  rw [obj, if_pos h0, List.append_nil]
  cases first <;> rfl
 | cons x r ih =>
  intro f i first acc rest hr hN hS hz hf
  obtain ⟨f, rfl⟩ : ∃ g, f = g + 1 := ⟨f - 1, by omega⟩
  obtain ⟨hv, hb⟩ := hr x (by simp)
  have hbl := hb.len
  have hql := quo_len x.f0
  rw [namedF] at hN
  split at hN
  ·cases hN
  rename_i hnew
  split at hN
  ·rename_i hval
   have go : ∀ j, hnd t i ≠ 125 → (if first = true then (.ok () i : Res Unit) else (wd t [44] i).bind fun _ j => .ok () (skip isBl t j)) = .ok () j → Stands' t j (quo x.f0 ++ 58 :: (ch x.f1 ++ (sep false (r.map (fw ch)) ++ 125 :: rest))) → i ≤ j → j + (quo x.f0).length + 1 + (ch x.f1).length + (sep false (r.map (fw ch))).length + 1 ≤ t.size →
     obj t pv (f + 1) i first acc = .ok (acc ++ x :: r) (j + (quo x.f0).length + 1 + (ch x.f1).length + (sep false (r.map (fw ch))).length + 1) := by
    intro j h125 hj hS hij hz
    have h34 : hnd t j = 34 := by obtain ⟨q, hq⟩ := quo_begins x.f0; rw [hq] at hS; exact hS.one
    have hS2 := hS.app.2
    have h58 : hnd t (j + (quo x.f0).length) = 58 := hS2.one
    have hS3 := hS2.tail
    have hn := sep_next hS3.app.2
    have hst : NumStop (hnd t (j + (quo x.f0).length + 1 + (ch x.f1).length)) := by rcases hn with h | h <;> rw [h]; exact stop44; exact stop125
    have hk : skip isBl t (j + (quo x.f0).length + 1 + (ch x.f1).length) = j + (quo x.f0).length + 1 + (ch x.f1).length := skip_stop (by rcases hn with h | h; exact .inr (.inl h); exact .inr (.inr (.inr (.inl h))))
    have hk2 : skip isBl t (j + (quo x.f0).length) = j + (quo x.f0).length := skip_stop (by simp [h58])
    have hk3 : skip isBl t (j + (quo x.f0).length + 1) = j + (quo x.f0).length + 1 := skip_stop (.inl (hb.at_ hS3))
    have hna : namesOf (acc ++ [x]) = namesOf acc ++ [x.f0.data.toList] := by unfold namesOf; rw [List.map_append]; rfl
    have := ih f (j + (quo x.f0).length + 1 + (ch x.f1).length) false (acc ++ [x]) rest (fun y hy => hr y (by simp [hy])) (by rw [hna]; exact hN) hS3.app.2 (by omega) (by omega)
    rw [obj, if_neg h125, hj]
    show (if hnd t j = 34 then _ else _) = _
    rw [if_pos h34, text_quo hval hS (by omega)]
    show (wd t [58] (skip isBl t (j + (quo x.f0).length))).bind _ = _
    rw [hk2, wd_one h58]
    show (pv (skip isBl t (j + (quo x.f0).length + 1))).bind _ = _
    rw [hk3, hv _ hS3.app.1 (by omega) hst]
    show obj t pv f (skip isBl t (j + (quo x.f0).length + 1 + (ch x.f1).length)) false (putF acc ⟨x.f0.data.toList.toArray⟩ x.f1) = _
    rw [hk, show (⟨x.f0.data.toList.toArray⟩ : ByteArray) = x.f0 from ba_eq (by simp), putF_new hnew]
    show obj t pv f _ false (acc ++ [x]) = _
    rw [this, List.append_assoc]
    rfl
   cases first with
   | true =>
    simp only [List.map_cons, sep, if_true, fw, List.append_assoc, List.length_append, List.cons_append, List.length_cons] at hS hz ⊢
    have h34 : hnd t i = 34 := by obtain ⟨q, hq⟩ := quo_begins x.f0; rw [hq] at hS; exact hS.one
    rw [go i (by omega) (if_pos rfl) hS (by omega) (by omega)]
    congr 1
    omega
   | false =>
    simp only [List.map_cons, sep, Bool.false_eq_true, if_false, fw, List.append_assoc, List.length_append, List.cons_append, List.length_cons] at hS hz ⊢
    have h44 : hnd t i = 44 := hS.one
    have h34 : hnd t (i + 1) = 34 := by obtain ⟨q, hq⟩ := quo_begins x.f0; have := hS.tail; rw [hq] at this; exact this.one
    have hk : skip isBl t (i + 1) = i + 1 := skip_stop (by simp [h34])
    rw [go (i + 1) (by omega) (by rw [if_neg (by simp), wd_one h44]; show (.ok () (skip isBl t (i + 1)) : Res Unit) = _; rw [hk]) hS.tail (by omega) (by omega)]
    congr 1
    omega
  ·cases hN
theorem wrF_begins {ch : JV → List UInt8} {v : JV} (h : fineV v = true) : Begins (wrF ch v) := by
 obtain ⟨_, _, _, _, h3, _, _⟩ := fineV_parts h
 unfold wrF
 split
 ·exact ⟨110, _, rfl, rfl, by decide, by decide, by decide⟩
 split
 ·exact ⟨102, _, rfl, rfl, by decide, by decide, by decide⟩
 split
 ·exact ⟨116, _, rfl, rfl, by decide, by decide, by decide⟩
 split
 ·rename_i c
  obtain ⟨n0, _, n1, _⟩ := num_parts (h3 c)
  have hl : v.f1.data.toList.length = v.f1.size := Array.length_toList
  have hz : v.f1.data.toList = v.f1[0] :: v.f1.data.toList.tail := by
   cases hd : v.f1.data.toList with
   | nil => rw [hd] at hl; simp at hl; omega
   | cons a r =>
    have : v.f1[0] = v.f1.data.toList[0]'(by omega) := rfl
    rw [this]
    simp [hd]
  refine ⟨v.f1[0], _, hz, ?_⟩
  have := dig_lead (num_lead n1)
  unfold hnd at this
  rwa [dif_pos n0] at this
 split
 ·exact ⟨34, _, rfl, rfl, by decide, by decide, by decide⟩
 split
 ·exact ⟨91, _, rfl, rfl, by decide, by decide, by decide⟩
 ·exact ⟨123, _, rfl, rfl, by decide, by decide, by decide⟩
theorem stands_wd {t : ByteArray} : ∀ (l : List UInt8) (i : Nat), Stands' t i l → wd t (l.map UInt8.toNat) i = .ok () (i + l.length) := by
 intro l
 induction l with
 | nil => intro i _; rfl
 | cons c r ih =>
  intro i h
  rw [List.map_cons, wd_cons, if_pos h.one, ih (i + 1) h.tail]
  congr 1
  simp
  omega
theorem stands_cut {t : ByteArray} {i : Nat} {l : List UInt8} (h : Stands' t i l) (hz : i + l.length ≤ t.size) : (t.extract i (i + l.length)).data.toList = l := by
 refine map_inj ?_
 rw [cut_list t l.length i hz]
 refine List.ext_getElem (by simp) fun k h1 h2 => ?_
 simp at h1
 simp [h k h1]
theorem stands_hnd {s : ByteArray} (t : ByteArray) {i : Nat} (h : Stands' t i s.data.toList) : ∀ q, q < s.size → hnd t (i + q) = hnd s (0 + q) := by
 intro q hq
 have hl : s.data.toList.length = s.size := Array.length_toList
 rw [h q (by omega), Nat.zero_add]
 unfold hnd
 rw [dif_pos hq]
 rfl
/-- What is written is read as the same value. -/
theorem flat_wr {t : ByteArray} {br : Nat → Res JV} {ch : JV → List UInt8} {v : JV} (h : fineV v = true) (hbr : ∀ i, Stands' t i (wrF ch v) → i + (wrF ch v).length ≤ t.size → (v.f0 = 5 ∨ v.f0 = 6) → br i = .ok v (i + (wrF ch v).length)) (h0 : 0 ≤ v.f0) : Reads t (flat t br) (wrF ch v) v := by
 intro i hS hz hst
 obtain ⟨h6, h1, h2, h3, hn, ht, _⟩ := fineV_parts h
 by_cases c0 : v.f0 = 0
 ·have e : wrF ch v = [110, 117, 108, 108] := if_pos c0
  rw [e] at hS hz ⊢
  unfold flat
  rw [if_pos (show hnd t i = 110 from hS.one), show wd t [110, 117, 108, 108] i = _ from stands_wd _ _ hS]
  show Res.ok _ _ = _
  congr 1
  cases v
  simp_all
  rfl
 by_cases c1 : v.f0 = 1
 ·have e : wrF ch v = [102, 97, 108, 115, 101] := by unfold wrF; rw [if_neg c0, if_pos c1]
  rw [e] at hS hz ⊢
  have ho : hnd t i = 102 := hS.one
  unfold flat
  rw [if_neg (by omega), if_neg (by omega), if_pos ho, show wd t [102, 97, 108, 115, 101] i = _ from stands_wd _ _ hS]
  show Res.ok _ _ = _
  congr 1
  cases v
  simp_all
  rfl
 by_cases c2 : v.f0 = 2
 ·have e : wrF ch v = [116, 114, 117, 101] := by unfold wrF; rw [if_neg c0, if_neg c1, if_pos c2]
  rw [e] at hS hz ⊢
  have ho : hnd t i = 116 := hS.one
  unfold flat
  rw [if_neg (by omega), if_pos ho, show wd t [116, 114, 117, 101] i = _ from stands_wd _ _ hS]
  show Res.ok _ _ = _
  congr 1
  cases v
  simp_all
  rfl
 by_cases c3 : v.f0 = 3
 ·have e : wrF ch v = v.f1.data.toList := by unfold wrF; rw [if_neg c0, if_neg c1, if_neg c2, if_pos c3]
  rw [e] at hS hz hst ⊢
  have hl : v.f1.data.toList.length = v.f1.size := Array.length_toList
  obtain ⟨n0, _, n1, n2, n3, n4, n5, n6, n7⟩ := num_parts (hn c3)
  have hsame := stands_hnd t hS
  have hsub : Sub v.f1 t 0 i v.f1.size := ⟨hsame, by omega, by omega, by rw [← hl]; exact hst⟩
  have hnum := number_sub hsub (i := 0) (j := v.f1.size) (by simpa using n1) (Nat.le_refl _)
  have hh := hsame 0 n0
  rw [Nat.add_zero, Nat.add_zero] at hh
  rw [Nat.add_zero] at hnum
  unfold flat
  rw [hh, if_neg n2, if_neg n3, if_neg n4, if_neg n5, if_neg (by omega), hnum, hl]
  show Res.ok _ _ = _
  congr 1
  have hcut := stands_cut hS hz
  rw [hl] at hcut
  have hcut := ba_eq hcut
  rw [hcut]
  cases v
  simp_all
 by_cases c4 : v.f0 = 4
 ·have e : wrF ch v = quo v.f1 := by unfold wrF; rw [if_neg c0, if_neg c1, if_neg c2, if_neg c3, if_pos c4]
  rw [e] at hS hz ⊢
  have ho : hnd t i = 34 := by obtain ⟨q, hq⟩ := quo_begins v.f1; rw [hq] at hS; exact hS.one
  have htx := text_quo (ht c4) (rest := []) (by rw [List.append_nil]; exact hS) hz
  unfold flat
  rw [if_neg (by omega), if_neg (by omega), if_neg (by omega), if_pos ho, htx]
  show Res.ok _ _ = _
  congr 1
  cases v
  simp_all
 have h56 : v.f0 = 5 ∨ v.f0 = 6 := by omega
 have ho : hnd t i = 91 ∨ hnd t i = 123 := by
  by_cases c5 : v.f0 = 5
  ·left
   have e : wrF ch v = 91 :: (sep true (v.f2.map ch) ++ [93]) := by unfold wrF; rw [if_neg c0, if_neg c1, if_neg c2, if_neg c3, if_neg c4, if_pos c5]
   rw [e] at hS
   exact hS.one
  ·right
   have e : wrF ch v = 123 :: (sep true (v.f3.map fun f => quo f.f0 ++ 58 :: ch f.f1) ++ [125]) := by unfold wrF; rw [if_neg c0, if_neg c1, if_neg c2, if_neg c3, if_neg c4, if_neg c5]
   rw [e] at hS
   exact hS.one
 rw [flat_br ho]
 exact hbr i hS hz h56
/-- All kinds of a value are told by numbers that are not below 0 (they are bytes). -/
def posD : Nat → JV → Bool
 | 0, v => decide (0 ≤ v.f0)
 | d + 1, v => decide (0 ≤ v.f0) && v.f2.all (posD d) && v.f3.all (fun f => posD d f.f1)
theorem pval_wr {t : ByteArray} : ∀ (d : Nat) (v : JV), mayD d v = true → posD d v = true → Reads t (pval t d) (wrD d v) v ∧ Begins (wrD d v) := by
 intro d
 induction d with
 | zero =>
  intro v h hp
  have hf := mayD_fine h
  simp only [mayD, Bool.and_eq_true, decide_eq_true_eq] at h
  exact ⟨flat_wr hf (fun i _ _ hc => by omega) (by simpa [posD] using hp), wrF_begins hf⟩
 | succ d ih =>
  intro v h hp
  have hf := mayD_fine h
  simp only [mayD, Bool.and_eq_true, List.all_eq_true] at h
  simp only [posD, Bool.and_eq_true, List.all_eq_true, decide_eq_true_eq] at hp
  refine ⟨flat_wr hf (fun i hS hz hc => ?_) hp.1.1, wrF_begins hf⟩
  obtain ⟨h6, h1, h2, h3, hn, ht, hnm⟩ := fineV_parts hf
  by_cases c5 : v.f0 = 5
  rotate_left
  ·have c6 : v.f0 = 6 := by omega
   have e : wrF (wrD d) v = 123 :: (sep true (v.f3.map (fw (wrD d))) ++ [125]) := by unfold wrF; rw [if_neg (by omega), if_neg (by omega), if_neg (by omega), if_neg (by omega), if_neg (by omega), if_neg c5]; rfl
   rw [e] at hS hz ⊢
   simp only [List.length_cons, List.length_append, List.length_nil] at hz ⊢
   have ho : hnd t i = 123 := hS.one
   have hb : hnd t (i + 1) = 125 ∨ hnd t (i + 1) = 34 := by
    have hS2 := hS.tail
    cases hl : v.f3 with
    | nil => rw [hl] at hS2; exact .inl hS2.one
    | cons x r =>
     rw [hl] at hS2
     simp only [List.map_cons, sep, if_true, List.append_assoc, fw] at hS2
     obtain ⟨q, hq⟩ := quo_begins x.f0
     rw [hq] at hS2
     exact .inr hS2.one
   have hk : skip isBl t (i + 1) = i + 1 := skip_stop (by rcases hb with hb | hb <;> simp [hb])
   have hl := obj_wr (t := t) (pv := pval t d) (ch := wrD d) v.f3 (t.size + 1) (i + 1) true [] [] (fun x hx => ih x.f1 (h.2 x hx) (hp.2 x hx)) (hnm c6) (by simpa using hS.tail) (by omega) (by omega)
   unfold brk
   rw [if_neg (by omega), hk, hl]
   show Res.ok _ _ = _
   congr 1
   ·cases v
    simp_all
    rfl
   ·omega
  have e : wrF (wrD d) v = 91 :: (sep true (v.f2.map (wrD d)) ++ [93]) := by unfold wrF; rw [if_neg (by omega), if_neg (by omega), if_neg (by omega), if_neg (by omega), if_neg (by omega), if_pos c5]
  rw [e] at hS hz ⊢
  simp only [List.length_cons, List.length_append, List.length_nil] at hz ⊢
  have ho : hnd t i = 91 := hS.one
  have hb : hnd t (i + 1) = 93 ∨ Lead (hnd t (i + 1)) := by
   have hS2 := hS.tail
   cases hl : v.f2 with
   | nil => rw [hl] at hS2; exact .inl hS2.one
   | cons x r =>
    rw [hl] at hS2
    simp only [List.map_cons, sep, if_true, List.append_assoc] at hS2
    exact .inr ((ih x (h.1.2 x (by rw [hl]; simp)) (hp.1.2 x (by rw [hl]; simp))).2.at_ hS2)
  have hk : skip isBl t (i + 1) = i + 1 := skip_stop (by rcases hb with hb | hb; exact .inr (.inr (.inl hb)); exact .inl hb)
  have hl := lst_wr (t := t) (pv := pval t d) (ch := wrD d) v.f2 (t.size + 1) (i + 1) [] [] (fun x hx => ih x (h.1.2 x hx) (hp.1.2 x hx)) (by simpa using hS.tail) (by simp only [List.length_nil, decide_true]; omega) (by omega)
  unfold brk
  rw [if_pos ho, hk, hl]
  show Res.ok _ _ = _
  congr 1
  ·cases v
   simp_all
   rfl
  ·simp only [List.length_nil, decide_true]; omega
def qlen (l : List UInt8) : Nat := (l.flatMap fun c => qByte c.toNat).length
theorem qByte_len (c : Nat) : (qByte c).length ≤ 6 := by
 unfold qByte
 repeat' split
 all_goals simp
theorem qlen_le (l : List UInt8) : qlen l ≤ 6 * l.length := by
 induction l with
 | nil => simp [qlen]
 | cons c r ih =>
  unfold qlen at ih ⊢
  rw [List.flatMap_cons, List.length_append, List.length_cons]
  have := qByte_len c.toNat
  omega
theorem mayD_flat {d : Nat} {v : JV} (h : fineV v = true) (h5 : v.f0 < 5) (h2 : v.f2 = []) (h3 : v.f3 = []) : mayD d v = true := by
 cases d with
 | zero => simp only [mayD, h, Bool.true_and]; exact decide_eq_true h5
 | succ d => simp only [mayD, h, h2, h3, List.all_nil, Bool.and_self]
theorem posD_flat {d : Nat} {v : JV} (h0 : 0 ≤ v.f0) (h2 : v.f2 = []) (h3 : v.f3 = []) : posD d v = true := by
 cases d with
 | zero => exact decide_eq_true h0
 | succ d => simp only [posD, h2, h3, List.all_nil, Bool.and_true]; exact decide_eq_true h0
theorem wrD_eq (d : Nat) (v : JV) : ∃ ch, wrD d v = wrF ch v := by
 cases d with
 | zero => exact ⟨_, rfl⟩
 | succ d => exact ⟨_, rfl⟩
/-- What is written is read as the same value. -/
theorem parsed_wr {v : JV} (h : mayD 64 v = true) (hp : posD 64 v = true) (hl : (wrD 64 v).length ≤ 262144) : parsed ⟨(wrD 64 v).toArray⟩ = (v, 0, 0) := by
 obtain ⟨t, ht⟩ : ∃ t : ByteArray, t = ⟨(wrD 64 v).toArray⟩ := ⟨_, rfl⟩
 have htl : t.data.toList = wrD 64 v := by rw [ht]
 have hts : t.size = (wrD 64 v).length := by rw [← htl]; exact Array.length_toList.symm
 rw [← ht]
 obtain ⟨hr, hb⟩ := pval_wr (t := t) 64 v h hp
 have hS : Stands' t 0 (wrD 64 v) := by
  intro q hq
  rw [Nat.zero_add]
  unfold hnd
  rw [dif_pos (by omega)]
  have : t[q]'(by omega) = t.data.toList[q]'(by rw [htl]; exact hq) := rfl
  rw [this]
  simp only [htl]
 have hv := hr 0 hS (by omega) (by rw [Nat.zero_add, hnd_ge (by omega)]; exact numStop0)
 rw [Nat.zero_add, ← hts] at hv
 have hk : skip isBl t 0 = 0 := skip_at ((hb.at_ (r := []) (by rw [List.append_nil]; exact hS)).1)
 have hk2 : skip isBl t t.size = t.size := skip_at (by rw [hnd_ge (Nat.le_refl _)]; rfl)
 unfold parsed
 rw [if_neg (by omega)]
 have : parse t = .ok v 0 := by
  unfold parse
  rw [hk, hv]
  show (if _ then _ else _) = _
  rw [hk2, if_neg (by omega)]
 rw [this]
/-- Two values that may be and are written alike are the same. -/
theorem wr_inj {v w : JV} (h : mayD 64 v = true) (hp : posD 64 v = true) (hl : (wrD 64 v).length ≤ 262144) (h2 : mayD 64 w = true) (hp2 : posD 64 w = true) (he : wrD 64 v = wrD 64 w) : v = w := by
 have a := parsed_wr h hp hl
 have b := parsed_wr h2 hp2 (by rw [← he]; exact hl)
 rw [he, b] at a
 injection a with a
 exact a.symm
def wpL (ch : List UInt8 → JV → List UInt8) : Bool → List UInt8 → List JV → List UInt8
 | _, b, [] => b
 | first, b, x :: r => wpL ch false (ch (if first = true then b else b ++ [44]) x) r
def wpO (ch : List UInt8 → JV → List UInt8) : Bool → List UInt8 → List JF → List UInt8
 | _, b, [] => b
 | first, b, x :: r => wpO ch false (ch ((if first = true then b else b ++ [44]) ++ (quo x.f0 ++ [58])) x.f1) r
def wpF (ch : List UInt8 → JV → List UInt8) (b : List UInt8) (v : JV) : List UInt8 :=
 if 262144 < b.length then b else if v.f0 = 0 then b ++ [110, 117, 108, 108] else if v.f0 = 1 then b ++ [102, 97, 108, 115, 101] else if v.f0 = 2 then b ++ [116, 114, 117, 101] else if v.f0 = 3 then b ++ v.f1.data.toList else if v.f0 = 4 then b ++ quo v.f1
 else if v.f0 = 5 then wpL ch true (b ++ [91]) v.f2 ++ [93] else wpO ch true (b ++ [123]) v.f3 ++ [125]
def wpD : Nat → List UInt8 → JV → List UInt8
 | 0 => wpF (fun b _ => b)
 | d + 1 => wpF (wpD d)
/-- As it is written, or too long both ways. -/
def Cl (b out full : List UInt8) : Prop := b.length ≤ out.length ∧ (out = full ∨ (262144 < out.length ∧ 262144 < full.length))
theorem wpL_cl {ch : List UInt8 → JV → List UInt8} {wr : JV → List UInt8} : ∀ (l : List JV), (∀ x ∈ l, ∀ b, Cl b (ch b x) (b ++ wr x)) → ∀ (first : Bool) (b : List UInt8), Cl b (wpL ch first b l) (b ++ sep first (l.map wr)) := by
 intro l
 induction l with
 | nil => intro _ first b; exact ⟨Nat.le_refl _, .inl (by simp [wpL, sep])⟩
 | cons x r ih =>
  intro h first b
  obtain ⟨b', hb'⟩ : ∃ b', b' = (if first = true then b else b ++ [44]) := ⟨_, rfl⟩
  have hfull : b ++ sep first ((x :: r).map wr) = b' ++ wr x ++ sep false (r.map wr) := by rw [hb']; cases first <;> simp [sep]
  have hlen : b.length ≤ b'.length := by rw [hb']; cases first <;> simp
  rw [hfull]
  show Cl b (wpL ch false (ch (if first = true then b else b ++ [44]) x) r) _
  rw [← hb']
  obtain ⟨h1, h2⟩ := h x (by simp) b'
  obtain ⟨h3, h4⟩ := ih (fun y hy => h y (by simp [hy])) false (ch b' x)
  refine ⟨by omega, ?_⟩
  rcases h2 with h2 | ⟨h2, h5⟩
  ·rw [h2] at h4 ⊢
   exact h4
  ·refine .inr ⟨by omega, ?_⟩
   rw [List.length_append]
   omega
theorem wpO_cl {ch : List UInt8 → JV → List UInt8} {wr : JV → List UInt8} : ∀ (l : List JF), (∀ x ∈ l, ∀ b, Cl b (ch b x.f1) (b ++ wr x.f1)) → ∀ (first : Bool) (b : List UInt8), Cl b (wpO ch first b l) (b ++ sep first (l.map (fw wr))) := by
 intro l
 induction l with
 | nil => intro _ first b; exact ⟨Nat.le_refl _, .inl (by simp [wpO, sep])⟩
 | cons x r ih =>
  intro h first b
  obtain ⟨b', hb'⟩ : ∃ b', b' = (if first = true then b else b ++ [44]) ++ (quo x.f0 ++ [58]) := ⟨_, rfl⟩
  have hfull : b ++ sep first ((x :: r).map (fw wr)) = b' ++ wr x.f1 ++ sep false (r.map (fw wr)) := by rw [hb']; cases first <;> simp [sep, fw]
  have hlen : b.length ≤ b'.length := by rw [hb']; cases first <;> simp <;> omega
  rw [hfull]
  show Cl b (wpO ch false (ch ((if first = true then b else b ++ [44]) ++ (quo x.f0 ++ [58])) x.f1) r) _
  rw [← hb']
  obtain ⟨h1, h2⟩ := h x (by simp) b'
  obtain ⟨h3, h4⟩ := ih (fun y hy => h y (by simp [hy])) false (ch b' x.f1)
  refine ⟨by omega, ?_⟩
  rcases h2 with h2 | ⟨h2, h5⟩
  ·rw [h2] at h4 ⊢
   exact h4
  ·refine .inr ⟨by omega, ?_⟩
   rw [List.length_append]
   omega
theorem wpF_cl {ch : List UInt8 → JV → List UInt8} {wr : JV → List UInt8} {v : JV} (h2 : ∀ x ∈ v.f2, ∀ b, Cl b (ch b x) (b ++ wr x)) (h3 : ∀ x ∈ v.f3, ∀ b, Cl b (ch b x.f1) (b ++ wr x.f1)) (b : List UInt8) : Cl b (wpF ch b v) (b ++ wrF wr v) := by
 unfold wpF wrF
 by_cases hb : 262144 < b.length
 ·rw [if_pos hb]
  exact ⟨Nat.le_refl _, .inr ⟨hb, by rw [List.length_append]; omega⟩⟩
 rw [if_neg hb]
 split
 ·exact ⟨by simp, .inl rfl⟩
 split
 ·exact ⟨by simp, .inl rfl⟩
 split
 ·exact ⟨by simp, .inl rfl⟩
 split
 ·exact ⟨by simp, .inl rfl⟩
 split
 ·exact ⟨by simp, .inl rfl⟩
 split
 ·obtain ⟨a, c⟩ := wpL_cl v.f2 h2 true (b ++ [91])
  simp only [List.length_append, List.length_cons, List.length_nil] at a
  refine ⟨by simp; omega, ?_⟩
  rcases c with c | ⟨c, e⟩
  ·rw [c]; exact .inl (by simp)
  ·refine .inr ⟨by simp; omega, ?_⟩
   simp only [List.length_append, List.length_cons, List.length_nil] at e ⊢
   omega
 ·obtain ⟨a, c⟩ := wpO_cl v.f3 h3 true (b ++ [123])
  simp only [List.length_append, List.length_cons, List.length_nil] at a
  refine ⟨by simp; omega, ?_⟩
  rcases c with c | ⟨c, e⟩
  ·rw [c]; exact .inl (by simp; rfl)
  ·refine .inr ⟨by simp; omega, ?_⟩
   simp only [List.length_append, List.length_cons, List.length_nil] at e ⊢
   have h : (v.f3.map fun f => quo f.f0 ++ 58 :: wr f.f1) = v.f3.map (fw wr) := rfl
   rw [h]
   omega
theorem wpD_cl : ∀ (d : Nat) (v : JV), mayD d v = true → ∀ b, Cl b (wpD d b v) (b ++ wrD d v) := by
 intro d
 induction d with
 | zero =>
  intro v h b
  have hf := mayD_fine h
  obtain ⟨_, _, h2, h3, _⟩ := fineV_parts hf
  simp only [mayD, Bool.and_eq_true, decide_eq_true_eq] at h
  refine wpF_cl (fun x hx => ?_) (fun x hx => ?_) b
  ·rcases h2 with h2 | h2
   ·rw [h2] at hx; cases hx
   ·omega
  ·rcases h3 with h3 | h3
   ·rw [h3] at hx; cases hx
   ·omega
 | succ d ih =>
  intro v h b
  simp only [mayD, Bool.and_eq_true, List.all_eq_true] at h
  exact wpF_cl (fun x hx => ih x (h.1.2 x hx)) (fun x hx => ih x.f1 (h.2 x hx)) b
/-- What a value is printed as, or why it is not. -/
def printedV (v : JV) : ByteArray × Int := if mayD 64 v = true then (if 262144 < (wrD 64 v).length then (⟨#[]⟩, 3) else (⟨(wrD 64 v).toArray⟩, 0)) else (⟨#[]⟩, 40)
/-- A writer at block b that holds these bytes. -/
def WS (b : Nat) (l : List UInt8) (w : World) : Prop := Lib.IsBuilderF 52 5 b b (Lib.byteCells l) w
/-- What a writing call leaves as it was. -/
def WK (b : Nat) (w w' : World) : Prop := Below b w w' ∧ Lib.OthersKept 5 (some b) w w'
theorem WK.refl (b : Nat) (w : World) : WK b w w := ⟨Below.refl _ _, Lib.OthersKept.refl _ _ _⟩
theorem WK.trans {b : Nat} {a c d : World} (h : WK b a c) (k : WK b c d) : WK b a d := ⟨h.1.trans k.1, h.2.trans k.2⟩
theorem WK.alloc {b : Nat} {a c : World} (h : WK b a c) (hb : b ≤ c.heap.size) (o : Obj) : WK b a (c.alloc o) := ⟨h.1.alloc hb o, h.2.alloc o⟩
theorem WK.below {b : Nat} {a c d : World} (h : WK b a c) (hb : b ≤ c.heap.size) (k : Below c.heap.size c d) : WK b a d := ⟨h.1.trans (k.mono hb), fun i o hi hn ho => by have e := h.2 i o hi hn ho; exact (k.block i (Array.getElem?_eq_some_iff.1 e).1).trans e⟩
theorem WK.drew {b : Nat} {a c : World} (h : WK b a c) : WK b a c.drew := ⟨h.1.drew, h.2.drew⟩
theorem WK.size {b : Nat} {a c : World} (h : WK b a c) : a.heap.size ≤ c.heap.size := h.1.size
theorem WK.blk {b N : Nat} {a c : World} {cs : Array Value} {T : TypeId} {fz : Nat × Nat} (h : WK b a c) (hN : a.heap[N]? = some (.cells cs T fz)) (hb : b < N) (hT : T ≠ 5) : c.heap[N]? = some (.cells cs T fz) :=
 h.2 N _ hN (fun e => by have := Option.some.inj e; omega) (fun c f e => by injection e with _ e2 _; exact hT e2)
theorem WK.base {b : Nat} {w0 a c : World} (h : WK b a c) (h0 : Below w0.heap.size w0 a) (hb : w0.heap.size ≤ b) : Below w0.heap.size w0 c := h0.trans (h.1.mono hb)
theorem WS.lt {b : Nat} {l : List UInt8} {w : World} (h : WS b l w) : b < w.heap.size := by
 rcases h with ⟨_, v, hk, _⟩ | ⟨_, v, hk, _⟩ <;> exact (Array.getElem?_eq_some_iff.1 hk).1
theorem WS.alloc {b : Nat} {l : List UInt8} {w : World} (h : WS b l w) (o : Obj) : WS b l (w.alloc o) := Lib.IsBuilderF.alloc h o
theorem WS.drew {b : Nat} {l : List UInt8} {w : World} (h : WS b l w) : WS b l w.drew := h.imp (fun x => x.drew) (fun x => x.drew)
theorem WS.below {b : Nat} {l : List UInt8} {w w' : World} (h : WS b l w) (hb : Below w.heap.size w w') : WS b l w' := builder_below h hb
theorem ws_len (b : Nat) (l : List UInt8) (w : World) (h : WS b l w) : Calls Tryz.prog 26 #[.pointer (some ⟨b, 0, none⟩)] w fun e w' => e = .returned (.int .i64 (l.length : Int)) ∧ w = w' := by
 refine (wb_len b b _ w h).mono ?_
 rintro e w' ⟨rfl, rfl⟩
 rw [Lib.byteCells_length]
 exact ⟨rfl, rfl⟩
theorem ws_byte (b : Nat) (l : List UInt8) (c : Nat) (x : UInt8) (hx : x.toNat = c) (w : World) (h : WS b l w) (hl : l.length + 1 ≤ 140737488300000) : Calls Tryz.prog 38 #[.pointer (some ⟨b, 0, none⟩), .int .u8 c] w fun e w' => e = .returned .nilIface ∧ WS b (l ++ [x]) w' ∧ WK b w w' := by
 refine (ww_byte b b _ (c : Int) w h (by rw [Lib.byteCells_length]; omega) (Nat.le_of_lt h.lt)).mono ?_
 rintro e w' ⟨rfl, h1, h2, h3⟩
 refine ⟨rfl, ?_, h2, h3⟩
 unfold WS
 rw [Lib.byteCells_append, show Lib.byteCells [x] = [.int .u8 (c : Int)] by simp [Lib.byteCells, hx]]
 exact .inr h1
theorem ws_str (b : Nat) (l m : List UInt8) (s : ByteArray) (hs : s.data.toList = m) (w : World) (h : WS b l w) (hl : l.length + m.length ≤ 140737488300000) : Calls Tryz.prog 40 #[.pointer (some ⟨b, 0, none⟩), .string s] w fun e w' => e = .returned (.tuple #[.int .i64 s.size, .nilIface]) ∧ WS b (l ++ m) w' ∧ WK b w w' := by
 have hz : s.size = m.length := by rw [← hs]; exact Array.length_toList.symm
 refine (ww_str b b _ s w h (by rw [Lib.byteCells_length]; omega) (Nat.le_of_lt h.lt)).mono ?_
 rintro e w' ⟨rfl, h1, h2, h3⟩
 refine ⟨rfl, ?_, h2, h3⟩
 unfold WS
 rw [Lib.byteCells_append, show Lib.byteCells m = Lib.strCells s by rw [← hs]; rfl]
 exact .inr h1
set_option maxRecDepth 100000 in
set_option maxHeartbeats 4000000 in
theorem wv_full (k : Int) (b : Nat) (acc : List UInt8) (t : ByteArray) (A2 A3 : Option Addr) (n2 c2 n3 c3 : Nat) (w : World) (hW : WS b acc w) (hf : 262144 < acc.length) :
  Calls Tryz.prog 25 #[.pointer (some ⟨b, 0, none⟩), .agg #[.int .u8 k, .string t, .slice A2 n2 c2, .slice A3 n3 c3]] w fun e w' => e = .returned (.tuple #[]) ∧ WS b acc w' ∧ WK b w w' := by
 have tf : decide ((262144 : Int) < (acc.length : Int)) = true := decide_eq_true (by omega)
 clear hf; obtain ⟨W1, hW1⟩ : ∃ W1, W1 = w.alloc (.cells #[.int .u8 k, .string t, .slice A2 n2 c2, .slice A3 n3 c3] 25 (0, 0)) := ⟨_, rfl⟩
 obtain ⟨N, hN⟩ : ∃ N, N = w.heap.size := ⟨_, rfl⟩
 have HX := Aside0.mk (show W1.heap[N]? = some (.cells #[.int .u8 k, .string t, .slice A2 n2 c2, .slice A3 n3 c3] 25 (0, 0)) by rw [hW1, hN]; exact blk_new w _)
 have HS1 := Aside0.mk (show WS b acc W1 by rw [hW1]; exact hW.alloc _)
 have HK1 := Aside0.mk (show WK b w W1 by rw [hW1]; exact (WK.refl b w).alloc (Nat.le_of_lt hW.lt) _)
 have HBN := Aside0.mk (show b < N by rw [hN]; exact hW.lt)
 clear hW; go_enter Tryz.func25, Tryz.ntmps25
 go_upto_region 1 with (fail)
 rw [← hW1, ← hN]
 clear hW1 hN; go_wp2_with (go_at_call 26; refine (ws_len b acc _ (by exact HS1.out)).mono ?_; rintro e w1 ⟨rfl, rfl⟩)
 exact bodyPost_ret (v := .tuple #[]) (by simp [results, Tryz.results25]) rfl ⟨rfl, HS1.out, HK1.out⟩
set_option maxRecDepth 100000 in
set_option maxHeartbeats 4000000 in
theorem wv_null (b : Nat) (acc : List UInt8) (t : ByteArray) (A2 A3 : Option Addr) (n2 c2 n3 c3 : Nat) (w : World) (hW : WS b acc w) (hf : ¬ 262144 < acc.length) :
  Calls Tryz.prog 25 #[.pointer (some ⟨b, 0, none⟩), .agg #[.int .u8 0, .string t, .slice A2 n2 c2, .slice A3 n3 c3]] w fun e w' => e = .returned (.tuple #[]) ∧ WS b (acc ++ [110, 117, 108, 108]) w' ∧ WK b w w' := by
 have tf : decide ((262144 : Int) < (acc.length : Int)) = false := decide_eq_false (by omega)
 have HF := Aside0.mk hf; clear hf; obtain ⟨W1, hW1⟩ : ∃ W1, W1 = w.alloc (.cells #[.int .u8 0, .string t, .slice A2 n2 c2, .slice A3 n3 c3] 25 (0, 0)) := ⟨_, rfl⟩
 obtain ⟨N, hN⟩ : ∃ N, N = w.heap.size := ⟨_, rfl⟩
 have HX := Aside0.mk (show W1.heap[N]? = some (.cells #[.int .u8 0, .string t, .slice A2 n2 c2, .slice A3 n3 c3] 25 (0, 0)) by rw [hW1, hN]; exact blk_new w _)
 have HS1 := Aside0.mk (show WS b acc W1 by rw [hW1]; exact hW.alloc _)
 have HK1 := Aside0.mk (show WK b w W1 by rw [hW1]; exact (WK.refl b w).alloc (Nat.le_of_lt hW.lt) _)
 have HBN := Aside0.mk (show b < N by rw [hN]; exact hW.lt)
 have x0 := blk_cell HX.out 0
 clear hW; go_enter Tryz.func25, Tryz.ntmps25
 go_upto_region 1 with (fail)
 rw [← hW1, ← hN]
 clear hW1 hN; go_wp2_with (first | (go_at_call 26; refine (ws_len b acc _ (by exact HS1.out)).mono ?_; rintro e w1 ⟨rfl, rfl⟩) | (go_at_call 40; refine (ws_str b acc [110, 117, 108, 108] _ rfl _ (by exact HS1.out) (by have := HF.out; simp only [List.length_cons, List.length_nil]; omega)).mono ?_; rintro e w2 ⟨rfl, h1, h2⟩; have HS2 := Aside0.mk h1; have HK2 := Aside0.mk (HK1.out.trans h2); clear h1 h2))
 go_end0
 exact ⟨rfl, HS2.out, HK2.out⟩
set_option maxRecDepth 100000 in
set_option maxHeartbeats 4000000 in
theorem wv_false (b : Nat) (acc : List UInt8) (t : ByteArray) (A2 A3 : Option Addr) (n2 c2 n3 c3 : Nat) (w : World) (hW : WS b acc w) (hf : ¬ 262144 < acc.length) :
  Calls Tryz.prog 25 #[.pointer (some ⟨b, 0, none⟩), .agg #[.int .u8 1, .string t, .slice A2 n2 c2, .slice A3 n3 c3]] w fun e w' => e = .returned (.tuple #[]) ∧ WS b (acc ++ [102, 97, 108, 115, 101]) w' ∧ WK b w w' := by
 have tf : decide ((262144 : Int) < (acc.length : Int)) = false := decide_eq_false (by omega)
 have HF := Aside0.mk hf; clear hf; obtain ⟨W1, hW1⟩ : ∃ W1, W1 = w.alloc (.cells #[.int .u8 1, .string t, .slice A2 n2 c2, .slice A3 n3 c3] 25 (0, 0)) := ⟨_, rfl⟩
 obtain ⟨N, hN⟩ : ∃ N, N = w.heap.size := ⟨_, rfl⟩
 have HX := Aside0.mk (show W1.heap[N]? = some (.cells #[.int .u8 1, .string t, .slice A2 n2 c2, .slice A3 n3 c3] 25 (0, 0)) by rw [hW1, hN]; exact blk_new w _)
 have HS1 := Aside0.mk (show WS b acc W1 by rw [hW1]; exact hW.alloc _)
 have HK1 := Aside0.mk (show WK b w W1 by rw [hW1]; exact (WK.refl b w).alloc (Nat.le_of_lt hW.lt) _)
 have HBN := Aside0.mk (show b < N by rw [hN]; exact hW.lt)
 have x0 := blk_cell HX.out 0
 clear hW; go_enter Tryz.func25, Tryz.ntmps25
 go_upto_region 1 with (fail)
 rw [← hW1, ← hN]
 clear hW1 hN; go_wp2_with (first | (go_at_call 26; refine (ws_len b acc _ (by exact HS1.out)).mono ?_; rintro e w1 ⟨rfl, rfl⟩) | (go_at_call 40; refine (ws_str b acc [102, 97, 108, 115, 101] _ rfl _ (by exact HS1.out) (by have := HF.out; simp only [List.length_cons, List.length_nil]; omega)).mono ?_; rintro e w2 ⟨rfl, h1, h2⟩; have HS2 := Aside0.mk h1; have HK2 := Aside0.mk (HK1.out.trans h2); clear h1 h2))
 go_end0
 exact ⟨rfl, HS2.out, HK2.out⟩
set_option maxRecDepth 100000 in
set_option maxHeartbeats 4000000 in
theorem wv_true (b : Nat) (acc : List UInt8) (t : ByteArray) (A2 A3 : Option Addr) (n2 c2 n3 c3 : Nat) (w : World) (hW : WS b acc w) (hf : ¬ 262144 < acc.length) :
  Calls Tryz.prog 25 #[.pointer (some ⟨b, 0, none⟩), .agg #[.int .u8 2, .string t, .slice A2 n2 c2, .slice A3 n3 c3]] w fun e w' => e = .returned (.tuple #[]) ∧ WS b (acc ++ [116, 114, 117, 101]) w' ∧ WK b w w' := by
 have tf : decide ((262144 : Int) < (acc.length : Int)) = false := decide_eq_false (by omega)
 have HF := Aside0.mk hf; clear hf; obtain ⟨W1, hW1⟩ : ∃ W1, W1 = w.alloc (.cells #[.int .u8 2, .string t, .slice A2 n2 c2, .slice A3 n3 c3] 25 (0, 0)) := ⟨_, rfl⟩
 obtain ⟨N, hN⟩ : ∃ N, N = w.heap.size := ⟨_, rfl⟩
 have HX := Aside0.mk (show W1.heap[N]? = some (.cells #[.int .u8 2, .string t, .slice A2 n2 c2, .slice A3 n3 c3] 25 (0, 0)) by rw [hW1, hN]; exact blk_new w _)
 have HS1 := Aside0.mk (show WS b acc W1 by rw [hW1]; exact hW.alloc _)
 have HK1 := Aside0.mk (show WK b w W1 by rw [hW1]; exact (WK.refl b w).alloc (Nat.le_of_lt hW.lt) _)
 have HBN := Aside0.mk (show b < N by rw [hN]; exact hW.lt)
 have x0 := blk_cell HX.out 0
 clear hW; go_enter Tryz.func25, Tryz.ntmps25
 go_upto_region 1 with (fail)
 rw [← hW1, ← hN]
 clear hW1 hN; go_wp2_with (first | (go_at_call 26; refine (ws_len b acc _ (by exact HS1.out)).mono ?_; rintro e w1 ⟨rfl, rfl⟩) | (go_at_call 40; refine (ws_str b acc [116, 114, 117, 101] _ rfl _ (by exact HS1.out) (by have := HF.out; simp only [List.length_cons, List.length_nil]; omega)).mono ?_; rintro e w2 ⟨rfl, h1, h2⟩; have HS2 := Aside0.mk h1; have HK2 := Aside0.mk (HK1.out.trans h2); clear h1 h2))
 go_end0
 exact ⟨rfl, HS2.out, HK2.out⟩
set_option maxRecDepth 100000 in
set_option maxHeartbeats 4000000 in
theorem wv_num (b : Nat) (acc : List UInt8) (t : ByteArray) (A2 A3 : Option Addr) (n2 c2 n3 c3 : Nat) (w : World) (hW : WS b acc w) (hf : ¬ 262144 < acc.length) (hm : acc.length + t.data.toList.length ≤ 140737488300000) :
  Calls Tryz.prog 25 #[.pointer (some ⟨b, 0, none⟩), .agg #[.int .u8 3, .string t, .slice A2 n2 c2, .slice A3 n3 c3]] w fun e w' => e = .returned (.tuple #[]) ∧ WS b (acc ++ t.data.toList) w' ∧ WK b w w' := by
 have tf : decide ((262144 : Int) < (acc.length : Int)) = false := decide_eq_false (by omega)
 have HM := Aside0.mk hm; clear hf hm; obtain ⟨W1, hW1⟩ : ∃ W1, W1 = w.alloc (.cells #[.int .u8 3, .string t, .slice A2 n2 c2, .slice A3 n3 c3] 25 (0, 0)) := ⟨_, rfl⟩
 obtain ⟨N, hN⟩ : ∃ N, N = w.heap.size := ⟨_, rfl⟩
 have HX := Aside0.mk (show W1.heap[N]? = some (.cells #[.int .u8 3, .string t, .slice A2 n2 c2, .slice A3 n3 c3] 25 (0, 0)) by rw [hW1, hN]; exact blk_new w _)
 have HS1 := Aside0.mk (show WS b acc W1 by rw [hW1]; exact hW.alloc _)
 have HK1 := Aside0.mk (show WK b w W1 by rw [hW1]; exact (WK.refl b w).alloc (Nat.le_of_lt hW.lt) _)
 have HBN := Aside0.mk (show b < N by rw [hN]; exact hW.lt)
 have x0 := blk_cell HX.out 0
 have x1 := blk_cell HX.out 1
 clear hW; go_enter Tryz.func25, Tryz.ntmps25
 go_upto_region 1 with (fail)
 rw [← hW1, ← hN]
 clear hW1 hN; go_upto_region 10 with (go_at_call 26; refine (ws_len b acc _ (by exact HS1.out)).mono ?_; rintro e w1 ⟨rfl, rfl⟩)
 go_region_with (go_at_call 40; refine (ws_str b acc t.data.toList t rfl _ (by exact HS1.out.drew) HM.out).mono ?_; rintro e w2 ⟨rfl, h1, h2⟩; have HS2 := Aside0.mk h1; have HK2 := Aside0.mk (HK1.out.drew.trans h2); clear h1 h2)
 all_goals go_wp2
 all_goals go_end0
 all_goals exact ⟨rfl, HS2.out, HK2.out⟩
set_option maxRecDepth 100000 in
set_option maxHeartbeats 4000000 in
theorem wv_text (b : Nat) (acc : List UInt8) (t : ByteArray) (A2 A3 : Option Addr) (n2 c2 n3 c3 : Nat) (w : World) (hW : WS b acc w) (hf : ¬ 262144 < acc.length) (ht : t.size ≤ 1048576) (hm : acc.length + (quo t).length ≤ 140737488300000) :
  Calls Tryz.prog 25 #[.pointer (some ⟨b, 0, none⟩), .agg #[.int .u8 4, .string t, .slice A2 n2 c2, .slice A3 n3 c3]] w fun e w' => e = .returned (.tuple #[]) ∧ WS b (acc ++ quo t) w' ∧ WK b w w' := by
 have tf : decide ((262144 : Int) < (acc.length : Int)) = false := decide_eq_false (by omega)
 have HM := Aside0.mk hm; have HQ := Aside0.mk (show jsontext_Quote.f t = some ⟨(quo t).toArray⟩ from if_pos ht)
 clear hf hm ht; obtain ⟨W1, hW1⟩ : ∃ W1, W1 = w.alloc (.cells #[.int .u8 4, .string t, .slice A2 n2 c2, .slice A3 n3 c3] 25 (0, 0)) := ⟨_, rfl⟩
 obtain ⟨N, hN⟩ : ∃ N, N = w.heap.size := ⟨_, rfl⟩
 have HX := Aside0.mk (show W1.heap[N]? = some (.cells #[.int .u8 4, .string t, .slice A2 n2 c2, .slice A3 n3 c3] 25 (0, 0)) by rw [hW1, hN]; exact blk_new w _)
 have HS1 := Aside0.mk (show WS b acc W1 by rw [hW1]; exact hW.alloc _)
 have HK1 := Aside0.mk (show WK b w W1 by rw [hW1]; exact (WK.refl b w).alloc (Nat.le_of_lt hW.lt) _)
 have HBN := Aside0.mk (show b < N by rw [hN]; exact hW.lt)
 have x0 := blk_cell HX.out 0
 have x1 := blk_cell HX.out 1
 clear hW; go_enter Tryz.func25, Tryz.ntmps25
 go_upto_region 1 with (fail)
 rw [← hW1, ← hN]
 clear hW1 hN; go_upto_region 12 with (go_at_call 26; refine (ws_len b acc _ (by exact HS1.out)).mono ?_; rintro e w1 ⟨rfl, rfl⟩)
 go_region_with (first | (go_at_call 16; refine (jsontext_Quote.calls t _ _ HQ.out).mono ?_; rintro e w2 ⟨rfl, hb⟩; have HS2 := Aside0.mk (HS1.out.drew.below hb); have HK2 := Aside0.mk (HK1.out.drew.below (Nat.le_of_lt HS1.out.drew.lt) hb); clear hb) | (go_at_call 40; refine (ws_str b acc (quo t) _ (by simp) _ (by exact HS2.out) HM.out).mono ?_; rintro e w3 ⟨rfl, h1, h2⟩; have HS3 := Aside0.mk h1; have HK3 := Aside0.mk (HK2.out.trans h2); clear h1 h2))
 all_goals go_wp2
 all_goals go_end0
 all_goals exact ⟨rfl, HS3.out, HK3.out⟩
theorem wv_el {w0 wr : World} {A2 : Option Addr} {n2 j : Nat} {l : List JV} (hn : n2 = l.length) (hlt : j < n2) (hC : k25.C w0 A2 n2 l) (hB : Below w0.heap.size w0 wr) : ∃ (ad : Addr) (A6 : Option Addr) (c6 : Nat) (A7 : Option Addr) (c7 : Nat) (x : JV), A2 = some ad ∧ wr.cell? (ad.add (j * 4)) = some (.int .u8 x.f0) ∧ wr.cell? ⟨(ad.add (j * 4)).block, (ad.add (j * 4)).off + 1, none⟩ = some (.string x.f1) ∧ wr.cell? ⟨(ad.add (j * 4)).block, (ad.add (j * 4)).off + 2, none⟩ = some (.slice A6 x.f2.length c6) ∧ wr.cell? ⟨(ad.add (j * 4)).block, (ad.add (j * 4)).off + 3, none⟩ = some (.slice A7 x.f3.length c7) ∧ (x ∈ l ∧ k25.C w0 A6 x.f2.length x.f2 ∧ k45.C w0 A7 x.f3.length x.f3 ∧ l.drop j = x :: l.drop (j + 1)) := by
 have hlt' : j < l.length := by omega
 obtain ⟨ad, A6, c6, A7, c7, hA2, n0, n1, n2', n3, _, g6, _, g7⟩ := at_T25 hC j (by omega) (by omega)
 have hrd : rd_T25 l j = l[j] := by unfold rd_T25; rw [Int.toNat_natCast, List.getD_eq_getElem?_getD, List.getElem?_eq_getElem hlt']; rfl
 rw [hrd] at n0 n1 n2' n3 g6 g7
 rw [Int.toNat_natCast] at n0 n1 n2' n3
 have hb := World.block_lt_of_cell? w0 _ n0
 exact ⟨ad, A6, c6, A7, c7, l[j], hA2, (hB.cell hb).trans n0, (hB.cell (p := ⟨_, _, none⟩) hb).trans n1, (hB.cell (p := ⟨_, _, none⟩) hb).trans n2', (hB.cell (p := ⟨_, _, none⟩) hb).trans n3, List.getElem_mem hlt', g6, g7, List.drop_eq_getElem_cons hlt'⟩
theorem wv_elf {w0 wr : World} {A2 : Option Addr} {n2 j : Nat} {l : List JF} (hn : n2 = l.length) (hlt : j < n2) (hC : k45.C w0 A2 n2 l) (hB : Below w0.heap.size w0 wr) : ∃ (ad : Addr) (A6 : Option Addr) (c6 : Nat) (A7 : Option Addr) (c7 : Nat) (x : JF), A2 = some ad ∧ wr.cell? (ad.add (j * 5)) = some (.string x.f0) ∧ wr.cell? ⟨(ad.add (j * 5)).block, (ad.add (j * 5)).off + 1, none⟩ = some (.int .u8 x.f1.f0) ∧ wr.cell? ⟨(ad.add (j * 5)).block, (ad.add (j * 5)).off + 2, none⟩ = some (.string x.f1.f1) ∧ wr.cell? ⟨(ad.add (j * 5)).block, (ad.add (j * 5)).off + 3, none⟩ = some (.slice A6 x.f1.f2.length c6) ∧ wr.cell? ⟨(ad.add (j * 5)).block, (ad.add (j * 5)).off + 4, none⟩ = some (.slice A7 x.f1.f3.length c7) ∧ (x ∈ l ∧ k25.C w0 A6 x.f1.f2.length x.f1.f2 ∧ k45.C w0 A7 x.f1.f3.length x.f1.f3 ∧ l.drop j = x :: l.drop (j + 1)) := by
 have hlt' : j < l.length := by omega
 obtain ⟨ad, A6, c6, A7, c7, hA2, n0, n1, n2', n3, n4, _, g6, _, g7⟩ := at_T45 hC j (by omega) (by omega)
 have hrd : rd_T45 l j = l[j] := by unfold rd_T45; rw [Int.toNat_natCast, List.getD_eq_getElem?_getD, List.getElem?_eq_getElem hlt']; rfl
 rw [hrd] at n0 n1 n2' n3 n4 g6 g7
 rw [Int.toNat_natCast] at n0 n1 n2' n3 n4
 have hb := World.block_lt_of_cell? w0 _ n0
 exact ⟨ad, A6, c6, A7, c7, l[j], hA2, (hB.cell hb).trans n0, (hB.cell (p := ⟨_, _, none⟩) hb).trans n1, (hB.cell (p := ⟨_, _, none⟩) hb).trans n2', (hB.cell (p := ⟨_, _, none⟩) hb).trans n3, (hB.cell (p := ⟨_, _, none⟩) hb).trans n4, List.getElem_mem hlt', g6, g7, List.drop_eq_getElem_cons hlt'⟩
theorem quo_size {s : ByteArray} (h : s.size ≤ 1048576) : (⟨(quo s).toArray⟩ : ByteArray).size ≤ 30000000 := by
 show (quo s).toArray.size ≤ _
 have h1 := qlen_le (fixL s s.size 0)
 have h2 := Go.Proofs.YtebmgmagdhedgaaGreatDoor.XUtfX.fixL_len s s.size 0
 have e : (quo s).length = qlen (fixL s s.size 0) + 2 := by
  unfold quo
  rw [quoted_list]
  simp [qlen]
 rw [List.size_toArray]
 omega
theorem sep_cons (b : Bool) (x : List UInt8) (r : List (List UInt8)) : (sep b (x :: r)).length = (if b = true then 0 else 1) + x.length + (sep false r).length := by
 cases b <;> simp [sep] <;> omega
set_option maxRecDepth 100000 in
set_option maxHeartbeats 4000000 in
theorem wv_list (b : Nat) (acc : List UInt8) (t : ByteArray) (A2 A3 : Option Addr) (n2 c2 n3 c3 : Nat) (l : List JV) (ch : List UInt8 → JV → List UInt8) (wq : JV → List UInt8) (w0 w : World) (hW : WS b acc w) (hf : ¬ 262144 < acc.length) (h0 : w0.heap.size ≤ b) (hB0 : Below w0.heap.size w0 w) (hn : n2 = l.length) (hC : k25.C w0 A2 n2 l) (hl2 : n2 ≤ 140737488351232) (hm : acc.length + (sep true (l.map wq)).length + 2 ≤ 140737488300000)
  (hle : ∀ x ∈ l, ∀ a, (ch a x).length ≤ a.length + (wq x).length) (hI : ∀ x ∈ l, ∀ (a : List UInt8) (W : World) (B2 B3 : Option Addr) (d2 d3 : Nat), WS b a W → Below w0.heap.size w0 W → k25.C w0 B2 x.f2.length x.f2 → k45.C w0 B3 x.f3.length x.f3 → a.length + (wq x).length ≤ 140737488300000 → Calls Tryz.prog 25 #[.pointer (some ⟨b, 0, none⟩), .agg #[.int .u8 x.f0, .string x.f1, .slice B2 x.f2.length d2, .slice B3 x.f3.length d3]] W fun e W' => e = .returned (.tuple #[]) ∧ WS b (ch a x) W' ∧ WK b W W') :
  Calls Tryz.prog 25 #[.pointer (some ⟨b, 0, none⟩), .agg #[.int .u8 5, .string t, .slice A2 n2 c2, .slice A3 n3 c3]] w fun e w' => e = .returned (.tuple #[]) ∧ WS b (wpL ch true (acc ++ [91]) l ++ [93]) w' ∧ WK b w w' := by
 have tf : decide ((262144 : Int) < (acc.length : Int)) = false := decide_eq_false (by omega)
 have HM := Aside0.mk hm; have HLE := Aside0.mk hle; have HI := Aside0.mk hI; have H0 := Aside0.mk h0; have HB0 := Aside0.mk hB0; have HC := Aside0.mk hC; have HNN := Aside0.mk hn; clear hf hm hle hI h0 hB0 hC hn; obtain ⟨W1, hW1⟩ : ∃ W1, W1 = w.alloc (.cells #[.int .u8 5, .string t, .slice A2 n2 c2, .slice A3 n3 c3] 25 (0, 0)) := ⟨_, rfl⟩
 obtain ⟨N, hN⟩ : ∃ N, N = w.heap.size := ⟨_, rfl⟩
 have HX := Aside0.mk (show W1.heap[N]? = some (.cells #[.int .u8 5, .string t, .slice A2 n2 c2, .slice A3 n3 c3] 25 (0, 0)) by rw [hW1, hN]; exact blk_new w _)
 have HS1 := Aside0.mk (show WS b acc W1 by rw [hW1]; exact hW.alloc _)
 have HK1 := Aside0.mk (show WK b w W1 by rw [hW1]; exact (WK.refl b w).alloc (Nat.le_of_lt hW.lt) _)
 have HBN := Aside0.mk (show b < N by rw [hN]; exact hW.lt)
 have x0 := blk_cell HX.out 0
 clear hW; go_enter Tryz.func25, Tryz.ntmps25
 go_upto_region 1 with (fail)
 rw [← hW1, ← hN]
 clear hW1 hN; go_upto_region 15 with (first | (go_at_call 26; refine (ws_len b acc _ (by exact HS1.out)).mono ?_; rintro e w1 ⟨rfl, rfl⟩) | (go_at_call 38; refine (ws_byte b acc 91 91 rfl _ (by exact HS1.out) (by have := HM.out; omega)).mono ?_; rintro e w2 ⟨rfl, h1, h2⟩; have HS2 := Aside0.mk h1; have HK2 := Aside0.mk (HK1.out.trans h2); have HX2 := Aside0.mk (h2.blk HX.out HBN.out (by decide)); clear h1 h2))
 clear HS1 tf x0; have x2 := blk_cell HX2.out 2
 go_wp2
 clear x2; go_loopw [59] (fun tj w' => ∃ (j : Nat) (a : List UInt8), j ≤ n2 ∧ tj = .int .i64 j ∧ Aside0 (WS b a w') ∧ Aside0 (WK b w w') ∧ Aside0 (wpL ch (decide (j = 0)) a (l.drop j) = wpL ch true (acc ++ [91]) l) ∧ Aside0 (a.length + (sep (decide (j = 0)) ((l.drop j).map wq)).length + 1 ≤ 140737488300000)) (fun tj _ => n2 - (intOf tj).toNat)
 case atStart => exact ⟨0, acc ++ [91], Nat.zero_le _, rfl, HS2, HK2, ⟨rfl⟩, ⟨by have := HM.out; simp only [List.drop_zero, decide_true, List.length_append, List.length_cons, List.length_nil]; omega⟩⟩
 case round =>
  obtain ⟨j, a, hj, rfl, HS3, HK3, HR, HM3⟩ := hrel
  by_cases hlt : j < n2
  ·have tlt : decide ((j : Int) < (n2 : Int)) = true := decide_eq_true (by omega)
   have tln : decide (j < n2) = true := decide_eq_true (by omega)
   have HJ := Aside0.mk hlt; obtain ⟨ad, A6, c6, A7, c7, x, hA2, m0, m1, m2, m3, hx⟩ := wv_el HNN.out hlt HC.out (HK3.out.base HB0.out H0.out)
   have HXX := Aside0.mk hx; subst hA2; clear hx; obtain ⟨E, hE⟩ : ∃ E, E = wr.heap.size := ⟨_, rfl⟩
   obtain ⟨W3, hW3⟩ : ∃ W3, W3 = wr.alloc (.cells #[.int .u8 x.f0, .string x.f1, .slice A6 x.f2.length c6, .slice A7 x.f3.length c7] 25 (0, 0)) := ⟨_, rfl⟩
   have HE3 := Aside0.mk (show W3.heap[E]? = some (.cells #[.int .u8 x.f0, .string x.f1, .slice A6 x.f2.length c6, .slice A7 x.f3.length c7] 25 (0, 0)) by rw [hW3, hE]; exact blk_new wr _)
   have HBE := Aside0.mk (show b < E by rw [hE]; exact HS3.out.lt)
   have HS4 := Aside0.mk (show WS b a W3 by rw [hW3]; exact HS3.out.alloc _)
   have HK4 := Aside0.mk (show WK b w W3 by rw [hW3]; exact HK3.out.alloc (Nat.le_of_lt HS3.out.lt) _)
   go_upto_region 18 with (fail)
   rw [← hW3, ← hE]
   clear m0 m1 m2 m3 hW3 hE tlt tln hlt HS3 HK3; have HR2 := Aside0.mk (HR.out)
   rw [HXX.out.2.2.2] at HR2
   have HM4 := Aside0.mk HM3.out; rw [HXX.out.2.2.2, List.map_cons, sep_cons] at HM4
   have HLx := Aside0.mk (HLE.out x HXX.out.1)
   by_cases hj0 : j = 0
   ·have tz : decide ((0 : Int) < (j : Int)) = false := decide_eq_false (by omega)
    have tzn : decide (0 < j) = false := decide_eq_false (by omega)
    have HM4 := Aside0.mk (show a.length + (wq x).length + (sep false ((l.drop (j + 1)).map wq)).length + 1 ≤ 140737488300000 by have h := HM4.out; rw [if_pos (decide_eq_true hj0)] at h; omega)
    have HR2 := Aside0.mk (show wpL ch true a (x :: l.drop (j + 1)) = wpL ch true (acc ++ [91]) l from by have h := HR2.out; rw [decide_eq_true hj0] at h; exact h)
    have HE4 := HE3
    clear hj0; have z0 := blk_cell HE4.out 0
    have z1 := blk_cell HE4.out 1
    have z2 := blk_cell HE4.out 2
    have z3 := blk_cell HE4.out 3
    have HCL := Aside0.mk (HI.out x HXX.out.1 a _ A6 A7 c6 c7 HS4.out (HK4.out.base HB0.out H0.out) HXX.out.2.1 HXX.out.2.2.1 (by have := HM4.out; have := HLx.out; omega))
    go_wp2_with (go_at_call 25; refine HCL.out.mono ?_; rintro e w8 ⟨rfl, h1, h2⟩; have HS8 := Aside0.mk h1; have HK8 := Aside0.mk (HK4.out.trans h2); clear h1 h2)
    go_roundw
    case rel => exact ⟨j + 1, ch a x, HJ.out, by go_num, HS8, HK8, ⟨by rw [show decide (j + 1 = 0) = false from rfl]; exact HR2.out⟩, ⟨by rw [show decide (j + 1 = 0) = false from rfl]; have h4 := HM4.out; have h5 := HLx.out a; omega⟩⟩
    case measure => have := HJ.out; simp [intOf]; omega
   ·have tz : decide ((0 : Int) < (j : Int)) = true := decide_eq_true (by omega)
    have tzn : decide (0 < j) = true := decide_eq_true (by omega)
    have HM4 := Aside0.mk (show (a ++ [44]).length + (wq x).length + (sep false ((l.drop (j + 1)).map wq)).length + 1 ≤ 140737488300000 by have h := HM4.out; rw [if_neg (by rw [decide_eq_false hj0]; decide)] at h; rw [List.length_append]; simp only [List.length_cons, List.length_nil]; omega)
    have HR2 := Aside0.mk (show wpL ch false a (x :: l.drop (j + 1)) = wpL ch true (acc ++ [91]) l from by have h := HR2.out; rw [decide_eq_false hj0] at h; exact h)
    clear hj0; go_upto_region 20 with (go_at_call 38; refine (ws_byte b a 44 44 rfl _ (by exact HS4.out) (by have h := HM4.out; rw [List.length_append] at h; simp only [List.length_cons, List.length_nil] at h; omega)).mono ?_; rintro e w5 ⟨rfl, h1, h2⟩; have HS5 := Aside0.mk h1; have HK5 := Aside0.mk (HK4.out.trans h2); have HE5 := Aside0.mk (h2.blk HE3.out HBE.out (by decide)); clear h1 h2)
    have z0 := blk_cell HE5.out 0
    have z1 := blk_cell HE5.out 1
    have z2 := blk_cell HE5.out 2
    have z3 := blk_cell HE5.out 3
    have HCL := Aside0.mk (HI.out x HXX.out.1 (a ++ [44]) _ A6 A7 c6 c7 HS5.out (HK5.out.base HB0.out H0.out) HXX.out.2.1 HXX.out.2.2.1 (by have := HM4.out; have := HLx.out; omega))
    go_wp2_with (go_at_call 25; refine HCL.out.mono ?_; rintro e w8 ⟨rfl, h1, h2⟩; have HS8 := Aside0.mk h1; have HK8 := Aside0.mk (HK5.out.trans h2); clear h1 h2)
    go_roundw
    case rel => exact ⟨j + 1, ch (a ++ [44]) x, HJ.out, by go_num, HS8, HK8, ⟨by rw [show decide (j + 1 = 0) = false from rfl]; exact HR2.out⟩, ⟨by rw [show decide (j + 1 = 0) = false from rfl]; have h4 := HM4.out; have h5 := HLx.out (a ++ [44]); omega⟩⟩
    case measure => have := HJ.out; simp [intOf]; omega
  ·have tlt : decide ((j : Int) < (n2 : Int)) = false := decide_eq_false (by omega)
   have tln : decide (j < n2) = false := decide_eq_false (by omega)
   have HE := Aside0.mk (show a = wpL ch true (acc ++ [91]) l by
    have h := HR.out
    rw [List.drop_eq_nil_of_le (by have := HNN.out; omega)] at h
    exact h)
   clear hlt; go_wp2_with (go_at_call 38; refine (ws_byte b a 93 93 rfl _ (by exact HS3.out) (by have := HM3.out; omega)).mono ?_; rintro e w9 ⟨rfl, h1, h2⟩; have HS9 := Aside0.mk h1; have HK9 := Aside0.mk (HK3.out.trans h2); clear h1 h2)
   go_end0
   exact ⟨rfl, by rw [← HE.out]; exact HS9.out, HK9.out⟩
set_option maxRecDepth 100000 in
set_option maxHeartbeats 4000000 in
theorem wv_obj (b : Nat) (acc : List UInt8) (t : ByteArray) (A2 A3 : Option Addr) (n2 c2 n3 c3 : Nat) (l : List JF) (ch : List UInt8 → JV → List UInt8) (wq : JV → List UInt8) (w0 w : World) (hW : WS b acc w) (hf : ¬ 262144 < acc.length) (h0 : w0.heap.size ≤ b) (hB0 : Below w0.heap.size w0 w) (hn : n3 = l.length) (hC : k45.C w0 A3 n3 l) (hl2 : n3 ≤ 140737488351232) (hq : ∀ x ∈ l, x.f0.size ≤ 1048576) (hm : acc.length + (sep true (l.map (fw wq))).length + 2 ≤ 140737488300000)
  (hle : ∀ x ∈ l, ∀ a, (ch a x.f1).length ≤ a.length + (wq x.f1).length) (hI : ∀ x ∈ l, ∀ (a : List UInt8) (W : World) (B2 B3 : Option Addr) (d2 d3 : Nat), WS b a W → Below w0.heap.size w0 W → k25.C w0 B2 x.f1.f2.length x.f1.f2 → k45.C w0 B3 x.f1.f3.length x.f1.f3 → a.length + (wq x.f1).length ≤ 140737488300000 → Calls Tryz.prog 25 #[.pointer (some ⟨b, 0, none⟩), .agg #[.int .u8 x.f1.f0, .string x.f1.f1, .slice B2 x.f1.f2.length d2, .slice B3 x.f1.f3.length d3]] W fun e W' => e = .returned (.tuple #[]) ∧ WS b (ch a x.f1) W' ∧ WK b W W') :
  Calls Tryz.prog 25 #[.pointer (some ⟨b, 0, none⟩), .agg #[.int .u8 6, .string t, .slice A2 n2 c2, .slice A3 n3 c3]] w fun e w' => e = .returned (.tuple #[]) ∧ WS b (wpO ch true (acc ++ [123]) l ++ [125]) w' ∧ WK b w w' := by
 have tf : decide ((262144 : Int) < (acc.length : Int)) = false := decide_eq_false (by omega)
 have HM := Aside0.mk hm; have HLE := Aside0.mk hle; have HI := Aside0.mk hI; have H0 := Aside0.mk h0; have HB0 := Aside0.mk hB0; have HC := Aside0.mk hC; have HNN := Aside0.mk hn; have HNM := Aside0.mk hq; clear hq; clear hf hm hle hI h0 hB0 hC hn; obtain ⟨W1, hW1⟩ : ∃ W1, W1 = w.alloc (.cells #[.int .u8 6, .string t, .slice A2 n2 c2, .slice A3 n3 c3] 25 (0, 0)) := ⟨_, rfl⟩
 obtain ⟨N, hN⟩ : ∃ N, N = w.heap.size := ⟨_, rfl⟩
 have HX := Aside0.mk (show W1.heap[N]? = some (.cells #[.int .u8 6, .string t, .slice A2 n2 c2, .slice A3 n3 c3] 25 (0, 0)) by rw [hW1, hN]; exact blk_new w _)
 have HS1 := Aside0.mk (show WS b acc W1 by rw [hW1]; exact hW.alloc _)
 have HK1 := Aside0.mk (show WK b w W1 by rw [hW1]; exact (WK.refl b w).alloc (Nat.le_of_lt hW.lt) _)
 have HBN := Aside0.mk (show b < N by rw [hN]; exact hW.lt)
 have x0 := blk_cell HX.out 0
 clear hW; go_enter Tryz.func25, Tryz.ntmps25
 go_upto_region 1 with (fail)
 rw [← hW1, ← hN]
 clear hW1 hN; go_upto_region 25 with (first | (go_at_call 26; refine (ws_len b acc _ (by exact HS1.out)).mono ?_; rintro e w1 ⟨rfl, rfl⟩) | (go_at_call 38; refine (ws_byte b acc 123 123 rfl _ (by exact HS1.out) (by have := HM.out; omega)).mono ?_; rintro e w2 ⟨rfl, h1, h2⟩; have HS2 := Aside0.mk h1; have HK2 := Aside0.mk (HK1.out.trans h2); have HX2 := Aside0.mk (h2.blk HX.out HBN.out (by decide)); clear h1 h2))
 clear HS1 tf x0; have x2 := blk_cell HX2.out 3
 go_wp2
 clear x2; go_loopw [87] (fun tj w' => ∃ (j : Nat) (a : List UInt8), j ≤ n3 ∧ tj = .int .i64 j ∧ Aside0 (WS b a w') ∧ Aside0 (WK b w w') ∧ Aside0 (wpO ch (decide (j = 0)) a (l.drop j) = wpO ch true (acc ++ [123]) l) ∧ Aside0 (a.length + (sep (decide (j = 0)) ((l.drop j).map (fw wq))).length + 1 ≤ 140737488300000)) (fun tj _ => n3 - (intOf tj).toNat)
 case atStart => exact ⟨0, acc ++ [123], Nat.zero_le _, rfl, HS2, HK2, ⟨rfl⟩, ⟨by have := HM.out; simp only [List.drop_zero, decide_true, List.length_append, List.length_cons, List.length_nil]; omega⟩⟩
 case round =>
  obtain ⟨j, a, hj, rfl, HS3, HK3, HR, HM3⟩ := hrel
  by_cases hlt : j < n3
  ·have tlt : decide ((j : Int) < (n3 : Int)) = true := decide_eq_true (by omega)
   have tln : decide (j < n3) = true := decide_eq_true (by omega)
   have HJ := Aside0.mk hlt; obtain ⟨ad, A6, c6, A7, c7, x, hA2, m0, m1, m2, m3, m4, hx⟩ := wv_elf HNN.out hlt HC.out (HK3.out.base HB0.out H0.out)
   have HXX := Aside0.mk hx; subst hA2; clear hx; obtain ⟨E, hE⟩ : ∃ E, E = wr.heap.size := ⟨_, rfl⟩
   obtain ⟨W3, hW3⟩ : ∃ W3, W3 = wr.alloc (.cells #[.string x.f0, .int .u8 x.f1.f0, .string x.f1.f1, .slice A6 x.f1.f2.length c6, .slice A7 x.f1.f3.length c7] 45 (0, 0)) := ⟨_, rfl⟩
   have HE3 := Aside0.mk (show W3.heap[E]? = some (.cells #[.string x.f0, .int .u8 x.f1.f0, .string x.f1.f1, .slice A6 x.f1.f2.length c6, .slice A7 x.f1.f3.length c7] 45 (0, 0)) by rw [hW3, hE]; exact blk_new wr _)
   have HBE := Aside0.mk (show b < E by rw [hE]; exact HS3.out.lt)
   have HS4 := Aside0.mk (show WS b a W3 by rw [hW3]; exact HS3.out.alloc _)
   have HK4 := Aside0.mk (show WK b w W3 by rw [hW3]; exact HK3.out.alloc (Nat.le_of_lt HS3.out.lt) _)
   go_upto_region 28 with (fail)
   rw [← hW3, ← hE]
   clear m0 m1 m2 m3 m4 hW3 hE tlt tln hlt HS3 HK3; have HR2 := Aside0.mk (HR.out)
   rw [HXX.out.2.2.2] at HR2
   have HM4 := Aside0.mk HM3.out; rw [HXX.out.2.2.2, List.map_cons, sep_cons] at HM4
   have HLx := Aside0.mk (HLE.out x HXX.out.1)
   by_cases hj0 : j = 0
   ·have tz : decide ((0 : Int) < (j : Int)) = false := decide_eq_false (by omega)
    have tzn : decide (0 < j) = false := decide_eq_false (by omega)
    have HM4 := Aside0.mk (show a.length + ((fw wq) x).length + (sep false ((l.drop (j + 1)).map (fw wq))).length + 1 ≤ 140737488300000 by have h := HM4.out; rw [if_pos (decide_eq_true hj0)] at h; omega)
    have HR2 := Aside0.mk (show wpO ch true a (x :: l.drop (j + 1)) = wpO ch true (acc ++ [123]) l from by have h := HR2.out; rw [decide_eq_true hj0] at h; exact h)
    have HE4 := HE3
    clear hj0; have HM4 := Aside0.mk (show a.length + ((quo x.f0).length + 1 + (wq x.f1).length) + (sep false ((l.drop (j + 1)).map (fw wq))).length + 1 ≤ 140737488300000 by have h := HM4.out; have e : (fw wq x).length = (quo x.f0).length + 1 + (wq x.f1).length := (by simp only [fw, List.length_append, List.length_cons]; omega); omega)
    obtain ⟨Z, hZ⟩ : ∃ Z : ByteArray, Z = ⟨(quo x.f0).toArray⟩ := ⟨_, rfl⟩
    have HQ := Aside0.mk (show jsontext_Quote.f x.f0 = some Z by rw [hZ]; exact if_pos (HNM.out x HXX.out.1))
    have HZ := Aside0.mk (show (Z ++ ⟨#[58]⟩).data.toList = quo x.f0 ++ [58] by rw [hZ]; simp [ByteArray.data_append])
    have hZs : Z.size ≤ 30000000 := by rw [hZ]; exact quo_size (HNM.out x HXX.out.1)
    clear hZ; have y0 := blk_cell HE4.out 0
    go_upto_region 30 with (fail)
    go_region_with (first | (go_at_call 16; refine (jsontext_Quote.calls x.f0 _ _ HQ.out).mono ?_; rintro e w6 ⟨rfl, hb⟩; have HS6 := Aside0.mk (HS4.out.drew.below hb); have HK6 := Aside0.mk (HK4.out.drew.below (Nat.le_of_lt HS4.out.drew.lt) hb); have HE6 := Aside0.mk (blk_below (show (World.drew _).heap[E]? = _ from HE4.out) hb); clear hb) | (go_at_call 40; refine (ws_str b a (quo x.f0 ++ [58]) _ HZ.out _ (by exact HS6.out) (by have := HM4.out; have := HLx.out; simp only [List.length_append, List.length_cons, List.length_nil]; omega)).mono ?_; rintro e w7 ⟨rfl, h1, h2⟩; have HS7 := Aside0.mk h1; have HK7 := Aside0.mk (HK6.out.trans h2); have HE7 := Aside0.mk (h2.blk HE6.out HBE.out (by decide)); clear h1 h2))
    clear y0; have z0 := blk_cell HE7.out 1
    have z1 := blk_cell HE7.out 2
    have z2 := blk_cell HE7.out 3
    have z3 := blk_cell HE7.out 4
    have HCL := Aside0.mk (HI.out x HXX.out.1 (a ++ (quo x.f0 ++ [58])) _ A6 A7 c6 c7 HS7.out (HK7.out.base HB0.out H0.out) HXX.out.2.1 HXX.out.2.2.1 (by have := HM4.out; have := HLx.out; simp only [List.length_append, List.length_cons, List.length_nil]; omega))
    go_wp2_with (go_at_call 25; refine HCL.out.mono ?_; rintro e w8 ⟨rfl, h1, h2⟩; have HS8 := Aside0.mk h1; have HK8 := Aside0.mk (HK7.out.trans h2); clear h1 h2)
    go_roundw
    case rel => exact ⟨j + 1, ch (a ++ (quo x.f0 ++ [58])) x.f1, HJ.out, by go_num, HS8, HK8, ⟨by rw [show decide (j + 1 = 0) = false from rfl]; exact HR2.out⟩, ⟨by rw [show decide (j + 1 = 0) = false from rfl]; have h4 := HM4.out; have h5 := HLx.out (a ++ (quo x.f0 ++ [58])); simp only [List.length_append, List.length_cons, List.length_nil] at h5; omega⟩⟩
    case measure => have := HJ.out; simp [intOf]; omega
   ·have tz : decide ((0 : Int) < (j : Int)) = true := decide_eq_true (by omega)
    have tzn : decide (0 < j) = true := decide_eq_true (by omega)
    have HM4 := Aside0.mk (show (a ++ [44]).length + ((fw wq) x).length + (sep false ((l.drop (j + 1)).map (fw wq))).length + 1 ≤ 140737488300000 by have h := HM4.out; rw [if_neg (by rw [decide_eq_false hj0]; decide)] at h; rw [List.length_append]; simp only [List.length_cons, List.length_nil]; omega)
    have HR2 := Aside0.mk (show wpO ch false a (x :: l.drop (j + 1)) = wpO ch true (acc ++ [123]) l from by have h := HR2.out; rw [decide_eq_false hj0] at h; exact h)
    clear hj0; have HM4 := Aside0.mk (show (a ++ [44]).length + ((quo x.f0).length + 1 + (wq x.f1).length) + (sep false ((l.drop (j + 1)).map (fw wq))).length + 1 ≤ 140737488300000 by have h := HM4.out; have e : (fw wq x).length = (quo x.f0).length + 1 + (wq x.f1).length := (by simp only [fw, List.length_append, List.length_cons]; omega); omega)
    go_upto_region 30 with (go_at_call 38; refine (ws_byte b a 44 44 rfl _ (by exact HS4.out) (by have h := HM4.out; rw [List.length_append] at h; simp only [List.length_cons, List.length_nil] at h; omega)).mono ?_; rintro e w5 ⟨rfl, h1, h2⟩; have HS5 := Aside0.mk h1; have HK5 := Aside0.mk (HK4.out.trans h2); have HE5 := Aside0.mk (h2.blk HE3.out HBE.out (by decide)); clear h1 h2)
    obtain ⟨Z, hZ⟩ : ∃ Z : ByteArray, Z = ⟨(quo x.f0).toArray⟩ := ⟨_, rfl⟩
    have HQ := Aside0.mk (show jsontext_Quote.f x.f0 = some Z by rw [hZ]; exact if_pos (HNM.out x HXX.out.1))
    have HZ := Aside0.mk (show (Z ++ ⟨#[58]⟩).data.toList = quo x.f0 ++ [58] by rw [hZ]; simp [ByteArray.data_append])
    have hZs : Z.size ≤ 30000000 := by rw [hZ]; exact quo_size (HNM.out x HXX.out.1)
    clear hZ; have y0 := blk_cell HE5.out 0
    go_upto_region 30 with (fail)
    go_region_with (first | (go_at_call 16; refine (jsontext_Quote.calls x.f0 _ _ HQ.out).mono ?_; rintro e w6 ⟨rfl, hb⟩; have HS6 := Aside0.mk (HS5.out.drew.below hb); have HK6 := Aside0.mk (HK5.out.drew.below (Nat.le_of_lt HS5.out.drew.lt) hb); have HE6 := Aside0.mk (blk_below (show (World.drew _).heap[E]? = _ from HE5.out) hb); clear hb) | (go_at_call 40; refine (ws_str b (a ++ [44]) (quo x.f0 ++ [58]) _ HZ.out _ (by exact HS6.out) (by have := HM4.out; have := HLx.out; simp only [List.length_append, List.length_cons, List.length_nil] at *; omega)).mono ?_; rintro e w7 ⟨rfl, h1, h2⟩; have HS7 := Aside0.mk h1; have HK7 := Aside0.mk (HK6.out.trans h2); have HE7 := Aside0.mk (h2.blk HE6.out HBE.out (by decide)); clear h1 h2))
    clear y0; have z0 := blk_cell HE7.out 1
    have z1 := blk_cell HE7.out 2
    have z2 := blk_cell HE7.out 3
    have z3 := blk_cell HE7.out 4
    have HCL := Aside0.mk (HI.out x HXX.out.1 ((a ++ [44]) ++ (quo x.f0 ++ [58])) _ A6 A7 c6 c7 HS7.out (HK7.out.base HB0.out H0.out) HXX.out.2.1 HXX.out.2.2.1 (by have := HM4.out; have := HLx.out; simp only [List.length_append, List.length_cons, List.length_nil] at *; omega))
    go_wp2_with (go_at_call 25; refine HCL.out.mono ?_; rintro e w8 ⟨rfl, h1, h2⟩; have HS8 := Aside0.mk h1; have HK8 := Aside0.mk (HK7.out.trans h2); clear h1 h2)
    go_roundw
    case rel => exact ⟨j + 1, ch ((a ++ [44]) ++ (quo x.f0 ++ [58])) x.f1, HJ.out, by go_num, HS8, HK8, ⟨by rw [show decide (j + 1 = 0) = false from rfl]; exact HR2.out⟩, ⟨by rw [show decide (j + 1 = 0) = false from rfl]; have h4 := HM4.out; have h5 := HLx.out ((a ++ [44]) ++ (quo x.f0 ++ [58])); (try simp only [List.length_append, List.length_cons, List.length_nil] at h4); (try simp only [List.length_append, List.length_cons, List.length_nil] at h5); (try simp only [List.length_append, List.length_cons, List.length_nil]); omega⟩⟩
    case measure => have := HJ.out; simp [intOf]; omega
  ·have tlt : decide ((j : Int) < (n3 : Int)) = false := decide_eq_false (by omega)
   have tln : decide (j < n3) = false := decide_eq_false (by omega)
   have HE := Aside0.mk (show a = wpO ch true (acc ++ [123]) l by
    have h := HR.out
    rw [List.drop_eq_nil_of_le (by have := HNN.out; omega)] at h
    exact h)
   clear hlt; go_wp2_with (go_at_call 38; refine (ws_byte b a 125 125 rfl _ (by exact HS3.out) (by have := HM3.out; omega)).mono ?_; rintro e w9 ⟨rfl, h1, h2⟩; have HS9 := Aside0.mk h1; have HK9 := Aside0.mk (HK3.out.trans h2); clear h1 h2)
   go_end0
   exact ⟨rfl, by rw [← HE.out]; exact HS9.out, HK9.out⟩
theorem wpL_le {ch : List UInt8 → JV → List UInt8} {wr : JV → List UInt8} : ∀ (l : List JV), (∀ x ∈ l, ∀ b, (ch b x).length ≤ b.length + (wr x).length) → ∀ (first : Bool) (b : List UInt8), (wpL ch first b l).length ≤ b.length + (sep first (l.map wr)).length := by
 intro l
 induction l with
 | nil => intro _ first b; simp [wpL, sep]
 | cons x r ih =>
  intro h first b
  have h1 := h x (by simp) (if first = true then b else b ++ [44])
  have h2 := ih (fun y hy => h y (by simp [hy])) false (ch (if first = true then b else b ++ [44]) x)
  rw [List.map_cons, sep_cons]
  show (wpL ch false (ch (if first = true then b else b ++ [44]) x) r).length ≤ _
  cases first
  ·simp only [Bool.false_eq_true, if_false, List.length_append, List.length_cons, List.length_nil] at *
   omega
  ·simp only [if_true] at *
   omega
theorem wpO_le {ch : List UInt8 → JV → List UInt8} {wr : JV → List UInt8} : ∀ (l : List JF), (∀ x ∈ l, ∀ b, (ch b x.f1).length ≤ b.length + (wr x.f1).length) → ∀ (first : Bool) (b : List UInt8), (wpO ch first b l).length ≤ b.length + (sep first (l.map (fw wr))).length := by
 intro l
 induction l with
 | nil => intro _ first b; simp [wpO, sep]
 | cons x r ih =>
  intro h first b
  have h1 := h x (by simp) ((if first = true then b else b ++ [44]) ++ (quo x.f0 ++ [58]))
  have h2 := ih (fun y hy => h y (by simp [hy])) false (ch ((if first = true then b else b ++ [44]) ++ (quo x.f0 ++ [58])) x.f1)
  have e : (fw wr x).length = (quo x.f0).length + 1 + (wr x.f1).length := by simp only [fw, List.length_append, List.length_cons]; omega
  rw [List.map_cons, sep_cons]
  show (wpO ch false (ch ((if first = true then b else b ++ [44]) ++ (quo x.f0 ++ [58])) x.f1) r).length ≤ _
  cases first
  ·simp only [Bool.false_eq_true, if_false, List.length_append, List.length_cons, List.length_nil] at *
   omega
  ·simp only [if_true, List.length_append, List.length_cons, List.length_nil] at *
   omega
theorem wpF_le {ch : List UInt8 → JV → List UInt8} {wr : JV → List UInt8} {v : JV} (h2 : ∀ x ∈ v.f2, ∀ b, (ch b x).length ≤ b.length + (wr x).length) (h3 : ∀ x ∈ v.f3, ∀ b, (ch b x.f1).length ≤ b.length + (wr x.f1).length) (b : List UInt8) : (wpF ch b v).length ≤ b.length + (wrF wr v).length := by
 unfold wpF wrF
 split
 ·omega
 split
 ·simp
 split
 ·simp
 split
 ·simp
 split
 ·simp
 split
 ·simp
 split
 ·have := wpL_le v.f2 h2 true (b ++ [91])
  simp only [List.length_append, List.length_cons, List.length_nil] at *
  omega
 ·have := wpO_le v.f3 h3 true (b ++ [123])
  have e : (v.f3.map fun f => quo f.f0 ++ 58 :: wr f.f1) = v.f3.map (fw wr) := rfl
  rw [e]
  simp only [List.length_append, List.length_cons, List.length_nil] at *
  omega
theorem wpD_le : ∀ (d : Nat) (v : JV), mayD d v = true → ∀ b, (wpD d b v).length ≤ b.length + (wrD d v).length := by
 intro d
 induction d with
 | zero =>
  intro v h b
  have hf := mayD_fine h
  obtain ⟨_, _, h2, h3, _⟩ := fineV_parts hf
  simp only [mayD, Bool.and_eq_true, decide_eq_true_eq] at h
  refine wpF_le (fun x hx => ?_) (fun x hx => ?_) b
  ·rw [h2.resolve_right (by omega)] at hx; cases hx
  ·rw [h3.resolve_right (by omega)] at hx; cases hx
 | succ d ih =>
  intro v h b
  simp only [mayD, Bool.and_eq_true, List.all_eq_true] at h
  exact wpF_le (fun x hx => ih x (h.1.2 x hx)) (fun x hx => ih x.f1 (h.2 x hx)) b
/-- One value written, its things' law given. -/
theorem wv_one {ch : List UInt8 → JV → List UInt8} {wr : JV → List UInt8} (b : Nat) (acc : List UInt8) (v : JV) (hf : fineV v = true) (hz : Sz 1048576 v) (A2 A3 : Option Addr) (c2 c3 : Nat) (w0 w : World) (hW : WS b acc w) (h0 : w0.heap.size ≤ b) (hB : Below w0.heap.size w0 w) (h2 : k25.C w0 A2 v.f2.length v.f2) (h3 : k45.C w0 A3 v.f3.length v.f3) (hm : acc.length + (wrF wr v).length ≤ 140737488300000)
  (hle : ∀ x, (x ∈ v.f2 ∨ ∃ y ∈ v.f3, y.f1 = x) → ∀ a, (ch a x).length ≤ a.length + (wr x).length)
  (hI : ∀ x, (x ∈ v.f2 ∨ ∃ y ∈ v.f3, y.f1 = x) → ∀ (a : List UInt8) (W : World) (B2 B3 : Option Addr) (d2 d3 : Nat), WS b a W → Below w0.heap.size w0 W → k25.C w0 B2 x.f2.length x.f2 → k45.C w0 B3 x.f3.length x.f3 → a.length + (wr x).length ≤ 140737488300000 → Calls Tryz.prog 25 #[.pointer (some ⟨b, 0, none⟩), .agg #[.int .u8 x.f0, .string x.f1, .slice B2 x.f2.length d2, .slice B3 x.f3.length d3]] W fun e W' => e = .returned (.tuple #[]) ∧ WS b (ch a x) W' ∧ WK b W W') :
  Calls Tryz.prog 25 #[.pointer (some ⟨b, 0, none⟩), .agg #[.int .u8 v.f0, .string v.f1, .slice A2 v.f2.length c2, .slice A3 v.f3.length c3]] w fun e w' => e = .returned (.tuple #[]) ∧ WS b (wpF ch acc v) w' ∧ WK b w w' := by
 obtain ⟨p6, p1, p2, p3, pn, pt, _⟩ := fineV_parts hf
 obtain ⟨_, z0, z1, z2, z3, zl, zn, zf⟩ := hz
 by_cases hfull : 262144 < acc.length
 ·rw [show wpF ch acc v = acc from if_pos hfull]
  exact wv_full v.f0 b acc v.f1 A2 A3 _ c2 _ c3 w hW hfull
 by_cases k0 : v.f0 = 0
 ·rw [show wpF ch acc v = acc ++ [110, 117, 108, 108] by unfold wpF; rw [if_neg hfull, if_pos k0], k0]
  exact wv_null b acc v.f1 A2 A3 _ c2 _ c3 w hW hfull
 by_cases k1 : v.f0 = 1
 ·rw [show wpF ch acc v = acc ++ [102, 97, 108, 115, 101] by unfold wpF; rw [if_neg hfull, if_neg k0, if_pos k1], k1]
  exact wv_false b acc v.f1 A2 A3 _ c2 _ c3 w hW hfull
 by_cases k2 : v.f0 = 2
 ·rw [show wpF ch acc v = acc ++ [116, 114, 117, 101] by unfold wpF; rw [if_neg hfull, if_neg k0, if_neg k1, if_pos k2], k2]
  exact wv_true b acc v.f1 A2 A3 _ c2 _ c3 w hW hfull
 by_cases k3 : v.f0 = 3
 ·rw [show wpF ch acc v = acc ++ v.f1.data.toList by unfold wpF; rw [if_neg hfull, if_neg k0, if_neg k1, if_neg k2, if_pos k3], k3]
  have e : wrF wr v = v.f1.data.toList := by unfold wrF; rw [if_neg k0, if_neg k1, if_neg k2, if_pos k3]
  rw [e] at hm
  exact wv_num b acc v.f1 A2 A3 _ c2 _ c3 w hW hfull hm
 by_cases k4 : v.f0 = 4
 ·rw [show wpF ch acc v = acc ++ quo v.f1 by unfold wpF; rw [if_neg hfull, if_neg k0, if_neg k1, if_neg k2, if_neg k3, if_pos k4], k4]
  have e : wrF wr v = quo v.f1 := by unfold wrF; rw [if_neg k0, if_neg k1, if_neg k2, if_neg k3, if_pos k4]
  rw [e] at hm
  exact wv_text b acc v.f1 A2 A3 _ c2 _ c3 w hW hfull z1 hm
 by_cases k5 : v.f0 = 5
 ·rw [show wpF ch acc v = wpL ch true (acc ++ [91]) v.f2 ++ [93] by unfold wpF; rw [if_neg hfull, if_neg k0, if_neg k1, if_neg k2, if_neg k3, if_neg k4, if_pos k5], k5]
  have e : wrF wr v = 91 :: (sep true (v.f2.map wr) ++ [93]) := by unfold wrF; rw [if_neg k0, if_neg k1, if_neg k2, if_neg k3, if_neg k4, if_pos k5]
  rw [e] at hm
  exact wv_list b acc v.f1 A2 A3 _ c2 _ c3 v.f2 ch wr w0 w hW hfull h0 hB rfl h2 z2 (by simp only [List.length_cons, List.length_append, List.length_nil] at hm; omega) (fun x hx => hle x (.inl hx)) (fun x hx => hI x (.inl hx))
 ·have k6 : v.f0 = 6 := by omega
  rw [show wpF ch acc v = wpO ch true (acc ++ [123]) v.f3 ++ [125] by unfold wpF; rw [if_neg hfull, if_neg k0, if_neg k1, if_neg k2, if_neg k3, if_neg k4, if_neg k5], k6]
  have e : wrF wr v = 123 :: (sep true (v.f3.map (fw wr)) ++ [125]) := by unfold wrF; rw [if_neg k0, if_neg k1, if_neg k2, if_neg k3, if_neg k4, if_neg k5]; rfl
  rw [e] at hm
  exact wv_obj b acc v.f1 A2 A3 _ c2 _ c3 v.f3 ch wr w0 w hW hfull h0 hB rfl h3 z3 zn (by simp only [List.length_cons, List.length_append, List.length_nil] at hm; omega) (fun x hx => hle x.f1 (.inr ⟨x, hx, rfl⟩)) (fun x hx => hI x.f1 (.inr ⟨x, hx, rfl⟩))
theorem jsontext_writer_value.calls : ∀ (d : Nat) (v : JV), mayD d v = true → Sz 1048576 v → ∀ (b : Nat) (acc : List UInt8) (A2 A3 : Option Addr) (c2 c3 : Nat) (w0 w : World), WS b acc w → w0.heap.size ≤ b → Below w0.heap.size w0 w → k25.C w0 A2 v.f2.length v.f2 → k45.C w0 A3 v.f3.length v.f3 → acc.length + (wrD d v).length ≤ 140737488300000 →
  Calls Tryz.prog 25 #[.pointer (some ⟨b, 0, none⟩), .agg #[.int .u8 v.f0, .string v.f1, .slice A2 v.f2.length c2, .slice A3 v.f3.length c3]] w fun e w' => e = .returned (.tuple #[]) ∧ WS b (wpD d acc v) w' ∧ WK b w w' := by
 intro d
 induction d with
 | zero =>
  intro v h hz b acc A2 A3 c2 c3 w0 w hW h0 hB h2 h3 hm
  have hf := mayD_fine h
  obtain ⟨_, _, e2, e3, _⟩ := fineV_parts hf
  simp only [mayD, Bool.and_eq_true, decide_eq_true_eq] at h
  have no : ∀ x, ¬ (x ∈ v.f2 ∨ ∃ y ∈ v.f3, y.f1 = x) := by
   rintro x (hx | ⟨y, hy, _⟩)
   ·rw [e2.resolve_right (by omega)] at hx; cases hx
   ·rw [e3.resolve_right (by omega)] at hy; cases hy
  exact wv_one b acc v hf hz A2 A3 c2 c3 w0 w hW h0 hB h2 h3 hm (fun x hx => absurd hx (no x)) (fun x hx => absurd hx (no x))
 | succ d ih =>
  intro v h hz b acc A2 A3 c2 c3 w0 w hW h0 hB h2 h3 hm
  have hf := mayD_fine h
  simp only [mayD, Bool.and_eq_true, List.all_eq_true] at h
  have hch : ∀ x, (x ∈ v.f2 ∨ ∃ y ∈ v.f3, y.f1 = x) → mayD d x = true ∧ Sz 1048576 x := by
   obtain ⟨_, z0, z1, z2, z3, zl, zn, zf⟩ := hz
   rintro x (hx | ⟨y, hy, rfl⟩)
   ·exact ⟨h.1.2 x hx, zl x hx⟩
   ·exact ⟨h.2 y hy, zf y hy⟩
  exact wv_one b acc v hf hz A2 A3 c2 c3 w0 w hW h0 hB h2 h3 hm (fun x hx a => wpD_le d x (hch x hx).1 a) (fun x hx a W B2 B3 d2 d3 g1 g2 g3 g4 g5 => ih x (hch x hx).1 (hch x hx).2 b a B2 B3 d2 d3 w0 W g1 h0 g2 g3 g4 g5)
end Go.Proofs.YtebmgmagdhedgaaGreatDoor.Q
