/- Words and walks of this claim, put together by this repo's wip/xlink.py out of Q0, Q1, Q2. -/
import Derived.Test.YtjmchpkmhidejaaDoorProg
import Derived.Below
import Derived.Deep.Draws
import Derived.Deep.AppendLies
import Derived.Maps.AppendAt
import Derived.OwnWalk
import Derived.Laws.BytesArg
import Derived.Laws.MakeOwn
import Derived.Laws.OwnMore
import Derived.Deep.OwnRows
import Derived.Tactics
import Derived.Lib.ConvBytes
import Derived.Laws.Slices
import Derived.WalkKit
import Derived.KernelRfl
import Derived.RowKit3
import Derived.Deep.LoopGhost
import Derived.Deep.QuietTactic
import Derived.BigQuiet
import Derived.WideLaws
import Derived.Deep.DeepCutAuto
import Derived.Deep.CutBlock
import Derived.Deep.RegionHeld3
import Derived.Laws.Rows
import Derived.Lib.AppendStr
import Derived.ArgAppend
import Derived.Laws.IdiomCopy
import Derived.OrdersHeld
import Derived.Laws.BitsLemmas
import Derived.RowKit
import Derived.Test.YtjmchpkmhidejaaDoorL2
import Derived.Shelf.Strings.BuilderK
import Derived.Shelf.Strings.BuilderRune
import Derived.RangeFuncBox
import Derived.Laws.StructEq
import Derived.Lib.LaidU8
import Derived.Lib.LaidU8T
import Derived.MakeChecks
import Derived.Test.YtjmchpkmhidejaaDoorL3
import Derived.Lib.SmallJoins
import Derived.Lib.AppendIntMem
import Derived.Lib.OthersKept
import Derived.Deep.RegionWith
import Derived.RangeFuncNested
import Derived.RangeFuncLeaves
import Derived.Shelf.Abstract
import Derived.OwnWalkIn
import Derived.TacticsInMore
import Derived.LoopNIn
import Derived.LoopIn
import Derived.Test.YtjmchpkmhidejaaDoorL4
import Derived.Test.YtjmchpkmhidejaaDoorL0
import Derived.OrdersIn
import Derived.TacticsIn
import Derived.RangeFuncCalls
import Derived.Deep.Quiet
import Derived.Deep.MidRow
section
namespace Go.Proofs.YtjmchpkmhidejaaDoor.Q
open Go.RowKit Go.Proofs.YtjmchpkmhidejaaDoorW.PrintWords Go.Proofs.YtjmchpkmhidejaaDoorW.PrintLast Go.Proofs.YtjmchpkmhidejaaDoorW.PrintMore
attribute [local go_sem] max2_int min2_int max_two min_two max_three min_three max_four min_four   
set_option linter.unusedVariables false
set_option linter.unusedSimpArgs false
def errW : Option Int → Value
  | none => .nilIface
  | some c => .iface 0 (.int .i64 c)
theorem errW_none : errW none = .nilIface := rfl
theorem errW_some (c : Int) : errW (some c) = .iface 0 (.int .i64 c) := rfl
theorem info5 : (Tryd.prog.info? 5).map (fun i => (i.zero, i.size, i.bytes)) = some (some (.int .u8 0), 1, 1) := by kernel_rfl
structure P58 (α : Type) where
  f0 : ByteArray
  f1 : α
structure S40 where
  f0 : Int
  f1 : ByteArray
  f2 : (List S40)
  f3 : (List (P58 S40))
abbrev S58 := P58 S40
def z40 : S40 := ⟨(0 : Int), (⟨#[]⟩ : ByteArray), ([] : List S40), ([] : List S58)⟩
def G58 (d : Kd S40) : Kd (P58 S40) := Kd.iso (Kd.pair Kd.string d) (fun x : P58 S40 => (x.f0, x.f1))
theorem monoG58 : Kd.Mono G58 := Kd.mono_iso _ (Kd.mono_pair (Kd.mono_const _) Kd.mono_id)
theorem subG58 : Kd.Sub G58 [40, 58] := Kd.sub_iso _ (Kd.sub_pair (Kd.sub_const _ (by decide)) Kd.sub_id)
def F40 (d : Kd S40) : Kd S40 := Kd.iso (Kd.pair (Kd.int .u8) (Kd.pair Kd.string (Kd.pair (Kd.slice 40 d) (Kd.slice 58 (G58 d))))) (fun x : S40 => (x.f0, x.f1, x.f2, x.f3))
theorem sub40 : Kd.Sub F40 [40, 58] := Kd.sub_iso _ (Kd.sub_pair (Kd.sub_const _ (by decide)) (Kd.sub_pair (Kd.sub_const _ (by decide)) (Kd.sub_pair (Kd.sub_slice 40 (by decide) Kd.sub_id) (Kd.sub_slice 58 (by decide) subG58))))
theorem sz40 : ∀ n, (Kd.upto F40 4 [40, 58] n).sz = 4 := Kd.upto_sz (fun _ => rfl)
def k40 : Kd S40 := Kd.fix F40 4 [40, 58] sz40 (Kd.upto_E sub40)
def k58 : Kd S58 := G58 k40
theorem k40_open {w : World} {x : S40} {cs : List Value} (h : k40.K w x cs) : ∃ A2 c2 A3 c3, cs = [.int .u8 x.f0, .string x.f1, .slice A2 x.f2.length c2, .slice A3 x.f3.length c3] ∧ x.f2.length ≤ c2 ∧ k40.C w A2 x.f2.length x.f2 ∧ x.f3.length ≤ c3 ∧ k58.C w A3 x.f3.length x.f3 := by
  obtain ⟨n, h⟩ := h
  cases n with
  | zero => exact h.elim
  | succ n =>
    obtain ⟨_, _, rfl, rfl, ⟨_, _, rfl, rfl, ⟨_, _, rfl, ⟨A2, c2, rfl, l2, g2⟩, ⟨A3, c3, rfl, l3, g3⟩⟩⟩⟩ := h
    exact ⟨A2, c2, A3, c3, rfl, l2, Kd.fix_C g2, l3, Kd.thr_C monoG58 g3⟩
def rd_T40 (xs : List S40) (i : Int) : S40 := xs.getD i.toNat z40
theorem at_T40 {w : World} {A : Option Addr} {n : Nat} {xs : List S40} (h : Kd.C k40 w A n xs) (i : Int) (h0 : 0 ≤ i) (h1 : i < n) : ∃ ad A2 c2 A3 c3, A = some ad ∧ w.cell? (ad.add (i.toNat * 4)) = some (.int .u8 (rd_T40 xs i).f0) ∧ w.cell? ⟨(ad.add (i.toNat * 4)).block, (ad.add (i.toNat * 4)).off + 1, none⟩ = some (.string (rd_T40 xs i).f1) ∧ w.cell? ⟨(ad.add (i.toNat * 4)).block, (ad.add (i.toNat * 4)).off + 2, none⟩ = some (.slice A2 (rd_T40 xs i).f2.length c2) ∧ w.cell? ⟨(ad.add (i.toNat * 4)).block, (ad.add (i.toNat * 4)).off + 3, none⟩ = some (.slice A3 (rd_T40 xs i).f3.length c3) ∧ (rd_T40 xs i).f2.length ≤ c2 ∧ k40.C w A2 (rd_T40 xs i).f2.length (rd_T40 xs i).f2 ∧ (rd_T40 xs i).f3.length ≤ c3 ∧ k58.C w A3 (rd_T40 xs i).f3.length (rd_T40 xs i).f3 := by
  obtain ⟨ad, c, e, _, hK, hc0⟩ := Kd.C_get h z40 i h0 h1
  have hc : ∀ j u, c[j]? = some u → w.cell? (ad.add (i.toNat * 4 + j)) = some u := hc0
  obtain ⟨A2, c2, A3, c3, rfl, l2, g2, l3, g3⟩ := k40_open hK
  exact ⟨ad, A2, c2, A3, c3, e, hc 0 _ rfl, by rw [← add_field _ _ 1 (by omega)]; exact hc 1 _ rfl, by rw [← add_field _ _ 2 (by omega)]; exact hc 2 _ rfl, by rw [← add_field _ _ 3 (by omega)]; exact hc 3 _ rfl, l2, g2, l3, g3⟩
def z58 : S58 := ⟨(⟨#[]⟩ : ByteArray), z40⟩
theorem k58_open {w : World} {x : S58} {cs : List Value} (h : k58.K w x cs) : ∃ A3 c3 A4 c4, cs = [.string x.f0, .int .u8 x.f1.f0, .string x.f1.f1, .slice A3 x.f1.f2.length c3, .slice A4 x.f1.f3.length c4] ∧ x.f1.f2.length ≤ c3 ∧ k40.C w A3 x.f1.f2.length x.f1.f2 ∧ x.f1.f3.length ≤ c4 ∧ k58.C w A4 x.f1.f3.length x.f1.f3 := by
  obtain ⟨_, _, rfl, rfl, s1⟩ := h
  obtain ⟨A3, c3, A4, c4, rfl, l3, g3, l4, g4⟩ := k40_open s1
  exact ⟨A3, c3, A4, c4, rfl, l3, g3, l4, g4⟩
def rd_T58 (xs : List S58) (i : Int) : S58 := xs.getD i.toNat z58
theorem at_T58 {w : World} {A : Option Addr} {n : Nat} {xs : List S58} (h : Kd.C k58 w A n xs) (i : Int) (h0 : 0 ≤ i) (h1 : i < n) : ∃ ad A3 c3 A4 c4, A = some ad ∧ w.cell? (ad.add (i.toNat * 5)) = some (.string (rd_T58 xs i).f0) ∧ w.cell? ⟨(ad.add (i.toNat * 5)).block, (ad.add (i.toNat * 5)).off + 1, none⟩ = some (.int .u8 (rd_T58 xs i).f1.f0) ∧ w.cell? ⟨(ad.add (i.toNat * 5)).block, (ad.add (i.toNat * 5)).off + 2, none⟩ = some (.string (rd_T58 xs i).f1.f1) ∧ w.cell? ⟨(ad.add (i.toNat * 5)).block, (ad.add (i.toNat * 5)).off + 3, none⟩ = some (.slice A3 (rd_T58 xs i).f1.f2.length c3) ∧ w.cell? ⟨(ad.add (i.toNat * 5)).block, (ad.add (i.toNat * 5)).off + 4, none⟩ = some (.slice A4 (rd_T58 xs i).f1.f3.length c4) ∧ (rd_T58 xs i).f1.f2.length ≤ c3 ∧ k40.C w A3 (rd_T58 xs i).f1.f2.length (rd_T58 xs i).f1.f2 ∧ (rd_T58 xs i).f1.f3.length ≤ c4 ∧ k58.C w A4 (rd_T58 xs i).f1.f3.length (rd_T58 xs i).f1.f3 := by
  obtain ⟨ad, c, e, _, hK, hc0⟩ := Kd.C_get h z58 i h0 h1
  have hc : ∀ j u, c[j]? = some u → w.cell? (ad.add (i.toNat * 5 + j)) = some u := hc0
  obtain ⟨A3, c3, A4, c4, rfl, l3, g3, l4, g4⟩ := k58_open hK
  exact ⟨ad, A3, c3, A4, c4, e, hc 0 _ rfl, by rw [← add_field _ _ 1 (by omega)]; exact hc 1 _ rfl, by rw [← add_field _ _ 2 (by omega)]; exact hc 2 _ rfl, by rw [← add_field _ _ 3 (by omega)]; exact hc 3 _ rfl, by rw [← add_field _ _ 4 (by omega)]; exact hc 4 _ rfl, l3, g3, l4, g4⟩
/-- n marks, those of the number m's binary digits set -/
def bz (n m : Nat) : Array Bool := ((List.range n).map fun i => m.testBit i).toArray
/-- a list is empty where it is no other than the empty one -/
theorem xEmpty_ne (l : List UInt8) : l.isEmpty = !(l != []) := by cases l <;> rfl
section
variable {P : Program} {ops : Array Oper} {Q : Exit → Act → World → Prop} {md : Region.Mode} {S : World → Prop} {ds : List Nat} {T : Bool × List (List Nat × List Nat)} {B : List Nat}
/-- An operation that yields in every world is taken. -/
theorem pu (i : Nat) (N : Option Tmp) {oi : Oper} {v : Value} {fuel : Nat} {l : Array Bool} {a a' : Act} {w : World} (l' : Array Bool) (hT : Aside0 (rtab md ops = T)) (hi : ops[i]? = some oi) (hN : oi.dst = N)
    (h : wpAnyLast P md ops Q S ds fuel l' a' w)
    (hc : anyT T l.toList l'.toList i = true := by kernel_rfl) (hQ : ∀ c a w, Q (.panic c) (a.put oi.dst v) w → Q (.panic c) a w := by exact fun _ _ _ h => h)
    (hw : Region.wanted oi (yielded ops a.tmps) = true := by rfl) (hy : ∀ w', (execOp a.eval oi).run P w' = .ok (.value v) w' := by intro w'; go_simp; with_reducible rfl)
    (ha : a.put N v = a' := by simp only [Act.put, List.setIfInBounds_toArray, List.set_cons_zero, List.set_cons_succ, i64_w, i32_w]; rfl) : wpAnyLast P md ops Q S ds (fuel + 1) l a w :=
  pure_ l' hi hN (any_of hT.out hc) hQ (Or.inl ⟨hw, hy⟩) ha h
/-- An operation that is off. -/
theorem pf (i : Nat) (N : Option Tmp) {oi : Oper} {fuel : Nat} {l : Array Bool} {a a' : Act} {w : World} (l' : Array Bool) (hT : Aside0 (rtab md ops = T)) (hi : ops[i]? = some oi) (hN : oi.dst = N)
    (h : wpAnyLast P md ops Q S ds fuel l' a' w)
    (hc : anyT T l.toList l'.toList i = true := by kernel_rfl) (hQ : ∀ c a w, Q (.panic c) (a.put oi.dst undef) w → Q (.panic c) a w := by exact fun _ _ _ h => h)
    (hw : Region.wanted oi (yielded ops a.tmps) = false := by rfl)
    (ha : a.put N undef = a' := by simp only [Act.put, List.setIfInBounds_toArray, List.set_cons_zero, List.set_cons_succ, i64_w, i32_w]; rfl) : wpAnyLast P md ops Q S ds (fuel + 1) l a w :=
  pure_ l' hi hN (any_of hT.out hc) hQ (Or.inr ⟨hw, rfl⟩) ha h
/-- An operation that yields in every world that meets S is taken. -/
theorem tk (i : Nat) (N : Option Tmp) {oi : Oper} {v : Value} {fuel : Nat} {l : Array Bool} {a a' : Act} {w : World} (l' : Array Bool) (hT : Aside0 (rtab md ops = T)) (hW : Aside0 (waitsOk T.2 B = true)) (hi : ops[i]? = some oi) (hN : oi.dst = N) (hS : S w)
    (h : wpAnyLast P md ops Q S ds fuel l' a' w)
    (hc : takeW T B ds l.toList l'.toList i = true := by kernel_rfl) (hQ : ∀ c a w, Q (.panic c) (a.put oi.dst v) w → Q (.panic c) a w := by exact fun _ _ _ h => h)
    (hw : Region.wanted oi (yielded ops a.tmps) = true := by rfl) (hy : ∀ w', S w' → (execOp a.eval oi).run P w' = .ok (.value v) w' := by intro w' hS_; (try dsimp only at hS_); go_split_ands; go_simp; with_reducible rfl)
    (ha : a.put N v = a' := by simp only [Act.put, List.setIfInBounds_toArray, List.set_cons_zero, List.set_cons_succ, i64_w, i32_w]; rfl) : wpAnyLast P md ops Q S ds (fuel + 1) l a w :=
  take_ l' hi hN (take_ofW hT.out hW.out hc) hQ (Or.inl ⟨hw, hy⟩) hS ha h
end
/-- Worlds behind drawings and new blocks: what was below stays so. -/
theorem bl {B : Nat} {w0 w w1 : World} (h : Aside0 (Below B w0 w)) (hs : Below B w0 w → Below B w0 w1 := by intro h_; repeat (first | (with_reducible first | exact h_ | apply below_alloc | apply pw_below_drewN | apply below_drew1) | exact h_)) : Below B w0 w1 := hs h.out
/-- The same of a row of one's own. -/
theorem rl {α : Type} {d : Kd α} {e : Nat} {w w1 : World} {base : Nat} {ok : Nat → Prop} {v : Value} {xs : List α} (h : Aside0 (Kd.R d e w base ok v xs)) (hs : Kd.R d e w base ok v xs → Kd.R d e w1 base ok v xs := by intro h_; (with_reducible repeat (first | apply Kd.R_alloc | apply Kd.R_drewN | apply Kd.R_drew)); exact h_) : Kd.R d e w1 base ok v xs := hs h.out
/-- The same of a block. -/
theorem kl {w w1 : World} {g : Nat} {o : Obj} (h : Aside0 (w.heap[g]? = some o)) (hs : w.heap[g]? = some o → w1.heap[g]? = some o := by intro h_; (with_reducible repeat (first | refine blk_drewN ?_ _ | refine blk_drew ?_ | refine blk_alloc ?_ _)); exact h_) : w1.heap[g]? = some o := hs h.out
/-- A table of whole numbers that reads as its initialiser lays it. -/
theorem tab_of_reads {P : Program} {W : World} {name : String} {k : IntKind} {zs : List Int} {g : Nat} {t e : TypeId} {n : Nat} (hg : P.globalNamed name = some g) (hty : (P.globals[g]?).map (·.type) = some t) (ht : P.underlying t = some (.array n e)) (he : P.underlying e = some (.int k)) (hce : P.cellsOf e = 1) (hct : P.cellsOf t = n)
    (h : Lib.VarReads P W name (Lib.tabData k zs)) : Lib.TabIs P W name k zs := by
  obtain ⟨g', t', cs, fuel, p, hg', ht', hvar, hd⟩ := h
  obtain rfl := Option.some.inj (hg.symm.trans hg')
  obtain rfl := Option.some.inj (hty.symm.trans ht')
  unfold Lib.TabIs
  rw [hvar, ← Lib.cells_of_tab ht he hce hct hd]
/-- The tables of unicode/utf8 and internal/strconv read as their initialisers lay them. -/
structure GlobOk (w : World) : Prop where
  utf : Lib.Utf8Tabs 1 2 w
  tab : Lib.TabIs Tryd.prog w "internal/strconv.uint64pow10" .u64 Lib.pow10Tab
theorem GlobOk.below {w w' : World} (h : GlobOk w) (hb : Below w.heap.size w w') : GlobOk w' := ⟨Utf8Tabs_below h.utf hb, Joins.tab_stays (g := 3) (by kernel_rfl) h.tab hb (Nat.le_refl _)⟩
theorem xU8 : U8Extra Tryd.prog Tryd.lays196_ren := ⟨by kernel_rfl, by kernel_rfl, by kernel_rfl, by kernel_rfl, by kernel_rfl, by kernel_rfl, by kernel_rfl⟩
theorem GlobOk.of_laid {W : World} {l : List (String × DataW Unit)} {d1 d2 d3 : DataW Unit} (hL : laidMetH Tryd.prog l W) (hp : (l.all fun x => x.2.handleName?.isNone) = true) (m1 : ("unicode/utf8.first", d1) ∈ l) (e1 : d1 = Lib.firstData) (m2 : ("unicode/utf8.acceptRanges", d2) ∈ l) (e2 : d2 = Lib.acceptData) (m3 : ("internal/strconv.uint64pow10", d3) ∈ l) (e3 : d3 = Lib.tabData .u64 Lib.pow10Tab) : GlobOk W := by
  rw [MakeChecks.laidMetH_plain _ _ _ hp] at hL
  subst e1 e2 e3
  exact ⟨utf8Tabs_of_readsT (U8Types.of196 Tryd.lays196) xU8 (Lib.laidMet.reads hL m1) (Lib.laidMet.reads hL m2), tab_of_reads (g := 3) (t := 85) (e := 74) (n := 20) (by kernel_rfl) (by kernel_rfl) (by kernel_rfl) (by kernel_rfl) (by kernel_rfl) (by kernel_rfl) (Lib.laidMet.reads hL m3)⟩
set_option maxHeartbeats 1000000 in
set_option maxRecDepth 100000 in
theorem bc_used (b : Nat) (w : World) (h0 : w.cell? ⟨b, 0, none⟩ = some (.pointer (some ⟨b, 0, none⟩))) :
    Calls Tryd.prog 26 #[.pointer (some ⟨b, 0, none⟩)] w fun e w' => e = .returned (.tuple #[]) ∧ w' = w := by
  obtain ⟨j, hj, _⟩ := Option.map_eq_some_iff.1 (show (Tryd.prog.info? 47).map (·.size) = some 2 by kernel_rfl)
  go_enter Tryd.func26, Tryd.ntmps26
  go_wp2
  rw [Lib.run_neq_ptr_same w _ Tryd.underlying45 hj]
  go_wp2
  go_end0
  exact ⟨rfl, rfl⟩
set_option maxHeartbeats 1000000 in
set_option maxRecDepth 100000 in
theorem bc_fresh (b : Nat) (w : World) (h0 : w.cell? ⟨b, 0, none⟩ = some (.pointer none)) (hsh : w.shape? b = some (47, 2)) (hfz : w.frozen? ⟨b, 0, none⟩ = false) :
    Calls Tryd.prog 26 #[.pointer (some ⟨b, 0, none⟩)] w fun e w' => e = .returned (.tuple #[]) ∧ w' = w.setCell ⟨b, 0, none⟩ (.pointer (some ⟨b, 0, none⟩)) := by
  obtain ⟨j, hj, hjs⟩ := Option.map_eq_some_iff.1 (show (Tryd.prog.info? 47).map (·.size) = some 2 by kernel_rfl)
  go_enter Tryd.func26, Tryd.ntmps26
  go_wp2
  rw [Lib.run_to_unsafe w ⟨b, 0, none⟩ Tryd.underlying45 Tryd.underlying69 hj (by rw [hjs]; decide) hsh (Nat.zero_lt_succ 1)]
  simp only [Result.andThen]
  rw [Oper.upon_value]
  go_wp2
  rw [run_callFunc_extern Tryd.func35 (by kernel_rfl) (by kernel_rfl) (by kernel_rfl) (e := Extern.AbiNoEscape.same) (by kernel_rfl)]
  rw [Lib.run_noEscape]
  simp only [Result.andThen]
  rw [Oper.upon_value]
  go_wp2
  rw [Lib.run_from_unsafe w ⟨b, 0, none⟩ Tryd.underlying69 Tryd.underlying45 hj hsh (by kernel_rfl)]
  simp only [Result.andThen]
  rw [Oper.upon_value]
  go_wp2
  go_end0
  exact ⟨rfl, rfl⟩
theorem bc_k (B b : Nat) (bs : List Value) (w : World) (h : Lib.IsBuilderF 47 5 B b bs w) :
    Calls Tryd.prog 26 #[.pointer (some ⟨b, 0, none⟩)] w fun e w' => e = .returned (.tuple #[]) ∧ (Lib.BuilderAtF 47 5 B b (.pointer (some ⟨b, 0, none⟩)) bs w' ∧ Below B w w' ∧ Lib.OthersKept 5 (some b) w w') := by
  rcases h with h | h
  · refine (bc_fresh b w h.cell0 h.shape h.frozen0).mono ?_
    rintro e w' ⟨rfl, rfl⟩
    exact ⟨rfl, h.used _, (Below.refl B w).setCell (p := ⟨b, 0, none⟩) h.1 _, (Lib.OthersKept.refl _ _ w).setCell ⟨b, 0, none⟩ rfl _⟩
  · refine (bc_used b w h.cell0).mono ?_
    rintro e w' ⟨rfl, rfl⟩
    exact ⟨rfl, h, Below.refl B _, Lib.OthersKept.refl _ _ _⟩
set_option maxHeartbeats 4000000 in
set_option maxRecDepth 100000 in
theorem bw_rune (B b : Nat) (bs : List Value) (r : Int) (hr0 : -2147483648 ≤ r) (hr1 : r ≤ 2147483647) (w : World) (h : Lib.IsBuilderF 47 5 B b bs w) (hlen : bs.length + 4 ≤ 140737488355328) (hBw : B ≤ w.heap.size) :
    Calls Tryd.prog 21 #[.pointer (some ⟨b, 0, none⟩), .int .i32 r] w fun e w' => e = .returned (.tuple #[.int .i64 (Lib.runeCells r).length, .nilIface]) ∧ (Lib.BuilderAtF 47 5 B b (.pointer (some ⟨b, 0, none⟩)) (bs ++ Lib.runeCells r) w' ∧ Below B w w' ∧ Lib.OthersKept 5 (some b) w w') := by
  have hk4 := Lib.runeCells_le r
  go_enter Tryd.func21, Tryd.ntmps21
  go_wp2_with (go_at_call 26; refine (bc_k B b bs _ h).mono ?_)
  rintro e w1 ⟨rfl, h1, hb1, hk1⟩
  obtain ⟨hB, v, hbk, hown, hne⟩ := h1
  obtain ⟨ao, cap, rfl⟩ : ∃ ao cap, v = .slice ao bs.length cap := by
    rcases hown.2 with ⟨hv, h0⟩ | ⟨g, cap, cur, fz, hv, _⟩
    · exact ⟨none, 0, by rw [hv, h0]⟩
    · exact ⟨_, _, hv⟩
  have c0 : w1.cell? ⟨b, 0, none⟩ = some (.pointer (some ⟨b, 0, none⟩)) := by rw [Lib.cell_of_heap hbk]; rfl
  have c1 : w1.cell? ⟨b, 1, none⟩ = some (.slice ao bs.length cap) := by rw [Lib.cell_of_heap hbk]; rfl
  go_wp2_with (go_at_call 31; refine (Tryd.utf8_AppendRune_row B _ bs.length bs r hr0 hr1 _ hown hlen (by have := hb1.size; omega)).mono ?_)
  rintro e w2 ⟨v', rfl, hown', o, hgrow⟩
  have hlt : b < w1.heap.size := (Array.getElem?_eq_some_iff.1 hbk).1
  have hb2 : w2.heap[b]? = some (.cells #[.pointer (some ⟨b, 0, none⟩), .slice ao bs.length cap] 47 (0, 0)) := by
    rw [hgrow.block b (by simp; omega) (fun e => hne e.symm), Lib.alloc_old w1 _ b hlt]
    exact hbk
  have d0 : w2.cell? ⟨b, 0, none⟩ = some (.pointer (some ⟨b, 0, none⟩)) := by rw [Lib.cell_of_heap hb2]; rfl
  have d1 : w2.cell? ⟨b, 1, none⟩ = some (.slice ao bs.length cap) := by rw [Lib.cell_of_heap hb2]; rfl
  have f1 : w2.frozen? ⟨b, 1, none⟩ = false := Lib.frozen_of_heap hb2 1
  obtain ⟨g, cap', rfl⟩ : ∃ g cap', v' = .slice (some ⟨g, 0, none⟩) (bs.length + (Lib.runeCells r).length) cap' := by
    rcases hown'.2 with ⟨_, h0⟩ | ⟨g, cap', cur, fz, hv, _⟩
    · omega
    · exact ⟨g, cap', hv⟩
  go_wp2
  go_ret2
  refine ⟨?_, ?_, ?_, ((hk1.alloc _).grown hgrow (Lib.ownsRowF_kind (hown.alloc _))).setCell ⟨b, 1, none⟩ rfl _⟩
  · have e : ((bs.length : Int) + ((Lib.runeCells r).length : Int) - (bs.length : Int)) = ((Lib.runeCells r).length : Int) := by omega
    simp [e]
  · exact Lib.BuilderAtF.put (T := 47) (e := 5) hB hb2 (bs' := bs ++ Lib.runeCells r) (by simpa using hown') (by decide)
  · exact ((hb1.alloc (by have := hb1.size; omega) _).grown hgrow (by have := hb1.size; simp; omega) (fun k hk => (hown.lt k hk).1)).setCell (p := ⟨b, 1, none⟩) hB _
set_option maxHeartbeats 4000000 in
set_option maxRecDepth 100000 in
theorem bw_byte (B b : Nat) (bs : List Value) (c : Int) (w : World) (h : Lib.IsBuilderF 47 5 B b bs w) (hlen : bs.length + 1 ≤ 140737488355328) (hBw : B ≤ w.heap.size) :
    Calls Tryd.prog 18 #[.pointer (some ⟨b, 0, none⟩), .int .u8 c] w fun e w' => e = .returned .nilIface ∧ (Lib.BuilderAtF 47 5 B b (.pointer (some ⟨b, 0, none⟩)) (bs ++ [.int .u8 c]) w' ∧ Below B w w' ∧ Lib.OthersKept 5 (some b) w w') := by
  obtain ⟨i0, hi, hz0, hz1, hz2⟩ := info_parts (show (Tryd.prog.info? 5).map (fun i => (i.zero, i.size, i.bytes)) = some (some (.int .u8 0), 1, 1) by kernel_rfl)
  go_enter Tryd.func18, Tryd.ntmps18
  go_wp2_with (go_at_call 26; refine (bc_k B b bs _ h).mono ?_)
  rintro e w1 ⟨rfl, h1, hb1, hk1⟩
  obtain ⟨hB, v, hbk, hown, hne⟩ := h1
  have c0 : w1.cell? ⟨b, 0, none⟩ = some (.pointer (some ⟨b, 0, none⟩)) := by rw [Lib.cell_of_heap hbk]; rfl
  have c1 : w1.cell? ⟨b, 1, none⟩ = some v := by rw [Lib.cell_of_heap hbk]; rfl
  go_wp2_with (at_builtin; refine wpList_append_ownF _ rfl _ _ 22 rfl B 5 i0 (.int .u8 0) 1 1 Tryd.underlying22 hi hz0 hz1 hz2 rfl (by decide) _ _ _ rfl (hown.alloc _) ⟨w1.heap.size, 0, none⟩ 1 1 [.int .u8 c] rfl rfl ?c1 ?c2 ?c3 ?c4 ?c5 ?_)
  case c1 =>
    intro j u hj
    match j, hj with
    | 0, hj => simp at hj; subst hj; simp [Addr.add]
  case c2 => intro u hu; simp at hu; subst hu; rfl
  case c3 => unfold maxLen; omega
  case c4 => omega
  case c5 => have := hb1.size; simp; omega
  intro v' w2 hown' hgrow _
  have hlt : b < w1.heap.size := (Array.getElem?_eq_some_iff.1 hbk).1
  have hb2 : w2.heap[b]? = some (.cells #[.pointer (some ⟨b, 0, none⟩), v] 47 (0, 0)) := by
    rw [hgrow.block b (by simp; omega) (fun e => hne e.symm), Lib.alloc_old w1 _ b hlt]
    exact hbk
  have d0 : w2.cell? ⟨b, 0, none⟩ = some (.pointer (some ⟨b, 0, none⟩)) := by rw [Lib.cell_of_heap hb2]; rfl
  have d1 : w2.cell? ⟨b, 1, none⟩ = some v := by rw [Lib.cell_of_heap hb2]; rfl
  have f1 : w2.frozen? ⟨b, 1, none⟩ = false := Lib.frozen_of_heap hb2 1
  obtain ⟨g, cap, rfl⟩ : ∃ g cap, v' = .slice (some ⟨g, 0, none⟩) (bs.length + 1) cap := by
    rcases hown'.2 with ⟨_, h0⟩ | ⟨g, cap, cur, fz, hv, _⟩
    · omega
    · exact ⟨g, cap, hv⟩
  go_wp2
  go_ret
  refine ⟨rfl, ?_, ?_, ((hk1.alloc _).grown hgrow (Lib.ownsRowF_kind (hown.alloc _))).setCell ⟨b, 1, none⟩ rfl _⟩
  · exact Lib.BuilderAtF.put (T := 47) (e := 5) hB hb2 (bs' := bs ++ [.int .u8 c]) (by simpa using hown') (by decide)
  · exact ((hb1.alloc (by have := hb1.size; omega) _).grown hgrow (by have := hb1.size; simp; omega) (fun k hk => (hown.lt k hk).1)).setCell (p := ⟨b, 1, none⟩) hB _
set_option maxHeartbeats 4000000 in
set_option maxRecDepth 100000 in
theorem bw_str (B b : Nat) (bs : List Value) (s : ByteArray) (w : World) (h : Lib.IsBuilderF 47 5 B b bs w) (hlen : bs.length + s.size ≤ 140737488355328) (hBw : B ≤ w.heap.size) :
    Calls Tryd.prog 20 #[.pointer (some ⟨b, 0, none⟩), .string s] w fun e w' => e = .returned (.tuple #[.int .i64 s.size, .nilIface]) ∧ (Lib.BuilderAtF 47 5 B b (.pointer (some ⟨b, 0, none⟩)) (bs ++ Lib.strCells s) w' ∧ Below B w w' ∧ Lib.OthersKept 5 (some b) w w') := by
  obtain ⟨i0, hi, hz0, hz1, hz2⟩ := info_parts (show (Tryd.prog.info? 5).map (fun i => (i.zero, i.size, i.bytes)) = some (some (.int .u8 0), 1, 1) by kernel_rfl)
  go_enter Tryd.func20, Tryd.ntmps20
  go_wp2_with (go_at_call 26; refine (bc_k B b bs _ h).mono ?_)
  rintro e w1 ⟨rfl, h1, hb1, hk1⟩
  obtain ⟨hB, v, hbk, hown, hne⟩ := h1
  have c0 : w1.cell? ⟨b, 0, none⟩ = some (.pointer (some ⟨b, 0, none⟩)) := by rw [Lib.cell_of_heap hbk]; rfl
  have c1 : w1.cell? ⟨b, 1, none⟩ = some v := by rw [Lib.cell_of_heap hbk]; rfl
  go_wp2_with (at_builtin; refine Lib.wpList_append_own_stringF _ rfl _ _ 22 9 rfl B 5 i0 Tryd.underlying22 Tryd.underlying9 hi hz0 hz1 hz2 _ _ _ rfl hown s rfl ?c3 ?c4 ?c5 ?_)
  case c3 => unfold maxLen; omega
  case c4 => omega
  case c5 => have := hb1.size; omega
  intro v' w2 hown' hgrow _
  have hlt : b < w1.heap.size := (Array.getElem?_eq_some_iff.1 hbk).1
  have hb2 : w2.heap[b]? = some (.cells #[.pointer (some ⟨b, 0, none⟩), v] 47 (0, 0)) := by
    rw [hgrow.block b hlt (fun e => hne e.symm)]
    exact hbk
  have d0 : w2.cell? ⟨b, 0, none⟩ = some (.pointer (some ⟨b, 0, none⟩)) := by rw [Lib.cell_of_heap hb2]; rfl
  have d1 : w2.cell? ⟨b, 1, none⟩ = some v := by rw [Lib.cell_of_heap hb2]; rfl
  have f1 : w2.frozen? ⟨b, 1, none⟩ = false := Lib.frozen_of_heap hb2 1
  obtain ⟨ao, n', cap, rfl⟩ : ∃ ao n' cap, v' = .slice ao n' cap := by
    rcases hown'.2 with ⟨hv, _⟩ | ⟨g, cap, cur, fz, hv, _⟩
    · exact ⟨_, _, _, hv⟩
    · exact ⟨_, _, _, hv⟩
  go_wp2
  go_ret2
  refine ⟨rfl, ?_, ?_, (hk1.grown hgrow (Lib.ownsRowF_kind hown)).setCell ⟨b, 1, none⟩ rfl _⟩
  · exact Lib.BuilderAtF.put (T := 47) (e := 5) hB hb2 (bs' := bs ++ Lib.strCells s) (by simpa [Lib.strCells_length] using hown') (by decide)
  · exact (hb1.grown hgrow (by have := hb1.size; omega) (fun k hk => (hown.lt k hk).1)).setCell (p := ⟨b, 1, none⟩) hB _
set_option maxRecDepth 100000 in
theorem ir_err (s : ByteArray) (w : World) (hascii : ∀ (j : Nat) b, s.data.toList[j]? = some b → b.toNat < 128) : Calls Tryd.prog 19 #[.string s, .int .i32 65533] w fun e w' => e = .returned (.int .i64 (-1)) ∧ Below w.heap.size w w' := by
  have HA : Aside (∀ (j : Nat) b, s.data.toList[j]? = some b → b.toNat < 128) := hascii
  clear hascii
  go_enter Tryd.func19, Tryd.ntmps19
  go_wp2
  go_loopg [5, 6] s.size (fun g _ _ wx => ∃ i : Nat, i + g = s.size ∧ wx = w.iter s i)
  case atStart => exact ⟨0, by omega, rfl⟩
  case round =>
    obtain ⟨i, hig, rfl⟩ := hrel
    cases gk with
    | zero =>
      obtain rfl : i = s.size := by omega
      have hnx := run_next_end (P := Tryd.prog) w s s.size
      go_wp2
      go_ret
      exact ⟨rfl, (Below.refl _ _).alloc (Nat.le_refl _) _⟩
    | succ g =>
      have hi : i < s.size := by omega
      obtain ⟨x, hx⟩ : ∃ x : UInt8, s[i]'hi = x := ⟨_, rfl⟩
      have hxl : s.data.toList[i]? = some x := by rw [← hx]; exact Lib.data_getElem? s i hi
      have hx128 : x.toNat < 128 := HA.out i x hxl
      have hne : ((x.toNat : Int) == 65533) = false := beq_eq_false_iff_ne.2 (by omega)
      have hnx := fun ty => run_next_ascii (P := Tryd.prog) w s i ty hi (by rw [hx]; exact hx128)
      rw [hx] at hnx
      clear hxl hx
      go_wp2
      go_roundg g
      case measure => omega
      case rel => exact ⟨i + 1, by omega, rfl⟩
theorem qs_ascii : ∀ (j : Nat) b, (⟨#[34, 92, 8, 9, 10, 12, 13]⟩ : ByteArray).data.toList[j]? = some b → b.toNat < 128 := by
  intro j b h
  have hj := (List.getElem?_eq_some_iff.1 h).1
  have hl : ([34, 92, 8, 9, 10, 12, 13] : List UInt8).length = 7 := rfl
  have key : ∀ j, j < 7 → ∀ b, ([34, 92, 8, 9, 10, 12, 13] : List UInt8)[j]? = some b → b.toNat < 128 := by decide
  exact key j hj b h
theorem qenc_many (r : Int) (h0 : 128 ≤ r) (hv : Lib.validRune r = true) : (∃ a b : UInt8, 128 ≤ b.toNat ∧ Utf8.encode r = ⟨#[a, b]⟩) ∨ (∃ a b c : UInt8, 128 ≤ c.toNat ∧ Utf8.encode r = ⟨#[a, b, c]⟩) ∨ ∃ a b c d : UInt8, 128 ≤ d.toNat ∧ Utf8.encode r = ⟨#[a, b, c, d]⟩ := by
  have v : Utf8.valid r = true := by
    simp only [Lib.validRune, decide_eq_true_eq] at hv
    simp [Utf8.valid]; omega
  have hx : ¬ r.toNat < 128 := by omega
  have hl : ∀ n : Nat, 128 ≤ (UInt8.ofNat (128 + n % 64)).toNat := fun n => by
    have : (UInt8.ofNat (128 + n % 64)).toNat = 128 + n % 64 := by simp; omega
    omega
  unfold Utf8.encode
  simp only [v, if_true]
  rw [if_neg hx]
  by_cases h2 : r.toNat < 2048
  · rw [if_pos h2]
    exact .inl ⟨_, _, hl _, rfl⟩
  · rw [if_neg h2]
    by_cases h3 : r.toNat < 65536
    · rw [if_pos h3]; exact .inr (.inl ⟨_, _, _, hl _, rfl⟩)
    · rw [if_neg h3]; exact .inr (.inr ⟨_, _, _, _, hl _, rfl⟩)
theorem ib_list {c : UInt8} : ∀ (l : List UInt8), c ∉ l → Lib.indexByte l c = -1 := by
  intro l h
  induction l with
  | nil => rfl
  | cons b l ih =>
    have h1 : c ≠ b ∧ c ∉ l := by simpa using h
    unfold Lib.indexByte
    rw [ih h1.2, if_neg (by simpa using fun e => h1.1 e.symm)]
    rfl
set_option maxRecDepth 100000 in
set_option maxHeartbeats 1600000 in
theorem iq_other (r : Int) (w : World) (h0 : 128 ≤ r) (h1 : ¬ r = 65533) : Calls Tryd.prog 19 #[.string ⟨#[34, 92, 8, 9, 10, 12, 13]⟩, .int .i32 r] w fun e w' => e = .returned (.int .i64 (-1)) ∧ Below w.heap.size w w' := by
  have h0' : ¬ r < 128 := by omega
  have h00 : 0 ≤ r := by omega
  have h1b : (r == 65533) = false := by simp [h1]
  cases hv : Lib.validRune r
  · go_enter Tryd.func19, Tryd.ntmps19
    go_wp2_with (go_at_call 28; refine (Tryd.utf8_ValidRune r w).mono ?_; rintro e w' ⟨rfl, rfl⟩; rw [hv])
    go_ret
    exact ⟨rfl, Below.refl _ _⟩
  · have HE := Aside0.mk (qenc_many r h0 hv)
    go_enter Tryd.func19, Tryd.ntmps19
    go_wp2_with (go_at_call 28; refine (Tryd.utf8_ValidRune r w).mono ?_; rintro e w' ⟨rfl, rfl⟩; rw [hv])
    go_step3
    go_wp2
    rcases HE.out with ⟨a, b, hb, hE⟩ | ⟨a, b, c, hb, hE⟩ | ⟨a, b, c, d, hb, hE⟩
    · rw [hE, show wrap64 (((⟨#[a, b]⟩ : ByteArray).size : Int) - 1) = 1 from by simp [ByteArray.size, wrap64]]
      clear HE hE
      go_loopg [9, 10] 0 (fun g x y wx => x = .int .i64 1 ∧ y = .int .i64 0 ∧ wx = w')
      case atStart => exact ⟨rfl, rfl, rfl⟩
      case round =>
        obtain ⟨rfl, rfl, rfl⟩ := hrel
        have hib : Lib.indexByte [8, 9, 10, 12, 13] ((⟨#[a, b]⟩ : ByteArray)[1]'(show 1 < 2 from by omega)) = -1 := by
          show Lib.indexByte [8, 9, 10, 12, 13] b = -1
          have hl : ∀ x ∈ ([8, 9, 10, 12, 13] : List UInt8), x.toNat < 128 := by decide
          exact ib_list _ (fun h => by have := hl b h; omega)
        go_wp2
        go_step3
        go_wp2
        go_region
        go_wp2
        rotate_left
        · rename_i hx Kx hKx
          exfalso
          change (((92 : UInt8).toNat : Int) != (b.toNat : Int)) = false at hx
          simp only [bne, Bool.not_eq_false'] at hx
          have hx2 := eq_of_beq hx
          rw [show (((92 : UInt8).toNat : Nat) : Int) = 92 from rfl] at hx2
          omega
        go_region_with (go_at_call 27; refine (Tryd.strings_IndexByte _ _ _).mono ?_; rintro e w' ⟨rfl, rfl⟩)
        all_goals go_wp2
        all_goals (repeat (rw [Exit.noGoto_ret]; go_wp2))
        all_goals go_ret
        all_goals exact ⟨rfl, (Below.refl _ _).drew.drew⟩
    · rw [hE, show wrap64 (((⟨#[a, b, c]⟩ : ByteArray).size : Int) - 1) = 2 from by simp [ByteArray.size, wrap64]]
      clear HE hE
      go_loopg [9, 10] 0 (fun g x y wx => x = .int .i64 2 ∧ y = .int .i64 0 ∧ wx = w')
      case atStart => exact ⟨rfl, rfl, rfl⟩
      case round =>
        obtain ⟨rfl, rfl, rfl⟩ := hrel
        have hib : Lib.indexByte [9, 10, 12, 13] ((⟨#[a, b, c]⟩ : ByteArray)[2]'(show 2 < 3 from by omega)) = -1 := by
          show Lib.indexByte [9, 10, 12, 13] c = -1
          have hl : ∀ x ∈ ([9, 10, 12, 13] : List UInt8), x.toNat < 128 := by decide
          exact ib_list _ (fun h => by have := hl c h; omega)
        go_wp2
        go_step3
        go_wp2
        go_region
        go_wp2
        rotate_left
        · rename_i hx Kx hKx
          exfalso
          change (((8 : UInt8).toNat : Int) != (c.toNat : Int)) = false at hx
          simp only [bne, Bool.not_eq_false'] at hx
          have hx2 := eq_of_beq hx
          rw [show (((8 : UInt8).toNat : Nat) : Int) = 8 from rfl] at hx2
          omega
        go_region_with (go_at_call 27; refine (Tryd.strings_IndexByte _ _ _).mono ?_; rintro e w' ⟨rfl, rfl⟩)
        all_goals go_wp2
        all_goals (repeat (rw [Exit.noGoto_ret]; go_wp2))
        all_goals go_ret
        all_goals exact ⟨rfl, (Below.refl _ _).drew.drew⟩
    · rw [hE, show wrap64 (((⟨#[a, b, c, d]⟩ : ByteArray).size : Int) - 1) = 3 from by simp [ByteArray.size, wrap64]]
      clear HE hE
      go_loopg [9, 10] 0 (fun g x y wx => x = .int .i64 3 ∧ y = .int .i64 0 ∧ wx = w')
      case atStart => exact ⟨rfl, rfl, rfl⟩
      case round =>
        obtain ⟨rfl, rfl, rfl⟩ := hrel
        have hib : Lib.indexByte [10, 12, 13] ((⟨#[a, b, c, d]⟩ : ByteArray)[3]'(show 3 < 4 from by omega)) = -1 := by
          show Lib.indexByte [10, 12, 13] d = -1
          have hl : ∀ x ∈ ([10, 12, 13] : List UInt8), x.toNat < 128 := by decide
          exact ib_list _ (fun h => by have := hl d h; omega)
        go_wp2
        go_step3
        go_wp2
        go_region
        go_wp2
        rotate_left
        · rename_i hx Kx hKx
          exfalso
          change (((9 : UInt8).toNat : Int) != (d.toNat : Int)) = false at hx
          simp only [bne, Bool.not_eq_false'] at hx
          have hx2 := eq_of_beq hx
          rw [show (((9 : UInt8).toNat : Nat) : Int) = 9 from rfl] at hx2
          omega
        go_region_with (go_at_call 27; refine (Tryd.strings_IndexByte _ _ _).mono ?_; rintro e w' ⟨rfl, rfl⟩)
        all_goals go_wp2
        all_goals (repeat (rw [Exit.noGoto_ret]; go_wp2))
        all_goals go_ret
        all_goals exact ⟨rfl, (Below.refl _ _).drew.drew⟩
/-- Of another character: none of these bytes is it. -/
theorem iq_out (r : Int) (w : World) (h0 : 0 ≤ r) (hn : r ≠ 34 ∧ r ≠ 92 ∧ r ≠ 8 ∧ r ≠ 9 ∧ r ≠ 10 ∧ r ≠ 12 ∧ r ≠ 13) : Calls Tryd.prog 19 #[.string ⟨#[34, 92, 8, 9, 10, 12, 13]⟩, .int .i32 r] w fun e w' => e = .returned (.int .i64 (-1)) ∧ Below w.heap.size w w' := by
  by_cases h : r < 128
  · refine (Tryd.strings_IndexRune_ascii ⟨#[34, 92, 8, 9, 10, 12, 13]⟩ r w h0 h).mono ?_
    rintro e w' ⟨rfl, rfl⟩
    refine ⟨?_, Below.refl _ _⟩
    congr 2
    refine ib_list _ (fun hm => ?_)
    have hc : (r.toNat.toUInt8).toNat = r.toNat := by simp; omega
    have key : ∀ x ∈ ([34, 92, 8, 9, 10, 12, 13] : List UInt8), x.toNat = 34 ∨ x.toNat = 92 ∨ x.toNat = 8 ∨ x.toNat = 9 ∨ x.toNat = 10 ∨ x.toNat = 12 ∨ x.toNat = 13 := by decide
    have := key _ hm
    rw [hc] at this
    omega
  · by_cases h3 : r = 65533
    · subst h3; exact ir_err _ w qs_ascii
    · exact iq_other r w (by omega) h3
theorem iq_in (r : Int) (w : World) (j : Nat) (h : (r = 34 ∧ j = 0) ∨ (r = 92 ∧ j = 1) ∨ (r = 8 ∧ j = 2) ∨ (r = 9 ∧ j = 3) ∨ (r = 10 ∧ j = 4) ∨ (r = 12 ∧ j = 5) ∨ (r = 13 ∧ j = 6)) : Calls Tryd.prog 19 #[.string ⟨#[34, 92, 8, 9, 10, 12, 13]⟩, .int .i32 r] w fun e w' => e = .returned (.int .i64 j) ∧ w' = w := by
  refine (Tryd.strings_IndexRune_ascii ⟨#[34, 92, 8, 9, 10, 12, 13]⟩ r w (by omega) (by omega)).mono ?_
  rintro e w' ⟨rfl, rfl⟩
  refine ⟨?_, rfl⟩
  rcases h with ⟨rfl, rfl⟩ | ⟨rfl, rfl⟩ | ⟨rfl, rfl⟩ | ⟨rfl, rfl⟩ | ⟨rfl, rfl⟩ | ⟨rfl, rfl⟩ | ⟨rfl, rfl⟩ <;> rfl
/-- A builder stands where what is below stays. -/
theorem builder_below {T e : TypeId} {B b : Nat} {bs : List Value} {w w' : World} (h : Lib.IsBuilderF T e B b bs w) (hb : Below w.heap.size w w') : Lib.IsBuilderF T e B b bs w' := by
  have one : ∀ p, Lib.BuilderAtF T e B b p bs w → Lib.BuilderAtF T e B b p bs w' := by
    rintro p ⟨hB, v, hk, ho, hne⟩
    refine ⟨hB, v, (hb.block b (Array.getElem?_eq_some_iff.1 hk).1).trans hk, ⟨ho.1, ho.2.imp id ?_⟩, hne⟩
    rintro ⟨g, cap, cur, fz, hv, hg, hh, rest⟩
    exact ⟨g, cap, cur, fz, hv, hg, (hb.block g (Array.getElem?_eq_some_iff.1 hh).1).trans hh, rest⟩
  exact h.imp (one _) (one _)
/-- What is written for a character. -/
def qesc (r : Nat) : UInt8 := if r = 34 then 34 else if r = 92 then 92 else if r = 8 then 98 else if r = 9 then 116 else if r = 10 then 110 else if r = 12 then 102 else 114
def qhex (r : Nat) : UInt8 := if r < 10 then UInt8.ofNat (48 + r) else UInt8.ofNat (87 + r)
def qset (r : Nat) : Prop := r = 34 ∨ r = 92 ∨ r = 8 ∨ r = 9 ∨ r = 10 ∨ r = 12 ∨ r = 13
instance (r : Nat) : Decidable (qset r) := by unfold qset; exact inferInstance
def qb (r : Nat) : List UInt8 := if qset r then [92, qesc r] else if r < 32 then [92, 117, 48, 48, UInt8.ofNat (48 + r / 16), qhex (r % 16)] else Lib.encodeRune r
theorem qb_len (r : Nat) : (qb r).length ≤ 6 := by
  unfold qb
  split
  · simp
  · split
    · simp
    · have := (Lib.runeCells_le (r : Int)).2
      rw [Lib.runeCells_length] at this
      omega
/-- What is written for a string's characters from a place on. -/
def quoteL (s : ByteArray) : Nat → Nat → List UInt8
  | 0, _ => []
  | f + 1, pos => if pos < s.size then qb (Utf8.decode s pos).1 ++ quoteL s f (pos + (Utf8.decode s pos).2) else []
theorem quoteL_end (s : ByteArray) (f pos : Nat) (h : ¬ pos < s.size) : quoteL s f pos = [] := by
  cases f with
  | zero => rfl
  | succ f => simp [quoteL, h]
end Go.Proofs.YtjmchpkmhidejaaDoor.Q

end
section
namespace Go.Proofs.YtjmchpkmhidejaaDoor.Q
open Go.RowKit Go.Proofs.YtjmchpkmhidejaaDoorW.PrintWords Go.Proofs.YtjmchpkmhidejaaDoorW.PrintLast Go.Proofs.YtjmchpkmhidejaaDoorW.PrintMore
attribute [local go_sem] max2_int min2_int max_two min_two max_three min_three max_four min_four   
set_option linter.unusedVariables false
set_option linter.unusedSimpArgs false
def jsontext_Quote.f (a0 : ByteArray) : Option ByteArray := if a0.size ≤ 1048576 then some ⟨([34] ++ quoteL a0 a0.size 0 ++ [34]).toArray⟩ else none
theorem q_and : ∀ d : Nat, d < 32 → bits BinOp.and IntKind.i32 (d : Int) 15 = (d : Int) % 16 := by decide +kernel
theorem q_enc1 : ∀ d : Nat, d < 32 → Utf8.encode (bt (⟨#[48, 49]⟩ : ByteArray) ((d : Int) / 16)) = ⟨#[UInt8.ofNat (48 + d / 16)]⟩ := by decide +kernel
theorem q_enc2 : ∀ d : Nat, d < 32 → Utf8.encode (bt (⟨#[48, 49, 50, 51, 52, 53, 54, 55, 56, 57, 97, 98, 99, 100, 101, 102]⟩ : ByteArray) ((d : Int) % 16)) = ⟨#[qhex (d % 16)]⟩ := by decide +kernel
def jsontext_Quote.T11 : Bool × List (List Nat × List Nat) := (true, [([], []), ([0], [0]), ([1], [1]), ([2], [2]), ([3], [3]), ([], []), ([5], [5]), ([6], [6]), ([7], [7]), ([4, 8], [4, 8]), ([9], [9])])
def jsontext_Quote.B11 : List Nat := [0, 1, 3, 7, 15, 0, 32, 96, 224, 511, 1023]
theorem jsontext_Quote.tab11 : rtab .any (opsOf Tryd.f10 11) = jsontext_Quote.T11 := by kernel_rfl
theorem jsontext_Quote.bits11 : waitsOk jsontext_Quote.T11.2 jsontext_Quote.B11 = true := by kernel_rfl
set_option maxHeartbeats 8000000 in
set_option maxRecDepth 1000000 in
theorem jsontext_Quote.calls (a0 : ByteArray) (r : ByteArray) (w : World) (h : jsontext_Quote.f a0 = some r) :
  Calls Tryd.prog 10 #[.string a0] w fun e w' => e = .returned (.string r) ∧ Below w.heap.size w w' := by
 unfold jsontext_Quote.f at h
 by_cases hs : a0.size ≤ 1048576
 case neg => rw [if_neg hs] at h; cases h
 rw [if_pos hs] at h
 obtain rfl := Option.some.inj h
 clear h; go_enter Tryd.func10, Tryd.ntmps10
 go_wp2_with (go_at_call 18; refine (bw_byte w.heap.size w.heap.size [] 34 _ (Lib.IsBuilderF.of (Lib.fresh_isBuilder 47 5 w)) (by simp) (by simp)).mono ?_)
 rintro e w1 ⟨rfl, h1, b1, k1⟩
 have hb1 : Below w.heap.size w w1 := ((Below.refl _ w).alloc (Nat.le_refl _) _).trans b1
 have hs1 := h1.lt
 clear b1 k1; go_wp2
 go_loopw [5, 6] (fun v5 v6 wr => ∃ (pos fuel : Nat) (acc : List UInt8), Lib.IsBuilderF 47 5 w.heap.size w.heap.size (Lib.byteCells acc) wr ∧ wr.heap[w1.heap.size]? = some (.stringIter a0 pos) ∧ Below w.heap.size w wr ∧ acc ++ quoteL a0 fuel pos = [34] ++ quoteL a0 a0.size 0 ∧ a0.size ≤ pos + fuel ∧ acc.length + 6 * fuel ≤ 1 + 6 * a0.size) (fun _ _ wr => a0.size - wr.iterPos w1.heap.size)
 case atStart =>
  refine ⟨0, a0.size, [34], (show Lib.IsBuilderF 47 5 w.heap.size w.heap.size (Lib.byteCells [34]) w1 from Or.inr h1).alloc _, World.iter_heap w1 a0 0, hb1.alloc hb1.size _, rfl, by omega, by simp⟩
 case round =>
  obtain ⟨pos, fuel, acc, hI, hit, hbw, hacc, hfu, hal⟩ := hrel
  have hsz : w1.heap.size < wr.heap.size := (Array.getElem?_eq_some_iff.1 hit).1
  have hw1 := hb1.size
  by_cases hp : pos < a0.size
  ·obtain ⟨d, hd⟩ : ∃ d, (Utf8.decode a0 pos).1 = d := ⟨_, rfl⟩
   have hnx : ∀ ty, (Instr.next (.pointer (some ⟨w1.heap.size, 0, none⟩)) true ty).run Tryd.prog wr = _ := fun ty => Lib.run_next_any_at wr w1.heap.size a0 pos ty hit hp
   have hwd := Lib.decode_width_pos a0 pos hp
   have hd1 := decode_le a0 pos
   rw [hd] at hnx hd1
   have hI2 := hI.iterAt hit (pos + (Utf8.decode a0 pos).2)
   have hit2 := Lib.iterAt_heap wr w1.heap.size a0 pos (pos + (Utf8.decode a0 pos).2) hit
   have hbw2 := Lib.below_iterAt hbw (k := w1.heap.size) hw1 a0 (pos + (Utf8.decode a0 pos).2)
   have hsz2 : w.heap.size ≤ (wr.iterAt w1.heap.size a0 (pos + (Utf8.decode a0 pos).2)).heap.size := by rw [Lib.iterAt_size]; omega
   have hszI : (wr.iterAt w1.heap.size a0 (pos + (Utf8.decode a0 pos).2)).heap.size = wr.heap.size := Lib.iterAt_size _ _ _ _
   obtain ⟨f, rfl⟩ : ∃ f, fuel = f + 1 := ⟨fuel - 1, by omega⟩
   have hq : quoteL a0 (f + 1) pos = qb d ++ quoteL a0 f (pos + (Utf8.decode a0 pos).2) := by simp [quoteL, hp, hd]
   rw [hq, ← List.append_assoc] at hacc
   have hql := qb_len d
   have HACC := Aside0.mk hacc; have HD := Aside0.mk hd; have HQL := Aside0.mk hql; clear hacc hd hql hq; by_cases hset : qset d
   ·have hj : ∃ j : Nat, ((d : Int) = 34 ∧ j = 0) ∨ ((d : Int) = 92 ∧ j = 1) ∨ ((d : Int) = 8 ∧ j = 2) ∨ ((d : Int) = 9 ∧ j = 3) ∨ ((d : Int) = 10 ∧ j = 4) ∨ ((d : Int) = 12 ∧ j = 5) ∨ ((d : Int) = 13 ∧ j = 6) := by
     rcases hset with rfl | rfl | rfl | rfl | rfl | rfl | rfl
     ·exact ⟨0, .inl ⟨rfl, rfl⟩⟩
     ·exact ⟨1, .inr (.inl ⟨rfl, rfl⟩)⟩
     ·exact ⟨2, .inr (.inr (.inl ⟨rfl, rfl⟩))⟩
     ·exact ⟨3, .inr (.inr (.inr (.inl ⟨rfl, rfl⟩)))⟩
     ·exact ⟨4, .inr (.inr (.inr (.inr (.inl ⟨rfl, rfl⟩))))⟩
     ·exact ⟨5, .inr (.inr (.inr (.inr (.inr (.inl ⟨rfl, rfl⟩)))))⟩
     ·exact ⟨6, .inr (.inr (.inr (.inr (.inr (.inr ⟨rfl, rfl⟩)))))⟩
    obtain ⟨j, hj⟩ := hj
    have hin := iq_in (d : Int) (wr.iterAt w1.heap.size a0 (pos + (Utf8.decode a0 pos).2)) j hj
    have t128 : decide ((d : Int) < 128) = true := decide_eq_true (by omega)
    have tj : decide ((0 : Int) ≤ (j : Int)) = true := decide_eq_true (by omega)
    have pj : (0 ≤ (j : Int)) = True := eq_true (by omega)
    have qj : ((j : Int) < 7) = True := eq_true (by omega)
    have ej : ∀ h : j < (⟨#[34, 92, 98, 116, 110, 102, 114]⟩ : ByteArray).size, ((⟨#[34, 92, 98, 116, 110, 102, 114]⟩ : ByteArray)[j]'h) = qesc d := by
     intro h
     rcases hj with ⟨h2, rfl⟩ | ⟨h2, rfl⟩ | ⟨h2, rfl⟩ | ⟨h2, rfl⟩ | ⟨h2, rfl⟩ | ⟨h2, rfl⟩ | ⟨h2, rfl⟩
     ·obtain rfl : d = 34 := by omega
      rfl
     ·obtain rfl : d = 92 := by omega
      rfl
     ·obtain rfl : d = 8 := by omega
      rfl
     ·obtain rfl : d = 9 := by omega
      rfl
     ·obtain rfl : d = 10 := by omega
      rfl
     ·obtain rfl : d = 12 := by omega
      rfl
     ·obtain rfl : d = 13 := by omega
      rfl
    have HQ := Aside0.mk (show qb d = [92, qesc d] by unfold qb; rw [if_pos hset])
    clear hset hj; generalize qesc d = x at ej HQ
    go_wp2_with (go_at_call 19; refine hin.mono ?_; rintro e W0 ⟨rfl, hw0⟩; rw [hw0])
    refine (bw_byte w.heap.size w.heap.size _ 92 _ hI2 (by rw [Lib.byteCells_length]; omega) hsz2).mono ?_
    rintro e W1 ⟨rfl, h1, b1, k1⟩
    have hI3 : Lib.IsBuilderF 47 5 w.heap.size w.heap.size (Lib.byteCells (acc ++ [92])) W1 := by
     rw [Lib.byteCells_append]; exact Or.inr h1
    have hit3 := k1.iter hit2 (by omega)
    have hb3 := hbw2.trans b1
    have hs3 := b1.size
    go_wp2_with (go_at_call 18; refine (bw_byte w.heap.size w.heap.size _ (x.toNat : Int) _ hI3 (by rw [Lib.byteCells_length, List.length_append]; simp; omega) (by omega)).mono ?_)
    rintro e W2 ⟨rfl, h4, b4, k4⟩
    go_wp2
    go_roundw
    case rel =>
     have hl := HQL.out
     rw [HQ.out] at hl
     refine ⟨pos + (Utf8.decode a0 pos).2, f, acc ++ [92, x], ?_, k4.iter hit3 (by omega), hb3.trans b4, ?_, by omega, by rw [List.length_append]; simp; omega⟩
     ·rw [show acc ++ [92, x] = (acc ++ [92]) ++ [x] by simp, Lib.byteCells_append]; exact Or.inr h4
     ·rw [← HQ.out]; exact HACC.out
    case measure =>
     simp only [World.iterPos, k4.iter hit3 (by omega), hit]
     omega
   ·have hout : Calls Tryd.prog 19 #[.string ⟨#[34, 92, 8, 9, 10, 12, 13]⟩, .int .i32 (d : Int)] (wr.iterAt w1.heap.size a0 (pos + (Utf8.decode a0 pos).2)) _ := iq_out (d : Int) _ (by omega) (by unfold qset at hset; omega)
    by_cases h32 : d < 32
    ·have t32 : decide ((d : Int) < 32) = true := decide_eq_true (by omega)
     have HQ := Aside0.mk (show qb d = [92, 117, 48, 48, UInt8.ofNat (48 + d / 16), qhex (d % 16)] by unfold qb; rw [if_neg hset, if_pos h32])
     clear hset; go_wp2_with (go_at_call 19; refine hout.mono ?_; rintro e W0 ⟨rfl, hb0⟩)
     refine start_ (n := 11) (S := fun _ => True) (ds := []) (bz 11 0) (by kernel_rfl) rfl rfl trivial (fun hHeld => ?_)
     refine with_tabW jsontext_Quote.tab11 jsontext_Quote.bits11 (fun HT_ HW_ => ?_)
     refine pu 0 (some 27) (bz 11 1) HT_ rfl rfl ?_; refine pu 1 (some 28) (bz 11 3) HT_ rfl rfl ?_; refine pu 5 (some 32) (bz 11 35) HT_ rfl rfl ?_; have e6 := q_and d h32
     refine pu 6 (some 33) (bz 11 99) HT_ rfl rfl ?_; have p2 : (0 ≤ (d : Int) / 16) = True := eq_true (by omega)
     have q2 : ((d : Int) / 16 < 2) = True := eq_true (by omega)
     have b2 := bt_at (⟨#[48, 49]⟩ : ByteArray) ((d : Int) / 16)
     have p7 : (0 ≤ (d : Int) % 16) = True := eq_true (by omega)
     have q7 : ((d : Int) % 16 < 16) = True := eq_true (by omega)
     have b7 := bt_at (⟨#[48, 49, 50, 51, 52, 53, 54, 55, 56, 57, 97, 98, 99, 100, 101, 102]⟩ : ByteArray) ((d : Int) % 16)
     refine pu 2 (some 29) (bz 11 103) HT_ rfl rfl ?_; have e3 := q_enc1 d h32
     have e8 := q_enc2 d h32
     generalize UInt8.ofNat (48 + d / 16) = x3 at e3 HQ
     generalize qhex (d % 16) = x8 at e8 HQ
     refine pu 3 (some 30) (bz 11 111) HT_ rfl rfl ?_; refine pu 7 (some 34) (bz 11 239) HT_ rfl rfl ?_; refine pu 8 (some 35) (bz 11 495) HT_ rfl rfl ?_; refine pu 4 (some 31) (bz 11 511) HT_ rfl rfl ?_; refine pu 9 (some 36) (bz 11 1023) HT_ rfl rfl ?_; generalize hZ : ((⟨#[92, 117, 48, 48]⟩ : ByteArray) ++ ⟨#[x3]⟩) ++ ⟨#[x8]⟩ = Z
     have hstr : Lib.strCells Z = Lib.byteCells [92, 117, 48, 48, x3, x8] := by rw [← hZ]; simp [Lib.strCells, Lib.byteCells, ByteArray.data_append]
     have hZ6 : Z.size = 6 := by rw [← hZ, ByteArray.size_append, ByteArray.size_append]; rfl
     have hI3 := builder_below hI2 hb0
     have hit3 := (hb0.block _ (by rw [hszI]; exact hsz)).trans hit2
     have hsz3 := hb0.size
     refine one_ (i := 10) (N := some 37) (bz 11 2047) rfl rfl (one_of HT_.out (by kernel_rfl)) (by decide) (fun K hK => ?_)
     have hsz4 : w.heap.size ≤ W0.drew.heap.size := by show w.heap.size ≤ W0.heap.size; omega
     refine goes_ Tryd.func20 (by kernel_rfl) rfl #[.pointer (some ⟨w.heap.size, 0, none⟩), .string Z] (by rfl) rfl rfl (by (try simp only [List.map_toArray, List.map_cons, List.map_nil]); rfl) ?_
     refine (bw_str w.heap.size w.heap.size (Lib.byteCells acc) Z W0.drew (hI3.imp (fun x => x.drew) (fun x => x.drew)) (by rw [Lib.byteCells_length, hZ6]; omega) hsz4).mono ?_
     rintro e W1 ⟨rfl, h1, b1, k1⟩
     refine ⟨_, rfl, ?_⟩
     refine hK _ _ trivial (fun _ => ?_)
     clear hK K; refine norm_ (a' := ?_) ?_ ?_
     rotate_left
     ·show Act.put _ (some 37) _ = _
      simp only [Act.put, List.setIfInBounds_toArray, List.set_cons_zero, List.set_cons_succ, i64_w, i32_w]
      rfl
     refine done_ (done_of HT_.out (by kernel_rfl)) ?_
     try go_wp2
     go_roundw
     case rel =>
      have hl := HQL.out
      rw [HQ.out] at hl
      refine ⟨pos + (Utf8.decode a0 pos).2, f, acc ++ [92, 117, 48, 48, x3, x8], ?_, k1.iter hit3 (by omega), (hbw2.trans (hb0.mono hsz2)).trans ((Below.refl w.heap.size W0).drew.trans b1), ?_, by omega, by rw [List.length_append]; simp; omega⟩
      ·rw [Lib.byteCells_append, ← hstr]; exact Or.inr h1
      ·rw [← HQ.out]; exact HACC.out
     case measure =>
      simp only [World.iterPos, k1.iter hit3 (by omega), hit]
      omega
    ·have t32 : decide ((d : Int) < 32) = false := decide_eq_false (by omega)
     have HQ := Aside0.mk (show qb d = Lib.encodeRune d by unfold qb; rw [if_neg hset, if_neg h32])
     clear hset; go_wp2_with (go_at_call 19; refine hout.mono ?_; rintro e W0 ⟨rfl, hb0⟩)
     have hI3 := builder_below hI2 hb0
     have hit3 := (hb0.block _ (by rw [hszI]; exact hsz)).trans hit2
     have hsz3 := hb0.size
     refine (bw_rune w.heap.size w.heap.size _ (d : Int) (by omega) (by omega) _ hI3 (by rw [Lib.byteCells_length]; omega) (by omega)).mono ?_
     rintro e W1 ⟨rfl, h1, b1, k1⟩
     go_wp2
     go_roundw
     case rel =>
      have hl := HQL.out
      rw [HQ.out] at hl
      refine ⟨pos + (Utf8.decode a0 pos).2, f, acc ++ Lib.encodeRune d, ?_, k1.iter hit3 (by omega), (hbw2.trans (hb0.mono hsz2)).trans b1, ?_, by omega, by rw [List.length_append]; omega⟩
      ·rw [Lib.byteCells_append, Lib.byteCells_encodeRune]; exact Or.inr h1
      ·rw [← HQ.out]; exact HACC.out
     case measure =>
      simp only [World.iterPos, k1.iter hit3 (by omega), hit]
      omega
  ·have hnx : ∀ ty, (Instr.next (.pointer (some ⟨w1.heap.size, 0, none⟩)) true ty).run Tryd.prog wr = _ := fun ty => Lib.run_next_end_at wr w1.heap.size a0 pos ty hit hp
   rw [quoteL_end a0 fuel pos hp, List.append_nil] at hacc
   subst hacc; go_wp2_with (go_at_call 18; refine (bw_byte w.heap.size w.heap.size _ 34 _ hI (by rw [Lib.byteCells_length]; omega) (by omega)).mono ?_)
   rintro e W1 ⟨rfl, h2, b2, k2⟩
   have h3 : Lib.IsBuilderF 47 5 w.heap.size w.heap.size (Lib.byteCells ([34] ++ quoteL a0 a0.size 0 ++ [34])) W1 := by
    rw [Lib.byteCells_append]; exact Or.inr h2
   go_wp2_with (go_at_call 22; refine (Tryd.Builder_String_any_k w.heap.size w.heap.size _ _ h3 (by have := b2.size; omega)).mono ?_)
   rintro e W2 ⟨rfl, _, b3, _⟩
   go_wp2
   go_ret
   exact ⟨rfl, (hbw.trans b2).trans b3⟩
mutual
def glossatorref01_Next.j0 : Nat → ByteArray → Int → Bool → Option (Int × Int × Bool)
 | 0, _, _, _ => none
 | k + 1, x0, x1, x20 => if x20 = true then (some (0, 0, false)) else (if 0 ≤ x1 then (if x1 < (x0.size : Int) then (if (wrap64 (bt x0 x1)) < 128 then (some (wrap32 (wrap64 (bt x0 x1)), 1, true)) else (if (wrap64 (bt x0 x1)) ≥ 192 then (glossatorref01_Next.j1 k x0 x1 (wrap64 (bt x0 x1)) (decide ((wrap64 (bt x0 x1)) < 224))) else (glossatorref01_Next.j1 k x0 x1 (wrap64 (bt x0 x1)) false))) else (none)) else (none))
def glossatorref01_Next.j3 : Nat → ByteArray → Int → Int → Int → Option (Int × Int × Bool)
 | 0, _, _, _, _ => none
 | k + 1, x0, x1, x8, x9 => if (wrap64 (x1 + x8)) > (x0.size : Int) then (some (0, 0, false)) else (glossatorref01_Next.l0 k x0 x1 x8 x9 1)
def glossatorref01_Next.l0 : Nat → ByteArray → Int → Int → Int → Int → Option (Int × Int × Bool)
 | 0, _, _, _, _, _ => none
 | k + 1, x0, x1, x8, x9, x10 => if x10 < x8 then (if 0 ≤ (wrap64 (x1 + x10)) then (if (wrap64 (x1 + x10)) < (x0.size : Int) then (if (wrap64 (bt x0 (wrap64 (x1 + x10)))) < 128 then (some (0, 0, false)) else (if (wrap64 (bt x0 (wrap64 (x1 + x10)))) ≥ 192 then (some (0, 0, false)) else (glossatorref01_Next.l0 k x0 x1 x8 (wrap64 ((wrap64 ((wrap64 (x9 * 64)) + (wrap64 (bt x0 (wrap64 (x1 + x10)))))) - 128)) (wrap64 (x10 + 1))))) else (none)) else (none)) else ((some (([0, 0, 128, 2048, 65536] : List Int) : List Int)).bind fun y101 => (if 0 ≤ x8 then (if x8 < (y101.length : Int) then (if x9 < (rd y101 x8) then (some (0, 0, false)) else (if x9 > 1114111 then (some (0, 0, false)) else (if x9 ≥ 55296 then (if x9 < 57344 then (some (0, 0, false)) else (some (wrap32 (x9), x8, true))) else (some (wrap32 (x9), x8, true))))) else (none)) else (none)))
def glossatorref01_Next.j1 : Nat → ByteArray → Int → Int → Bool → Option (Int × Int × Bool)
 | 0, _, _, _, _ => none
 | k + 1, x0, x1, x7, x31 => if x31 = true then (glossatorref01_Next.j3 k x0 x1 2 (wrap64 (x7 - 192))) else (if x7 ≥ 224 then (glossatorref01_Next.j2 k x0 x1 x7 (decide (x7 < 240))) else (glossatorref01_Next.j2 k x0 x1 x7 false))
def glossatorref01_Next.j2 : Nat → ByteArray → Int → Int → Bool → Option (Int × Int × Bool)
 | 0, _, _, _, _ => none
 | k + 1, x0, x1, x7, x40 => if x40 = true then (glossatorref01_Next.j3 k x0 x1 3 (wrap64 (x7 - 224))) else (if x7 ≥ 240 then (if x7 < 248 then (glossatorref01_Next.j3 k x0 x1 4 (wrap64 (x7 - 240))) else (some (0, 0, false))) else (some (0, 0, false)))
end
def glossatorref01_Next.f (k : Nat) (a0 : ByteArray) (a1 : Int) : Option (Int × Int × Bool) := if a1 < 0 then (glossatorref01_Next.j0 k a0 a1 true) else (glossatorref01_Next.j0 k a0 a1 (decide (a1 ≥ (a0.size : Int))))
theorem glossatorref01_Next.mono_l : ∀ k, (∀ y0 y1 y2, LeO (glossatorref01_Next.j0 k y0 y1 y2) (glossatorref01_Next.j0 (k + 1) y0 y1 y2)) ∧ (∀ y0 y1 y2 y3, LeO (glossatorref01_Next.j3 k y0 y1 y2 y3) (glossatorref01_Next.j3 (k + 1) y0 y1 y2 y3)) ∧ (∀ y0 y1 y2 y3 y4, LeO (glossatorref01_Next.l0 k y0 y1 y2 y3 y4) (glossatorref01_Next.l0 (k + 1) y0 y1 y2 y3 y4)) ∧ (∀ y0 y1 y2 y3, LeO (glossatorref01_Next.j1 k y0 y1 y2 y3) (glossatorref01_Next.j1 (k + 1) y0 y1 y2 y3)) ∧ (∀ y0 y1 y2 y3, LeO (glossatorref01_Next.j2 k y0 y1 y2 y3) (glossatorref01_Next.j2 (k + 1) y0 y1 y2 y3))
 | 0 => ⟨fun _ _ _ r h => by simp [glossatorref01_Next.j0] at h, fun _ _ _ _ r h => by simp [glossatorref01_Next.j3] at h, fun _ _ _ _ _ r h => by simp [glossatorref01_Next.l0] at h, fun _ _ _ _ r h => by simp [glossatorref01_Next.j1] at h, fun _ _ _ _ r h => by simp [glossatorref01_Next.j2] at h⟩
 | k + 1 => by
  obtain ⟨ih0, ih1, ih2, ih3, ih4⟩ := glossatorref01_Next.mono_l k
  refine ⟨?_, ?_, ?_, ?_, ?_⟩
  ·intro y0 y1 y2
   unfold glossatorref01_Next.j0
   repeat' first
   | (with_reducible exact ih0 _ _ _)
   | (with_reducible exact ih1 _ _ _ _)
   | (with_reducible exact ih2 _ _ _ _ _)
   | (with_reducible exact ih3 _ _ _ _)
   | (with_reducible exact ih4 _ _ _ _)
   | (with_reducible exact LeO.refl _)
   | (with_reducible exact LeO.none _)
   | (with_reducible refine LeO.ite ?_ ?_)
   | (with_reducible refine LeO.bind ?_ (fun _ => ?_))
   | exact ih0 _ _ _
   | exact ih1 _ _ _ _
   | exact ih2 _ _ _ _ _
   | exact ih3 _ _ _ _
   | exact ih4 _ _ _ _
   | exact LeO.none _
   | refine LeO.ite ?_ ?_
   | refine LeO.bind ?_ (fun _ => ?_)
  ·intro y0 y1 y2 y3
   unfold glossatorref01_Next.j3
   repeat' first
   | (with_reducible exact ih0 _ _ _)
   | (with_reducible exact ih1 _ _ _ _)
   | (with_reducible exact ih2 _ _ _ _ _)
   | (with_reducible exact ih3 _ _ _ _)
   | (with_reducible exact ih4 _ _ _ _)
   | (with_reducible exact LeO.refl _)
   | (with_reducible exact LeO.none _)
   | (with_reducible refine LeO.ite ?_ ?_)
   | (with_reducible refine LeO.bind ?_ (fun _ => ?_))
   | exact ih0 _ _ _
   | exact ih1 _ _ _ _
   | exact ih2 _ _ _ _ _
   | exact ih3 _ _ _ _
   | exact ih4 _ _ _ _
   | exact LeO.none _
   | refine LeO.ite ?_ ?_
   | refine LeO.bind ?_ (fun _ => ?_)
  ·intro y0 y1 y2 y3 y4
   unfold glossatorref01_Next.l0
   repeat' first
   | (with_reducible exact ih0 _ _ _)
   | (with_reducible exact ih1 _ _ _ _)
   | (with_reducible exact ih2 _ _ _ _ _)
   | (with_reducible exact ih3 _ _ _ _)
   | (with_reducible exact ih4 _ _ _ _)
   | (with_reducible exact LeO.refl _)
   | (with_reducible exact LeO.none _)
   | (with_reducible refine LeO.ite ?_ ?_)
   | (with_reducible refine LeO.bind ?_ (fun _ => ?_))
   | exact ih0 _ _ _
   | exact ih1 _ _ _ _
   | exact ih2 _ _ _ _ _
   | exact ih3 _ _ _ _
   | exact ih4 _ _ _ _
   | exact LeO.none _
   | refine LeO.ite ?_ ?_
   | refine LeO.bind ?_ (fun _ => ?_)
  ·intro y0 y1 y2 y3
   unfold glossatorref01_Next.j1
   repeat' first
   | (with_reducible exact ih0 _ _ _)
   | (with_reducible exact ih1 _ _ _ _)
   | (with_reducible exact ih2 _ _ _ _ _)
   | (with_reducible exact ih3 _ _ _ _)
   | (with_reducible exact ih4 _ _ _ _)
   | (with_reducible exact LeO.refl _)
   | (with_reducible exact LeO.none _)
   | (with_reducible refine LeO.ite ?_ ?_)
   | (with_reducible refine LeO.bind ?_ (fun _ => ?_))
   | exact ih0 _ _ _
   | exact ih1 _ _ _ _
   | exact ih2 _ _ _ _ _
   | exact ih3 _ _ _ _
   | exact ih4 _ _ _ _
   | exact LeO.none _
   | refine LeO.ite ?_ ?_
   | refine LeO.bind ?_ (fun _ => ?_)
  ·intro y0 y1 y2 y3
   unfold glossatorref01_Next.j2
   repeat' first
   | (with_reducible exact ih0 _ _ _)
   | (with_reducible exact ih1 _ _ _ _)
   | (with_reducible exact ih2 _ _ _ _ _)
   | (with_reducible exact ih3 _ _ _ _)
   | (with_reducible exact ih4 _ _ _ _)
   | (with_reducible exact LeO.refl _)
   | (with_reducible exact LeO.none _)
   | (with_reducible refine LeO.ite ?_ ?_)
   | (with_reducible refine LeO.bind ?_ (fun _ => ?_))
   | exact ih0 _ _ _
   | exact ih1 _ _ _ _
   | exact ih2 _ _ _ _ _
   | exact ih3 _ _ _ _
   | exact ih4 _ _ _ _
   | exact LeO.none _
   | refine LeO.ite ?_ ?_
   | refine LeO.bind ?_ (fun _ => ?_)
theorem glossatorref01_Next.mono : ∀ a0 a1 k, LeO (glossatorref01_Next.f k a0 a1) (glossatorref01_Next.f (k + 1) a0 a1) := by
 intro a0 a1 k
 obtain ⟨ih0, ih1, ih2, ih3, ih4⟩ := glossatorref01_Next.mono_l k
 unfold glossatorref01_Next.f
 repeat' first
   | (with_reducible exact ih0 _ _ _)
   | (with_reducible exact ih1 _ _ _ _)
   | (with_reducible exact ih2 _ _ _ _ _)
   | (with_reducible exact ih3 _ _ _ _)
   | (with_reducible exact ih4 _ _ _ _)
   | (with_reducible exact LeO.refl _)
   | (with_reducible exact LeO.none _)
   | (with_reducible refine LeO.ite ?_ ?_)
   | (with_reducible refine LeO.bind ?_ (fun _ => ?_))
   | exact ih0 _ _ _
   | exact ih1 _ _ _ _
   | exact ih2 _ _ _ _ _
   | exact ih3 _ _ _ _
   | exact ih4 _ _ _ _
   | exact LeO.none _
   | refine LeO.ite ?_ ?_
   | refine LeO.bind ?_ (fun _ => ?_)
set_option maxHeartbeats 8000000 in
set_option maxRecDepth 100000 in
theorem glossatorref01_Next.calls (k : Nat) (a0 : ByteArray) (a1 : Int) (r1 : Int) (r2 : Int) (r3 : Bool) (w : World) (h : glossatorref01_Next.f k a0 a1 = some (r1, r2, r3)) :
  Calls Tryd.prog 32 #[.string a0, .int .i64 a1] w fun e w' => e = .returned (.tuple #[.int .i32 r1, .int .i64 r2, .bool r3]) ∧ Below w.heap.size w w' := by
 have HB := Aside0.mk (Below.refl w.heap.size w)
 have H : (if a1 < 0 then (glossatorref01_Next.j0 k a0 a1 true) else (glossatorref01_Next.j0 k a0 a1 (decide (a1 ≥ (a0.size : Int))))) = some (r1, r2, r3) := h
 clear h; have HC3 := Aside0.mk H; clear H; go_enter Tryd.func32, Tryd.ntmps32
 go_upto_region 1 with (fail)
 go_cut [20] (fun v20 wc => ∃ (kq : Nat) (x20_2 : Bool), v20 = .bool x20_2 ∧ Aside0 (glossatorref01_Next.j0 kq a0 a1 x20_2 = some (r1, r2, r3)) ∧ Aside0 (kq ≤ k) ∧ Aside0 (Below w.heap.size w wc))
 case first =>
  have H := HC3.out
  clear HC3; by_cases c4 : a1 < 0
  ·rw [if_pos c4] at H; have c4b0 : decide (a1 < 0) = true := decide_eq_true c4; clear c4; (first | rw [c4b0] | rw [c4b1] | (simp only [i64_w, i32_w]; rw [c4b0]) | skip)
   have H' := Aside0.mk H; clear H; go_wp2
   go_meet
   case rel => exact ⟨_, (true), (by first | rfl | (simp; done) | (simp [*]; done) | (simp; exact xEmpty_ne _) | (simp [*]; exact xEmpty_ne _)), H', ⟨by first | omega | exact Nat.le_refl _⟩, ⟨bl HB⟩⟩
  ·rw [if_neg c4] at H; have c4b0 : decide (a1 < 0) = false := decide_eq_false c4; clear c4; (first | rw [c4b0] | rw [c4b1] | (simp only [i64_w, i32_w]; rw [c4b0]) | skip)
   have H' := Aside0.mk H; clear H; go_wp2
   go_meet
   case rel => exact ⟨_, (decide (a1 ≥ (a0.size : Int))), (by first | rfl | (simp; done) | (simp [*]; done) | (simp; exact xEmpty_ne _) | (simp [*]; exact xEmpty_ne _)), H', ⟨by first | omega | exact Nat.le_refl _⟩, ⟨bl HB⟩⟩
 case rest =>
  clear HC3; (try clear p2); (try clear c3); (try clear c4); (try clear c4b0); obtain ⟨kq, x20_2, rfl, HA, HJ2, HB⟩ := hcut
  cases kq with
  | zero => exact absurd HA.out (by simp [glossatorref01_Next.j0])
  | succ kj2 =>
   have H := HA.out
   clear HA; simp only [glossatorref01_Next.j0] at H
   by_cases c5 : x20_2 = true
   ·subst c5; have H1 : (some (0, 0, false)) = some (r1, r2, r3) := by rw [if_pos rfl] at H; exact H
    clear H; have H := H1
    clear H1; simp only [Option.some.injEq, Prod.mk.injEq] at H
    obtain ⟨rfl, rfl, rfl⟩ := H
    go_wp2
    go_ret3
    exact ⟨by first | rfl | (simp [errW_none, errW_some] <;> rfl) | (simp [*, errW_none, errW_some] <;> rfl), bl HB⟩
   ·replace c5 := Bool.eq_false_iff.mpr c5
    subst c5; have H1 : (if 0 ≤ a1 then (if a1 < (a0.size : Int) then (if (wrap64 (bt a0 a1)) < 128 then (some (wrap32 (wrap64 (bt a0 a1)), 1, true)) else (if (wrap64 (bt a0 a1)) ≥ 192 then (glossatorref01_Next.j1 kj2 a0 a1 (wrap64 (bt a0 a1)) (decide ((wrap64 (bt a0 a1)) < 224))) else (glossatorref01_Next.j1 kj2 a0 a1 (wrap64 (bt a0 a1)) false))) else (none)) else (none)) = some (r1, r2, r3) := by rw [if_neg (show ¬ (false = true) by decide)] at H; exact H
    clear H; have H := H1
    clear H1; by_cases c6 : 0 ≤ a1
    rotate_left
    ·rw [if_neg c6] at H; exact absurd H (by simp)
    rw [if_pos c6] at H; have c6b0 : decide (0 ≤ a1) = true := decide_eq_true c6; clear c6; by_cases c7 : a1 < (a0.size : Int)
    rotate_left
    ·rw [if_neg c7] at H; exact absurd H (by simp)
    rw [if_pos c7] at H; have c7b0 : decide (a1 < (a0.size : Int)) = true := decide_eq_true c7; clear c7; have HC9 := Aside0.mk H; clear H; have p8 : 0 ≤ (a1 : Int) := of_decide_eq_true (by first | (with_reducible assumption) | assumption)
    have q8 : a1 < (a0.size : Int) := of_decide_eq_true (by first | (with_reducible assumption) | assumption)
    have hx8 := bt_at a0 a1
    replace p8 := eq_true p8; replace q8 := eq_true q8; go_upto_block 0 with (fail)
    go_cut [8, 9] (fun v8 v9 wc => ∃ (kq : Nat) (x8_8 : Int) (x9_8 : Int), v8 = .int .i64 x8_8 ∧ v9 = .int .i64 x9_8 ∧ Aside0 (glossatorref01_Next.j3 kq a0 a1 x8_8 x9_8 = some (r1, r2, r3)) ∧ Aside0 (kq ≤ kj2) ∧ Aside0 (Below w.heap.size w wc))
    case first =>
     have H := HC9.out
     clear HC9; by_cases c10 : (wrap64 (bt a0 a1)) < 128
     ·rw [if_pos c10] at H; have c10b0 : decide ((wrap64 (bt a0 a1)) < 128) = true := decide_eq_true c10; clear c10; (first | rw [c10b0] | rw [c10b1] | (simp only [i64_w, i32_w]; rw [c10b0]) | skip)
      simp only [Option.some.injEq, Prod.mk.injEq] at H
      obtain ⟨rfl, rfl, rfl⟩ := H
      go_wp2
      go_ret3
      exact ⟨by first | rfl | (simp [errW_none, errW_some] <;> rfl) | (simp [*, errW_none, errW_some] <;> rfl), bl HB⟩
     ·rw [if_neg c10] at H; have c10b0 : decide ((wrap64 (bt a0 a1)) < 128) = false := decide_eq_false c10; clear c10; (first | rw [c10b0] | rw [c10b1] | (simp only [i64_w, i32_w]; rw [c10b0]) | skip)
      have HC11 := Aside0.mk H; clear H; go_upto_region 8 with (fail)
      go_cut [31] (fun v31 wc => ∃ (kq : Nat) (x31_10 : Bool), v31 = .bool x31_10 ∧ Aside0 (glossatorref01_Next.j1 kq a0 a1 (wrap64 (bt a0 a1)) x31_10 = some (r1, r2, r3)) ∧ Aside0 (kq ≤ kj2) ∧ Aside0 (Below w.heap.size w wc))
      case first =>
       have H := HC11.out
       clear HC11; by_cases c12 : (wrap64 (bt a0 a1)) ≥ 192
       ·rw [if_pos c12] at H; have c12b0 : decide (192 ≤ (wrap64 (bt a0 a1))) = true := decide_eq_true c12; clear c12; (first | rw [c12b0] | rw [c12b1] | (simp only [i64_w, i32_w]; rw [c12b0]) | skip)
        have H' := Aside0.mk H; clear H; go_wp2
        go_meet
        case rel => exact ⟨_, (decide ((wrap64 (bt a0 a1)) < 224)), (by first | rfl | (simp; done) | (simp [*]; done) | (simp; exact xEmpty_ne _) | (simp [*]; exact xEmpty_ne _)), H', ⟨by have := HJ2.out; first | omega | exact Nat.le_refl _⟩, ⟨bl HB⟩⟩
       ·rw [if_neg c12] at H; have c12b0 : decide (192 ≤ (wrap64 (bt a0 a1))) = false := decide_eq_false c12; clear c12; (first | rw [c12b0] | rw [c12b1] | (simp only [i64_w, i32_w]; rw [c12b0]) | skip)
        have H' := Aside0.mk H; clear H; go_wp2
        go_meet
        case rel => exact ⟨_, (false), (by first | rfl | (simp; done) | (simp [*]; done) | (simp; exact xEmpty_ne _) | (simp [*]; exact xEmpty_ne _)), H', ⟨by have := HJ2.out; first | omega | exact Nat.le_refl _⟩, ⟨bl HB⟩⟩
      case rest =>
       clear HC11; (try clear c1); (try clear p2); (try clear c3); (try clear p3); (try clear c4); (try clear c4b0); (try clear c5); (try clear c6); (try clear c6b0); (try clear p6); (try clear c7); (try clear c7b0); (try clear p8); (try clear q8); (try clear hx8); (try clear c10); (try clear c10b0); (try clear c12); (try clear c12b0); (try clear p2); (try clear p8); (try clear q8); obtain ⟨kq, x31_10, rfl, HA, HJ10, HB⟩ := hcut
       cases kq with
       | zero => exact absurd HA.out (by simp [glossatorref01_Next.j1])
       | succ kj10 =>
        have H := HA.out
        clear HA; simp only [glossatorref01_Next.j1] at H
        by_cases c13 : x31_10 = true
        ·subst c13; have H1 : (glossatorref01_Next.j3 kj10 a0 a1 2 (wrap64 ((wrap64 (bt a0 a1)) - 192))) = some (r1, r2, r3) := by rw [if_pos rfl] at H; exact H
         clear H; have H := H1
         clear H1; have H' := Aside0.mk H; clear H; go_wp2
         go_meet
         case rel => exact ⟨_, (2), (wrap64 ((wrap64 (bt a0 a1)) - 192)), (by first | rfl | (simp; done) | (simp [*]; done) | (simp; exact xEmpty_ne _) | (simp [*]; exact xEmpty_ne _)), (by first | rfl | (simp; done) | (simp [*]; done) | (simp; exact xEmpty_ne _) | (simp [*]; exact xEmpty_ne _)), H', ⟨by have := HJ2.out; have := HJ10.out; first | omega | exact Nat.le_refl _⟩, ⟨bl HB⟩⟩
        ·replace c13 := Bool.eq_false_iff.mpr c13
         subst c13; have H1 : (if (wrap64 (bt a0 a1)) ≥ 224 then (glossatorref01_Next.j2 kj10 a0 a1 (wrap64 (bt a0 a1)) (decide ((wrap64 (bt a0 a1)) < 240))) else (glossatorref01_Next.j2 kj10 a0 a1 (wrap64 (bt a0 a1)) false)) = some (r1, r2, r3) := by rw [if_neg (show ¬ (false = true) by decide)] at H; exact H
         clear H; have H := H1
         clear H1; have HC14 := Aside0.mk H; clear H; go_upto_region 10 with (fail)
         go_cut [40] (fun v40 wc => ∃ (kq : Nat) (x40_13 : Bool), v40 = .bool x40_13 ∧ Aside0 (glossatorref01_Next.j2 kq a0 a1 (wrap64 (bt a0 a1)) x40_13 = some (r1, r2, r3)) ∧ Aside0 (kq ≤ kj10) ∧ Aside0 (Below w.heap.size w wc))
         case first =>
          have H := HC14.out
          clear HC14; by_cases c15 : (wrap64 (bt a0 a1)) ≥ 224
          ·rw [if_pos c15] at H; have c15b0 : decide (224 ≤ (wrap64 (bt a0 a1))) = true := decide_eq_true c15; clear c15; (first | rw [c15b0] | rw [c15b1] | (simp only [i64_w, i32_w]; rw [c15b0]) | skip)
           have H' := Aside0.mk H; clear H; go_wp2
           go_meet
           case rel => exact ⟨_, (decide ((wrap64 (bt a0 a1)) < 240)), (by first | rfl | (simp; done) | (simp [*]; done) | (simp; exact xEmpty_ne _) | (simp [*]; exact xEmpty_ne _)), H', ⟨by have := HJ2.out; have := HJ10.out; first | omega | exact Nat.le_refl _⟩, ⟨bl HB⟩⟩
          ·rw [if_neg c15] at H; have c15b0 : decide (224 ≤ (wrap64 (bt a0 a1))) = false := decide_eq_false c15; clear c15; (first | rw [c15b0] | rw [c15b1] | (simp only [i64_w, i32_w]; rw [c15b0]) | skip)
           have H' := Aside0.mk H; clear H; go_wp2
           go_meet
           case rel => exact ⟨_, (false), (by first | rfl | (simp; done) | (simp [*]; done) | (simp; exact xEmpty_ne _) | (simp [*]; exact xEmpty_ne _)), H', ⟨by have := HJ2.out; have := HJ10.out; first | omega | exact Nat.le_refl _⟩, ⟨bl HB⟩⟩
         case rest =>
          clear HC14; (try clear c1); (try clear p2); (try clear c3); (try clear p3); (try clear c4); (try clear c4b0); (try clear c5); (try clear c6); (try clear c6b0); (try clear p6); (try clear c7); (try clear c7b0); (try clear p8); (try clear q8); (try clear hx8); (try clear c10); (try clear c10b0); (try clear c12); (try clear c12b0); (try clear c13); (try clear c15); (try clear c15b0); (try clear p2); (try clear p3); (try clear p6); (try clear p8); (try clear q8); obtain ⟨kq, x40_13, rfl, HA, HJ13, HB⟩ := hcut
          cases kq with
          | zero => exact absurd HA.out (by simp [glossatorref01_Next.j2])
          | succ kj13 =>
           have H := HA.out
           clear HA; simp only [glossatorref01_Next.j2] at H
           by_cases c16 : x40_13 = true
           ·subst c16; have H1 : (glossatorref01_Next.j3 kj13 a0 a1 3 (wrap64 ((wrap64 (bt a0 a1)) - 224))) = some (r1, r2, r3) := by rw [if_pos rfl] at H; exact H
            clear H; have H := H1
            clear H1; have H' := Aside0.mk H; clear H; go_wp2
            go_meet
            case rel => exact ⟨_, (3), (wrap64 ((wrap64 (bt a0 a1)) - 224)), (by first | rfl | (simp; done) | (simp [*]; done) | (simp; exact xEmpty_ne _) | (simp [*]; exact xEmpty_ne _)), (by first | rfl | (simp; done) | (simp [*]; done) | (simp; exact xEmpty_ne _) | (simp [*]; exact xEmpty_ne _)), H', ⟨by have := HJ2.out; have := HJ10.out; have := HJ13.out; first | omega | exact Nat.le_refl _⟩, ⟨bl HB⟩⟩
           ·replace c16 := Bool.eq_false_iff.mpr c16
            subst c16; have H1 : (if (wrap64 (bt a0 a1)) ≥ 240 then (if (wrap64 (bt a0 a1)) < 248 then (glossatorref01_Next.j3 kj13 a0 a1 4 (wrap64 ((wrap64 (bt a0 a1)) - 240))) else (some (0, 0, false))) else (some (0, 0, false))) = some (r1, r2, r3) := by rw [if_neg (show ¬ (false = true) by decide)] at H; exact H
            clear H; have H := H1
            clear H1; by_cases c17 : (wrap64 (bt a0 a1)) ≥ 240
            ·rw [if_pos c17] at H; have c17b0 : decide (240 ≤ (wrap64 (bt a0 a1))) = true := decide_eq_true c17; clear c17; by_cases c18 : (wrap64 (bt a0 a1)) < 248
             ·rw [if_pos c18] at H; have c18b0 : decide ((wrap64 (bt a0 a1)) < 248) = true := decide_eq_true c18; clear c18; have H' := Aside0.mk H; clear H; go_wp2
              go_meet
              case rel => exact ⟨_, (4), (wrap64 ((wrap64 (bt a0 a1)) - 240)), (by first | rfl | (simp; done) | (simp [*]; done) | (simp; exact xEmpty_ne _) | (simp [*]; exact xEmpty_ne _)), (by first | rfl | (simp; done) | (simp [*]; done) | (simp; exact xEmpty_ne _) | (simp [*]; exact xEmpty_ne _)), H', ⟨by have := HJ2.out; have := HJ10.out; have := HJ13.out; first | omega | exact Nat.le_refl _⟩, ⟨bl HB⟩⟩
             ·rw [if_neg c18] at H; have c18b0 : decide ((wrap64 (bt a0 a1)) < 248) = false := decide_eq_false c18; clear c18; simp only [Option.some.injEq, Prod.mk.injEq] at H
              obtain ⟨rfl, rfl, rfl⟩ := H
              go_wp2
              go_ret3
              exact ⟨by first | rfl | (simp [errW_none, errW_some] <;> rfl) | (simp [*, errW_none, errW_some] <;> rfl), bl HB⟩
            ·rw [if_neg c17] at H; have c17b0 : decide (240 ≤ (wrap64 (bt a0 a1))) = false := decide_eq_false c17; clear c17; simp only [Option.some.injEq, Prod.mk.injEq] at H
             obtain ⟨rfl, rfl, rfl⟩ := H
             go_wp2
             go_ret3
             exact ⟨by first | rfl | (simp [errW_none, errW_some] <;> rfl) | (simp [*, errW_none, errW_some] <;> rfl), bl HB⟩
    case rest =>
     clear HC9; (try clear c1); (try clear p2); (try clear c3); (try clear p3); (try clear c4); (try clear c4b0); (try clear c5); (try clear c6); (try clear c6b0); (try clear p6); (try clear c7); (try clear c7b0); (try clear p8); (try clear q8); (try clear hx8); (try clear c10); (try clear c10b0); (try clear c12); (try clear c12b0); (try clear c13); (try clear c15); (try clear c15b0); (try clear c16); (try clear c17); (try clear c17b0); (try clear c18); (try clear c18b0); (try clear p2); (try clear p3); (try clear p6); (try clear p8); (try clear q8); obtain ⟨kq, x8_8, x9_8, rfl, rfl, HA, HJ8, HB⟩ := hcut
     cases kq with
     | zero => exact absurd HA.out (by simp [glossatorref01_Next.j3])
     | succ kj8 =>
      have H := HA.out
      clear HA; simp only [glossatorref01_Next.j3] at H
      by_cases c19 : (wrap64 (a1 + x8_8)) > (a0.size : Int)
      ·rw [if_pos c19] at H; have c19b0 : decide ((a0.size : Int) < (wrap64 (a1 + x8_8))) = true := decide_eq_true c19; clear c19; simp only [Option.some.injEq, Prod.mk.injEq] at H
       obtain ⟨rfl, rfl, rfl⟩ := H
       go_wp2
       go_ret3
       exact ⟨by first | rfl | (simp [errW_none, errW_some] <;> rfl) | (simp [*, errW_none, errW_some] <;> rfl), bl HB⟩
      ·rw [if_neg c19] at H; have c19b0 : decide ((a0.size : Int) < (wrap64 (a1 + x8_8))) = false := decide_eq_false c19; clear c19; have H' := Aside0.mk H; clear H; go_wp2
       go_loopg [9, 10] kj8 (fun kq v9 v10 w' => ∃ (x9_3 : Int) (x10_3 : Int), v9 = .int .i64 x9_3 ∧ v10 = .int .i64 x10_3 ∧ Aside0 (glossatorref01_Next.l0 kq a0 a1 x8_8 x9_3 x10_3 = some (r1, r2, r3)) ∧ Aside0 (kq ≤ kj8) ∧ Aside0 (Below w.heap.size w w'))
       case atStart => exact ⟨(x9_8), (1), (by first | rfl | (simp; done) | (simp [*]; done) | (simp; exact xEmpty_ne _) | (simp [*]; exact xEmpty_ne _)), (by first | rfl | (simp; done) | (simp [*]; done) | (simp; exact xEmpty_ne _) | (simp [*]; exact xEmpty_ne _)), H', ⟨Nat.le_refl _⟩, ⟨bl HB⟩⟩
       case round =>
        clear H'; (try clear c1); (try clear p2); (try clear c3); (try clear p3); (try clear c4); (try clear c4b0); (try clear c5); (try clear c6); (try clear c6b0); (try clear p6); (try clear c7); (try clear c7b0); (try clear p8); (try clear q8); (try clear hx8); (try clear c10); (try clear c10b0); (try clear c12); (try clear c12b0); (try clear c13); (try clear c15); (try clear c15b0); (try clear c16); (try clear c17); (try clear c17b0); (try clear c18); (try clear c18b0); (try clear c19); (try clear c19b0); (try clear p2); (try clear p3); (try clear p6); (try clear p8); (try clear q8); (try clear HB); obtain ⟨x9_3, x10_3, rfl, rfl, HA, HK3, HB⟩ := hrel
        cases gk with
        | zero => exact absurd HA.out (by simp [glossatorref01_Next.l0])
        | succ k3 =>
         have H := HA.out
         clear HA; simp only [glossatorref01_Next.l0] at H
         by_cases c20 : x10_3 < x8_8
         rotate_left
         ·rw [if_neg c20] at H; have c20b0 : decide (x10_3 < x8_8) = false := decide_eq_false c20; clear c20; obtain ⟨y101, hy101⟩ : ∃ y_ : List Int, y_ = (([0, 0, 128, 2048, 65536] : List Int)) := ⟨_, rfl⟩
          replace H : (if 0 ≤ x8_8 then (if x8_8 < (y101.length : Int) then (if x9_3 < (rd y101 x8_8) then (some (0, 0, false)) else (if x9_3 > 1114111 then (some (0, 0, false)) else (if x9_3 ≥ 55296 then (if x9_3 < 57344 then (some (0, 0, false)) else (some (wrap32 (x9_3), x8_8, true))) else (some (wrap32 (x9_3), x8_8, true))))) else (none)) else (none)) = some (r1, r2, r3) := by first | (rw [hy101]; with_reducible exact H) | (have H2_ := (Option.bind_some _ _).symm.trans H; rw [hy101]; with_reducible exact H2_) | (have H2_ := (Option.bind_some _ _).symm.trans H; with_reducible exact H2_) | with_reducible exact H | (rw [hy101]; exact H) | exact H
          have Ny101 := Aside0.mk hy101; clear hy101; by_cases c27 : 0 ≤ x8_8
          rotate_left
          ·rw [if_neg c27] at H; exact absurd H (by simp)
          rw [if_pos c27] at H; have c27b0 : decide (0 ≤ x8_8) = true := decide_eq_true c27; clear c27; by_cases c28 : x8_8 < (y101.length : Int)
          rotate_left
          ·rw [if_neg c28] at H; exact absurd H (by simp)
          rw [if_pos c28] at H; have c28b0 : decide (x8_8 < (y101.length : Int)) = true := decide_eq_true c28; clear c28; by_cases c29 : x9_3 < (rd y101 x8_8)
          ·rw [if_pos c29] at H; have c29b0 : decide (x9_3 < (rd y101 x8_8)) = true := decide_eq_true c29; clear c29; simp only [Option.some.injEq, Prod.mk.injEq] at H
           obtain ⟨rfl, rfl, rfl⟩ := H
           go_wp2_with (first | ((with_reducible refine gate_dst (N := 86) rfl ?_); (try (refine gate_guard (by rfl) ?_; dsimp only)); refine Kd.R_lit (Kd.int .i64) _ 3 ?hg (N := 86) ?hd (xs := ([0, 0, 128, 2048, 65536] : List Int)) (inner := [.int .i64 0, .int .i64 0, .int .i64 128, .int .i64 2048, .int .i64 65536]) (ok := fun _ => True) (okp := fun _ => True) ?hr ?hp (fun _ hk => hk) trivial (Below.refl _ _) (Nat.le_refl _) (by simp) ?_; (case hd => rfl); (case hg => rfl); (case hr => first | (go_simp; done) | (go_simp; rfl)); (case hp => exact (Reps.one (show Kd.M (Kd.int .i64) _ _ _ 0 [.int .i64 0] from rfl) (Reps.one (show Kd.M (Kd.int .i64) _ _ _ 0 [.int .i64 0] from rfl) (Reps.one (show Kd.M (Kd.int .i64) _ _ _ 128 [.int .i64 128] from rfl) (Reps.one (show Kd.M (Kd.int .i64) _ _ _ 2048 [.int .i64 2048] from rfl) (Reps.one (show Kd.M (Kd.int .i64) _ _ _ 65536 [.int .i64 65536] from rfl) (Reps.none _ _))))))); intro v102 w30 ho31 hb hg_ hnew_; clear hg_ hnew_; (first | rw [← Ny101.out] at ho31 | (simp only [Int.reduceToNat] at ho31; rw [← Ny101.out] at ho31)); have n0_ := Aside0.mk (Kd.R_lower ho31 (below_size (bl HB))); have n1_ := Aside0.mk (below_step (bl HB) hb); clear HB; have HO103 := n0_; have HB := n1_; clear n0_ n1_; clear hb ho31; obtain ⟨Ao32, co32, eo32⟩ := Kd.R_slice HO103.out; subst eo32; have p104 : 0 ≤ (x8_8 : Int) := of_decide_eq_true (by first | (with_reducible assumption) | assumption); have q104 : x8_8 < (y101.length : Int) := of_decide_eq_true (by first | (with_reducible assumption) | assumption); obtain ⟨ad104, e104, hx104_0⟩ := Kd.at_int (Kd.R_reads' HO103.out).2.2 x8_8 p104 q104; cases e104; replace p104 := eq_true p104; replace q104 := eq_true q104))
           go_ret3
           exact ⟨by first | rfl | (simp [errW_none, errW_some] <;> rfl) | (simp [*, errW_none, errW_some] <;> rfl), bl HB⟩
          ·rw [if_neg c29] at H; have c29b0 : decide (x9_3 < (rd y101 x8_8)) = false := decide_eq_false c29; clear c29; by_cases c33 : x9_3 > 1114111
           ·rw [if_pos c33] at H; have c33b0 : decide (1114111 < x9_3) = true := decide_eq_true c33; clear c33; simp only [Option.some.injEq, Prod.mk.injEq] at H
            obtain ⟨rfl, rfl, rfl⟩ := H
            go_wp2_with (first | ((with_reducible refine gate_dst (N := 86) rfl ?_); (try (refine gate_guard (by rfl) ?_; dsimp only)); refine Kd.R_lit (Kd.int .i64) _ 3 ?hg (N := 86) ?hd (xs := ([0, 0, 128, 2048, 65536] : List Int)) (inner := [.int .i64 0, .int .i64 0, .int .i64 128, .int .i64 2048, .int .i64 65536]) (ok := fun _ => True) (okp := fun _ => True) ?hr ?hp (fun _ hk => hk) trivial (Below.refl _ _) (Nat.le_refl _) (by simp) ?_; (case hd => rfl); (case hg => rfl); (case hr => first | (go_simp; done) | (go_simp; rfl)); (case hp => exact (Reps.one (show Kd.M (Kd.int .i64) _ _ _ 0 [.int .i64 0] from rfl) (Reps.one (show Kd.M (Kd.int .i64) _ _ _ 0 [.int .i64 0] from rfl) (Reps.one (show Kd.M (Kd.int .i64) _ _ _ 128 [.int .i64 128] from rfl) (Reps.one (show Kd.M (Kd.int .i64) _ _ _ 2048 [.int .i64 2048] from rfl) (Reps.one (show Kd.M (Kd.int .i64) _ _ _ 65536 [.int .i64 65536] from rfl) (Reps.none _ _))))))); intro v102 w34 ho35 hb hg_ hnew_; clear hg_ hnew_; (first | rw [← Ny101.out] at ho35 | (simp only [Int.reduceToNat] at ho35; rw [← Ny101.out] at ho35)); have n0_ := Aside0.mk (Kd.R_lower ho35 (below_size (bl HB))); have n1_ := Aside0.mk (below_step (bl HB) hb); clear HB; have HO103 := n0_; have HB := n1_; clear n0_ n1_; clear hb ho35; obtain ⟨Ao36, co36, eo36⟩ := Kd.R_slice HO103.out; subst eo36; have p104 : 0 ≤ (x8_8 : Int) := of_decide_eq_true (by first | (with_reducible assumption) | assumption); have q104 : x8_8 < (y101.length : Int) := of_decide_eq_true (by first | (with_reducible assumption) | assumption); obtain ⟨ad104, e104, hx104_0⟩ := Kd.at_int (Kd.R_reads' HO103.out).2.2 x8_8 p104 q104; cases e104; replace p104 := eq_true p104; replace q104 := eq_true q104))
            go_ret3
            exact ⟨by first | rfl | (simp [errW_none, errW_some] <;> rfl) | (simp [*, errW_none, errW_some] <;> rfl), bl HB⟩
           ·rw [if_neg c33] at H; have c33b0 : decide (1114111 < x9_3) = false := decide_eq_false c33; clear c33; by_cases c37 : x9_3 ≥ 55296
            ·rw [if_pos c37] at H; have c37b0 : decide (55296 ≤ x9_3) = true := decide_eq_true c37; clear c37; by_cases c38 : x9_3 < 57344
             ·rw [if_pos c38] at H; have c38b0 : decide (x9_3 < 57344) = true := decide_eq_true c38; clear c38; simp only [Option.some.injEq, Prod.mk.injEq] at H
              obtain ⟨rfl, rfl, rfl⟩ := H
              go_wp2_with (first | ((with_reducible refine gate_dst (N := 86) rfl ?_); (try (refine gate_guard (by rfl) ?_; dsimp only)); refine Kd.R_lit (Kd.int .i64) _ 3 ?hg (N := 86) ?hd (xs := ([0, 0, 128, 2048, 65536] : List Int)) (inner := [.int .i64 0, .int .i64 0, .int .i64 128, .int .i64 2048, .int .i64 65536]) (ok := fun _ => True) (okp := fun _ => True) ?hr ?hp (fun _ hk => hk) trivial (Below.refl _ _) (Nat.le_refl _) (by simp) ?_; (case hd => rfl); (case hg => rfl); (case hr => first | (go_simp; done) | (go_simp; rfl)); (case hp => exact (Reps.one (show Kd.M (Kd.int .i64) _ _ _ 0 [.int .i64 0] from rfl) (Reps.one (show Kd.M (Kd.int .i64) _ _ _ 0 [.int .i64 0] from rfl) (Reps.one (show Kd.M (Kd.int .i64) _ _ _ 128 [.int .i64 128] from rfl) (Reps.one (show Kd.M (Kd.int .i64) _ _ _ 2048 [.int .i64 2048] from rfl) (Reps.one (show Kd.M (Kd.int .i64) _ _ _ 65536 [.int .i64 65536] from rfl) (Reps.none _ _))))))); intro v102 w39 ho40 hb hg_ hnew_; clear hg_ hnew_; (first | rw [← Ny101.out] at ho40 | (simp only [Int.reduceToNat] at ho40; rw [← Ny101.out] at ho40)); have n0_ := Aside0.mk (Kd.R_lower ho40 (below_size (bl HB))); have n1_ := Aside0.mk (below_step (bl HB) hb); clear HB; have HO103 := n0_; have HB := n1_; clear n0_ n1_; clear hb ho40; obtain ⟨Ao41, co41, eo41⟩ := Kd.R_slice HO103.out; subst eo41; have p104 : 0 ≤ (x8_8 : Int) := of_decide_eq_true (by first | (with_reducible assumption) | assumption); have q104 : x8_8 < (y101.length : Int) := of_decide_eq_true (by first | (with_reducible assumption) | assumption); obtain ⟨ad104, e104, hx104_0⟩ := Kd.at_int (Kd.R_reads' HO103.out).2.2 x8_8 p104 q104; cases e104; replace p104 := eq_true p104; replace q104 := eq_true q104))
              go_ret3
              exact ⟨by first | rfl | (simp [errW_none, errW_some] <;> rfl) | (simp [*, errW_none, errW_some] <;> rfl), bl HB⟩
             ·rw [if_neg c38] at H; have c38b0 : decide (x9_3 < 57344) = false := decide_eq_false c38; clear c38; simp only [Option.some.injEq, Prod.mk.injEq] at H
              obtain ⟨rfl, rfl, rfl⟩ := H
              go_wp2_with (first | ((with_reducible refine gate_dst (N := 86) rfl ?_); (try (refine gate_guard (by rfl) ?_; dsimp only)); refine Kd.R_lit (Kd.int .i64) _ 3 ?hg (N := 86) ?hd (xs := ([0, 0, 128, 2048, 65536] : List Int)) (inner := [.int .i64 0, .int .i64 0, .int .i64 128, .int .i64 2048, .int .i64 65536]) (ok := fun _ => True) (okp := fun _ => True) ?hr ?hp (fun _ hk => hk) trivial (Below.refl _ _) (Nat.le_refl _) (by simp) ?_; (case hd => rfl); (case hg => rfl); (case hr => first | (go_simp; done) | (go_simp; rfl)); (case hp => exact (Reps.one (show Kd.M (Kd.int .i64) _ _ _ 0 [.int .i64 0] from rfl) (Reps.one (show Kd.M (Kd.int .i64) _ _ _ 0 [.int .i64 0] from rfl) (Reps.one (show Kd.M (Kd.int .i64) _ _ _ 128 [.int .i64 128] from rfl) (Reps.one (show Kd.M (Kd.int .i64) _ _ _ 2048 [.int .i64 2048] from rfl) (Reps.one (show Kd.M (Kd.int .i64) _ _ _ 65536 [.int .i64 65536] from rfl) (Reps.none _ _))))))); intro v102 w42 ho43 hb hg_ hnew_; clear hg_ hnew_; (first | rw [← Ny101.out] at ho43 | (simp only [Int.reduceToNat] at ho43; rw [← Ny101.out] at ho43)); have n0_ := Aside0.mk (Kd.R_lower ho43 (below_size (bl HB))); have n1_ := Aside0.mk (below_step (bl HB) hb); clear HB; have HO103 := n0_; have HB := n1_; clear n0_ n1_; clear hb ho43; obtain ⟨Ao44, co44, eo44⟩ := Kd.R_slice HO103.out; subst eo44; have p104 : 0 ≤ (x8_8 : Int) := of_decide_eq_true (by first | (with_reducible assumption) | assumption); have q104 : x8_8 < (y101.length : Int) := of_decide_eq_true (by first | (with_reducible assumption) | assumption); obtain ⟨ad104, e104, hx104_0⟩ := Kd.at_int (Kd.R_reads' HO103.out).2.2 x8_8 p104 q104; cases e104; replace p104 := eq_true p104; replace q104 := eq_true q104))
              go_ret3
              exact ⟨by first | rfl | (simp [errW_none, errW_some] <;> rfl) | (simp [*, errW_none, errW_some] <;> rfl), bl HB⟩
            ·rw [if_neg c37] at H; have c37b0 : decide (55296 ≤ x9_3) = false := decide_eq_false c37; clear c37; simp only [Option.some.injEq, Prod.mk.injEq] at H
             obtain ⟨rfl, rfl, rfl⟩ := H
             go_wp2_with (first | ((with_reducible refine gate_dst (N := 86) rfl ?_); (try (refine gate_guard (by rfl) ?_; dsimp only)); refine Kd.R_lit (Kd.int .i64) _ 3 ?hg (N := 86) ?hd (xs := ([0, 0, 128, 2048, 65536] : List Int)) (inner := [.int .i64 0, .int .i64 0, .int .i64 128, .int .i64 2048, .int .i64 65536]) (ok := fun _ => True) (okp := fun _ => True) ?hr ?hp (fun _ hk => hk) trivial (Below.refl _ _) (Nat.le_refl _) (by simp) ?_; (case hd => rfl); (case hg => rfl); (case hr => first | (go_simp; done) | (go_simp; rfl)); (case hp => exact (Reps.one (show Kd.M (Kd.int .i64) _ _ _ 0 [.int .i64 0] from rfl) (Reps.one (show Kd.M (Kd.int .i64) _ _ _ 0 [.int .i64 0] from rfl) (Reps.one (show Kd.M (Kd.int .i64) _ _ _ 128 [.int .i64 128] from rfl) (Reps.one (show Kd.M (Kd.int .i64) _ _ _ 2048 [.int .i64 2048] from rfl) (Reps.one (show Kd.M (Kd.int .i64) _ _ _ 65536 [.int .i64 65536] from rfl) (Reps.none _ _))))))); intro v102 w45 ho46 hb hg_ hnew_; clear hg_ hnew_; (first | rw [← Ny101.out] at ho46 | (simp only [Int.reduceToNat] at ho46; rw [← Ny101.out] at ho46)); have n0_ := Aside0.mk (Kd.R_lower ho46 (below_size (bl HB))); have n1_ := Aside0.mk (below_step (bl HB) hb); clear HB; have HO103 := n0_; have HB := n1_; clear n0_ n1_; clear hb ho46; obtain ⟨Ao47, co47, eo47⟩ := Kd.R_slice HO103.out; subst eo47; have p104 : 0 ≤ (x8_8 : Int) := of_decide_eq_true (by first | (with_reducible assumption) | assumption); have q104 : x8_8 < (y101.length : Int) := of_decide_eq_true (by first | (with_reducible assumption) | assumption); obtain ⟨ad104, e104, hx104_0⟩ := Kd.at_int (Kd.R_reads' HO103.out).2.2 x8_8 p104 q104; cases e104; replace p104 := eq_true p104; replace q104 := eq_true q104))
             go_ret3
             exact ⟨by first | rfl | (simp [errW_none, errW_some] <;> rfl) | (simp [*, errW_none, errW_some] <;> rfl), bl HB⟩
         rw [if_pos c20] at H; have c20b0 : decide (x10_3 < x8_8) = true := decide_eq_true c20; clear c20; obtain ⟨ji21, hji21⟩ : ∃ j_ : Int, (wrap64 (a1 + x10_3)) = j_ := ⟨_, rfl⟩
         replace H : (if 0 ≤ (ji21) then (if (ji21) < (a0.size : Int) then (if (wrap64 (bt a0 (ji21))) < 128 then (some (0, 0, false)) else (if (wrap64 (bt a0 (ji21))) ≥ 192 then (some (0, 0, false)) else (glossatorref01_Next.l0 k3 a0 a1 x8_8 (wrap64 ((wrap64 ((wrap64 (x9_3 * 64)) + (wrap64 (bt a0 (ji21))))) - 128)) (wrap64 (x10_3 + 1))))) else (none)) else (none)) = some (r1, r2, r3) := by first | (rw [hji21] at H; exact H) | (simp only [hji21] at H ⊢; exact H)
         have hji21w : (IntKind.i64.wrap (a1 + x10_3)) = ji21 := (i64_w _).trans hji21
         by_cases c22 : 0 ≤ (ji21)
         rotate_left
         ·rw [if_neg c22] at H; exact absurd H (by simp)
         rw [if_pos c22] at H; have c22b0 : decide (0 ≤ (ji21)) = true := decide_eq_true c22; clear c22; by_cases c23 : (ji21) < (a0.size : Int)
         rotate_left
         ·rw [if_neg c23] at H; exact absurd H (by simp)
         rw [if_pos c23] at H; have c23b0 : decide ((ji21) < (a0.size : Int)) = true := decide_eq_true c23; clear c23; by_cases c25 : (wrap64 (bt a0 (ji21))) < 128
         ·rw [if_pos c25] at H; have c25b0 : decide ((wrap64 (bt a0 (ji21))) < 128) = true := decide_eq_true c25; clear c25; simp only [Option.some.injEq, Prod.mk.injEq] at H
          obtain ⟨rfl, rfl, rfl⟩ := H
          have p24 : 0 ≤ ((ji21) : Int) := of_decide_eq_true (by first | (with_reducible assumption) | assumption)
          have q24 : (ji21) < (a0.size : Int) := of_decide_eq_true (by first | (with_reducible assumption) | assumption)
          have hx24 := bt_at a0 (ji21)
          replace p24 := eq_true p24; replace q24 := eq_true q24; go_wp2
          go_ret3
          exact ⟨by first | rfl | (simp [errW_none, errW_some] <;> rfl) | (simp only [← hji21]; first | rfl | (simp [errW_none, errW_some] <;> rfl)) | (simp [*, errW_none, errW_some] <;> rfl), bl HB⟩
         ·rw [if_neg c25] at H; have c25b0 : decide ((wrap64 (bt a0 (ji21))) < 128) = false := decide_eq_false c25; clear c25; by_cases c26 : (wrap64 (bt a0 (ji21))) ≥ 192
          ·rw [if_pos c26] at H; have c26b0 : decide (192 ≤ (wrap64 (bt a0 (ji21)))) = true := decide_eq_true c26; clear c26; simp only [Option.some.injEq, Prod.mk.injEq] at H
           obtain ⟨rfl, rfl, rfl⟩ := H
           have p24 : 0 ≤ ((ji21) : Int) := of_decide_eq_true (by first | (with_reducible assumption) | assumption)
           have q24 : (ji21) < (a0.size : Int) := of_decide_eq_true (by first | (with_reducible assumption) | assumption)
           have hx24 := bt_at a0 (ji21)
           replace p24 := eq_true p24; replace q24 := eq_true q24; go_wp2
           go_ret3
           exact ⟨by first | rfl | (simp [errW_none, errW_some] <;> rfl) | (simp only [← hji21]; first | rfl | (simp [errW_none, errW_some] <;> rfl)) | (simp [*, errW_none, errW_some] <;> rfl), bl HB⟩
          ·rw [if_neg c26] at H; have c26b0 : decide (192 ≤ (wrap64 (bt a0 (ji21)))) = false := decide_eq_false c26; clear c26; have H' := Aside0.mk H; clear H; have p24 : 0 ≤ ((ji21) : Int) := of_decide_eq_true (by first | (with_reducible assumption) | assumption)
           have q24 : (ji21) < (a0.size : Int) := of_decide_eq_true (by first | (with_reducible assumption) | assumption)
           have hx24 := bt_at a0 (ji21)
           replace p24 := eq_true p24; replace q24 := eq_true q24; go_wp2
           go_roundg k3
           case measure => have := HJ2.out; have := HJ8.out; have := HK3.out; omega
           case rel => exact ⟨(wrap64 ((wrap64 ((wrap64 (x9_3 * 64)) + (wrap64 (bt a0 (ji21))))) - 128)), (wrap64 (x10_3 + 1)), (by first | rfl | (simp; done) | (simp only [← hji21] <;> (first | rfl | simp)) | (simp [*]; done)), (by first | rfl | (simp; done) | (simp [*]; done) | (simp; exact xEmpty_ne _) | (simp [*]; exact xEmpty_ne _)), H', ⟨by have := HJ2.out; have := HJ8.out; have := HK3.out; omega⟩, ⟨bl HB⟩⟩
end Go.Proofs.YtjmchpkmhidejaaDoor.Q

end
section
namespace Go.Proofs.YtjmchpkmhidejaaDoor.Q
open Go.RowKit Go.Proofs.YtjmchpkmhidejaaDoorW.PrintWords Go.Proofs.YtjmchpkmhidejaaDoorW.PrintLast Go.Proofs.YtjmchpkmhidejaaDoorW.PrintMore
attribute [local go_sem] max2_int min2_int max_two min_two max_three min_three max_four min_four   
set_option linter.unusedVariables false
set_option linter.unusedSimpArgs false
def glossatorref01_Fix.l0 : Nat → ByteArray → List Int → Int → Option (ByteArray)
 | 0, _, _, _ => none
 | k + 1, x0, x3, x4 => if x4 < (x0.size : Int) then ((glossatorref01_Next.f k x0 x4).bind fun bt105 => (if bt105.2.2 = true then (if 0 ≤ x4 then (if x4 ≤ (wrap64 (x4 + bt105.2.1)) then (if (wrap64 (x4 + bt105.2.1)) ≤ (x0.size : Int) then (if x3.length + (x0.extract (x4 : Int).toNat ((wrap64 (x4 + bt105.2.1)) : Int).toNat).size < 140737488355328 then (glossatorref01_Fix.l0 k x0 (x3 ++ bytesOf (x0.extract (x4 : Int).toNat ((wrap64 (x4 + bt105.2.1)) : Int).toNat)) (wrap64 (x4 + bt105.2.1))) else (none)) else (none)) else (none)) else (none)) else ((some (([239, 191, 189] : List Int) : List Int)).bind fun y111 => (if x3.length + y111.length < 140737488355328 then (glossatorref01_Fix.l0 k x0 (x3 ++ y111) (wrap64 (x4 + 1))) else (none))))) else (some (strOfNums x3))
def glossatorref01_Fix.f (k : Nat) (a0 : ByteArray) : Option (ByteArray) := glossatorref01_Fix.l0 k a0 ([] : List Int) 0
theorem glossatorref01_Fix.mono_l : ∀ k, (∀ y0 y1 y2, LeO (glossatorref01_Fix.l0 k y0 y1 y2) (glossatorref01_Fix.l0 (k + 1) y0 y1 y2))
 | 0 => fun _ _ _ r h => by simp [glossatorref01_Fix.l0] at h
 | k + 1 => by
  have ih0 := glossatorref01_Fix.mono_l k
  ·intro y0 y1 y2
   unfold glossatorref01_Fix.l0
   repeat' first
   | (with_reducible exact ih0 _ _ _)
   | (with_reducible exact glossatorref01_Next.mono _ _ _)
   | (with_reducible exact LeO.refl _)
   | (with_reducible exact LeO.none _)
   | (with_reducible refine LeO.ite ?_ ?_)
   | (with_reducible refine LeO.bind ?_ (fun _ => ?_))
   | exact ih0 _ _ _
   | exact glossatorref01_Next.mono _ _ _
   | exact LeO.none _
   | refine LeO.ite ?_ ?_
   | refine LeO.bind ?_ (fun _ => ?_)
theorem glossatorref01_Fix.mono : ∀ a0 k, LeO (glossatorref01_Fix.f k a0) (glossatorref01_Fix.f (k + 1) a0) := by
 intro a0 k
 have ih0 := glossatorref01_Fix.mono_l k
 unfold glossatorref01_Fix.f
 repeat' first
   | (with_reducible exact ih0 _ _ _)
   | (with_reducible exact glossatorref01_Next.mono _ _ _)
   | (with_reducible exact LeO.refl _)
   | (with_reducible exact LeO.none _)
   | (with_reducible refine LeO.ite ?_ ?_)
   | (with_reducible refine LeO.bind ?_ (fun _ => ?_))
   | exact ih0 _ _ _
   | exact glossatorref01_Next.mono _ _ _
   | exact LeO.none _
   | refine LeO.ite ?_ ?_
   | refine LeO.bind ?_ (fun _ => ?_)
set_option maxHeartbeats 8000000 in
set_option maxRecDepth 100000 in
theorem glossatorref01_Fix.calls (k : Nat) (a0 : ByteArray) (r : ByteArray) (w : World) (h : glossatorref01_Fix.f k a0 = some r) :
  Calls Tryd.prog 23 #[.string a0] w fun e w' => e = .returned (.string r) ∧ Below w.heap.size w w' := by
 have HB := Aside0.mk (Below.refl w.heap.size w)
 have H : (glossatorref01_Fix.l0 k a0 ([] : List Int) 0) = some r := h
 clear h; have H' := Aside0.mk H; clear H; go_enter Tryd.func23, Tryd.ntmps23
 go_wp2
 go_loopg [3, 4] k (fun kq v3 v4 w' => ∃ (x3_1 : List Int) (x4_1 : Int), v4 = .int .i64 x4_1 ∧ Aside0 (glossatorref01_Fix.l0 kq a0 x3_1 x4_1 = some r) ∧ Aside0 (kq ≤ k) ∧ Aside0 (Kd.R (Kd.int .u8) 5 w' w.heap.size (fun _ => True) v3 x3_1) ∧ Aside0 (Below w.heap.size w w'))
 case atStart => exact ⟨(([] : List Int)), (0), (by first | rfl | (simp; done) | (simp [*]; done) | (simp; exact xEmpty_ne _) | (simp [*]; exact xEmpty_ne _)), H', ⟨Nat.le_refl _⟩, ⟨by first | exact Kd.R_nil _ _ _ _ _ | exact Kd.N_nil _ _ _ _ _ | exact Kd.V_nil _ _ _ _ _ | exact Kd.Q_nil _ _ _ _ _ | exact Kd.S_nil _ _ _ _ _⟩, ⟨bl HB⟩⟩
 case round =>
  clear H'; (try clear HO_3); (try clear HB)
  obtain ⟨x3_1, x4_1, rfl, HA, HK1, HO_3, HB⟩ := hrel
  cases gk with
  | zero => exact absurd HA.out (by simp [glossatorref01_Fix.l0])
  | succ k1 =>
   have H := HA.out
   clear HA; simp only [glossatorref01_Fix.l0] at H
   by_cases c2 : x4_1 < (a0.size : Int)
   rotate_left
   ·rw [if_neg c2] at H; have c2b0 : decide (x4_1 < (a0.size : Int)) = false := decide_eq_false c2; clear c2; obtain rfl := Option.some.inj H; have hcv17 := own_string (P := Tryd.prog) Tryd.underlying22 Tryd.underlying5 Tryd.underlying9 (Kd.own_of_R HO_3.out)
    go_wp2
    go_ret
    exact ⟨by first | rfl | (simp [errW_none, errW_some] <;> rfl) | (simp [*, errW_none, errW_some] <;> rfl), bl HB⟩
   rw [if_pos c2] at H; have c2b0 : decide (x4_1 < (a0.size : Int)) = true := decide_eq_true c2; clear c2; replace H := Option.bind_eq_some_iff.mp H
   obtain ⟨⟨t105, t106, t107⟩, A30, H⟩ := H
   replace H : (if t107 = true then (if 0 ≤ x4_1 then (if x4_1 ≤ (wrap64 (x4_1 + t106)) then (if (wrap64 (x4_1 + t106)) ≤ (a0.size : Int) then (if x3_1.length + (a0.extract (x4_1 : Int).toNat ((wrap64 (x4_1 + t106)) : Int).toNat).size < 140737488355328 then (glossatorref01_Fix.l0 k1 a0 (x3_1 ++ bytesOf (a0.extract (x4_1 : Int).toNat ((wrap64 (x4_1 + t106)) : Int).toNat)) (wrap64 (x4_1 + t106))) else (none)) else (none)) else (none)) else (none)) else ((some (([239, 191, 189] : List Int) : List Int)).bind fun y111 => (if x3_1.length + y111.length < 140737488355328 then (glossatorref01_Fix.l0 k1 a0 (x3_1 ++ y111) (wrap64 (x4_1 + 1))) else (none)))) = some r := H
   have A3 := Aside0.mk A30; clear A30; by_cases c4 : t107 = true
   rotate_left
   ·replace c4 := Bool.eq_false_iff.mpr c4
    subst c4; have H1 : ((some (([239, 191, 189] : List Int) : List Int)).bind fun y111 => (if x3_1.length + y111.length < 140737488355328 then (glossatorref01_Fix.l0 k1 a0 (x3_1 ++ y111) (wrap64 (x4_1 + 1))) else (none))) = some r := by rw [if_neg (show ¬ (false = true) by decide)] at H; exact H
    clear H; have H := H1
    clear H1; obtain ⟨y111, hy111⟩ : ∃ y_ : List Int, y_ = (([239, 191, 189] : List Int)) := ⟨_, rfl⟩
    replace H : (if x3_1.length + y111.length < 140737488355328 then (glossatorref01_Fix.l0 k1 a0 (x3_1 ++ y111) (wrap64 (x4_1 + 1))) else (none)) = some r := by first | (rw [hy111]; with_reducible exact H) | (have H2_ := (Option.bind_some _ _).symm.trans H; rw [hy111]; with_reducible exact H2_) | (have H2_ := (Option.bind_some _ _).symm.trans H; with_reducible exact H2_) | with_reducible exact H | (rw [hy111]; exact H) | exact H
    have Ny111 := Aside0.mk hy111; clear hy111; by_cases c11 : x3_1.length + y111.length < 140737488355328
    ·rw [if_pos c11] at H; have LMc11 := Aside0.mk c11; clear c11; obtain ⟨y114, hy114⟩ : ∃ y_ : List Int, y_ = (x3_1 ++ y111) := ⟨_, rfl⟩
     replace H : (glossatorref01_Fix.l0 k1 a0 y114 (wrap64 (x4_1 + 1))) = some r := by first | (rw [hy114]; with_reducible exact H) | (have H2_ := (Option.bind_some _ _).symm.trans H; rw [hy114]; with_reducible exact H2_) | (have H2_ := (Option.bind_some _ _).symm.trans H; with_reducible exact H2_) | with_reducible exact H | (rw [hy114]; exact H) | exact H
     have Ny114 := Aside0.mk hy114; clear hy114; have H' := Aside0.mk H; clear H; go_wp2_with (first | ((with_reducible refine gate_callee (f := 32) rfl ?_); refine goesL_ (some 15) rfl rfl Tryd.func32 (by kernel_rfl) rfl #[.string a0, .int .i64 x4_1] rfl (by (try simp only [List.map_toArray, List.map_cons, List.map_nil]); first | done | rfl | (simp only [List.length_drop, List.length_take]; rfl)) ?_; (with_reducible refine (glossatorref01_Next.calls k1 a0 x4_1 t105 t106 false _ A3.out).mono ?_); rintro e w12 ⟨rfl, hb⟩; refine ⟨_, rfl, ?_⟩; have n0_ := Aside0.mk (Kd.R_below (rl HO_3) hb); have n1_ := Aside0.mk (below_step (bl HB) hb); clear HO_3; clear HB; have HO_3 := n0_; have HB := n1_; clear n0_ n1_; (try clear hb); (try clear hb2); (try clear hk); (try clear hi)) | ((with_reducible refine gate_dst (N := 32) rfl ?_); refine Kd.R_lit (Kd.int .u8) _ 5 ?hg (N := 32) ?hd (xs := ([239, 191, 189] : List Int)) (inner := [.int .u8 239, .int .u8 191, .int .u8 189]) (ok := fun _ => True) (okp := fun _ => True) ?hr ?hp (fun _ hk => hk) trivial (Below.refl _ _) (Nat.le_refl _) (by simp) ?_; (case hd => rfl); (case hg => rfl); (case hr => first | (go_simp; done) | (go_simp; rfl)); (case hp => exact (Reps.one (show Kd.M (Kd.int .u8) _ _ _ 239 [.int .u8 239] from rfl) (Reps.one (show Kd.M (Kd.int .u8) _ _ _ 191 [.int .u8 191] from rfl) (Reps.one (show Kd.M (Kd.int .u8) _ _ _ 189 [.int .u8 189] from rfl) (Reps.none _ _))))); intro v112 w13 ho14 hb hg_ hnew_; clear hg_ hnew_; (first | rw [← Ny111.out] at ho14 | (simp only [Int.reduceToNat] at ho14; rw [← Ny111.out] at ho14)); have n0_ := Aside0.mk (Kd.R_elder' (rl HO_3) (Kd.R_base ho14) hb); have n1_ := Aside0.mk (Kd.R_lower (Kd.R_new' ho14 (Kd.R_lt (rl HO_3))) (below_size (bl HB))); have n2_ := Aside0.mk (below_step (bl HB) hb); clear HO_3; clear HB; have HO_3 := n0_; have HO113 := n1_; have HB := n2_; clear n0_ n1_ n2_; clear hb ho14; obtain ⟨Ao16, co16, eo16⟩ := Kd.R_slice HO113.out; subst eo16) | ((with_reducible refine gate_builtin (b := .append) (xs := #[.tmp 31, .tmp 32]) rfl ?_); at_builtin; refine Kd.R_append_rows (Kd.int .u8) (w0 := w) w.heap.size rfl (.tmp 31) (.tmp 32) 22 5 (.int .u8 0) 1 rfl Tryd.underlying22 info5 rfl (by decide) (by omega) u3 x3_1 y111 _ _ _ (fun k_ => some k_ ≠ (.slice Ao16 y111.length co16 : Value).ownBlock) (fun _ => False) rfl rfl ?aO ?aR (fun _ _ h => h) (fun _ h => h.elim) ?aF ?aB ?aS ?aL ?_; (case aR => repeat (first | exact (Kd.R_reads' HO113.out).2.2 | (with_reducible refine Kd.C_alloc ?_ _) | (with_reducible refine Kd.C_drewN ?_ _) | (with_reducible refine Kd.C_drew ?_))); (case aB => exact (bl HB)); (case aF => exact (fun k_ hk => Kd.fresh' (Kd.R_lt (rl HO113)) k_ hk)); (case aO => exact (by (with_reducible repeat (first | apply Kd.R_alloc | apply Kd.R_drewN | apply Kd.R_drew)); exact Kd.R_mono HO_3.out (fun _ hk => hk.2))); (case aS => exact (below_size (bl HB))); (case aL => have := LMc11.out; omega); intro v115 w15 ho hb hg hat; rw [← Ny114.out] at ho; have n0_ := Aside0.mk (Kd.R_after (ok := (fun _ => True)) (rl HO113) hg hat); have n1_ := Aside0.mk (hb); have n2_ := Aside0.mk (ho); clear HO113; clear HB; clear HO_3; have HO113 := n0_; have HB := n1_; have HO116 := n2_; clear n0_ n1_ n2_; clear ho hb hg hat))
     go_roundg k1
     case measure => have := HK1.out; omega
     case rel => exact ⟨(y114), (wrap64 (x4_1 + 1)), (by first | rfl | (simp; done) | (simp [*]; done) | (simp; exact xEmpty_ne _) | (simp [*]; exact xEmpty_ne _)), H', ⟨by have := HK1.out; omega⟩, ⟨by (with_reducible repeat (first | apply Kd.R_alloc | apply Kd.R_drewN | apply Kd.R_drew)); exact Kd.R_mono HO116.out (fun _ hk => trivial)⟩, ⟨bl HB⟩⟩
    ·rw [if_neg c11] at H; exact absurd H (by simp)
   subst c4; have H1 : (if 0 ≤ x4_1 then (if x4_1 ≤ (wrap64 (x4_1 + t106)) then (if (wrap64 (x4_1 + t106)) ≤ (a0.size : Int) then (if x3_1.length + (a0.extract (x4_1 : Int).toNat ((wrap64 (x4_1 + t106)) : Int).toNat).size < 140737488355328 then (glossatorref01_Fix.l0 k1 a0 (x3_1 ++ bytesOf (a0.extract (x4_1 : Int).toNat ((wrap64 (x4_1 + t106)) : Int).toNat)) (wrap64 (x4_1 + t106))) else (none)) else (none)) else (none)) else (none)) = some r := by rw [if_pos rfl] at H; exact H
   clear H; have H := H1
   clear H1; by_cases c5 : 0 ≤ x4_1
   rotate_left
   ·rw [if_neg c5] at H; exact absurd H (by simp)
   rw [if_pos c5] at H; have c5b0 := eq_true c5
   have c5b1 : decide (0 ≤ x4_1) = true := decide_eq_true c5; clear c5; by_cases c6 : x4_1 ≤ (wrap64 (x4_1 + t106))
   ·rw [if_pos c6] at H; have c6b0 := eq_true c6
    have c6b1 : decide (x4_1 ≤ (wrap64 (x4_1 + t106))) = true := decide_eq_true c6; by_cases c7 : (wrap64 (x4_1 + t106)) ≤ (a0.size : Int)
    ·rw [if_pos c7] at H; have c7b0 := eq_true c7
     have c7b1 : decide ((wrap64 (x4_1 + t106)) ≤ (a0.size : Int)) = true := decide_eq_true c7; by_cases c8 : x3_1.length + (a0.extract (x4_1 : Int).toNat ((wrap64 (x4_1 + t106)) : Int).toNat).size < 140737488355328
     ·rw [if_pos c8] at H; have LMc8 := Aside0.mk c8; clear c8; obtain ⟨y108, hy108⟩ : ∃ y_ : List Int, y_ = (x3_1 ++ bytesOf (a0.extract (x4_1 : Int).toNat ((wrap64 (x4_1 + t106)) : Int).toNat)) := ⟨_, rfl⟩
      replace H : (glossatorref01_Fix.l0 k1 a0 y108 (wrap64 (x4_1 + t106))) = some r := by first | (rw [hy108]; with_reducible exact H) | (have H2_ := (Option.bind_some _ _).symm.trans H; rw [hy108]; with_reducible exact H2_) | (have H2_ := (Option.bind_some _ _).symm.trans H; with_reducible exact H2_) | with_reducible exact H | (rw [hy108]; exact H) | exact H
      have Ny108 := Aside0.mk hy108; clear hy108; have H' := Aside0.mk H; clear H; go_wp2_with (first | ((with_reducible refine gate_callee (f := 32) rfl ?_); refine goesL_ (some 15) rfl rfl Tryd.func32 (by kernel_rfl) rfl #[.string a0, .int .i64 x4_1] rfl (by (try simp only [List.map_toArray, List.map_cons, List.map_nil]); first | done | rfl | (simp only [List.length_drop, List.length_take]; rfl)) ?_; (with_reducible refine (glossatorref01_Next.calls k1 a0 x4_1 t105 t106 true _ A3.out).mono ?_); rintro e w9 ⟨rfl, hb⟩; refine ⟨_, rfl, ?_⟩; have n0_ := Aside0.mk (Kd.R_below (rl HO_3) hb); have n1_ := Aside0.mk (below_step (bl HB) hb); clear HO_3; clear HB; have HO_3 := n0_; have HB := n1_; clear n0_ n1_; (try clear hb); (try clear hb2); (try clear hk); (try clear hi)) | (at_builtin; refine print_append_str (w0 := w) w.heap.size rfl (.tmp 20) _ 22 9 5 rfl Tryd.underlying22 Tryd.underlying9 info5 u3 x3_1 (a0.extract (x4_1 : Int).toNat ((wrap64 (x4_1 + t106)) : Int).toNat) rfl rfl ?aO ?aB ?aS ?aL ?_; (case aB => exact (bl HB)); (case aO => exact (Kd.own_of_R (rl HO_3))); (case aS => exact (below_size (bl HB))); (case aL => have := LMc8.out; omega); intro v109 w10 ho0 hb hg; have ho := Kd.R_of_own (h1 := fun _ => rfl) (ok := fun _ => True) ho0 (fun _ _ => trivial); clear ho0; have hat := True.intro; rw [← Ny108.out] at ho; change Kd.R (Kd.int .u8) 5 w10 w.heap.size (fun _ => True) v109 y108 at ho; have n0_ := Aside0.mk (hb); have n1_ := Aside0.mk (ho); clear HB; clear HO_3; have HB := n0_; have HO110 := n1_; clear n0_ n1_; clear ho hb hg hat))
      go_roundg k1
      case measure => have := HK1.out; omega
      case rel => exact ⟨(y108), (wrap64 (x4_1 + t106)), (by first | rfl | (simp; done) | (simp [*]; done) | (simp; exact xEmpty_ne _) | (simp [*]; exact xEmpty_ne _)), H', ⟨by have := HK1.out; omega⟩, ⟨rl HO110⟩, ⟨bl HB⟩⟩
     ·rw [if_neg c8] at H; exact absurd H (by simp)
    ·rw [if_neg c7] at H; exact absurd H (by simp)
   ·rw [if_neg c6] at H; exact absurd H (by simp)
end Go.Proofs.YtjmchpkmhidejaaDoor.Q

end
