/- Words and walks of this claim, put together by this repo's wip/xlink.py out of Q0, Q1. -/
import Derived.Test.YtjmchpkmhidejaaDoorProg
import Derived.Below
import Derived.Deep.Draws
import Derived.Deep.AppendLies
import Derived.Maps.AppendAt
import Derived.OwnWalk
import Derived.Laws.BytesArg
import Derived.Laws.MakeOwn
import Derived.Laws.OwnMore
import Derived.Deep.OwnRows
import Derived.Tactics
import Derived.Lib.ConvBytes
import Derived.Laws.Slices
import Derived.WalkKit
import Derived.KernelRfl
import Derived.RowKit3
import Derived.Deep.LoopGhost
import Derived.Deep.QuietTactic
import Derived.BigQuiet
import Derived.WideLaws
import Derived.Deep.DeepCutAuto
import Derived.Deep.CutBlock
import Derived.Deep.RegionHeld3
import Derived.Laws.Rows
import Derived.Lib.AppendStr
import Derived.ArgAppend
import Derived.Laws.IdiomCopy
import Derived.OrdersHeld
import Derived.Laws.BitsLemmas
import Derived.RowKit
import Derived.Test.YtjmchpkmhidejaaDoorL2
import Derived.Shelf.Strings.BuilderK
import Derived.Shelf.Strings.BuilderRune
import Derived.RangeFuncBox
import Derived.Laws.StructEq
import Derived.Lib.LaidU8
import Derived.MakeChecks
import Derived.Test.YtjmchpkmhidejaaDoorL3
import Derived.Lib.SmallJoins
import Derived.Lib.AppendIntMem
import Derived.Lib.OthersKept
import Derived.Deep.RegionWith
import Derived.RangeFuncNested
import Derived.RangeFuncLeaves
import Derived.Shelf.Abstract
import Derived.OwnWalkIn
import Derived.TacticsInMore
import Derived.LoopNIn
import Derived.LoopIn
import Derived.Test.YtjmchpkmhidejaaDoorL0
import Derived.Test.YtjmchpkmhidejaaDoorL4
import Derived.OrdersIn
import Derived.TacticsIn
import Derived.RangeFuncCalls
import Derived.Deep.Quiet
import Derived.Deep.MidRow
import Derived.Lib.DecodeN
import Derived.Lib.RuneCount
section
namespace Go.Proofs.YtjmchpkmhidejaaDoor.Q
open Go.RowKit Go.Proofs.YtjmchpkmhidejaaDoorW.PrintWords Go.Proofs.YtjmchpkmhidejaaDoorW.PrintLast Go.Proofs.YtjmchpkmhidejaaDoorW.PrintMore
attribute [local go_sem] max2_int min2_int max_two min_two max_three min_three max_four min_four   
set_option linter.unusedVariables false
set_option linter.unusedSimpArgs false
def errW : Option Int → Value
  | none => .nilIface
  | some c => .iface 0 (.int .i64 c)
theorem errW_none : errW none = .nilIface := rfl
theorem errW_some (c : Int) : errW (some c) = .iface 0 (.int .i64 c) := rfl
/-- a list is empty where it is no other than the empty one -/
theorem xEmpty_ne (l : List UInt8) : l.isEmpty = !(l != []) := by cases l <;> rfl
/-- Worlds behind drawings and new blocks: what was below stays so. -/
theorem bl {B : Nat} {w0 w w1 : World} (h : Aside0 (Below B w0 w)) (hs : Below B w0 w → Below B w0 w1 := by intro h_; repeat (first | (with_reducible first | exact h_ | apply below_alloc | apply pw_below_drewN | apply below_drew1) | exact h_)) : Below B w0 w1 := hs h.out
/-- A table of whole numbers that reads as its initialiser lays it. -/
theorem tab_of_reads {P : Program} {W : World} {name : String} {k : IntKind} {zs : List Int} {g : Nat} {t e : TypeId} {n : Nat} (hg : P.globalNamed name = some g) (hty : (P.globals[g]?).map (·.type) = some t) (ht : P.underlying t = some (.array n e)) (he : P.underlying e = some (.int k)) (hce : P.cellsOf e = 1) (hct : P.cellsOf t = n)
    (h : Lib.VarReads P W name (Lib.tabData k zs)) : Lib.TabIs P W name k zs := by
  obtain ⟨g', t', cs, fuel, p, hg', ht', hvar, hd⟩ := h
  obtain rfl := Option.some.inj (hg.symm.trans hg')
  obtain rfl := Option.some.inj (hty.symm.trans ht')
  unfold Lib.TabIs
  rw [hvar, ← Lib.cells_of_tab ht he hce hct hd]
/-- The table of internal/strconv reads as its initialiser lays it. -/
def GlobOk (w : World) : Prop := Lib.TabIs Tryd.prog w "internal/strconv.uint64pow10" .u64 Lib.pow10Tab
theorem GlobOk.below {w w' : World} (h : GlobOk w) (hb : Below w.heap.size w w') : GlobOk w' := Joins.tab_stays (g := 3) (by kernel_rfl) h hb (Nat.le_refl _)
theorem GlobOk.tab {w : World} (h : GlobOk w) : Lib.TabIs Tryd.prog w "internal/strconv.uint64pow10" .u64 Lib.pow10Tab := h
theorem GlobOk.of_laid {W : World} {l : List (String × DataW Unit)} {d1 : DataW Unit} (hL : laidMetH Tryd.prog l W) (hp : (l.all fun x => x.2.handleName?.isNone) = true) (m1 : ("internal/strconv.uint64pow10", d1) ∈ l) (e1 : d1 = Lib.tabData .u64 Lib.pow10Tab) : GlobOk W := by
  rw [MakeChecks.laidMetH_plain _ _ _ hp] at hL
  subst e1
  exact tab_of_reads (g := 3) (t := 85) (e := 74) (n := 20) (by kernel_rfl) (by kernel_rfl) (by kernel_rfl) (by kernel_rfl) (by kernel_rfl) (by kernel_rfl) (Lib.laidMet.reads hL m1)
end Go.Proofs.YtjmchpkmhidejaaDoor.Q

end
section
namespace Go.Proofs.YtjmchpkmhidejaaDoor.Q
open Go.RowKit Go.Proofs.YtjmchpkmhidejaaDoorW.PrintWords Go.Proofs.YtjmchpkmhidejaaDoorW.PrintLast Go.Proofs.YtjmchpkmhidejaaDoorW.PrintMore
attribute [local go_sem] max2_int min2_int max_two min_two max_three min_three max_four min_four   
set_option linter.unusedVariables false
set_option linter.unusedSimpArgs false
/-- A reader that is none, or that nothing was done with. -/
def Idle (v : Value) (w : World) : Prop := v = .pointer none ∨ ∃ B, v = .pointer (some ⟨B, 0, none⟩) ∧ w.heap[B]? = some (.cells #[.slice none 0 0, .nilFunc, .int .i64 0, .slice none 0 0, .int .i64 0] 28 (0, 0))
theorem Idle.below {v : Value} {w w' : World} (h : Idle v w) (hb : Below w.heap.size w w') : Idle v w' := by
 rcases h with rfl | ⟨B, rfl, hB⟩
 ·exact .inl rfl
 ·exact .inr ⟨B, rfl, (hb.block B (Array.getElem?_eq_some_iff.1 hB).1).trans hB⟩
theorem idle_none (w : World) : Idle (.pointer none) w := .inl rfl
theorem idle_some {B : Nat} {w : World} (h : w.heap[B]? = some (.cells #[.slice none 0 0, .nilFunc, .int .i64 0, .slice none 0 0, .int .i64 0] 28 (0, 0))) : Idle (.pointer (some ⟨B, 0, none⟩)) w := .inr ⟨B, rfl, h⟩
def frame_Reader_Next.f : Option Unit := none
theorem eql_nil (w : World) : (binOp .eql 24 .nilFunc .nilFunc).run Tryd.prog w = .ok (.bool true) w := by
 have h24 := Tryd.underlying24
 have he : (Op.equal 24 .nilFunc .nilFunc).run Tryd.prog w = .ok true w := by
  unfold Op.equal
  have : Op.maxDepth = 9999 + 1 := by decide
  rw [this]
  generalize 9999 = d
  simp only [Op.equalIn, Sem.run_bind, run_underlying h24, Result.andThen_ok]
  simp
 simp [binOp, he]
theorem next_idle (v : Value) (w : World) (h : Idle v w) : Calls Tryd.prog 5 #[v] w fun e w' => e = .returned (.tuple #[.string ⟨#[]⟩, .bool false]) ∧ Below w.heap.size w w' := by
 rcases h with rfl | ⟨B, rfl, hB⟩
 ·go_enter Tryd.func5, Tryd.ntmps5
  go_wp2
  go_ret2
  exact ⟨rfl, Below.refl _ _⟩
 ·have c3 := blk_cell hB 3
  go_enter Tryd.func5, Tryd.ntmps5
  go_wp2
  go_ret2
  exact ⟨rfl, Below.refl _ _⟩
def frame_Reader_Feed.f : Option Unit := none
theorem feed_idle (v x : Value) (w : World) (h : Idle v w) : Calls Tryd.prog 6 #[v, x] w fun e w' => e = .returned (.int .i64 1) ∧ Below w.heap.size w w' := by
 rcases h with rfl | ⟨B, rfl, hB⟩
 ·go_enter Tryd.func6, Tryd.ntmps6
  go_wp2
  go_ret
  exact ⟨rfl, Below.refl _ _⟩
 ·have c1 := blk_cell hB 1
  have ce := eql_nil
  go_enter Tryd.func6, Tryd.ntmps6
  go_wp2
  go_ret
  exact ⟨rfl, Below.refl _ _⟩
def frame_Reader_Dead.f : Option Unit := none
theorem dead_idle (v : Value) (w : World) (h : Idle v w) : Calls Tryd.prog 7 #[v] w fun e w' => e = .returned (.int .i64 1) ∧ Below w.heap.size w w' := by
 rcases h with rfl | ⟨B, rfl, hB⟩
 ·go_enter Tryd.func7, Tryd.ntmps7
  go_wp2
  go_ret
  exact ⟨rfl, Below.refl _ _⟩
 ·have c1 := blk_cell hB 1
  have ce := eql_nil
  go_enter Tryd.func7, Tryd.ntmps7
  go_wp2
  go_ret
  exact ⟨rfl, Below.refl _ _⟩
def strconv_Itoa.f (a0 : Int) : Option ByteArray := if -9223372036854775808 ≤ a0 then (if a0 ≤ 9223372036854775807 then some ⟨(Lib.itoa a0).toArray⟩ else none) else none
theorem strconv_Itoa.calls (a0 : Int) (r : ByteArray) (w : World) (hG : GlobOk w) (h : strconv_Itoa.f a0 = some r) :
  Calls Tryd.prog 17 #[.int .i64 a0] w fun e w' => e = .returned (.string r) ∧ Below w.heap.size w w' := by
 unfold strconv_Itoa.f at h
 split at h
 ·split at h
  ·rename_i h0 h1
   obtain rfl := Option.some.inj h
   refine (Tryd.strconv_Itoa a0 h0 h1 w hG.tab).mono ?_
   rintro e w' ⟨rfl, k, os, rfl⟩
   exact ⟨rfl, Lib.below_grow _ w (Nat.le_refl _) k os⟩
  ·cases h
 ·cases h
def frame_Write.f (a0 : ByteArray) : Option (ByteArray) := (strconv_Itoa.f (a0.size : Int)).bind fun t101 => (if 16 + t101.size ≤ 9223372036854775807 then (if ((⟨#[67, 111, 110, 116, 101, 110, 116, 45, 76, 101, 110, 103, 116, 104, 58, 32]⟩ : ByteArray) ++ t101).size + 4 ≤ 9223372036854775807 then (if (((⟨#[67, 111, 110, 116, 101, 110, 116, 45, 76, 101, 110, 103, 116, 104, 58, 32]⟩ : ByteArray) ++ t101) ++ (⟨#[13, 10, 13, 10]⟩ : ByteArray)).size + a0.size ≤ 9223372036854775807 then (some ((((⟨#[67, 111, 110, 116, 101, 110, 116, 45, 76, 101, 110, 103, 116, 104, 58, 32]⟩ : ByteArray) ++ t101) ++ (⟨#[13, 10, 13, 10]⟩ : ByteArray)) ++ a0)) else (none)) else (none)) else (none))
set_option maxHeartbeats 8000000 in
set_option maxRecDepth 100000 in
theorem frame_Write.calls (a0 : ByteArray) (r : ByteArray) (w : World) (hG : GlobOk w) (h : frame_Write.f a0 = some r) :
  Calls Tryd.prog 8 #[.string a0] w fun e w' => e = .returned (.string r) ∧ Below w.heap.size w w' := by
 have HG := Aside0.mk hG; clear hG; have HB := Aside0.mk (Below.refl w.heap.size w)
 have H : ((strconv_Itoa.f (a0.size : Int)).bind fun t101 => (if 16 + t101.size ≤ 9223372036854775807 then (if ((⟨#[67, 111, 110, 116, 101, 110, 116, 45, 76, 101, 110, 103, 116, 104, 58, 32]⟩ : ByteArray) ++ t101).size + 4 ≤ 9223372036854775807 then (if (((⟨#[67, 111, 110, 116, 101, 110, 116, 45, 76, 101, 110, 103, 116, 104, 58, 32]⟩ : ByteArray) ++ t101) ++ (⟨#[13, 10, 13, 10]⟩ : ByteArray)).size + a0.size ≤ 9223372036854775807 then (some ((((⟨#[67, 111, 110, 116, 101, 110, 116, 45, 76, 101, 110, 103, 116, 104, 58, 32]⟩ : ByteArray) ++ t101) ++ (⟨#[13, 10, 13, 10]⟩ : ByteArray)) ++ a0)) else (none)) else (none)) else (none))) = some r := h
 clear h; replace H := Option.bind_eq_some_iff.mp H
 obtain ⟨t101, A20, H⟩ := H
 replace H : (if 16 + t101.size ≤ 9223372036854775807 then (if ((⟨#[67, 111, 110, 116, 101, 110, 116, 45, 76, 101, 110, 103, 116, 104, 58, 32]⟩ : ByteArray) ++ t101).size + 4 ≤ 9223372036854775807 then (if (((⟨#[67, 111, 110, 116, 101, 110, 116, 45, 76, 101, 110, 103, 116, 104, 58, 32]⟩ : ByteArray) ++ t101) ++ (⟨#[13, 10, 13, 10]⟩ : ByteArray)).size + a0.size ≤ 9223372036854775807 then (some ((((⟨#[67, 111, 110, 116, 101, 110, 116, 45, 76, 101, 110, 103, 116, 104, 58, 32]⟩ : ByteArray) ++ t101) ++ (⟨#[13, 10, 13, 10]⟩ : ByteArray)) ++ a0)) else (none)) else (none)) else (none)) = some r := H
 have A2 := Aside0.mk A20; clear A20; by_cases c3 : 16 + t101.size ≤ 9223372036854775807
 rotate_left
 ·rw [if_neg c3] at H; exact absurd H (by simp)
 rw [if_pos c3] at H; have c3b0 := eq_true c3
 have c3b1 : decide (16 + t101.size ≤ 9223372036854775807) = true := decide_eq_true c3; try have c3b2 : (9223372036854775807 < 16 + t101.size) = False := eq_false (Nat.not_lt.2 c3)
 by_cases c4 : ((⟨#[67, 111, 110, 116, 101, 110, 116, 45, 76, 101, 110, 103, 116, 104, 58, 32]⟩ : ByteArray) ++ t101).size + 4 ≤ 9223372036854775807
 rotate_left
 ·rw [if_neg c4] at H; exact absurd H (by simp)
 rw [if_pos c4] at H; have c4b0 := eq_true c4
 have c4b4 : (16 + t101.size + 4 ≤ 9223372036854775807) = True := eq_true (by have h_ := c4; simp only [ByteArray.size_append] at h_; exact h_)
 have c4b5 : (9223372036854775807 < 16 + t101.size + 4) = False := eq_false (Nat.not_lt.2 (of_eq_true c4b4))
 have c4b1 : decide (((⟨#[67, 111, 110, 116, 101, 110, 116, 45, 76, 101, 110, 103, 116, 104, 58, 32]⟩ : ByteArray) ++ t101).size + 4 ≤ 9223372036854775807) = true := decide_eq_true c4; try have c4b2 : (9223372036854775807 < ((⟨#[67, 111, 110, 116, 101, 110, 116, 45, 76, 101, 110, 103, 116, 104, 58, 32]⟩ : ByteArray) ++ t101).size + 4) = False := eq_false (Nat.not_lt.2 c4)
 by_cases c5 : (((⟨#[67, 111, 110, 116, 101, 110, 116, 45, 76, 101, 110, 103, 116, 104, 58, 32]⟩ : ByteArray) ++ t101) ++ (⟨#[13, 10, 13, 10]⟩ : ByteArray)).size + a0.size ≤ 9223372036854775807
 ·rw [if_pos c5] at H; have c5b0 := eq_true c5
  have c5b4 : (16 + t101.size + 4 + a0.size ≤ 9223372036854775807) = True := eq_true (by have h_ := c5; simp only [ByteArray.size_append] at h_; exact h_)
  have c5b5 : (9223372036854775807 < 16 + t101.size + 4 + a0.size) = False := eq_false (Nat.not_lt.2 (of_eq_true c5b4))
  have c5b1 : decide ((((⟨#[67, 111, 110, 116, 101, 110, 116, 45, 76, 101, 110, 103, 116, 104, 58, 32]⟩ : ByteArray) ++ t101) ++ (⟨#[13, 10, 13, 10]⟩ : ByteArray)).size + a0.size ≤ 9223372036854775807) = true := decide_eq_true c5; try have c5b2 : (9223372036854775807 < (((⟨#[67, 111, 110, 116, 101, 110, 116, 45, 76, 101, 110, 103, 116, 104, 58, 32]⟩ : ByteArray) ++ t101) ++ (⟨#[13, 10, 13, 10]⟩ : ByteArray)).size + a0.size) = False := eq_false (Nat.not_lt.2 c5)
  obtain rfl := Option.some.inj H; go_enter Tryd.func8, Tryd.ntmps8
  go_wp2_with (first | ((with_reducible refine gate_callee (f := 17) rfl ?_); refine goesL_ (some 5) rfl rfl Tryd.func17 (by kernel_rfl) rfl #[.int .i64 (a0.size : Int)] rfl (by (try simp only [List.map_toArray, List.map_cons, List.map_nil]); first | done | rfl | (simp only [List.length_drop, List.length_take]; rfl)) ?_; (with_reducible refine (strconv_Itoa.calls (a0.size : Int) t101 _ (by first | exact HG.out | exact GlobOk.below HG.out (bl HB)) A2.out).mono ?_); rintro e w6 ⟨rfl, hb⟩; refine ⟨_, rfl, ?_⟩; have n0_ := Aside0.mk (below_step (bl HB) hb); clear HB; have HB := n0_; clear n0_; (try clear hb); (try clear hb2); (try clear hk); (try clear hi)))
  go_ret
  exact ⟨by first | rfl | (simp [errW_none, errW_some] <;> rfl) | (simp [*, errW_none, errW_some] <;> rfl), bl HB⟩
 ·rw [if_neg c5] at H; exact absurd H (by simp)
def glossatorref05_Write.l0 : Nat → ByteArray → ByteArray → Int → Option (ByteArray)
 | 0, _, _, _ => none
 | k + 1, x0, x3, x4 => if x4 > 0 then ((some (([(wrap64 (48 + (Int.tmod x4 10))) % 256] : List Int) : List Int)).bind fun y102 => (if (strOfNums y102).size + x3.size ≤ 9223372036854775807 then (glossatorref05_Write.l0 k x0 ((strOfNums y102) ++ x3) (wrap64 (Int.tdiv x4 10))) else (none))) else (if x3.toList = ([] : List UInt8) then (if 16 + 1 ≤ 9223372036854775807 then (if 16 + 4 ≤ 9223372036854775807 then (if (((⟨#[67, 111, 110, 116, 101, 110, 116, 45, 76, 101, 110, 103, 116, 104, 58, 32]⟩ : ByteArray) ++ (⟨#[48]⟩ : ByteArray)) ++ (⟨#[13, 10, 13, 10]⟩ : ByteArray)).size + x0.size ≤ 9223372036854775807 then (some ((((⟨#[67, 111, 110, 116, 101, 110, 116, 45, 76, 101, 110, 103, 116, 104, 58, 32]⟩ : ByteArray) ++ (⟨#[48]⟩ : ByteArray)) ++ (⟨#[13, 10, 13, 10]⟩ : ByteArray)) ++ x0)) else (none)) else (none)) else (none)) else (if 16 + x3.size ≤ 9223372036854775807 then (if ((⟨#[67, 111, 110, 116, 101, 110, 116, 45, 76, 101, 110, 103, 116, 104, 58, 32]⟩ : ByteArray) ++ x3).size + 4 ≤ 9223372036854775807 then (if (((⟨#[67, 111, 110, 116, 101, 110, 116, 45, 76, 101, 110, 103, 116, 104, 58, 32]⟩ : ByteArray) ++ x3) ++ (⟨#[13, 10, 13, 10]⟩ : ByteArray)).size + x0.size ≤ 9223372036854775807 then (some ((((⟨#[67, 111, 110, 116, 101, 110, 116, 45, 76, 101, 110, 103, 116, 104, 58, 32]⟩ : ByteArray) ++ x3) ++ (⟨#[13, 10, 13, 10]⟩ : ByteArray)) ++ x0)) else (none)) else (none)) else (none)))
def glossatorref05_Write.f (k : Nat) (a0 : ByteArray) : Option (ByteArray) := glossatorref05_Write.l0 k a0 (⟨#[]⟩ : ByteArray) (a0.size : Int)
theorem glossatorref05_Write.mono_l : ∀ k, (∀ y0 y1 y2, LeO (glossatorref05_Write.l0 k y0 y1 y2) (glossatorref05_Write.l0 (k + 1) y0 y1 y2))
 | 0 => fun _ _ _ r h => by simp [glossatorref05_Write.l0] at h
 | k + 1 => by
  have ih0 := glossatorref05_Write.mono_l k
  ·intro y0 y1 y2
   unfold glossatorref05_Write.l0
   repeat' first
   | (with_reducible exact ih0 _ _ _)
   | (with_reducible exact LeO.refl _)
   | (with_reducible exact LeO.none _)
   | (with_reducible refine LeO.ite ?_ ?_)
   | (with_reducible refine LeO.bind ?_ (fun _ => ?_))
   | exact ih0 _ _ _
   | exact LeO.none _
   | refine LeO.ite ?_ ?_
   | refine LeO.bind ?_ (fun _ => ?_)
theorem glossatorref05_Write.mono : ∀ a0 k, LeO (glossatorref05_Write.f k a0) (glossatorref05_Write.f (k + 1) a0) := by
 intro a0 k
 have ih0 := glossatorref05_Write.mono_l k
 unfold glossatorref05_Write.f
 repeat' first
   | (with_reducible exact ih0 _ _ _)
   | (with_reducible exact LeO.refl _)
   | (with_reducible exact LeO.none _)
   | (with_reducible refine LeO.ite ?_ ?_)
   | (with_reducible refine LeO.bind ?_ (fun _ => ?_))
   | exact ih0 _ _ _
   | exact LeO.none _
   | refine LeO.ite ?_ ?_
   | refine LeO.bind ?_ (fun _ => ?_)
set_option maxHeartbeats 8000000 in
set_option maxRecDepth 100000 in
theorem glossatorref05_Write.calls (k : Nat) (a0 : ByteArray) (r : ByteArray) (w : World) (h : glossatorref05_Write.f k a0 = some r) :
  Calls Tryd.prog 9 #[.string a0] w fun e w' => e = .returned (.string r) ∧ Below w.heap.size w w' := by
 have HB := Aside0.mk (Below.refl w.heap.size w)
 have H : (glossatorref05_Write.l0 k a0 (⟨#[]⟩ : ByteArray) (a0.size : Int)) = some r := h
 clear h; have H' := Aside0.mk H; clear H; go_enter Tryd.func9, Tryd.ntmps9
 go_wp2
 go_loopg [3, 4] k (fun kq v3 v4 w' => ∃ (x3_1 : ByteArray) (x4_1 : Int), v3 = .string x3_1 ∧ v4 = .int .i64 x4_1 ∧ Aside0 (glossatorref05_Write.l0 kq a0 x3_1 x4_1 = some r) ∧ Aside0 (kq ≤ k) ∧ Aside0 (Below w.heap.size w w'))
 case atStart => exact ⟨((⟨#[]⟩ : ByteArray)), ((a0.size : Int)), (by first | rfl | (simp; done) | (simp [*]; done) | (simp; exact xEmpty_ne _) | (simp [*]; exact xEmpty_ne _)), (by first | rfl | (simp; done) | (simp [*]; done) | (simp; exact xEmpty_ne _) | (simp [*]; exact xEmpty_ne _)), H', ⟨Nat.le_refl _⟩, ⟨bl HB⟩⟩
 case round =>
  clear H'; (try clear HB); obtain ⟨x3_1, x4_1, rfl, rfl, HA, HK1, HB⟩ := hrel
  cases gk with
  | zero => exact absurd HA.out (by simp [glossatorref05_Write.l0])
  | succ k1 =>
   have H := HA.out
   clear HA; simp only [glossatorref05_Write.l0] at H
   by_cases c2 : x4_1 > 0
   ·rw [if_pos c2] at H; have c2b0 : decide (0 < x4_1) = true := decide_eq_true c2; clear c2; obtain ⟨y102, hy102⟩ : ∃ y_ : List Int, y_ = (([(wrap64 (48 + (Int.tmod x4_1 10))) % 256] : List Int)) := ⟨_, rfl⟩
    replace H : (if (strOfNums y102).size + x3_1.size ≤ 9223372036854775807 then (glossatorref05_Write.l0 k1 a0 ((strOfNums y102) ++ x3_1) (wrap64 (Int.tdiv x4_1 10))) else (none)) = some r := by first | (rw [hy102]; with_reducible exact H) | (have H2_ := (Option.bind_some _ _).symm.trans H; rw [hy102]; with_reducible exact H2_) | (have H2_ := (Option.bind_some _ _).symm.trans H; with_reducible exact H2_) | with_reducible exact H | (rw [hy102]; exact H) | exact H
    have Ny102 := Aside0.mk hy102; clear hy102; by_cases c3 : (strOfNums y102).size + x3_1.size ≤ 9223372036854775807
    ·rw [if_pos c3] at H; have c3b0 := eq_true c3
     have c3b1 : decide ((strOfNums y102).size + x3_1.size ≤ 9223372036854775807) = true := decide_eq_true c3; try have c3b2 : (9223372036854775807 < (strOfNums y102).size + x3_1.size) = False := eq_false (Nat.not_lt.2 c3)
     have H' := Aside0.mk H; clear H; go_wp2_with (first | ((with_reducible refine gate_dst (N := 15) rfl ?_); refine Kd.R_lit (Kd.int .u8) _ 5 ?hg (N := 15) ?hd (xs := ([(wrap64 (48 + (Int.tmod x4_1 10))) % 256] : List Int)) (inner := [.int .u8 ((wrap64 (48 + (Int.tmod x4_1 10))) % 256)]) (ok := fun _ => True) (okp := fun _ => True) ?hr ?hp (fun _ hk => hk) trivial (Below.refl _ _) (Nat.le_refl _) (by simp) ?_; (case hd => rfl); (case hg => rfl); (case hr => first | (go_simp; done) | (go_simp; rfl)); (case hp => exact (Reps.one (show Kd.M (Kd.int .u8) _ _ _ ((wrap64 (48 + (Int.tmod x4_1 10))) % 256) [.int .u8 ((wrap64 (48 + (Int.tmod x4_1 10))) % 256)] from rfl) (Reps.none _ _))); intro v103 w4 ho5 hb hg_ hnew_; clear hg_ hnew_; (first | rw [← Ny102.out] at ho5 | (simp only [Int.reduceToNat] at ho5; rw [← Ny102.out] at ho5)); have n0_ := Aside0.mk (Kd.R_lower ho5 (below_size (bl HB))); have n1_ := Aside0.mk (below_step (bl HB) hb); clear HB; have HO104 := n0_; have HB := n1_; clear n0_ n1_; clear hb ho5; have hcv6 := own_string (P := Tryd.prog) Tryd.underlying22 Tryd.underlying5 Tryd.underlying9 (Kd.own_of_R HO104.out)))
     go_roundg k1
     case measure => have := HK1.out; omega
     case rel => exact ⟨((strOfNums y102) ++ x3_1), (wrap64 (Int.tdiv x4_1 10)), (by first | rfl | (simp; done) | (simp [*]; done) | (simp; exact xEmpty_ne _) | (simp [*]; exact xEmpty_ne _)), (by first | rfl | (simp; done) | (simp [*]; done) | (simp; exact xEmpty_ne _) | (simp [*]; exact xEmpty_ne _)), H', ⟨by have := HK1.out; omega⟩, ⟨bl HB⟩⟩
    ·rw [if_neg c3] at H; exact absurd H (by simp)
   ·rw [if_neg c2] at H; have c2b0 : decide (0 < x4_1) = false := decide_eq_false c2; clear c2; by_cases c7 : x3_1.toList = ([] : List UInt8)
    ·rw [if_pos c7] at H; have c7b0 : (x3_1.toList == ([] : List UInt8)) = true := beq_iff_eq.mpr c7
     have c7b1 : (x3_1.toList != ([] : List UInt8)) = false := bne_eq_false_iff_eq.mpr c7
     clear c7; by_cases c8 : 16 + 1 ≤ 9223372036854775807
     rotate_left
     ·rw [if_neg c8] at H; exact absurd H (by simp)
     rw [if_pos c8] at H; have c8b0 := eq_true c8
     have c8b1 : decide (16 + 1 ≤ 9223372036854775807) = true := decide_eq_true c8; try have c8b2 : (9223372036854775807 < 16 + 1) = False := eq_false (Nat.not_lt.2 c8)
     by_cases c9 : 16 + 4 ≤ 9223372036854775807
     ·rw [if_pos c9] at H; have c9b0 := eq_true c9
      have c9b1 : decide (16 + 4 ≤ 9223372036854775807) = true := decide_eq_true c9; try have c9b2 : (9223372036854775807 < 16 + 4) = False := eq_false (Nat.not_lt.2 c9)
      by_cases c10 : (((⟨#[67, 111, 110, 116, 101, 110, 116, 45, 76, 101, 110, 103, 116, 104, 58, 32]⟩ : ByteArray) ++ (⟨#[48]⟩ : ByteArray)) ++ (⟨#[13, 10, 13, 10]⟩ : ByteArray)).size + a0.size ≤ 9223372036854775807
      ·rw [if_pos c10] at H; have c10b0 := eq_true c10
       have c10b4 : (16 + 1 + 4 + a0.size ≤ 9223372036854775807) = True := eq_true (by have h_ := c10; simp only [ByteArray.size_append] at h_; exact h_)
       have c10b5 : (9223372036854775807 < 16 + 1 + 4 + a0.size) = False := eq_false (Nat.not_lt.2 (of_eq_true c10b4))
       have c10b1 : decide ((((⟨#[67, 111, 110, 116, 101, 110, 116, 45, 76, 101, 110, 103, 116, 104, 58, 32]⟩ : ByteArray) ++ (⟨#[48]⟩ : ByteArray)) ++ (⟨#[13, 10, 13, 10]⟩ : ByteArray)).size + a0.size ≤ 9223372036854775807) = true := decide_eq_true c10; try have c10b2 : (9223372036854775807 < (((⟨#[67, 111, 110, 116, 101, 110, 116, 45, 76, 101, 110, 103, 116, 104, 58, 32]⟩ : ByteArray) ++ (⟨#[48]⟩ : ByteArray)) ++ (⟨#[13, 10, 13, 10]⟩ : ByteArray)).size + a0.size) = False := eq_false (Nat.not_lt.2 c10)
       obtain rfl := Option.some.inj H; go_wp2
       go_ret
       exact ⟨by first | rfl | (simp [errW_none, errW_some] <;> rfl) | (simp [*, errW_none, errW_some] <;> rfl), bl HB⟩
      ·rw [if_neg c10] at H; exact absurd H (by simp)
     ·rw [if_neg c9] at H; exact absurd H (by simp)
    ·rw [if_neg c7] at H; have c7b0 : (x3_1.toList == ([] : List UInt8)) = false := beq_eq_false_iff_ne.mpr c7; have c7b1 : (x3_1.toList != ([] : List UInt8)) = true := bne_iff_ne.mpr c7; by_cases c11 : 16 + x3_1.size ≤ 9223372036854775807
     ·rw [if_pos c11] at H; have c11b0 := eq_true c11
      have c11b1 : decide (16 + x3_1.size ≤ 9223372036854775807) = true := decide_eq_true c11; try have c11b2 : (9223372036854775807 < 16 + x3_1.size) = False := eq_false (Nat.not_lt.2 c11)
      by_cases c12 : ((⟨#[67, 111, 110, 116, 101, 110, 116, 45, 76, 101, 110, 103, 116, 104, 58, 32]⟩ : ByteArray) ++ x3_1).size + 4 ≤ 9223372036854775807
      ·rw [if_pos c12] at H; have c12b0 := eq_true c12
       have c12b4 : (16 + x3_1.size + 4 ≤ 9223372036854775807) = True := eq_true (by have h_ := c12; simp only [ByteArray.size_append] at h_; exact h_)
       have c12b5 : (9223372036854775807 < 16 + x3_1.size + 4) = False := eq_false (Nat.not_lt.2 (of_eq_true c12b4))
       have c12b1 : decide (((⟨#[67, 111, 110, 116, 101, 110, 116, 45, 76, 101, 110, 103, 116, 104, 58, 32]⟩ : ByteArray) ++ x3_1).size + 4 ≤ 9223372036854775807) = true := decide_eq_true c12; try have c12b2 : (9223372036854775807 < ((⟨#[67, 111, 110, 116, 101, 110, 116, 45, 76, 101, 110, 103, 116, 104, 58, 32]⟩ : ByteArray) ++ x3_1).size + 4) = False := eq_false (Nat.not_lt.2 c12)
       by_cases c13 : (((⟨#[67, 111, 110, 116, 101, 110, 116, 45, 76, 101, 110, 103, 116, 104, 58, 32]⟩ : ByteArray) ++ x3_1) ++ (⟨#[13, 10, 13, 10]⟩ : ByteArray)).size + a0.size ≤ 9223372036854775807
       ·rw [if_pos c13] at H; have c13b0 := eq_true c13
        have c13b4 : (16 + x3_1.size + 4 + a0.size ≤ 9223372036854775807) = True := eq_true (by have h_ := c13; simp only [ByteArray.size_append] at h_; exact h_)
        have c13b5 : (9223372036854775807 < 16 + x3_1.size + 4 + a0.size) = False := eq_false (Nat.not_lt.2 (of_eq_true c13b4))
        have c13b1 : decide ((((⟨#[67, 111, 110, 116, 101, 110, 116, 45, 76, 101, 110, 103, 116, 104, 58, 32]⟩ : ByteArray) ++ x3_1) ++ (⟨#[13, 10, 13, 10]⟩ : ByteArray)).size + a0.size ≤ 9223372036854775807) = true := decide_eq_true c13; try have c13b2 : (9223372036854775807 < (((⟨#[67, 111, 110, 116, 101, 110, 116, 45, 76, 101, 110, 103, 116, 104, 58, 32]⟩ : ByteArray) ++ x3_1) ++ (⟨#[13, 10, 13, 10]⟩ : ByteArray)).size + a0.size) = False := eq_false (Nat.not_lt.2 c13)
        obtain rfl := Option.some.inj H; go_wp2
        go_ret
        exact ⟨by first | rfl | (simp [errW_none, errW_some] <;> rfl) | (simp [*, errW_none, errW_some] <;> rfl), bl HB⟩
       ·rw [if_neg c13] at H; exact absurd H (by simp)
      ·rw [if_neg c12] at H; exact absurd H (by simp)
     ·rw [if_neg c11] at H; exact absurd H (by simp)
def glossatorlaw05_FrameWrites.f (k : Nat) (a0 : ByteArray) (l1 : List Int) : Option Bool := if 524288 < a0.size then some true else (frame_Write.f a0).bind fun x => (glossatorref05_Write.f k a0).bind fun y => some (x.toList == y.toList)
theorem glossatorlaw05_FrameWrites.mono : ∀ a0 l1 k, LeO (glossatorlaw05_FrameWrites.f k a0 l1) (glossatorlaw05_FrameWrites.f (k + 1) a0 l1) := by
 intro a0 l1 k
 unfold glossatorlaw05_FrameWrites.f
 exact LeO.ite (LeO.refl _) (LeO.bind (LeO.refl _) (fun _ => LeO.bind (glossatorref05_Write.mono _ _) (fun _ => LeO.refl _)))
theorem blk_new1 (w : World) (o1 o2 : Obj) : ((w.alloc o1).alloc o2).heap[w.heap.size + 1]? = some o2 := by
 have h := blk_new (w.alloc o1) o2
 simpa using h
set_option maxHeartbeats 4000000 in
set_option maxRecDepth 100000 in
theorem glossatorlaw05_FrameWrites.calls (k : Nat) (a0 : ByteArray) (A1 : Option Addr) (c1 : Nat) (l1 : List Int) (r : Bool) (w : World) (hr1 : Kd.C (Kd.int .u8) w A1 l1.length l1) (hc1 : l1.length ≤ c1) (hG : GlobOk w) (h : glossatorlaw05_FrameWrites.f k a0 l1 = some r) :
  Calls Tryd.prog 3 #[.string a0, .slice A1 l1.length c1] w fun e w' => e = .returned (.bool r) ∧ Below w.heap.size w w' := by
 unfold glossatorlaw05_FrameWrites.f at h
 by_cases hs : 524288 < a0.size
 ·rw [if_pos hs] at h
  obtain rfl := Option.some.inj h
  have t : decide ((524288 : Int) < (a0.size : Int)) = true := decide_eq_true (by omega)
  go_enter Tryd.func3, Tryd.ntmps3
  go_wp2
  go_ret
  exact ⟨rfl, Below.refl _ _⟩
 rw [if_neg hs] at h
 have t : decide ((524288 : Int) < (a0.size : Int)) = false := decide_eq_false (by omega)
 obtain ⟨x, hx, h⟩ := Option.bind_eq_some_iff.1 h
 obtain ⟨y, hy, h⟩ := Option.bind_eq_some_iff.1 h
 obtain rfl := Option.some.inj h
 have HX := Aside0.mk hx; have HY := Aside0.mk hy; have HG := Aside0.mk hG; clear hx hy hG hr1 hc1; go_enter Tryd.func3, Tryd.ntmps3
 go_wp2
 go_loopw [6, 7, 8] (fun v6 v7 v8 w' => ∃ i : Int, v6 = .int .i64 i ∧ (i = 0 ∨ i = 1 ∨ i = 2) ∧ Aside0 (Below w.heap.size w w') ∧ Aside0 (w'.heap[w.heap.size + 1]? = some (.cells #[.pointer none, .pointer (some ⟨w.heap.size, 0, none⟩)] 23 (0, 0))) ∧ Aside0 (w'.heap[w.heap.size]? = some (.cells #[.slice none 0 0, .nilFunc, .int .i64 0, .slice none 0 0, .int .i64 0] 28 (0, 0)))) (fun v6 _ _ _ => 2 - (intOf v6).toNat)
 case atStart => exact ⟨0, rfl, .inl rfl, ⟨below_alloc (below_alloc (Below.refl _ _) _) _⟩, ⟨blk_new1 _ _ _⟩, ⟨blk_alloc (blk_new w _) _⟩⟩
 case round =>
  obtain ⟨i, rfl, hi, HB, HC, HR⟩ := hrel
  have d0 := blk_cell HC.out 0
  have d1 := blk_cell HC.out 1
  obtain rfl | rfl | rfl := hi
  ·go_wp2_with (first | ((with_reducible refine gate_callee (f := 5) rfl ?_); refine goesL_ (some 26) rfl rfl Tryd.func5 (by kernel_rfl) rfl #[.pointer none] rfl (by (try simp only [List.map_toArray, List.map_cons, List.map_nil]); rfl) ?_; (with_reducible refine (next_idle _ _ (idle_none _)).mono ?_); rintro e wx ⟨rfl, hb⟩; refine ⟨_, rfl, ?_⟩; have n0_ := Aside0.mk (below_step HB.out hb); have n1_ := Aside0.mk (blk_below HC.out hb); have n2_ := Aside0.mk (blk_below HR.out hb); have d0 := blk_cell n1_.out 0; have d1 := blk_cell n1_.out 1; clear HB HC HR hb; have HB := n0_; have HC := n1_; have HR := n2_; clear n0_ n1_ n2_) | ((with_reducible refine gate_callee (f := 6) rfl ?_); refine goesL_ (some 34) rfl rfl Tryd.func6 (by kernel_rfl) rfl #[.pointer none, .slice A1 l1.length c1] rfl (by (try simp only [List.map_toArray, List.map_cons, List.map_nil]); rfl) ?_; (with_reducible refine (feed_idle _ _ _ (idle_none _)).mono ?_); rintro e wx ⟨rfl, hb⟩; refine ⟨_, rfl, ?_⟩; have n0_ := Aside0.mk (below_step HB.out hb); have n1_ := Aside0.mk (blk_below HC.out hb); have n2_ := Aside0.mk (blk_below HR.out hb); have d0 := blk_cell n1_.out 0; have d1 := blk_cell n1_.out 1; clear HB HC HR hb; have HB := n0_; have HC := n1_; have HR := n2_; clear n0_ n1_ n2_))
   refine (dead_idle _ _ (idle_none _)).mono ?_
   rintro e wx ⟨rfl, hb⟩
   have n0_ := Aside0.mk (below_step HB.out hb); have n1_ := Aside0.mk (blk_below HC.out hb); have n2_ := Aside0.mk (blk_below HR.out hb); clear HB HC HR hb; go_wp2
   exact ⟨⟨1, rfl, .inr (.inl rfl), n0_, n1_, n2_⟩, by simp [intOf]⟩
  ·go_wp2_with (first | ((with_reducible refine gate_callee (f := 5) rfl ?_); refine goesL_ (some 26) rfl rfl Tryd.func5 (by kernel_rfl) rfl #[.pointer (some ⟨w.heap.size, 0, none⟩)] rfl (by (try simp only [List.map_toArray, List.map_cons, List.map_nil]); rfl) ?_; (with_reducible refine (next_idle _ _ (idle_some HR.out)).mono ?_); rintro e wx ⟨rfl, hb⟩; refine ⟨_, rfl, ?_⟩; have n0_ := Aside0.mk (below_step HB.out hb); have n1_ := Aside0.mk (blk_below HC.out hb); have n2_ := Aside0.mk (blk_below HR.out hb); have d0 := blk_cell n1_.out 0; have d1 := blk_cell n1_.out 1; clear HB HC HR hb; have HB := n0_; have HC := n1_; have HR := n2_; clear n0_ n1_ n2_) | ((with_reducible refine gate_callee (f := 6) rfl ?_); refine goesL_ (some 34) rfl rfl Tryd.func6 (by kernel_rfl) rfl #[.pointer (some ⟨w.heap.size, 0, none⟩), .slice A1 l1.length c1] rfl (by (try simp only [List.map_toArray, List.map_cons, List.map_nil]); rfl) ?_; (with_reducible refine (feed_idle _ _ _ (idle_some HR.out)).mono ?_); rintro e wx ⟨rfl, hb⟩; refine ⟨_, rfl, ?_⟩; have n0_ := Aside0.mk (below_step HB.out hb); have n1_ := Aside0.mk (blk_below HC.out hb); have n2_ := Aside0.mk (blk_below HR.out hb); have d0 := blk_cell n1_.out 0; have d1 := blk_cell n1_.out 1; clear HB HC HR hb; have HB := n0_; have HC := n1_; have HR := n2_; clear n0_ n1_ n2_))
   refine (dead_idle _ _ (idle_some HR.out)).mono ?_
   rintro e wx ⟨rfl, hb⟩
   have n0_ := Aside0.mk (below_step HB.out hb); have n1_ := Aside0.mk (blk_below HC.out hb); have n2_ := Aside0.mk (blk_below HR.out hb); clear HB HC HR hb; go_wp2
   exact ⟨⟨2, rfl, .inr (.inr rfl), n0_, n1_, n2_⟩, by simp [intOf]⟩
  ·go_wp2_with (first | ((with_reducible refine gate_callee (f := 8) rfl ?_); refine goesL_ (some 52) rfl rfl Tryd.func8 (by kernel_rfl) rfl #[.string a0] rfl (by (try simp only [List.map_toArray, List.map_cons, List.map_nil]); rfl) ?_; (with_reducible refine (frame_Write.calls a0 x _ (GlobOk.below HG.out HB.out) HX.out).mono ?_); rintro e wx ⟨rfl, hb⟩; refine ⟨_, rfl, ?_⟩; have n0_ := Aside0.mk (below_step HB.out hb); clear HB hb; have HB := n0_; clear n0_) | ((with_reducible refine gate_callee (f := 9) rfl ?_); refine goesL_ (some 54) rfl rfl Tryd.func9 (by kernel_rfl) rfl #[.string a0] rfl (by (try simp only [List.map_toArray, List.map_cons, List.map_nil]); rfl) ?_; (with_reducible refine (glossatorref05_Write.calls k a0 y _  HY.out).mono ?_); rintro e wx ⟨rfl, hb⟩; refine ⟨_, rfl, ?_⟩; have n0_ := Aside0.mk (below_step HB.out hb); clear HB hb; have HB := n0_; clear n0_))
   go_ret
   exact ⟨rfl, HB.out⟩
/-- THE ONE PURE STATEMENT of glossatorlaw05_FrameWrites. -/
def glossatorlaw05_FrameWrites.Pure : Prop := ∀ (p0 : ByteArray) (p1 : List Int), p0.size ≤ 140737488351232 → (p1.length ≤ maxLen ∧ p1.length * 1 ≤ 140737488351232 ∧ (∀ x ∈ p1, (fun x : Int => (Lit.int .u8 x).wf = true) x)) → ∃ k, glossatorlaw05_FrameWrites.f k p0 p1 = some true
end Go.Proofs.YtjmchpkmhidejaaDoor.Q

end
