/- Words and walks of this claim, put together by this repo's wip/xlink.py out of Q0, Q1, Q2. -/
import Derived.Test.YtbhajflbbjipdaaDoorProg
import Derived.Below
import Derived.Deep.Draws
import Derived.Deep.AppendLies
import Derived.Maps.AppendAt
import Derived.OwnWalk
import Derived.Laws.BytesArg
import Derived.Laws.MakeOwn
import Derived.Laws.OwnMore
import Derived.Deep.OwnRows
import Derived.Tactics
import Derived.Lib.ConvBytes
import Derived.Laws.Slices
import Derived.WalkKit
import Derived.KernelRfl
import Derived.RowKit3
import Derived.Deep.LoopGhost
import Derived.Deep.QuietTactic
import Derived.BigQuiet
import Derived.WideLaws
import Derived.Deep.DeepCutAuto
import Derived.Deep.CutBlock
import Derived.Deep.RegionHeld3
import Derived.Laws.Rows
import Derived.Lib.AppendStr
import Derived.ArgAppend
import Derived.Laws.IdiomCopy
import Derived.OrdersHeld
import Derived.Laws.BitsLemmas
import Derived.RowKit
import Derived.Test.YtbhajflbbjipdaaDoorL2
import Derived.Shelf.Strings.BuilderK
import Derived.Shelf.Strings.BuilderRune
import Derived.RangeFuncBox
import Derived.Laws.StructEq
import Derived.Lib.OthersKept
import Derived.Deep.RegionWith
import Derived.IntWalk
import Derived.Carry
import Derived.Shelf.Strings.SlTrimAscii
import Derived.Lib.AtoiErrMem
import Derived.RegionTactic
import Derived.BigRegion
import Derived.ChangeAlike
import Derived.Deep.AppendSrc
import Derived.Deep.Upon
import Derived.Deep.RegionLaw
import Derived.Deep.CutRange
import Derived.Lib.SlBytesConst
import Derived.Laws.IdiomStrings
import Derived.Lib.ItoaMem
import Derived.Lib.ItoaLen
import Derived.Lib.LaidU8
import Derived.Lib.LaidU8T
import Derived.MakeChecks
import Derived.Test.YtbhajflbbjipdaaDoorL3
import Derived.Lib.SmallJoins
import Derived.Lib.AppendIntMem
import Derived.LaidLaws
import Derived.StillTailTactics
import Derived.Lib.RuneCountTail
import Derived.Maps.Own
import Derived.Maps.OwnSet
import Derived.Maps.Views
import Derived.Maps.OwnOps
import Derived.Recover
import Derived.Lib.DecodeN
import Derived.Laws.Tables
import Derived.Laws.CopyOwn
import Derived.Lib.ValidLaws
import Derived.Lib.MapLaws
import Derived.Lib.RuneBytes
import Derived.Lib.TrimUEq
import Derived.Laws.EntriesVeiled
import Derived.Lib.ItoaNum
import Derived.Lib.AtoiAll
import Derived.RangeFuncNested
import Derived.RangeFuncLeaves
import Derived.Shelf.Abstract
import Derived.OwnWalkIn
import Derived.TacticsInMore
import Derived.LoopNIn
import Derived.LoopIn
import Derived.Test.YtbhajflbbjipdaaDoorL0
import Derived.Test.YtbhajflbbjipdaaDoorL4
import Derived.Test.YtbhajflbbjipdaaDoorL1
import Derived.OrdersIn
import Derived.TacticsIn
import Derived.RangeFuncCalls
import Derived.Deep.Quiet
import Derived.Deep.MidRow
import Derived.Lib.RuneCount
section
namespace Go.Proofs.YtbhajflbbjipdaaDoor.Q
open Go.RowKit Go.Proofs.YtbhajflbbjipdaaDoorW.PrintWords Go.Proofs.YtbhajflbbjipdaaDoorW.PrintLast Go.Proofs.YtbhajflbbjipdaaDoorW.PrintMore
attribute [local go_sem] max2_int min2_int max_two min_two max_three min_three max_four min_four   
set_option linter.unusedVariables false
set_option linter.unusedSimpArgs false
def errW : Option Int → Value
  | none => .nilIface
  | some c => .iface 0 (.int .i64 c)
theorem errW_none : errW none = .nilIface := rfl
theorem errW_some (c : Int) : errW (some c) = .iface 0 (.int .i64 c) := rfl
/-- a list is empty where it is no other than the empty one -/
theorem xEmpty_ne (l : List UInt8) : l.isEmpty = !(l != []) := by cases l <;> rfl
/-- Worlds behind drawings and new blocks: what was below stays so. -/
theorem bl {B : Nat} {w0 w w1 : World} (h : Aside0 (Below B w0 w)) (hs : Below B w0 w → Below B w0 w1 := by intro h_; repeat (first | (with_reducible first | exact h_ | apply below_alloc | apply pw_below_drewN | apply below_drew1) | exact h_)) : Below B w0 w1 := hs h.out
/-- A table of whole numbers that reads as its initialiser lays it. -/
theorem tab_of_reads {P : Program} {W : World} {name : String} {k : IntKind} {zs : List Int} {g : Nat} {t e : TypeId} {n : Nat} (hg : P.globalNamed name = some g) (hty : (P.globals[g]?).map (·.type) = some t) (ht : P.underlying t = some (.array n e)) (he : P.underlying e = some (.int k)) (hce : P.cellsOf e = 1) (hct : P.cellsOf t = n)
    (h : Lib.VarReads P W name (Lib.tabData k zs)) : Lib.TabIs P W name k zs := by
  obtain ⟨g', t', cs, fuel, p, hg', ht', hvar, hd⟩ := h
  obtain rfl := Option.some.inj (hg.symm.trans hg')
  obtain rfl := Option.some.inj (hty.symm.trans ht')
  unfold Lib.TabIs
  rw [hvar, ← Lib.cells_of_tab ht he hce hct hd]
/-- A variable of an interface's type, that reads as a value of some type. -/
theorem err_of_reads {P : Program} {W : World} {name nm : String} {d : DataW Unit} {g : Nat} {t : TypeId} {ms : Array (String × TypeId)} (hg : P.globalNamed name = some g) (hty : (P.globals[g]?).map (·.type) = some t) (ht : P.underlying t = some (.interface ms))
    (h : Lib.VarReads P W name (.iface nm d)) : ∃ te pe, W.cell? ⟨g, 0, none⟩ = some (.iface te pe) := by
  obtain ⟨g', t', cs, fuel, p, hg', ht', hvar, hd⟩ := h
  obtain rfl := Option.some.inj (hg.symm.trans hg')
  obtain rfl := Option.some.inj (hty.symm.trans ht')
  obtain ⟨f1, u, v, hc, _, _⟩ := iface_of_trod ht hd
  have hcell := World.var?_cell hg hvar 0
  refine ⟨u, v, hcell.trans ?_⟩
  rw [← Array.getElem?_toList, hc]
  rfl
/-- A table of internal/strconv reads as its initialiser lays it; an error of strconv's is one; a length of internal/bytealg's is some number. -/
structure GlobOk (w : World) : Prop where
  tab : Lib.TabIs Tryd.prog w "internal/strconv.uint64pow10" .u64 Lib.pow10Tab
  rng : ∃ te pe, w.cell? ⟨8, 0, none⟩ = some (.iface te pe)
  mlen : ∃ m, w.cell? ⟨0, 0, none⟩ = some (.int .i64 m)
theorem GlobOk.below {w w' : World} (h : GlobOk w) (hb : Below w.heap.size w w') : GlobOk w' := ⟨Joins.tab_stays (g := 4) (by kernel_rfl) h.tab hb (Nat.le_refl _), by obtain ⟨te, pe, hc⟩ := h.rng; exact ⟨te, pe, pw_cell_below hb hc⟩, by obtain ⟨m, hc⟩ := h.mlen; exact ⟨m, pw_cell_below hb hc⟩⟩
theorem GlobOk.of_laid {W : World} {l : List (String × DataW Unit)} {d3 d6 : DataW Unit} {nm6 : String} {d7 : DataW Unit} (hL : laidMetH Tryd.prog l W) (hsh : W.ShapedOpen Tryd.prog) (hp : (l.all fun x => x.2.handleName?.isNone) = true) (m3 : ("internal/strconv.uint64pow10", d3) ∈ l) (e3 : d3 = Lib.tabData .u64 Lib.pow10Tab) (m6 : ("strconv.ErrRange", d6) ∈ l) (e6 : d6 = .iface nm6 d7) : GlobOk W := by
  rw [MakeChecks.laidMetH_plain _ _ _ hp] at hL
  subst e3 e6
  exact ⟨tab_of_reads (g := 4) (t := 118) (e := 91) (n := 20) (by kernel_rfl) (by kernel_rfl) (by kernel_rfl) (by kernel_rfl) (by kernel_rfl) (by kernel_rfl) (Lib.laidMet.reads hL m3), err_of_reads (g := 8) (t := 68) (by kernel_rfl) (by kernel_rfl) Tryd.underlying68 (Lib.laidMet.reads hL m6), Tryd.laysM145.s1_3 W hsh⟩
set_option maxRecDepth 100000 in
theorem ir_err (s : ByteArray) (w : World) (hascii : ∀ (j : Nat) b, s.data.toList[j]? = some b → b.toNat < 128) : Calls Tryd.prog 69 #[.string s, .int .i32 65533] w fun e w' => e = .returned (.int .i64 (-1)) ∧ Below w.heap.size w w' := by
  have HA : Aside (∀ (j : Nat) b, s.data.toList[j]? = some b → b.toNat < 128) := hascii
  clear hascii
  go_enter Tryd.func69, Tryd.ntmps69
  go_wp2
  go_loopg [5, 6] s.size (fun g _ _ wx => ∃ i : Nat, i + g = s.size ∧ wx = w.iter s i)
  case atStart => exact ⟨0, by omega, rfl⟩
  case round =>
    obtain ⟨i, hig, rfl⟩ := hrel
    cases gk with
    | zero =>
      obtain rfl : i = s.size := by omega
      have hnx := run_next_end (P := Tryd.prog) w s s.size
      go_wp2
      go_ret
      exact ⟨rfl, (Below.refl _ _).alloc (Nat.le_refl _) _⟩
    | succ g =>
      have hi : i < s.size := by omega
      obtain ⟨x, hx⟩ : ∃ x : UInt8, s[i]'hi = x := ⟨_, rfl⟩
      have hxl : s.data.toList[i]? = some x := by rw [← hx]; exact Lib.data_getElem? s i hi
      have hx128 : x.toNat < 128 := HA.out i x hxl
      have hne : ((x.toNat : Int) == 65533) = false := beq_eq_false_iff_ne.2 (by omega)
      have hnx := fun ty => run_next_ascii (P := Tryd.prog) w s i ty hi (by rw [hx]; exact hx128)
      rw [hx] at hnx
      clear hxl hx
      go_wp2
      go_roundg g
      case measure => omega
      case rel => exact ⟨i + 1, by omega, rfl⟩
theorem decode_cont (s : ByteArray) (p j : Nat) (hj : 1 ≤ j) (hjw : j < (Utf8.decode s p).2) (b : UInt8) (hb : s.data.toList[p + j]? = some b) : 128 ≤ b.toNat := by
  have key : ∀ k, s.data.toList[p + k]? = some b → (s.get! (p + k)).toNat / 64 = 2 → 128 ≤ b.toNat := by
    intro k hk hd
    obtain ⟨hlt, hk⟩ := List.getElem?_eq_some_iff.1 hk
    have hlt' : p + k < s.size := by rw [Array.length_toList] at hlt; exact hlt
    have : s.get! (p + k) = b := by
      rw [← hk]
      simp [ByteArray.get!]
      exact getElem!_pos s.data (p + k) hlt'
    rw [this] at hd
    omega
  refine key j hb ?_
  revert hjw
  simp only [Utf8.decode]
  repeat' split
  all_goals intro hjw
  all_goals (try (simp at hjw; omega))
  all_goals simp at hjw
  all_goals obtain rfl | rfl | rfl : j = 1 ∨ j = 2 ∨ j = 3 := by omega
  all_goals simp_all only [Bool.and_eq_true, decide_eq_true_eq, beq_iff_eq]
  all_goals omega
theorem nl_width (s : ByteArray) (pos : Nat) (h : pos < s.size) : 1 ≤ (Utf8.decode s pos).2 := by
  by_cases ha : (s[pos]'h).toNat < 128
  · rw [decode_ascii s pos h ha]; exact Nat.le_refl _
  · exact (decode_high s pos h (by omega)).2
end Go.Proofs.YtbhajflbbjipdaaDoor.Q

end
section
namespace Go.Proofs.YtbhajflbbjipdaaDoor.Q
open Go.RowKit Go.Proofs.YtbhajflbbjipdaaDoorW.PrintWords Go.Proofs.YtbhajflbbjipdaaDoorW.PrintLast Go.Proofs.YtbhajflbbjipdaaDoorW.PrintMore
attribute [local go_sem] max2_int min2_int max_two min_two max_three min_three max_four min_four   
set_option linter.unusedVariables false
set_option linter.unusedSimpArgs false
theorem enc_many2 (r : Int) (h0 : 128 ≤ r) (hv : Lib.validRune r = true) : (∃ a b : UInt8, ((10 : Int) == (b.toNat : Int)) = false ∧ Utf8.encode r = ⟨#[a, b]⟩) ∨ (∃ a b c, Utf8.encode r = ⟨#[a, b, c]⟩) ∨ ∃ a b c d, Utf8.encode r = ⟨#[a, b, c, d]⟩ := by
 have v : Utf8.valid r = true := by
  simp only [Lib.validRune, decide_eq_true_eq] at hv
  simp [Utf8.valid]; omega
 have hx : ¬ r.toNat < 128 := by omega
 unfold Utf8.encode
 simp only [v, if_true]
 rw [if_neg hx]
 by_cases h2 : r.toNat < 2048
 ·rw [if_pos h2]
  refine .inl ⟨_, _, ?_, rfl⟩
  have : (UInt8.ofNat (128 + r.toNat % 64)).toNat = 128 + r.toNat % 64 := by simp; omega
  rw [this]
  exact beq_eq_false_iff_ne.2 (by omega)
 ·rw [if_neg h2]
  by_cases h3 : r.toNat < 65536
  ·rw [if_pos h3]; exact .inr (.inl ⟨_, _, _, rfl⟩)
  ·rw [if_neg h3]; exact .inr (.inr ⟨_, _, _, _, rfl⟩)
set_option maxRecDepth 100000 in
set_option maxHeartbeats 1600000 in
theorem jr_other (r : Int) (w : World) (h0 : 128 ≤ r) (h1 : ¬ r = 65533) : Calls Tryd.prog 69 #[.string ⟨#[13, 10]⟩, .int .i32 r] w fun e w' => e = .returned (.int .i64 (-1)) ∧ Below w.heap.size w w' := by
 have h0' : ¬ r < 128 := by omega
 have h00 : 0 ≤ r := by omega
 have h1b : (r == 65533) = false := by simp [h1]
 cases hv : Lib.validRune r
 ·go_enter Tryd.func69, Tryd.ntmps69
  go_wp2_with (go_at_call 94; refine (Tryd.utf8_ValidRune r w).mono ?_; rintro e w' ⟨rfl, rfl⟩; rw [hv])
  go_ret
  exact ⟨rfl, Below.refl _ _⟩
 ·have HE := Aside0.mk (enc_many2 r h0 hv)
  go_enter Tryd.func69, Tryd.ntmps69
  go_wp2_with (go_at_call 94; refine (Tryd.utf8_ValidRune r w).mono ?_; rintro e w' ⟨rfl, rfl⟩; rw [hv])
  go_step3
  go_wp2
  rcases HE.out with ⟨a, b, hb, hE⟩ | ⟨a, b, c, hE⟩ | ⟨a, b, c, d, hE⟩
  ·rw [hE, show wrap64 (((⟨#[a, b]⟩ : ByteArray).size : Int) - 1) = 1 from by simp [ByteArray.size, wrap64]]
   clear HE hE; go_loopg [9, 10] 0 (fun g x y wx => x = .int .i64 1 ∧ y = .int .i64 0 ∧ wx = w')
   case atStart => exact ⟨rfl, rfl, rfl⟩
   case round =>
    obtain ⟨rfl, rfl, rfl⟩ := hrel
    go_wp2
    go_step3
    go_wp2
    go_region
    go_wp2
    rotate_left
    ·rename_i hx Kx hKx
     exfalso
     change (((10 : UInt8).toNat : Int) != (b.toNat : Int)) = false at hx
     simp only [bne, Bool.not_eq_false'] at hx
     rw [show (((10 : UInt8).toNat : Nat) : Int) = 10 from rfl, hb] at hx
     cases hx
    go_region_with (go_at_call 93; refine (Tryd.strings_IndexByte _ _ _).mono ?_; rintro e w' ⟨rfl, rfl⟩)
    all_goals go_wp2
    all_goals (repeat (rw [Exit.noGoto_ret]; go_wp2))
    all_goals go_ret
    all_goals exact ⟨rfl, (Below.refl _ _).drew.drew⟩
  ·rw [hE, show wrap64 (((⟨#[a, b, c]⟩ : ByteArray).size : Int) - 1) = 2 from by simp [ByteArray.size, wrap64]]
   clear HE hE; go_loopg [9, 10] 0 (fun g x y wx => x = .int .i64 2 ∧ y = .int .i64 0 ∧ wx = w')
   case atStart => exact ⟨rfl, rfl, rfl⟩
   case round =>
    obtain ⟨rfl, rfl, rfl⟩ := hrel
    go_wp2
    rw [Exit.noGoto_ret]
    go_wp2
    go_ret
    exact ⟨rfl, Below.refl _ _⟩
  ·rw [hE, show wrap64 (((⟨#[a, b, c, d]⟩ : ByteArray).size : Int) - 1) = 3 from by simp [ByteArray.size, wrap64]]
   clear HE hE; go_loopg [9, 10] 0 (fun g x y wx => x = .int .i64 3 ∧ y = .int .i64 0 ∧ wx = w')
   case atStart => exact ⟨rfl, rfl, rfl⟩
   case round =>
    obtain ⟨rfl, rfl, rfl⟩ := hrel
    go_wp2
    rw [Exit.noGoto_ret]
    go_wp2
    go_ret
    exact ⟨rfl, Below.refl _ _⟩
theorem nl_ascii2 : ∀ (j : Nat) b, (⟨#[13, 10]⟩ : ByteArray).data.toList[j]? = some b → b.toNat < 128 := by
 intro j b h
 match j with
 | 0 => simp at h; subst h; decide
 | 1 => simp at h; subst h; decide
 | j + 2 => simp at h
theorem jr_out (r : Int) (w : World) (h0 : 0 ≤ r) (h1 : ¬ r = 10) (h2 : ¬ r = 13) : Calls Tryd.prog 69 #[.string ⟨#[13, 10]⟩, .int .i32 r] w fun e w' => e = .returned (.int .i64 (-1)) ∧ Below w.heap.size w w' := by
 by_cases h : r < 128
 ·refine (Tryd.strings_IndexRune_ascii ⟨#[13, 10]⟩ r w h0 h).mono ?_
  rintro e w' ⟨rfl, rfl⟩
  refine ⟨?_, Below.refl _ _⟩
  congr 2
  have e1 : ¬ r.toNat.toUInt8 = 10 := fun h => h1 (by have := congrArg UInt8.toNat h; simp at this; omega)
  have e2 : ¬ r.toNat.toUInt8 = 13 := fun h => h2 (by have := congrArg UInt8.toNat h; simp at this; omega)
  have f1 : ¬ (10 : UInt8) = r.toNat.toUInt8 := fun h => e1 h.symm
  have f2 : ¬ (13 : UInt8) = r.toNat.toUInt8 := fun h => e2 h.symm
  simp [Lib.indexByte, e1, e2, f1, f2]
 ·by_cases h3 : r = 65533
  ·subst h3; exact ir_err _ w nl_ascii2
  ·exact jr_other r w (by omega) h3
theorem jr_in (r : Int) (w : World) (h1 : r = 10 ∨ r = 13) : Calls Tryd.prog 69 #[.string ⟨#[13, 10]⟩, .int .i32 r] w fun e w' => e = .returned (.int .i64 (if r = 13 then 0 else 1)) ∧ w' = w := by
 refine (Tryd.strings_IndexRune_ascii ⟨#[13, 10]⟩ r w (by omega) (by omega)).mono ?_
 rintro e w' ⟨rfl, rfl⟩
 refine ⟨?_, rfl⟩
 rcases h1 with rfl | rfl <;> rfl
theorem NoAny_skip2 {s : ByteArray} {i : Nat} (hi : i < s.size) (h : Lib.NoAny s.data.toList [13, 10] i) (h1 : ¬ (Utf8.decode s i).1 = 10) (h2 : ¬ (Utf8.decode s i).1 = 13) : Lib.NoAny s.data.toList [13, 10] (i + (Utf8.decode s i).2) := by
 intro j b hj hb
 by_cases hlt : j < i
 ·exact h j b hlt hb
 by_cases he : j = i
 ·subst he; by_cases ha : (s[j]'hi).toNat < 128
  ·rw [decode_ascii s j hi ha] at h1 h2
   rw [Lib.data_getElem? s j hi] at hb
   obtain rfl := Option.some.inj hb
   have e1 : ¬ s[j] = 10 := fun h => h1 (by rw [h]; rfl)
   have e2 : ¬ s[j] = 13 := fun h => h2 (by rw [h]; rfl)
   simp [e1, e2]
  ·rw [Lib.data_getElem? s j hi] at hb
   obtain rfl := Option.some.inj hb
   have e1 : ¬ s[j] = 10 := fun h => ha (by rw [h]; decide)
   have e2 : ¬ s[j] = 13 := fun h => ha (by rw [h]; decide)
   simp [e1, e2]
 ·have := decode_cont s i (j - i) (by omega) (by omega) b (by rw [show i + (j - i) = j by omega]; exact hb)
  have e1 : ¬ b = 10 := fun h => by rw [h] at this; revert this; decide
  have e2 : ¬ b = 13 := fun h => by rw [h] at this; revert this; decide
  simp [e1, e2]
set_option maxRecDepth 100000 in
set_option maxHeartbeats 1600000 in
theorem ja_short (s : ByteArray) (w : World) (h8 : s.size ≤ 8) : Calls Tryd.prog 48 #[.string s, .string ⟨#[13, 10]⟩] w fun e w' => e = .returned (.int .i64 (Lib.indexAny s.data.toList [13, 10])) ∧ Below w.heap.size w w' := by
 have h8z : decide ((8 : Int) < (s.size : Int)) = false := decide_eq_false (by omega)
 go_enter Tryd.func48, Tryd.ntmps48
 go_wp2_with (go_at_call 70; refine (Tryd.strings_shouldUseASCIISet _ _).mono ?_; rintro e w' ⟨rfl, hw⟩; rw [hw, h8z])
 go_loopg [9, 10] s.size (fun g _ _ wx => ∃ i : Nat, s.size ≤ i + g ∧ wx.heap[w.heap.size]? = some (.stringIter s i) ∧ Below w.heap.size w wx ∧ Lib.NoAny s.data.toList [13, 10] i)
 case atStart => exact ⟨0, by omega, World.iter_heap _ _ _, (Below.refl _ _).alloc (Nat.le_refl _) _, Lib.NoAny.zero _ _⟩
 case round =>
  obtain ⟨i, hig, hk, hB, hno⟩ := hrel
  have HN : Aside (Lib.NoAny s.data.toList [13, 10] i) := hno
  have HK := Aside0.mk hk; have HB := Aside0.mk hB; clear hno hB; by_cases hi : i < s.size
  ·by_cases hc : (Utf8.decode s i).1 = 10 ∨ (Utf8.decode s i).1 = 13
   ·obtain ⟨r, hr⟩ : ∃ r, (Utf8.decode s i).1 = r := ⟨_, rfl⟩
    have hnx := fun ty => Lib.run_next_any_at (P := Tryd.prog) _ w.heap.size s i ty hk hi
    rw [hr] at hnx hc
    have HR := Aside0.mk hr; have HC := Aside0.mk hc; have hp : decide ((0 : Int) ≤ (if (r : Int) = 10 then 0 else 1)) = true := by split <;> rfl
    clear hr hc; go_wp2_with (go_at_call 69; refine (jr_in (r : Int) _ (by have := HC.out; omega)).mono ?_; rintro e w' ⟨rfl, hw⟩; rw [hw])
    all_goals go_ret
    all_goals
     have hx := Lib.data_getElem? s i hi
     have hx13 : (s[i]'hi) = 10 ∨ (s[i]'hi) = 13 := by
      have hc : (Utf8.decode s i).1 = 10 ∨ (Utf8.decode s i).1 = 13 := by rw [HR.out]; exact HC.out
      by_cases ha : (s[i]'hi).toNat < 128
      ·rw [decode_ascii s i hi ha] at hc
       rcases hc with hc | hc
       ·exact .inl (UInt8.toNat_inj.1 hc)
       ·exact .inr (UInt8.toNat_inj.1 hc)
      ·have := (decode_high s i hi (by omega)).1
       omega
     have hin : ([13, 10] : List UInt8).contains (s[i]'hi) = true := by rcases hx13 with h | h <;> rw [h] <;> rfl
    all_goals exact ⟨by rw [Lib.indexAny_hit HN.out hx hin]; rfl, Lib.below_iterAt HB.out (Nat.le_refl _) _ _⟩
   ·obtain ⟨r, hr⟩ : ∃ r, (Utf8.decode s i).1 = r := ⟨_, rfl⟩
    have hnx := fun ty => Lib.run_next_any_at (P := Tryd.prog) _ w.heap.size s i ty hk hi
    rw [hr] at hnx hc
    have HR := Aside0.mk hr; have HC := Aside0.mk hc; clear hr hc; go_wp2_with (go_at_call 69; refine (jr_out (r : Int) _ (by omega) (by have := HC.out; omega) (by have := HC.out; omega)).mono ?_; rintro e w' ⟨rfl, hb⟩; have HB2 := Aside0.mk hb; clear hb)
    go_roundg (gk - 1)
    case measure => omega
    case rel =>
     refine ⟨i + (Utf8.decode s i).2, by have := nl_width s i hi; omega, ?_, ?_, ?_⟩
     ·refine (HB2.out.block _ ?_).trans ?_
      ·rw [Lib.iterAt_size]; exact (Array.getElem?_eq_some_iff.1 HK.out).1
      ·exact Lib.iterAt_heap _ _ _ _ _ HK.out
     ·exact (Lib.below_iterAt HB.out (Nat.le_refl _) _ _).trans (HB2.out.mono (by rw [Lib.iterAt_size]; exact HB.out.size))
     ·exact NoAny_skip2 hi HN.out (by rw [HR.out]; have := HC.out; omega) (by rw [HR.out]; have := HC.out; omega)
  ·have hnx := fun ty => Lib.run_next_end_at (P := Tryd.prog) _ w.heap.size s i ty hk hi
   go_wp2
   go_ret
   exact ⟨by rw [Lib.indexAny_none (fun j b hj hb => HN.out j b (by rw [← Lib.size_eq] at hj; omega) hb)]; rfl, HB.out⟩
theorem ja_nl (s : ByteArray) (w : World) (hs : s.size < 4294967281) : Calls Tryd.prog 48 #[.string s, .string ⟨#[13, 10]⟩] w fun e w' => e = .returned (.int .i64 (Lib.indexAny s.data.toList [13, 10])) ∧ Below w.heap.size w w' := by
 by_cases h8 : s.size ≤ 8
 ·exact ja_short s w h8
 ·refine (Tryd.strings_IndexAny_long (zero_of_info (show (Tryd.prog.info? 84).map (fun i => (i.zero, i.size)) = some (some (.agg (Array.replicate 256 (.bool false))), 256) by kernel_rfl)).1 s ⟨#[13, 10]⟩ w (by decide) (by omega) hs (by decide) nl_ascii2).mono fun e w' ⟨h1, h2⟩ => ⟨h1, ?_⟩
  rw [h2]
  exact ((Below.refl _ _).alloc (Nat.le_refl _) _).alloc (by simp) _
theorem cut_col : ∀ (l : List UInt8), Lib.cut l [58] = if 58 ∈ l then (l.takeWhile (· != 58), (l.dropWhile (· != 58)).drop 1, true) else (l, [], false) := by
 have key : ∀ (l : List UInt8), (58 ∈ l → 0 ≤ Lib.index l [58] ∧ l.take (Lib.index l [58]).toNat = l.takeWhile (· != 58) ∧ l.drop ((Lib.index l [58]).toNat + 1) = (l.dropWhile (· != 58)).drop 1) ∧ (58 ∉ l → Lib.index l [58] = -1) := by
  intro l
  induction l with
  | nil => exact ⟨fun h => by simp at h, fun _ => rfl⟩
  | cons c r ih =>
   rw [Lib.index]
   by_cases hc : c = 58
   ·subst hc; have hp : ([58] : List UInt8).isPrefixOf (58 :: r) = true := by simp [List.isPrefixOf]
    refine ⟨fun _ => ?_, fun h => absurd (List.mem_cons_self ..) h⟩
    rw [hp, if_pos rfl]
    simp
   ·have hp : ([58] : List UInt8).isPrefixOf (c :: r) = false := by simp [List.isPrefixOf]; exact fun h => hc h.symm
    rw [hp, if_neg (by decide)]
    refine ⟨fun h => ?_, fun h => ?_⟩
    ·have hr : 58 ∈ r := by rcases List.mem_cons.1 h with h | h; exact absurd h.symm hc; exact h
     obtain ⟨h0, h1, h2⟩ := ih.1 hr
     rw [if_neg (by simp; omega)]
     obtain ⟨i, hi⟩ : ∃ i : Nat, Lib.index r [58] = i := ⟨_, (Int.toNat_of_nonneg h0).symm⟩
     rw [hi] at h1 h2 ⊢
     have e : ((i : Int) + 1).toNat = i + 1 := by omega
     rw [Int.toNat_natCast] at h1 h2
     rw [e, List.take_succ_cons, List.drop_succ_cons, h1, h2, List.takeWhile_cons, List.dropWhile_cons]
     have hne : (c != 58) = true := by simpa using hc
     rw [hne]
     exact ⟨by omega, rfl, rfl⟩
    ·rw [ih.2 (fun k => h (List.mem_cons_of_mem _ k))]
     rfl
 intro l
 unfold Lib.cut
 by_cases h : 58 ∈ l
 ·obtain ⟨h0, h1, h2⟩ := (key l).1 h
  rw [if_pos h0, if_pos h, h1]
  show (_, l.drop ((Lib.index l [58]).toNat + 1), true) = _
  rw [h2]
 ·rw [(key l).2 h, if_neg (by decide), if_neg h]
theorem any_crlf (l : List UInt8) : Lib.containsAny l [13, 10] = decide (13 ∈ l ∨ 10 ∈ l) := by
 unfold Lib.containsAny
 rw [decide_eq_decide]
 induction l with
 | nil => simp [Lib.indexAny]
 | cons c r ih =>
  have hge := Lib.indexAny_ge [13, 10] r
  unfold Lib.indexAny
  by_cases h : ([13, 10] : List UInt8).contains c = true
  ·rw [if_pos h]
   have : c = 13 ∨ c = 10 := by simpa using h
   refine ⟨fun _ => ?_, fun _ => Int.le_refl _⟩
   rcases this with rfl | rfl <;> simp
  ·rw [if_neg h]
   have hc : ¬ (c = 13 ∨ c = 10) := by simpa using h
   have hm : (13 ∈ c :: r ∨ 10 ∈ c :: r) ↔ (13 ∈ r ∨ 10 ∈ r) := by
    simp only [List.mem_cons]
    constructor
    ·rintro ((h | h) | (h | h))
     ·exact absurd (.inl h.symm) hc
     ·exact .inl h
     ·exact absurd (.inr h.symm) hc
     ·exact .inr h
    ·rintro (h | h)
     ·exact .inl (.inr h)
     ·exact .inr (.inr h)
   rw [hm, ← ih]
   split
   ·rename_i e; simp at e; omega
   ·rename_i e; simp at e; omega
def oddR (r : Nat) : Bool := decide (r < 33) || decide (126 < r)
theorem odd_func (s : ByteArray) : decide (0 ≤ Lib.idxFunc oddR true s) = Go.Proofs.YtbhajflbbjipdaaDoor.XFm.oddN s.data.toList := by
 have key : ∀ (f pos : Nat), s.size ≤ pos + f → pos ≤ s.size → decide (0 ≤ Lib.idxFuncFrom oddR true s f pos) = Go.Proofs.YtbhajflbbjipdaaDoor.XFm.oddN (s.data.toList.drop pos) := by
  intro f
  induction f with
  | zero =>
   intro pos h h2
   rw [List.drop_of_length_le (by rw [Array.length_toList]; show s.size ≤ pos; omega)]
   rfl
  | succ f ih =>
   intro pos h h2
   rw [Lib.idxFuncFrom]
   by_cases hp : pos < s.size
   ·have hl : pos < s.data.toList.length := by rw [Array.length_toList]; exact hp
    have hb : s.data.toList[pos] = s[pos]'hp := rfl
    rw [if_pos hp, List.drop_eq_getElem_cons hl, hb]
    unfold Go.Proofs.YtbhajflbbjipdaaDoor.XFm.oddN
    rw [List.any_cons]
    by_cases ha : (s[pos]'hp).toNat < 128
    ·rw [decode_ascii s pos hp ha]
     dsimp only
     unfold oddR at ih ⊢
     cases hc : (decide ((s[pos]'hp).toNat < 33) || decide (126 < (s[pos]'hp).toNat)) with
     | true => rw [if_pos rfl, Bool.true_or]; exact decide_eq_true (by omega)
     | false =>
      rw [if_neg (by decide), Bool.false_or]
      exact ih (pos + 1) (by omega) (by omega)
    ·have hh := decode_high s pos hp (by omega)
     rw [if_pos (by unfold oddR; rw [decide_eq_true (show 126 < (Utf8.decode s pos).1 by omega), Bool.or_true])]
     rw [decide_eq_true (show 126 < (s[pos]'hp).toNat by omega), Bool.or_true, Bool.true_or]
     exact decide_eq_true (by omega)
   ·rw [if_neg hp, List.drop_of_length_le (by rw [Array.length_toList]; show s.size ≤ pos; omega)]
    rfl
 exact key s.size 0 (by omega) (Nat.zero_le _)
theorem fold_called {n : List UInt8} : Lib.equalFold n [67, 111, 110, 116, 101, 110, 116, 45, 76, 101, 110, 103, 116, 104] = Go.Proofs.YtbhajflbbjipdaaDoor.XFm.calledB n := by
 have up : ∀ (x a b : UInt8), 65 ≤ a.toNat ∧ a.toNat ≤ 90 → b.toNat = a.toNat + 32 → Lib.foldEq x a = decide (Go.Proofs.YtbhajflbbjipdaaDoor.XFm.lower x = b) := by
  intro x a b h1 h2
  unfold Lib.foldEq Go.Proofs.YtbhajflbbjipdaaDoor.XFm.lower
  rw [decide_eq_decide]
  split
  ·rw [← UInt8.toNat_inj, UInt8.toNat_add]
   have : (32 : UInt8).toNat = 32 := rfl
   omega
  ·rw [← UInt8.toNat_inj]
   omega
 have e1 : ∀ (x : UInt8), Lib.foldEq x 67 = decide (Go.Proofs.YtbhajflbbjipdaaDoor.XFm.lower x = 99) := fun x => up x 67 99 (by decide) rfl
 have e2 : ∀ (x : UInt8), Lib.foldEq x 76 = decide (Go.Proofs.YtbhajflbbjipdaaDoor.XFm.lower x = 108) := fun x => up x 76 108 (by decide) rfl
 have lw : ∀ (x y : UInt8), (97 ≤ y.toNat ∧ y.toNat ≤ 122 ∨ y.toNat = 45) → Lib.foldEq x y = decide (Go.Proofs.YtbhajflbbjipdaaDoor.XFm.lower x = y) := Go.Proofs.YtbhajflbbjipdaaDoor.XFm.lower_fold
 have key : ∀ (t u : List UInt8), t.length = u.length → (∀ (i : Nat) (a b : UInt8), t[i]? = some a → u[i]? = some b → ∀ x, Lib.foldEq x a = decide (Go.Proofs.YtbhajflbbjipdaaDoor.XFm.lower x = b)) → ∀ m : List UInt8, Lib.equalFold m t = decide (m.map Go.Proofs.YtbhajflbbjipdaaDoor.XFm.lower = u) := by
  intro t
  induction t with
  | nil => intro u hu _ m; cases u with
   | nil => cases m <;> simp [Lib.equalFold]
   | cons b u => simp at hu
  | cons a t ih => intro u hu h m; cases u with
   | nil => simp at hu
   | cons b u =>
    cases m with
    | nil => simp [Lib.equalFold]
    | cons x m =>
     rw [Lib.equalFold, h 0 a b rfl rfl x, ih u (by simpa using hu) (fun i a' b' h1 h2 => h (i + 1) a' b' (by simpa using h1) (by simpa using h2)) m]
     simp only [List.map_cons, List.cons.injEq, Bool.decide_and]
 unfold Go.Proofs.YtbhajflbbjipdaaDoor.XFm.calledB
 refine key [67, 111, 110, 116, 101, 110, 116, 45, 76, 101, 110, 103, 116, 104] Go.Proofs.YtbhajflbbjipdaaDoor.XFm.wanted rfl ?_ n
 intro i a b h1 h2 x
 match i with
 | 0 => simp [Go.Proofs.YtbhajflbbjipdaaDoor.XFm.wanted] at h1 h2; subst h1 h2; exact e1 x
 | 1 => simp [Go.Proofs.YtbhajflbbjipdaaDoor.XFm.wanted] at h1 h2; subst h1 h2; exact lw x _ (by decide)
 | 2 => simp [Go.Proofs.YtbhajflbbjipdaaDoor.XFm.wanted] at h1 h2; subst h1 h2; exact lw x _ (by decide)
 | 3 => simp [Go.Proofs.YtbhajflbbjipdaaDoor.XFm.wanted] at h1 h2; subst h1 h2; exact lw x _ (by decide)
 | 4 => simp [Go.Proofs.YtbhajflbbjipdaaDoor.XFm.wanted] at h1 h2; subst h1 h2; exact lw x _ (by decide)
 | 5 => simp [Go.Proofs.YtbhajflbbjipdaaDoor.XFm.wanted] at h1 h2; subst h1 h2; exact lw x _ (by decide)
 | 6 => simp [Go.Proofs.YtbhajflbbjipdaaDoor.XFm.wanted] at h1 h2; subst h1 h2; exact lw x _ (by decide)
 | 7 => simp [Go.Proofs.YtbhajflbbjipdaaDoor.XFm.wanted] at h1 h2; subst h1 h2; exact lw x _ (by decide)
 | 8 => simp [Go.Proofs.YtbhajflbbjipdaaDoor.XFm.wanted] at h1 h2; subst h1 h2; exact e2 x
 | 9 => simp [Go.Proofs.YtbhajflbbjipdaaDoor.XFm.wanted] at h1 h2; subst h1 h2; exact lw x _ (by decide)
 | 10 => simp [Go.Proofs.YtbhajflbbjipdaaDoor.XFm.wanted] at h1 h2; subst h1 h2; exact lw x _ (by decide)
 | 11 => simp [Go.Proofs.YtbhajflbbjipdaaDoor.XFm.wanted] at h1 h2; subst h1 h2; exact lw x _ (by decide)
 | 12 => simp [Go.Proofs.YtbhajflbbjipdaaDoor.XFm.wanted] at h1 h2; subst h1 h2; exact lw x _ (by decide)
 | 13 => simp [Go.Proofs.YtbhajflbbjipdaaDoor.XFm.wanted] at h1 h2; subst h1 h2; exact lw x _ (by decide)
 | i + 14 => simp at h1
theorem atoi_dig {v : List UInt8} (h : Go.Proofs.YtbhajflbbjipdaaDoor.XFm.allDig v = true) (hne : v ≠ []) : Lib.atoiAll v = if Go.Proofs.YtbhajflbbjipdaaDoor.XFm.numB v ≤ 9223372036854775807 then .ok (Go.Proofs.YtbhajflbbjipdaaDoor.XFm.numB v : Int) else .range := by
 obtain ⟨c, r, rfl, h1, h2⟩ := Go.Proofs.YtbhajflbbjipdaaDoor.XFm.dig_first h hne
 have hp := Go.Proofs.YtbhajflbbjipdaaDoor.XFm.parse_dig (c :: r) 0 (by decide) h
 have hn : (c :: r).foldl (fun n c => n * 10 + (c.toNat - 48)) 0 = Go.Proofs.YtbhajflbbjipdaaDoor.XFm.numB (c :: r) := rfl
 rw [hn] at hp
 unfold Lib.atoiAll
 dsimp only
 rw [if_neg (show ¬ (c.toNat = 43 ∨ c.toNat = 45) by omega)]
 unfold Lib.parseMag
 rw [if_neg (by simp), hp]
 by_cases k : Go.Proofs.YtbhajflbbjipdaaDoor.XFm.numB (c :: r) < 18446744073709551616
 ·rw [if_pos k]
  dsimp only
  by_cases k2 : Go.Proofs.YtbhajflbbjipdaaDoor.XFm.numB (c :: r) ≤ 9223372036854775807
  ·rw [if_pos k2, if_neg (by omega), if_neg (by omega), if_neg h2]
  ·rw [if_neg k2, if_pos ⟨h2, by omega⟩]
 ·rw [if_neg k, if_neg (by omega)]
theorem spl_len : ∀ (n : Nat) (s : List UInt8), s.length ≤ n → ∀ x ∈ Go.Proofs.YtbhajflbbjipdaaDoor.XFm.spl s, x.length ≤ s.length := by
 intro n
 induction n with
 | zero =>
  intro s h x hx
  obtain rfl : s = [] := List.eq_nil_of_length_eq_zero (by omega)
  simp [Go.Proofs.YtbhajflbbjipdaaDoor.XFm.spl] at hx
  subst hx; exact Nat.le_refl _
 | succ n ih =>
  intro s h x hx
  rcases Go.Proofs.YtbhajflbbjipdaaDoor.XFm.spl_index _ s (Nat.le_refl _) with ⟨_, e⟩ | ⟨i, _, hi, e⟩
  ·rw [e] at hx
   rw [List.mem_singleton.1 hx]
   exact Nat.le_refl _
  ·rw [e] at hx
   rcases List.mem_cons.1 hx with rfl | hx
   ·rw [List.length_take]; omega
   ·have := ih (s.drop (i + 2)) (by rw [List.length_drop]; omega) x hx
    rw [List.length_drop] at this
    omega
theorem spl_many : ∀ (n : Nat) (s : List UInt8), s.length ≤ n → (Go.Proofs.YtbhajflbbjipdaaDoor.XFm.spl s).length ≤ s.length + 1 := by
 intro n
 induction n with
 | zero =>
  intro s h
  obtain rfl : s = [] := List.eq_nil_of_length_eq_zero (by omega)
  exact Nat.le_refl _
 | succ n ih =>
  intro s h
  rcases Go.Proofs.YtbhajflbbjipdaaDoor.XFm.spl_index _ s (Nat.le_refl _) with ⟨_, e⟩ | ⟨i, _, hi, e⟩
  ·rw [e]; simp
  ·rw [e, List.length_cons]
   have := ih (s.drop (i + 2)) (by rw [List.length_drop]; omega)
   rw [List.length_drop] at this
   omega
theorem of_list (l : List UInt8) : (⟨l.toArray⟩ : ByteArray).data.toList = l := rfl
set_option maxRecDepth 100000 in
theorem ca_c (s : ByteArray) (w : World) (hs : s.size < 4294967281) : Calls Tryd.prog 36 #[.string s, .string ⟨#[13, 10]⟩] w fun e w' => e = .returned (.bool (decide (13 ∈ s.data.toList ∨ 10 ∈ s.data.toList))) ∧ Below w.heap.size w w' := by
 have hq := any_crlf s.data.toList
 unfold Lib.containsAny at hq
 obtain ⟨I, hI⟩ : ∃ I, I = Lib.indexAny s.data.toList [13, 10] := ⟨_, rfl⟩
 have HI := Aside0.mk (ja_nl s w hs)
 rw [← hI] at HI hq
 obtain ⟨R, hR⟩ : ∃ R, R = decide (13 ∈ s.data.toList ∨ 10 ∈ s.data.toList) := ⟨_, rfl⟩
 rw [← hR] at hq ⊢
 have HQ := Aside0.mk hq; clear hI hR hq hs; go_enter Tryd.func36, Tryd.ntmps36
 go_wp2_with (go_at_call 48; refine HI.out.mono ?_; rintro e w1 ⟨rfl, hb⟩; have HB := Aside0.mk hb; clear hb)
 go_ret
 exact ⟨by rw [← HQ.out]; rfl, HB.out⟩
/-- The function that a name's runes are asked for. -/
theorem odd_c (r : Nat) (hr : r ≤ 1114111) (w : World) : Calls Tryd.prog 38 #[.int .i32 r] w fun e w' => e = .returned (.bool (oddR r)) ∧ w' = w := by
 unfold oddR
 by_cases h1 : r < 33
 ·have t1 : decide ((r : Int) < 33) = true := decide_eq_true (by omega)
  rw [decide_eq_true h1, Bool.true_or]
  clear h1 hr; go_enter Tryd.func38, Tryd.ntmps38
  go_wp2
  go_ret
  exact ⟨rfl, rfl⟩
 ·have t1 : decide ((r : Int) < 33) = false := decide_eq_false (by omega)
  rw [decide_eq_false h1, Bool.false_or]
  obtain ⟨b, hb⟩ : ∃ b, b = decide (126 < r) := ⟨_, rfl⟩
  have t2 : decide ((126 : Int) < (r : Int)) = b := by rw [hb, decide_eq_decide]; omega
  rw [← hb]
  clear h1 hr hb; go_enter Tryd.func38, Tryd.ntmps38
  go_wp2
  go_ret
  exact ⟨rfl, rfl⟩
theorem cf_c (s : ByteArray) (w : World) : Calls Tryd.prog 37 #[.string s, .func (.func 38) #[] #[]] w fun e w' => e = .returned (.bool (Go.Proofs.YtbhajflbbjipdaaDoor.XFm.oddN s.data.toList)) ∧ Below w.heap.size w w' := by
 rw [← odd_func s]
 refine Tryd.strings_ContainsFunc_runes 38 #[] ?_ oddR s w ?_
 ·exact enters_of Tryd.func38 (by kernel_rfl) rfl
 ·intro W x hx _
  refine (odd_c x hx W).mono ?_
  rintro e w' ⟨rfl, rfl⟩
  exact ⟨rfl, 0, rfl⟩
theorem tr_b (s : ByteArray) (w : World) (hs : s.size ≤ 140737488351232) : Calls Tryd.prog 40 #[.string s, .string ⟨#[32, 9]⟩] w fun e w' => e = .returned (.string ⟨(Go.Proofs.YtbhajflbbjipdaaDoor.XFm.trimB s.data.toList).toArray⟩) ∧ Below w.heap.size w w' :=
 Any.strings_Trim_laid Tryd.lays160 (by kernel_rfl) s ⟨#[32, 9]⟩ w (by omega) (by decide) (ascii_of_all (by decide))
theorem tr_d (s : ByteArray) (w : World) (hs : s.size ≤ 140737488351232) : Calls Tryd.prog 40 #[.string s, .string ⟨#[48, 49, 50, 51, 52, 53, 54, 55, 56, 57]⟩] w fun e w' => e = .returned (.string ⟨(Lib.trimS s.data.toList Go.Proofs.YtbhajflbbjipdaaDoor.XFm.digSet).toArray⟩) ∧ Below w.heap.size w w' :=
 Any.strings_Trim_laid Tryd.lays160 (by kernel_rfl) s ⟨#[48, 49, 50, 51, 52, 53, 54, 55, 56, 57]⟩ w (by omega) (by decide) (ascii_of_all (by decide))
theorem ef_c (s : ByteArray) (w : World) (hs : s.size < 4294967281) (ha : Go.Proofs.YtbhajflbbjipdaaDoor.XFm.oddN s.data.toList = false) : Calls Tryd.prog 39 #[.string s, .string ⟨#[67, 111, 110, 116, 101, 110, 116, 45, 76, 101, 110, 103, 116, 104]⟩] w fun e w' => e = .returned (.bool (Go.Proofs.YtbhajflbbjipdaaDoor.XFm.calledB s.data.toList)) ∧ Below w.heap.size w w' := by
 rw [← fold_called]
 refine (Tryd.strings_EqualFold s ⟨#[67, 111, 110, 116, 101, 110, 116, 45, 76, 101, 110, 103, 116, 104]⟩ w hs ?_ (ascii_of_all (by decide))).mono ?_
 ·intro j b hb
  unfold Go.Proofs.YtbhajflbbjipdaaDoor.XFm.oddN at ha
  have := List.any_eq_false.1 ha b (List.mem_of_getElem? hb)
  simp at this
  omega
 ·rintro e w' ⟨rfl, rfl⟩
  exact ⟨rfl, Below.refl _ _⟩
theorem cut_c (s : ByteArray) (w : World) (hG : GlobOk w) (hs : s.size < 4294967281) : Calls Tryd.prog 35 #[.string s, .string ⟨#[58]⟩] w fun e w' => e = .returned (.tuple #[.string ⟨(Lib.cut s.data.toList [58]).1.toArray⟩, .string ⟨(Lib.cut s.data.toList [58]).2.1.toArray⟩, .bool (Lib.cut s.data.toList [58]).2.2]) ∧ Below w.heap.size w w' := by
 obtain ⟨m, hm⟩ := hG.mlen
 refine (Tryd.strings_Cut s ⟨#[58]⟩ m w hs hm).mono ?_
 rintro e w' ⟨rfl, n, rfl⟩
 exact ⟨rfl, below_drewN w n⟩
theorem split_c (s : ByteArray) (w : World) (hG : GlobOk w) (hs : s.size < 4294967281) : ∃ P : List ByteArray, P.map (·.data.toList) = Go.Proofs.YtbhajflbbjipdaaDoor.XFm.spl s.data.toList ∧ Calls Tryd.prog 34 #[.string s, .string ⟨#[13, 10]⟩] w fun e w' => e = .returned (.slice (some ⟨w.heap.size, 0, none⟩) P.length P.length) ∧ w'.heap[w.heap.size]? = some (.cells (P.map Value.string).toArray 9 (0, 0)) ∧ Below w.heap.size w w' := by
 obtain ⟨m, hm⟩ := hG.mlen
 refine ⟨Lib.splitB ⟨#[13, 10]⟩ 0 (Lib.countB s ⟨#[13, 10]⟩) s, Go.Proofs.YtbhajflbbjipdaaDoor.XFm.splitB_spl s, ?_⟩
 refine (Tryd.strings_Split s ⟨#[13, 10]⟩ m w hs hm (by decide)).mono ?_
 rintro e w' ⟨rfl, rfl⟩
 rw [Lib.splitB_all ⟨#[13, 10]⟩ (by decide) 0 _ s rfl]
 exact ⟨rfl, blk_new w _, below_alloc (Below.refl _ _) _⟩
theorem at_c (s : ByteArray) (w : World) (hG : GlobOk w) (hs : s.size ≤ 140737488351232) (hd : Go.Proofs.YtbhajflbbjipdaaDoor.XFm.allDig s.data.toList = true) (hne : s.data.toList ≠ []) : Calls Tryd.prog 41 #[.string s] w fun e w' => ∃ n x, e = .returned (.tuple #[.int .i64 n, x]) ∧ ((Go.Proofs.YtbhajflbbjipdaaDoor.XFm.numB s.data.toList ≤ 9223372036854775807 ∧ n = Go.Proofs.YtbhajflbbjipdaaDoor.XFm.numB s.data.toList ∧ x = .nilIface) ∨ (9223372036854775807 < Go.Proofs.YtbhajflbbjipdaaDoor.XFm.numB s.data.toList ∧ ∃ p, x = .iface 114 p)) ∧ Below w.heap.size w w' := by
 have h := atoi_dig hd hne
 by_cases k : Go.Proofs.YtbhajflbbjipdaaDoor.XFm.numB s.data.toList ≤ 9223372036854775807
 ·rw [if_pos k] at h
  refine (Tryd.strconv_Atoi_ok s (by omega) _ h w).mono ?_
  rintro e w' ⟨rfl, hw⟩
  refine ⟨_, _, rfl, .inl ⟨k, rfl, rfl⟩, ?_⟩
  rcases hw with rfl | ⟨t, rfl⟩
  ·exact Below.refl _ _
  ·exact Lib.bytesWorld_below w _ t
 ·rw [if_neg k] at h
  obtain ⟨te, pe, he⟩ := hG.rng
  refine (Tryd.strconv_Atoi_range s (by omega) h _ w he (.inr ⟨te, pe, rfl⟩)).mono ?_
  rintro e w' ⟨N, rfl, _, _, hb⟩
  exact ⟨_, _, rfl, .inr ⟨by omega, _, rfl⟩, hb⟩
def toldO (t : ByteArray) : Option (List UInt8) := if t.data.toList = [] then none else some t.data.toList
theorem lines_step {l : List UInt8} {r : List (List UInt8)} {t : Option (List UInt8)} (h1 : 58 ∈ l) (h2 : l.takeWhile (· != 58) ≠ []) (h3 : ¬ (13 ∈ l ∨ 10 ∈ l)) (h4 : Go.Proofs.YtbhajflbbjipdaaDoor.XFm.oddN (l.takeWhile (· != 58)) = false) :
  Go.Proofs.YtbhajflbbjipdaaDoor.XFm.linesP (l :: r) t = if Go.Proofs.YtbhajflbbjipdaaDoor.XFm.calledB (l.takeWhile (· != 58)) = false then Go.Proofs.YtbhajflbbjipdaaDoor.XFm.linesP r t else if t ≠ none ∨ Go.Proofs.YtbhajflbbjipdaaDoor.XFm.trimB ((l.dropWhile (· != 58)).drop 1) = [] ∨ Go.Proofs.YtbhajflbbjipdaaDoor.XFm.allDig (Go.Proofs.YtbhajflbbjipdaaDoor.XFm.trimB ((l.dropWhile (· != 58)).drop 1)) = false then none else Go.Proofs.YtbhajflbbjipdaaDoor.XFm.linesP r (some (Go.Proofs.YtbhajflbbjipdaaDoor.XFm.trimB ((l.dropWhile (· != 58)).drop 1))) := by
 rw [Go.Proofs.YtbhajflbbjipdaaDoor.XFm.linesP, if_neg (fun k => k h1), if_neg h2, if_neg h3, if_neg (by rw [h4]; decide)]
theorem lines_bad {l : List UInt8} {r : List (List UInt8)} {t : Option (List UInt8)} (h : 58 ∉ l ∨ l.takeWhile (· != 58) = [] ∨ (13 ∈ l ∨ 10 ∈ l) ∨ Go.Proofs.YtbhajflbbjipdaaDoor.XFm.oddN (l.takeWhile (· != 58)) = true) : Go.Proofs.YtbhajflbbjipdaaDoor.XFm.linesP (l :: r) t = none := by
 rw [Go.Proofs.YtbhajflbbjipdaaDoor.XFm.linesP]
 repeat' split
 all_goals first | rfl | skip
 all_goals (exfalso; simp_all)
/-- A line's two parts: where a byte stands. -/
theorem col_mem {l : List UInt8} (h : 58 ∈ l) (c : UInt8) : c ∈ l ↔ c ∈ l.takeWhile (· != 58) ∨ c = 58 ∨ c ∈ (l.dropWhile (· != 58)).drop 1 := by
 have e : l = l.takeWhile (· != 58) ++ l.dropWhile (· != 58) := (List.takeWhile_append_dropWhile ..).symm
 have d : ∃ r, l.dropWhile (· != 58) = 58 :: r := by
  clear e; induction l with
  | nil => simp at h
  | cons x l ih =>
   rw [List.dropWhile_cons]
   by_cases hx : x = 58
   ·subst hx; exact ⟨l, by simp⟩
   ·have : (x != 58) = true := by simpa using hx
    rw [if_pos this]
    exact ih (by rcases List.mem_cons.1 h with h | h; exact absurd h.symm hx; exact h)
 obtain ⟨r, d⟩ := d
 conv => lhs; rw [e, d]
 rw [d]
 simp
theorem odd_13 {n : List UInt8} (h : Go.Proofs.YtbhajflbbjipdaaDoor.XFm.oddN n = false) : 13 ∉ n ∧ 10 ∉ n := by
 unfold Go.Proofs.YtbhajflbbjipdaaDoor.XFm.oddN at h
 rw [List.any_eq_false] at h
 exact ⟨fun k => by have := h 13 k; revert this; decide, fun k => by have := h 10 k; revert this; decide⟩
/-- What is empty, told in the walk's own spellings. -/
theorem emp_f {t : ByteArray} (h : t.data.toList ≠ []) : (t.toList == []) = false ∧ decide (t.toList = []) = false ∧ (t.toList == (⟨#[]⟩ : ByteArray).toList) = false ∧ t.toList.isEmpty = false ∧ (t.size == 0) = false ∧ decide (t.size = 0) = false := by
 have e : t.toList = t.data.toList := ByteArray.toList_eq _
 have e0 : (⟨#[]⟩ : ByteArray).toList = [] := by rw [ByteArray.toList_eq]
 rw [e, e0]
 have hz : t.size ≠ 0 := fun k => h (List.eq_nil_of_length_eq_zero (by rw [Array.length_toList]; exact k))
 refine ⟨beq_eq_false_iff_ne.2 h, decide_eq_false h, beq_eq_false_iff_ne.2 h, by simpa using h, beq_eq_false_iff_ne.2 hz, decide_eq_false hz⟩
theorem go_w1 {j n : Nat} (h : j + 1 ≤ n) (h2 : n ≤ 1000001) : wrap64 ((j : Int) + 1) = ((j + 1 : Nat) : Int) := by unfold wrap64; omega
theorem no_lines {L : List (List UInt8)} {R1 : Nat} {R2 : Int} (h : Go.Proofs.YtbhajflbbjipdaaDoor.XFm.linesP L none = none) (hr : Go.Proofs.YtbhajflbbjipdaaDoor.XFm.lenP L = (R1, R2)) : R1 = 0 ∧ R2 = 50 := by
 unfold Go.Proofs.YtbhajflbbjipdaaDoor.XFm.lenP at hr
 rw [h] at hr
 injection hr with a b
 exact ⟨a.symm, b.symm⟩
theorem trim_len (l : List UInt8) : (Go.Proofs.YtbhajflbbjipdaaDoor.XFm.trimB l).length ≤ l.length := by
 unfold Go.Proofs.YtbhajflbbjipdaaDoor.XFm.trimB Lib.trimS Lib.trimLeftS Lib.trimRightS
 have h1 := (List.dropWhile_sublist (p := (([32, 9] : List UInt8).contains ·)) (l := (l.reverse.dropWhile (([32, 9] : List UInt8).contains ·)).reverse)).length_le
 have h2 := (List.dropWhile_sublist (p := (([32, 9] : List UInt8).contains ·)) (l := l.reverse)).length_le
 rw [List.length_reverse] at h1 h2
 omega
set_option maxRecDepth 100000 in
set_option maxHeartbeats 8000000 in
theorem frame_length.calls (s : ByteArray) (w : World) (hG : GlobOk w) (hs : s.size ≤ 1000000) : Calls Tryd.prog 25 #[.string s] w fun e w' => e = .returned (.tuple #[.int .i64 ((Go.Proofs.YtbhajflbbjipdaaDoor.XFm.lenP (Go.Proofs.YtbhajflbbjipdaaDoor.XFm.spl s.data.toList)).1 : Nat), .int .i64 (Go.Proofs.YtbhajflbbjipdaaDoor.XFm.lenP (Go.Proofs.YtbhajflbbjipdaaDoor.XFm.spl s.data.toList)).2]) ∧ Below w.heap.size w w' := by
 obtain ⟨P, hP, hSp⟩ := split_c s w hG (by omega)
 obtain ⟨L, hL⟩ : ∃ L, L = Go.Proofs.YtbhajflbbjipdaaDoor.XFm.spl s.data.toList := ⟨_, rfl⟩
 have hsz : ∀ x ∈ P, x.size ≤ 1000000 := by
  intro x hx
  have h1 : x.data.toList ∈ Go.Proofs.YtbhajflbbjipdaaDoor.XFm.spl s.data.toList := by rw [← hP]; exact List.mem_map_of_mem (f := fun z : ByteArray => z.data.toList) hx
  have h2 := spl_len _ _ (Nat.le_refl _) _ h1
  rw [Array.length_toList, Array.length_toList] at h2
  exact Nat.le_trans h2 hs
 have hPn : P.length ≤ 1000001 := by
  have h1 : P.length = (Go.Proofs.YtbhajflbbjipdaaDoor.XFm.spl s.data.toList).length := by rw [← hP, List.length_map]
  have h2 := spl_many _ _ (Nat.le_refl s.data.toList.length)
  have h3 : s.data.toList.length = s.size := Array.length_toList
  omega
 rw [← hL] at hP ⊢
 obtain ⟨R1, hR1⟩ : ∃ R, R = (Go.Proofs.YtbhajflbbjipdaaDoor.XFm.lenP L).1 := ⟨_, rfl⟩
 obtain ⟨R2, hR2⟩ : ∃ R, R = (Go.Proofs.YtbhajflbbjipdaaDoor.XFm.lenP L).2 := ⟨_, rfl⟩
 rw [← hR1, ← hR2]
 have HR := Aside0.mk (show Go.Proofs.YtbhajflbbjipdaaDoor.XFm.lenP L = (R1, R2) by rw [hR1, hR2])
 obtain ⟨M, hM⟩ : ∃ M, M = w.heap.size := ⟨_, rfl⟩
 rw [← hM] at hSp
 have HM := Aside0.mk hM; have HSp := Aside0.mk hSp; have HP := Aside0.mk hP; have HG := Aside0.mk hG; have HS := Aside0.mk hs; have HZ := Aside0.mk hsz; have HPn := Aside0.mk hPn; clear hP hSp hL hsz hPn hR1 hR2 hM hG hs; go_enter Tryd.func25, Tryd.ntmps25
 go_wp2_with (go_at_call 34; refine HSp.out.mono ?_; rintro e w1 ⟨rfl, hc, hb⟩; rw [HM.out] at hc; rw [← HM.out] at hc; have HC1 := Aside0.mk hc; have HB1 := Aside0.mk hb; clear hc hb)
 go_loopw [4, 15] (fun t4 t15 w' => ∃ (j : Nat) (tb : ByteArray), t4 = .string tb ∧ t15 = .int .i64 j ∧ Aside0 (j ≤ P.length) ∧ Aside0 (Go.Proofs.YtbhajflbbjipdaaDoor.XFm.linesP (L.drop j) (toldO tb) = Go.Proofs.YtbhajflbbjipdaaDoor.XFm.linesP L none) ∧ Aside0 (tb.size ≤ 1000000 ∧ Go.Proofs.YtbhajflbbjipdaaDoor.XFm.allDig tb.data.toList = true) ∧ Aside0 (w'.heap[M]? = some (.cells (P.map Value.string).toArray 9 (0, 0))) ∧ Aside0 (Below w.heap.size w w')) (fun _ t15 _ => P.length - (intOf t15).toNat)
 case atStart => exact ⟨0, ⟨#[]⟩, rfl, rfl, ⟨Nat.zero_le _⟩, ⟨rfl⟩, ⟨⟨by decide, rfl⟩⟩, HC1, by rw [← HM.out] at *; exact HB1⟩
 case round =>
  obtain ⟨j, tb, rfl, rfl, HJ, HF, HT, HC, HB⟩ := hrel
  by_cases hlt : j < P.length
  ·have t : decide ((j : Int) < (P.length : Int)) = true := decide_eq_true (by omega)
   have t' : decide (j < P.length) = true := decide_eq_true hlt
   obtain ⟨x, hx⟩ : ∃ x, x = P[j] := ⟨_, rfl⟩
   have HXS := Aside0.mk (show x.size ≤ 1000000 by rw [hx]; exact HZ.out _ (List.getElem_mem _))
   have hLj : L.drop j = x.data.toList :: L.drop (j + 1) := by
    have hl : j < L.length := by rw [← HP.out, List.length_map]; exact hlt
    rw [List.drop_eq_getElem_cons hl]
    congr 1
    have : L[j]'hl = (P.map (·.data.toList))[j]'(by rw [List.length_map]; exact hlt) := by simp only [HP.out]
    rw [this, List.getElem_map, hx]
   have hf := HF.out
   rw [hLj] at hf
   have hcell := blk_cell HC.out j
   rw [show (P.map Value.string).toArray[j]? = some (.string x) by simp [hx, hlt]] at hcell
   have HCut := Aside0.mk (fun (W : World) (h : GlobOk W) => cut_c x W h (by have := HXS.out; omega))
   have hcc := cut_col x.data.toList
   have HJ2 := Aside0.mk (show j + 1 ≤ P.length from hlt)
   have HMe := Aside0.mk (show P.length - (j + 1) < P.length - j by omega)
   clear hLj HF hx; by_cases h1 : 58 ∈ x.data.toList
   case neg =>
    have HE := Aside0.mk (no_lines (hf.symm.trans (lines_bad (.inl h1))) HR.out)
    rw [if_neg h1] at hcc
    rw [hcc] at HCut
    clear hcc hf h1; go_wp2_with (go_at_call 35; refine (HCut.out _ (HG.out.below HB.out)).mono ?_; rintro e w2 ⟨rfl, hb⟩; have HB2 := Aside0.mk (below_step HB.out hb); have HC2 := Aside0.mk (blk_below HC.out hb); clear hb hcell)
    go_ret2
    exact ⟨by rw [HE.out.1, HE.out.2]; rfl, HB2.out⟩
   case pos =>
    rw [if_pos h1] at hcc
    rw [hcc] at HCut
    obtain ⟨N, hN⟩ : ∃ N : ByteArray, N = ⟨(x.data.toList.takeWhile (· != 58)).toArray⟩ := ⟨_, rfl⟩
    obtain ⟨V, hV⟩ : ∃ V : ByteArray, V = ⟨((x.data.toList.dropWhile (· != 58)).drop 1).toArray⟩ := ⟨_, rfl⟩
    rw [← hN, ← hV] at HCut
    have hNl : x.data.toList.takeWhile (· != 58) = N.data.toList := by rw [hN]
    have hVl : (x.data.toList.dropWhile (· != 58)).drop 1 = V.data.toList := by rw [hV]
    have hcol := col_mem h1
    rw [hNl, hVl] at hcol
    have hxl : x.data.toList.length = x.size := Array.length_toList
    have hNs : N.size ≤ 1000000 := by
     have h2 : N.data.toList.length = N.size := Array.length_toList
     have h3 := (List.takeWhile_sublist (p := (· != 58)) (l := x.data.toList)).length_le
     rw [hNl] at h3
     have := HXS.out
     omega
    have hVs : V.size ≤ 1000000 := by
     have h2 : V.data.toList.length = V.size := Array.length_toList
     have h3 := (List.dropWhile_sublist (p := (· != 58)) (l := x.data.toList)).length_le
     have h4 : ((x.data.toList.dropWhile (· != 58)).drop 1).length ≤ (x.data.toList.dropWhile (· != 58)).length := by rw [List.length_drop]; omega
     rw [hVl] at h4
     have := HXS.out
     omega
    clear hN hV hcc hxl; by_cases h2 : N.data.toList = []
    case pos =>
     have HE := Aside0.mk (no_lines (hf.symm.trans (lines_bad (.inr (.inl (hNl.trans h2))))) HR.out)
     obtain rfl : N = ⟨#[]⟩ := ByteArray.ext (Array.toList_inj.1 h2)
     clear hf h1 h2 hNl hVl hcol hNs hVs; go_wp2_with (go_at_call 35; refine (HCut.out _ (HG.out.below HB.out)).mono ?_; rintro e w2 ⟨rfl, hb⟩; have HB2 := Aside0.mk (below_step HB.out hb); have HC2 := Aside0.mk (blk_below HC.out hb); clear hb hcell)
     go_ret2
     exact ⟨by rw [HE.out.1, HE.out.2]; rfl, HB2.out⟩
    case neg =>
     obtain ⟨f1, f2, f3, f4, f5, f6⟩ := emp_f h2
     have HAny := Aside0.mk (fun (W : World) => ca_c V W (by omega))
     have HFun := Aside0.mk (fun (W : World) => cf_c N W)
     by_cases h3 : 13 ∈ V.data.toList ∨ 10 ∈ V.data.toList
     ·have HE := Aside0.mk (no_lines (hf.symm.trans (lines_bad (.inr (.inr (.inl (by rcases h3 with h3 | h3; exact .inl ((hcol 13).2 (.inr (.inr h3))); exact .inr ((hcol 10).2 (.inr (.inr h3))))))))) HR.out)
      rw [decide_eq_true h3] at HAny
      clear hf h1 h2 hNl hVl hcol hNs hVs h3; go_wp2_with (first | (go_at_call 35; refine (HCut.out _ (HG.out.below HB.out)).mono ?_; rintro e w2 ⟨rfl, hb⟩; have HB2 := Aside0.mk (below_step HB.out hb); have HC2 := Aside0.mk (blk_below HC.out hb); clear hb hcell) | (go_at_call 36; refine (HAny.out _).mono ?_; rintro e w3 ⟨rfl, hb⟩; have HB3 := Aside0.mk (below_step HB2.out hb); have HC3 := Aside0.mk (blk_below HC2.out hb); clear hb))
      go_ret2
      exact ⟨by rw [HE.out.1, HE.out.2]; rfl, HB3.out⟩
     rw [decide_eq_false h3] at HAny
     by_cases h4 : Go.Proofs.YtbhajflbbjipdaaDoor.XFm.oddN N.data.toList = true
     ·have HE := Aside0.mk (no_lines (hf.symm.trans (lines_bad (.inr (.inr (.inr (by rw [hNl]; exact h4)))))) HR.out)
      rw [h4] at HFun
      clear hf h1 h2 hNl hVl hcol hNs hVs h3 h4; go_wp2_with (first | (go_at_call 35; refine (HCut.out _ (HG.out.below HB.out)).mono ?_; rintro e w2 ⟨rfl, hb⟩; have HB2 := Aside0.mk (below_step HB.out hb); have HC2 := Aside0.mk (blk_below HC.out hb); clear hb hcell) | (go_at_call 36; refine (HAny.out _).mono ?_; rintro e w3 ⟨rfl, hb⟩; have HB3 := Aside0.mk (below_step HB2.out hb); have HC3 := Aside0.mk (blk_below HC2.out hb); clear hb) | (go_at_call 37; refine (HFun.out _).mono ?_; rintro e w4 ⟨rfl, hb⟩; have HB4 := Aside0.mk (below_step HB3.out hb); have HC4 := Aside0.mk (blk_below HC3.out hb); clear hb))
      go_ret2
      exact ⟨by rw [HE.out.1, HE.out.2]; rfl, HB4.out⟩
     have h4 := Bool.eq_false_iff.2 h4
     have h5 : ¬ (13 ∈ x.data.toList ∨ 10 ∈ x.data.toList) := by
      have ho := odd_13 h4
      rintro (k | k)
      ·rcases (hcol 13).1 k with k | k | k
       ·exact ho.1 k
       ·revert k; decide
       ·exact h3 (.inl k)
      ·rcases (hcol 10).1 k with k | k | k
       ·exact ho.2 k
       ·revert k; decide
       ·exact h3 (.inr k)
     rw [lines_step h1 (by rw [hNl]; exact h2) h5 (by rw [hNl]; exact h4), hNl, hVl] at hf
     have HFld := Aside0.mk (fun (W : World) => ef_c N W (by omega) h4)
     rw [h4] at HFun
     clear h1 h2 hNl hVl hcol h3 h4 h5; by_cases h6 : Go.Proofs.YtbhajflbbjipdaaDoor.XFm.calledB N.data.toList = false
     ·rw [if_pos h6] at hf
      rw [h6] at HFld
      have HF2 := Aside0.mk hf; clear hf h6 hNs hVs; go_wp2_with (first | (go_at_call 35; refine (HCut.out _ (HG.out.below HB.out)).mono ?_; rintro e w2 ⟨rfl, hb⟩; have HB2 := Aside0.mk (below_step HB.out hb); have HC2 := Aside0.mk (blk_below HC.out hb); clear hb hcell) | (go_at_call 36; refine (HAny.out _).mono ?_; rintro e w3 ⟨rfl, hb⟩; have HB3 := Aside0.mk (below_step HB2.out hb); have HC3 := Aside0.mk (blk_below HC2.out hb); clear hb) | (go_at_call 37; refine (HFun.out _).mono ?_; rintro e w4 ⟨rfl, hb⟩; have HB4 := Aside0.mk (below_step HB3.out hb); have HC4 := Aside0.mk (blk_below HC3.out hb); clear hb) | (go_at_call 39; refine (HFld.out _).mono ?_; rintro e w5 ⟨rfl, hb⟩; have HB5 := Aside0.mk (below_step HB4.out hb); have HC5 := Aside0.mk (blk_below HC4.out hb); clear hb))
      go_roundw
      case rel => exact ⟨j + 1, tb, rfl, by rw [go_w1 HJ2.out HPn.out], HJ2, HF2, HT, HC5, HB5⟩
      case measure => have h1 := HMe.out; rw [go_w1 HJ2.out HPn.out]; simp only [intOf]; omega
     rw [if_neg h6] at hf
     have h6 : Go.Proofs.YtbhajflbbjipdaaDoor.XFm.calledB N.data.toList = true := by simpa using h6
     rw [h6] at HFld
     obtain ⟨T, hT⟩ : ∃ T : ByteArray, T = ⟨(Go.Proofs.YtbhajflbbjipdaaDoor.XFm.trimB V.data.toList).toArray⟩ := ⟨_, rfl⟩
     have hTl : Go.Proofs.YtbhajflbbjipdaaDoor.XFm.trimB V.data.toList = T.data.toList := by rw [hT]
     have HTrB := Aside0.mk (fun (W : World) => tr_b V W (by omega))
     rw [← hT] at HTrB
     rw [hTl] at hf
     have hTs : T.size ≤ 1000000 := by
      have h2 : T.data.toList.length = T.size := Array.length_toList
      have h3 := trim_len V.data.toList
      have h4 : V.data.toList.length = V.size := Array.length_toList
      rw [hTl] at h3
      omega
     clear h6 hT hTl hNs; by_cases h7 : tb.data.toList = []
     case neg =>
      have HE := Aside0.mk (no_lines (hf.symm.trans (if_pos (.inl (by unfold toldO; rw [if_neg h7]; simp)))) HR.out)
      obtain ⟨g1, g2, g3, g4, g5, g6⟩ := emp_f h7
      clear hf h7 hVs hTs; go_wp2_with (first | (go_at_call 35; refine (HCut.out _ (HG.out.below HB.out)).mono ?_; rintro e w2 ⟨rfl, hb⟩; have HB2 := Aside0.mk (below_step HB.out hb); have HC2 := Aside0.mk (blk_below HC.out hb); clear hb hcell) | (go_at_call 36; refine (HAny.out _).mono ?_; rintro e w3 ⟨rfl, hb⟩; have HB3 := Aside0.mk (below_step HB2.out hb); have HC3 := Aside0.mk (blk_below HC2.out hb); clear hb) | (go_at_call 37; refine (HFun.out _).mono ?_; rintro e w4 ⟨rfl, hb⟩; have HB4 := Aside0.mk (below_step HB3.out hb); have HC4 := Aside0.mk (blk_below HC3.out hb); clear hb) | (go_at_call 39; refine (HFld.out _).mono ?_; rintro e w5 ⟨rfl, hb⟩; have HB5 := Aside0.mk (below_step HB4.out hb); have HC5 := Aside0.mk (blk_below HC4.out hb); clear hb) | (go_at_call 40; refine (HTrB.out _).mono ?_; rintro e w6 ⟨rfl, hb⟩; have HB6 := Aside0.mk (below_step HB5.out hb); have HC6 := Aside0.mk (blk_below HC5.out hb); clear hb))
      go_ret2
      exact ⟨by rw [HE.out.1, HE.out.2]; rfl, HB6.out⟩
     obtain rfl : tb = ⟨#[]⟩ := ByteArray.ext (Array.toList_inj.1 h7)
     by_cases h8 : T.data.toList = []
     case pos =>
      have HE := Aside0.mk (no_lines (hf.symm.trans (if_pos (.inr (.inl h8)))) HR.out)
      obtain rfl : T = ⟨#[]⟩ := ByteArray.ext (Array.toList_inj.1 h8)
      clear hf h7 h8 hVs hTs; go_wp2_with (first | (go_at_call 35; refine (HCut.out _ (HG.out.below HB.out)).mono ?_; rintro e w2 ⟨rfl, hb⟩; have HB2 := Aside0.mk (below_step HB.out hb); have HC2 := Aside0.mk (blk_below HC.out hb); clear hb hcell) | (go_at_call 36; refine (HAny.out _).mono ?_; rintro e w3 ⟨rfl, hb⟩; have HB3 := Aside0.mk (below_step HB2.out hb); have HC3 := Aside0.mk (blk_below HC2.out hb); clear hb) | (go_at_call 37; refine (HFun.out _).mono ?_; rintro e w4 ⟨rfl, hb⟩; have HB4 := Aside0.mk (below_step HB3.out hb); have HC4 := Aside0.mk (blk_below HC3.out hb); clear hb) | (go_at_call 39; refine (HFld.out _).mono ?_; rintro e w5 ⟨rfl, hb⟩; have HB5 := Aside0.mk (below_step HB4.out hb); have HC5 := Aside0.mk (blk_below HC4.out hb); clear hb) | (go_at_call 40; refine (HTrB.out _).mono ?_; rintro e w6 ⟨rfl, hb⟩; have HB6 := Aside0.mk (below_step HB5.out hb); have HC6 := Aside0.mk (blk_below HC5.out hb); clear hb))
      go_ret2
      exact ⟨by rw [HE.out.1, HE.out.2]; rfl, HB6.out⟩
     obtain ⟨g1, g2, g3, g4, g5, g6⟩ := emp_f h8
     obtain ⟨D, hD⟩ : ∃ D : ByteArray, D = ⟨(Lib.trimS T.data.toList Go.Proofs.YtbhajflbbjipdaaDoor.XFm.digSet).toArray⟩ := ⟨_, rfl⟩
     have hDl : Lib.trimS T.data.toList Go.Proofs.YtbhajflbbjipdaaDoor.XFm.digSet = D.data.toList := by rw [hD]
     have HTrD := Aside0.mk (fun (W : World) => tr_d T W (by omega))
     rw [← hD] at HTrD
     have hdd := Go.Proofs.YtbhajflbbjipdaaDoor.XFm.trim_dig T.data.toList
     rw [hDl] at hdd
     clear hD hDl hVs; by_cases h9 : D.data.toList = []
     case neg =>
      have HE := Aside0.mk (no_lines (hf.symm.trans (if_pos (.inr (.inr (Bool.eq_false_iff.2 fun k => h9 (hdd.2 k)))))) HR.out)
      obtain ⟨k1, k2, k3, k4, k5, k6⟩ := emp_f h9
      clear hf h7 h8 h9 hdd hTs; go_wp2_with (first | (go_at_call 35; refine (HCut.out _ (HG.out.below HB.out)).mono ?_; rintro e w2 ⟨rfl, hb⟩; have HB2 := Aside0.mk (below_step HB.out hb); have HC2 := Aside0.mk (blk_below HC.out hb); clear hb hcell) | (go_at_call 36; refine (HAny.out _).mono ?_; rintro e w3 ⟨rfl, hb⟩; have HB3 := Aside0.mk (below_step HB2.out hb); have HC3 := Aside0.mk (blk_below HC2.out hb); clear hb) | (go_at_call 37; refine (HFun.out _).mono ?_; rintro e w4 ⟨rfl, hb⟩; have HB4 := Aside0.mk (below_step HB3.out hb); have HC4 := Aside0.mk (blk_below HC3.out hb); clear hb) | (go_at_call 39; refine (HFld.out _).mono ?_; rintro e w5 ⟨rfl, hb⟩; have HB5 := Aside0.mk (below_step HB4.out hb); have HC5 := Aside0.mk (blk_below HC4.out hb); clear hb) | (go_at_call 40; have hq := HB6.out; clear hq; refine (HTrD.out _).mono ?_; rintro e w7 ⟨rfl, hb⟩; have HB7 := Aside0.mk (below_step HB6.out hb); have HC7 := Aside0.mk (blk_below HC6.out hb); clear hb) | (go_at_call 40; refine (HTrB.out _).mono ?_; rintro e w6 ⟨rfl, hb⟩; have HB6 := Aside0.mk (below_step HB5.out hb); have HC6 := Aside0.mk (blk_below HC5.out hb); clear hb))
      go_ret2
      exact ⟨by rw [HE.out.1, HE.out.2]; rfl, HB7.out⟩
     obtain rfl : D = ⟨#[]⟩ := ByteArray.ext (Array.toList_inj.1 h9)
     rw [if_neg (by rintro (k | k | k); exact k rfl; exact h8 k; rw [hdd.1 h9] at k; cases k)] at hf
     have HF2 := Aside0.mk (show Go.Proofs.YtbhajflbbjipdaaDoor.XFm.linesP (L.drop (j + 1)) (toldO T) = Go.Proofs.YtbhajflbbjipdaaDoor.XFm.linesP L none by unfold toldO; rw [if_neg h8]; exact hf)
     have HT2 := Aside0.mk (show T.size ≤ 1000000 ∧ Go.Proofs.YtbhajflbbjipdaaDoor.XFm.allDig T.data.toList = true from ⟨hTs, hdd.1 h9⟩)
     clear hf h7 h8 h9 hdd hTs; go_wp2_with (first | (go_at_call 35; refine (HCut.out _ (HG.out.below HB.out)).mono ?_; rintro e w2 ⟨rfl, hb⟩; have HB2 := Aside0.mk (below_step HB.out hb); have HC2 := Aside0.mk (blk_below HC.out hb); clear hb hcell) | (go_at_call 36; refine (HAny.out _).mono ?_; rintro e w3 ⟨rfl, hb⟩; have HB3 := Aside0.mk (below_step HB2.out hb); have HC3 := Aside0.mk (blk_below HC2.out hb); clear hb) | (go_at_call 37; refine (HFun.out _).mono ?_; rintro e w4 ⟨rfl, hb⟩; have HB4 := Aside0.mk (below_step HB3.out hb); have HC4 := Aside0.mk (blk_below HC3.out hb); clear hb) | (go_at_call 39; refine (HFld.out _).mono ?_; rintro e w5 ⟨rfl, hb⟩; have HB5 := Aside0.mk (below_step HB4.out hb); have HC5 := Aside0.mk (blk_below HC4.out hb); clear hb) | (go_at_call 40; have hq := HB6.out; clear hq; refine (HTrD.out _).mono ?_; rintro e w7 ⟨rfl, hb⟩; have HB7 := Aside0.mk (below_step HB6.out hb); have HC7 := Aside0.mk (blk_below HC6.out hb); clear hb) | (go_at_call 40; refine (HTrB.out _).mono ?_; rintro e w6 ⟨rfl, hb⟩; have HB6 := Aside0.mk (below_step HB5.out hb); have HC6 := Aside0.mk (blk_below HC5.out hb); clear hb))
     go_roundw
     case rel => exact ⟨j + 1, T, rfl, by rw [go_w1 HJ2.out HPn.out], HJ2, HF2, HT2, HC7, HB7⟩
     case measure => have h1 := HMe.out; rw [go_w1 HJ2.out HPn.out]; simp only [intOf]; omega
  ·have t : decide ((j : Int) < (P.length : Int)) = false := decide_eq_false (by omega)
   have t' : decide (j < P.length) = false := decide_eq_false hlt
   have hf := HF.out
   have hPL : P.length = L.length := by rw [← HP.out, List.length_map]
   rw [List.drop_of_length_le (by omega), Go.Proofs.YtbhajflbbjipdaaDoor.XFm.linesP] at hf
   have hr := HR.out
   unfold Go.Proofs.YtbhajflbbjipdaaDoor.XFm.lenP at hr
   rw [← hf] at hr
   clear hlt hPL hf HF; by_cases h1 : tb.data.toList = []
   case pos =>
    have HE := Aside0.mk (show R1 = 0 ∧ R2 = 50 by
     unfold toldO at hr
     rw [if_pos h1] at hr
     injection hr with a b
     exact ⟨a.symm, b.symm⟩)
    obtain rfl : tb = ⟨#[]⟩ := ByteArray.ext (Array.toList_inj.1 h1)
    clear hr h1; go_wp2
    go_ret2
    exact ⟨by rw [HE.out.1, HE.out.2]; rfl, HB.out⟩
   case neg =>
    obtain ⟨g1, g2, g3, g4, g5, g6⟩ := emp_f h1
    have HNe := Aside0.mk h1; have HR2 := Aside0.mk (show (if 262144 < Go.Proofs.YtbhajflbbjipdaaDoor.XFm.numB tb.data.toList then ((0 : Nat), (51 : Int)) else (Go.Proofs.YtbhajflbbjipdaaDoor.XFm.numB tb.data.toList, 0)) = (R1, R2) by
     unfold toldO at hr
     rw [if_neg h1] at hr
     exact hr)
    clear hr h1; go_upto_region 17 with (go_at_call 41; refine (at_c tb _ (HG.out.below HB.out) (by have := HT.out.1; omega) HT.out.2 HNe.out).mono ?_; rintro e w8 ⟨n, y, rfl, ho, hb⟩; have HO := Aside0.mk ho; have HB8 := Aside0.mk (below_step HB.out hb); clear ho hb)
    rcases HO.out with ⟨h1, h2, h3⟩ | ⟨h1, p, h3⟩
    ·subst h3; subst h2; by_cases h4 : 262144 < Go.Proofs.YtbhajflbbjipdaaDoor.XFm.numB tb.data.toList
     ·have HE := Aside0.mk (show R1 = 0 ∧ R2 = 51 by
       have hr := HR2.out
       rw [if_pos h4] at hr
       injection hr with a b
       exact ⟨a.symm, b.symm⟩)
      have t1 : decide ((262144 : Int) < (Go.Proofs.YtbhajflbbjipdaaDoor.XFm.numB tb.data.toList : Int)) = true := decide_eq_true (by omega)
      clear h1 h4; go_wp2
      go_ret2
      exact ⟨by rw [HE.out.1, HE.out.2]; rfl, HB8.out⟩
     ·have HE := Aside0.mk (show R1 = Go.Proofs.YtbhajflbbjipdaaDoor.XFm.numB tb.data.toList ∧ R2 = 0 by
       have hr := HR2.out
       rw [if_neg h4] at hr
       injection hr with a b
       exact ⟨a.symm, b.symm⟩)
      have t1 : decide ((262144 : Int) < (Go.Proofs.YtbhajflbbjipdaaDoor.XFm.numB tb.data.toList : Int)) = false := decide_eq_false (by omega)
      clear h1 h4; go_wp2
      go_ret2
      exact ⟨by rw [HE.out.1, HE.out.2]; rfl, HB8.out⟩
    ·subst h3; have HE := Aside0.mk (show R1 = 0 ∧ R2 = 51 by
      have hr := HR2.out
      rw [if_pos (by omega)] at hr
      injection hr with a b
      exact ⟨a.symm, b.symm⟩)
     clear h1; go_wp2
     go_ret2
     exact ⟨by rw [HE.out.1, HE.out.2]; rfl, HB8.out⟩
end Go.Proofs.YtbhajflbbjipdaaDoor.Q

end
section
namespace Go.Proofs.YtbhajflbbjipdaaDoor.Q
open Go.RowKit Go.Proofs.YtbhajflbbjipdaaDoorW.PrintWords Go.Proofs.YtbhajflbbjipdaaDoorW.PrintLast Go.Proofs.YtbhajflbbjipdaaDoorW.PrintMore
attribute [local go_sem] max2_int min2_int max_two min_two max_three min_three max_four min_four   
set_option linter.unusedVariables false
set_option linter.unusedSimpArgs false
def bv (l : List UInt8) : List Value := l.map fun c => .int .u8 (c.toNat : Int)
def sv (l : List (List UInt8)) : List Value := l.map fun b => .string ⟨b.toArray⟩
theorem bv_len (l : List UInt8) : (bv l).length = l.length := List.length_map ..
theorem sv_len (l : List (List UInt8)) : (sv l).length = l.length := List.length_map ..
theorem bytesOf_ints (l : List UInt8) : Lib.bytesOf (l.map fun c => (c.toNat : Int)) = l := by
 unfold Lib.bytesOf
 rw [List.map_map]
 refine (List.map_congr_left fun c _ => ?_).trans (List.map_id l)
 show UInt8.ofNat ((c.toNat : Int)).toNat = c
 rw [Int.toNat_natCast]
 simp
theorem str_ints (l : List UInt8) : strOfNums (l.map fun c => (c.toNat : Int)) = ⟨l.toArray⟩ := by
 have := bytesOf_ints l
 unfold Lib.bytesOf at this
 unfold strOfNums
 rw [this]
def doV (inB : Bool) (B : Nat) : Value := if inB = true then .func (.func 26) #[.pointer (some ⟨B, 0, none⟩)] #[] else .func (.func 18) #[.pointer (some ⟨B, 0, none⟩)] #[]
structure RdF (w0 : World) (B : Nat) (HV TV : Value) (st : Go.Proofs.YtbhajflbbjipdaaDoor.XFm.FS) (w : World) : Prop where
 base : w0.heap.size ≤ B
 below : Below w0.heap.size w0 w
 blk : w.heap[B]? = some (.cells #[HV, doV st.inB B, .int .i64 st.len, TV, .int .i64 st.dead] 46 (0, 0))
 hand : QRow w w0.heap.size 5 1 HV st.hand.length (bv st.hand)
 told : QRow w w0.heap.size 9 1 TV st.told.length (sv st.told)
/-- What a value that takes another's place may own. -/
def Nw (w : World) (V V' : Value) : Prop := V'.ownBlock = none ∨ V'.ownBlock = V.ownBlock ∨ ∃ b, V'.ownBlock = some b ∧ w.heap.size ≤ b
/-- What a reader's call leaves of the rest. -/
structure Fr (w w' : World) (B : Nat) (HV TV HV' TV' : Value) : Prop where
 size : w.heap.size ≤ w'.heap.size
 keep : ∀ k, k < w.heap.size → k ≠ B → some k ≠ HV.ownBlock → some k ≠ TV.ownBlock → w'.heap[k]? = w.heap[k]?
 h : Nw w HV HV'
 t : Nw w TV TV'
theorem Nw.refl (w : World) (V : Value) : Nw w V V := .inr (.inl rfl)
theorem Nw.trans {w w1 : World} {V V' V'' : Value} (a : Nw w V V') (hs : w.heap.size ≤ w1.heap.size) (b : Nw w1 V' V'') : Nw w V V'' := by
 rcases b with b | b | ⟨k, b, hk⟩
 ·exact .inl b
 ·rcases a with a | a | ⟨k, a, hk⟩
  ·exact .inl (b.trans a)
  ·exact .inr (.inl (b.trans a))
  ·exact .inr (.inr ⟨k, b.trans a, hk⟩)
 ·exact .inr (.inr ⟨k, b, by omega⟩)
theorem Fr.refl (w : World) (B : Nat) (HV TV : Value) : Fr w w B HV TV HV TV := ⟨Nat.le_refl _, fun _ _ _ _ _ => rfl, .refl _ _, .refl _ _⟩
theorem Nw.ne {w : World} {V V' : Value} (h : Nw w V V') {k : Nat} (hk : k < w.heap.size) (hn : some k ≠ V.ownBlock) : some k ≠ V'.ownBlock := by
 rcases h with h | h | ⟨b, h, hb⟩
 ·rw [h]; simp
 ·rw [h]; exact hn
 ·rw [h]; intro e; injection e with e; omega
theorem Fr.trans {w w1 w2 : World} {B : Nat} {HV TV HV' TV' HV'' TV'' : Value} (a : Fr w w1 B HV TV HV' TV') (b : Fr w1 w2 B HV' TV' HV'' TV'') : Fr w w2 B HV TV HV'' TV'' :=
 ⟨Nat.le_trans a.size b.size, fun k h1 h2 h3 h4 => (b.keep k (Nat.lt_of_lt_of_le h1 a.size) h2 (a.h.ne h1 h3) (a.t.ne h1 h4)).trans (a.keep k h1 h2 h3 h4), a.h.trans a.size b.h, a.t.trans a.size b.t⟩
theorem Fr.below {w w' : World} (hb : Below w.heap.size w w') (B : Nat) (HV TV : Value) : Fr w w' B HV TV HV TV := ⟨hb.size, fun k h _ _ _ => hb.block k h, .refl _ _, .refl _ _⟩
theorem RdF.move {w0 w w' : World} {B : Nat} {HV TV : Value} {st : Go.Proofs.YtbhajflbbjipdaaDoor.XFm.FS} (h : RdF w0 B HV TV st w) (hb : Below w.heap.size w w') : RdF w0 B HV TV st w' :=
 ⟨h.base, below_step h.below hb, blk_below h.blk hb, q_move h.hand (fun k hk => hb.block k (q_lt h.hand k hk)), q_move h.told (fun k hk => hb.block k (q_lt h.told k hk))⟩
theorem RdF.glob {w0 w : World} {B : Nat} {HV TV : Value} {st : Go.Proofs.YtbhajflbbjipdaaDoor.XFm.FS} (h : RdF w0 B HV TV st w) (hG : GlobOk w0) : GlobOk w := hG.below h.below
/-- The bytes at hand are searched. -/
theorem idx_c {W : World} {base : Nat} {A : Option Addr} {n c N : Nat} {l : List UInt8} (hG : GlobOk W) (h : QRow W base 5 1 (.slice A n c) n (bv l)) (hl : l.length < 4294967281) (hN : ∀ i, i < 4 → W.cell? ⟨N, i, none⟩ = some (.int .u8 (([13, 10, 13, 10] : List Int).getD i 0))) :
  Calls Tryd.prog 22 #[.slice A n c, .slice (some ⟨N, 0, none⟩) 4 4] W fun e w' => e = .returned (.int .i64 (Lib.index l Go.Proofs.YtbhajflbbjipdaaDoor.XFm.crlf2)) ∧ Below W.heap.size W w' := by
 have hn : n = l.length := by have := h.1; rw [bv_len] at this; omega
 by_cases h4 : n < 4
 ·refine (Tryd.bytes_Index_longer A (some ⟨N, 0, none⟩) n c 4 4 W (by decide) h4 (by decide)).mono ?_
  rintro e w' ⟨rfl, rfl⟩
  have : Lib.index l Go.Proofs.YtbhajflbbjipdaaDoor.XFm.crlf2 = -1 := by
   rcases Lib.index_spec l Go.Proofs.YtbhajflbbjipdaaDoor.XFm.crlf2 with ⟨k, _⟩ | ⟨i, k, _⟩
   ·exact k
   ·have := Lib.index_room l Go.Proofs.YtbhajflbbjipdaaDoor.XFm.crlf2 (by omega)
    have h5 : Go.Proofs.YtbhajflbbjipdaaDoor.XFm.crlf2.length = 4 := rfl
    omega
  rw [this]
  exact ⟨rfl, Below.refl _ _⟩
 ·obtain ⟨ad, rfl, hc⟩ := q_cells h (by omega)
  obtain ⟨A', c', he, hcap⟩ := q_slice h
  injection he with e1 e2 e3
  obtain ⟨m, hm⟩ := hG.mlen
  have hc2 : ∀ i, i < 4 → W.cell? ((⟨N, 0, none⟩ : Addr).add i) = some (.int .u8 (([13, 10, 13, 10] : List Int).getD i 0)) := by
   intro i hi
   rw [add_plain]
   exact hN i hi
  refine (Tryd.bytes_Index_at ad ⟨N, 0, none⟩ n c 4 4 (l.map fun c => (c.toNat : Int)) [13, 10, 13, 10] m W (by rw [List.length_map]; omega) rfl ?_ (by decide) ?_ hc2 (by rw [e3]; exact hcap) (by omega) (by decide) hm).mono ?_
  ·intro x hx
   obtain ⟨c, _, rfl⟩ := List.mem_map.1 hx
   have := c.toNat_lt
   omega
  ·intro i hi
   refine hc i _ ?_
   have hi' : i < l.length := by omega
   simp [bv, List.getElem?_eq_getElem hi', List.getD_eq_getElem?_getD]
  ·rintro e w' ⟨rfl, q, rfl⟩
   rw [bytesOf_ints]
   exact ⟨rfl, below_drewN W q⟩
theorem q_bytes {W : World} {base : Nat} {A : Option Addr} {n c : Nat} {l : List UInt8} (h : QRow W base 5 1 (.slice A n c) n (bv l)) : Lib.BytesIn W A n (l.map fun c => (c.toNat : Int)) := by
 intro hn
 have hl : n = l.length := by have := h.1; rw [bv_len] at this; omega
 rcases h.2 with ⟨h0, _⟩ | ⟨g, off, cap, cur, he, _⟩
 ·omega
 ·injection he with e1 e2 e3
  subst e1; refine ⟨g, off * 1, rfl, fun i hi => ?_⟩
  obtain ⟨ad, ha, hc⟩ := q_cells h hn
  injection ha with ha
  subst ha; have hi' : i < l.length := by omega
  have := hc i (.int .u8 ((l[i].toNat : Nat) : Int)) (by simp [bv, List.getElem?_eq_getElem hi'])
  rw [add_at] at this
  rw [this]
  simp [List.getD_eq_getElem?_getD, List.getElem?_eq_getElem hi']
/-- Bytes as a string. -/
theorem q_str {W : World} {base : Nat} {A : Option Addr} {n c : Nat} {l : List UInt8} (h : QRow W base 5 1 (.slice A n c) n (bv l)) : (convert 29 9 (.slice A n c)).run Tryd.prog W = .ok (.string ⟨l.toArray⟩) W := by
 have hl : n = l.length := by have := h.1; rw [bv_len] at this; omega
 rw [← str_ints l]
 rcases Nat.eq_zero_or_pos n with h0 | h0
 ·subst h0; obtain rfl : l = [] := List.eq_nil_of_length_eq_zero (by omega)
  exact run_convert_bytes_zero W _ _ Tryd.underlying29 Tryd.underlying5 A c _ Tryd.underlying9
 ·obtain ⟨b, o, rfl, hc⟩ := q_bytes h h0
  exact run_convert_bytes_arg W _ _ Tryd.underlying29 Tryd.underlying5 b o n c _ (by rw [List.length_map]; omega) hc _ Tryd.underlying9
theorem hp_c {W : World} {base : Nat} {A : Option Addr} {n c N : Nat} {l : List UInt8} (h : QRow W base 5 1 (.slice A n c) n (bv l)) (hN : ∀ i, i < 2 → W.cell? ⟨N, i, none⟩ = some (.int .u8 (([13, 10] : List Int).getD i 0))) :
  Calls Tryd.prog 23 #[.slice A n c, .slice (some ⟨N, 0, none⟩) 2 2] W fun e w' => e = .returned (.bool (Lib.hasPrefix l Go.Proofs.YtbhajflbbjipdaaDoor.XFm.crlf)) ∧ w' = W := by
 have hn : n = l.length := by have := h.1; rw [bv_len] at this; omega
 obtain ⟨A', c', he, hcap⟩ := q_slice h
 injection he with e1 e2 e3
 have hb := Tryd.bytes_HasPrefix_all A (some ⟨N, 0, none⟩) n c 2 2 (l.map fun c => (c.toNat : Int)) [13, 10] W (by rw [List.length_map]; omega) rfl (by rw [e3]; exact hcap) ?_ ?_
 ·rw [bytesOf_ints] at hb
  exact hb
 ·exact q_bytes h
 ·intro _
  refine ⟨N, 0, rfl, fun i hi => ?_⟩
  rw [Nat.zero_add]
  exact hN i hi
/-- Only this block is another. -/
structure Only (B : Nat) (w w' : World) : Prop where
 os : w'.os = w.os
 tape : w'.tape = w.tape
 output : w'.output = w.output
 size : w'.heap.size = w.heap.size
 block : ∀ k, k ≠ B → w'.heap[k]? = w.heap[k]?
theorem Only.refl (B : Nat) (w : World) : Only B w w := ⟨rfl, rfl, rfl, rfl, fun _ _ => rfl⟩
theorem Only.set {B : Nat} {w w' : World} (h : Only B w w') (i : Nat) (v : Value) : Only B w (w'.setCell ⟨B, i, none⟩ v) :=
 ⟨h.os, h.tape, h.output, (World.size_setCell ..).trans h.size, fun k hk => (Below.heap_setCell w' ⟨B, i, none⟩ v k hk).trans (h.block k hk)⟩
theorem Only.drew {B : Nat} {w w' : World} (h : Only B w w') : Only B w w'.drew := ⟨h.os, h.tape, h.output, h.size, h.block⟩
theorem Only.below {B : Nat} {w0 w w' : World} (hb : w0.heap.size ≤ B) (h0 : Below w0.heap.size w0 w) (h : Only B w w') : Below w0.heap.size w0 w' :=
 ⟨h.os.trans h0.os, h.tape.trans h0.tape, h.output.trans h0.output, by rw [h.size]; exact h0.size, fun k hk => (h.block k (by omega)).trans (h0.block k hk)⟩
theorem q_not {w : World} {base n : Nat} {e T : TypeId} {V : Value} {xs : List Value} {B : Nat} {cs : Array Value} (h : QRow w base e 1 V n xs) (hB : w.heap[B]? = some (.cells cs T (0, 0))) (hne : e ≠ T) : ∀ k, V.ownBlock = some k → k ≠ B := by
 intro k hk e
 obtain ⟨_, cells, hc⟩ := q_typed h k hk
 rw [e, hB] at hc
 injection hc with hc
 injection hc with _ hc
 exact hne hc.symm
theorem RdF.only {w0 w w' : World} {B : Nat} {HV TV HV' TV' : Value} {st st' : Go.Proofs.YtbhajflbbjipdaaDoor.XFm.FS} (h : RdF w0 B HV TV st w) (ho : Only B w w')
  (hb : w'.heap[B]? = some (.cells #[HV', doV st'.inB B, .int .i64 st'.len, TV', .int .i64 st'.dead] 46 (0, 0)))
  (hh : QRow w w0.heap.size 5 1 HV' st'.hand.length (bv st'.hand)) (ht : QRow w w0.heap.size 9 1 TV' st'.told.length (sv st'.told)) : RdF w0 B HV' TV' st' w' :=
 ⟨h.base, ho.below h.base h.below, hb, q_move hh (fun k hk => ho.block k (q_not hh h.blk (by decide) k hk)), q_move ht (fun k hk => ho.block k (q_not ht h.blk (by decide) k hk))⟩
theorem Fr.only {w w' : World} {B : Nat} {HV TV HV' TV' : Value} (ho : Only B w w') (h : Nw w HV HV') (t : Nw w TV TV') : Fr w w' B HV TV HV' TV' := ⟨by rw [ho.size]; exact Nat.le_refl _, fun k _ hk _ _ => ho.block k hk, h, t⟩
theorem q_nil (w : World) (base : Nat) (e : TypeId) : QRow w base e 1 (.slice none 0 0) 0 [] := ⟨rfl, .inl ⟨rfl, none, rfl, fun a h => by cases h⟩⟩
set_option maxRecDepth 100000 in
theorem frame_Reader_die.calls (w0 w : World) (B : Nat) (HV TV : Value) (st : Go.Proofs.YtbhajflbbjipdaaDoor.XFm.FS) (e : Int) (h : RdF w0 B HV TV st w) : Calls Tryd.prog 24 #[.pointer (some ⟨B, 0, none⟩), .int .i64 e] w fun en w' => en = .returned (.bool false) ∧ RdF w0 B (.slice none 0 0) TV { st with dead := e, hand := [] } w' ∧ Fr w w' B HV TV (.slice none 0 0) TV := by
 have H := Aside0.mk h; have y0 := blk_cell h.blk 0
 have y1 := blk_cell h.blk 4
 have g0 := blk_frozen h.blk 0
 have g4 := blk_frozen h.blk 4
 clear h; go_enter Tryd.func24, Tryd.ntmps24
 go_wp2
 go_ret
 refine ⟨rfl, H.out.only (((Only.refl B w).set 4 (.int .i64 e)).set 0 (.slice none 0 0)) ?_ (q_nil _ _ _) H.out.told, .only (((Only.refl B w).set 4 (.int .i64 e)).set 0 (.slice none 0 0)) (.inl rfl) (.refl _ _)⟩
 exact blk_put (blk_put H.out.blk 4 (.int .i64 e) rfl) 0 (.slice none 0 0) rfl
section
variable {P : Program} {ops : Array Oper} {rest : List Oper} {o : Oper} {a : Act} {Q' : Exit → Act → World → Prop} {Kc : Act → World → Prop}
theorem qrow_one {W : World} (base : Nat) (t ty e : TypeId) (z : Value) (bytes : Nat) (ht : P.underlying t = some (.slice e)) (hinfo : (P.info? e).map (fun i => (i.zero, i.size, i.bytes)) = some (some z, 1, bytes)) (hz : z.cells.size = 1) (hb0 : 0 < bytes)
  (v : Value) (xs : List Value) (y : Value) (h1 : y.oneCell' = true) (HO : QRow W base e 1 v xs.length xs) (hbase : base ≤ W.heap.size) (hl : (xs.length + 1) * bytes ≤ 140737488355328) :
  ∃ v1 w1, (Builtin.append_ #[t, t] ty #[v, .slice (some ⟨W.heap.size, 0, none⟩) 1 1]).run P (W.alloc (.cells #[y] e)) = .ok v1 w1 ∧ QRow w1 base e 1 v1 (xs.length + 1) (xs ++ [y]) ∧ W.grownBy w1 v.ownBlock ∧ (v1.ownBlock = v.ownBlock ∨ ∃ b, v1.ownBlock = some b ∧ W.heap.size ≤ b) := by
 obtain ⟨i0, hi, hzz⟩ := Option.map_eq_some_iff.1 hinfo
 simp only [Prod.mk.injEq] at hzz
 obtain ⟨hz0, hz1, hz2⟩ := hzz
 have hlen : xs.length + 1 ≤ 140737488355328 := Nat.le_trans (Nat.le_mul_of_pos_right _ hb0) hl
 have hq : QRow (W.alloc (.cells #[y] e)) base e 1 v xs.length xs := q_move HO (fun k hk => Below.heap_alloc W _ k (q_lt HO k hk))
 obtain ⟨v1, w1, hrun, hq1, hg1, hat⟩ := q_append (P := P) (W.alloc (.cells #[y] e)) base t ty e i0 z 1 bytes ht hi hz0 hz1 hz2 hz (by omega) v xs.length xs hq ⟨W.heap.size, 0, none⟩ 1 1 [y] rfl
  (by simpa using World.news_of_block (cs := #[y]) (t := e) (fr := (0, 0)) (heap_alloc_new W (.cells #[y] e))) (by simpa using h1) (by omega) (by simp only [maxLen]; omega) hl (by simp; omega)
 refine ⟨v1, w1, hrun, hq1, World.grownBy.trans (World.grownBy_alloc W _ _) hg1, ?_⟩
 rcases hat with hat | ⟨b, hb, hle⟩
 ·exact .inl hat
 ·exact .inr ⟨b, hb, by rw [World.size_alloc] at hle; omega⟩
theorem qrow_step {W : World} (base : Nat) (hw : Region.wanted o (yielded ops a.tmps) = true) (s x : Operand) (t e : TypeId) (z : Value) (bytes : Nat)
  (ho : o.op = .call { callee := .builtin .append, args := #[s, x], argTypes := #[t, t] })
  (ht : P.underlying t = some (.slice e)) (hinfo : (P.info? e).map (fun i => (i.zero, i.size, i.bytes)) = some (some z, 1, bytes)) (hz : z.cells.size = 1) (hb0 : 0 < bytes)
  (v : Value) (xs : List Value) (y : Value) (h1 : y.oneCell' = true) (hs : a.eval s = v) (hx : a.eval x = .slice (some ⟨W.heap.size, 0, none⟩) 1 1) (HO : QRow W base e 1 v xs.length xs) (hbase : base ≤ W.heap.size) (hl : (xs.length + 1) * bytes ≤ 140737488355328)
  (h : ∀ v1 w1, QRow w1 base e 1 v1 (xs.length + 1) (xs ++ [y]) → W.grownBy w1 v.ownBlock → (v1.ownBlock = v.ownBlock ∨ ∃ b, v1.ownBlock = some b ∧ W.heap.size ≤ b) → Kc (a.put o.dst v1) w1) :
  if Region.wanted o (yielded ops a.tmps) = true then Oper.wp P o a (W.alloc (.cells #[y] e)) Kc Q' else Kc (a.put o.dst undef) (W.alloc (.cells #[y] e)) := by
 obtain ⟨v1, w1, hr, h2, h3, h4⟩ := qrow_one (P := P) base t o.type e z bytes ht hinfo hz hb0 v xs y h1 HO hbase hl
 rw [if_pos hw]
 unfold Oper.wp execOp
 simp only [ho, resolve, invoke, builtin, Sem.run_bind, Sem.run_pure, Result.andThen_ok, List.map_toArray, List.map_cons, List.map_nil, hs, hx, hr]
 exact h v1 w1 h2 h3 h4
/-- append(v, ys...): ys read where it lies. -/
theorem qrow_all {W : World} (base : Nat) (t ty e : TypeId) (z : Value) (bytes : Nat) (ht : P.underlying t = some (.slice e)) (hinfo : (P.info? e).map (fun i => (i.zero, i.size, i.bytes)) = some (some z, 1, bytes)) (hz : z.cells.size = 1) (hb0 : 0 < bytes)
  (v : Value) (xs : List Value) (A : Option Addr) (m c : Nat) (ys : List Value) (hm : ys.length = m) (hy : 0 < m → ∃ ad, A = some ad ∧ ∀ j u, ys[j]? = some u → W.cell? (ad.add j) = some u) (h1 : ∀ u ∈ ys, u.oneCell' = true) (HO : QRow W base e 1 v xs.length xs) (hbase : base ≤ W.heap.size) (hl : (xs.length + m) * bytes ≤ 140737488355328) :
  ∃ v1 w1, (Builtin.append_ #[t, t] ty #[v, .slice A m c]).run P W = .ok v1 w1 ∧ QRow w1 base e 1 v1 (xs.length + m) (xs ++ ys) ∧ W.grownBy w1 v.ownBlock ∧ (v1.ownBlock = v.ownBlock ∨ ∃ b, v1.ownBlock = some b ∧ W.heap.size ≤ b) := by
 obtain ⟨i0, hi, hzz⟩ := Option.map_eq_some_iff.1 hinfo
 simp only [Prod.mk.injEq] at hzz
 obtain ⟨hz0, hz1, hz2⟩ := hzz
 have hlen : xs.length + m ≤ 140737488355328 := Nat.le_trans (Nat.le_mul_of_pos_right _ hb0) hl
 rcases Nat.eq_zero_or_pos m with h0 | h0
 ·subst h0; obtain rfl : ys = [] := List.eq_nil_of_length_eq_zero hm
  obtain ⟨A', c', rfl, hc'⟩ := q_slice HO
  refine ⟨_, W, ?_, by simpa using HO, World.grownBy.refl W _, .inl rfl⟩
  have hs : Src P i0.size t (.slice A 0 c) 0 [] W := by
   refine ⟨.inl ⟨e, ht⟩, fun w' => by simp [Builtin.lenOf], ?_, ?_, by simp, fun u hu => by cases hu⟩
   ·cases A <;> simp [Builtin.firstCells, loadCells, loadCellsFrom]
   ·cases A <;> simp [Builtin.firstCells, loadCells, loadCellsFrom]
  exact run_append_nothing W t t ty e i0 ht hi A' xs.length c' hc' _ hs
 ·obtain ⟨ad, rfl, hc⟩ := hy h0
  exact q_append (P := P) W base t ty e i0 z 1 bytes ht hi hz0 hz1 hz2 hz (by omega) v xs.length xs HO ad m c ys (by omega) hc h1 h0 (by simp only [maxLen]; omega) hl hbase
theorem qrow_put {W : World} (base : Nat) (hgd : o.guard = none) (s x : Operand) (t e : TypeId) (z : Value) (bytes : Nat)
  (ho : o.op = .call { callee := .builtin .append, args := #[s, x], argTypes := #[t, t] })
  (ht : P.underlying t = some (.slice e)) (hinfo : (P.info? e).map (fun i => (i.zero, i.size, i.bytes)) = some (some z, 1, bytes)) (hz : z.cells.size = 1) (hb0 : 0 < bytes)
  (v : Value) (xs : List Value) (A : Option Addr) (m c : Nat) (ys : List Value) (hm : ys.length = m) (hy : 0 < m → ∃ ad, A = some ad ∧ ∀ j u, ys[j]? = some u → W.cell? (ad.add j) = some u) (h1 : ∀ u ∈ ys, u.oneCell' = true) (hs : a.eval s = v) (hx : a.eval x = .slice A m c)
  (HO : QRow W base e 1 v xs.length xs) (hbase : base ≤ W.heap.size) (hl : (xs.length + m) * bytes ≤ 140737488355328)
  (h : ∀ v1 w1, QRow w1 base e 1 v1 (xs.length + m) (xs ++ ys) → W.grownBy w1 v.ownBlock → (v1.ownBlock = v.ownBlock ∨ ∃ b, v1.ownBlock = some b ∧ W.heap.size ≤ b) → wpList P ops Q' rest (a.put o.dst v1) w1) :
  wpList P ops Q' (o :: rest) a W := by
 obtain ⟨v1, w1, hr, h2, h3, h4⟩ := qrow_all (P := P) base t o.type e z bytes ht hinfo hz hb0 v xs A m c ys hm hy h1 HO hbase hl
 refine wpList_plain hgd fun K hK => ?_
 unfold Oper.wp execOp
 simp only [ho, resolve, invoke, builtin, Sem.run_bind, Sem.run_pure, Result.andThen_ok, List.map_toArray, List.map_cons, List.map_nil, hs, hx, hr]
 exact hK _ _ (h v1 w1 h2 h3 h4)
end
theorem sv_app (l : List (List UInt8)) (b : List UInt8) : sv (l ++ [b]) = sv l ++ [.string ⟨b.toArray⟩] := by simp [sv]
theorem bv_take (l : List UInt8) (n : Nat) : (bv l).take (n * 1) = bv (l.take n) := by rw [Nat.mul_one]; simp [bv]
theorem bv_drop (l : List UInt8) (n : Nat) : (bv l).drop (n * 1) = bv (l.drop n) := by rw [Nat.mul_one]; simp [bv]
theorem sv_drop (l : List (List UInt8)) (n : Nat) : (sv l).drop (n * 1) = sv (l.drop n) := by rw [Nat.mul_one]; simp [sv]
theorem grown_only {w w' : World} {V : Value} {w0 : World} (hb : Below w0.heap.size w0 w) (hg : w.grownBy w' V.ownBlock) (hV : ∀ k, V.ownBlock = some k → w0.heap.size ≤ k) : Below w0.heap.size w0 w' :=
 ⟨hg.os.trans hb.os, hg.tape.trans hb.tape, hg.output.trans hb.output, Nat.le_trans hb.size hg.size, fun k hk => (hg.block k (Nat.lt_of_lt_of_le hk hb.size) (fun e => by have := hV k e.symm; omega)).trans (hb.block k hk)⟩
theorem q_apart {w w' : World} {base n m : Nat} {e e' : TypeId} {V V' : Value} {xs ys : List Value} (h : QRow w base e 1 V n xs) (h' : QRow w base e' 1 V' m ys) (hne : e ≠ e') (hg : w.grownBy w' V'.ownBlock) : QRow w' base e 1 V n xs := by
 refine q_move h (fun k hk => hg.block k (q_lt h k hk) (fun c => ?_))
 obtain ⟨_, cells, hc⟩ := q_typed h k hk
 obtain ⟨_, cells', hc'⟩ := q_typed h' k c.symm
 rw [hc] at hc'
 injection hc' with hc'
 injection hc' with _ hc'
 exact hne hc'
theorem rd_told {w0 W w1 : World} {B : Nat} {HV TV TV' : Value} {st : Go.Proofs.YtbhajflbbjipdaaDoor.XFm.FS} {b : List UInt8} (h : RdF w0 B HV TV st W) (hg : W.drew.grownBy w1 TV.ownBlock) (hq : QRow w1 w0.heap.size 9 1 TV' ((sv st.told).length + 1) (sv st.told ++ [.string ⟨b.toArray⟩]))
  (hat : TV'.ownBlock = TV.ownBlock ∨ ∃ k, TV'.ownBlock = some k ∧ W.drew.heap.size ≤ k) : RdF w0 B HV TV' { st with told := st.told ++ [b] } (w1.setCell ⟨B, 3, none⟩ TV') ∧ Fr W (w1.setCell ⟨B, 3, none⟩ TV') B HV TV HV TV' := by
 have hB : w1.heap[B]? = some (.cells #[HV, doV st.inB B, .int .i64 st.len, TV, .int .i64 st.dead] 46 (0, 0)) := (hg.block B (blk_lt h.blk) (fun e => q_not h.told h.blk (by decide) B e.symm rfl)).trans h.blk
 have ho := (Only.refl B w1).set 3 TV'
 have hbl : Below w0.heap.size w0 w1 := grown_only (V := TV) (w := W.drew) (below_drew1 h.below) hg (fun k hk => (q_typed h.told k hk).1)
 have hh : QRow w1 w0.heap.size 5 1 HV st.hand.length (bv st.hand) := q_apart (w := W.drew) (q_move h.hand (fun _ _ => rfl)) (q_move h.told (fun _ _ => rfl)) (by decide) hg
 have hs : W.heap.size ≤ w1.heap.size := hg.size
 refine ⟨⟨h.base, ho.below h.base hbl, blk_put hB 3 TV' rfl, q_move hh (fun k hk => ho.block k (q_not hh hB (by decide) k hk)), ?_⟩, ⟨by rw [ho.size]; exact hs, fun k h1 h2 h3 h4 => (ho.block k h2).trans (hg.block k h1 h4), .refl _ _, ?_⟩⟩
 ·rw [sv_app, List.length_append, List.length_singleton]
  rw [sv_len] at hq
  exact q_move hq (fun k hk => ho.block k (q_not hq hB (by decide) k hk))
 ·rcases hat with hat | ⟨k, hk, hle⟩
  ·exact .inr (.inl hat)
  ·exact .inr (.inr ⟨k, hk, hle⟩)
theorem own_map (A : Option Addr) (k n c n' c' : Nat) : (Value.slice (A.map fun x => x.add k) n c).ownBlock = (Value.slice A n' c').ownBlock := by
 cases A with
 | none => rfl
 | some a => simp [Value.ownBlock]; unfold Addr.add; split <;> rfl
theorem rd_body {w0 w : World} {B : Nat} {HV HV' TV : Value} {st : Go.Proofs.YtbhajflbbjipdaaDoor.XFm.FS} (h : RdF w0 B HV TV st w) (k : Nat) (hq : QRow w w0.heap.size 5 1 HV' (st.hand.drop k).length (bv (st.hand.drop k))) (hown : HV'.ownBlock = HV.ownBlock) :
  RdF w0 B HV' TV { st with hand := st.hand.drop k, inB := false } ((w.setCell ⟨B, 0, none⟩ HV').setCell ⟨B, 1, none⟩ (.func (.func 18) #[.pointer (some ⟨B, 0, none⟩)] #[])).drew ∧ Fr w ((w.setCell ⟨B, 0, none⟩ HV').setCell ⟨B, 1, none⟩ (.func (.func 18) #[.pointer (some ⟨B, 0, none⟩)] #[])).drew B HV TV HV' TV := by
 have ho := (((Only.refl B w).set 0 HV').set 1 (.func (.func 18) #[.pointer (some ⟨B, 0, none⟩)] #[])).drew
 exact ⟨h.only ho (blk_put (blk_put h.blk 0 HV' rfl) 1 _ rfl) hq h.told, .only ho (.inr (.inl hown)) (.refl _ _)⟩
set_option maxRecDepth 100000 in
set_option maxHeartbeats 4000000 in
theorem body_wait (w0 w : World) (B : Nat) (HV TV : Value) (st : Go.Proofs.YtbhajflbbjipdaaDoor.XFm.FS) (h : RdF w0 B HV TV st w) (hw : st.hand.length < st.len) : Calls Tryd.prog 26 #[.pointer (some ⟨B, 0, none⟩)] w fun en w' => en = .returned (.bool false) ∧ Below w.heap.size w w' := by
 obtain ⟨A, c, rfl, hc⟩ := q_slice h.hand
 have y0 := blk_cell h.blk 0
 have y2 := blk_cell h.blk 2
 have t : decide ((st.hand.length : Int) < (st.len : Int)) = true := decide_eq_true (by omega)
 have t' : decide (st.hand.length < st.len) = true := decide_eq_true (by omega)
 clear h; go_enter Tryd.func26, Tryd.ntmps26
 go_wp2
 go_region
 all_goals (go_wp2; go_ret)
 all_goals exact ⟨rfl, by first | exact below_drew1 (Below.refl _ _) | exact below_drewN _ _ | exact Below.refl _ _⟩
set_option maxRecDepth 100000 in
set_option maxHeartbeats 4000000 in
theorem body_go (w0 w : World) (B : Nat) (HV TV : Value) (st : Go.Proofs.YtbhajflbbjipdaaDoor.XFm.FS) (h : RdF w0 B HV TV st w) (hw : ¬ st.hand.length < st.len) (ht : st.told.length ≤ 1000000) : Calls Tryd.prog 26 #[.pointer (some ⟨B, 0, none⟩)] w fun en w' => ∃ HV' TV', en = .returned (.bool true) ∧ RdF w0 B HV' TV' { st with told := st.told ++ [st.hand.take st.len], hand := st.hand.drop st.len, inB := false } w' ∧ Fr w w' B HV TV HV' TV' := by
 obtain ⟨A, c, rfl, hc⟩ := q_slice h.hand
 obtain ⟨A2, c2, rfl, hc2⟩ := q_slice h.told
 have H := Aside0.mk h; have y0 := blk_cell h.blk 0
 have y2 := blk_cell h.blk 2
 have t : decide ((st.hand.length : Int) < (st.len : Int)) = false := decide_eq_false (by omega)
 have t' : decide (st.hand.length < st.len) = false := decide_eq_false (by omega)
 have b1 : (st.len : Int) ≤ (c : Int) := by omega
 have b2 : (0 : Int) ≤ (st.len : Int) := by omega
 have HW := Aside0.mk hw; have HT := Aside0.mk ht; clear h hw ht; go_enter Tryd.func26, Tryd.ntmps26
 go_wp2
 go_quiet (fail)
 go_wp2
 obtain ⟨W2, hW2⟩ : ∃ W2, W2 = w.drewN nq := ⟨_, rfl⟩
 rw [← hW2]
 have H2 := Aside0.mk (show RdF w0 B (.slice A st.hand.length c) (.slice A2 st.told.length c2) st W2 by rw [hW2]; exact H.out.move (below_drewN w nq))
 have HF2 := Aside0.mk (show Below w.heap.size w W2 by rw [hW2]; exact below_drewN w nq)
 clear hW2 y0 y2 H; have y0 := blk_cell H2.out.blk 0
 have y2 := blk_cell H2.out.blk 2
 have y3 := blk_cell H2.out.blk 3
 have g3 := blk_frozen H2.out.blk 3
 have hq := q_take H2.out.hand (show st.len ≤ st.hand.length by have := HW.out; omega)
 rw [bv_take] at hq
 have hcv := q_str hq
 have hcv2 := q_str (q_move (w1 := W2.drew) hq (fun _ _ => rfl))
 have HO := Aside0.mk (show QRow W2.drew w0.heap.size 9 1 (.slice A2 st.told.length c2) (sv st.told).length (sv st.told) by rw [sv_len]; exact q_move (w1 := W2.drew) H2.out.told (fun _ _ => rfl))
 have HBs := Aside0.mk (show w0.heap.size ≤ W2.drew.heap.size from Nat.le_trans H2.out.below.size (Nat.le_refl _))
 have HL := Aside0.mk (show ((sv st.told).length + 1) * 16 ≤ 140737488355328 by rw [sv_len]; have := HT.out; omega)
 have y3a := blk_cell (blk_alloc H2.out.blk (.cells #[.string ⟨(st.hand.take st.len).toArray⟩] 9 (0, 0))) 3
 clear hq; go_cut [] from 13 to 31 (fun wc => ∃ (A3 : Option Addr) (c3 : Nat), Aside0 (RdF w0 B (.slice A st.hand.length c) (.slice A3 (st.told.length + 1) c3) { st with told := st.told ++ [st.hand.take st.len] } wc) ∧ Aside0 (Fr W2 wc B (.slice A st.hand.length c) (.slice A2 st.told.length c2) (.slice A st.hand.length c) (.slice A3 (st.told.length + 1) c3)))
 case first =>
  rename_i J K2 hJ hK2
  go_region_law (refine qrow_step w0.heap.size rfl (.tmp 17) (.tmp 28) 31 9 (.string ⟨#[]⟩) 16 rfl Tryd.underlying31 (by kernel_rfl) rfl (by decide) (.slice A2 st.told.length c2) (sv st.told) (.string ⟨(st.hand.take st.len).toArray⟩) rfl (by simp [Act.eval, Act.put]) (by simp [Act.eval, Act.put]) HO.out HBs.out HL.out ?_; intro v1 w1 hq1 hg1 hat1; obtain ⟨A3, c3, rfl, hc3⟩ := q_slice hq1; have hbl := (hg1.block B (blk_lt H2.out.blk) (fun e => q_not H2.out.told H2.out.blk (by decide) B e.symm rfl)).trans (show W2.drew.heap[B]? = _ from H2.out.blk); have y3' := blk_cell hbl 3; have g3' := blk_frozen hbl 3; have HQ1 := Aside0.mk hq1; have HG1 := Aside0.mk hg1; have HA1 := Aside0.mk hat1; have HBL := Aside0.mk hbl; clear hq1 hg1 hat1 hbl)
  all_goals
   refine hK2 _ _ (Met.intro (hJ _ _ ?_))
   (repeat apply Exists.intro)
   refine ⟨?rel, rfl⟩
   case rel =>
    have hz := rd_told H2.out HG1.out HQ1.out HA1.out
    rw [sv_len] at hz ⊢
    exact ⟨A3, c3, ⟨hz.1⟩, ⟨hz.2⟩⟩
 case rest =>
  obtain ⟨A3, c3, H3, HF3⟩ := hcut
  clear y0 y2 y3 g3 y3a hcv hcv2 HO HBs HL; have y0 := blk_cell H3.out.blk 0
  have y2 := blk_cell H3.out.blk 2
  have g0 := blk_frozen H3.out.blk 0
  have g1 := blk_frozen H3.out.blk 1
  have z1 := blk_cell H3.out.blk 1
  have b1' : (st.len : Int) ≤ (st.hand.length : Int) := by have := HW.out; omega
  go_wp2
  go_region
  all_goals go_wp2
  all_goals go_ret
  all_goals
   have hq := q_drop H3.out.hand (show st.len ≤ st.hand.length by have := HW.out; omega)
  ·subst h; rw [if_pos rfl, bv_drop, Nat.sub_self] at hq
   have hz := rd_body (HV' := .slice A (st.hand.length - st.len) 0) H3.out st.len (by rw [List.length_drop]; exact hq) (by cases A <;> rfl)
   exact ⟨rfl, _, _, hz.1, (Fr.below HF2.out B _ _).trans (HF3.out.trans hz.2)⟩
  ·rw [if_neg h, bv_drop] at hq
   have hz := rd_body H3.out st.len (by rw [List.length_drop]; exact hq) (own_map A _ _ _ _ _)
   simp only [Nat.mul_one] at hz
   exact ⟨rfl, _, _, hz.1, (Fr.below HF2.out B _ _).trans (HF3.out.trans hz.2)⟩
theorem frame_Reader_body.calls (w0 w : World) (B : Nat) (HV TV : Value) (st : Go.Proofs.YtbhajflbbjipdaaDoor.XFm.FS) (h : RdF w0 B HV TV st w) (hb : st.inB = true) (ht : st.told.length ≤ 1000000) : Calls Tryd.prog 26 #[.pointer (some ⟨B, 0, none⟩)] w fun en w' => ∃ HV' TV', en = .returned (.bool (Go.Proofs.YtbhajflbbjipdaaDoor.XFm.turn st).1) ∧ RdF w0 B HV' TV' (Go.Proofs.YtbhajflbbjipdaaDoor.XFm.turn st).2 w' ∧ Fr w w' B HV TV HV' TV' := by
 unfold Go.Proofs.YtbhajflbbjipdaaDoor.XFm.turn
 rw [if_pos hb]
 by_cases c : st.hand.length < st.len
 ·rw [if_pos c]
  refine (body_wait w0 w B HV TV st h c).mono ?_
  rintro e w' ⟨rfl, hb⟩
  exact ⟨HV, TV, rfl, h.move hb, .below hb B HV TV⟩
 ·rw [if_neg c]
  exact body_go w0 w B HV TV st h c ht
/-- Where a head ends, as the walk finds it. -/
def AtE (l : List UInt8) (a b : Int) : Prop := (Go.Proofs.YtbhajflbbjipdaaDoor.XFm.endP l = none ∧ a = -1 ∧ b = 3) ∨ ∃ i j : Nat, Go.Proofs.YtbhajflbbjipdaaDoor.XFm.endP l = some (i, j) ∧ a = i ∧ b = j ∧ i + 2 ≤ j ∧ j ≤ l.length
theorem at_pre {l : List UInt8} (h : Lib.hasPrefix l Go.Proofs.YtbhajflbbjipdaaDoor.XFm.crlf = true) : AtE l 0 2 := by
 have e : Go.Proofs.YtbhajflbbjipdaaDoor.XFm.endP l = some (0, 2) := by unfold Go.Proofs.YtbhajflbbjipdaaDoor.XFm.endP; rw [if_pos h]
 have := Go.Proofs.YtbhajflbbjipdaaDoor.XFm.endP_le e
 exact .inr ⟨0, 2, e, rfl, rfl, by omega, this.2.1⟩
theorem at_idx {l : List UInt8} (h : Lib.hasPrefix l Go.Proofs.YtbhajflbbjipdaaDoor.XFm.crlf = false) : AtE l (Lib.index l Go.Proofs.YtbhajflbbjipdaaDoor.XFm.crlf2) (Lib.index l Go.Proofs.YtbhajflbbjipdaaDoor.XFm.crlf2 + 4) := by
 have hg := Lib.index_ge l Go.Proofs.YtbhajflbbjipdaaDoor.XFm.crlf2
 by_cases c : 0 ≤ Lib.index l Go.Proofs.YtbhajflbbjipdaaDoor.XFm.crlf2
 ·have e : Go.Proofs.YtbhajflbbjipdaaDoor.XFm.endP l = some ((Lib.index l Go.Proofs.YtbhajflbbjipdaaDoor.XFm.crlf2).toNat, (Lib.index l Go.Proofs.YtbhajflbbjipdaaDoor.XFm.crlf2).toNat + 4) := by unfold Go.Proofs.YtbhajflbbjipdaaDoor.XFm.endP; rw [if_neg (by rw [h]; decide), if_pos c]
  have := Go.Proofs.YtbhajflbbjipdaaDoor.XFm.endP_le e
  exact .inr ⟨_, _, e, by omega, by omega, by omega, this.2.1⟩
 ·refine .inl ⟨?_, by omega, by omega⟩
  unfold Go.Proofs.YtbhajflbbjipdaaDoor.XFm.endP
  rw [if_neg (by rw [h]; decide), if_neg c]
theorem const4 (w : World) : ∀ i, i < 4 → (w.alloc (.cells #[.int .u8 13, .int .u8 10, .int .u8 13, .int .u8 10] 5 (4, 5))).cell? ⟨w.heap.size, i, none⟩ = some (.int .u8 (([13, 10, 13, 10] : List Int).getD i 0)) := by
 intro i hi
 simp only [World.cell?, show (w.alloc (.cells #[.int .u8 13, .int .u8 10, .int .u8 13, .int .u8 10] 5 (4, 5))).heap[w.heap.size]? = some (.cells #[.int .u8 13, .int .u8 10, .int .u8 13, .int .u8 10] 5 (4, 5)) from heap_alloc_new w _]
 have : i = 0 ∨ i = 1 ∨ i = 2 ∨ i = 3 := by omega
 rcases this with rfl | rfl | rfl | rfl <;> rfl
theorem const2 (w : World) : ∀ i, i < 2 → (w.alloc (.cells #[.int .u8 13, .int .u8 10] 5 (2, 3))).cell? ⟨w.heap.size, i, none⟩ = some (.int .u8 (([13, 10] : List Int).getD i 0)) := by
 intro i hi
 simp only [World.cell?, show (w.alloc (.cells #[.int .u8 13, .int .u8 10] 5 (2, 3))).heap[w.heap.size]? = some (.cells #[.int .u8 13, .int .u8 10] 5 (2, 3)) from heap_alloc_new w _]
 have : i = 0 ∨ i = 1 := by omega
 rcases this with rfl | rfl <;> rfl
theorem cv4 (w : World) : (convert 29 29 (.slice (some ⟨w.heap.size, 0, none⟩) 4 4)).run Tryd.prog (w.alloc (.cells #[.int .u8 13, .int .u8 10, .int .u8 13, .int .u8 10] 5)) = .ok (.slice (some ⟨w.heap.size, 0, none⟩) 4 4) (w.alloc (.cells #[.int .u8 13, .int .u8 10, .int .u8 13, .int .u8 10] 5 (4, 5))) := Lib.run_convert_bytes_const w _ _ _ 4 4 Tryd.underlying29 Tryd.underlying5
theorem cv2 (w : World) : (convert 29 29 (.slice (some ⟨w.heap.size, 0, none⟩) 2 2)).run Tryd.prog (w.alloc (.cells #[.int .u8 13, .int .u8 10] 5)) = .ok (.slice (some ⟨w.heap.size, 0, none⟩) 2 2) (w.alloc (.cells #[.int .u8 13, .int .u8 10] 5 (2, 3))) := Lib.run_convert_bytes_const w _ _ _ 2 2 Tryd.underlying29 Tryd.underlying5
theorem tn_none {st : Go.Proofs.YtbhajflbbjipdaaDoor.XFm.FS} (hb : st.inB = false) (e : Go.Proofs.YtbhajflbbjipdaaDoor.XFm.endP st.hand = none) (l : st.hand.length < 1024) : Go.Proofs.YtbhajflbbjipdaaDoor.XFm.turn st = (false, st) := by
 unfold Go.Proofs.YtbhajflbbjipdaaDoor.XFm.turn Go.Proofs.YtbhajflbbjipdaaDoor.XFm.hdP
 rw [if_neg (by rw [hb]; decide), e]
 dsimp only
 rw [if_pos l]
theorem tn_long {st : Go.Proofs.YtbhajflbbjipdaaDoor.XFm.FS} (hb : st.inB = false) (e : Go.Proofs.YtbhajflbbjipdaaDoor.XFm.endP st.hand = none) (l : ¬ st.hand.length < 1024) : Go.Proofs.YtbhajflbbjipdaaDoor.XFm.turn st = (false, { st with dead := 50, hand := [] }) := by
 unfold Go.Proofs.YtbhajflbbjipdaaDoor.XFm.turn Go.Proofs.YtbhajflbbjipdaaDoor.XFm.hdP
 rw [if_neg (by rw [hb]; decide), e]
 dsimp only
 rw [if_neg l]
theorem tn_far {st : Go.Proofs.YtbhajflbbjipdaaDoor.XFm.FS} {i j : Nat} (hb : st.inB = false) (e : Go.Proofs.YtbhajflbbjipdaaDoor.XFm.endP st.hand = some (i, j)) (l : 1024 < j) : Go.Proofs.YtbhajflbbjipdaaDoor.XFm.turn st = (false, { st with dead := 50, hand := [] }) := by
 unfold Go.Proofs.YtbhajflbbjipdaaDoor.XFm.turn Go.Proofs.YtbhajflbbjipdaaDoor.XFm.hdP
 rw [if_neg (by rw [hb]; decide), e]
 dsimp only
 rw [if_pos l]
theorem tn_err {st : Go.Proofs.YtbhajflbbjipdaaDoor.XFm.FS} {i j : Nat} (hb : st.inB = false) (e : Go.Proofs.YtbhajflbbjipdaaDoor.XFm.endP st.hand = some (i, j)) (l : ¬ 1024 < j) (k : (Go.Proofs.YtbhajflbbjipdaaDoor.XFm.lenP (Go.Proofs.YtbhajflbbjipdaaDoor.XFm.spl (st.hand.take i))).2 ≠ 0) : Go.Proofs.YtbhajflbbjipdaaDoor.XFm.turn st = (false, { st with dead := (Go.Proofs.YtbhajflbbjipdaaDoor.XFm.lenP (Go.Proofs.YtbhajflbbjipdaaDoor.XFm.spl (st.hand.take i))).2, hand := [] }) := by
 unfold Go.Proofs.YtbhajflbbjipdaaDoor.XFm.turn Go.Proofs.YtbhajflbbjipdaaDoor.XFm.hdP
 rw [if_neg (by rw [hb]; decide), e]
 dsimp only
 rw [if_neg l, if_neg k]
theorem tn_ok {st : Go.Proofs.YtbhajflbbjipdaaDoor.XFm.FS} {i j : Nat} (hb : st.inB = false) (e : Go.Proofs.YtbhajflbbjipdaaDoor.XFm.endP st.hand = some (i, j)) (l : ¬ 1024 < j) (k : (Go.Proofs.YtbhajflbbjipdaaDoor.XFm.lenP (Go.Proofs.YtbhajflbbjipdaaDoor.XFm.spl (st.hand.take i))).2 = 0) : Go.Proofs.YtbhajflbbjipdaaDoor.XFm.turn st = (true, { st with hand := st.hand.drop j, inB := true, len := (Go.Proofs.YtbhajflbbjipdaaDoor.XFm.lenP (Go.Proofs.YtbhajflbbjipdaaDoor.XFm.spl (st.hand.take i))).1 }) := by
 unfold Go.Proofs.YtbhajflbbjipdaaDoor.XFm.turn Go.Proofs.YtbhajflbbjipdaaDoor.XFm.hdP
 rw [if_neg (by rw [hb]; decide), e]
 dsimp only
 rw [if_neg l, if_pos k]
theorem rd_head {w0 w : World} {B : Nat} {HV HV' TV : Value} {st : Go.Proofs.YtbhajflbbjipdaaDoor.XFm.FS} (h : RdF w0 B HV TV st w) (k n : Nat) (hq : QRow w w0.heap.size 5 1 HV' (st.hand.drop k).length (bv (st.hand.drop k))) (hown : HV'.ownBlock = HV.ownBlock) :
  RdF w0 B HV' TV { st with hand := st.hand.drop k, inB := true, len := n } (((w.setCell ⟨B, 2, none⟩ (.int .i64 n)).setCell ⟨B, 0, none⟩ HV').setCell ⟨B, 1, none⟩ (.func (.func 26) #[.pointer (some ⟨B, 0, none⟩)] #[])).drew ∧ Fr w (((w.setCell ⟨B, 2, none⟩ (.int .i64 n)).setCell ⟨B, 0, none⟩ HV').setCell ⟨B, 1, none⟩ (.func (.func 26) #[.pointer (some ⟨B, 0, none⟩)] #[])).drew B HV TV HV' TV := by
 have ho := ((((Only.refl B w).set 2 (.int .i64 n)).set 0 HV').set 1 (.func (.func 26) #[.pointer (some ⟨B, 0, none⟩)] #[])).drew
 exact ⟨h.only ho (blk_put (blk_put (blk_put h.blk 2 (.int .i64 n) rfl) 0 HV' rfl) 1 _ rfl) hq h.told, .only ho (.inr (.inl hown)) (.refl _ _)⟩
set_option maxRecDepth 100000 in
set_option maxHeartbeats 4000000 in
theorem frame_Reader_head.calls (w0 w : World) (hG : GlobOk w0) (B : Nat) (HV TV : Value) (st : Go.Proofs.YtbhajflbbjipdaaDoor.XFm.FS) (h : RdF w0 B HV TV st w) (hb : st.inB = false) (hz : st.hand.length ≤ 1000000) : Calls Tryd.prog 18 #[.pointer (some ⟨B, 0, none⟩)] w fun en w' => ∃ HV' TV', en = .returned (.bool (Go.Proofs.YtbhajflbbjipdaaDoor.XFm.turn st).1) ∧ RdF w0 B HV' TV' (Go.Proofs.YtbhajflbbjipdaaDoor.XFm.turn st).2 w' ∧ Fr w w' B HV TV HV' TV' := by
 obtain ⟨A, c, rfl, hc⟩ := q_slice h.hand
 obtain ⟨T, hT⟩ : ∃ T, T = Go.Proofs.YtbhajflbbjipdaaDoor.XFm.turn st := ⟨_, rfl⟩
 have HT := Aside0.mk hT; rw [← hT]
 clear hT; have h1 := h.move (below_alloc (Below.refl _ _) (.cells #[.int .u8 13, .int .u8 10, .int .u8 13, .int .u8 10] 5 (4, 5)))
 have HI := Aside0.mk (idx_c (h1.glob hG) h1.hand (by omega) (const4 w))
 obtain ⟨I, hI⟩ : ∃ I, I = Lib.index st.hand Go.Proofs.YtbhajflbbjipdaaDoor.XFm.crlf2 := ⟨_, rfl⟩
 rw [← hI] at HI
 obtain ⟨P, hP⟩ : ∃ P, P = Lib.hasPrefix st.hand Go.Proofs.YtbhajflbbjipdaaDoor.XFm.crlf := ⟨_, rfl⟩
 have hIr : -1 ≤ I ∧ I ≤ 1000000 := by
  have h1 := Lib.index_ge st.hand Go.Proofs.YtbhajflbbjipdaaDoor.XFm.crlf2
  have h2 := Lib.index_le st.hand Go.Proofs.YtbhajflbbjipdaaDoor.XFm.crlf2
  omega
 have HE := Aside0.mk (show AtE st.hand (if P = true then 0 else I) (if P = true then 2 else I + 4) by
  rw [hP, hI]
  cases hp : Lib.hasPrefix st.hand Go.Proofs.YtbhajflbbjipdaaDoor.XFm.crlf with
  | true => exact at_pre hp
  | false => exact at_idx hp)
 have H := Aside0.mk h; have H1 := Aside0.mk h1; have HP := Aside0.mk hP; have HB := Aside0.mk hb; have HG := Aside0.mk hG; have HZ := Aside0.mk hz; have HIr := Aside0.mk hIr; have y0 := blk_cell h.blk 0
 have hcv4 := cv4 w
 clear h h1 hI hP hb hG hz hIr; go_enter Tryd.func18, Tryd.ntmps18
 go_upto_region 2 with (go_at_call 22; refine HI.out.mono ?_; rintro e w2 ⟨rfl, hb⟩; have H2 := Aside0.mk (H1.out.move hb); have HF2 := Aside0.mk (below_step (below_alloc (Below.refl w.heap.size w) (.cells #[.int .u8 13, .int .u8 10, .int .u8 13, .int .u8 10] 5 (4, 5))) hb); clear hb y0; have y0 := blk_cell H2.out.blk 0)
 have h3 := H2.out.move (below_alloc (Below.refl _ _) (.cells #[.int .u8 13, .int .u8 10] 5 (2, 3)))
 have HPc := Aside0.mk (hp_c h3.hand (const2 w2))
 rw [← HP.out] at HPc
 have H3 := Aside0.mk h3; have HF3 := Aside0.mk (below_step HF2.out (below_alloc (Below.refl w2.heap.size w2) (.cells #[.int .u8 13, .int .u8 10] 5 (2, 3))))
 have hcv2 := cv2 w2
 clear h3; have hwI : wrap64 (I + 4) = I + 4 := by have := HIr.out; unfold wrap64; omega
 go_upto_if 22 with (go_at_call 23; refine HPc.out.mono ?_; rintro e w4 ⟨rfl, rfl⟩)
 go_cut [3, 4] (fun v3 v4 wc => ∃ a b : Int, v3 = .int .i64 a ∧ v4 = .int .i64 b ∧ Aside0 (AtE st.hand a b) ∧ Aside0 (RdF w0 B (.slice A st.hand.length c) TV st wc) ∧ Aside0 (Below w.heap.size w wc))
 case first =>
  cases P with
  | true =>
   have HE2 := Aside0.mk (show AtE st.hand 0 2 from HE.out)
   go_wp2
   go_meet
   case rel => exact ⟨0, 2, rfl, rfl, HE2, H3, HF3⟩
  | false =>
   have HE2 := Aside0.mk (show AtE st.hand I (I + 4) from HE.out)
   go_wp2
   go_meet
   case rel => exact ⟨I, I + 4, rfl, by first | rfl | rw [hwI], HE2, H3, HF3⟩
 case rest =>
  obtain ⟨a, b, rfl, rfl, HE3, H4, HF4⟩ := hcut
  clear y0 hcv4 hcv2 hwI HI HPc HE HP H1 H2 H3 HF2 HF3; have y0 := blk_cell H4.out.blk 0
  rcases HE3.out with ⟨e1, rfl, rfl⟩ | ⟨i, j, e1, rfl, rfl, e2, e3⟩
  ·by_cases l : st.hand.length < 1024
   ·have HTn := Aside0.mk (HT.out.trans (tn_none HB.out e1 l))
    have t1 : decide ((st.hand.length : Int) < 1024) = true := decide_eq_true (by omega)
    have t2 : decide (st.hand.length < 1024) = true := decide_eq_true l
    clear l e1; go_wp2
    go_ret
    rw [HTn.out]
    exact ⟨_, _, rfl, H4.out, .below HF4.out B _ _⟩
   ·have HTn := Aside0.mk (HT.out.trans (tn_long HB.out e1 l))
    have t1 : decide ((st.hand.length : Int) < 1024) = false := decide_eq_false (by omega)
    have t2 : decide (st.hand.length < 1024) = false := decide_eq_false l
    clear l e1; go_wp2_with (go_at_call 24; refine (frame_Reader_die.calls w0 _ B _ TV st 50 H4.out).mono ?_; rintro e w9 ⟨rfl, hr, hf⟩; have HR9 := Aside0.mk hr; have HF9 := Aside0.mk hf; clear hr hf)
    go_ret
    rw [HTn.out]
    exact ⟨_, _, rfl, HR9.out, (Fr.below HF4.out B _ _).trans HF9.out⟩
  ·have t3 : decide ((i : Int) < 0) = false := decide_eq_false (by omega)
   by_cases l : 1024 < j
   ·have HTn := Aside0.mk (HT.out.trans (tn_far HB.out e1 l))
    have t1 : decide ((1024 : Int) < (j : Int)) = true := decide_eq_true (by omega)
    have t2 : decide (1024 < j) = true := decide_eq_true l
    clear l e1 e2 e3; go_wp2_with (go_at_call 24; refine (frame_Reader_die.calls w0 _ B _ TV st 50 H4.out).mono ?_; rintro e w9 ⟨rfl, hr, hf⟩; have HR9 := Aside0.mk hr; have HF9 := Aside0.mk hf; clear hr hf)
    go_ret
    rw [HTn.out]
    exact ⟨_, _, rfl, HR9.out, (Fr.below HF4.out B _ _).trans HF9.out⟩
   have t1 : decide ((1024 : Int) < (j : Int)) = false := decide_eq_false (by omega)
   have t2 : decide (1024 < j) = false := decide_eq_false l
   have hq := q_take H4.out.hand (show i ≤ st.hand.length by omega)
   rw [bv_take] at hq
   have hst := q_str hq
   have HL := Aside0.mk (frame_length.calls ⟨(st.hand.take i).toArray⟩ wc (H4.out.glob HG.out) (by
    show (st.hand.take i).toArray.size ≤ _
    rw [List.size_toArray, List.length_take]
    have := HZ.out
    omega))
   obtain ⟨n, hn⟩ : ∃ n, n = (Go.Proofs.YtbhajflbbjipdaaDoor.XFm.lenP (Go.Proofs.YtbhajflbbjipdaaDoor.XFm.spl (st.hand.take i))).1 := ⟨_, rfl⟩
   obtain ⟨er, her⟩ : ∃ n, n = (Go.Proofs.YtbhajflbbjipdaaDoor.XFm.lenP (Go.Proofs.YtbhajflbbjipdaaDoor.XFm.spl (st.hand.take i))).2 := ⟨_, rfl⟩
   rw [of_list, ← hn, ← her] at HL
   have b1 : (i : Int) ≤ (c : Int) := by omega
   have b2 : (0 : Int) ≤ (i : Int) := by omega
   have HJ := Aside0.mk (show j ≤ st.hand.length from e3)
   by_cases k : er = 0
   case neg =>
    have HTn := Aside0.mk (HT.out.trans (tn_err HB.out e1 l (by rw [← her]; exact k)))
    rw [← her] at HTn
    have k1 : (er != 0) = true := by simpa [bne] using k
    have k2 : (er == 0) = false := by simpa using k
    clear l e1 e2 e3 hq hn her k; go_wp2_with (first | (go_at_call 24; refine (frame_Reader_die.calls w0 _ B _ TV st er H7.out).mono ?_; rintro e w9 ⟨rfl, hr, hf⟩; have HR9 := Aside0.mk hr; have HF9 := Aside0.mk hf; clear hr hf) | (go_at_call 25; refine HL.out.mono ?_; rintro e w7 ⟨rfl, hb⟩; have H7 := Aside0.mk (H4.out.move hb); have HF7 := Aside0.mk (below_step HF4.out hb); clear hb))
    go_ret
    rw [HTn.out]
    exact ⟨_, _, rfl, HR9.out, (Fr.below HF7.out B _ _).trans HF9.out⟩
   case pos =>
    have HTn := Aside0.mk (HT.out.trans (tn_ok HB.out e1 l (by rw [← her]; exact k)))
    rw [← hn] at HTn
    subst k; clear l e1 e2 e3 hq hn her; go_upto_region 12 with (go_at_call 25; refine HL.out.mono ?_; rintro e w7 ⟨rfl, hb⟩; have H7 := Aside0.mk (H4.out.move hb); have HF7 := Aside0.mk (below_step HF4.out hb); clear hb)
    clear y0 hst; have y0 := blk_cell H7.out.blk 0
    have y1 := blk_cell H7.out.blk 1
    have y2 := blk_cell H7.out.blk 2
    have g0 := blk_frozen H7.out.blk 0
    have g1 := blk_frozen H7.out.blk 1
    have g2 := blk_frozen H7.out.blk 2
    have b3 : (j : Int) ≤ (st.hand.length : Int) := by have := HJ.out; omega
    have b4 : (0 : Int) ≤ (j : Int) := by omega
    go_region
    all_goals go_wp2
    all_goals go_ret
    all_goals rw [HTn.out]
    all_goals
     have hq := q_drop H7.out.hand HJ.out
    ·subst h; rw [if_pos rfl, bv_drop, Nat.sub_self] at hq
     have hz := rd_head (HV' := .slice A (st.hand.length - c) 0) H7.out c n (by rw [List.length_drop]; exact hq) (by cases A <;> rfl)
     exact ⟨rfl, _, _, hz.1, (Fr.below HF7.out B _ _).trans hz.2⟩
    ·rw [if_neg h, bv_drop] at hq
     have hz := rd_head H7.out j n (by rw [List.length_drop]; exact hq) (own_map A _ _ _ _ _)
     simp only [Nat.mul_one] at hz
     exact ⟨rfl, _, _, hz.1, (Fr.below HF7.out B _ _).trans hz.2⟩
theorem fn_nil (n : Nat) (p : Value) (w : World) : (binOp .eql 37 (.func (.func n) #[p] #[]) .nilFunc).run Tryd.prog w = .ok (.bool false) w := by
 have h24 := Tryd.underlying37
 have he : (Op.equal 37 (.func (.func n) #[p] #[]) .nilFunc).run Tryd.prog w = .ok false w := by
  unfold Op.equal
  have : Op.maxDepth = 9999 + 1 := by decide
  rw [this]
  generalize 9999 = d
  simp only [Op.equalIn, Sem.run_bind, run_underlying h24, Result.andThen_ok]
  simp
 simp [binOp, he]
theorem do_some (i : Bool) (B : Nat) : ∃ n, doV i B = .func (.func n) #[.pointer (some ⟨B, 0, none⟩)] #[] := by
 unfold doV
 split
 ·exact ⟨_, rfl⟩
 ·exact ⟨_, rfl⟩
/-- Bytes that are handed in, where they lie. -/
def Rb (w : World) (A : Option Addr) (cs : List UInt8) : Prop := 0 < cs.length → ∃ ad, A = some ad ∧ ∀ j u, (bv cs)[j]? = some u → w.cell? (ad.add j) = some u
theorem turn_size {s t : Go.Proofs.YtbhajflbbjipdaaDoor.XFm.FS} {x : Bool} (h : Go.Proofs.YtbhajflbbjipdaaDoor.XFm.turn s = (x, t)) : t.hand.length ≤ s.hand.length ∧ t.told.length ≤ s.told.length + 1 := by
 unfold Go.Proofs.YtbhajflbbjipdaaDoor.XFm.turn at h
 split at h
 ·split at h
  ·injection h with _ h; subst h; exact ⟨Nat.le_refl _, by omega⟩
  ·injection h with _ h; subst h; simp
 ·split at h
  ·injection h with _ h; subst h; exact ⟨Nat.le_refl _, by omega⟩
  ·injection h with _ h; subst h; simp
  ·rename_i n r e
   injection h with _ h
   subst h; refine ⟨?_, by simp⟩
   unfold Go.Proofs.YtbhajflbbjipdaaDoor.XFm.hdP at e
   cases hq : Go.Proofs.YtbhajflbbjipdaaDoor.XFm.endP s.hand with
   | none => rw [hq] at e; dsimp only at e; split at e <;> cases e
   | some p =>
    obtain ⟨i, j⟩ := p
    rw [hq] at e
    dsimp only at e
    split at e
    ·cases e
    split at e
    ·injection e with _ e; subst e; simp
    ·cases e
/-- Bytes go behind those at hand. -/
theorem rd_hand {w0 W w1 : World} {B : Nat} {HV TV HV' : Value} {st : Go.Proofs.YtbhajflbbjipdaaDoor.XFm.FS} {cs : List UInt8} (h : RdF w0 B HV TV st W) (hg : W.grownBy w1 HV.ownBlock) (hq : QRow w1 w0.heap.size 5 1 HV' (st.hand ++ cs).length (bv (st.hand ++ cs)))
  (hat : HV'.ownBlock = HV.ownBlock ∨ ∃ k, HV'.ownBlock = some k ∧ W.heap.size ≤ k) : RdF w0 B HV' TV (st.more cs) (w1.setCell ⟨B, 0, none⟩ HV') ∧ Fr W (w1.setCell ⟨B, 0, none⟩ HV') B HV TV HV' TV := by
 have hB : w1.heap[B]? = some (.cells #[HV, doV st.inB B, .int .i64 st.len, TV, .int .i64 st.dead] 46 (0, 0)) := (hg.block B (blk_lt h.blk) (fun e => q_not h.hand h.blk (by decide) B e.symm rfl)).trans h.blk
 have ho := (Only.refl B w1).set 0 HV'
 have hbl : Below w0.heap.size w0 w1 := grown_only (V := HV) (w := W) h.below hg (fun k hk => (q_typed h.hand k hk).1)
 have ht : QRow w1 w0.heap.size 9 1 TV st.told.length (sv st.told) := q_apart h.told h.hand (by decide) hg
 have hs : W.heap.size ≤ w1.heap.size := hg.size
 refine ⟨⟨h.base, ho.below h.base hbl, blk_put hB 0 HV' rfl, ?_, q_move ht (fun k hk => ho.block k (q_not ht hB (by decide) k hk))⟩, ⟨by rw [ho.size]; exact hs, fun k h1 h2 h3 h4 => (ho.block k h2).trans (hg.block k h1 h3), ?_, .refl _ _⟩⟩
 ·exact q_move hq (fun k hk => ho.block k (q_not hq hB (by decide) k hk))
 ·rcases hat with hat | ⟨k, hk, hle⟩
  ·exact .inr (.inl hat)
  ·exact .inr (.inr ⟨k, hk, hle⟩)
theorem bv_app (a b : List UInt8) : bv (a ++ b) = bv a ++ bv b := by simp [bv]
theorem bv_one (a : List UInt8) : ∀ u ∈ bv a, u.oneCell' = true := by
 intro u hu
 obtain ⟨c, _, rfl⟩ := List.mem_map.1 hu
 rfl
set_option maxRecDepth 100000 in
set_option maxHeartbeats 4000000 in
theorem feed_dead (w0 w : World) (B : Nat) (HV TV : Value) (st : Go.Proofs.YtbhajflbbjipdaaDoor.XFm.FS) (h : RdF w0 B HV TV st w) (hd : st.dead ≠ 0) (A : Option Addr) (m c : Nat) : Calls Tryd.prog 10 #[.pointer (some ⟨B, 0, none⟩), .slice A m c] w fun en w' => en = .returned (.int .i64 52) ∧ w' = w := by
 obtain ⟨fn, hfn⟩ := do_some st.inB B
 have y1 : w.cell? ⟨B, 1, none⟩ = some (.func (.func fn) #[.pointer (some ⟨B, 0, none⟩)] #[]) := (blk_cell h.blk 1).trans (congrArg some hfn)
 have y4 := blk_cell h.blk 4
 have hn := fn_nil fn (.pointer (some ⟨B, 0, none⟩))
 have t1 : (st.dead != 0) = true := by simpa [bne] using hd
 have t2 : (st.dead == 0) = false := by simpa using hd
 clear h hd hfn; go_enter Tryd.func10, Tryd.ntmps10
 go_wp2
 go_ret
 exact ⟨rfl, rfl⟩
set_option maxRecDepth 100000 in
set_option maxHeartbeats 4000000 in
theorem feed_live (w0 w : World) (hG : GlobOk w0) (B : Nat) (HV TV : Value) (st : Go.Proofs.YtbhajflbbjipdaaDoor.XFm.FS) (h : RdF w0 B HV TV st w) (hd : st.dead = 0) (A : Option Addr) (m c : Nat) (cs : List UInt8) (hm : cs.length = m) (hr : Rb w A cs) (hz : 4 * (st.hand.length + m) + st.told.length ≤ 900000) :
  Calls Tryd.prog 10 #[.pointer (some ⟨B, 0, none⟩), .slice A m c] w fun en w' => ∃ HV' TV', en = .returned (.int .i64 (Go.Proofs.YtbhajflbbjipdaaDoor.XFm.run (st.more cs)).dead) ∧ RdF w0 B HV' TV' (Go.Proofs.YtbhajflbbjipdaaDoor.XFm.run (st.more cs)) w' ∧ Fr w w' B HV TV HV' TV' := by
 obtain ⟨Ah, ch, rfl, hc⟩ := q_slice h.hand
 obtain ⟨R, hR⟩ : ∃ R, R = Go.Proofs.YtbhajflbbjipdaaDoor.XFm.run (st.more cs) := ⟨_, rfl⟩
 rw [← hR]
 have HR := Aside0.mk hR; have H := Aside0.mk h; have HG := Aside0.mk hG; have HRb := Aside0.mk hr; have HM := Aside0.mk hm; have HZ := Aside0.mk hz; have HD := Aside0.mk hd; have y0 := blk_cell h.blk 0
 obtain ⟨fn, hfn⟩ := do_some st.inB B
 have y1 : w.cell? ⟨B, 1, none⟩ = some (.func (.func fn) #[.pointer (some ⟨B, 0, none⟩)] #[]) := (blk_cell h.blk 1).trans (congrArg some hfn)
 have y4 := blk_cell h.blk 4
 have hn := fn_nil fn (.pointer (some ⟨B, 0, none⟩))
 have t1 : (st.dead != 0) = false := by simp [bne, hd]
 have HO := Aside0.mk (show QRow w w0.heap.size 5 1 (.slice Ah st.hand.length ch) (bv st.hand).length (bv st.hand) by rw [bv_len]; exact h.hand)
 clear h hG hr hm hz hd hR hfn; go_enter Tryd.func10, Tryd.ntmps10
 go_upto_region 5 with (fail)
 go_wp2_with ((with_reducible refine gate_builtin (b := .append) (xs := #[.tmp 23, .tmp 24]) rfl ?_); at_builtin; refine qrow_put w0.heap.size rfl (.tmp 23) (.tmp 24) 29 5 (.int .u8 0) 1 rfl Tryd.underlying29 (by kernel_rfl) rfl (by decide) (.slice Ah st.hand.length ch) (bv st.hand) A m c (bv cs) (by rw [bv_len]; exact HM.out) (fun h0 => HRb.out (by have := HM.out; omega)) (bv_one cs) (by simp [Act.eval, Act.put]) (by simp [Act.eval, Act.put]) HO.out H.out.below.size (by rw [bv_len]; have := HZ.out; omega) ?_; intro v1 w1 hq1 hg1 hat1; obtain ⟨A3, c3, rfl, hc3⟩ := q_slice hq1; have hbl := (hg1.block B (blk_lt H.out.blk) (fun e => q_not H.out.hand H.out.blk (by decide) B e.symm rfl)).trans H.out.blk; have y0' := blk_cell hbl 0; have g0' := blk_frozen hbl 0; have HQ1 := Aside0.mk hq1; have HG1 := Aside0.mk hg1; have HA1 := Aside0.mk hat1; clear hq1 hg1 hat1 hbl)
 have hz := rd_hand (cs := cs) H.out HG1.out (by rw [show (st.hand ++ cs).length = (bv st.hand).length + m by rw [List.length_append, bv_len, HM.out], bv_app]; exact HQ1.out) HA1.out
 rw [bv_len] at hz ⊢
 have H1 := Aside0.mk hz.1; have HF1 := Aside0.mk hz.2; clear hz y0 y1 y4 y0' g0' HO HQ1 HG1 HA1 t1 hn; go_loopg [] (st.more cs).mu (fun kq w' => ∃ (HV' TV' : Value) (st' : Go.Proofs.YtbhajflbbjipdaaDoor.XFm.FS), kq = st'.mu ∧ Aside0 (RdF w0 B HV' TV' st' w') ∧ Aside0 (Fr w w' B (.slice Ah st.hand.length ch) TV HV' TV') ∧ Aside0 (Go.Proofs.YtbhajflbbjipdaaDoor.XFm.run st' = R) ∧ Aside0 (st'.hand.length ≤ 900000 ∧ st'.told.length + st'.mu ≤ 900001))
 case atStart => exact ⟨_, TV, st.more cs, rfl, H1, HF1, ⟨HR.out.symm⟩, ⟨by have := HZ.out; have := HM.out; show (st.hand ++ cs).length ≤ _; rw [List.length_append]; omega, by have := HZ.out; have := HM.out; unfold Go.Proofs.YtbhajflbbjipdaaDoor.XFm.FS.mu; show st.told.length + (2 * (st.hand ++ cs).length + _) ≤ _; rw [List.length_append]; split <;> omega⟩⟩
 case round =>
  clear H1 HF1; obtain ⟨HV', TV', st', rfl, HRd, HFr, HRn, HZs⟩ := hrel
  have y4 := blk_cell HRd.out.blk 4
  by_cases hd : st'.dead = 0
  case neg =>
   have HE := Aside0.mk (show st' = R from (Go.Proofs.YtbhajflbbjipdaaDoor.XFm.run_dead hd).symm.trans HRn.out)
   have t2 : (st'.dead == 0) = false := by simpa using hd
   clear hd; go_wp2
   go_ret
   rw [HE.out] at HRd
   exact ⟨_, _, by rw [HE.out]; rfl, HRd.out, HFr.out⟩
  case pos =>
   have t2 : (st'.dead == 0) = true := by simpa using hd
   cases htn : Go.Proofs.YtbhajflbbjipdaaDoor.XFm.turn st' with
   | mk x t =>
    have HTn := Aside0.mk htn; cases x with
    | false =>
     have HE := Aside0.mk (show t = R from (Go.Proofs.YtbhajflbbjipdaaDoor.XFm.run_stop hd htn).symm.trans HRn.out)
     cases hi : st'.inB with
     | true =>
      have HI := Aside0.mk hi; have y1 : wr.cell? ⟨B, 1, none⟩ = some (.func (.func 26) #[.pointer (some ⟨B, 0, none⟩)] #[]) := (blk_cell HRd.out.blk 1).trans (by rw [hi]; rfl)
      clear hd htn hi; go_wp2_with (first | (go_at_call 18; refine (frame_Reader_head.calls w0 wr HG.out B HV' TV' st' HRd.out HI.out (by have := HZs.out; omega)).mono ?_; rintro e w5 ⟨HV5, TV5, rfl, hr5, hf5⟩; rw [HTn.out] at hr5 ⊢; have H5 := Aside0.mk hr5; have HF5 := Aside0.mk (HFr.out.trans hf5); clear hr5 hf5 y1 y4; have y4 := blk_cell H5.out.blk 4) | (go_at_call 26; refine (frame_Reader_body.calls w0 wr B HV' TV' st' HRd.out HI.out (by have := HZs.out; omega)).mono ?_; rintro e w5 ⟨HV5, TV5, rfl, hr5, hf5⟩; rw [HTn.out] at hr5 ⊢; have H5 := Aside0.mk hr5; have HF5 := Aside0.mk (HFr.out.trans hf5); clear hr5 hf5 y1 y4; have y4 := blk_cell H5.out.blk 4))
      go_ret
      rw [HE.out] at H5
      exact ⟨_, _, by rw [HE.out]; rfl, H5.out, HF5.out⟩
     | false =>
      have HI := Aside0.mk hi; have y1 : wr.cell? ⟨B, 1, none⟩ = some (.func (.func 18) #[.pointer (some ⟨B, 0, none⟩)] #[]) := (blk_cell HRd.out.blk 1).trans (by rw [hi]; rfl)
      clear hd htn hi; go_wp2_with (first | (go_at_call 18; refine (frame_Reader_head.calls w0 wr HG.out B HV' TV' st' HRd.out HI.out (by have := HZs.out; omega)).mono ?_; rintro e w5 ⟨HV5, TV5, rfl, hr5, hf5⟩; rw [HTn.out] at hr5 ⊢; have H5 := Aside0.mk hr5; have HF5 := Aside0.mk (HFr.out.trans hf5); clear hr5 hf5 y1 y4; have y4 := blk_cell H5.out.blk 4) | (go_at_call 26; refine (frame_Reader_body.calls w0 wr B HV' TV' st' HRd.out HI.out (by have := HZs.out; omega)).mono ?_; rintro e w5 ⟨HV5, TV5, rfl, hr5, hf5⟩; rw [HTn.out] at hr5 ⊢; have H5 := Aside0.mk hr5; have HF5 := Aside0.mk (HFr.out.trans hf5); clear hr5 hf5 y1 y4; have y4 := blk_cell H5.out.blk 4))
      go_ret
      rw [HE.out] at H5
      exact ⟨_, _, by rw [HE.out]; rfl, H5.out, HF5.out⟩
    | true =>
     have HE := Aside0.mk (show Go.Proofs.YtbhajflbbjipdaaDoor.XFm.run t = R from (Go.Proofs.YtbhajflbbjipdaaDoor.XFm.run_go hd htn).symm.trans HRn.out)
     have HMu := Aside0.mk (Go.Proofs.YtbhajflbbjipdaaDoor.XFm.turn_mu htn)
     have HSz := Aside0.mk (turn_size htn)
     have HZ2 := Aside0.mk (show t.hand.length ≤ 900000 ∧ t.told.length + t.mu ≤ 900001 by have h1 := HMu.out; have h2 := HSz.out; have h3 := HZs.out; omega)
     cases hi : st'.inB with
     | true =>
      have HI := Aside0.mk hi; have y1 : wr.cell? ⟨B, 1, none⟩ = some (.func (.func 26) #[.pointer (some ⟨B, 0, none⟩)] #[]) := (blk_cell HRd.out.blk 1).trans (by rw [hi]; rfl)
      clear hd htn hi; go_wp2_with (first | (go_at_call 18; refine (frame_Reader_head.calls w0 wr HG.out B HV' TV' st' HRd.out HI.out (by have := HZs.out; omega)).mono ?_; rintro e w5 ⟨HV5, TV5, rfl, hr5, hf5⟩; rw [HTn.out] at hr5 ⊢; have H5 := Aside0.mk hr5; have HF5 := Aside0.mk (HFr.out.trans hf5); clear hr5 hf5 y1 y4; have y4 := blk_cell H5.out.blk 4) | (go_at_call 26; refine (frame_Reader_body.calls w0 wr B HV' TV' st' HRd.out HI.out (by have := HZs.out; omega)).mono ?_; rintro e w5 ⟨HV5, TV5, rfl, hr5, hf5⟩; rw [HTn.out] at hr5 ⊢; have H5 := Aside0.mk hr5; have HF5 := Aside0.mk (HFr.out.trans hf5); clear hr5 hf5 y1 y4; have y4 := blk_cell H5.out.blk 4))
      go_roundg t.mu
      case rel => exact ⟨_, _, t, rfl, H5, HF5, HE, HZ2⟩
      case measure => exact HMu.out
     | false =>
      have HI := Aside0.mk hi; have y1 : wr.cell? ⟨B, 1, none⟩ = some (.func (.func 18) #[.pointer (some ⟨B, 0, none⟩)] #[]) := (blk_cell HRd.out.blk 1).trans (by rw [hi]; rfl)
      clear hd htn hi; go_wp2_with (first | (go_at_call 18; refine (frame_Reader_head.calls w0 wr HG.out B HV' TV' st' HRd.out HI.out (by have := HZs.out; omega)).mono ?_; rintro e w5 ⟨HV5, TV5, rfl, hr5, hf5⟩; rw [HTn.out] at hr5 ⊢; have H5 := Aside0.mk hr5; have HF5 := Aside0.mk (HFr.out.trans hf5); clear hr5 hf5 y1 y4; have y4 := blk_cell H5.out.blk 4) | (go_at_call 26; refine (frame_Reader_body.calls w0 wr B HV' TV' st' HRd.out HI.out (by have := HZs.out; omega)).mono ?_; rintro e w5 ⟨HV5, TV5, rfl, hr5, hf5⟩; rw [HTn.out] at hr5 ⊢; have H5 := Aside0.mk hr5; have HF5 := Aside0.mk (HFr.out.trans hf5); clear hr5 hf5 y1 y4; have y4 := blk_cell H5.out.blk 4))
      go_roundg t.mu
      case rel => exact ⟨_, _, t, rfl, H5, HF5, HE, HZ2⟩
      case measure => exact HMu.out
theorem frame_Reader_Feed.calls (w0 w : World) (hG : GlobOk w0) (B : Nat) (HV TV : Value) (st : Go.Proofs.YtbhajflbbjipdaaDoor.XFm.FS) (h : RdF w0 B HV TV st w) (A : Option Addr) (m c : Nat) (cs : List UInt8) (hm : cs.length = m) (hr : Rb w A cs) (hz : 4 * (st.hand.length + m) + st.told.length ≤ 900000) :
  Calls Tryd.prog 10 #[.pointer (some ⟨B, 0, none⟩), .slice A m c] w fun en w' => ∃ HV' TV', en = .returned (.int .i64 (if st.dead = 0 then (Go.Proofs.YtbhajflbbjipdaaDoor.XFm.feed st cs).dead else 52)) ∧ RdF w0 B HV' TV' (Go.Proofs.YtbhajflbbjipdaaDoor.XFm.feed st cs) w' ∧ Fr w w' B HV TV HV' TV' := by
 unfold Go.Proofs.YtbhajflbbjipdaaDoor.XFm.feed
 by_cases hd : st.dead = 0
 ·rw [if_pos hd, if_pos hd]
  exact feed_live w0 w hG B HV TV st h hd A m c cs hm hr hz
 ·rw [if_neg hd, if_neg hd]
  refine (feed_dead w0 w B HV TV st h hd A m c).mono ?_
  rintro e w' ⟨rfl, rfl⟩
  exact ⟨HV, TV, rfl, h, .refl _ _ _ _⟩
set_option maxRecDepth 100000 in
theorem frame_Reader_Dead.calls (w0 w : World) (B : Nat) (HV TV : Value) (st : Go.Proofs.YtbhajflbbjipdaaDoor.XFm.FS) (h : RdF w0 B HV TV st w) : Calls Tryd.prog 9 #[.pointer (some ⟨B, 0, none⟩)] w fun en w' => en = .returned (.int .i64 st.dead) ∧ w' = w := by
 obtain ⟨fn, hfn⟩ := do_some st.inB B
 have y1 : w.cell? ⟨B, 1, none⟩ = some (.func (.func fn) #[.pointer (some ⟨B, 0, none⟩)] #[]) := (blk_cell h.blk 1).trans (congrArg some hfn)
 have y4 := blk_cell h.blk 4
 have hn := fn_nil fn (.pointer (some ⟨B, 0, none⟩))
 clear h hfn; go_enter Tryd.func9, Tryd.ntmps9
 go_wp2
 go_ret
 exact ⟨rfl, rfl⟩
end Go.Proofs.YtbhajflbbjipdaaDoor.Q

end
