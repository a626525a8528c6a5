/- Words and walks of this claim, put together by this repo's wip/xlink.py out of Q0, Q1. -/
import Derived.Test.YtebmgmagdhedgaaGreatDoorProg
import Derived.Below
import Derived.Deep.Draws
import Derived.Deep.AppendLies
import Derived.Maps.AppendAt
import Derived.OwnWalk
import Derived.Laws.BytesArg
import Derived.Laws.MakeOwn
import Derived.Laws.OwnMore
import Derived.Deep.OwnRows
import Derived.Tactics
import Derived.Lib.ConvBytes
import Derived.Laws.Slices
import Derived.WalkKit
import Derived.KernelRfl
import Derived.RowKit3
import Derived.Deep.LoopGhost
import Derived.Deep.QuietTactic
import Derived.BigQuiet
import Derived.WideLaws
import Derived.Deep.DeepCutAuto
import Derived.Deep.CutBlock
import Derived.Deep.RegionHeld3
import Derived.Laws.Rows
import Derived.Lib.AppendStr
import Derived.ArgAppend
import Derived.Laws.IdiomCopy
import Derived.OrdersHeld
import Derived.Laws.BitsLemmas
import Derived.RowKit
import Derived.Test.YtebmgmagdhedgaaGreatDoorL5
import Derived.Shelf.Strings.BuilderK
import Derived.Shelf.Strings.BuilderRune
import Derived.RangeFuncBox
import Derived.Test.YtebmgmagdhedgaaGreatDoorL6
import Derived.Laws.StructEq
import Derived.Lib.LaidU8
import Derived.Lib.LaidU8T
import Derived.MakeChecks
import Derived.Lib.SmallJoins
import Derived.Lib.AppendIntMem
import Derived.LaidLaws
import Derived.StillTailTactics
import Derived.IntWalk
import Derived.Lib.RuneCountTail
import Derived.Maps.Own
import Derived.Maps.OwnSet
import Derived.Maps.Views
import Derived.Carry
import Derived.Maps.OwnOps
import Derived.Recover
import Derived.Lib.DecodeN
import Derived.Test.YtebmgmagdhedgaaGreatDoorL3
import Derived.Laws.Tables
import Derived.Laws.CopyOwn
import Derived.Lib.ValidLaws
import Derived.Lib.MapLaws
import Derived.Lib.RuneBytes
import Derived.Lib.TrimUEq
import Derived.Laws.EntriesVeiled
import Derived.Shelf.Strings.SlTrimAscii
import Derived.Lib.AtoiErrMem
import Derived.Lib.ItoaNum
import Derived.Lib.ItoaMem
import Derived.Lib.ItoaLen
import Derived.Lib.AtoiAll
import Derived.Lib.OthersKept
import Derived.Deep.RegionWith
import Derived.RangeFuncNested
import Derived.RangeFuncLeaves
import Derived.Shelf.Abstract
import Derived.OwnWalkIn
import Derived.TacticsInMore
import Derived.LoopNIn
import Derived.LoopIn
import Derived.Test.YtebmgmagdhedgaaGreatDoorL0
import Derived.Test.YtebmgmagdhedgaaGreatDoorL1
import Derived.Test.YtebmgmagdhedgaaGreatDoorL7
section
namespace Go.Proofs.YtebmgmagdhedgaaGreatDoor.Q
open Go.RowKit Go.Proofs.YtebmgmagdhedgaaGreatDoorW.PrintWords Go.Proofs.YtebmgmagdhedgaaGreatDoorW.PrintLast Go.Proofs.YtebmgmagdhedgaaGreatDoorW.PrintMore
attribute [local go_sem] max2_int min2_int max_two min_two max_three min_three max_four min_four   
set_option linter.unusedVariables false
set_option linter.unusedSimpArgs false
def errW : Option Int → Value
  | none => .nilIface
  | some c => .iface 0 (.int .i64 c)
theorem errW_none : errW none = .nilIface := rfl
theorem errW_some (c : Int) : errW (some c) = .iface 0 (.int .i64 c) := rfl
theorem info5 : (Tryz.prog.info? 5).map (fun i => (i.zero, i.size, i.bytes)) = some (some (.int .u8 0), 1, 1) := by kernel_rfl
theorem info25 : (Tryz.prog.info? 25).map (fun i => (i.zero, i.size, i.bytes)) = some (some (.agg #[(.int .u8 0), (.string ⟨#[]⟩), (.slice none 0 0), (.slice none 0 0)]), 4, 72) := by kernel_rfl
theorem info45 : (Tryz.prog.info? 45).map (fun i => (i.zero, i.size, i.bytes)) = some (some (.agg #[(.string ⟨#[]⟩), (.int .u8 0), (.string ⟨#[]⟩), (.slice none 0 0), (.slice none 0 0)]), 5, 88) := by kernel_rfl
structure S61 where
  f0 : ByteArray
  f1 : Int
structure P45 (α : Type) where
  f0 : ByteArray
  f1 : α
structure S25 where
  f0 : Int
  f1 : ByteArray
  f2 : (List S25)
  f3 : (List (P45 S25))
abbrev S45 := P45 S25
def z25 : S25 := ⟨(0 : Int), (⟨#[]⟩ : ByteArray), ([] : List S25), ([] : List S45)⟩
def G45 (d : Kd S25) : Kd (P45 S25) := Kd.iso (Kd.pair Kd.string d) (fun x : P45 S25 => (x.f0, x.f1))
theorem monoG45 : Kd.Mono G45 := Kd.mono_iso _ (Kd.mono_pair (Kd.mono_const _) Kd.mono_id)
theorem subG45 : Kd.Sub G45 [25, 45] := Kd.sub_iso _ (Kd.sub_pair (Kd.sub_const _ (by decide)) Kd.sub_id)
def F25 (d : Kd S25) : Kd S25 := Kd.iso (Kd.pair (Kd.int .u8) (Kd.pair Kd.string (Kd.pair (Kd.slice 25 d) (Kd.slice 45 (G45 d))))) (fun x : S25 => (x.f0, x.f1, x.f2, x.f3))
theorem mono25 : Kd.Mono F25 := Kd.mono_iso _ (Kd.mono_pair (Kd.mono_const _) (Kd.mono_pair (Kd.mono_const _) (Kd.mono_pair (Kd.mono_slice 25 Kd.mono_id) (Kd.mono_slice 45 monoG45))))
theorem sub25 : Kd.Sub F25 [25, 45] := Kd.sub_iso _ (Kd.sub_pair (Kd.sub_const _ (by decide)) (Kd.sub_pair (Kd.sub_const _ (by decide)) (Kd.sub_pair (Kd.sub_slice 25 (by decide) Kd.sub_id) (Kd.sub_slice 45 (by decide) subG45))))
theorem sz25 : ∀ n, (Kd.upto F25 4 [25, 45] n).sz = 4 := Kd.upto_sz (fun _ => rfl)
def k25 : Kd S25 := Kd.fix F25 4 [25, 45] sz25 (Kd.upto_E sub25)
theorem limG45 : Kd.Lim G45 F25 4 [25, 45] sz25 (Kd.upto_E sub25) := Kd.lim_iso _ (Kd.lim_pair mono25 (Kd.mono_const _) Kd.mono_id (Kd.lim_const _) Kd.lim_id)
def k45 : Kd S45 := G45 k25
theorem k25_open {w : World} {x : S25} {cs : List Value} (h : k25.K w x cs) : ∃ A2 c2 A3 c3, cs = [.int .u8 x.f0, .string x.f1, .slice A2 x.f2.length c2, .slice A3 x.f3.length c3] ∧ x.f2.length ≤ c2 ∧ k25.C w A2 x.f2.length x.f2 ∧ x.f3.length ≤ c3 ∧ k45.C w A3 x.f3.length x.f3 := by
  obtain ⟨n, h⟩ := h
  cases n with
  | zero => exact h.elim
  | succ n =>
    obtain ⟨_, _, rfl, rfl, ⟨_, _, rfl, rfl, ⟨_, _, rfl, ⟨A2, c2, rfl, l2, g2⟩, ⟨A3, c3, rfl, l3, g3⟩⟩⟩⟩ := h
    exact ⟨A2, c2, A3, c3, rfl, l2, Kd.fix_C g2, l3, Kd.thr_C monoG45 g3⟩
theorem k25_mk (w : World) (x : S25) {A2 : Option Addr} {c2 : Nat} (l2 : x.f2.length ≤ c2) (g2 : k25.C w A2 x.f2.length x.f2) {A3 : Option Addr} {c3 : Nat} (l3 : x.f3.length ≤ c3) (g3 : k45.C w A3 x.f3.length x.f3) : k25.K w x [.int .u8 x.f0, .string x.f1, .slice A2 x.f2.length c2, .slice A3 x.f3.length c3] := by
  obtain ⟨n2, q2⟩ := Kd.fix_C_back mono25 g2
  obtain ⟨n3, q3⟩ := Kd.thr_C_back mono25 monoG45 limG45 g3
  have r2 := Kd.upto_C_le mono25 sz25 (show n2 ≤ (max n2 n3) by omega) q2
  have r3 := Kd.thr_C_le mono25 monoG45 sz25 (show n3 ≤ (max n2 n3) by omega) q3
  exact ⟨(max n2 n3) + 1, ⟨[.int .u8 x.f0], [.string x.f1, .slice A2 x.f2.length c2, .slice A3 x.f3.length c3], rfl, rfl, ⟨[.string x.f1], [.slice A2 x.f2.length c2, .slice A3 x.f3.length c3], rfl, rfl, ⟨[.slice A2 x.f2.length c2], [.slice A3 x.f3.length c3], rfl, ⟨A2, c2, rfl, l2, r2⟩, ⟨A3, c3, rfl, l3, r3⟩⟩⟩⟩⟩
theorem k25_mkM (w : World) (base : Nat) (ok : Nat → Prop) (x : S25) {v2 : Value} (g2 : k25.R 25 w base ok v2 x.f2) {v3 : Value} (g3 : k45.R 45 w base ok v3 x.f3) : k25.M w base ok x [.int .u8 x.f0, .string x.f1, v2, v3] := by
  obtain ⟨n2, q2⟩ := Kd.fix_R_back mono25 g2
  obtain ⟨n3, q3⟩ := Kd.thr_R_back mono25 monoG45 limG45 g3
  have r2 := Kd.upto_R_le mono25 sz25 (show n2 ≤ (max n2 n3) by omega) q2
  have r3 := Kd.thr_R_le mono25 monoG45 sz25 (show n3 ≤ (max n2 n3) by omega) q3
  exact ⟨(max n2 n3) + 1, ⟨[.int .u8 x.f0], [.string x.f1, v2, v3], rfl, rfl, ⟨[.string x.f1], [v2, v3], rfl, rfl, ⟨[v2], [v3], rfl, ⟨v2, rfl, r2⟩, ⟨v3, rfl, r3⟩⟩⟩⟩⟩
def rd_T25 (xs : List S25) (i : Int) : S25 := xs.getD i.toNat z25
theorem at_T25 {w : World} {A : Option Addr} {n : Nat} {xs : List S25} (h : Kd.C k25 w A n xs) (i : Int) (h0 : 0 ≤ i) (h1 : i < n) : ∃ ad A2 c2 A3 c3, A = some ad ∧ w.cell? (ad.add (i.toNat * 4)) = some (.int .u8 (rd_T25 xs i).f0) ∧ w.cell? ⟨(ad.add (i.toNat * 4)).block, (ad.add (i.toNat * 4)).off + 1, none⟩ = some (.string (rd_T25 xs i).f1) ∧ w.cell? ⟨(ad.add (i.toNat * 4)).block, (ad.add (i.toNat * 4)).off + 2, none⟩ = some (.slice A2 (rd_T25 xs i).f2.length c2) ∧ w.cell? ⟨(ad.add (i.toNat * 4)).block, (ad.add (i.toNat * 4)).off + 3, none⟩ = some (.slice A3 (rd_T25 xs i).f3.length c3) ∧ (rd_T25 xs i).f2.length ≤ c2 ∧ k25.C w A2 (rd_T25 xs i).f2.length (rd_T25 xs i).f2 ∧ (rd_T25 xs i).f3.length ≤ c3 ∧ k45.C w A3 (rd_T25 xs i).f3.length (rd_T25 xs i).f3 := by
  obtain ⟨ad, c, e, _, hK, hc0⟩ := Kd.C_get h z25 i h0 h1
  have hc : ∀ j u, c[j]? = some u → w.cell? (ad.add (i.toNat * 4 + j)) = some u := hc0
  obtain ⟨A2, c2, A3, c3, rfl, l2, g2, l3, g3⟩ := k25_open hK
  exact ⟨ad, A2, c2, A3, c3, e, hc 0 _ rfl, by rw [← add_field _ _ 1 (by omega)]; exact hc 1 _ rfl, by rw [← add_field _ _ 2 (by omega)]; exact hc 2 _ rfl, by rw [← add_field _ _ 3 (by omega)]; exact hc 3 _ rfl, l2, g2, l3, g3⟩
def z45 : S45 := ⟨(⟨#[]⟩ : ByteArray), z25⟩
theorem k45_open {w : World} {x : S45} {cs : List Value} (h : k45.K w x cs) : ∃ A3 c3 A4 c4, cs = [.string x.f0, .int .u8 x.f1.f0, .string x.f1.f1, .slice A3 x.f1.f2.length c3, .slice A4 x.f1.f3.length c4] ∧ x.f1.f2.length ≤ c3 ∧ k25.C w A3 x.f1.f2.length x.f1.f2 ∧ x.f1.f3.length ≤ c4 ∧ k45.C w A4 x.f1.f3.length x.f1.f3 := by
  obtain ⟨_, _, rfl, rfl, s1⟩ := h
  obtain ⟨A3, c3, A4, c4, rfl, l3, g3, l4, g4⟩ := k25_open s1
  exact ⟨A3, c3, A4, c4, rfl, l3, g3, l4, g4⟩
theorem k45_mk (w : World) (x : S45) {A3 : Option Addr} {c3 : Nat} (l3 : x.f1.f2.length ≤ c3) (g3 : k25.C w A3 x.f1.f2.length x.f1.f2) {A4 : Option Addr} {c4 : Nat} (l4 : x.f1.f3.length ≤ c4) (g4 : k45.C w A4 x.f1.f3.length x.f1.f3) : k45.K w x [.string x.f0, .int .u8 x.f1.f0, .string x.f1.f1, .slice A3 x.f1.f2.length c3, .slice A4 x.f1.f3.length c4] := ⟨[.string x.f0], [.int .u8 x.f1.f0, .string x.f1.f1, .slice A3 x.f1.f2.length c3, .slice A4 x.f1.f3.length c4], rfl, rfl, (k25_mk w x.f1 l3 g3 l4 g4)⟩
theorem k45_mkM (w : World) (base : Nat) (ok : Nat → Prop) (x : S45) {v3 : Value} (g3 : k25.R 25 w base ok v3 x.f1.f2) {v4 : Value} (g4 : k45.R 45 w base ok v4 x.f1.f3) : k45.M w base ok x [.string x.f0, .int .u8 x.f1.f0, .string x.f1.f1, v3, v4] := ⟨[.string x.f0], [.int .u8 x.f1.f0, .string x.f1.f1, v3, v4], rfl, rfl, (k25_mkM w base ok x.f1 g3 g4)⟩
def rd_T45 (xs : List S45) (i : Int) : S45 := xs.getD i.toNat z45
theorem at_T45 {w : World} {A : Option Addr} {n : Nat} {xs : List S45} (h : Kd.C k45 w A n xs) (i : Int) (h0 : 0 ≤ i) (h1 : i < n) : ∃ ad A3 c3 A4 c4, A = some ad ∧ w.cell? (ad.add (i.toNat * 5)) = some (.string (rd_T45 xs i).f0) ∧ w.cell? ⟨(ad.add (i.toNat * 5)).block, (ad.add (i.toNat * 5)).off + 1, none⟩ = some (.int .u8 (rd_T45 xs i).f1.f0) ∧ w.cell? ⟨(ad.add (i.toNat * 5)).block, (ad.add (i.toNat * 5)).off + 2, none⟩ = some (.string (rd_T45 xs i).f1.f1) ∧ w.cell? ⟨(ad.add (i.toNat * 5)).block, (ad.add (i.toNat * 5)).off + 3, none⟩ = some (.slice A3 (rd_T45 xs i).f1.f2.length c3) ∧ w.cell? ⟨(ad.add (i.toNat * 5)).block, (ad.add (i.toNat * 5)).off + 4, none⟩ = some (.slice A4 (rd_T45 xs i).f1.f3.length c4) ∧ (rd_T45 xs i).f1.f2.length ≤ c3 ∧ k25.C w A3 (rd_T45 xs i).f1.f2.length (rd_T45 xs i).f1.f2 ∧ (rd_T45 xs i).f1.f3.length ≤ c4 ∧ k45.C w A4 (rd_T45 xs i).f1.f3.length (rd_T45 xs i).f1.f3 := by
  obtain ⟨ad, c, e, _, hK, hc0⟩ := Kd.C_get h z45 i h0 h1
  have hc : ∀ j u, c[j]? = some u → w.cell? (ad.add (i.toNat * 5 + j)) = some u := hc0
  obtain ⟨A3, c3, A4, c4, rfl, l3, g3, l4, g4⟩ := k45_open hK
  exact ⟨ad, A3, c3, A4, c4, e, hc 0 _ rfl, by rw [← add_field _ _ 1 (by omega)]; exact hc 1 _ rfl, by rw [← add_field _ _ 2 (by omega)]; exact hc 2 _ rfl, by rw [← add_field _ _ 3 (by omega)]; exact hc 3 _ rfl, by rw [← add_field _ _ 4 (by omega)]; exact hc 4 _ rfl, l3, g3, l4, g4⟩
/-- n marks, those of the number m's binary digits set -/
def bz (n m : Nat) : Array Bool := ((List.range n).map fun i => m.testBit i).toArray
/-- a list is empty where it is no other than the empty one -/
theorem xEmpty_ne (l : List UInt8) : l.isEmpty = !(l != []) := by cases l <;> rfl
section
variable {P : Program} {ops : Array Oper} {Q : Exit → Act → World → Prop} {md : Region.Mode} {S : World → Prop} {ds : List Nat} {T : Bool × List (List Nat × List Nat)} {B : List Nat}
/-- An operation that yields in every world is taken. -/
theorem pu (i : Nat) (N : Option Tmp) {oi : Oper} {v : Value} {fuel : Nat} {l : Array Bool} {a a' : Act} {w : World} (l' : Array Bool) (hT : Aside0 (rtab md ops = T)) (hi : ops[i]? = some oi) (hN : oi.dst = N)
    (h : wpAnyLast P md ops Q S ds fuel l' a' w)
    (hc : anyT T l.toList l'.toList i = true := by kernel_rfl) (hQ : ∀ c a w, Q (.panic c) (a.put oi.dst v) w → Q (.panic c) a w := by exact fun _ _ _ h => h)
    (hw : Region.wanted oi (yielded ops a.tmps) = true := by rfl) (hy : ∀ w', (execOp a.eval oi).run P w' = .ok (.value v) w' := by intro w'; go_simp; with_reducible rfl)
    (ha : a.put N v = a' := by simp only [Act.put, List.setIfInBounds_toArray, List.set_cons_zero, List.set_cons_succ, i64_w, i32_w]; rfl) : wpAnyLast P md ops Q S ds (fuel + 1) l a w :=
  pure_ l' hi hN (any_of hT.out hc) hQ (Or.inl ⟨hw, hy⟩) ha h
/-- An operation that is off. -/
theorem pf (i : Nat) (N : Option Tmp) {oi : Oper} {fuel : Nat} {l : Array Bool} {a a' : Act} {w : World} (l' : Array Bool) (hT : Aside0 (rtab md ops = T)) (hi : ops[i]? = some oi) (hN : oi.dst = N)
    (h : wpAnyLast P md ops Q S ds fuel l' a' w)
    (hc : anyT T l.toList l'.toList i = true := by kernel_rfl) (hQ : ∀ c a w, Q (.panic c) (a.put oi.dst undef) w → Q (.panic c) a w := by exact fun _ _ _ h => h)
    (hw : Region.wanted oi (yielded ops a.tmps) = false := by rfl)
    (ha : a.put N undef = a' := by simp only [Act.put, List.setIfInBounds_toArray, List.set_cons_zero, List.set_cons_succ, i64_w, i32_w]; rfl) : wpAnyLast P md ops Q S ds (fuel + 1) l a w :=
  pure_ l' hi hN (any_of hT.out hc) hQ (Or.inr ⟨hw, rfl⟩) ha h
/-- An operation that yields in every world that meets S is taken. -/
theorem tk (i : Nat) (N : Option Tmp) {oi : Oper} {v : Value} {fuel : Nat} {l : Array Bool} {a a' : Act} {w : World} (l' : Array Bool) (hT : Aside0 (rtab md ops = T)) (hW : Aside0 (waitsOk T.2 B = true)) (hi : ops[i]? = some oi) (hN : oi.dst = N) (hS : S w)
    (h : wpAnyLast P md ops Q S ds fuel l' a' w)
    (hc : takeW T B ds l.toList l'.toList i = true := by kernel_rfl) (hQ : ∀ c a w, Q (.panic c) (a.put oi.dst v) w → Q (.panic c) a w := by exact fun _ _ _ h => h)
    (hw : Region.wanted oi (yielded ops a.tmps) = true := by rfl) (hy : ∀ w', S w' → (execOp a.eval oi).run P w' = .ok (.value v) w' := by intro w' hS_; (try dsimp only at hS_); go_split_ands; go_simp; with_reducible rfl)
    (ha : a.put N v = a' := by simp only [Act.put, List.setIfInBounds_toArray, List.set_cons_zero, List.set_cons_succ, i64_w, i32_w]; rfl) : wpAnyLast P md ops Q S ds (fuel + 1) l a w :=
  take_ l' hi hN (take_ofW hT.out hW.out hc) hQ (Or.inl ⟨hw, hy⟩) hS ha h
end
/-- Worlds behind drawings and new blocks: what was below stays so. -/
theorem bl {B : Nat} {w0 w w1 : World} (h : Aside0 (Below B w0 w)) (hs : Below B w0 w → Below B w0 w1 := by intro h_; repeat (first | (with_reducible first | exact h_ | apply below_alloc | apply pw_below_drewN | apply below_drew1) | exact h_)) : Below B w0 w1 := hs h.out
/-- The same of a row of one's own. -/
theorem rl {α : Type} {d : Kd α} {e : Nat} {w w1 : World} {base : Nat} {ok : Nat → Prop} {v : Value} {xs : List α} (h : Aside0 (Kd.R d e w base ok v xs)) (hs : Kd.R d e w base ok v xs → Kd.R d e w1 base ok v xs := by intro h_; (with_reducible repeat (first | apply Kd.R_alloc | apply Kd.R_drewN | apply Kd.R_drew)); exact h_) : Kd.R d e w1 base ok v xs := hs h.out
/-- The same of a block. -/
theorem kl {w w1 : World} {g : Nat} {o : Obj} (h : Aside0 (w.heap[g]? = some o)) (hs : w.heap[g]? = some o → w1.heap[g]? = some o := by intro h_; (with_reducible repeat (first | refine blk_drewN ?_ _ | refine blk_drew ?_ | refine blk_alloc ?_ _)); exact h_) : w1.heap[g]? = some o := hs h.out
/-- A table of whole numbers that reads as its initialiser lays it. -/
theorem tab_of_reads {P : Program} {W : World} {name : String} {k : IntKind} {zs : List Int} {g : Nat} {t e : TypeId} {n : Nat} (hg : P.globalNamed name = some g) (hty : (P.globals[g]?).map (·.type) = some t) (ht : P.underlying t = some (.array n e)) (he : P.underlying e = some (.int k)) (hce : P.cellsOf e = 1) (hct : P.cellsOf t = n)
    (h : Lib.VarReads P W name (Lib.tabData k zs)) : Lib.TabIs P W name k zs := by
  obtain ⟨g', t', cs, fuel, p, hg', ht', hvar, hd⟩ := h
  obtain rfl := Option.some.inj (hg.symm.trans hg')
  obtain rfl := Option.some.inj (hty.symm.trans ht')
  unfold Lib.TabIs
  rw [hvar, ← Lib.cells_of_tab ht he hce hct hd]
/-- A variable of an interface's type, that reads as a value of some type. -/
theorem err_of_reads {P : Program} {W : World} {name nm : String} {d : DataW Unit} {g : Nat} {t : TypeId} {ms : Array (String × TypeId)} (hg : P.globalNamed name = some g) (hty : (P.globals[g]?).map (·.type) = some t) (ht : P.underlying t = some (.interface ms))
    (h : Lib.VarReads P W name (.iface nm d)) : ∃ te pe, W.cell? ⟨g, 0, none⟩ = some (.iface te pe) := by
  obtain ⟨g', t', cs, fuel, p, hg', ht', hvar, hd⟩ := h
  obtain rfl := Option.some.inj (hg.symm.trans hg')
  obtain rfl := Option.some.inj (hty.symm.trans ht')
  obtain ⟨f1, u, v, hc, _, _⟩ := iface_of_trod ht hd
  have hcell := World.var?_cell hg hvar 0
  refine ⟨u, v, hcell.trans ?_⟩
  rw [← Array.getElem?_toList, hc]
  rfl
/-- The tables of unicode/utf8 and internal/strconv read as their initialisers lay them; an error of strconv's is one. -/
structure GlobOk (w : World) : Prop where
  utf : Lib.Utf8Tabs 3 4 w
  tab : Lib.TabIs Tryz.prog w "internal/strconv.uint64pow10" .u64 Lib.pow10Tab
  err : ∃ te pe, w.cell? ⟨1, 0, none⟩ = some (.iface te pe)
  rng : ∃ te pe, w.cell? ⟨2, 0, none⟩ = some (.iface te pe)
theorem GlobOk.below {w w' : World} (h : GlobOk w) (hb : Below w.heap.size w w') : GlobOk w' := ⟨Utf8Tabs_below h.utf hb, Joins.tab_stays (g := 5) (by kernel_rfl) h.tab hb (Nat.le_refl _), by obtain ⟨te, pe, hc⟩ := h.err; exact ⟨te, pe, pw_cell_below hb hc⟩, by obtain ⟨te, pe, hc⟩ := h.rng; exact ⟨te, pe, pw_cell_below hb hc⟩⟩
/-- A block that is none of these variables'. -/
def GFree (B : Nat) : Prop := B ≠ 3 ∧ B ≠ 4 ∧ B ≠ 5 ∧ B ≠ 1 ∧ B ≠ 2
theorem GlobOk.free {w : World} (h : GlobOk w) {B : Nat} (hB : w.heap.size ≤ B) : GFree B := by
  have lt : ∀ {a : Addr} {v : Value}, w.cell? a = some v → a.block < w.heap.size := fun {a v} hc => World.block_lt_of_cell? w a hc
  have h1 := lt (h.utf.1 0 (by decide))
  have h2 := lt (h.utf.2 0 (by decide)).1
  obtain ⟨te, pe, hc⟩ := h.err
  have h3 := lt hc
  obtain ⟨te5, pe5, hc5⟩ := h.rng
  have h5 := lt hc5
  have h4 : 5 < w.heap.size := by
    have hv : w.var? Tryz.prog "internal/strconv.uint64pow10" = _ := h.tab
    have hg : Tryz.prog.globalNamed "internal/strconv.uint64pow10" = some 5 := by kernel_rfl
    exact lt (World.var?_cell hg hv 0)
  simp only at h1 h2 h3 h5
  exact ⟨by omega, by omega, by omega, by omega, by omega⟩
theorem GlobOk.kept {w w' : World} (h : GlobOk w) {B : Nat} (hB : GFree B) (hb : ∀ k, k < w.heap.size → k ≠ B → w'.heap[k]? = w.heap[k]?) : GlobOk w' := by
  have cell : ∀ {a : Addr} {v : Value}, w.cell? a = some v → a.block ≠ B → w'.cell? a = some v := fun {a v} hc hn => (World.cell?_of_block (w := w) (hb a.block (World.block_lt_of_cell? w a hc) hn)).trans hc
  refine ⟨⟨fun c hc => cell (h.utf.1 c hc) (Ne.symm hB.1), fun i hi => ⟨cell (h.utf.2 i hi).1 (Ne.symm hB.2.1), cell (h.utf.2 i hi).2 (Ne.symm hB.2.1)⟩⟩, ?_, ?_, ?_⟩
  · have hv := h.tab
    have hg : Tryz.prog.globalNamed "internal/strconv.uint64pow10" = some 5 := by kernel_rfl
    unfold Lib.TabIs World.var? at hv ⊢
    rw [hg] at hv ⊢
    simp only [Option.bind_some] at hv ⊢
    have hlt : 5 < w.heap.size := by
      rcases Nat.lt_or_ge 5 w.heap.size with h' | h'
      · exact h'
      · simp [Array.getElem?_eq_none h'] at hv
    rw [hb _ hlt (Ne.symm hB.2.2.1)]
    exact hv
  · obtain ⟨te, pe, hc⟩ := h.err
    exact ⟨te, pe, cell hc (Ne.symm hB.2.2.2.1)⟩
  · obtain ⟨te, pe, hc⟩ := h.rng
    exact ⟨te, pe, cell hc (Ne.symm hB.2.2.2.2)⟩
theorem xU8 : U8Extra Tryz.prog Tryz.lays260_ren := ⟨by kernel_rfl, by kernel_rfl, by kernel_rfl, by kernel_rfl, by kernel_rfl, by kernel_rfl, by kernel_rfl⟩
theorem GlobOk.of_laid {W : World} {l : List (String × DataW Unit)} {d1 d2 d3 : DataW Unit} {d4 : DataW Unit} {nm : String} {d5 : DataW Unit} {d6 : DataW Unit} {nm6 : String} {d7 : DataW Unit} (hL : laidMetH Tryz.prog l W) (hp : (l.all fun x => x.2.handleName?.isNone) = true) (m1 : ("unicode/utf8.first", d1) ∈ l) (e1 : d1 = Lib.firstData) (m2 : ("unicode/utf8.acceptRanges", d2) ∈ l) (e2 : d2 = Lib.acceptData) (m3 : ("internal/strconv.uint64pow10", d3) ∈ l) (e3 : d3 = Lib.tabData .u64 Lib.pow10Tab) (m4 : ("strconv.ErrSyntax", d4) ∈ l) (e4 : d4 = .iface nm d5) (m6 : ("strconv.ErrRange", d6) ∈ l) (e6 : d6 = .iface nm6 d7) : GlobOk W := by
  rw [MakeChecks.laidMetH_plain _ _ _ hp] at hL
  subst e1 e2 e3 e4 e6
  exact ⟨utf8Tabs_of_readsT (U8Types.of260 Tryz.lays260) xU8 (Lib.laidMet.reads hL m1) (Lib.laidMet.reads hL m2), tab_of_reads (g := 5) (t := 145) (e := 123) (n := 20) (by kernel_rfl) (by kernel_rfl) (by kernel_rfl) (by kernel_rfl) (by kernel_rfl) (by kernel_rfl) (Lib.laidMet.reads hL m3), err_of_reads (g := 1) (t := 65) (by kernel_rfl) (by kernel_rfl) Tryz.underlying65 (Lib.laidMet.reads hL m4), err_of_reads (g := 2) (t := 65) (by kernel_rfl) (by kernel_rfl) Tryz.underlying65 (Lib.laidMet.reads hL m6)⟩
set_option maxHeartbeats 1000000 in
set_option maxRecDepth 100000 in
theorem bc_used (b : Nat) (w : World) (h0 : w.cell? ⟨b, 0, none⟩ = some (.pointer (some ⟨b, 0, none⟩))) :
    Calls Tryz.prog 69 #[.pointer (some ⟨b, 0, none⟩)] w fun e w' => e = .returned (.tuple #[]) ∧ w' = w := by
  obtain ⟨j, hj, _⟩ := Option.map_eq_some_iff.1 (show (Tryz.prog.info? 50).map (·.size) = some 2 by kernel_rfl)
  go_enter Tryz.func69, Tryz.ntmps69
  go_wp2
  rw [Lib.run_neq_ptr_same w _ Tryz.underlying47 hj]
  go_wp2
  go_end0
  exact ⟨rfl, rfl⟩
set_option maxHeartbeats 1000000 in
set_option maxRecDepth 100000 in
theorem bc_fresh (b : Nat) (w : World) (h0 : w.cell? ⟨b, 0, none⟩ = some (.pointer none)) (hsh : w.shape? b = some (50, 2)) (hfz : w.frozen? ⟨b, 0, none⟩ = false) :
    Calls Tryz.prog 69 #[.pointer (some ⟨b, 0, none⟩)] w fun e w' => e = .returned (.tuple #[]) ∧ w' = w.setCell ⟨b, 0, none⟩ (.pointer (some ⟨b, 0, none⟩)) := by
  obtain ⟨j, hj, hjs⟩ := Option.map_eq_some_iff.1 (show (Tryz.prog.info? 50).map (·.size) = some 2 by kernel_rfl)
  go_enter Tryz.func69, Tryz.ntmps69
  go_wp2
  rw [Lib.run_to_unsafe w ⟨b, 0, none⟩ Tryz.underlying47 Tryz.underlying119 hj (by rw [hjs]; decide) hsh (Nat.zero_lt_succ 1)]
  simp only [Result.andThen]
  rw [Oper.upon_value]
  go_wp2
  rw [run_callFunc_extern Tryz.func94 (by kernel_rfl) (by kernel_rfl) (by kernel_rfl) (e := Extern.AbiNoEscape.same) (by kernel_rfl)]
  rw [Lib.run_noEscape]
  simp only [Result.andThen]
  rw [Oper.upon_value]
  go_wp2
  rw [Lib.run_from_unsafe w ⟨b, 0, none⟩ Tryz.underlying119 Tryz.underlying47 hj hsh (by kernel_rfl)]
  simp only [Result.andThen]
  rw [Oper.upon_value]
  go_wp2
  go_end0
  exact ⟨rfl, rfl⟩
theorem bc_k (B b : Nat) (bs : List Value) (w : World) (h : Lib.IsBuilderF 50 5 B b bs w) :
    Calls Tryz.prog 69 #[.pointer (some ⟨b, 0, none⟩)] w fun e w' => e = .returned (.tuple #[]) ∧ (Lib.BuilderAtF 50 5 B b (.pointer (some ⟨b, 0, none⟩)) bs w' ∧ Below B w w' ∧ Lib.OthersKept 5 (some b) w w') := by
  rcases h with h | h
  · refine (bc_fresh b w h.cell0 h.shape h.frozen0).mono ?_
    rintro e w' ⟨rfl, rfl⟩
    exact ⟨rfl, h.used _, (Below.refl B w).setCell (p := ⟨b, 0, none⟩) h.1 _, (Lib.OthersKept.refl _ _ w).setCell ⟨b, 0, none⟩ rfl _⟩
  · refine (bc_used b w h.cell0).mono ?_
    rintro e w' ⟨rfl, rfl⟩
    exact ⟨rfl, h, Below.refl B _, Lib.OthersKept.refl _ _ _⟩
set_option maxHeartbeats 4000000 in
set_option maxRecDepth 100000 in
theorem bw_rune (B b : Nat) (bs : List Value) (r : Int) (hr0 : -2147483648 ≤ r) (hr1 : r ≤ 2147483647) (w : World) (h : Lib.IsBuilderF 50 5 B b bs w) (hlen : bs.length + 4 ≤ 140737488355328) (hBw : B ≤ w.heap.size) :
    Calls Tryz.prog 41 #[.pointer (some ⟨b, 0, none⟩), .int .i32 r] w fun e w' => e = .returned (.tuple #[.int .i64 (Lib.runeCells r).length, .nilIface]) ∧ (Lib.BuilderAtF 50 5 B b (.pointer (some ⟨b, 0, none⟩)) (bs ++ Lib.runeCells r) w' ∧ Below B w w' ∧ Lib.OthersKept 5 (some b) w w') := by
  have hk4 := Lib.runeCells_le r
  go_enter Tryz.func41, Tryz.ntmps41
  go_wp2_with (go_at_call 69; refine (bc_k B b bs _ h).mono ?_)
  rintro e w1 ⟨rfl, h1, hb1, hk1⟩
  obtain ⟨hB, v, hbk, hown, hne⟩ := h1
  obtain ⟨ao, cap, rfl⟩ : ∃ ao cap, v = .slice ao bs.length cap := by
    rcases hown.2 with ⟨hv, h0⟩ | ⟨g, cap, cur, fz, hv, _⟩
    · exact ⟨none, 0, by rw [hv, h0]⟩
    · exact ⟨_, _, hv⟩
  have c0 : w1.cell? ⟨b, 0, none⟩ = some (.pointer (some ⟨b, 0, none⟩)) := by rw [Lib.cell_of_heap hbk]; rfl
  have c1 : w1.cell? ⟨b, 1, none⟩ = some (.slice ao bs.length cap) := by rw [Lib.cell_of_heap hbk]; rfl
  go_wp2_with (go_at_call 73; refine (Tryz.utf8_AppendRune_row B _ bs.length bs r hr0 hr1 _ hown hlen (by have := hb1.size; omega)).mono ?_)
  rintro e w2 ⟨v', rfl, hown', o, hgrow⟩
  have hlt : b < w1.heap.size := (Array.getElem?_eq_some_iff.1 hbk).1
  have hb2 : w2.heap[b]? = some (.cells #[.pointer (some ⟨b, 0, none⟩), .slice ao bs.length cap] 50 (0, 0)) := by
    rw [hgrow.block b (by simp; omega) (fun e => hne e.symm), Lib.alloc_old w1 _ b hlt]
    exact hbk
  have d0 : w2.cell? ⟨b, 0, none⟩ = some (.pointer (some ⟨b, 0, none⟩)) := by rw [Lib.cell_of_heap hb2]; rfl
  have d1 : w2.cell? ⟨b, 1, none⟩ = some (.slice ao bs.length cap) := by rw [Lib.cell_of_heap hb2]; rfl
  have f1 : w2.frozen? ⟨b, 1, none⟩ = false := Lib.frozen_of_heap hb2 1
  obtain ⟨g, cap', rfl⟩ : ∃ g cap', v' = .slice (some ⟨g, 0, none⟩) (bs.length + (Lib.runeCells r).length) cap' := by
    rcases hown'.2 with ⟨_, h0⟩ | ⟨g, cap', cur, fz, hv, _⟩
    · omega
    · exact ⟨g, cap', hv⟩
  go_wp2
  go_ret2
  refine ⟨?_, ?_, ?_, ((hk1.alloc _).grown hgrow (Lib.ownsRowF_kind (hown.alloc _))).setCell ⟨b, 1, none⟩ rfl _⟩
  · have e : ((bs.length : Int) + ((Lib.runeCells r).length : Int) - (bs.length : Int)) = ((Lib.runeCells r).length : Int) := by omega
    simp [e]
  · exact Lib.BuilderAtF.put (T := 50) (e := 5) hB hb2 (bs' := bs ++ Lib.runeCells r) (by simpa using hown') (by decide)
  · exact ((hb1.alloc (by have := hb1.size; omega) _).grown hgrow (by have := hb1.size; simp; omega) (fun k hk => (hown.lt k hk).1)).setCell (p := ⟨b, 1, none⟩) hB _
set_option maxHeartbeats 4000000 in
set_option maxRecDepth 100000 in
theorem bw_byte (B b : Nat) (bs : List Value) (c : Int) (w : World) (h : Lib.IsBuilderF 50 5 B b bs w) (hlen : bs.length + 1 ≤ 140737488355328) (hBw : B ≤ w.heap.size) :
    Calls Tryz.prog 38 #[.pointer (some ⟨b, 0, none⟩), .int .u8 c] w fun e w' => e = .returned .nilIface ∧ (Lib.BuilderAtF 50 5 B b (.pointer (some ⟨b, 0, none⟩)) (bs ++ [.int .u8 c]) w' ∧ Below B w w' ∧ Lib.OthersKept 5 (some b) w w') := by
  obtain ⟨i0, hi, hz0, hz1, hz2⟩ := info_parts (show (Tryz.prog.info? 5).map (fun i => (i.zero, i.size, i.bytes)) = some (some (.int .u8 0), 1, 1) by kernel_rfl)
  go_enter Tryz.func38, Tryz.ntmps38
  go_wp2_with (go_at_call 69; refine (bc_k B b bs _ h).mono ?_)
  rintro e w1 ⟨rfl, h1, hb1, hk1⟩
  obtain ⟨hB, v, hbk, hown, hne⟩ := h1
  have c0 : w1.cell? ⟨b, 0, none⟩ = some (.pointer (some ⟨b, 0, none⟩)) := by rw [Lib.cell_of_heap hbk]; rfl
  have c1 : w1.cell? ⟨b, 1, none⟩ = some v := by rw [Lib.cell_of_heap hbk]; rfl
  go_wp2_with (at_builtin; refine wpList_append_ownF _ rfl _ _ 48 rfl B 5 i0 (.int .u8 0) 1 1 Tryz.underlying48 hi hz0 hz1 hz2 rfl (by decide) _ _ _ rfl (hown.alloc _) ⟨w1.heap.size, 0, none⟩ 1 1 [.int .u8 c] rfl rfl ?c1 ?c2 ?c3 ?c4 ?c5 ?_)
  case c1 =>
    intro j u hj
    match j, hj with
    | 0, hj => simp at hj; subst hj; simp [Addr.add]
  case c2 => intro u hu; simp at hu; subst hu; rfl
  case c3 => unfold maxLen; omega
  case c4 => omega
  case c5 => have := hb1.size; simp; omega
  intro v' w2 hown' hgrow _
  have hlt : b < w1.heap.size := (Array.getElem?_eq_some_iff.1 hbk).1
  have hb2 : w2.heap[b]? = some (.cells #[.pointer (some ⟨b, 0, none⟩), v] 50 (0, 0)) := by
    rw [hgrow.block b (by simp; omega) (fun e => hne e.symm), Lib.alloc_old w1 _ b hlt]
    exact hbk
  have d0 : w2.cell? ⟨b, 0, none⟩ = some (.pointer (some ⟨b, 0, none⟩)) := by rw [Lib.cell_of_heap hb2]; rfl
  have d1 : w2.cell? ⟨b, 1, none⟩ = some v := by rw [Lib.cell_of_heap hb2]; rfl
  have f1 : w2.frozen? ⟨b, 1, none⟩ = false := Lib.frozen_of_heap hb2 1
  obtain ⟨g, cap, rfl⟩ : ∃ g cap, v' = .slice (some ⟨g, 0, none⟩) (bs.length + 1) cap := by
    rcases hown'.2 with ⟨_, h0⟩ | ⟨g, cap, cur, fz, hv, _⟩
    · omega
    · exact ⟨g, cap, hv⟩
  go_wp2
  go_ret
  refine ⟨rfl, ?_, ?_, ((hk1.alloc _).grown hgrow (Lib.ownsRowF_kind (hown.alloc _))).setCell ⟨b, 1, none⟩ rfl _⟩
  · exact Lib.BuilderAtF.put (T := 50) (e := 5) hB hb2 (bs' := bs ++ [.int .u8 c]) (by simpa using hown') (by decide)
  · exact ((hb1.alloc (by have := hb1.size; omega) _).grown hgrow (by have := hb1.size; simp; omega) (fun k hk => (hown.lt k hk).1)).setCell (p := ⟨b, 1, none⟩) hB _
set_option maxHeartbeats 4000000 in
set_option maxRecDepth 100000 in
theorem bw_str (B b : Nat) (bs : List Value) (s : ByteArray) (w : World) (h : Lib.IsBuilderF 50 5 B b bs w) (hlen : bs.length + s.size ≤ 140737488355328) (hBw : B ≤ w.heap.size) :
    Calls Tryz.prog 40 #[.pointer (some ⟨b, 0, none⟩), .string s] w fun e w' => e = .returned (.tuple #[.int .i64 s.size, .nilIface]) ∧ (Lib.BuilderAtF 50 5 B b (.pointer (some ⟨b, 0, none⟩)) (bs ++ Lib.strCells s) w' ∧ Below B w w' ∧ Lib.OthersKept 5 (some b) w w') := by
  obtain ⟨i0, hi, hz0, hz1, hz2⟩ := info_parts (show (Tryz.prog.info? 5).map (fun i => (i.zero, i.size, i.bytes)) = some (some (.int .u8 0), 1, 1) by kernel_rfl)
  go_enter Tryz.func40, Tryz.ntmps40
  go_wp2_with (go_at_call 69; refine (bc_k B b bs _ h).mono ?_)
  rintro e w1 ⟨rfl, h1, hb1, hk1⟩
  obtain ⟨hB, v, hbk, hown, hne⟩ := h1
  have c0 : w1.cell? ⟨b, 0, none⟩ = some (.pointer (some ⟨b, 0, none⟩)) := by rw [Lib.cell_of_heap hbk]; rfl
  have c1 : w1.cell? ⟨b, 1, none⟩ = some v := by rw [Lib.cell_of_heap hbk]; rfl
  go_wp2_with (at_builtin; refine Lib.wpList_append_own_stringF _ rfl _ _ 48 9 rfl B 5 i0 Tryz.underlying48 Tryz.underlying9 hi hz0 hz1 hz2 _ _ _ rfl hown s rfl ?c3 ?c4 ?c5 ?_)
  case c3 => unfold maxLen; omega
  case c4 => omega
  case c5 => have := hb1.size; omega
  intro v' w2 hown' hgrow _
  have hlt : b < w1.heap.size := (Array.getElem?_eq_some_iff.1 hbk).1
  have hb2 : w2.heap[b]? = some (.cells #[.pointer (some ⟨b, 0, none⟩), v] 50 (0, 0)) := by
    rw [hgrow.block b hlt (fun e => hne e.symm)]
    exact hbk
  have d0 : w2.cell? ⟨b, 0, none⟩ = some (.pointer (some ⟨b, 0, none⟩)) := by rw [Lib.cell_of_heap hb2]; rfl
  have d1 : w2.cell? ⟨b, 1, none⟩ = some v := by rw [Lib.cell_of_heap hb2]; rfl
  have f1 : w2.frozen? ⟨b, 1, none⟩ = false := Lib.frozen_of_heap hb2 1
  obtain ⟨ao, n', cap, rfl⟩ : ∃ ao n' cap, v' = .slice ao n' cap := by
    rcases hown'.2 with ⟨hv, _⟩ | ⟨g, cap, cur, fz, hv, _⟩
    · exact ⟨_, _, _, hv⟩
    · exact ⟨_, _, _, hv⟩
  go_wp2
  go_ret2
  refine ⟨rfl, ?_, ?_, (hk1.grown hgrow (Lib.ownsRowF_kind hown)).setCell ⟨b, 1, none⟩ rfl _⟩
  · exact Lib.BuilderAtF.put (T := 50) (e := 5) hB hb2 (bs' := bs ++ Lib.strCells s) (by simpa [Lib.strCells_length] using hown') (by decide)
  · exact (hb1.grown hgrow (by have := hb1.size; omega) (fun k hk => (hown.lt k hk).1)).setCell (p := ⟨b, 1, none⟩) hB _
/-- What a reading comes to: a value and the place behind it, or where it is wrong, and how. -/
inductive Res (α : Type) where
  | ok (v : α) (i : Nat)
  | bad (i : Nat) (e : Int)
def Res.bind {α β : Type} (r : Res α) (f : α → Nat → Res β) : Res β := match r with | .ok v i => f v i | .bad i e => .bad i e
/-- The byte at hand; 0 behind the end. -/
def hnd (s : ByteArray) (i : Nat) : Nat := if h : i < s.size then s[i].toNat else 0
theorem hnd_lt (s : ByteArray) (i : Nat) : hnd s i < 256 := by unfold hnd; split; exact UInt8.toNat_lt _; omega
theorem hnd_pos {s : ByteArray} {i c : Nat} (h : hnd s i = c) (hc : c ≠ 0) : i < s.size := by
  unfold hnd at h; split at h; assumption; omega
/-- All but one block are as they were. -/
structure Kp (B : Nat) (w w' : World) : Prop where
  os : w'.os = w.os
  tape : w'.tape = w.tape
  output : w'.output = w.output
  size : w.heap.size ≤ w'.heap.size
  block : ∀ k, k < w.heap.size → k ≠ B → w'.heap[k]? = w.heap[k]?
theorem Kp.refl (B : Nat) (w : World) : Kp B w w := ⟨rfl, rfl, rfl, Nat.le_refl _, fun _ _ _ => rfl⟩
theorem Kp.trans {B : Nat} {a b c : World} (h : Kp B a b) (k : Kp B b c) : Kp B a c := ⟨k.os.trans h.os, k.tape.trans h.tape, k.output.trans h.output, Nat.le_trans h.size k.size, fun i hi hn => (k.block i (Nat.lt_of_lt_of_le hi h.size) hn).trans (h.block i hi hn)⟩
theorem Kp.drewN {B : Nat} {a b : World} (h : Kp B a b) (n : Nat) : Kp B a (b.drewN n) := ⟨h.os, h.tape, h.output, h.size, h.block⟩
theorem Kp.drew {B : Nat} {a b : World} (h : Kp B a b) : Kp B a b.drew := ⟨h.os, h.tape, h.output, h.size, h.block⟩
theorem Kp.set {B : Nat} {a b : World} (h : Kp B a b) (j : Nat) (u : Value) : Kp B a (b.setCell ⟨B, j, none⟩ u) :=
  h.trans ⟨rfl, rfl, rfl, by simp [World.setCell], fun k _ hk => Below.heap_setCell _ _ _ _ hk⟩
theorem Kp.setN {B : Nat} {a b : World} (h : Kp B a b) {p : Addr} (hp : a.heap.size ≤ p.block) (u : Value) : Kp B a (b.setCell p u) :=
  ⟨h.os, h.tape, h.output, by simpa [World.setCell] using h.size, fun k hk hn => (Below.heap_setCell _ _ _ _ (by omega)).trans (h.block k hk hn)⟩
theorem Kp.alloc {B : Nat} {a b : World} (h : Kp B a b) (o : Obj) : Kp B a (b.alloc o) :=
  h.trans ⟨rfl, rfl, rfl, by simp, fun k hk _ => Below.heap_alloc _ _ _ hk⟩
theorem Kp.of_below {B : Nat} {a b : World} (h : Below a.heap.size a b) : Kp B a b := ⟨h.os, h.tape, h.output, h.size, fun k hk _ => h.block k hk⟩
theorem Kp.below {B : Nat} {a b : World} (h : Kp B a b) : Below B a b ∨ True := .inr trivial
/-- A reader at block B: its text, and its place. -/
def Rdr (B : Nat) (s : ByteArray) (i : Nat) (w : World) : Prop := w.heap[B]? = some (.cells #[.string s, .int .i64 i] 61 (0, 0))
theorem Rdr.c0 {B : Nat} {s : ByteArray} {i : Nat} {w : World} (h : Rdr B s i w) : w.cell? ⟨B, 0, none⟩ = some (.string s) := (blk_cell h 0).trans rfl
theorem Rdr.c1 {B : Nat} {s : ByteArray} {i : Nat} {w : World} (h : Rdr B s i w) : w.cell? ⟨B, 1, none⟩ = some (.int .i64 i) := (blk_cell h 1).trans rfl
theorem Rdr.fr {B : Nat} {s : ByteArray} {i : Nat} {w : World} (h : Rdr B s i w) : w.frozen? ⟨B, 1, none⟩ = false := blk_frozen h 1
theorem Rdr.set {B : Nat} {s : ByteArray} {i : Nat} {w : World} (h : Rdr B s i w) (j : Nat) : Rdr B s j (w.setCell ⟨B, 1, none⟩ (.int .i64 j)) := blk_put h 1 _ rfl
theorem Rdr.set1 {B : Nat} {s : ByteArray} {i : Nat} {w : World} (h : Rdr B s i w) : Rdr B s (i + 1) (w.setCell ⟨B, 1, none⟩ (.int .i64 ((i : Int) + 1))) := blk_put h 1 _ rfl
theorem Rdr.drewN {B : Nat} {s : ByteArray} {i : Nat} {w : World} (h : Rdr B s i w) (n : Nat) : Rdr B s i (w.drewN n) := h
theorem Rdr.drew {B : Nat} {s : ByteArray} {i : Nat} {w : World} (h : Rdr B s i w) : Rdr B s i w.drew := h
theorem Rdr.below {B : Nat} {s : ByteArray} {i : Nat} {w w' : World} (h : Rdr B s i w) (hb : Below w.heap.size w w') : Rdr B s i w' := blk_below h hb
theorem Rdr.alloc {B : Nat} {s : ByteArray} {i : Nat} {w : World} (h : Rdr B s i w) (o : Obj) : Rdr B s i (w.alloc o) := blk_alloc h o
theorem Rdr.lt {B : Nat} {s : ByteArray} {i : Nat} {w : World} (h : Rdr B s i w) : B < w.heap.size := blk_lt h
/-- What a reading hands back, or throws. -/
def thrown (i : Nat) (e : Int) : PanicEntry := { v := .iface 57 (.agg #[.int .i64 i, .int .i64 e]), recovered := false }
def Out {α : Type} (B : Nat) (s : ByteArray) (V : α → Value → World → Prop) (w : World) (r : Res α) (e : Ending) (w' : World) : Prop :=
  match r with
  | .ok a i => ∃ x, e = .returned x ∧ V a x w' ∧ i ≤ s.size ∧ Rdr B s i w' ∧ Kp B w w'
  | .bad i c => e = .panicked [thrown i c] ∧ Kp B w w'
def VU (_ : Unit) (x : Value) (_ : World) : Prop := x = .tuple #[]
set_option maxRecDepth 100000 in
theorem ir_err (s : ByteArray) (w : World) (hascii : ∀ (j : Nat) b, s.data.toList[j]? = some b → b.toNat < 128) : Calls Tryz.prog 39 #[.string s, .int .i32 65533] w fun e w' => e = .returned (.int .i64 (-1)) ∧ Below w.heap.size w w' := by
  have HA : Aside (∀ (j : Nat) b, s.data.toList[j]? = some b → b.toNat < 128) := hascii
  clear hascii
  go_enter Tryz.func39, Tryz.ntmps39
  go_wp2
  go_loopg [5, 6] s.size (fun g _ _ wx => ∃ i : Nat, i + g = s.size ∧ wx = w.iter s i)
  case atStart => exact ⟨0, by omega, rfl⟩
  case round =>
    obtain ⟨i, hig, rfl⟩ := hrel
    cases gk with
    | zero =>
      obtain rfl : i = s.size := by omega
      have hnx := run_next_end (P := Tryz.prog) w s s.size
      go_wp2
      go_ret
      exact ⟨rfl, (Below.refl _ _).alloc (Nat.le_refl _) _⟩
    | succ g =>
      have hi : i < s.size := by omega
      obtain ⟨x, hx⟩ : ∃ x : UInt8, s[i]'hi = x := ⟨_, rfl⟩
      have hxl : s.data.toList[i]? = some x := by rw [← hx]; exact Lib.data_getElem? s i hi
      have hx128 : x.toNat < 128 := HA.out i x hxl
      have hne : ((x.toNat : Int) == 65533) = false := beq_eq_false_iff_ne.2 (by omega)
      have hnx := fun ty => run_next_ascii (P := Tryz.prog) w s i ty hi (by rw [hx]; exact hx128)
      rw [hx] at hnx
      clear hxl hx
      go_wp2
      go_roundg g
      case measure => omega
      case rel => exact ⟨i + 1, by omega, rfl⟩
theorem qs_ascii : ∀ (j : Nat) b, (⟨#[34, 92, 8, 9, 10, 12, 13]⟩ : ByteArray).data.toList[j]? = some b → b.toNat < 128 := by
  intro j b h
  have hj := (List.getElem?_eq_some_iff.1 h).1
  have hl : ([34, 92, 8, 9, 10, 12, 13] : List UInt8).length = 7 := rfl
  have key : ∀ j, j < 7 → ∀ b, ([34, 92, 8, 9, 10, 12, 13] : List UInt8)[j]? = some b → b.toNat < 128 := by decide
  exact key j hj b h
theorem qenc_many (r : Int) (h0 : 128 ≤ r) (hv : Lib.validRune r = true) : (∃ a b : UInt8, 128 ≤ b.toNat ∧ Utf8.encode r = ⟨#[a, b]⟩) ∨ (∃ a b c : UInt8, 128 ≤ c.toNat ∧ Utf8.encode r = ⟨#[a, b, c]⟩) ∨ ∃ a b c d : UInt8, 128 ≤ d.toNat ∧ Utf8.encode r = ⟨#[a, b, c, d]⟩ := by
  have v : Utf8.valid r = true := by
    simp only [Lib.validRune, decide_eq_true_eq] at hv
    simp [Utf8.valid]; omega
  have hx : ¬ r.toNat < 128 := by omega
  have hl : ∀ n : Nat, 128 ≤ (UInt8.ofNat (128 + n % 64)).toNat := fun n => by
    have : (UInt8.ofNat (128 + n % 64)).toNat = 128 + n % 64 := by simp; omega
    omega
  unfold Utf8.encode
  simp only [v, if_true]
  rw [if_neg hx]
  by_cases h2 : r.toNat < 2048
  · rw [if_pos h2]
    exact .inl ⟨_, _, hl _, rfl⟩
  · rw [if_neg h2]
    by_cases h3 : r.toNat < 65536
    · rw [if_pos h3]; exact .inr (.inl ⟨_, _, _, hl _, rfl⟩)
    · rw [if_neg h3]; exact .inr (.inr ⟨_, _, _, _, hl _, rfl⟩)
theorem ib_list {c : UInt8} : ∀ (l : List UInt8), c ∉ l → Lib.indexByte l c = -1 := by
  intro l h
  induction l with
  | nil => rfl
  | cons b l ih =>
    have h1 : c ≠ b ∧ c ∉ l := by simpa using h
    unfold Lib.indexByte
    rw [ih h1.2, if_neg (by simpa using fun e => h1.1 e.symm)]
    rfl
set_option maxRecDepth 100000 in
set_option maxHeartbeats 1600000 in
theorem iq_other (r : Int) (w : World) (h0 : 128 ≤ r) (h1 : ¬ r = 65533) : Calls Tryz.prog 39 #[.string ⟨#[34, 92, 8, 9, 10, 12, 13]⟩, .int .i32 r] w fun e w' => e = .returned (.int .i64 (-1)) ∧ Below w.heap.size w w' := by
  have h0' : ¬ r < 128 := by omega
  have h00 : 0 ≤ r := by omega
  have h1b : (r == 65533) = false := by simp [h1]
  cases hv : Lib.validRune r
  · go_enter Tryz.func39, Tryz.ntmps39
    go_wp2_with (go_at_call 70; refine (Tryz.utf8_ValidRune r w).mono ?_; rintro e w' ⟨rfl, rfl⟩; rw [hv])
    go_ret
    exact ⟨rfl, Below.refl _ _⟩
  · have HE := Aside0.mk (qenc_many r h0 hv)
    go_enter Tryz.func39, Tryz.ntmps39
    go_wp2_with (go_at_call 70; refine (Tryz.utf8_ValidRune r w).mono ?_; rintro e w' ⟨rfl, rfl⟩; rw [hv])
    go_step3
    go_wp2
    rcases HE.out with ⟨a, b, hb, hE⟩ | ⟨a, b, c, hb, hE⟩ | ⟨a, b, c, d, hb, hE⟩
    · rw [hE, show wrap64 (((⟨#[a, b]⟩ : ByteArray).size : Int) - 1) = 1 from by simp [ByteArray.size, wrap64]]
      clear HE hE
      go_loopg [9, 10] 0 (fun g x y wx => x = .int .i64 1 ∧ y = .int .i64 0 ∧ wx = w')
      case atStart => exact ⟨rfl, rfl, rfl⟩
      case round =>
        obtain ⟨rfl, rfl, rfl⟩ := hrel
        have hib : Lib.indexByte [8, 9, 10, 12, 13] ((⟨#[a, b]⟩ : ByteArray)[1]'(show 1 < 2 from by omega)) = -1 := by
          show Lib.indexByte [8, 9, 10, 12, 13] b = -1
          have hl : ∀ x ∈ ([8, 9, 10, 12, 13] : List UInt8), x.toNat < 128 := by decide
          exact ib_list _ (fun h => by have := hl b h; omega)
        go_wp2
        go_step3
        go_wp2
        go_region
        go_wp2
        rotate_left
        · rename_i hx Kx hKx
          exfalso
          change (((92 : UInt8).toNat : Int) != (b.toNat : Int)) = false at hx
          simp only [bne, Bool.not_eq_false'] at hx
          have hx2 := eq_of_beq hx
          rw [show (((92 : UInt8).toNat : Nat) : Int) = 92 from rfl] at hx2
          omega
        go_region_with (go_at_call 50; refine (Tryz.strings_IndexByte _ _ _).mono ?_; rintro e w' ⟨rfl, rfl⟩)
        all_goals go_wp2
        all_goals (repeat (rw [Exit.noGoto_ret]; go_wp2))
        all_goals go_ret
        all_goals exact ⟨rfl, (Below.refl _ _).drew.drew⟩
    · rw [hE, show wrap64 (((⟨#[a, b, c]⟩ : ByteArray).size : Int) - 1) = 2 from by simp [ByteArray.size, wrap64]]
      clear HE hE
      go_loopg [9, 10] 0 (fun g x y wx => x = .int .i64 2 ∧ y = .int .i64 0 ∧ wx = w')
      case atStart => exact ⟨rfl, rfl, rfl⟩
      case round =>
        obtain ⟨rfl, rfl, rfl⟩ := hrel
        have hib : Lib.indexByte [9, 10, 12, 13] ((⟨#[a, b, c]⟩ : ByteArray)[2]'(show 2 < 3 from by omega)) = -1 := by
          show Lib.indexByte [9, 10, 12, 13] c = -1
          have hl : ∀ x ∈ ([9, 10, 12, 13] : List UInt8), x.toNat < 128 := by decide
          exact ib_list _ (fun h => by have := hl c h; omega)
        go_wp2
        go_step3
        go_wp2
        go_region
        go_wp2
        rotate_left
        · rename_i hx Kx hKx
          exfalso
          change (((8 : UInt8).toNat : Int) != (c.toNat : Int)) = false at hx
          simp only [bne, Bool.not_eq_false'] at hx
          have hx2 := eq_of_beq hx
          rw [show (((8 : UInt8).toNat : Nat) : Int) = 8 from rfl] at hx2
          omega
        go_region_with (go_at_call 50; refine (Tryz.strings_IndexByte _ _ _).mono ?_; rintro e w' ⟨rfl, rfl⟩)
        all_goals go_wp2
        all_goals (repeat (rw [Exit.noGoto_ret]; go_wp2))
        all_goals go_ret
        all_goals exact ⟨rfl, (Below.refl _ _).drew.drew⟩
    · rw [hE, show wrap64 (((⟨#[a, b, c, d]⟩ : ByteArray).size : Int) - 1) = 3 from by simp [ByteArray.size, wrap64]]
      clear HE hE
      go_loopg [9, 10] 0 (fun g x y wx => x = .int .i64 3 ∧ y = .int .i64 0 ∧ wx = w')
      case atStart => exact ⟨rfl, rfl, rfl⟩
      case round =>
        obtain ⟨rfl, rfl, rfl⟩ := hrel
        have hib : Lib.indexByte [10, 12, 13] ((⟨#[a, b, c, d]⟩ : ByteArray)[3]'(show 3 < 4 from by omega)) = -1 := by
          show Lib.indexByte [10, 12, 13] d = -1
          have hl : ∀ x ∈ ([10, 12, 13] : List UInt8), x.toNat < 128 := by decide
          exact ib_list _ (fun h => by have := hl d h; omega)
        go_wp2
        go_step3
        go_wp2
        go_region
        go_wp2
        rotate_left
        · rename_i hx Kx hKx
          exfalso
          change (((9 : UInt8).toNat : Int) != (d.toNat : Int)) = false at hx
          simp only [bne, Bool.not_eq_false'] at hx
          have hx2 := eq_of_beq hx
          rw [show (((9 : UInt8).toNat : Nat) : Int) = 9 from rfl] at hx2
          omega
        go_region_with (go_at_call 50; refine (Tryz.strings_IndexByte _ _ _).mono ?_; rintro e w' ⟨rfl, rfl⟩)
        all_goals go_wp2
        all_goals (repeat (rw [Exit.noGoto_ret]; go_wp2))
        all_goals go_ret
        all_goals exact ⟨rfl, (Below.refl _ _).drew.drew⟩
/-- Of another character: none of these bytes is it. -/
theorem iq_out (r : Int) (w : World) (h0 : 0 ≤ r) (hn : r ≠ 34 ∧ r ≠ 92 ∧ r ≠ 8 ∧ r ≠ 9 ∧ r ≠ 10 ∧ r ≠ 12 ∧ r ≠ 13) : Calls Tryz.prog 39 #[.string ⟨#[34, 92, 8, 9, 10, 12, 13]⟩, .int .i32 r] w fun e w' => e = .returned (.int .i64 (-1)) ∧ Below w.heap.size w w' := by
  by_cases h : r < 128
  · refine (Tryz.strings_IndexRune_ascii ⟨#[34, 92, 8, 9, 10, 12, 13]⟩ r w h0 h).mono ?_
    rintro e w' ⟨rfl, rfl⟩
    refine ⟨?_, Below.refl _ _⟩
    congr 2
    refine ib_list _ (fun hm => ?_)
    have hc : (r.toNat.toUInt8).toNat = r.toNat := by simp; omega
    have key : ∀ x ∈ ([34, 92, 8, 9, 10, 12, 13] : List UInt8), x.toNat = 34 ∨ x.toNat = 92 ∨ x.toNat = 8 ∨ x.toNat = 9 ∨ x.toNat = 10 ∨ x.toNat = 12 ∨ x.toNat = 13 := by decide
    have := key _ hm
    rw [hc] at this
    omega
  · by_cases h3 : r = 65533
    · subst h3; exact ir_err _ w qs_ascii
    · exact iq_other r w (by omega) h3
theorem iq_in (r : Int) (w : World) (j : Nat) (h : (r = 34 ∧ j = 0) ∨ (r = 92 ∧ j = 1) ∨ (r = 8 ∧ j = 2) ∨ (r = 9 ∧ j = 3) ∨ (r = 10 ∧ j = 4) ∨ (r = 12 ∧ j = 5) ∨ (r = 13 ∧ j = 6)) : Calls Tryz.prog 39 #[.string ⟨#[34, 92, 8, 9, 10, 12, 13]⟩, .int .i32 r] w fun e w' => e = .returned (.int .i64 j) ∧ w' = w := by
  refine (Tryz.strings_IndexRune_ascii ⟨#[34, 92, 8, 9, 10, 12, 13]⟩ r w (by omega) (by omega)).mono ?_
  rintro e w' ⟨rfl, rfl⟩
  refine ⟨?_, rfl⟩
  rcases h with ⟨rfl, rfl⟩ | ⟨rfl, rfl⟩ | ⟨rfl, rfl⟩ | ⟨rfl, rfl⟩ | ⟨rfl, rfl⟩ | ⟨rfl, rfl⟩ | ⟨rfl, rfl⟩ <;> rfl
/-- A builder stands where what is below stays. -/
theorem builder_below {T e : TypeId} {B b : Nat} {bs : List Value} {w w' : World} (h : Lib.IsBuilderF T e B b bs w) (hb : Below w.heap.size w w') : Lib.IsBuilderF T e B b bs w' := by
  have one : ∀ p, Lib.BuilderAtF T e B b p bs w → Lib.BuilderAtF T e B b p bs w' := by
    rintro p ⟨hB, v, hk, ho, hne⟩
    refine ⟨hB, v, (hb.block b (Array.getElem?_eq_some_iff.1 hk).1).trans hk, ⟨ho.1, ho.2.imp id ?_⟩, hne⟩
    rintro ⟨g, cap, cur, fz, hv, hg, hh, rest⟩
    exact ⟨g, cap, cur, fz, hv, hg, (hb.block g (Array.getElem?_eq_some_iff.1 hh).1).trans hh, rest⟩
  exact h.imp (one _) (one _)
/-- What is written for a character. -/
def qesc (r : Nat) : UInt8 := if r = 34 then 34 else if r = 92 then 92 else if r = 8 then 98 else if r = 9 then 116 else if r = 10 then 110 else if r = 12 then 102 else 114
def qhex (r : Nat) : UInt8 := if r < 10 then UInt8.ofNat (48 + r) else UInt8.ofNat (87 + r)
def qset (r : Nat) : Prop := r = 34 ∨ r = 92 ∨ r = 8 ∨ r = 9 ∨ r = 10 ∨ r = 12 ∨ r = 13
instance (r : Nat) : Decidable (qset r) := by unfold qset; exact inferInstance
def qb (r : Nat) : List UInt8 := if qset r then [92, qesc r] else if r < 32 then [92, 117, 48, 48, UInt8.ofNat (48 + r / 16), qhex (r % 16)] else Lib.encodeRune r
theorem qb_len (r : Nat) : (qb r).length ≤ 6 := by
  unfold qb
  split
  · simp
  · split
    · simp
    · have := (Lib.runeCells_le (r : Int)).2
      rw [Lib.runeCells_length] at this
      omega
/-- What is written for a string's characters from a place on. -/
def quoteL (s : ByteArray) : Nat → Nat → List UInt8
  | 0, _ => []
  | f + 1, pos => if pos < s.size then qb (Utf8.decode s pos).1 ++ quoteL s f (pos + (Utf8.decode s pos).2) else []
theorem quoteL_end (s : ByteArray) (f pos : Nat) (h : ¬ pos < s.size) : quoteL s f pos = [] := by
  cases f with
  | zero => rfl
  | succ f => simp [quoteL, h]
inductive Wf25 : S25 → Prop
  | mk (x : S25) (h0 : (Lit.int .u8 x.f0).wf = true) (h1 : x.f1.size ≤ 140737488351232) (h2 : x.f2.length ≤ maxLen ∧ x.f2.length * 72 ≤ 140737488351232) (h3 : x.f3.length ≤ maxLen ∧ x.f3.length * 88 ≤ 140737488351232) (r2 : ∀ y ∈ x.f2, Wf25 y) (q3_0 : ∀ y ∈ x.f3, y.f0.size ≤ 140737488351232) (q3_1 : ∀ y ∈ x.f3, Wf25 y.f1) : Wf25 x
mutual
def mu25 : S25 → Nat
  | ⟨a0, a1, a2, a3⟩ => 1 + (a1.size + 1) + (mus25 a2 + 1) + (mut45 a3 + 1) + 1
def mus25 : List S25 → Nat
  | [] => 0
  | x :: r => mu25 x + mus25 r
def mut45 : List (P45 S25) → Nat
  | [] => 0
  | x :: r => mup45 x + mut45 r
def mup45 : P45 S25 → Nat
  | ⟨b0, b1⟩ => (b0.size + 1) + mu25 b1 + 1
end
theorem mus25_sum : ∀ l : List S25, mus25 l = (l.map mu25).sum
  | [] => by simp [mus25]
  | x :: r => by simp only [mus25, List.map_cons, List.sum_cons, mus25_sum r]
def mu45 (x : S45) : Nat := mup45 x
theorem mut45_sum : ∀ l : List S45, mut45 l = (l.map mu45).sum
  | [] => by simp [mut45]
  | x :: r => by simp only [mut45, List.map_cons, List.sum_cons, mut45_sum r, mu45]
def Wf45 (x : S45) : Prop := x.f0.size ≤ 140737488351232 ∧ Wf25 x.f1
end Go.Proofs.YtebmgmagdhedgaaGreatDoor.Q

end
section
namespace Go.Proofs.YtebmgmagdhedgaaGreatDoor.Q
open Go.RowKit Go.Proofs.YtebmgmagdhedgaaGreatDoorW.PrintWords Go.Proofs.YtebmgmagdhedgaaGreatDoorW.PrintLast Go.Proofs.YtebmgmagdhedgaaGreatDoorW.PrintMore
attribute [local go_sem] max2_int min2_int max_two min_two max_three min_three max_four min_four   
set_option linter.unusedVariables false
set_option linter.unusedSimpArgs false
theorem json_reader_hand.at_ (B : Nat) (s : ByteArray) (i : Nat) (w : World) (hR : Rdr B s i w) (hs : s.size ≤ 140737488351232) (hi : i < s.size) : Calls Tryz.prog 51 #[.pointer (some ⟨B, 0, none⟩)] w fun e w' => e = .returned (.int .u8 (hnd s i)) ∧ ∃ n, w' = w.drewN n := by
 have c0 := hR.c0
 have c1 := hR.c1
 have t : decide ((i : Int) < (s.size : Int)) = true := decide_eq_true (by omega)
 have HE := Aside0.mk (show (hnd s i : Int) = (s[i].toNat : Int) by simp [hnd, hi])
 clear hR; go_enter Tryz.func51, Tryz.ntmps51
 go_wp2
 go_quiet (fail)
 go_wp2
 go_quiet (fail)
 go_wp2
 go_ret
 exact ⟨by rw [HE.out]; rfl, _, World.drewN_drewN _ _ _⟩
theorem json_reader_hand.end_ (B : Nat) (s : ByteArray) (i : Nat) (w : World) (hR : Rdr B s i w) (hs : s.size ≤ 140737488351232) (hi : ¬ i < s.size) : Calls Tryz.prog 51 #[.pointer (some ⟨B, 0, none⟩)] w fun e w' => e = .returned (.int .u8 (hnd s i)) ∧ ∃ n, w' = w.drewN n := by
 have c0 := hR.c0
 have c1 := hR.c1
 have t : decide ((i : Int) < (s.size : Int)) = false := decide_eq_false (by omega)
 have HE := Aside0.mk (show (hnd s i : Int) = 0 by simp [hnd, hi])
 clear hR; go_enter Tryz.func51, Tryz.ntmps51
 go_wp2
 go_quiet (fail)
 go_wp2
 go_ret
 exact ⟨by rw [HE.out]; rfl, _, rfl⟩
theorem json_reader_hand.calls (B : Nat) (s : ByteArray) (i : Nat) (w : World) (hR : Rdr B s i w) (hs : s.size ≤ 140737488351232) : Calls Tryz.prog 51 #[.pointer (some ⟨B, 0, none⟩)] w fun e w' => e = .returned (.int .u8 (hnd s i)) ∧ ∃ n, w' = w.drewN n := by
 by_cases hi : i < s.size
 ·exact json_reader_hand.at_ B s i w hR hs hi
 ·exact json_reader_hand.end_ B s i w hR hs hi
theorem json_reader_stop.calls (B : Nat) (s : ByteArray) (i : Nat) (w : World) (hR : Rdr B s i w) : Calls Tryz.prog 31 #[.pointer (some ⟨B, 0, none⟩)] w fun e w' => e = .panicked [thrown i 30] ∧ w' = w := by
 have c1 := hR.c1
 clear hR; go_enter Tryz.func31, Tryz.ntmps31
 go_wp2
 exact ⟨rfl, rfl, rfl⟩
def isBl (c : Nat) : Bool := c == 32 || c == 9 || c == 10 || c == 13
def isDig (c : Nat) : Bool := decide (48 ≤ c) && decide (c ≤ 57)
/-- The first place from i on whose byte is none of these. -/
def skip (p : Nat → Bool) (s : ByteArray) (i : Nat) : Nat := if h : i < s.size ∧ p (hnd s i) = true then skip p s (i + 1) else i
termination_by s.size - i
theorem skip_yes {p : Nat → Bool} {s : ByteArray} {i : Nat} (h : i < s.size) (hp : p (hnd s i) = true) : skip p s i = skip p s (i + 1) := by rw [skip, dif_pos ⟨h, hp⟩]
theorem skip_no {p : Nat → Bool} {s : ByteArray} {i : Nat} (h : ¬ (i < s.size ∧ p (hnd s i) = true)) : skip p s i = i := by rw [skip, dif_neg h]
/-- A word, byte by byte. -/
def wd (s : ByteArray) : List Nat → Nat → Res Unit
 | [], i => .ok () i
 | c :: r, i => if hnd s i = c then wd s r (i + 1) else .bad i 30
def digits (s : ByteArray) (i : Nat) : Res Unit := if isDig (hnd s i) = true then .ok () (skip isDig s i) else .bad i 30
theorem ib_blank (c : Nat) (hc : c < 256) : decide (0 ≤ Lib.indexByte [32, 9, 10, 13] (c.toUInt8)) = isBl c := by
 have : ∀ c, c < 256 → decide (0 ≤ Lib.indexByte [32, 9, 10, 13] (c.toUInt8)) = isBl c := by decide +kernel
 exact this c hc
theorem ib_c (l : ByteArray) (c : Nat) (w : World) : Calls Tryz.prog 50 #[.string l, .int .u8 c] w fun e w' => e = .returned (.int .i64 (Lib.indexByte l.data.toList c.toUInt8)) ∧ w' = w := Tryz.strings_IndexByte l (c : Int) w
theorem json_reader_blanks.calls (B : Nat) (s : ByteArray) (i : Nat) (w : World) (hR : Rdr B s i w) (hs : s.size ≤ 140737488351232) (hi : i ≤ s.size) : Calls Tryz.prog 29 #[.pointer (some ⟨B, 0, none⟩)] w fun e w' => e = .returned (.tuple #[]) ∧ Rdr B s (skip isBl s i) w' ∧ Kp B w w' := by
 have HR := Aside0.mk hR; clear hR; go_enter Tryz.func29, Tryz.ntmps29
 go_wp2
 go_loopg [] (s.size - i) (fun kq w' => ∃ j : Nat, j ≤ s.size ∧ kq = s.size - j ∧ Aside0 (skip isBl s j = skip isBl s i) ∧ Aside0 (Rdr B s j w') ∧ Aside0 (Kp B w w'))
 case atStart => exact ⟨i, hi, rfl, ⟨rfl⟩, HR, ⟨Kp.refl _ _⟩⟩
 case round =>
  obtain ⟨j, hj, rfl, hsk, HR', HK⟩ := hrel
  have c0 := HR'.out.c0
  have c1 := HR'.out.c1
  have fr := HR'.out.fr
  by_cases hlt : j < s.size
  ·have t : decide ((j : Int) < (s.size : Int)) = true := decide_eq_true (by omega)
   have HE := Aside0.mk (show hnd s j = s[j].toNat by simp [hnd, hlt])
   obtain ⟨a, ha⟩ : ∃ a, a = Lib.indexByte [32, 9, 10, 13] ((s[j].toNat).toUInt8) := ⟨_, rfl⟩
   have hib := ib_c ⟨#[32, 9, 10, 13]⟩ s[j].toNat
   have hbl := ib_blank s[j].toNat (UInt8.toNat_lt _)
   rw [show (⟨#[32, 9, 10, 13]⟩ : ByteArray).data.toList = [32, 9, 10, 13] from rfl] at hib
   rw [← ha] at hib hbl
   rw [← HE.out] at hbl
   have HA := Aside0.mk hib; clear hib ha; cases hb : isBl (hnd s j)
   ·rw [hb] at hbl
    have HN := Aside0.mk (skip_no (p := isBl) (s := s) (i := j) (by rw [hb]; simp))
    clear hb; go_wp2
    go_quiet ((go_at_call 50; exact Calls.quiet_of_same (HA.out _)))
    go_wp2
    go_end0
    exact ⟨rfl, by rw [← hsk.out, HN.out]; exact HR'.out, HK.out.drewN _⟩
   ·rw [hb] at hbl
    have HN := Aside0.mk (skip_yes (p := isBl) hlt hb)
    clear hb; go_wp2
    go_quiet ((go_at_call 50; exact Calls.quiet_of_same (HA.out _)))
    go_wp2
    go_roundg (s.size - (j + 1))
    case measure => omega
    case rel => exact ⟨j + 1, hlt, rfl, ⟨by rw [← hsk.out, HN.out]⟩, ⟨HR'.out.set1⟩, ⟨(HK.out.drewN _).set _ _⟩⟩
  ·have t : decide ((j : Int) < (s.size : Int)) = false := decide_eq_false (by omega)
   have HN := Aside0.mk (skip_no (p := isBl) (s := s) (i := j) (fun h => hlt h.1))
   go_wp2
   go_quiet (fail)
   go_wp2
   go_end0
   exact ⟨rfl, by rw [← hsk.out, HN.out]; exact HR'.out, HK.out.drewN _⟩
theorem wd_cons {s : ByteArray} {c : Nat} {r : List Nat} {i : Nat} : wd s (c :: r) i = if hnd s i = c then wd s r (i + 1) else .bad i 30 := rfl
theorem json_reader_word.calls (B : Nat) (s : ByteArray) (i : Nat) (l : List UInt8) (w : World) (hR : Rdr B s i w) (hs : s.size ≤ 140737488351232) (hi : i ≤ s.size) (hl : l.length ≤ 1000) (h0 : ∀ c ∈ l, c.toNat ≠ 0) :
  Calls Tryz.prog 52 #[.pointer (some ⟨B, 0, none⟩), .string ⟨l.toArray⟩] w (Out B s VU w (wd s (l.map UInt8.toNat) i)) := by
 obtain ⟨N, hN⟩ : ∃ N : Nat, N = l.length := ⟨_, rfl⟩
 have hsz : (⟨l.toArray⟩ : ByteArray).size = l.length := by simp [ByteArray.size]
 have HR := Aside0.mk hR; have HN := Aside0.mk hN; have HZ := Aside0.mk hsz; have H0 := Aside0.mk h0; obtain ⟨R, hRes⟩ : ∃ R, R = wd s (l.map UInt8.toNat) i := ⟨_, rfl⟩
 rw [← hRes]
 have HRes := Aside0.mk hRes; clear hR hN hsz hRes h0; go_enter Tryz.func52, Tryz.ntmps52
 go_wp2
 go_loopw [7] (fun t7 w' => ∃ j : Nat, j ≤ l.length ∧ t7 = .int .i64 j ∧ Aside0 (i + j ≤ s.size) ∧ Aside0 (wd s ((l.map UInt8.toNat).drop j) (i + j) = R) ∧ Aside0 (Rdr B s (i + j) w') ∧ Aside0 (Kp B w w')) (fun t7 _ => l.length - (intOf t7).toNat)
 case atStart => exact ⟨0, Nat.zero_le _, rfl, ⟨hi⟩, ⟨HRes.out.symm⟩, HR, ⟨Kp.refl _ _⟩⟩
 case round =>
  obtain ⟨j, hj, rfl, HI, HW, HR', HK⟩ := hrel
  have c0 := HR'.out.c0
  have c1 := HR'.out.c1
  have fr := HR'.out.fr
  have hIs := HI.out
  by_cases hlt : j < l.length
  ·have t : decide ((j : Int) < ((⟨l.toArray⟩ : ByteArray).size : Int)) = true := decide_eq_true (by rw [HZ.out]; omega)
   have hsz2 : j < (⟨l.toArray⟩ : ByteArray).size := by rw [HZ.out]; exact hlt
   obtain ⟨c, hc⟩ : ∃ c : Nat, c = ((⟨l.toArray⟩ : ByteArray)[j]'hsz2).toNat := ⟨_, rfl⟩
   have hcl : l[j].toNat = c := by rw [hc]; rfl
   have HD := Aside0.mk (show (l.map UInt8.toNat).drop j = c :: (l.map UInt8.toNat).drop (j + 1) by
    rw [List.drop_eq_getElem_cons (by simpa using hlt)]; simp [hcl])
   have HC0 := Aside0.mk (show c ≠ 0 by rw [← hcl]; exact H0.out _ (List.getElem_mem _))
   have hW := HW.out
   rw [HD.out, wd_cons] at hW
   have hq : ∀ n, Calls Tryz.prog 51 #[.pointer (some ⟨B, 0, none⟩)] (wr.drewN n) fun e w' => e = .returned (.int .u8 (hnd s (i + j))) ∧ ∃ m, w' = (wr.drewN n).drewN m := fun n => json_reader_hand.calls B s (i + j) _ (HR'.out.drewN n) hs
   have HQ := Aside0.mk hq; clear hq hcl; by_cases he : hnd s (i + j) = c
   ·rw [if_pos he] at hW
    have hne : (((hnd s (i + j) : Nat) : Int) != ((((⟨l.toArray⟩ : ByteArray)[j]'hsz2).toNat : Nat) : Int)) = false := by rw [he, hc]; simp
    have HI2 := Aside0.mk (hnd_pos he HC0.out)
    have HW2 := Aside0.mk hW; have hI3 := HI2.out
    clear hW hc he; go_wp2
    go_quiet ((go_at_call 51; exact Calls.quiet_of (HQ.out _)))
    go_wp2
    go_roundw
    case rel => exact ⟨j + 1, hlt, by go_num, ⟨by omega⟩, HW2, ⟨HR'.out.set1⟩, ⟨(HK.out.drewN _).set _ _⟩⟩
    case measure => simp [intOf]; omega
   ·rw [if_neg he] at hW
    have hne : (((hnd s (i + j) : Nat) : Int) != ((((⟨l.toArray⟩ : ByteArray)[j]'hsz2).toNat : Nat) : Int)) = true := by rw [← hc]; exact bne_iff_ne.mpr (by omega)
    have HW2 := Aside0.mk hW; clear hW hc he; go_wp2
    go_quiet ((go_at_call 51; exact Calls.quiet_of (HQ.out _)))
    go_wp2_with (go_at_call 31; refine (json_reader_stop.calls B s (i + j) _ (HR'.out.drewN _)).mono ?_; rintro e w' ⟨rfl, rfl⟩)
    exact ⟨rfl, by rw [← HW2.out]; exact ⟨rfl, HK.out.drewN _⟩⟩
  ·have t : decide ((j : Int) < ((⟨l.toArray⟩ : ByteArray).size : Int)) = false := decide_eq_false (by rw [HZ.out]; omega)
   have hW := HW.out
   rw [List.drop_eq_nil_of_le (by simp; omega)] at hW
   have HW2 := Aside0.mk hW; obtain rfl : j = l.length := by omega
   clear hW; go_wp2
   go_end0
   rw [← HW2.out]
   exact ⟨_, rfl, rfl, HI.out, HR'.out, HK.out⟩
theorem json_reader_digits.calls (B : Nat) (s : ByteArray) (i : Nat) (w : World) (hR : Rdr B s i w) (hs : s.size ≤ 140737488351232) (hi : i ≤ s.size) :
  Calls Tryz.prog 80 #[.pointer (some ⟨B, 0, none⟩)] w (Out B s VU w (digits s i)) := by
 have hand := fun (j : Nat) (w : World) (h : Rdr B s j w) => json_reader_hand.calls B s j w h hs
 have HH := Aside0.mk hand; have HR := Aside0.mk hR; clear hand hR; by_cases hd : isDig (hnd s i) = true
 ·have HO := Aside0.mk (show digits s i = .ok () (skip isDig s i) by unfold digits; rw [if_pos hd])
  rw [HO.out]
  have h1 : 48 ≤ hnd s i ∧ hnd s i ≤ 57 := by simpa [isDig] using hd
  have t1 : decide (((hnd s i : Nat) : Int) < 48) = false := decide_eq_false (by omega)
  have t2 : decide ((57 : Int) < ((hnd s i : Nat) : Int)) = false := decide_eq_false (by omega)
  clear hd h1; go_enter Tryz.func80, Tryz.ntmps80
  go_wp2_with (go_at_call 51; refine (HH.out i _ HR.out).mono ?_; rintro e w' ⟨rfl, n1, rfl⟩)
  go_loopg [] (s.size - i) (fun kq w' => ∃ j : Nat, j ≤ s.size ∧ kq = s.size - j ∧ Aside0 (skip isDig s j = skip isDig s i) ∧ Aside0 (Rdr B s j w') ∧ Aside0 (Kp B w w'))
  case atStart => exact ⟨i, hi, rfl, ⟨rfl⟩, ⟨HR.out.drewN _⟩, ⟨(Kp.refl _ _).drewN _⟩⟩
  case round =>
   clear t1 t2; obtain ⟨j, hj, rfl, hsk, HR', HK⟩ := hrel
   have fr := HR'.out.fr
   have c1 := HR'.out.c1
   by_cases hd : isDig (hnd s j) = true
   ·have h1 : 48 ≤ hnd s j ∧ hnd s j ≤ 57 := by simpa [isDig] using hd
    have hlt : j < s.size := hnd_pos (c := hnd s j) rfl (by omega)
    have t1 : decide ((48 : Int) ≤ ((hnd s j : Nat) : Int)) = true := decide_eq_true (by omega)
    have t2 : decide (((hnd s j : Nat) : Int) ≤ 57) = true := decide_eq_true (by omega)
    have HN := Aside0.mk (skip_yes (p := isDig) hlt hd)
    clear hd h1; go_wp2_with (go_at_call 51; refine (HH.out j _ HR'.out).mono ?_; rintro e w' ⟨rfl, n2, rfl⟩)
    refine (HH.out j _ (HR'.out.drewN _)).mono ?_
    rintro e w' ⟨rfl, n3, rfl⟩
    go_wp2
    go_roundg (s.size - (j + 1))
    case measure => omega
    case rel => exact ⟨j + 1, hlt, rfl, ⟨by rw [← hsk.out, HN.out]⟩, ⟨Rdr.set1 (i := j) (HR'.out.drewN _)⟩, ⟨(HK.out.drewN _).set _ _⟩⟩
   ·have HN := Aside0.mk (skip_no (p := isDig) (s := s) (i := j) (fun h => hd h.2))
    by_cases h1 : 48 ≤ hnd s j
    ·have h2 : ¬ hnd s j ≤ 57 := fun h => hd (by simp [isDig, h1, h])
     have t1 : decide ((48 : Int) ≤ ((hnd s j : Nat) : Int)) = true := decide_eq_true (by omega)
     have t2 : decide (((hnd s j : Nat) : Int) ≤ 57) = false := decide_eq_false (by omega)
     clear hd h1 h2; go_wp2_with (go_at_call 51; refine (HH.out j _ HR'.out).mono ?_; rintro e w' ⟨rfl, n2, rfl⟩)
     refine (HH.out j _ (HR'.out.drewN _)).mono ?_
     rintro e w' ⟨rfl, n3, rfl⟩
     go_wp2
     go_end0
     exact ⟨_, rfl, rfl, by rw [← hsk.out, HN.out]; exact hj, by rw [← hsk.out, HN.out]; exact HR'.out, HK.out.drewN _⟩
    ·have t1 : decide ((48 : Int) ≤ ((hnd s j : Nat) : Int)) = false := decide_eq_false (by omega)
     clear hd h1; go_wp2_with (go_at_call 51; refine (HH.out j _ HR'.out).mono ?_; rintro e w' ⟨rfl, n2, rfl⟩)
     go_end0
     exact ⟨_, rfl, rfl, by rw [← hsk.out, HN.out]; exact hj, by rw [← hsk.out, HN.out]; exact HR'.out, HK.out.drewN _⟩
 ·have HO := Aside0.mk (show digits s i = .bad i 30 by unfold digits; rw [if_neg hd])
  rw [HO.out]
  by_cases h1 : 48 ≤ hnd s i
  ·have h2 : ¬ hnd s i ≤ 57 := fun h => hd (by simp [isDig, h1, h])
   have t1 : decide (((hnd s i : Nat) : Int) < 48) = false := decide_eq_false (by omega)
   have t2 : decide ((57 : Int) < ((hnd s i : Nat) : Int)) = true := decide_eq_true (by omega)
   clear hd h1 h2; go_enter Tryz.func80, Tryz.ntmps80
   go_wp2_with (first | (go_at_call 51; refine (HH.out i _ HR.out).mono ?_; rintro e w' ⟨rfl, n1, rfl⟩) | (go_at_call 31; refine (json_reader_stop.calls B s i _ (HR.out.drewN _)).mono ?_; rintro e w' ⟨rfl, rfl⟩))
   exact ⟨rfl, rfl, (Kp.refl _ _).drewN _⟩
  ·have t1 : decide (((hnd s i : Nat) : Int) < 48) = true := decide_eq_true (by omega)
   clear hd h1; go_enter Tryz.func80, Tryz.ntmps80
   go_wp2_with (first | (go_at_call 51; refine (HH.out i _ HR.out).mono ?_; rintro e w' ⟨rfl, n1, rfl⟩) | (go_at_call 31; refine (json_reader_stop.calls B s i _ (HR.out.drewN _)).mono ?_; rintro e w' ⟨rfl, rfl⟩))
   exact ⟨rfl, rfl, (Kp.refl _ _).drewN _⟩
theorem Out.ok_ {α : Type} {B : Nat} {s : ByteArray} {V : α → Value → World → Prop} {w w' : World} {a : α} {i : Nat} {e : Ending} (h : Out B s V w (.ok a i) e w') : ∃ x, e = .returned x ∧ V a x w' ∧ i ≤ s.size ∧ Rdr B s i w' ∧ Kp B w w' := h
theorem Out.bad_ {α : Type} {B : Nat} {s : ByteArray} {V : α → Value → World → Prop} {w w' : World} {i : Nat} {c : Int} {e : Ending} (h : Out B s V w (.bad i c : Res α) e w') : e = .panicked [thrown i c] ∧ Kp B w w' := h
def nE (s : ByteArray) (i : Nat) : Res Unit := if hnd s i = 101 ∨ hnd s i = 69 then digits s (if hnd s (i + 1) = 43 ∨ hnd s (i + 1) = 45 then i + 2 else i + 1) else .ok () i
def nD (s : ByteArray) (i : Nat) : Res Unit := (if hnd s i = 46 then digits s (i + 1) else .ok () i).bind fun _ j => nE s j
def nI (s : ByteArray) (i : Nat) : Res Unit := (if hnd s i = 48 then .ok () (i + 1) else digits s i).bind fun _ j => nD s j
def number (s : ByteArray) (i : Nat) : Res Unit := nI s (if hnd s i = 45 then i + 1 else i)
theorem eqI (a : Nat) (c : Int) (h : (a : Int) = c) : ((a : Int) == c) = true := by rw [h]; simp
theorem neI (a : Nat) (c : Int) (h : ¬ (a : Int) = c) : ((a : Int) == c) = false := by simpa using h
theorem json_reader_number.calls (B : Nat) (s : ByteArray) (i : Nat) (w : World) (hR : Rdr B s i w) (hs : s.size ≤ 140737488351232) (hi : i ≤ s.size) :
  Calls Tryz.prog 56 #[.pointer (some ⟨B, 0, none⟩)] w (Out B s VU w (number s i)) := by
 have hand := fun (j : Nat) (w : World) (h : Rdr B s j w) => json_reader_hand.calls B s j w h hs
 have HH := Aside0.mk hand; have dg := fun (j : Nat) (w : World) (h : Rdr B s j w) (hj : j ≤ s.size) => json_reader_digits.calls B s j w h hs hj
 have HG := Aside0.mk dg; have HR := Aside0.mk hR; obtain ⟨j0, hj0⟩ : ∃ j0, j0 = if hnd s i = 45 then i + 1 else i := ⟨_, rfl⟩
 obtain ⟨R, hRes⟩ : ∃ R, R = number s i := ⟨_, rfl⟩
 rw [← hRes]
 have H0 := Aside0.mk (show nI s j0 = R by rw [hRes, hj0]; rfl)
 clear hand dg hR hRes; go_enter Tryz.func56, Tryz.ntmps56
 go_upto_if 6 with (go_at_call 51; refine (HH.out i _ HR.out).mono ?_; rintro e w' ⟨rfl, n1, rfl⟩)
 go_cut [] (fun wc => j0 ≤ s.size ∧ Aside0 (Rdr B s j0 wc) ∧ Aside0 (Kp B w wc))
 case first =>
  have c1 := HR.out.c1
  have fr := HR.out.fr
  by_cases h : hnd s i = 45
  ·have t := eqI (hnd s i) 45 (by omega)
   have hlt := hnd_pos h (by omega)
   have H := Aside0.mk hj0; clear hj0; have H2 := Aside0.mk h; clear h; go_wp2
   go_meet
   rw [H.out, if_pos H2.out]
   exact ⟨hlt, ⟨Rdr.set1 (i := i) (HR.out.drewN _)⟩, ⟨((Kp.refl _ _).drewN _).set _ _⟩⟩
  ·have t := neI (hnd s i) 45 (by omega)
   have H := Aside0.mk hj0; clear hj0; have H2 := Aside0.mk h; clear h; go_wp2
   go_meet
   rw [H.out, if_neg H2.out]
   exact ⟨hi, ⟨HR.out.drewN _⟩, ⟨(Kp.refl _ _).drewN _⟩⟩
 case rest =>
  obtain ⟨hj, HR1, HK1⟩ := hcut
  clear hj0; go_upto_if 16 with (go_at_call 51; refine (HH.out j0 _ HR1.out).mono ?_; rintro e w' ⟨rfl, n2, rfl⟩)
  go_cut [] (fun wd => ∃ j1 : Nat, j1 ≤ s.size ∧ Aside0 (nD s j1 = R) ∧ Aside0 (Rdr B s j1 wd) ∧ Aside0 (Kp B w wd))
  case first =>
   have c1 := HR1.out.c1
   have fr := HR1.out.fr
   by_cases h : hnd s j0 = 48
   ·have t := eqI (hnd s j0) 48 (by omega)
    have hlt := hnd_pos h (by omega)
    have H1 := Aside0.mk (show nD s (j0 + 1) = R by rw [← H0.out]; unfold nI; rw [if_pos h]; rfl)
    clear h; go_wp2
    go_meet
    exact ⟨j0 + 1, hlt, H1, ⟨Rdr.set1 (i := j0) (HR1.out.drewN _)⟩, ⟨(HK1.out.drewN _).set _ _⟩⟩
   ·have t := neI (hnd s j0) 48 (by omega)
    cases hd : digits s j0 with
    | ok u j1 =>
     have H1 := Aside0.mk (show nD s j1 = R by rw [← H0.out]; unfold nI; rw [if_neg h, hd]; rfl)
     have HD := Aside0.mk hd; clear h hd; go_wp2_with (go_at_call 80; refine (HG.out j0 _ (HR1.out.drewN _) hj).mono ?_; intro e w' ho; rw [HD.out] at ho; obtain ⟨x, rfl, rfl, hj1, hr, hk⟩ := ho.ok_; have n1_ := Aside0.mk hr; have n2_ := Aside0.mk ((HK1.out.drewN _).trans hk); clear ho hr hk)
     go_meet
     exact ⟨j1, hj1, H1, n1_, n2_⟩
    | bad j1 c =>
     have H1 := Aside0.mk (show Res.bad j1 c = R by rw [← H0.out]; unfold nI; rw [if_neg h, hd]; rfl)
     have HD := Aside0.mk hd; clear h hd; go_wp2_with (go_at_call 80; refine (HG.out j0 _ (HR1.out.drewN _) hj).mono ?_; intro e w' ho; rw [HD.out] at ho; obtain ⟨rfl, hk⟩ := ho.bad_; have n2_ := Aside0.mk ((HK1.out.drewN _).trans hk); clear ho hk)
     exact ⟨rfl, by rw [← H1.out]; exact ⟨rfl, n2_.out⟩⟩
  case rest =>
   clear hj; obtain ⟨j1, hj, HD1, HR2, HK2⟩ := hcut
   go_upto_if 28 with (go_at_call 51; refine (HH.out j1 _ HR2.out).mono ?_; rintro e w' ⟨rfl, n2, rfl⟩)
   go_cut [] (fun we => ∃ j2 : Nat, j2 ≤ s.size ∧ Aside0 (nE s j2 = R) ∧ Aside0 (Rdr B s j2 we) ∧ Aside0 (Kp B w we))
   case first =>
    have c1 := HR2.out.c1
    have fr := HR2.out.fr
    by_cases h : hnd s j1 = 46
    ·have t := eqI (hnd s j1) 46 (by omega)
     have hlt : j1 + 1 ≤ s.size := hnd_pos h (by omega)
     cases hd : digits s (j1 + 1) with
     | ok u j2 =>
      have H1 := Aside0.mk (show nE s j2 = R by rw [← HD1.out]; unfold nD; rw [if_pos h, hd]; rfl)
      have HD := Aside0.mk hd; clear h hd; go_wp2_with (go_at_call 80; refine (HG.out (j1 + 1) _ (Rdr.set1 (i := j1) (HR2.out.drewN _)) hlt).mono ?_; intro e w' ho; rw [HD.out] at ho; obtain ⟨x, rfl, rfl, hj2, hr, hk⟩ := ho.ok_; have n1_ := Aside0.mk hr; have n2_ := Aside0.mk (((HK2.out.drewN _).set _ _).trans hk); clear ho hr hk)
      go_meet
      exact ⟨j2, hj2, H1, n1_, n2_⟩
     | bad j2 c =>
      have H1 := Aside0.mk (show Res.bad j2 c = R by rw [← HD1.out]; unfold nD; rw [if_pos h, hd]; rfl)
      have HD := Aside0.mk hd; clear h hd; go_wp2_with (go_at_call 80; refine (HG.out (j1 + 1) _ (Rdr.set1 (i := j1) (HR2.out.drewN _)) hlt).mono ?_; intro e w' ho; rw [HD.out] at ho; obtain ⟨rfl, hk⟩ := ho.bad_; have n2_ := Aside0.mk (((HK2.out.drewN _).set _ _).trans hk); clear ho hk)
      exact ⟨rfl, by rw [← H1.out]; exact ⟨rfl, n2_.out⟩⟩
    ·have t := neI (hnd s j1) 46 (by omega)
     have H1 := Aside0.mk (show nE s j1 = R by rw [← HD1.out]; unfold nD; rw [if_neg h]; rfl)
     clear h; go_wp2
     go_meet
     exact ⟨j1, hj, H1, ⟨HR2.out.drewN _⟩, ⟨HK2.out.drewN _⟩⟩
   case rest =>
    clear hj HD1 HR2 HK2; obtain ⟨j2, hj, HE, HR3, HK3⟩ := hcut
    have c1 := HR3.out.c1
    have fr := HR3.out.fr
    by_cases h : hnd s j2 = 101 ∨ hnd s j2 = 69
    ·have hlt : j2 < s.size := hnd_pos (c := hnd s j2) rfl (by omega)
     obtain ⟨j3, hj3⟩ : ∃ j3, j3 = if hnd s (j2 + 1) = 43 ∨ hnd s (j2 + 1) = 45 then j2 + 2 else j2 + 1 := ⟨_, rfl⟩
     have H1 := Aside0.mk (show digits s j3 = R by rw [← HE.out, hj3]; unfold nE; rw [if_pos h])
     have HJ3 := Aside0.mk hj3; clear hj3; rcases h with h | h
     ·have t1 := eqI (hnd s j2) 101 (by omega)
      clear h; go_upto_if 45 with (go_at_call 51; refine (HH.out j2 _ HR3.out).mono ?_; rintro e w' ⟨rfl, n3, rfl⟩)
      clear t1; by_cases k1 : hnd s (j2 + 1) = 43
      ·have t3 := eqI (hnd s (j2 + 1)) 43 (by omega)
       have hl2 : j2 + 1 < s.size := hnd_pos k1 (by omega)
       have HJ3 := Aside0.mk (HJ3.out.trans (if_pos (.inl k1)))
       have HL := Aside0.mk (show j3 ≤ s.size by rw [HJ3.out]; omega)
       clear k1; cases hd : digits s j3 with
       | ok u j4 =>
        have HD := Aside0.mk hd; clear hd; go_wp2_with (first | (go_at_call 51; refine (HH.out (j2 + 1) _ (Rdr.set1 (i := j2) (HR3.out.drewN _))).mono ?_; rintro e w' ⟨rfl, n4, rfl⟩) | (go_at_call 80; refine (HG.out j3 _ (by rw [HJ3.out]; exact Rdr.set1 (i := j2 + 1) ((Rdr.set1 (i := j2) (HR3.out.drewN _)).drewN _)) HL.out).mono ?_; intro e w' ho; rw [HD.out] at ho; obtain ⟨x, rfl, rfl, hj4, hr, hk⟩ := ho.ok_; have n1_ := Aside0.mk hr; have n2_ := Aside0.mk (((((HK3.out.drewN _).set _ _).drewN _).set _ _).trans hk); clear ho hr hk))
        go_end0
        rw [← H1.out, HD.out]
        exact ⟨_, rfl, rfl, hj4, n1_.out, n2_.out⟩
       | bad j4 c =>
        have HD := Aside0.mk hd; clear hd; go_wp2_with (first | (go_at_call 51; refine (HH.out (j2 + 1) _ (Rdr.set1 (i := j2) (HR3.out.drewN _))).mono ?_; rintro e w' ⟨rfl, n4, rfl⟩) | (go_at_call 80; refine (HG.out j3 _ (by rw [HJ3.out]; exact Rdr.set1 (i := j2 + 1) ((Rdr.set1 (i := j2) (HR3.out.drewN _)).drewN _)) HL.out).mono ?_; intro e w' ho; rw [HD.out] at ho; obtain ⟨rfl, hk⟩ := ho.bad_; have n2_ := Aside0.mk (((((HK3.out.drewN _).set _ _).drewN _).set _ _).trans hk); clear ho hk))
        exact ⟨rfl, by rw [← H1.out, HD.out]; exact ⟨rfl, n2_.out⟩⟩
      ·by_cases k2 : hnd s (j2 + 1) = 45
       ·have t3 := neI (hnd s (j2 + 1)) 43 (by omega)
        have t4 := eqI (hnd s (j2 + 1)) 45 (by omega)
        have hl2 : j2 + 1 < s.size := hnd_pos k2 (by omega)
        have HJ3 := Aside0.mk (HJ3.out.trans (if_pos (.inr k2)))
        have HL := Aside0.mk (show j3 ≤ s.size by rw [HJ3.out]; omega)
        clear k1 k2; cases hd : digits s j3 with
        | ok u j4 =>
         have HD := Aside0.mk hd; clear hd; go_wp2_with (first | (go_at_call 51; refine (HH.out (j2 + 1) _ (Rdr.set1 (i := j2) (HR3.out.drewN _))).mono ?_; rintro e w' ⟨rfl, n4, rfl⟩) | (go_at_call 80; refine (HG.out j3 _ (by rw [HJ3.out]; exact Rdr.set1 (i := j2 + 1) ((Rdr.set1 (i := j2) (HR3.out.drewN _)).drewN _)) HL.out).mono ?_; intro e w' ho; rw [HD.out] at ho; obtain ⟨x, rfl, rfl, hj4, hr, hk⟩ := ho.ok_; have n1_ := Aside0.mk hr; have n2_ := Aside0.mk (((((HK3.out.drewN _).set _ _).drewN _).set _ _).trans hk); clear ho hr hk))
         go_end0
         rw [← H1.out, HD.out]
         exact ⟨_, rfl, rfl, hj4, n1_.out, n2_.out⟩
        | bad j4 c =>
         have HD := Aside0.mk hd; clear hd; go_wp2_with (first | (go_at_call 51; refine (HH.out (j2 + 1) _ (Rdr.set1 (i := j2) (HR3.out.drewN _))).mono ?_; rintro e w' ⟨rfl, n4, rfl⟩) | (go_at_call 80; refine (HG.out j3 _ (by rw [HJ3.out]; exact Rdr.set1 (i := j2 + 1) ((Rdr.set1 (i := j2) (HR3.out.drewN _)).drewN _)) HL.out).mono ?_; intro e w' ho; rw [HD.out] at ho; obtain ⟨rfl, hk⟩ := ho.bad_; have n2_ := Aside0.mk (((((HK3.out.drewN _).set _ _).drewN _).set _ _).trans hk); clear ho hk))
         exact ⟨rfl, by rw [← H1.out, HD.out]; exact ⟨rfl, n2_.out⟩⟩
       ·have t3 := neI (hnd s (j2 + 1)) 43 (by omega)
        have t4 := neI (hnd s (j2 + 1)) 45 (by omega)
        have hl2 : j2 < s.size := hlt
        have HJ3 := Aside0.mk (HJ3.out.trans (if_neg (fun e => e.elim k1 k2)))
        have HL := Aside0.mk (show j3 ≤ s.size by rw [HJ3.out]; omega)
        clear k1 k2; cases hd : digits s j3 with
        | ok u j4 =>
         have HD := Aside0.mk hd; clear hd; go_wp2_with (first | (go_at_call 51; refine (HH.out (j2 + 1) _ (Rdr.set1 (i := j2) (HR3.out.drewN _))).mono ?_; rintro e w' ⟨rfl, n4, rfl⟩) | (go_at_call 80; refine (HG.out j3 _ (by rw [HJ3.out]; exact (Rdr.set1 (i := j2) (HR3.out.drewN _)).drewN _) HL.out).mono ?_; intro e w' ho; rw [HD.out] at ho; obtain ⟨x, rfl, rfl, hj4, hr, hk⟩ := ho.ok_; have n1_ := Aside0.mk hr; have n2_ := Aside0.mk ((((HK3.out.drewN _).set _ _).drewN _).trans hk); clear ho hr hk))
         go_end0
         rw [← H1.out, HD.out]
         exact ⟨_, rfl, rfl, hj4, n1_.out, n2_.out⟩
        | bad j4 c =>
         have HD := Aside0.mk hd; clear hd; go_wp2_with (first | (go_at_call 51; refine (HH.out (j2 + 1) _ (Rdr.set1 (i := j2) (HR3.out.drewN _))).mono ?_; rintro e w' ⟨rfl, n4, rfl⟩) | (go_at_call 80; refine (HG.out j3 _ (by rw [HJ3.out]; exact (Rdr.set1 (i := j2) (HR3.out.drewN _)).drewN _) HL.out).mono ?_; intro e w' ho; rw [HD.out] at ho; obtain ⟨rfl, hk⟩ := ho.bad_; have n2_ := Aside0.mk ((((HK3.out.drewN _).set _ _).drewN _).trans hk); clear ho hk))
         exact ⟨rfl, by rw [← H1.out, HD.out]; exact ⟨rfl, n2_.out⟩⟩
     ·have t1 := neI (hnd s j2) 101 (by omega)
      have t2 := eqI (hnd s j2) 69 (by omega)
      clear h; go_upto_if 45 with (go_at_call 51; refine (HH.out j2 _ HR3.out).mono ?_; rintro e w' ⟨rfl, n3, rfl⟩)
      clear t1 t2; by_cases k1 : hnd s (j2 + 1) = 43
      ·have t3 := eqI (hnd s (j2 + 1)) 43 (by omega)
       have hl2 : j2 + 1 < s.size := hnd_pos k1 (by omega)
       have HJ3 := Aside0.mk (HJ3.out.trans (if_pos (.inl k1)))
       have HL := Aside0.mk (show j3 ≤ s.size by rw [HJ3.out]; omega)
       clear k1; cases hd : digits s j3 with
       | ok u j4 =>
        have HD := Aside0.mk hd; clear hd; go_wp2_with (first | (go_at_call 51; refine (HH.out (j2 + 1) _ (Rdr.set1 (i := j2) (HR3.out.drewN _))).mono ?_; rintro e w' ⟨rfl, n4, rfl⟩) | (go_at_call 80; refine (HG.out j3 _ (by rw [HJ3.out]; exact Rdr.set1 (i := j2 + 1) ((Rdr.set1 (i := j2) (HR3.out.drewN _)).drewN _)) HL.out).mono ?_; intro e w' ho; rw [HD.out] at ho; obtain ⟨x, rfl, rfl, hj4, hr, hk⟩ := ho.ok_; have n1_ := Aside0.mk hr; have n2_ := Aside0.mk (((((HK3.out.drewN _).set _ _).drewN _).set _ _).trans hk); clear ho hr hk))
        go_end0
        rw [← H1.out, HD.out]
        exact ⟨_, rfl, rfl, hj4, n1_.out, n2_.out⟩
       | bad j4 c =>
        have HD := Aside0.mk hd; clear hd; go_wp2_with (first | (go_at_call 51; refine (HH.out (j2 + 1) _ (Rdr.set1 (i := j2) (HR3.out.drewN _))).mono ?_; rintro e w' ⟨rfl, n4, rfl⟩) | (go_at_call 80; refine (HG.out j3 _ (by rw [HJ3.out]; exact Rdr.set1 (i := j2 + 1) ((Rdr.set1 (i := j2) (HR3.out.drewN _)).drewN _)) HL.out).mono ?_; intro e w' ho; rw [HD.out] at ho; obtain ⟨rfl, hk⟩ := ho.bad_; have n2_ := Aside0.mk (((((HK3.out.drewN _).set _ _).drewN _).set _ _).trans hk); clear ho hk))
        exact ⟨rfl, by rw [← H1.out, HD.out]; exact ⟨rfl, n2_.out⟩⟩
      ·by_cases k2 : hnd s (j2 + 1) = 45
       ·have t3 := neI (hnd s (j2 + 1)) 43 (by omega)
        have t4 := eqI (hnd s (j2 + 1)) 45 (by omega)
        have hl2 : j2 + 1 < s.size := hnd_pos k2 (by omega)
        have HJ3 := Aside0.mk (HJ3.out.trans (if_pos (.inr k2)))
        have HL := Aside0.mk (show j3 ≤ s.size by rw [HJ3.out]; omega)
        clear k1 k2; cases hd : digits s j3 with
        | ok u j4 =>
         have HD := Aside0.mk hd; clear hd; go_wp2_with (first | (go_at_call 51; refine (HH.out (j2 + 1) _ (Rdr.set1 (i := j2) (HR3.out.drewN _))).mono ?_; rintro e w' ⟨rfl, n4, rfl⟩) | (go_at_call 80; refine (HG.out j3 _ (by rw [HJ3.out]; exact Rdr.set1 (i := j2 + 1) ((Rdr.set1 (i := j2) (HR3.out.drewN _)).drewN _)) HL.out).mono ?_; intro e w' ho; rw [HD.out] at ho; obtain ⟨x, rfl, rfl, hj4, hr, hk⟩ := ho.ok_; have n1_ := Aside0.mk hr; have n2_ := Aside0.mk (((((HK3.out.drewN _).set _ _).drewN _).set _ _).trans hk); clear ho hr hk))
         go_end0
         rw [← H1.out, HD.out]
         exact ⟨_, rfl, rfl, hj4, n1_.out, n2_.out⟩
        | bad j4 c =>
         have HD := Aside0.mk hd; clear hd; go_wp2_with (first | (go_at_call 51; refine (HH.out (j2 + 1) _ (Rdr.set1 (i := j2) (HR3.out.drewN _))).mono ?_; rintro e w' ⟨rfl, n4, rfl⟩) | (go_at_call 80; refine (HG.out j3 _ (by rw [HJ3.out]; exact Rdr.set1 (i := j2 + 1) ((Rdr.set1 (i := j2) (HR3.out.drewN _)).drewN _)) HL.out).mono ?_; intro e w' ho; rw [HD.out] at ho; obtain ⟨rfl, hk⟩ := ho.bad_; have n2_ := Aside0.mk (((((HK3.out.drewN _).set _ _).drewN _).set _ _).trans hk); clear ho hk))
         exact ⟨rfl, by rw [← H1.out, HD.out]; exact ⟨rfl, n2_.out⟩⟩
       ·have t3 := neI (hnd s (j2 + 1)) 43 (by omega)
        have t4 := neI (hnd s (j2 + 1)) 45 (by omega)
        have hl2 : j2 < s.size := hlt
        have HJ3 := Aside0.mk (HJ3.out.trans (if_neg (fun e => e.elim k1 k2)))
        have HL := Aside0.mk (show j3 ≤ s.size by rw [HJ3.out]; omega)
        clear k1 k2; cases hd : digits s j3 with
        | ok u j4 =>
         have HD := Aside0.mk hd; clear hd; go_wp2_with (first | (go_at_call 51; refine (HH.out (j2 + 1) _ (Rdr.set1 (i := j2) (HR3.out.drewN _))).mono ?_; rintro e w' ⟨rfl, n4, rfl⟩) | (go_at_call 80; refine (HG.out j3 _ (by rw [HJ3.out]; exact (Rdr.set1 (i := j2) (HR3.out.drewN _)).drewN _) HL.out).mono ?_; intro e w' ho; rw [HD.out] at ho; obtain ⟨x, rfl, rfl, hj4, hr, hk⟩ := ho.ok_; have n1_ := Aside0.mk hr; have n2_ := Aside0.mk ((((HK3.out.drewN _).set _ _).drewN _).trans hk); clear ho hr hk))
         go_end0
         rw [← H1.out, HD.out]
         exact ⟨_, rfl, rfl, hj4, n1_.out, n2_.out⟩
        | bad j4 c =>
         have HD := Aside0.mk hd; clear hd; go_wp2_with (first | (go_at_call 51; refine (HH.out (j2 + 1) _ (Rdr.set1 (i := j2) (HR3.out.drewN _))).mono ?_; rintro e w' ⟨rfl, n4, rfl⟩) | (go_at_call 80; refine (HG.out j3 _ (by rw [HJ3.out]; exact (Rdr.set1 (i := j2) (HR3.out.drewN _)).drewN _) HL.out).mono ?_; intro e w' ho; rw [HD.out] at ho; obtain ⟨rfl, hk⟩ := ho.bad_; have n2_ := Aside0.mk ((((HK3.out.drewN _).set _ _).drewN _).trans hk); clear ho hk))
         exact ⟨rfl, by rw [← H1.out, HD.out]; exact ⟨rfl, n2_.out⟩⟩
    ·have t1 := neI (hnd s j2) 101 (by omega)
     have t2 := neI (hnd s j2) 69 (by omega)
     have H1 := Aside0.mk (show Res.ok () j2 = R by rw [← HE.out]; unfold nE; rw [if_neg h])
     clear h; go_wp2_with (go_at_call 51; refine (HH.out j2 _ HR3.out).mono ?_; rintro e w' ⟨rfl, n3, rfl⟩)
     go_end0
     rw [← H1.out]
     exact ⟨_, rfl, rfl, hj, HR3.out.drewN _, HK3.out.drewN _⟩
/-- The value of a hexadecimal digit. -/
def hexv (c : Nat) : Option Nat := if 48 ≤ c ∧ c ≤ 57 then some (c - 48) else if 97 ≤ c ∧ c ≤ 102 then some (c - 87) else if 65 ≤ c ∧ c ≤ 70 then some (c - 55) else none
theorem hexv_lt {c d : Nat} (h : hexv c = some d) : d < 16 := by
 unfold hexv at h
 split at h
 ·injection h; omega
 ·split at h
  ·injection h; omega
  ·split at h
   ·injection h; omega
   ·cases h
theorem hexv_pos {c d : Nat} (h : hexv c = some d) : c ≠ 0 := by rintro rfl; simp [hexv] at h
/-- Small letters for the letters among the digits. -/
def lowr (c : Nat) : Nat := if 65 ≤ c ∧ c ≤ 70 then c + 32 else c
theorem hexv_index (c : Nat) (hc : c < 256) : Lib.indexByte [48, 49, 50, 51, 52, 53, 54, 55, 56, 57, 97, 98, 99, 100, 101, 102] (lowr c).toUInt8 = match hexv c with | some d => (d : Int) | none => -1 := by
 have : ∀ c, c < 256 → Lib.indexByte [48, 49, 50, 51, 52, 53, 54, 55, 56, 57, 97, 98, 99, 100, 101, 102] (lowr c).toUInt8 = match hexv c with | some d => (d : Int) | none => -1 := by decide +kernel
 exact this c hc
/-- So many digits, behind a number. -/
def hexN (s : ByteArray) : Nat → Nat → Nat → Res Nat
 | 0, i, n => .ok n i
 | k + 1, i, n => match hexv (hnd s i) with
  | some d => hexN s k (i + 1) (n * 16 + d)
  | none => .bad i 30
def unit (s : ByteArray) (i : Nat) : Res Nat := if hnd s i = 117 then hexN s 4 (i + 1) 0 else .bad i 30
def VR (n : Nat) (x : Value) (_ : World) : Prop := x = .int .i32 n
theorem or_hex (n d : Nat) (hn : n < 4096) (hd : d < 16) : bits .or .i32 ((n : Int) * 16) (d : Int) = ((n * 16 + d : Nat) : Int) := by
 exact (bits_join .i32 31 (by decide) wraps_i32 4 ((n : Int) * 16) (d : Int) (by omega) (by omega) (by omega) (by omega) (by omega) (by omega)).trans (by omega)
theorem json_lower.calls (c : Nat) (hc : c < 256) (w : World) : Calls Tryz.prog 113 #[.int .u8 c] w fun e w' => e = .returned (.int .u8 (lowr c)) ∧ w' = w := by
 by_cases h : 65 ≤ c
 ·by_cases h2 : c ≤ 70
  ·have t1 : decide ((65 : Int) ≤ (c : Int)) = true := decide_eq_true (by omega)
   have t2 : decide ((c : Int) ≤ 70) = true := decide_eq_true (by omega)
   have HE := Aside0.mk (show (lowr c : Int) = c + 97 - 65 by unfold lowr; rw [if_pos ⟨h, h2⟩]; omega)
   go_enter Tryz.func113, Tryz.ntmps113
   go_wp2
   go_ret
   exact ⟨by rw [HE.out]; rfl, rfl⟩
  ·have t1 : decide ((65 : Int) ≤ (c : Int)) = true := decide_eq_true (by omega)
   have t2 : decide ((c : Int) ≤ 70) = false := decide_eq_false (by omega)
   have HE := Aside0.mk (show (lowr c : Int) = c by unfold lowr; rw [if_neg (fun e => h2 e.2)])
   go_enter Tryz.func113, Tryz.ntmps113
   go_wp2
   go_ret
   exact ⟨by rw [HE.out]; rfl, rfl⟩
 ·have t1 : decide ((65 : Int) ≤ (c : Int)) = false := decide_eq_false (by omega)
  have HE := Aside0.mk (show (lowr c : Int) = c by unfold lowr; rw [if_neg (fun e => h e.1)])
  go_enter Tryz.func113, Tryz.ntmps113
  go_wp2
  go_ret
  exact ⟨by rw [HE.out]; rfl, rfl⟩
theorem hex_ib (c : Nat) (hc : c < 256) (w : World) : Calls Tryz.prog 50 #[.string ⟨#[48, 49, 50, 51, 52, 53, 54, 55, 56, 57, 97, 98, 99, 100, 101, 102]⟩, .int .u8 (lowr c)] w fun e w' => e = .returned (.int .i64 (match hexv c with | some d => (d : Int) | none => -1)) ∧ w' = w :=
 (ib_c ⟨#[48, 49, 50, 51, 52, 53, 54, 55, 56, 57, 97, 98, 99, 100, 101, 102]⟩ (lowr c) w).mono (by rintro e w' ⟨rfl, rfl⟩; exact ⟨by rw [← hexv_index c hc], rfl⟩)
theorem json_reader_unit.calls (B : Nat) (s : ByteArray) (i : Nat) (w : World) (hR : Rdr B s i w) (hs : s.size ≤ 140737488351232) (hi : i ≤ s.size) :
  Calls Tryz.prog 99 #[.pointer (some ⟨B, 0, none⟩)] w (Out B s VR w (unit s i)) := by
 have HR := Aside0.mk hR; obtain ⟨R, hRes⟩ : ∃ R, R = unit s i := ⟨_, rfl⟩
 rw [← hRes]
 have hwd := json_reader_word.calls B s i [117] w hR hs hi (by decide) (by decide)
 rw [show wd s ([117].map UInt8.toNat) i = if hnd s i = 117 then .ok () (i + 1) else .bad i 30 from rfl] at hwd
 clear hR; by_cases h : hnd s i = 117
 ·rw [if_pos h] at hwd
  have H0 := Aside0.mk (show hexN s 4 (i + 1) 0 = R by rw [hRes]; unfold unit; rw [if_pos h])
  have HW := Aside0.mk hwd; clear hwd hRes h; go_enter Tryz.func99, Tryz.ntmps99
  go_wp2_with (go_at_call 52; refine (HW.out).mono ?_; intro e w1 ho; obtain ⟨x, rfl, rfl, hi1, hr, hk⟩ := ho.ok_; have HR1 := Aside0.mk hr; have HK1 := Aside0.mk hk; clear ho hr hk)
  have hand := fun (j : Nat) (w : World) (h : Rdr B s j w) => json_reader_hand.calls B s j w h hs
  have HH := Aside0.mk hand; clear hand; go_loopw [3, 7] (fun t3 t7 w' => ∃ n q j : Nat, t3 = .int .i32 n ∧ t7 = .int .i64 q ∧ q ≤ 4 ∧ Aside0 (n < 16 ^ q) ∧ j ≤ s.size ∧ Aside0 (hexN s (4 - q) j n = R) ∧ Aside0 (Rdr B s j w') ∧ Aside0 (Kp B w w')) (fun _ t7 _ => 4 - (intOf t7).toNat)
  case atStart => exact ⟨0, 0, i + 1, rfl, rfl, by omega, ⟨by decide⟩, hi1, H0, HR1, HK1⟩
  case round =>
   clear H0 HR1 HK1 HW; obtain ⟨n, q, j, rfl, rfl, hq, HP, hj, HX, HR2, HK2⟩ := hrel
   by_cases hlt : q < 4
   ·have hn : n < 4096 := by
     have h1 := HP.out
     have h2 : 16 ^ q ≤ 16 ^ 3 := Nat.pow_le_pow_right (by omega) (by omega)
     omega
    have tq : decide ((q : Int) < 4) = true := decide_eq_true (by omega)
    obtain ⟨p, hp⟩ : ∃ p, p = 4 - (q + 1) := ⟨_, rfl⟩
    have hX := HX.out
    rw [show 4 - q = p + 1 by omega, hexN] at hX
    have HP' := Aside0.mk hp; have hidx := hex_ib (hnd s j) (hnd_lt s j)
    have c0 := HR2.out.c0
    have c1 := HR2.out.c1
    have fr := HR2.out.fr
    clear hp; cases hv : hexv (hnd s j) with
    | none =>
     rw [hv] at hX hidx
     have H1 := Aside0.mk hX; have HI := Aside0.mk hidx; clear hX hidx hv; go_upto_region 6 with (first | (go_at_call 51; refine (HH.out j _ HR2.out).mono ?_; rintro e w' ⟨rfl, n1, rfl⟩) | (go_at_call 113; refine (json_lower.calls _ (hnd_lt s j) _).mono ?_; rintro e w' ⟨rfl, rfl⟩) | (go_at_call 50; refine (HI.out _).mono ?_; rintro e w' ⟨rfl, rfl⟩))
     by_cases hl2 : j < s.size
     ·have t2 : decide ((s.size : Int) ≤ (j : Int)) = false := decide_eq_false (by omega)
      go_quiet (fail)
      go_wp2_with (go_at_call 31; refine (json_reader_stop.calls B s j _ (HR2.out.drewN _)).mono ?_; rintro e w' ⟨rfl, rfl⟩)
      exact ⟨rfl, by rw [← H1.out]; exact ⟨rfl, HK2.out.drewN _⟩⟩
     ·have t2 : decide ((s.size : Int) ≤ (j : Int)) = true := decide_eq_true (by omega)
      go_quiet (fail)
      go_wp2_with (go_at_call 31; refine (json_reader_stop.calls B s j _ (HR2.out.drewN _)).mono ?_; rintro e w' ⟨rfl, rfl⟩)
      exact ⟨rfl, by rw [← H1.out]; exact ⟨rfl, HK2.out.drewN _⟩⟩
    | some d =>
     have hd := hexv_lt hv
     have hl2 := hnd_pos (s := s) (i := j) rfl (hexv_pos hv)
     have t2 : decide ((s.size : Int) ≤ (j : Int)) = false := decide_eq_false (by omega)
     have t3 : decide ((d : Int) < 0) = false := decide_eq_false (by omega)
     rw [hv] at hX hidx
     have H1 := Aside0.mk hX; have HI := Aside0.mk hidx; clear hX hidx hv; go_upto_region 6 with (first | (go_at_call 51; refine (HH.out j _ HR2.out).mono ?_; rintro e w' ⟨rfl, n1, rfl⟩) | (go_at_call 113; refine (json_lower.calls _ (hnd_lt s j) _).mono ?_; rintro e w' ⟨rfl, rfl⟩) | (go_at_call 50; refine (HI.out _).mono ?_; rintro e w' ⟨rfl, rfl⟩))
     go_quiet (fail)
     go_wp2
     go_roundw
     case rel => exact ⟨n * 16 + d, q + 1, j + 1, by rw [or_hex n d hn hd], by go_num, hlt, ⟨by have := HP.out; rw [Nat.pow_succ]; omega⟩, hl2, ⟨by rw [← H1.out, HP'.out]⟩, ⟨Rdr.set1 (i := j) (HR2.out.drewN _)⟩, ⟨(HK2.out.drewN _).set _ _⟩⟩
     case measure => simp [intOf]; omega
   ·have tq : decide ((q : Int) < 4) = false := decide_eq_false (by omega)
    obtain rfl : q = 4 := by omega
    go_wp2
    go_ret
    rw [← HX.out]
    exact ⟨_, rfl, rfl, hj, HR2.out, HK2.out⟩
 ·rw [if_neg h] at hwd
  have H0 := Aside0.mk (show Res.bad i 30 = R by rw [hRes]; unfold unit; rw [if_neg h])
  have HW := Aside0.mk hwd; clear hwd hRes h; go_enter Tryz.func99, Tryz.ntmps99
  go_wp2_with (go_at_call 52; refine (HW.out).mono ?_; intro e w1 ho; obtain ⟨rfl, hk⟩ := ho.bad_; have HK1 := Aside0.mk hk; clear ho hk)
  exact ⟨rfl, by rw [← H0.out]; exact ⟨rfl, HK1.out⟩⟩
theorem json_reader_unit2.calls (B : Nat) (s : ByteArray) (i : Nat) (w : World) (hR : Rdr B s i w) (hs : s.size ≤ 140737488351232) (hi : i + 1 ≤ s.size) :
  Calls Tryz.prog 101 #[.pointer (some ⟨B, 0, none⟩)] w (Out B s VR w (unit s (i + 1))) := by
 have c1 := hR.c1
 have fr := hR.fr
 have H1 := Aside0.mk (hR.set1)
 have HU := Aside0.mk (json_reader_unit.calls B s (i + 1) _ H1.out hs hi)
 have HR := Aside0.mk hR; cases hu : unit s (i + 1) with
 | ok n j =>
  have HE := Aside0.mk hu; clear hR hu; go_enter Tryz.func101, Tryz.ntmps101
  go_wp2_with (go_at_call 99; refine (HU.out).mono ?_; intro e w1 ho; rw [HE.out] at ho; obtain ⟨x, rfl, rfl, hi1, hr, hk⟩ := ho.ok_; have HR1 := Aside0.mk hr; have HK1 := Aside0.mk hk; clear ho hr hk)
  go_ret
  exact ⟨_, rfl, rfl, hi1, HR1.out, ((Kp.refl _ _).set _ _).trans HK1.out⟩
 | bad j c =>
  have HE := Aside0.mk hu; clear hR hu; go_enter Tryz.func101, Tryz.ntmps101
  go_wp2_with (go_at_call 99; refine (HU.out).mono ?_; intro e w1 ho; rw [HE.out] at ho; obtain ⟨rfl, hk⟩ := ho.bad_; have HK1 := Aside0.mk hk; clear ho hk)
  exact ⟨rfl, rfl, ((Kp.refl _ _).set _ _).trans HK1.out⟩
def joined (h l : Nat) : Nat := if h < 55296 ∨ 56320 ≤ h ∨ l < 56320 ∨ 57344 ≤ l then 65533 else 65536 + (h - 55296) * 1024 + (l - 56320)
theorem joined_w (h l : Nat) (h1 : 55296 ≤ h) (h2 : h < 56320) (h3 : 56320 ≤ l) (h4 : l < 57344) : (joined h l : Int) = 65536 + ((h : Int) - 55296) * 1024 + l - 56320 := by
 unfold joined
 rw [if_neg (by omega)]
 omega
theorem json_joined.calls (h l : Nat) (hh : h < 65536) (hl : l < 65536) (w : World) : Calls Tryz.prog 102 #[.int .i32 h, .int .i32 l] w fun e w' => e = .returned (.int .i32 (joined h l)) ∧ w' = w := by
 by_cases h1 : h < 55296
 ·have t1 : decide ((h : Int) < 55296) = true := decide_eq_true (by omega)
  have HE := Aside0.mk (show (joined h l : Int) = 65533 by unfold joined; rw [if_pos (by omega)]; rfl)
  go_enter Tryz.func102, Tryz.ntmps102
  go_wp2
  go_ret
  exact ⟨by rw [HE.out]; rfl, rfl⟩
 ·have t1 : decide ((h : Int) < 55296) = false := decide_eq_false (by omega)
  by_cases h2 : 56320 ≤ h
  ·have t2 : decide ((56320 : Int) ≤ (h : Int)) = true := decide_eq_true (by omega)
   have HE := Aside0.mk (show (joined h l : Int) = 65533 by unfold joined; rw [if_pos (by omega)]; rfl)
   go_enter Tryz.func102, Tryz.ntmps102
   go_wp2
   go_ret
   exact ⟨by rw [HE.out]; rfl, rfl⟩
  ·have t2 : decide ((56320 : Int) ≤ (h : Int)) = false := decide_eq_false (by omega)
   by_cases h3 : l < 56320
   ·have t3 : decide ((l : Int) < 56320) = true := decide_eq_true (by omega)
    have HE := Aside0.mk (show (joined h l : Int) = 65533 by unfold joined; rw [if_pos (by omega)]; rfl)
    go_enter Tryz.func102, Tryz.ntmps102
    go_wp2
    go_ret
    exact ⟨by rw [HE.out]; rfl, rfl⟩
   ·have t3 : decide ((l : Int) < 56320) = false := decide_eq_false (by omega)
    by_cases h4 : 57344 ≤ l
    ·have t4 : decide ((57344 : Int) ≤ (l : Int)) = true := decide_eq_true (by omega)
     have HE := Aside0.mk (show (joined h l : Int) = 65533 by unfold joined; rw [if_pos (by omega)]; rfl)
     go_enter Tryz.func102, Tryz.ntmps102
     go_wp2
     go_ret
     exact ⟨by rw [HE.out]; rfl, rfl⟩
    ·have t4 : decide ((57344 : Int) ≤ (l : Int)) = false := decide_eq_false (by omega)
     have HE := Aside0.mk (joined_w h l (by omega) (by omega) (by omega) (by omega))
     go_enter Tryz.func102, Tryz.ntmps102
     go_wp2
     go_ret
     exact ⟨by rw [HE.out]; rfl, rfl⟩
theorem strconv_lower.calls (c : Int) (w : World) : Calls Tryz.prog 115 #[.int .u8 c] w fun e w' => e = .returned (.int .u8 (bits .or .u8 c 32)) ∧ w' = w := by
 go_enter Tryz.func115, Tryz.ntmps115
 go_wp2
 go_ret
 exact ⟨rfl, rfl⟩
def hexL : List Nat → Nat → Option Nat
 | [], n => some n
 | c :: r, n => match hexv c with
  | some d => hexL r (n * 16 + d)
  | none => none
theorem low_or (c : Nat) (h : c < 256) : bits .or .u8 (c : Int) 32 = ((c ||| 32 : Nat) : Int) := by
 have : ∀ c : Nat, c < 256 → bits .or .u8 (c : Int) 32 = ((c ||| 32 : Nat) : Int) := by decide +kernel
 exact this c h
theorem low_hex (c : Nat) (h : c < 256) (hd : ¬ (48 ≤ c ∧ c ≤ 57)) : (∃ d, d < 16 ∧ hexv c = some d ∧ 97 ≤ (c ||| 32) ∧ (c ||| 32) ≤ 102 ∧ d + 87 = (c ||| 32)) ∨ (hexv c = none ∧ (c ||| 32) < 256 ∧ ((c ||| 32) < 97 ∨ 122 < (c ||| 32) ∨ (103 ≤ (c ||| 32) ∧ (c ||| 32) ≤ 122))) := by
 have : ∀ c : Nat, c < 256 → ¬ (48 ≤ c ∧ c ≤ 57) → (∃ d, d < 16 ∧ hexv c = some d ∧ 97 ≤ (c ||| 32) ∧ (c ||| 32) ≤ 102 ∧ d + 87 = (c ||| 32)) ∨ (hexv c = none ∧ (c ||| 32) < 256 ∧ ((c ||| 32) < 97 ∨ 122 < (c ||| 32) ∨ (103 ≤ (c ||| 32) ∧ (c ||| 32) ≤ 122))) := by decide +kernel
 exact this c h hd
theorem hexL_cons (c : Nat) (r : List Nat) (n : Nat) : hexL (c :: r) n = match hexv c with | some d => hexL r (n * 16 + d) | none => none := rfl
def PU (r : Option Nat) (e : Ending) : Prop := e = .returned (match r with | some n => .tuple #[.int .u64 n, .nilIface] | none => .tuple #[.int .u64 0, .iface 112 (.int .i64 2)])
set_option maxRecDepth 100000 in
set_option maxHeartbeats 4000000 in
theorem json_iPU.calls (t : ByteArray) (ht : t.size = 4) (w : World) : Calls Tryz.prog 105 #[.string t, .int .i64 16, .int .i64 32] w fun e w' => PU (hexL (t.data.toList.map UInt8.toNat) 0) e ∧ Below w.heap.size w w' := by
 have hne : t.toList.isEmpty = false := by
  rw [ByteArray.toList_eq]
  cases h : t.data.toList with
  | nil => rw [ByteArray.size, ← Array.length_toList, h] at ht; cases ht
  | cons => rfl
 have HT := Aside0.mk ht; have hcv : ∀ w' : World, (convert 9 48 (.string t)).run Tryz.prog w' = .ok (.slice (some ⟨w'.heap.size, 0, none⟩) 4 (grownCap w' t.size 0 5)) (Lib.bytesWorld w' 5 t) := fun w' => by
  have h := Lib.run_convert_string_bytes (P := Tryz.prog) w' 9 48 5 t Tryz.underlying9 Tryz.underlying48 Tryz.underlying5
  rw [ht] at h
  rw [ht]
  exact h
 have HCV := Aside0.mk (hcv w)
 have HBW := Aside0.mk (show Below w.heap.size w (Lib.bytesWorld w 5 t) from ⟨rfl, rfl, rfl, by rw [Lib.bytesWorld_size]; omega, fun k hk => Lib.bytesWorld_at_old w _ t k hk⟩)
 obtain ⟨W1, hW1⟩ : ∃ W1, W1 = Lib.bytesWorld w 5 t := ⟨_, rfl⟩
 obtain ⟨cp, hcp⟩ : ∃ cp, cp = grownCap w t.size 0 5 := ⟨_, rfl⟩
 obtain ⟨l, hl⟩ : ∃ l, l = t.data.toList.map UInt8.toNat := ⟨_, rfl⟩
 have hll : l.length = 4 := by rw [hl, List.length_map, Array.length_toList]; exact ht
 have hlb : ∀ j, j < 4 → l.getD j 0 < 256 := fun j hj => by
  rw [hl]
  simp [List.getD_eq_getElem?_getD]
  rcases h : t.data[j]? with _ | x
  ·simp
  ·simp; exact UInt8.toNat_lt _
 have HC := Aside0.mk (show ∀ j, j < 4 → W1.cell? ⟨w.heap.size, j, none⟩ = some (.int .u8 (l.getD j 0 : Nat)) from fun j hj => by
  rw [hW1, Lib.bytesWorld_cell w _ t j (by omega), hl]
  simp [List.getD_eq_getElem?_getD, List.getElem?_map]
  rcases h : t.data[j]? with _ | x <;> simp [h])
 have hcv2 := HCV.out
 have hBW := HBW.out
 rw [← hW1, ← hcp] at hcv2
 rw [← hW1] at hBW
 rw [← hl]
 have HB := Aside0.mk hBW; have HLL := Aside0.mk hll; have HLB := Aside0.mk hlb; clear hcv HCV HBW hW1 hcp hl hBW ht hll hlb; go_enter Tryz.func105, Tryz.ntmps105
 go_wp2
 go_loopw [12, 13, 101] (fun t12 t13 t101 w' => ∃ q n : Nat, t12 = .bool false ∧ t13 = .int .u64 n ∧ t101 = .int .i64 q ∧ q ≤ 4 ∧ Aside0 (n < 16 ^ q) ∧ Aside0 (hexL (l.drop q) n = hexL l 0) ∧ w' = W1) (fun _ _ t101 _ => 4 - (intOf t101).toNat)
 case atStart => exact ⟨0, 0, rfl, rfl, rfl, by omega, ⟨by decide⟩, ⟨rfl⟩, rfl⟩
 case round =>
  clear hcv2; obtain ⟨q, n, rfl, rfl, rfl, hq, HP, HX, rfl⟩ := hrel
  by_cases hlt : q < 4
  ·have hn : n < 4096 := by
    have h1 := HP.out
    have h2 : 16 ^ q ≤ 16 ^ 3 := Nat.pow_le_pow_right (by omega) (by omega)
    omega
   have tq : decide ((q : Int) < 4) = true := decide_eq_true (by omega)
   obtain ⟨c, hc⟩ : ∃ c, c = l.getD q 0 := ⟨_, rfl⟩
   have cell := HC.out q hlt
   rw [← hc] at cell
   have hX := HX.out
   have hqL : q < l.length := by rw [HLL.out]; exact hlt
   rw [List.drop_eq_getElem_cons hqL, hexL_cons, show l[q] = c by rw [hc, List.getD_eq_getElem?_getD, List.getElem?_eq_getElem hqL]; rfl] at hX
   have hcb : c < 256 := by rw [hc]; exact HLB.out q hlt
   clear hc hqL; have HC' := HC
   clear HC; by_cases hdig : 48 ≤ c ∧ c ≤ 57
   ·rw [show hexv c = some (c - 48) by unfold hexv; rw [if_pos hdig]] at hX
    have H1 := Aside0.mk hX; have t0 : ((c : Int) == 95) = false := by simp; omega
    have t1 : decide ((48 : Int) ≤ (c : Int)) = true := decide_eq_true (by omega)
    have t2 : decide ((c : Int) ≤ 57) = true := decide_eq_true (by omega)
    have t3 : decide ((16 : Int) ≤ (c : Int) - 48) = false := decide_eq_false (by omega)
    have t4 : decide ((1152921504606846976 : Int) ≤ (n : Int)) = false := decide_eq_false (by omega)
    have b1 := hdig.1
    have b2 := hdig.2
    clear hX hdig; have t5 : decide ((n : Int) * 16 + ((c : Int) - 48) < (n : Int) * 16) = false := decide_eq_false (by omega)
    have t6 : decide ((4294967295 : Int) < (n : Int) * 16 + ((c : Int) - 48)) = false := decide_eq_false (by omega)
    go_wp2
    go_roundw
    case rel => exact ⟨q + 1, n * 16 + (c - 48), rfl, by congr 1; omega, by go_num, hlt, ⟨by have := HP.out; rw [Nat.pow_succ]; omega⟩, H1, by first | trivial | rfl⟩
    case measure => simp [intOf]; omega
   ·have hlo := low_hex c hcb hdig
    obtain ⟨m, hm⟩ : ∃ m, m = (c ||| 32) := ⟨_, rfl⟩
    have hL : ∀ w, Calls Tryz.prog 115 #[.int .u8 c] w fun e w' => e = .returned (.int .u8 m) ∧ w' = w := fun w => by
     rw [hm, ← low_or c hcb]
     exact strconv_lower.calls c w
    rw [← hm] at hlo
    have HL := Aside0.mk hL; clear hm hL; by_cases ha : c < 48
    ·have t0 : ((c : Int) == 95) = false := by simp; omega
     have t1 : decide ((48 : Int) ≤ (c : Int)) = false := decide_eq_false (by omega)
     rcases hlo with ⟨d, hd, hx, m1, m2, m3⟩ | ⟨hx, mb, m1 | m1 | ⟨m1, m2⟩⟩
     ·rw [hx] at hX
      have H1 := Aside0.mk hX; have s1 : decide ((97 : Int) ≤ (m : Int)) = true := decide_eq_true (by omega)
      have s2 : decide ((m : Int) ≤ 122) = true := decide_eq_true (by omega)
      have s3 : decide ((16 : Int) ≤ (m : Int) - 97 + 10) = false := decide_eq_false (by omega)
      have t4 : decide ((1152921504606846976 : Int) ≤ (n : Int)) = false := decide_eq_false (by omega)
      have t5 : decide ((n : Int) * 16 + ((m : Int) - 97 + 10) < (n : Int) * 16) = false := decide_eq_false (by omega)
      have t6 : decide ((4294967295 : Int) < (n : Int) * 16 + ((m : Int) - 97 + 10)) = false := decide_eq_false (by omega)
      clear hX hx hdig; go_wp2_with (go_at_call 115; refine (HL.out _).mono ?_; rintro e w' ⟨rfl, rfl⟩)
      go_roundw
      case rel => exact ⟨q + 1, n * 16 + d, rfl, by congr 1; omega, by go_num, hlt, ⟨by have := HP.out; rw [Nat.pow_succ]; omega⟩, H1, by first | trivial | rfl⟩
      case measure => simp [intOf]; omega
     ·rw [hx] at hX
      have H1 := Aside0.mk hX; clear hX hx hdig; have s1 : decide ((97 : Int) ≤ (m : Int)) = false := decide_eq_false (by omega)
      go_wp2_with (go_at_call 115; refine (HL.out _).mono ?_; rintro e w' ⟨rfl, rfl⟩)
      go_ret2
      rw [← H1.out]
      exact ⟨rfl, HB.out⟩
     ·rw [hx] at hX
      have H1 := Aside0.mk hX; clear hX hx hdig; have s1 : decide ((97 : Int) ≤ (m : Int)) = true := decide_eq_true (by omega)
      have s2 : decide ((m : Int) ≤ 122) = false := decide_eq_false (by omega)
      go_wp2_with (go_at_call 115; refine (HL.out _).mono ?_; rintro e w' ⟨rfl, rfl⟩)
      go_ret2
      rw [← H1.out]
      exact ⟨rfl, HB.out⟩
     ·rw [hx] at hX
      have H1 := Aside0.mk hX; clear hX hx hdig; have s1 : decide ((97 : Int) ≤ (m : Int)) = true := decide_eq_true (by omega)
      have s2 : decide ((m : Int) ≤ 122) = true := decide_eq_true (by omega)
      have s3 : decide ((16 : Int) ≤ (m : Int) - 97 + 10) = true := decide_eq_true (by omega)
      go_wp2_with (go_at_call 115; refine (HL.out _).mono ?_; rintro e w' ⟨rfl, rfl⟩)
      go_ret2
      rw [← H1.out]
      exact ⟨rfl, HB.out⟩
    ·by_cases hb : c = 95
     ·subst hb; rw [show hexv 95 = none from rfl] at hX
      have H1 := Aside0.mk hX; rw [show (((95 : Nat) : Nat) : Int) = 95 from rfl] at cell
      have HL5 := Aside0.mk (show ∀ w, Calls Tryz.prog 115 #[.int .u8 95] w fun e w' => e = .returned (.int .u8 127) ∧ w' = w from fun w => strconv_lower.calls 95 w)
      clear hX hdig hlo HL ha; go_wp2_with (go_at_call 115; refine (HL5.out _).mono ?_; rintro e w' ⟨rfl, rfl⟩)
      go_ret2
      rw [← H1.out]
      exact ⟨rfl, HB.out⟩
     ·have t0 : ((c : Int) == 95) = false := by simp; omega
      have t1 : decide ((48 : Int) ≤ (c : Int)) = true := decide_eq_true (by omega)
      have t2 : decide ((c : Int) ≤ 57) = false := decide_eq_false (by omega)
      rcases hlo with ⟨d, hd, hx, m1, m2, m3⟩ | ⟨hx, mb, m1 | m1 | ⟨m1, m2⟩⟩
      ·rw [hx] at hX
       have H1 := Aside0.mk hX; have s1 : decide ((97 : Int) ≤ (m : Int)) = true := decide_eq_true (by omega)
       have s2 : decide ((m : Int) ≤ 122) = true := decide_eq_true (by omega)
       have s3 : decide ((16 : Int) ≤ (m : Int) - 97 + 10) = false := decide_eq_false (by omega)
       have t4 : decide ((1152921504606846976 : Int) ≤ (n : Int)) = false := decide_eq_false (by omega)
       have t5 : decide ((n : Int) * 16 + ((m : Int) - 97 + 10) < (n : Int) * 16) = false := decide_eq_false (by omega)
       have t6 : decide ((4294967295 : Int) < (n : Int) * 16 + ((m : Int) - 97 + 10)) = false := decide_eq_false (by omega)
       clear hX hx hdig; go_wp2_with (go_at_call 115; refine (HL.out _).mono ?_; rintro e w' ⟨rfl, rfl⟩)
       go_roundw
       case rel => exact ⟨q + 1, n * 16 + d, rfl, by congr 1; omega, by go_num, hlt, ⟨by have := HP.out; rw [Nat.pow_succ]; omega⟩, H1, by first | trivial | rfl⟩
       case measure => simp [intOf]; omega
      ·rw [hx] at hX
       have H1 := Aside0.mk hX; clear hX hx hdig; have s1 : decide ((97 : Int) ≤ (m : Int)) = false := decide_eq_false (by omega)
       go_wp2_with (go_at_call 115; refine (HL.out _).mono ?_; rintro e w' ⟨rfl, rfl⟩)
       go_ret2
       rw [← H1.out]
       exact ⟨rfl, HB.out⟩
      ·rw [hx] at hX
       have H1 := Aside0.mk hX; clear hX hx hdig; have s1 : decide ((97 : Int) ≤ (m : Int)) = true := decide_eq_true (by omega)
       have s2 : decide ((m : Int) ≤ 122) = false := decide_eq_false (by omega)
       go_wp2_with (go_at_call 115; refine (HL.out _).mono ?_; rintro e w' ⟨rfl, rfl⟩)
       go_ret2
       rw [← H1.out]
       exact ⟨rfl, HB.out⟩
      ·rw [hx] at hX
       have H1 := Aside0.mk hX; clear hX hx hdig; have s1 : decide ((97 : Int) ≤ (m : Int)) = true := decide_eq_true (by omega)
       have s2 : decide ((m : Int) ≤ 122) = true := decide_eq_true (by omega)
       have s3 : decide ((16 : Int) ≤ (m : Int) - 97 + 10) = true := decide_eq_true (by omega)
       go_wp2_with (go_at_call 115; refine (HL.out _).mono ?_; rintro e w' ⟨rfl, rfl⟩)
       go_ret2
       rw [← H1.out]
       exact ⟨rfl, HB.out⟩
  ·have tq : decide ((q : Int) < 4) = false := decide_eq_false (by omega)
   obtain rfl : q = 4 := by omega
   have HN := Aside0.mk (show hexL l 0 = some n by rw [← HX.out, List.drop_eq_nil_of_le (by rw [HLL.out]; omega)]; rfl)
   go_wp2
   go_ret2
   rw [HN.out]
   exact ⟨rfl, HB.out⟩
def PUo (r : Option Nat) (e : Ending) : Prop := match r with | some n => e = .returned (.tuple #[.int .u64 n, .nilIface]) | none => ∃ p, e = .returned (.tuple #[.int .u64 0, .iface 115 p])
theorem pu_outer (t : ByteArray) (ht : t.size = 4) (w : World) (hG : GlobOk w) : Calls Tryz.prog 114 #[.string t, .int .i64 16, .int .i64 32] w fun e w' => PUo (hexL (t.data.toList.map UInt8.toNat) 0) e ∧ Below w.heap.size w w' := by
 have HI := Aside0.mk (json_iPU.calls t ht w)
 cases hh : hexL (t.data.toList.map UInt8.toNat) 0 with
 | some n =>
  have HH := Aside0.mk hh; clear hh ht hG; go_enter Tryz.func114, Tryz.ntmps114
  go_wp2_with (go_at_call 105; refine HI.out.mono ?_; rintro e w1 ⟨he, hb⟩; rw [HH.out] at he; obtain rfl := he; have HB := Aside0.mk hb; clear hb)
  go_ret2
  exact ⟨rfl, HB.out⟩
 | none =>
  have HH := Aside0.mk hh; have HT := Aside0.mk ht; obtain ⟨te, pe, hc⟩ := hG.err
  have HC := Aside0.mk hc; clear hh hG hc ht; go_enter Tryz.func114, Tryz.ntmps114
  go_wp2_with (first | (go_at_call 105; refine HI.out.mono ?_; rintro e w1 ⟨he, hb⟩; rw [HH.out] at he; obtain rfl := he; have HB := Aside0.mk hb; clear hb) | (go_at_call 66; refine (Tryz.strconv_toError_syntax _ _ _ _ (.iface te pe) _ (by rw [HT.out]; decide) (pw_cell_below HB.out HC.out) (.inr ⟨te, pe, rfl⟩)).mono ?_; rintro e w2 ⟨N, rfl, _, _, hb⟩; have HB2 := Aside0.mk (below_step HB.out hb); clear hb))
  go_ret2
  exact ⟨⟨_, rfl⟩, HB2.out⟩
end Go.Proofs.YtebmgmagdhedgaaGreatDoor.Q

end
