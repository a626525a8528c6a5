-- Written by this repo's wip/xprint.py (over the kit's print.py) out of the translation. Not trusted: Lean checks it.
import Derived.Test.YtbjhmknahldhaaaDoorProg
import Derived.Below
import Derived.Deep.Draws
import Derived.Deep.AppendLies
import Derived.Maps.AppendAt
import Derived.OwnWalk
import Derived.Laws.BytesArg
import Derived.Laws.MakeOwn
import Derived.Laws.OwnMore
import Derived.Deep.OwnRows
import Derived.Tactics
import Derived.Lib.ConvBytes
import Derived.Laws.Slices
import Derived.WalkKit
import Derived.KernelRfl
import Derived.RowKit3
import Derived.Deep.LoopGhost
import Derived.Deep.QuietTactic
import Derived.BigQuiet
import Derived.WideLaws
import Derived.Deep.DeepCutAuto
import Derived.Deep.CutBlock
import Derived.Deep.RegionHeld3
import Derived.Laws.Rows
import Derived.Lib.AppendStr
import Derived.ArgAppend
import Derived.Laws.IdiomCopy
import Derived.OrdersHeld
import Derived.Laws.BitsLemmas
import Derived.RowKit
import Derived.Test.YtbjhmknahldhaaaDoorXThr
import Derived.Shelf.Strings.BuilderK
import Derived.Shelf.Strings.BuilderRune
import Derived.Deep.RegionHeld3
import Derived.BigQuiet
import Derived.Deep.QuietTactic
import Derived.Lib.LaidU8
import Derived.MakeChecks
import Derived.Test.YtbjhmknahldhaaaDoorShelf
import Derived.Test.YtbjhmknahldhaaaDoorShelf
import Derived.Lib.OthersKept
import Derived.Deep.RegionWith
import Derived.RangeFuncNested
import Derived.RangeFuncBox
import Derived.RangeFuncLeaves
import Derived.Shelf.Abstract
import Derived.OwnWalkIn
import Derived.TacticsInMore
import Derived.LoopNIn
import Derived.LoopIn
import Derived.Test.YtbjhmknahldhaaaDoorXUtf
import Derived.Test.YtbjhmknahldhaaaDoorWWords
import Derived.Test.YtbjhmknahldhaaaDoorWLast
import Derived.Test.YtbjhmknahldhaaaDoorWTab
import Derived.Test.YtbjhmknahldhaaaDoorWQPut
import Derived.Test.YtbjhmknahldhaaaDoorWApart
import Derived.Test.YtbjhmknahldhaaaDoorWArr
import Derived.Test.YtbjhmknahldhaaaDoorWZeros
import Derived.Test.YtbjhmknahldhaaaDoorWFoot
import Derived.Test.YtbjhmknahldhaaaDoorWKept
import Derived.Test.YtbjhmknahldhaaaDoorWShare
import Derived.Test.YtbjhmknahldhaaaDoorWN
import Derived.Test.YtbjhmknahldhaaaDoorWEqStruct
import Derived.Test.YtbjhmknahldhaaaDoorWRepsOne
import Derived.Test.YtbjhmknahldhaaaDoorWGuard
import Derived.Test.YtbjhmknahldhaaaDoorWNEv
import Derived.Test.YtbjhmknahldhaaaDoorWMore
namespace Go.Proofs.YtbjhmknahldhaaaDoor.Q
open Go.RowKit Go.Proofs.YtbjhmknahldhaaaDoorW.PrintWords Go.Proofs.YtbjhmknahldhaaaDoorW.PrintLast Go.Proofs.YtbjhmknahldhaaaDoorW.PrintMore
attribute [local go_sem] max2_int min2_int max_two min_two max_three min_three max_four min_four   -- for this text's walks alone
set_option linter.unusedVariables false
set_option linter.unusedSimpArgs false



def errW : Option Int → Value
  | none => .nilIface
  | some c => .iface 0 (.int .i64 c)
theorem errW_none : errW none = .nilIface := rfl
theorem errW_some (c : Int) : errW (some c) = .iface 0 (.int .i64 c) := rfl

theorem info3 : (Tryd.prog.info? 3).map (fun i => (i.zero, i.size, i.bytes)) = some (some (.int .i64 0), 1, 8) := by kernel_rfl
theorem info36 : (Tryd.prog.info? 36).map (fun i => (i.zero, i.size, i.bytes)) = some (some (.agg #[(.int .i64 0), (.int .i64 0)]), 2, 16) := by kernel_rfl
theorem info38 : (Tryd.prog.info? 38).map (fun i => (i.zero, i.size, i.bytes)) = some (some (.agg #[(.int .i64 0), (.int .i64 0), (.int .i64 0), (.int .i64 0)]), 4, 32) := by kernel_rfl
theorem info60 : (Tryd.prog.info? 60).map (fun i => (i.zero, i.size, i.bytes)) = some (some (.agg #[(.int .i64 0), (.int .i64 0), (.int .i64 0), (.int .i64 0), (.int .i64 0)]), 5, 40) := by kernel_rfl
-- the values' own types
/-! #### struct type 36 -/
structure S36 where
  f0 : Int
  f1 : Int
def z36 : S36 := ⟨(0 : Int), (0 : Int)⟩
def k36 : Kd S36 := Kd.iso (Kd.pair (Kd.int .i64) (Kd.int .i64)) (fun x : S36 => (x.f0, x.f1))
theorem k36_open {w : World} {x : S36} {cs : List Value} (h : k36.K w x cs) : cs = [.int .i64 x.f0, .int .i64 x.f1] := by
  obtain ⟨_, _, rfl, rfl, rfl⟩ := h
  exact rfl
theorem k36_openM {w : World} {base : Nat} {ok : Nat → Prop} {x : S36} {cs : List Value} (h : k36.M w base ok x cs) : cs = [.int .i64 x.f0, .int .i64 x.f1] := by
  obtain ⟨_, _, rfl, rfl, rfl⟩ := h
  exact rfl
theorem k36_mk (w : World) (x : S36)  : k36.K w x [.int .i64 x.f0, .int .i64 x.f1] := ⟨[.int .i64 x.f0], [.int .i64 x.f1], rfl, rfl, rfl⟩
theorem k36_mkM (w : World) (base : Nat) (ok : Nat → Prop) (x : S36)  : k36.M w base ok x [.int .i64 x.f0, .int .i64 x.f1] := ⟨[.int .i64 x.f0], [.int .i64 x.f1], rfl, rfl, rfl⟩
def rd_T36 (xs : List S36) (i : Int) : S36 := xs.getD i.toNat z36
theorem at_T36 {w : World} {A : Option Addr} {n : Nat} {xs : List S36} (h : Kd.C k36 w A n xs) (i : Int) (h0 : 0 ≤ i) (h1 : i < n) : ∃ ad , A = some ad ∧ w.cell? (ad.add (i.toNat * 2)) = some (.int .i64 (rd_T36 xs i).f0) ∧ w.cell? ⟨(ad.add (i.toNat * 2)).block, (ad.add (i.toNat * 2)).off + 1, none⟩ = some (.int .i64 (rd_T36 xs i).f1) := by
  obtain ⟨ad, c, e, _, hK, hc0⟩ := Kd.C_get h z36 i h0 h1
  have hc : ∀ j u, c[j]? = some u → w.cell? (ad.add (i.toNat * 2 + j)) = some u := hc0
  obtain rfl := k36_open hK
  exact ⟨ad, e, hc 0 _ rfl, by rw [← add_field _ _ 1 (by omega)]; exact hc 1 _ rfl⟩

/-! #### struct type 38 -/
structure S38 where
  f0 : S36
  f1 : Int
  f2 : Int
def z38 : S38 := ⟨z36, (0 : Int), (0 : Int)⟩
def k38 : Kd S38 := Kd.iso (Kd.pair k36 (Kd.pair (Kd.int .i64) (Kd.int .i64))) (fun x : S38 => (x.f0, x.f1, x.f2))
theorem k38_open {w : World} {x : S38} {cs : List Value} (h : k38.K w x cs) : cs = [.int .i64 x.f0.f0, .int .i64 x.f0.f1, .int .i64 x.f1, .int .i64 x.f2] := by
  obtain ⟨_, _, rfl, s0, ⟨_, _, rfl, rfl, rfl⟩⟩ := h
  obtain rfl := k36_open s0
  exact rfl
theorem k38_openM {w : World} {base : Nat} {ok : Nat → Prop} {x : S38} {cs : List Value} (h : k38.M w base ok x cs) : cs = [.int .i64 x.f0.f0, .int .i64 x.f0.f1, .int .i64 x.f1, .int .i64 x.f2] := by
  obtain ⟨_, _, rfl, s0, ⟨_, _, rfl, rfl, rfl⟩⟩ := h
  obtain rfl := k36_openM s0
  exact rfl
theorem k38_mk (w : World) (x : S38)  : k38.K w x [.int .i64 x.f0.f0, .int .i64 x.f0.f1, .int .i64 x.f1, .int .i64 x.f2] := ⟨[.int .i64 x.f0.f0, .int .i64 x.f0.f1], [.int .i64 x.f1, .int .i64 x.f2], rfl, (k36_mk w x.f0 ), ⟨[.int .i64 x.f1], [.int .i64 x.f2], rfl, rfl, rfl⟩⟩
theorem k38_mkM (w : World) (base : Nat) (ok : Nat → Prop) (x : S38)  : k38.M w base ok x [.int .i64 x.f0.f0, .int .i64 x.f0.f1, .int .i64 x.f1, .int .i64 x.f2] := ⟨[.int .i64 x.f0.f0, .int .i64 x.f0.f1], [.int .i64 x.f1, .int .i64 x.f2], rfl, (k36_mkM w base ok x.f0 ), ⟨[.int .i64 x.f1], [.int .i64 x.f2], rfl, rfl, rfl⟩⟩
def rd_T38 (xs : List S38) (i : Int) : S38 := xs.getD i.toNat z38
theorem at_T38 {w : World} {A : Option Addr} {n : Nat} {xs : List S38} (h : Kd.C k38 w A n xs) (i : Int) (h0 : 0 ≤ i) (h1 : i < n) : ∃ ad , A = some ad ∧ w.cell? (ad.add (i.toNat * 4)) = some (.int .i64 (rd_T38 xs i).f0.f0) ∧ w.cell? ⟨(ad.add (i.toNat * 4)).block, (ad.add (i.toNat * 4)).off + 1, none⟩ = some (.int .i64 (rd_T38 xs i).f0.f1) ∧ w.cell? ⟨(ad.add (i.toNat * 4)).block, (ad.add (i.toNat * 4)).off + 2, none⟩ = some (.int .i64 (rd_T38 xs i).f1) ∧ w.cell? ⟨(ad.add (i.toNat * 4)).block, (ad.add (i.toNat * 4)).off + 3, none⟩ = some (.int .i64 (rd_T38 xs i).f2) := by
  obtain ⟨ad, c, e, _, hK, hc0⟩ := Kd.C_get h z38 i h0 h1
  have hc : ∀ j u, c[j]? = some u → w.cell? (ad.add (i.toNat * 4 + j)) = some u := hc0
  obtain rfl := k38_open hK
  exact ⟨ad, e, hc 0 _ rfl, by rw [← add_field _ _ 1 (by omega)]; exact hc 1 _ rfl, by rw [← add_field _ _ 2 (by omega)]; exact hc 2 _ rfl, by rw [← add_field _ _ 3 (by omega)]; exact hc 3 _ rfl⟩

def rd_L3 (xs : List (List S38)) (i : Int) : (List S38) := xs.getD i.toNat ([] : List S38)
theorem at_L3 {w : World} {A : Option Addr} {n : Nat} {xs : List (List S38)} (h : Kd.C (Kd.slice 38 k38) w A n xs) (i : Int) (h0 : 0 ≤ i) (h1 : i < n) : ∃ ad A0 c0, A = some ad ∧ w.cell? (ad.add i.toNat) = some (.slice A0 (rd_L3 xs i).length c0) ∧ (rd_L3 xs i).length ≤ c0 ∧ k38.C w A0 (rd_L3 xs i).length (rd_L3 xs i) := by
  obtain ⟨ad, c, e, _, hK, hc0⟩ := Kd.C_get h ([] : List S38) i h0 h1
  have hc : ∀ j u, c[j]? = some u → w.cell? (ad.add (i.toNat * 1 + j)) = some u := hc0
  obtain ⟨A0, c0, rfl, l0, g0⟩ := hK
  exact ⟨ad, A0, c0, e, by have hq := hc 0 _ rfl; rwa [Nat.mul_one, Nat.add_zero] at hq, l0, g0⟩

def rd_L4 (xs : List (List Int)) (i : Int) : (List Int) := xs.getD i.toNat ([] : List Int)
theorem at_L4 {w : World} {A : Option Addr} {n : Nat} {xs : List (List Int)} (h : Kd.C (Kd.slice 3 (Kd.int .i64)) w A n xs) (i : Int) (h0 : 0 ≤ i) (h1 : i < n) : ∃ ad A0 c0, A = some ad ∧ w.cell? (ad.add i.toNat) = some (.slice A0 (rd_L4 xs i).length c0) ∧ (rd_L4 xs i).length ≤ c0 ∧ (Kd.int .i64).C w A0 (rd_L4 xs i).length (rd_L4 xs i) := by
  obtain ⟨ad, c, e, _, hK, hc0⟩ := Kd.C_get h ([] : List Int) i h0 h1
  have hc : ∀ j u, c[j]? = some u → w.cell? (ad.add (i.toNat * 1 + j)) = some u := hc0
  obtain ⟨A0, c0, rfl, l0, g0⟩ := hK
  exact ⟨ad, A0, c0, e, by have hq := hc 0 _ rfl; rwa [Nat.mul_one, Nat.add_zero] at hq, l0, g0⟩

/-! #### struct type 60 -/
structure S60 where
  f0 : Int
  f1 : Int
  f2 : Int
  f3 : Int
  f4 : Int
def z60 : S60 := ⟨(0 : Int), (0 : Int), (0 : Int), (0 : Int), (0 : Int)⟩
def k60 : Kd S60 := Kd.iso (Kd.pair (Kd.int .i64) (Kd.pair (Kd.int .i64) (Kd.pair (Kd.int .i64) (Kd.pair (Kd.int .i64) (Kd.int .i64))))) (fun x : S60 => (x.f0, x.f1, x.f2, x.f3, x.f4))
theorem k60_open {w : World} {x : S60} {cs : List Value} (h : k60.K w x cs) : cs = [.int .i64 x.f0, .int .i64 x.f1, .int .i64 x.f2, .int .i64 x.f3, .int .i64 x.f4] := by
  obtain ⟨_, _, rfl, rfl, ⟨_, _, rfl, rfl, ⟨_, _, rfl, rfl, ⟨_, _, rfl, rfl, rfl⟩⟩⟩⟩ := h
  exact rfl
theorem k60_openM {w : World} {base : Nat} {ok : Nat → Prop} {x : S60} {cs : List Value} (h : k60.M w base ok x cs) : cs = [.int .i64 x.f0, .int .i64 x.f1, .int .i64 x.f2, .int .i64 x.f3, .int .i64 x.f4] := by
  obtain ⟨_, _, rfl, rfl, ⟨_, _, rfl, rfl, ⟨_, _, rfl, rfl, ⟨_, _, rfl, rfl, rfl⟩⟩⟩⟩ := h
  exact rfl
theorem k60_mk (w : World) (x : S60)  : k60.K w x [.int .i64 x.f0, .int .i64 x.f1, .int .i64 x.f2, .int .i64 x.f3, .int .i64 x.f4] := ⟨[.int .i64 x.f0], [.int .i64 x.f1, .int .i64 x.f2, .int .i64 x.f3, .int .i64 x.f4], rfl, rfl, ⟨[.int .i64 x.f1], [.int .i64 x.f2, .int .i64 x.f3, .int .i64 x.f4], rfl, rfl, ⟨[.int .i64 x.f2], [.int .i64 x.f3, .int .i64 x.f4], rfl, rfl, ⟨[.int .i64 x.f3], [.int .i64 x.f4], rfl, rfl, rfl⟩⟩⟩⟩
theorem k60_mkM (w : World) (base : Nat) (ok : Nat → Prop) (x : S60)  : k60.M w base ok x [.int .i64 x.f0, .int .i64 x.f1, .int .i64 x.f2, .int .i64 x.f3, .int .i64 x.f4] := ⟨[.int .i64 x.f0], [.int .i64 x.f1, .int .i64 x.f2, .int .i64 x.f3, .int .i64 x.f4], rfl, rfl, ⟨[.int .i64 x.f1], [.int .i64 x.f2, .int .i64 x.f3, .int .i64 x.f4], rfl, rfl, ⟨[.int .i64 x.f2], [.int .i64 x.f3, .int .i64 x.f4], rfl, rfl, ⟨[.int .i64 x.f3], [.int .i64 x.f4], rfl, rfl, rfl⟩⟩⟩⟩
def rd_T60 (xs : List S60) (i : Int) : S60 := xs.getD i.toNat z60
theorem at_T60 {w : World} {A : Option Addr} {n : Nat} {xs : List S60} (h : Kd.C k60 w A n xs) (i : Int) (h0 : 0 ≤ i) (h1 : i < n) : ∃ ad , A = some ad ∧ w.cell? (ad.add (i.toNat * 5)) = some (.int .i64 (rd_T60 xs i).f0) ∧ w.cell? ⟨(ad.add (i.toNat * 5)).block, (ad.add (i.toNat * 5)).off + 1, none⟩ = some (.int .i64 (rd_T60 xs i).f1) ∧ w.cell? ⟨(ad.add (i.toNat * 5)).block, (ad.add (i.toNat * 5)).off + 2, none⟩ = some (.int .i64 (rd_T60 xs i).f2) ∧ w.cell? ⟨(ad.add (i.toNat * 5)).block, (ad.add (i.toNat * 5)).off + 3, none⟩ = some (.int .i64 (rd_T60 xs i).f3) ∧ w.cell? ⟨(ad.add (i.toNat * 5)).block, (ad.add (i.toNat * 5)).off + 4, none⟩ = some (.int .i64 (rd_T60 xs i).f4) := by
  obtain ⟨ad, c, e, _, hK, hc0⟩ := Kd.C_get h z60 i h0 h1
  have hc : ∀ j u, c[j]? = some u → w.cell? (ad.add (i.toNat * 5 + j)) = some u := hc0
  obtain rfl := k60_open hK
  exact ⟨ad, e, hc 0 _ rfl, by rw [← add_field _ _ 1 (by omega)]; exact hc 1 _ rfl, by rw [← add_field _ _ 2 (by omega)]; exact hc 2 _ rfl, by rw [← add_field _ _ 3 (by omega)]; exact hc 3 _ rfl, by rw [← add_field _ _ 4 (by omega)]; exact hc 4 _ rfl⟩

def rd_L6 (xs : List (List S60)) (i : Int) : (List S60) := xs.getD i.toNat ([] : List S60)
theorem at_L6 {w : World} {A : Option Addr} {n : Nat} {xs : List (List S60)} (h : Kd.C (Kd.slice 60 k60) w A n xs) (i : Int) (h0 : 0 ≤ i) (h1 : i < n) : ∃ ad A0 c0, A = some ad ∧ w.cell? (ad.add i.toNat) = some (.slice A0 (rd_L6 xs i).length c0) ∧ (rd_L6 xs i).length ≤ c0 ∧ k60.C w A0 (rd_L6 xs i).length (rd_L6 xs i) := by
  obtain ⟨ad, c, e, _, hK, hc0⟩ := Kd.C_get h ([] : List S60) i h0 h1
  have hc : ∀ j u, c[j]? = some u → w.cell? (ad.add (i.toNat * 1 + j)) = some u := hc0
  obtain ⟨A0, c0, rfl, l0, g0⟩ := hK
  exact ⟨ad, A0, c0, e, by have hq := hc 0 _ rfl; rwa [Nat.mul_one, Nat.add_zero] at hq, l0, g0⟩

/-- n marks, those of the number m's binary digits set -/
def bz (n m : Nat) : Array Bool := ((List.range n).map fun i => m.testBit i).toArray
/-- a list is empty where it is no other than the empty one -/
theorem xEmpty_ne (l : List UInt8) : l.isEmpty = !(l != []) := by cases l <;> rfl
section
variable {P : Program} {ops : Array Oper} {Q : Exit → Act → World → Prop} {md : Region.Mode} {S : World → Prop} {ds : List Nat} {T : Bool × List (List Nat × List Nat)} {B : List Nat}
/-- An operation that yields in every world is taken. -/
theorem pu (i : Nat) (N : Option Tmp) {oi : Oper} {v : Value} {fuel : Nat} {l : Array Bool} {a a' : Act} {w : World} (l' : Array Bool) (hT : Aside0 (rtab md ops = T)) (hi : ops[i]? = some oi) (hN : oi.dst = N)
    (h : wpAnyLast P md ops Q S ds fuel l' a' w)
    (hc : anyT T l.toList l'.toList i = true := by kernel_rfl) (hQ : ∀ c a w, Q (.panic c) (a.put oi.dst v) w → Q (.panic c) a w := by exact fun _ _ _ h => h)
    (hw : Region.wanted oi (yielded ops a.tmps) = true := by rfl) (hy : ∀ w', (execOp a.eval oi).run P w' = .ok (.value v) w' := by intro w'; go_simp; with_reducible rfl)
    (ha : a.put N v = a' := by simp only [Act.put, List.setIfInBounds_toArray, List.set_cons_zero, List.set_cons_succ, i64_w, i32_w]; rfl) : wpAnyLast P md ops Q S ds (fuel + 1) l a w :=
  pure_ l' hi hN (any_of hT.out hc) hQ (Or.inl ⟨hw, hy⟩) ha h
/-- An operation that is off. -/
theorem pf (i : Nat) (N : Option Tmp) {oi : Oper} {fuel : Nat} {l : Array Bool} {a a' : Act} {w : World} (l' : Array Bool) (hT : Aside0 (rtab md ops = T)) (hi : ops[i]? = some oi) (hN : oi.dst = N)
    (h : wpAnyLast P md ops Q S ds fuel l' a' w)
    (hc : anyT T l.toList l'.toList i = true := by kernel_rfl) (hQ : ∀ c a w, Q (.panic c) (a.put oi.dst undef) w → Q (.panic c) a w := by exact fun _ _ _ h => h)
    (hw : Region.wanted oi (yielded ops a.tmps) = false := by rfl)
    (ha : a.put N undef = a' := by simp only [Act.put, List.setIfInBounds_toArray, List.set_cons_zero, List.set_cons_succ, i64_w, i32_w]; rfl) : wpAnyLast P md ops Q S ds (fuel + 1) l a w :=
  pure_ l' hi hN (any_of hT.out hc) hQ (Or.inr ⟨hw, rfl⟩) ha h
/-- An operation that yields in every world that meets S is taken. -/
theorem tk (i : Nat) (N : Option Tmp) {oi : Oper} {v : Value} {fuel : Nat} {l : Array Bool} {a a' : Act} {w : World} (l' : Array Bool) (hT : Aside0 (rtab md ops = T)) (hW : Aside0 (waitsOk T.2 B = true)) (hi : ops[i]? = some oi) (hN : oi.dst = N) (hS : S w)
    (h : wpAnyLast P md ops Q S ds fuel l' a' w)
    (hc : takeW T B ds l.toList l'.toList i = true := by kernel_rfl) (hQ : ∀ c a w, Q (.panic c) (a.put oi.dst v) w → Q (.panic c) a w := by exact fun _ _ _ h => h)
    (hw : Region.wanted oi (yielded ops a.tmps) = true := by rfl) (hy : ∀ w', S w' → (execOp a.eval oi).run P w' = .ok (.value v) w' := by intro w' hS_; (try dsimp only at hS_); go_split_ands; go_simp; with_reducible rfl)
    (ha : a.put N v = a' := by simp only [Act.put, List.setIfInBounds_toArray, List.set_cons_zero, List.set_cons_succ, i64_w, i32_w]; rfl) : wpAnyLast P md ops Q S ds (fuel + 1) l a w :=
  take_ l' hi hN (take_ofW hT.out hW.out hc) hQ (Or.inl ⟨hw, hy⟩) hS ha h
end
/-- Worlds behind drawings and new blocks: what was below stays so. -/
theorem bl {B : Nat} {w0 w w1 : World} (h : Aside0 (Below B w0 w)) (hs : Below B w0 w → Below B w0 w1 := by intro h_; repeat (first | (with_reducible first | exact h_ | apply below_alloc | apply pw_below_drewN | apply below_drew1) | exact h_)) : Below B w0 w1 := hs h.out
/-- The same of a row of one's own. -/
theorem rl {α : Type} {d : Kd α} {e : Nat} {w w1 : World} {base : Nat} {ok : Nat → Prop} {v : Value} {xs : List α} (h : Aside0 (Kd.R d e w base ok v xs)) (hs : Kd.R d e w base ok v xs → Kd.R d e w1 base ok v xs := by intro h_; (with_reducible repeat (first | apply Kd.R_alloc | apply Kd.R_drewN | apply Kd.R_drew)); exact h_) : Kd.R d e w1 base ok v xs := hs h.out
/-- The same of a block. -/
theorem kl {w w1 : World} {g : Nat} {o : Obj} (h : Aside0 (w.heap[g]? = some o)) (hs : w.heap[g]? = some o → w1.heap[g]? = some o := by intro h_; (with_reducible repeat (first | refine blk_drewN ?_ _ | refine blk_drew ?_ | refine blk_alloc ?_ _)); exact h_) : w1.heap[g]? = some o := hs h.out
/-- The two tables of unicode/utf8 read as their initialisers lay them. -/
def GlobOk (w : World) : Prop := Lib.Utf8Tabs 0 1 w
theorem GlobOk.below {w w' : World} (h : GlobOk w) (hb : Below w.heap.size w w') : GlobOk w' := Utf8Tabs_below h hb
theorem xU8 : U8Extra Tryd.prog Tryd.lays260_ren := ⟨by kernel_rfl, by kernel_rfl, by kernel_rfl, by kernel_rfl, by kernel_rfl, by kernel_rfl, by kernel_rfl⟩
theorem GlobOk.of_laid {W : World} {l : List (String × DataW Unit)} {d1 d2 : DataW Unit} (hL : laidMetH Tryd.prog l W) (hp : (l.all fun x => x.2.handleName?.isNone) = true) (m1 : ("unicode/utf8.first", d1) ∈ l) (e1 : d1 = Lib.firstData) (m2 : ("unicode/utf8.acceptRanges", d2) ∈ l) (e2 : d2 = Lib.acceptData) : GlobOk W := by
  rw [MakeChecks.laidMetH_plain _ _ _ hp] at hL
  subst e1 e2
  exact utf8Tabs_of_reads Tryd.lays260 xU8 (Lib.laidMet.reads hL m1) (Lib.laidMet.reads hL m2)
set_option maxRecDepth 100000 in
theorem ir_err (s : ByteArray) (w : World) (hascii : ∀ (j : Nat) b, s.data.toList[j]? = some b → b.toNat < 128) : Calls Tryd.prog 50 #[.string s, .int .i32 65533] w fun e w' => e = .returned (.int .i64 (-1)) ∧ Below w.heap.size w w' := by
  have HA : Aside (∀ (j : Nat) b, s.data.toList[j]? = some b → b.toNat < 128) := hascii
  clear hascii
  go_enter Tryd.func50, Tryd.ntmps50
  go_wp2
  go_loopg [5, 6] s.size (fun g _ _ wx => ∃ i : Nat, i + g = s.size ∧ wx = w.iter s i)
  case atStart => exact ⟨0, by omega, rfl⟩
  case round =>
    obtain ⟨i, hig, rfl⟩ := hrel
    cases gk with
    | zero =>
      obtain rfl : i = s.size := by omega
      have hnx := run_next_end (P := Tryd.prog) w s s.size
      go_wp2
      go_ret
      exact ⟨rfl, (Below.refl _ _).alloc (Nat.le_refl _) _⟩
    | succ g =>
      have hi : i < s.size := by omega
      obtain ⟨x, hx⟩ : ∃ x : UInt8, s[i]'hi = x := ⟨_, rfl⟩
      have hxl : s.data.toList[i]? = some x := by rw [← hx]; exact Lib.data_getElem? s i hi
      have hx128 : x.toNat < 128 := HA.out i x hxl
      have hne : ((x.toNat : Int) == 65533) = false := beq_eq_false_iff_ne.2 (by omega)
      have hnx := fun ty => run_next_ascii (P := Tryd.prog) w s i ty hi (by rw [hx]; exact hx128)
      rw [hx] at hnx
      clear hxl hx
      go_wp2
      go_roundg g
      case measure => omega
      case rel => exact ⟨i + 1, by omega, rfl⟩
theorem enc_many (r : Int) (h0 : 128 ≤ r) (hv : Lib.validRune r = true) : (∃ a b : UInt8, ((13 : Int) == (b.toNat : Int)) = false ∧ Utf8.encode r = ⟨#[a, b]⟩) ∨ (∃ a b c, Utf8.encode r = ⟨#[a, b, c]⟩) ∨ ∃ a b c d, Utf8.encode r = ⟨#[a, b, c, d]⟩ := by
  have v : Utf8.valid r = true := by
    simp only [Lib.validRune, decide_eq_true_eq] at hv
    simp [Utf8.valid]; omega
  have hx : ¬ r.toNat < 128 := by omega
  unfold Utf8.encode
  simp only [v, if_true]
  rw [if_neg hx]
  by_cases h2 : r.toNat < 2048
  · rw [if_pos h2]
    refine .inl ⟨_, _, ?_, rfl⟩
    have : (UInt8.ofNat (128 + r.toNat % 64)).toNat = 128 + r.toNat % 64 := by simp; omega
    rw [this]
    exact beq_eq_false_iff_ne.2 (by omega)
  · rw [if_neg h2]
    by_cases h3 : r.toNat < 65536
    · rw [if_pos h3]; exact .inr (.inl ⟨_, _, _, rfl⟩)
    · rw [if_neg h3]; exact .inr (.inr ⟨_, _, _, _, rfl⟩)
set_option maxRecDepth 100000 in
set_option maxHeartbeats 1600000 in
theorem ir_other (r : Int) (w : World) (h0 : 128 ≤ r) (h1 : ¬ r = 65533) : Calls Tryd.prog 50 #[.string ⟨#[10, 13]⟩, .int .i32 r] w fun e w' => e = .returned (.int .i64 (-1)) ∧ Below w.heap.size w w' := by
  have h0' : ¬ r < 128 := by omega
  have h00 : 0 ≤ r := by omega
  have h1b : (r == 65533) = false := by simp [h1]
  cases hv : Lib.validRune r
  · go_enter Tryd.func50, Tryd.ntmps50
    go_wp2_with (go_at_call 56; refine (Tryd.utf8_ValidRune r w).mono ?_; rintro e w' ⟨rfl, rfl⟩; rw [hv])
    go_ret
    exact ⟨rfl, Below.refl _ _⟩
  · have HE := Aside0.mk (enc_many r h0 hv)
    go_enter Tryd.func50, Tryd.ntmps50
    go_wp2_with (go_at_call 56; refine (Tryd.utf8_ValidRune r w).mono ?_; rintro e w' ⟨rfl, rfl⟩; rw [hv])
    go_step3
    go_wp2
    rcases HE.out with ⟨a, b, hb, hE⟩ | ⟨a, b, c, hE⟩ | ⟨a, b, c, d, hE⟩
    · rw [hE, show wrap64 (((⟨#[a, b]⟩ : ByteArray).size : Int) - 1) = 1 from by simp [ByteArray.size, wrap64]]
      clear HE hE
      go_loopg [9, 10] 0 (fun g x y wx => x = .int .i64 1 ∧ y = .int .i64 0 ∧ wx = w')
      case atStart => exact ⟨rfl, rfl, rfl⟩
      case round =>
        obtain ⟨rfl, rfl, rfl⟩ := hrel
        go_wp2
        go_step3
        go_wp2
        go_region
        go_wp2
        rotate_left
        · rename_i hx Kx hKx
          exfalso
          change (((13 : UInt8).toNat : Int) != (b.toNat : Int)) = false at hx
          simp only [bne, Bool.not_eq_false'] at hx
          rw [show (((13 : UInt8).toNat : Nat) : Int) = 13 from rfl, hb] at hx
          cases hx
        go_region_with (go_at_call 55; refine (Tryd.strings_IndexByte _ _ _).mono ?_; rintro e w' ⟨rfl, rfl⟩)
        all_goals go_wp2
        all_goals (repeat (rw [Exit.noGoto_ret]; go_wp2))
        all_goals go_ret
        all_goals exact ⟨rfl, (Below.refl _ _).drew.drew⟩
    · rw [hE, show wrap64 (((⟨#[a, b, c]⟩ : ByteArray).size : Int) - 1) = 2 from by simp [ByteArray.size, wrap64]]
      clear HE hE
      go_loopg [9, 10] 0 (fun g x y wx => x = .int .i64 2 ∧ y = .int .i64 0 ∧ wx = w')
      case atStart => exact ⟨rfl, rfl, rfl⟩
      case round =>
        obtain ⟨rfl, rfl, rfl⟩ := hrel
        go_wp2
        rw [Exit.noGoto_ret]
        go_wp2
        go_ret
        exact ⟨rfl, Below.refl _ _⟩
    · rw [hE, show wrap64 (((⟨#[a, b, c, d]⟩ : ByteArray).size : Int) - 1) = 3 from by simp [ByteArray.size, wrap64]]
      clear HE hE
      go_loopg [9, 10] 0 (fun g x y wx => x = .int .i64 3 ∧ y = .int .i64 0 ∧ wx = w')
      case atStart => exact ⟨rfl, rfl, rfl⟩
      case round =>
        obtain ⟨rfl, rfl, rfl⟩ := hrel
        go_wp2
        rw [Exit.noGoto_ret]
        go_wp2
        go_ret
        exact ⟨rfl, Below.refl _ _⟩
theorem nl_ascii : ∀ (j : Nat) b, (⟨#[10, 13]⟩ : ByteArray).data.toList[j]? = some b → b.toNat < 128 := by
  intro j b h
  match j with
  | 0 => simp at h; subst h; decide
  | 1 => simp at h; subst h; decide
  | j + 2 => simp at h
theorem ir_out (r : Int) (w : World) (h0 : 0 ≤ r) (h1 : ¬ r = 10) (h2 : ¬ r = 13) : Calls Tryd.prog 50 #[.string ⟨#[10, 13]⟩, .int .i32 r] w fun e w' => e = .returned (.int .i64 (-1)) ∧ Below w.heap.size w w' := by
  by_cases h : r < 128
  · refine (Tryd.strings_IndexRune_ascii ⟨#[10, 13]⟩ r w h0 h).mono ?_
    rintro e w' ⟨rfl, rfl⟩
    refine ⟨?_, Below.refl _ _⟩
    congr 2
    have e1 : ¬ r.toNat.toUInt8 = 10 := fun h => h1 (by have := congrArg UInt8.toNat h; simp at this; omega)
    have e2 : ¬ r.toNat.toUInt8 = 13 := fun h => h2 (by have := congrArg UInt8.toNat h; simp at this; omega)
    have f1 : ¬ (10 : UInt8) = r.toNat.toUInt8 := fun h => e1 h.symm
    have f2 : ¬ (13 : UInt8) = r.toNat.toUInt8 := fun h => e2 h.symm
    simp [Lib.indexByte, e1, e2, f1, f2]
  · by_cases h3 : r = 65533
    · subst h3; exact ir_err _ w nl_ascii
    · exact ir_other r w (by omega) h3
theorem ir_in (r : Int) (w : World) (h1 : r = 10 ∨ r = 13) : Calls Tryd.prog 50 #[.string ⟨#[10, 13]⟩, .int .i32 r] w fun e w' => e = .returned (.int .i64 (if r = 10 then 0 else 1)) ∧ w' = w := by
  refine (Tryd.strings_IndexRune_ascii ⟨#[10, 13]⟩ r w (by omega) (by omega)).mono ?_
  rintro e w' ⟨rfl, rfl⟩
  refine ⟨?_, rfl⟩
  rcases h1 with rfl | rfl <;> rfl
theorem decode_cont (s : ByteArray) (p j : Nat) (hj : 1 ≤ j) (hjw : j < (Utf8.decode s p).2) (b : UInt8) (hb : s.data.toList[p + j]? = some b) : 128 ≤ b.toNat := by
  have key : ∀ k, s.data.toList[p + k]? = some b → (s.get! (p + k)).toNat / 64 = 2 → 128 ≤ b.toNat := by
    intro k hk hd
    obtain ⟨hlt, hk⟩ := List.getElem?_eq_some_iff.1 hk
    have hlt' : p + k < s.size := by rw [Array.length_toList] at hlt; exact hlt
    have : s.get! (p + k) = b := by
      rw [← hk]
      simp [ByteArray.get!]
      exact getElem!_pos s.data (p + k) hlt'
    rw [this] at hd
    omega
  refine key j hb ?_
  revert hjw
  simp only [Utf8.decode]
  repeat' split
  all_goals intro hjw
  all_goals (try (simp at hjw; omega))
  all_goals simp at hjw
  all_goals obtain rfl | rfl | rfl : j = 1 ∨ j = 2 ∨ j = 3 := by omega
  all_goals simp_all only [Bool.and_eq_true, decide_eq_true_eq, beq_iff_eq]
  all_goals omega
theorem nl_width (s : ByteArray) (pos : Nat) (h : pos < s.size) : 1 ≤ (Utf8.decode s pos).2 := by
  by_cases ha : (s[pos]'h).toNat < 128
  · rw [decode_ascii s pos h ha]; exact Nat.le_refl _
  · exact (decode_high s pos h (by omega)).2
theorem NoAny_skip {s : ByteArray} {i : Nat} (hi : i < s.size) (h : Lib.NoAny s.data.toList [10, 13] i) (h1 : ¬ (Utf8.decode s i).1 = 10) (h2 : ¬ (Utf8.decode s i).1 = 13) : Lib.NoAny s.data.toList [10, 13] (i + (Utf8.decode s i).2) := by
  intro j b hj hb
  by_cases hlt : j < i
  · exact h j b hlt hb
  by_cases he : j = i
  · subst he
    by_cases ha : (s[j]'hi).toNat < 128
    · rw [decode_ascii s j hi ha] at h1 h2
      rw [Lib.data_getElem? s j hi] at hb
      obtain rfl := Option.some.inj hb
      have e1 : ¬ s[j] = 10 := fun h => h1 (by rw [h]; rfl)
      have e2 : ¬ s[j] = 13 := fun h => h2 (by rw [h]; rfl)
      simp [e1, e2]
    · rw [Lib.data_getElem? s j hi] at hb
      obtain rfl := Option.some.inj hb
      have e1 : ¬ s[j] = 10 := fun h => ha (by rw [h]; decide)
      have e2 : ¬ s[j] = 13 := fun h => ha (by rw [h]; decide)
      simp [e1, e2]
  · have := decode_cont s i (j - i) (by omega) (by omega) b (by rw [show i + (j - i) = j by omega]; exact hb)
    have e1 : ¬ b = 10 := fun h => by rw [h] at this; revert this; decide
    have e2 : ¬ b = 13 := fun h => by rw [h] at this; revert this; decide
    simp [e1, e2]
set_option maxRecDepth 100000 in
set_option maxHeartbeats 1600000 in
theorem ia_short (s : ByteArray) (w : World) (h8 : s.size ≤ 8) : Calls Tryd.prog 47 #[.string s, .string ⟨#[10, 13]⟩] w fun e w' => e = .returned (.int .i64 (Lib.indexAny s.data.toList [10, 13])) ∧ Below w.heap.size w w' := by
  have h8z : decide ((8 : Int) < (s.size : Int)) = false := decide_eq_false (by omega)
  go_enter Tryd.func47, Tryd.ntmps47
  go_wp2_with (go_at_call 51; refine (Tryd.strings_shouldUseASCIISet _ _).mono ?_; rintro e w' ⟨rfl, hw⟩; rw [hw, h8z])
  go_loopg [9, 10] s.size (fun g _ _ wx => ∃ i : Nat, s.size ≤ i + g ∧ wx.heap[w.heap.size]? = some (.stringIter s i) ∧ Below w.heap.size w wx ∧ Lib.NoAny s.data.toList [10, 13] i)
  case atStart => exact ⟨0, by omega, World.iter_heap _ _ _, (Below.refl _ _).alloc (Nat.le_refl _) _, Lib.NoAny.zero _ _⟩
  case round =>
    obtain ⟨i, hig, hk, hB, hno⟩ := hrel
    have HN : Aside (Lib.NoAny s.data.toList [10, 13] i) := hno
    have HK := Aside0.mk hk
    have HB := Aside0.mk hB
    clear hno hB
    by_cases hi : i < s.size
    · by_cases hc : (Utf8.decode s i).1 = 10 ∨ (Utf8.decode s i).1 = 13
      · obtain ⟨r, hr⟩ : ∃ r, (Utf8.decode s i).1 = r := ⟨_, rfl⟩
        have hnx := fun ty => Lib.run_next_any_at (P := Tryd.prog) _ w.heap.size s i ty hk hi
        rw [hr] at hnx hc
        have HR := Aside0.mk hr
        have HC := Aside0.mk hc
        have hp : decide ((0 : Int) ≤ (if (r : Int) = 10 then 0 else 1)) = true := by split <;> rfl
        clear hr hc
        go_wp2_with (go_at_call 50; refine (ir_in (r : Int) _ (by have := HC.out; omega)).mono ?_; rintro e w' ⟨rfl, hw⟩; rw [hw])
        all_goals go_ret
        all_goals
          have hx := Lib.data_getElem? s i hi
          have hx13 : (s[i]'hi) = 10 ∨ (s[i]'hi) = 13 := by
            have hc : (Utf8.decode s i).1 = 10 ∨ (Utf8.decode s i).1 = 13 := by rw [HR.out]; exact HC.out
            by_cases ha : (s[i]'hi).toNat < 128
            · rw [decode_ascii s i hi ha] at hc
              rcases hc with hc | hc
              · exact .inl (UInt8.toNat_inj.1 hc)
              · exact .inr (UInt8.toNat_inj.1 hc)
            · have := (decode_high s i hi (by omega)).1
              omega
          have hin : ([10, 13] : List UInt8).contains (s[i]'hi) = true := by rcases hx13 with h | h <;> rw [h] <;> rfl
        all_goals exact ⟨by rw [Lib.indexAny_hit HN.out hx hin]; rfl, Lib.below_iterAt HB.out (Nat.le_refl _) _ _⟩
      · obtain ⟨r, hr⟩ : ∃ r, (Utf8.decode s i).1 = r := ⟨_, rfl⟩
        have hnx := fun ty => Lib.run_next_any_at (P := Tryd.prog) _ w.heap.size s i ty hk hi
        rw [hr] at hnx hc
        have HR := Aside0.mk hr
        have HC := Aside0.mk hc
        clear hr hc
        go_wp2_with (go_at_call 50; refine (ir_out (r : Int) _ (by omega) (by have := HC.out; omega) (by have := HC.out; omega)).mono ?_; rintro e w' ⟨rfl, hb⟩; have HB2 := Aside0.mk hb; clear hb)
        go_roundg (gk - 1)
        case measure => omega
        case rel =>
          refine ⟨i + (Utf8.decode s i).2, by have := nl_width s i hi; omega, ?_, ?_, ?_⟩
          · refine (HB2.out.block _ ?_).trans ?_
            · rw [Lib.iterAt_size]; exact (Array.getElem?_eq_some_iff.1 HK.out).1
            · exact Lib.iterAt_heap _ _ _ _ _ HK.out
          · exact (Lib.below_iterAt HB.out (Nat.le_refl _) _ _).trans (HB2.out.mono (by rw [Lib.iterAt_size]; exact HB.out.size))
          · exact NoAny_skip hi HN.out (by rw [HR.out]; have := HC.out; omega) (by rw [HR.out]; have := HC.out; omega)
    · have hnx := fun ty => Lib.run_next_end_at (P := Tryd.prog) _ w.heap.size s i ty hk hi
      go_wp2
      go_ret
      exact ⟨by rw [Lib.indexAny_none (fun j b hj hb => HN.out j b (by rw [← Lib.size_eq] at hj; omega) hb)]; rfl, HB.out⟩
theorem ia_nl (s : ByteArray) (w : World) (hs : s.size < 4294967281) : Calls Tryd.prog 47 #[.string s, .string ⟨#[10, 13]⟩] w fun e w' => e = .returned (.int .i64 (Lib.indexAny s.data.toList [10, 13])) ∧ Below w.heap.size w w' := by
  by_cases h8 : s.size ≤ 8
  · exact ia_short s w h8
  · refine (Tryd.strings_IndexAny_long (zero_of_info (show (Tryd.prog.info? 82).map (fun i => (i.zero, i.size)) = some (some (.agg (Array.replicate 256 (.bool false))), 256) by kernel_rfl)).1 s ⟨#[10, 13]⟩ w (by decide) (by omega) hs (by decide) nl_ascii).mono fun e w' ⟨h1, h2⟩ => ⟨h1, ?_⟩
    rw [h2]
    exact ((Below.refl _ _).alloc (Nat.le_refl _) _).alloc (by simp) _

/-! ### The lines of a string -/
attribute [local go_sem] Oper.semAt_some
/-- A line: its number; where it begins; where it ends. -/
def Ln (s : ByteArray) : Type := { x : Nat × Nat × Nat // x.1 ≤ s.size ∧ x.2.1 ≤ x.2.2 ∧ x.2.2 ≤ s.size }
def mkLn (s : ByteArray) (n a b : Nat) : Ln s := ⟨(min n s.size, min a (min b s.size), min b s.size), by simp only; omega⟩
theorem mkLn_val (s : ByteArray) (n a b : Nat) (hn : n ≤ s.size) (ha : a ≤ b) (hb : b ≤ s.size) : (mkLn s n a b).1 = (n, a, b) := by
  simp only [mkLn]; rw [Nat.min_eq_left hn, Nat.min_eq_left hb, Nat.min_eq_left ha]
/-- The next break's distance, or -1. -/
def kf (s : ByteArray) (a : Nat) : Int := Lib.indexAny (s.extract a s.size).data.toList [10, 13]
def crlf (s : ByteArray) (a : Nat) : Bool := Lib.hasPrefix (s.extract a s.size).data.toList [13, 10]
def nxt (s : ByteArray) (b : Nat) : Nat := if crlf s b then b + 2 else b + 1
def lnsFrom (s : ByteArray) : Nat → Nat → Nat → List (Ln s)
  | 0, n, a => [mkLn s n a s.size]
  | f + 1, n, a => if kf s a < 0 then [mkLn s n a s.size] else mkLn s n a (a + (kf s a).toNat) :: lnsFrom s f (n + 1) (nxt s (a + (kf s a).toNat))
def lns (s : ByteArray) : List (Ln s) := lnsFrom s s.size 0 0
theorem indexAny_lt (chars : List UInt8) : ∀ l : List UInt8, Lib.indexAny l chars < l.length
  | [] => by simp [Lib.indexAny]
  | b :: l => by
    have := indexAny_lt chars l
    unfold Lib.indexAny
    split
    · simp
    · simp only [List.length_cons]; split <;> omega
theorem kf_range (s : ByteArray) (a : Nat) (h : a ≤ s.size) : -1 ≤ kf s a ∧ a + kf s a < s.size + (if kf s a < 0 then 1 else 0) := by
  have h1 := Lib.indexAny_ge [10, 13] (s.extract a s.size).data.toList
  have h2 := indexAny_lt [10, 13] (s.extract a s.size).data.toList
  rw [← Lib.size_eq, ByteArray.size_extract] at h2
  unfold kf
  refine ⟨h1, ?_⟩
  split <;> omega
theorem kf_end (s : ByteArray) (a : Nat) (h : s.size ≤ a) : kf s a < 0 := by
  have h2 := indexAny_lt [10, 13] (s.extract a s.size).data.toList
  rw [← Lib.size_eq, ByteArray.size_extract] at h2
  unfold kf
  omega
theorem crlf_room (s : ByteArray) (a : Nat) (h : crlf s a = true) : a + 2 ≤ s.size := by
  unfold crlf Lib.hasPrefix at h
  have := (List.isPrefixOf_iff_prefix.1 h).length_le
  rw [← Lib.size_eq, ByteArray.size_extract] at this
  simp at this
  omega
theorem nxt_le (s : ByteArray) (b : Nat) (h : b < s.size) : nxt s b ≤ s.size := by
  unfold nxt
  split
  · have := crlf_room s b ‹_›; omega
  · omega
theorem nxt_gt (s : ByteArray) (b : Nat) : b < nxt s b := by unfold nxt; split <;> omega
theorem lnsFrom_eq (s : ByteArray) (f n a : Nat) (h : s.size ≤ a + f) (ha : a ≤ s.size) : lnsFrom s f n a = if kf s a < 0 then [mkLn s n a s.size] else mkLn s n a (a + (kf s a).toNat) :: lnsFrom s (f - 1) (n + 1) (nxt s (a + (kf s a).toNat)) := by
  cases f with
  | zero => rw [if_pos (kf_end s a (by omega))]; rfl
  | succ f => rfl
theorem Ln_eta {s : ByteArray} (x : Ln s) : mkLn s x.1.1 x.1.2.1 x.1.2.2 = x := Subtype.ext (mkLn_val s _ _ _ x.2.1 x.2.2.1 x.2.2.2)
def encLn {s : ByteArray} (x : Ln s) : Array Value := #[.int .i64 x.1.1, .agg #[.int .i64 x.1.2.1, .int .i64 x.1.2.2]]
theorem wrap_nat {x : Int} {m : Nat} (h : x = m) (hm : m < 4294967300) : wrap64 x = (m : Int) := by unfold wrap64; omega
theorem rel_facts {s : ByteArray} {pre : List (Ln s)} {x : Ln s} {a f b c k : Nat} (hn : nxt s b = c) (hb : a + k = b) (hbs : b < s.size) (hF : a ≤ s.size ∧ s.size ≤ a + f ∧ pre.length ≤ a ∧ s.size < 4294967281)
    (hl : lns s = pre ++ x :: lnsFrom s (f - 1) (pre.length + 1) (nxt s b)) : c ≤ s.size ∧ s.size ≤ c + (f - 1) ∧ (pre ++ [x]).length ≤ c ∧ lns s = (pre ++ [x]) ++ lnsFrom s (f - 1) (pre ++ [x]).length c := by
  have h1 := nxt_le s b hbs
  have h2 := nxt_gt s b
  subst hn
  refine ⟨h1, by omega, by rw [List.length_append, List.length_singleton]; omega, ?_⟩
  rw [hl, List.length_append]; simp
theorem meas_facts {s : ByteArray} {a b c k : Nat} (hn : nxt s b = c) (hb : a + k = b) (hbs : b < s.size) : s.size + 1 - ((c : Int)).toNat < s.size + 1 - ((a : Int)).toNat := by
  have h1 := nxt_le s b hbs
  have h2 := nxt_gt s b
  subst hn
  omega
theorem len_snoc {α : Type} {l : List α} {x : α} {m : Nat} (h : l.length + 1 = m) : (m : Int) = ((l ++ [x]).length : Nat) := by rw [← h, List.length_append]; rfl
/-- The box of the captured string lies as it lay. -/
def KBox (Bn : Nat) (W W' : World) : Prop := W'.heap[Bn]? = W.heap[Bn]?
theorem AbidesFrom.step {β : Type} {B : Nat} {J : β → World → Prop} (h : AbidesFrom B J) {x : β} {W W' : World} (hJ : J x W) (hle : True) (hb : Below W.heap.size W W') : J x W' :=
  h x W W' none hJ ⟨hb.os, hb.tape, hb.output, hb.size, fun k hk _ => hb.block k hk⟩ (fun r e => by cases e)
theorem ia_at (s : ByteArray) (a : Nat) (w : World) (hs : s.size < 4294967281) : Calls Tryd.prog 47 #[.string (s.extract a s.size), .string ⟨#[10, 13]⟩] w fun e w' => e = .returned (.int .i64 (kf s a)) ∧ Below w.heap.size w w' :=
  ia_nl _ w (by rw [ByteArray.size_extract]; omega)
set_option maxRecDepth 100000 in
set_option maxHeartbeats 2000000 in
/-- The iterator: for every loop body that keeps the box of the string. -/
theorem each1_in (s : ByteArray) (hs : s.size < 4294967281) (n : Nat) (hn : 1 ≤ n) (l Bn : Nat) (J Jx : List (Ln s) → World → Prop) (W : World) (hJ : AbidesFrom W.heap.size J)
    (hY : ∀ pre x W, J pre W → pre.length < (lns s).length → YieldAt Fence.wide (n - 1) Tryd.prog l (encLn x) W fun e W' =>
      (e = .returned (.bool true) ∧ J (pre ++ [x]) W' ∧ KBox Bn W W') ∨ (e = .returned (.bool false) ∧ Jx (pre ++ [x]) W'))
    (hc : Boxed W Bn 9 (.string s)) (h0 : J [] W) :
    CallsIn Fence.wide n Tryd.prog 46 #[.func (.yield l) #[] #[], .pointer (some ⟨Bn, 0, none⟩)] W fun e W' => (∃ v, e = .returned v) ∧
      ((∃ ys, ys = lns s ∧ J ys W') ∨ (∃ pre, pre <+: lns s ∧ Jx pre W')) := by
  refine callsIn_of_wp Tryd.func46 rfl trivial ?_ rfl
  simp only [Tryd.ntmps46, List.size_toArray, List.length_cons, List.length_nil, Nat.reduceAdd, Nat.reduceSub, Array.replicate_succ, Array.replicate_zero, List.push_toArray, List.append_toArray, List.nil_append, List.cons_append]
  gi_wp2
  gi_loopw [3, 4] (fun p q wr => ∃ (pre : List (Ln s)) (a f : Nat), p = .int .i64 a ∧ q = .int .i64 pre.length ∧ a ≤ s.size ∧ s.size ≤ a + f ∧ pre.length ≤ a ∧ lns s = pre ++ lnsFrom s f pre.length a ∧ J pre wr ∧ Boxed wr Bn 9 (.string s))
    (fun p q wr => s.size + 1 - (intOf p).toNat)
  case atStart =>
    exact ⟨[], 0, s.size, rfl, rfl, by omega, by omega, Nat.le_refl _, rfl, h0, hc⟩
  case round =>
    obtain ⟨pre, a, f, rfl, rfl, ha, hf, hp, hl, hJs, hB⟩ := hrel
    rw [lnsFrom_eq s f _ a hf ha] at hl
    have hcr := hB.cell
    have hlt := hB.lt
    have hkr := kf_range s a ha
    by_cases hk : kf s a < 0
    · rw [if_pos hk] at hl
      have HK := Aside0.mk hkr
      clear hkr
      gi_wp2_with (refine ⟨trivial, ?_⟩; gi_at_call 47; refine (callsIn_wide.2 (ia_at s a wr hs)).mono ?_; rintro e w' ⟨rfl, hb⟩; have hJ' := AbidesFrom.step hJ hJs trivial hb; have hb' : Boxed w' Bn 9 (.string s) := (hb.block _ hlt).trans hB; have hc' := hb'.cell; obtain ⟨fn, tmps, assign, body, hy, hR⟩ := hY pre (mkLn s pre.length a s.size) w' hJ' (by rw [hl]; simp); rw [encLn, mkLn_val s _ _ _ (by omega) ha (Nat.le_refl _)] at hy; dsimp only at hy)
      refine hR.mono ?_
      rintro e W3 (⟨rfl, hJ3, hk3⟩ | ⟨rfl, hJx3⟩)
      · gi_wp2
        refine bodyPost_ret (results_none rfl _ _ _) rfl ?_
        exact ⟨⟨_, rfl⟩, .inl ⟨_, hl.symm, hJ3⟩⟩
      · gi_wp2
        refine bodyPost_ret (results_none rfl _ _ _) rfl ?_
        exact ⟨⟨_, rfl⟩, .inr ⟨_, by rw [hl]; exact List.prefix_refl _, hJx3⟩⟩
    · rw [if_neg hk] at hl
      obtain ⟨k, hkk⟩ : ∃ k : Nat, kf s a = k := ⟨(kf s a).toNat, by omega⟩
      rw [if_neg hk] at hkr
      have hia : ∀ w, Calls Tryd.prog 47 #[.string (s.extract a s.size), .string ⟨#[10, 13]⟩] w fun e w' => e = .returned (.int .i64 (k : Int)) ∧ Below w.heap.size w w' := by intro w; rw [← hkk]; exact ia_at s a w hs
      rw [hkk] at hl hkr hk
      rw [show ((k : Int)).toNat = k from rfl] at hl
      obtain ⟨b, hb⟩ : ∃ b, a + k = b := ⟨_, rfl⟩
      rw [hb] at hl
      have hbs : b < s.size := by omega
      have b1 : (a : Int) + (k : Int) = (b : Int) := by omega
      have b2 : b < 4294967290 := by omega
      have b3 : pre.length < 4294967290 := by omega
      have hab : a ≤ b := by omega
      have hbs' : b ≤ s.size := by omega
      have hps : pre.length ≤ s.size := by omega
      have hlen : pre.length < (lns s).length := by rw [hl]; simp
      have e1 : wrap64 ((a : Int) + (k : Int)) = (b : Int) := wrap_nat b1 (Nat.lt_trans b2 (by decide))
      obtain ⟨c1, hc1⟩ : ∃ c, b + 1 = c := ⟨_, rfl⟩
      obtain ⟨c2, hc2⟩ : ∃ c, b + 2 = c := ⟨_, rfl⟩
      obtain ⟨m1, hm1⟩ : ∃ c, pre.length + 1 = c := ⟨_, rfl⟩
      have e2 : wrap64 ((b : Int) + 1) = (c1 : Int) := by rw [← hc1]; exact wrap_nat rfl (Nat.succ_lt_succ (Nat.lt_trans b2 (by decide)))
      have e3 : wrap64 ((c1 : Int) + 1) = (c2 : Int) := by rw [← hc1, ← hc2]; exact wrap_nat rfl (Nat.succ_lt_succ (Nat.succ_lt_succ (Nat.lt_trans b2 (by decide))))
      have e4 : wrap64 ((pre.length : Int) + 1) = (m1 : Int) := by rw [← hm1]; exact wrap_nat rfl (Nat.succ_lt_succ (Nat.lt_trans b3 (by decide)))
      have hk0 : decide ((k : Int) < 0) = false := decide_eq_false hk
      have C1 := Aside0.mk hc1
      have C2 := Aside0.mk hc2
      have M1 := Aside0.mk hm1
      have F := Aside0.mk (And.intro ha (And.intro hf (And.intro hp hs)))
      clear hc1 hc2 hm1 b1 b2 b3 hk hkk
      have hhp : ∀ w, Calls Tryd.prog 48 #[.string (s.extract b s.size), .string ⟨#[13, 10]⟩] w fun e w' => e = .returned (.bool (crlf s b)) ∧ w' = w := fun w => Tryd.strings_HasPrefix _ _ w
      have HK := Aside0.mk hkr
      have HB := Aside0.mk hb
      have HL := Aside0.mk hl
      clear hkr hb hl hp hf hs
      cases hcl : crlf s b
      all_goals rw [hcl] at hhp
      · gi_wp2
        refine ⟨trivial, ?_⟩
        gi_at_call 47
        refine (callsIn_wide.2 (hia wr)).mono ?_
        clear hia
        rintro e w' ⟨rfl, hb⟩
        have hJ' := AbidesFrom.step hJ hJs trivial hb
        have hb' : Boxed w' Bn 9 (.string s) := (hb.block _ hlt).trans hB; have hc' := hb'.cell
        obtain ⟨fn, tmps, assign, body, hy, hR⟩ := hY pre (mkLn s pre.length a b) w' hJ' hlen
        rw [encLn, mkLn_val s _ _ _ hps hab hbs'] at hy
        dsimp only at hy
        gi_wp2
        refine hR.mono ?_
        rintro e W3 (⟨rfl, hJ3, hk3⟩ | ⟨rfl, hJx3⟩)
        · have hb3 : Boxed W3 Bn 9 (.string s) := Eq.trans hk3 hb'
          have hc3 := hb3.cell
          gi_wp2
          refine ⟨trivial, ?_⟩
          gi_at_call 48
          refine (callsIn_wide.2 (hhp W3)).mono ?_
          clear hhp
          rintro e w' ⟨rfl, rfl⟩
          gi_wp2
          go_roundw
          case rel =>
            have hnx : nxt s b = c1 := by unfold nxt; rw [hcl]; exact C1.out
            have R := rel_facts hnx HB.out hbs F.out HL.out
            exact ⟨pre ++ [mkLn s pre.length a b], c1, f - 1, rfl, congrArg (Value.int .i64) (e4.trans (len_snoc M1.out)), R.1, R.2.1, R.2.2.1, R.2.2.2, hJ3, hb3⟩
          case measure =>
            have hnx : nxt s b = c1 := by unfold nxt; rw [hcl]; exact C1.out
            exact meas_facts hnx HB.out hbs
        · gi_wp2
          refine bodyPost_ret (results_none rfl _ _ _) rfl ?_
          exact ⟨⟨_, rfl⟩, .inr ⟨_, by rw [HL.out]; exact ⟨lnsFrom s (f - 1) (pre.length + 1) (nxt s b), by simp⟩, hJx3⟩⟩
      · gi_wp2
        refine ⟨trivial, ?_⟩
        gi_at_call 47
        refine (callsIn_wide.2 (hia wr)).mono ?_
        clear hia
        rintro e w' ⟨rfl, hb⟩
        have hJ' := AbidesFrom.step hJ hJs trivial hb
        have hb' : Boxed w' Bn 9 (.string s) := (hb.block _ hlt).trans hB; have hc' := hb'.cell
        obtain ⟨fn, tmps, assign, body, hy, hR⟩ := hY pre (mkLn s pre.length a b) w' hJ' hlen
        rw [encLn, mkLn_val s _ _ _ hps hab hbs'] at hy
        dsimp only at hy
        gi_wp2
        refine hR.mono ?_
        rintro e W3 (⟨rfl, hJ3, hk3⟩ | ⟨rfl, hJx3⟩)
        · have hb3 : Boxed W3 Bn 9 (.string s) := Eq.trans hk3 hb'
          have hc3 := hb3.cell
          gi_wp2
          refine ⟨trivial, ?_⟩
          gi_at_call 48
          refine (callsIn_wide.2 (hhp W3)).mono ?_
          clear hhp
          rintro e w' ⟨rfl, rfl⟩
          gi_wp2
          go_roundw
          case rel =>
            have hnx : nxt s b = c2 := by unfold nxt; rw [hcl]; exact C2.out
            have R := rel_facts hnx HB.out hbs F.out HL.out
            exact ⟨pre ++ [mkLn s pre.length a b], c2, f - 1, congrArg (Value.int .i64) e3, congrArg (Value.int .i64) (e4.trans (len_snoc M1.out)), R.1, R.2.1, R.2.2.1, R.2.2.2, hJ3, hb3⟩
          case measure =>
            have hnx : nxt s b = c2 := by unfold nxt; rw [hcl]; exact C2.out
            have h := meas_facts hnx HB.out hbs
            rw [e3]
            exact h
        · gi_wp2
          refine bodyPost_ret (results_none rfl _ _ _) rfl ?_
          exact ⟨⟨_, rfl⟩, .inr ⟨_, by rw [HL.out]; exact ⟨lnsFrom s (f - 1) (pre.length + 1) (nxt s b), by simp⟩, hJx3⟩⟩
set_option maxHeartbeats 1000000 in
theorem each_in (n : Nat) (s : ByteArray) (w : World) : CallsIn Fence.wide n Tryd.prog 43 #[.string s] w fun e w' => e = .returned (.func (.func 46) #[] #[.pointer (some ⟨w.heap.size, 0, none⟩)]) ∧ w' = w.alloc (.cells #[.string s] 9) := by
  refine callsIn_of_wp Tryd.func43 rfl trivial ?_ rfl
  simp only [Tryd.ntmps43, List.size_toArray, List.length_cons, List.length_nil, Nat.reduceAdd, Nat.reduceSub, Array.replicate_succ, Array.replicate_zero, List.push_toArray, List.append_toArray, List.nil_append, List.cons_append]
  gi_wp2
  go_ret
  exact ⟨rfl, rfl⟩
theorem each_stops (s : ByteArray) (hs : s.size < 4294967281) (n : Nat) (hn : 1 ≤ n) (Bn : Nat) (w : World) (hc : Boxed w Bn 9 (.string s)) :
    SeqStopsK Fence.wide n Tryd.prog 46 #[.pointer (some ⟨Bn, 0, none⟩)] (encLn (s := s)) (KBox Bn) (fun ys => ys = lns s) (fun pre => pre <+: lns s) (lns s).length w := fun l J Jx W hW hJ _ hY h0 =>
  each1_in s hs n hn l Bn J Jx W hJ hY ((hW.block _ hc.lt).trans hc) h0
theorem kbox_t {Bn : Nat} {A B C : World} (h : KBox Bn A B) (k : KBox Bn B C) : KBox Bn A C := Eq.trans k h
theorem kbox_b {Bn : Nat} {w : World} (hn : Bn < w.heap.size) (W : World) (l : Nat) (o o' : Obj) (hl : w.heap.size ≤ l) (h : W.heap[l]? = some o) (_ : o.isCells = false) (_ : o.isWalk = false) : KBox Bn W (W.putObj l o') :=
  World.putObj_heap_other (fun e => by omega)
theorem kbox_set {Bn : Nat} (W : World) (a : Addr) (v : Value) (h : Bn ≠ a.block) : KBox Bn W (W.setCell a v) := Below.heap_setCell W a v Bn h
theorem kbox_alloc {Bn : Nat} (W : World) (o : Obj) (h : Bn < W.heap.size) : KBox Bn W (W.alloc o) := Below.heap_alloc W o Bn h
/-- A block of two cells. -/
def Boxed2 (W : World) (B : Nat) (t : TypeId) (v1 v2 : Value) : Prop := W.heap[B]? = some (.cells #[v1, v2] t (0, 0))
theorem Boxed2.lt {W : World} {B : Nat} {t : TypeId} {v1 v2 : Value} (h : Boxed2 W B t v1 v2) : B < W.heap.size := (Array.getElem?_eq_some_iff.1 h).1
theorem Boxed2.cell0 {W : World} {B : Nat} {t : TypeId} {v1 v2 : Value} (h : Boxed2 W B t v1 v2) : W.cell? ⟨B, 0, none⟩ = some v1 := by simp [World.cell?, show W.heap[B]? = _ from h]
theorem Boxed2.cell1 {W : World} {B : Nat} {t : TypeId} {v1 v2 : Value} (h : Boxed2 W B t v1 v2) : W.cell? ⟨B, 1, none⟩ = some v2 := by simp [World.cell?, show W.heap[B]? = _ from h]
theorem Boxed2.frozen (c : Nat) {W : World} {B : Nat} {t : TypeId} {v1 v2 : Value} (h : Boxed2 W B t v1 v2) : W.frozen? ⟨B, c, none⟩ = false := by simp [World.frozen?, show W.heap[B]? = _ from h]
theorem Boxed2.new (W : World) (t : TypeId) (v1 v2 : Value) : Boxed2 (W.alloc (.cells #[v1, v2] t)) W.heap.size t v1 v2 := World.alloc_heap_new W _
theorem Boxed2.kept {W W' : World} {row : Option Nat} {B : Nat} {t : TypeId} {v1 v2 : Value} (h : Boxed2 W B t v1 v2) (hg : W.grownBy W' row) (hne : some B ≠ row) : Boxed2 W' B t v1 v2 := (hg.block B h.lt hne).trans h
theorem Boxed2.alloc {W : World} {B : Nat} {t : TypeId} {v1 v2 : Value} (h : Boxed2 W B t v1 v2) (o : Obj) : Boxed2 (W.alloc o) B t v1 v2 := h.kept (World.grownBy_alloc W o none) (by simp)
theorem Boxed2.other {W : World} {B : Nat} {t : TypeId} {v1 v2 : Value} (h : Boxed2 W B t v1 v2) (a : Addr) (v : Value) (hne : B ≠ a.block) : Boxed2 (W.setCell a v) B t v1 v2 := (Below.heap_setCell W a v B hne).trans h
theorem Boxed2.set0 {W : World} {B : Nat} {t : TypeId} {v1 v2 : Value} (v : Value) (h : Boxed2 W B t v1 v2) : Boxed2 (W.setCell ⟨B, 0, none⟩ v) B t v v2 := by
  obtain ⟨hlt, hk⟩ := Array.getElem?_eq_some_iff.1 h
  show (W.heap.modify B _)[B]? = _
  rw [Array.getElem?_eq_getElem (by rw [Array.size_modify]; exact hlt), Array.getElem_modify_self, hk]
  rfl
theorem Boxed2.set1 {W : World} {B : Nat} {t : TypeId} {v1 v2 : Value} (v : Value) (h : Boxed2 W B t v1 v2) : Boxed2 (W.setCell ⟨B, 1, none⟩ v) B t v1 v := by
  obtain ⟨hlt, hk⟩ := Array.getElem?_eq_some_iff.1 h
  show (W.heap.modify B _)[B]? = _
  rw [Array.getElem?_eq_getElem (by rw [Array.size_modify]; exact hlt), Array.getElem_modify_self, hk]
  rfl
theorem _root_.Go.Boxed.other2 {W : World} {B : Nat} {t : TypeId} {v : Value} (h : Boxed W B t v) {a : Addr} (hne : B ≠ a.block) (u : Value) : Boxed (W.setCell a u) B t v := (Below.heap_setCell W a u B hne).trans h
theorem boxed2_own {β : Type} (B : Nat) (t : TypeId) (f1 f2 : β → Value) : Own (fun (s : β) W => Boxed2 W B t (f1 s) (f2 s)) := by
  intro s W W' row h hg hr
  refine h.kept hg (fun e => ?_)
  obtain ⟨o, ho, hc⟩ := hr B e.symm
  rw [show W.heap[B]? = _ from h] at ho
  cases ho
  simp [Obj.isCells] at hc
def Wf36 (x : S36) : Prop := (Lit.int .i64 x.f0).wf = true ∧ (Lit.int .i64 x.f1).wf = true
def mu36 (x : S36) : Nat := 1 + 1 + 1
def Wf38 (x : S38) : Prop := Wf36 x.f0 ∧ (Lit.int .i64 x.f1).wf = true ∧ (Lit.int .i64 x.f2).wf = true
def mu38 (x : S38) : Nat := mu36 x.f0 + 1 + 1 + 1
end Go.Proofs.YtbjhmknahldhaaaDoor.Q
