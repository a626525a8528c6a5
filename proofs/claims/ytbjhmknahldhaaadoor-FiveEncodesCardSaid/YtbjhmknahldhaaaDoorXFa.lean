/-
  Marks of a string, by lines: when they are right, what pieces they have, the five numbers of each. No program in sight.
-/
import Derived.Test.YtbjhmknahldhaaaDoorXYlines
namespace Go.Proofs.YtbjhmknahldhaaaDoor.XFive
open Go Go.RowKit Go.Proofs.YtbjhmknahldhaaaDoor.Q Go.Proofs.YtbjhmknahldhaaaDoorW.PrintWords Go.Proofs.YtbjhmknahldhaaaDoorW.PrintLast Go.Proofs.YtbjhmknahldhaaaDoorW.PrintMore Go.Proofs.YtbjhmknahldhaaaDoor.XEv Go.Proofs.YtbjhmknahldhaaaDoor.XUtfT Go.Proofs.YtbjhmknahldhaaaDoor.XWchars Go.Proofs.YtbjhmknahldhaaaDoor.XLines Go.Proofs.YtbjhmknahldhaaaDoor.XYlines
set_option linter.unusedVariables false
set_option linter.unusedSimpArgs false

abbrev Mk := S38
/-- Are marks right, from a place on? -/
def rgt (s : ByteArray) : Int → List Mk → Bool
  | _, [] => true
  | a, m :: r => if m.f0.f0 < a then false else if m.f0.f1 < m.f0.f0 then false else if (s.size : Int) < m.f0.f1 then false else if m.f1 < 0 then false else if m.f2 < 0 then false else
      if (beg s m.f0.f0 : Int) = m.f0.f0 then if (beg s m.f0.f1 : Int) = m.f0.f1 then rgt s m.f0.f1 r else false else false
/-- A right mark. -/
structure Ok (s : ByteArray) (m : Mk) : Prop where
  h0 : 0 ≤ m.f0.f0
  h1 : m.f0.f0 ≤ m.f0.f1
  h2 : m.f0.f1 ≤ s.size
  h3 : 0 ≤ m.f1
  h4 : 0 ≤ m.f2
  b0 : Bnd s m.f0.f0.toNat
  b1 : Bnd s m.f0.f1.toNat
/-- Marks one behind the other, none ahead of a place. -/
inductive Row (s : ByteArray) : Int → List Mk → Prop
  | nil (a : Int) : Row s a []
  | cons {a : Int} {m : Mk} {r : List Mk} (h : a ≤ m.f0.f0) (o : Ok s m) (t : Row s m.f0.f1 r) : Row s a (m :: r)
theorem bnd_of_beg {s : ByteArray} {x : Int} (h : (beg s x : Int) = x) : Bnd s x.toNat := by
  have := bnd_beg s x
  rwa [show beg s x = x.toNat by omega] at this
theorem beg_of_bnd {s : ByteArray} {x : Int} (h0 : 0 ≤ x) (h : Bnd s x.toNat) : (beg s x : Int) = x := by
  have := beg_bnd s x.toNat h
  rw [show ((x.toNat : Nat) : Int) = x by omega] at this
  omega
theorem row_of_rgt (s : ByteArray) : ∀ (l : List Mk) (a : Int), 0 ≤ a → rgt s a l = true → Row s a l
  | [], a, _, _ => .nil a
  | m :: r, a, ha, h => by
    unfold rgt at h
    split at h; · cases h
    split at h; · cases h
    split at h; · cases h
    split at h; · cases h
    split at h; · cases h
    split at h
    · split at h
      · rename_i g1 g2 g3 g4 g5 g6 g7
        exact .cons (by omega) ⟨by omega, by omega, by omega, by omega, by omega, bnd_of_beg g6, bnd_of_beg g7⟩ (row_of_rgt s r _ (by omega) h)
      · cases h
    · cases h
theorem rgt_of_row {s : ByteArray} : ∀ {l : List Mk} {a : Int}, Row s a l → rgt s a l = true
  | [], _, _ => rfl
  | m :: r, a, h => by
    cases h with
    | cons h o t =>
      have := o.h0; have := o.h1; have := o.h2; have := o.h3; have := o.h4
      unfold rgt
      rw [if_neg (by omega), if_neg (by omega), if_neg (by omega), if_neg (by omega), if_neg (by omega), if_pos (beg_of_bnd o.h0 o.b0), if_pos (beg_of_bnd (by omega) o.b1)]
      exact rgt_of_row t
theorem Row.le {s : ByteArray} {l : List Mk} {a b : Int} (h : Row s b l) (hab : a ≤ b) : Row s a l := by
  cases h with
  | nil => exact .nil a
  | cons h o t => exact .cons (by omega) o t
theorem Row.ok {s : ByteArray} {l : List Mk} {a : Int} (h : Row s a l) : ∀ m ∈ l, Ok s m ∧ a ≤ m.f0.f0 := by
  induction h with
  | nil => intro m hm; cases hm
  | cons h o t ih =>
    intro m hm
    rcases List.mem_cons.1 hm with rfl | hm
    · exact ⟨o, h⟩
    · have h1 := ih m hm; have h2 := o.h1; exact ⟨h1.1, by omega⟩

/-- What a mark has of a line. -/
def pc (s : ByteArray) (m : Mk) (x : Ln s) : Option Mk :=
  if mx m.f0.f0 (x.1.2.1 : Int) < mn m.f0.f1 (x.1.2.2 : Int) then some ⟨⟨mx m.f0.f0 (x.1.2.1 : Int), mn m.f0.f1 (x.1.2.2 : Int)⟩, m.f1, m.f2⟩ else none
/-- The pieces of a mark; of marks. -/
def pcs1 (s : ByteArray) (m : Mk) : List Mk := (lns s).filterMap (pc s m)
def pcs (s : ByteArray) (l : List Mk) : List Mk := l.flatMap (pcs1 s)
theorem mx_le (a b : Int) : a ≤ mx a b ∧ b ≤ mx a b ∧ (mx a b = a ∨ mx a b = b) := by unfold mx; split <;> omega
theorem mn_le (a b : Int) : mn a b ≤ a ∧ mn a b ≤ b ∧ (mn a b = a ∨ mn a b = b) := by unfold mn; split <;> omega
theorem pc_none {s : ByteArray} {m : Mk} {x : Ln s} (h : m.f0.f1 ≤ (x.1.2.1 : Int) ∨ (x.1.2.2 : Int) ≤ m.f0.f0) : pc s m x = none := by
  have h1 := mx_le m.f0.f0 (x.1.2.1 : Int)
  have h2 := mn_le m.f0.f1 (x.1.2.2 : Int)
  exact if_neg (by omega)
theorem pcs1_len (s : ByteArray) (m : Mk) : (pcs1 s m).length ≤ (lns s).length := List.length_filterMap_le _ _
theorem pcs_len (s : ByteArray) (l : List Mk) : (pcs s l).length ≤ l.length * (lns s).length := by
  induction l with
  | nil => simp [pcs]
  | cons m r ih =>
    have := pcs1_len s m
    unfold pcs at ih ⊢
    rw [List.flatMap_cons, List.length_append, List.length_cons, Nat.succ_mul]
    omega
theorem lns_len (s : ByteArray) : (lns s).length ≤ s.size + 1 := lnsFrom_len _ _ _
/-- A piece of a mark lies in a line. -/
structure InLn (s : ByteArray) (p : Mk) (n : Nat) (x : Ln s) : Prop where
  at_ : (lns s)[n]? = some x
  lo : (x.1.2.1 : Int) ≤ p.f0.f0
  lt : p.f0.f0 < p.f0.f1
  hi : p.f0.f1 ≤ (x.1.2.2 : Int)
theorem pc_in {s : ByteArray} {m p : Mk} {n : Nat} {x : Ln s} (hx : (lns s)[n]? = some x) (o : Ok s m) (h : pc s m x = some p) : InLn s p n x ∧ Ok s p ∧ m.f0.f0 ≤ p.f0.f0 ∧ p.f0.f1 ≤ m.f0.f1 ∧ p.f1 = m.f1 ∧ p.f2 = m.f2 := by
  unfold pc at h
  split at h
  · rename_i hlt
    obtain rfl := Option.some.inj h
    have h1 := mx_le m.f0.f0 (x.1.2.1 : Int)
    have h2 := mn_le m.f0.f1 (x.1.2.2 : Int)
    obtain ⟨l0, l1, _, l3, l4, _, _⟩ := ln s n x hx
    have := o.h0; have := o.h1; have := o.h2
    refine ⟨⟨hx, h1.2.1, hlt, h2.2.1⟩, ⟨by show (0 : Int) ≤ mx _ _; omega, by show mx _ _ ≤ mn _ _; omega, by show mn _ _ ≤ _; omega, o.h3, o.h4, ?_, ?_⟩, h1.1, h2.1, rfl, rfl⟩
    · show Bnd s (mx m.f0.f0 (x.1.2.1 : Int)).toNat
      rcases h1.2.2 with e | e <;> rw [e]
      · exact o.b0
      · exact l0
    · show Bnd s (mn m.f0.f1 (x.1.2.2 : Int)).toNat
      rcases h2.2.2 with e | e <;> rw [e]
      · exact o.b1
      · exact l1
  · cases h
/-- Pieces, one behind the other, each in a line. -/
inductive PRow (s : ByteArray) : Int → List Mk → Prop
  | nil (a : Int) : PRow s a []
  | cons {a : Int} {p : Mk} {r : List Mk} {n : Nat} {x : Ln s} (h : a ≤ p.f0.f0) (o : Ok s p) (i : InLn s p n x) (t : PRow s p.f0.f1 r) : PRow s a (p :: r)
theorem PRow.le {s : ByteArray} {l : List Mk} {a b : Int} (h : PRow s b l) (hab : a ≤ b) : PRow s a l := by
  cases h with
  | nil => exact .nil a
  | cons h o i t => exact .cons (by omega) o i t
theorem PRow.row {s : ByteArray} {l : List Mk} {a : Int} (h : PRow s a l) : Row s a l := by
  induction h with
  | nil => exact .nil _
  | cons h o i t ih => exact .cons h o ih
/-- Pieces of a stretch of lines, ahead of others. -/
theorem pcs1_row {s : ByteArray} {m : Mk} (o : Ok s m) {q : List Mk} (hq : PRow s m.f0.f1 q) : ∀ (d n : Nat) (a : Int), (lns s).length ≤ n + d → (∀ x, (lns s)[n]? = some x → a ≤ mx m.f0.f0 (x.1.2.1 : Int)) → a ≤ m.f0.f1 →
    PRow s a (((lns s).drop n).filterMap (pc s m) ++ q) := by
  intro d
  induction d with
  | zero =>
    intro n a hd _ ha
    rw [List.drop_eq_nil_of_le (by omega)]
    exact hq.le ha
  | succ d ih =>
    intro n a hd hn ha
    by_cases hlt : n < (lns s).length
    · obtain ⟨x, hx⟩ : ∃ x, (lns s)[n]? = some x := ⟨_, List.getElem?_eq_getElem hlt⟩
      rw [List.drop_eq_getElem_cons hlt, show (lns s)[n] = x from Option.some.inj ((List.getElem?_eq_getElem hlt).symm.trans hx)]
      cases hp : pc s m x with
      | none =>
        rw [List.filterMap_cons_none hp]
        refine ih (n + 1) a (by omega) (fun y hy => ?_) ha
        have h1 := hn x hx
        have h2 := ln_rise s n x hx 0 y hy
        have h3 := x.2
        have := mx_le m.f0.f0 (x.1.2.1 : Int)
        have := mx_le m.f0.f0 (y.1.2.1 : Int)
        omega
      | some p =>
        rw [List.filterMap_cons_some hp, List.cons_append]
        obtain ⟨hi, ho, h1, h2, _, _⟩ := pc_in hx o hp
        have hpx : p.f0.f0 = mx m.f0.f0 (x.1.2.1 : Int) := by
          unfold pc at hp; split at hp
          · obtain rfl := Option.some.inj hp; rfl
          · cases hp
        refine .cons (by rw [hpx]; exact hn x hx) ho hi (ih (n + 1) _ (by omega) (fun y hy => ?_) h2)
        have h3 := ln_rise s n x hx 0 y hy
        have := mx_le m.f0.f0 (y.1.2.1 : Int)
        have := hi.hi
        omega
    · rw [List.drop_eq_nil_of_le (by omega)]
      exact hq.le ha
theorem pcs_row {s : ByteArray} {l : List Mk} {a : Int} (h : Row s a l) : PRow s a (pcs s l) := by
  induction h with
  | nil => exact .nil _
  | @cons a m r h o t ih =>
    unfold pcs at ih ⊢
    rw [List.flatMap_cons]
    have := pcs1_row o ih (lns s).length 0 a (by omega) (fun x _ => by have := mx_le m.f0.f0 (x.1.2.1 : Int); omega) (by have := o.h1; omega)
    rwa [List.drop_zero] at this

/-- The line of a place. -/
def lno (s : ByteArray) (f : Nat) : Nat := ((lns s).takeWhile fun x => decide (x.1.2.1 ≤ f)).length - 1
def lbeg (s : ByteArray) (f : Nat) : Nat := ((lns s)[lno s f]?).elim 0 fun x => x.1.2.1
/-- That a line is a place's. -/
structure Here (s : ByteArray) (f n : Nat) (x : Ln s) : Prop where
  at_ : (lns s)[n]? = some x
  lo : x.1.2.1 ≤ f
  hi : ∀ y, (lns s)[n + 1]? = some y → f < y.1.2.1
theorem takeWhile_all {α : Type} (p : α → Bool) : ∀ (l : List α) (n : Nat), n ≤ l.length → (∀ i x, i < n → l[i]? = some x → p x = true) → (∀ x, l[n]? = some x → p x = false) → (l.takeWhile p).length = n
  | [], n, h, _, _ => by simp at h ⊢; omega
  | a :: l, 0, _, _, h2 => by
    have := h2 a rfl
    simp [List.takeWhile_cons, this]
  | a :: l, n + 1, h, h1, h2 => by
    have ha := h1 0 a (by omega) rfl
    rw [List.takeWhile_cons_of_pos ha, List.length_cons]
    rw [takeWhile_all p l n (by simpa using h) (fun i x hi hx => h1 (i + 1) x (by omega) (by simpa using hx)) (fun x hx => h2 x (by simpa using hx))]
theorem beg_mono (s : ByteArray) {i j : Nat} {x y : Ln s} (hx : (lns s)[i]? = some x) (hy : (lns s)[j]? = some y) (h : i ≤ j) : x.1.2.1 ≤ y.1.2.1 := by
  rcases Nat.lt_or_ge i j with hlt | hge
  · obtain ⟨d, rfl⟩ : ∃ d, j = i + d + 1 := ⟨j - i - 1, by omega⟩
    have := ln_rise s i x hx d y hy
    have := x.2
    omega
  · obtain rfl : i = j := by omega
    rw [hx] at hy
    obtain rfl := Option.some.inj hy
    exact Nat.le_refl _
theorem Here.lno {s : ByteArray} {f n : Nat} {x : Ln s} (h : Here s f n x) : lno s f = n ∧ lbeg s f = x.1.2.1 := by
  have hn := (List.getElem?_eq_some_iff.1 h.at_).1
  have e : XFive.lno s f = n := by
    unfold XFive.lno
    rw [takeWhile_all _ _ (n + 1) (by omega) (fun i y hi hy => ?_) (fun y hy => ?_)]
    · omega
    · have := beg_mono s hy h.at_ (by omega)
      have := h.lo
      exact decide_eq_true (by omega)
    · have := h.hi y hy
      exact decide_eq_false (by omega)
  refine ⟨e, ?_⟩
  unfold lbeg
  rw [e, h.at_]
  rfl
theorem InLn.here {s : ByteArray} {p : Mk} {n : Nat} {x : Ln s} (h : InLn s p n x) : Here s p.f0.f0.toNat n x := by
  have h1 := h.lo; have h2 := h.hi; have h3 := h.lt
  refine ⟨h.at_, by omega, fun y hy => ?_⟩
  have := ln_rise s n x h.at_ 0 y hy
  omega
theorem Here.mono {s : ByteArray} {f g n m : Nat} {x y : Ln s} (h : Here s f n x) (h' : Here s g m y) (hfg : f ≤ g) : n ≤ m := by
  refine Nat.le_of_not_lt fun hlt => ?_
  obtain ⟨z, hz⟩ : ∃ z, (lns s)[m + 1]? = some z := ⟨_, List.getElem?_eq_getElem (by have := (List.getElem?_eq_some_iff.1 h.at_).1; omega)⟩
  have h1 := h'.hi z hz
  have h2 := beg_mono s hz h.at_ (by omega)
  have := h.lo
  omega
/-- How many units of its line stand ahead of a place; of a stretch. -/
def char (s : ByteArray) (f : Nat) : Int := U (s.extract (lbeg s f) f)
def span (s : ByteArray) (p : Mk) : Int := U (s.extract p.f0.f0.toNat p.f0.f1.toNat)
/-- The five numbers of pieces, behind a line and units in it. -/
def fvs (s : ByteArray) : Int → Int → List Mk → List S60
  | _, _, [] => []
  | n, c, p :: r => ⟨(lno s p.f0.f0.toNat : Int) - n, if n < (lno s p.f0.f0.toNat : Int) then char s p.f0.f0.toNat else char s p.f0.f0.toNat - c, span s p, p.f1, p.f2⟩ :: fvs s (lno s p.f0.f0.toNat) (char s p.f0.f0.toNat) r
theorem fvs_len (s : ByteArray) : ∀ (l : List Mk) (n c : Int), (fvs s n c l).length = l.length
  | [], _, _ => rfl
  | _ :: r, _, _ => by simp only [fvs, List.length_cons, fvs_len s r]
theorem char_range (s : ByteArray) (f : Nat) : 0 ≤ char s f ∧ char s f ≤ s.size := by
  have := U_range (s.extract (lbeg s f) f)
  rw [ByteArray.size_extract] at this
  unfold char
  omega
end Go.Proofs.YtbjhmknahldhaaaDoor.XFive
