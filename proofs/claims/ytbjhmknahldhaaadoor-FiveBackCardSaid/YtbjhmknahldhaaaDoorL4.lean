/- Words and walks of this claim, put together by this repo's wip/xlink.py out of Q8. -/
import Derived.Test.YtbjhmknahldhaaaDoorL1
import Derived.Test.YtbjhmknahldhaaaDoorL2
import Derived.Test.YtbjhmknahldhaaaDoorL3
namespace Go.Proofs.YtbjhmknahldhaaaDoor.Q
open Go.RowKit Go.Proofs.YtbjhmknahldhaaaDoorW.PrintWords Go.Proofs.YtbjhmknahldhaaaDoorW.PrintLast Go.Proofs.YtbjhmknahldhaaaDoorW.PrintMore
attribute [local go_sem] max2_int min2_int max_two min_two max_three min_three max_four min_four   
set_option linter.unusedVariables false
set_option linter.unusedSimpArgs false
section
attribute [local go_sem] Oper.semAt_some
/-- What is made of the stretches gone through: marks, their numbers, the line, the units in it. -/
structure DS where
  l : List S38
  al : List S60
  ln : Nat
  ch : Nat
def dn (D : List Int) (x i : Nat) : Int := rd D ((5 * x + i : Nat) : Int)
/-- A line's bytes, from where lines begin. -/
def dline (s : ByteArray) (S : List Int) (n : Nat) : ByteArray := s.extract (rd S (n : Int)).toNat (mn (rd S ((n + 1 : Nat) : Int)) (s.size : Int)).toNat
def dmark (s : ByteArray) (S D : List Int) (n c x : Nat) : S38 :=
  ⟨⟨rd S (n : Int) + (XUtf.cutAt (dline s S n) (dline s S n).size 0 ((c : Int) + dn D x 1) : Nat), rd S (n : Int) + (XUtf.cutAt (dline s S n) (dline s S n).size 0 ((c : Int) + dn D x 1 + dn D x 2) : Nat)⟩, dn D x 3, dn D x 4⟩
/-- The first test of a stretch's numbers. -/
def dbad (S D : List Int) (σ : DS) (x : Nat) : Prop := dn D x 0 < 0 ∨ (S.length : Int) - 1 - σ.ln ≤ dn D x 0 ∨ dn D x 1 < 0 ∨ dn D x 2 < 0 ∨ dn D x 3 < 0 ∨ dn D x 4 < 0
instance (S D : List Int) (σ : DS) (x : Nat) : Decidable (dbad S D σ x) := by unfold dbad; exact inferInstance
def dln (D : List Int) (σ : DS) (x : Nat) : Nat := σ.ln + (dn D x 0).toNat
def dch (D : List Int) (σ : DS) (x : Nat) : Nat := if 0 < dn D x 0 then 0 else σ.ch
/-- The second test: does the stretch lie within its line? -/
def dfar (s : ByteArray) (S D : List Int) (σ : DS) (x : Nat) : Prop := ((dline s S (dln D σ x)).size : Int) - dch D σ x < dn D x 1 ∨ ((dline s S (dln D σ x)).size : Int) - dch D σ x - dn D x 1 < dn D x 2
instance (s : ByteArray) (S D : List Int) (σ : DS) (x : Nat) : Decidable (dfar s S D σ x) := by unfold dfar; exact inferInstance
def dstep (s : ByteArray) (S D : List Int) (σ : DS) (x : Nat) : Option DS :=
  if dbad S D σ x then none else if dfar s S D σ x then none else
    some ⟨σ.l ++ [dmark s S D (dln D σ x) (dch D σ x) x], σ.al ++ [⟨dn D x 0, dn D x 1, dn D x 2, dn D x 3, dn D x 4⟩], dln D σ x, dch D σ x + (dn D x 1).toNat⟩
def dall (s : ByteArray) (S D : List Int) {M : Nat} (pre : List (Fin M)) : Option DS := pre.foldl (fun o x => o.bind fun σ => dstep s S D σ x.1) (some ⟨[], [], 0, 0⟩)
theorem dall_snoc (s : ByteArray) (S D : List Int) {M : Nat} (pre : List (Fin M)) (x : Fin M) : dall s S D (pre ++ [x]) = (dall s S D pre).bind fun σ => dstep s S D σ x.1 := by
  unfold dall; rw [List.foldl_append]; rfl
theorem dall_none (s : ByteArray) (S D : List Int) {M : Nat} (pre q : List (Fin M)) (h : pre <+: q) (hn : dall s S D pre = none) : dall s S D q = none := by
  obtain ⟨r, rfl⟩ := h
  unfold dall at hn ⊢
  rw [List.foldl_append, hn]
  induction r with
  | nil => rfl
  | cons x r ih => exact ih
/-- Places where lines begin are places. -/
def sok (s : ByteArray) (S : List Int) : Prop := 2 ≤ S.length ∧ S.length ≤ 1000000 ∧ ∀ i : Nat, i + 1 < S.length → 0 ≤ rd S (i : Int) ∧ rd S (i : Int) ≤ mn (rd S ((i + 1 : Nat) : Int)) (s.size : Int) ∧ rd S ((i + 1 : Nat) : Int) ≤ 1000000000000
instance (s : ByteArray) (S : List Int) : Decidable (sok s S) := decidable_of_iff (2 ≤ S.length ∧ S.length ≤ 1000000 ∧ ∀ i : Nat, i < S.length - 1 → 0 ≤ rd S (i : Int) ∧ rd S (i : Int) ≤ mn (rd S ((i + 1 : Nat) : Int)) (s.size : Int) ∧ rd S ((i + 1 : Nat) : Int) ≤ 1000000000000)
  ⟨fun h => ⟨h.1, h.2.1, fun i hi => h.2.2 i (by omega)⟩, fun h => ⟨h.1, h.2.1, fun i hi => h.2.2 i (by omega)⟩⟩
theorem dstep_ok (s : ByteArray) (S D : List Int) (τ σ : DS) (x : Nat) (h : dstep s S D τ x = some σ) (h1 : τ.ln + 1 < S.length) : σ.ln + 1 < S.length ∧ σ.ch ≤ s.size ∧ σ.l.length = τ.l.length + 1 ∧ σ.al.length = τ.al.length + 1 := by
  unfold dstep at h
  split at h; · cases h
  split at h; · cases h
  rename_i hb hf
  obtain rfl := Option.some.inj h
  unfold dbad at hb
  unfold dfar at hf
  have hr : (dline s S (dln D τ x)).size ≤ s.size := by unfold dline; rw [ByteArray.size_extract]; omega
  refine ⟨?_, ?_, by simp, by simp⟩
  · show dln D τ x + 1 < _
    unfold dln; omega
  · show dch D τ x + _ ≤ _
    omega
theorem dfold_none (s : ByteArray) (S D : List Int) {M : Nat} : ∀ (pre : List (Fin M)), pre.foldl (fun o x => o.bind fun σ => dstep s S D σ x.1) none = none
  | [] => rfl
  | _ :: r => dfold_none s S D r
theorem dfold_ok (s : ByteArray) (S D : List Int) {M : Nat} : ∀ (pre : List (Fin M)) (τ σ : DS), τ.ln + 1 < S.length → τ.ch ≤ s.size → pre.foldl (fun o x => o.bind fun σ => dstep s S D σ x.1) (some τ) = some σ →
    σ.ln + 1 < S.length ∧ σ.ch ≤ s.size ∧ σ.l.length = τ.l.length + pre.length ∧ σ.al.length = τ.al.length + pre.length
  | [], τ, σ, h1, h2, h => by
    obtain rfl := Option.some.inj h
    exact ⟨h1, h2, rfl, rfl⟩
  | x :: r, τ, σ, h1, h2, h => by
    rw [List.foldl_cons, Option.bind_some] at h
    cases hd : dstep s S D τ x.1 with
    | none => rw [hd, dfold_none] at h; cases h
    | some ρ =>
      rw [hd] at h
      obtain ⟨g1, g2, g3, g4⟩ := dstep_ok s S D τ ρ x.1 hd h1
      obtain ⟨e1, e2, e3, e4⟩ := dfold_ok s S D r ρ σ g1 g2 h
      exact ⟨e1, e2, by rw [e3, g3, List.length_cons]; omega, by rw [e4, g4, List.length_cons]; omega⟩
theorem dall_ok (s : ByteArray) (S D : List Int) (hS : sok s S) {M : Nat} (pre : List (Fin M)) (σ : DS) (h : dall s S D pre = some σ) : σ.ln + 1 < S.length ∧ σ.ch ≤ s.size ∧ σ.l.length = pre.length ∧ σ.al.length = pre.length := by
  obtain ⟨e1, e2, e3, e4⟩ := dfold_ok s S D pre ⟨[], [], 0, 0⟩ σ hS.1 (Nat.zero_le _) h
  exact ⟨e1, e2, by rw [e3]; simp, by rw [e4]; simp⟩
def five_Decode.f (k : Nat) (a0 : ByteArray) (l1 : List Int) : Option (List S38 × Int) :=
  if a0.size ≤ 100000 ∧ l1.length ≤ 1000000 then
    if l1.length % 5 = 0 then
      (five_ends.f a0).bind fun S => if sok a0 S then
        (match dall a0 S l1 (List.finRange (l1.length / 5)) with
        | none => some ([], 230)
        | some σ => (five_Pieces.f k a0 σ.l).bind fun p => if p.2 = 0 then (if sameMarks p.1 σ.l = true then (five_fives.f k a0 p.1).bind fun v => if sameFives v σ.al = true then some (σ.l, 0) else some ([], 230) else some ([], 230)) else some ([], 230))
        else none
    else some ([], 230)
  else none
theorem five_Decode.mono : ∀ a0 l1 k, LeO (five_Decode.f k a0 l1) (five_Decode.f (k + 1) a0 l1) := by
  intro a0 l1 k
  unfold five_Decode.f
  refine LeO.ite (LeO.ite (LeO.bind (LeO.refl _) (fun S => ?_)) (LeO.refl _)) (LeO.refl _)
  by_cases hk : sok a0 S
  case neg => simp only [if_neg hk]; exact LeO.refl _
  simp only [if_pos hk]
  split
  · exact LeO.refl _
  · exact LeO.bind (five_Pieces.mono _ _ _) (fun _ => LeO.ite (LeO.ite (LeO.bind (five_fives.mono _ _ _) (fun _ => LeO.refl _)) (LeO.refl _)) (LeO.refl _))
/-- What the loop holds in memory. -/
structure DI (w : World) (q0 q1 q2 p6 p7 p8 p9 p10 d1 d2 : Nat) (a0 : ByteArray) (S : List Int) (A : Option Addr) (N c : Nat) (v6 : Value) (σ : DS) (v7 v8 : Value) (W : World) : Prop where
  b0 : Boxed W q0 9 (.string a0)
  b1 : Boxed W q1 22 (.slice none 0 0)
  b2 : Boxed W q2 28 (.int .i64 0)
  b6 : Boxed W p6 23 v6
  b7 : Boxed W p7 22 v7
  b8 : Boxed W p8 54 v8
  b9 : Boxed W p9 3 (.int .i64 σ.ln)
  b10 : Boxed W p10 3 (.int .i64 σ.ch)
  c1 : Boxed W d1 23 (.slice A N c)
  c2 : Boxed W d2 3 (.int .i64 5)
  r6 : Kd.R (Kd.int .i64) 3 W w.heap.size (fun k => k < p6) v6 S
  r7 : Kd.R k38 38 W w.heap.size (fun _ => True) v7 σ.l
  r8 : Kd.R k60 60 W w.heap.size (fun _ => True) v8 σ.al
  bel : Below w.heap.size w W
section
variable {w : World} {q0 q1 q2 p6 p7 p8 p9 p10 d1 d2 : Nat} {a0 : ByteArray} {S : List Int} {A : Option Addr} {N c : Nat} {v6 : Value} {σ : DS} {v7 v8 : Value} {W W' : World}
theorem DI.below (h : DI w q0 q1 q2 p6 p7 p8 p9 p10 d1 d2 a0 S A N c v6 σ v7 v8 W) (hb : Below W.heap.size W W') : DI w q0 q1 q2 p6 p7 p8 p9 p10 d1 d2 a0 S A N c v6 σ v7 v8 W' :=
  ⟨(hb.block _ h.b0.lt).trans h.b0, (hb.block _ h.b1.lt).trans h.b1, (hb.block _ h.b2.lt).trans h.b2, (hb.block _ h.b6.lt).trans h.b6, (hb.block _ h.b7.lt).trans h.b7, (hb.block _ h.b8.lt).trans h.b8, (hb.block _ h.b9.lt).trans h.b9, (hb.block _ h.b10.lt).trans h.b10, (hb.block _ h.c1.lt).trans h.c1, (hb.block _ h.c2.lt).trans h.c2,
    Kd.R_below h.r6 hb, Kd.R_below h.r7 hb, Kd.R_below h.r8 hb, below_step h.bel hb⟩
/-- Rows of one's own are cells: what is none may turn. -/
theorem own_cells {α : Type} {d : Kd α} {e base : Nat} {ok : Nat → Prop} {v : Value} {xs : List α} {row : Option Nat} (h : Kd.R d e W base ok v xs) (hg : W.grownBy W' row) (hr : ∀ r, row = some r → ∃ o : Obj, W.heap[r]? = some o ∧ o.isCells = false) : Kd.R d e W' base ok v xs :=
  Kd.R_mono (Kd.R_step (Kd.R_bound h) (fun k hk hlt => hg.block k hlt (fun e' => by
    obtain ⟨_, _, _, _, _, cells, hc⟩ := hk
    obtain ⟨o, ho, hn⟩ := hr k e'.symm
    rw [hc] at ho; cases ho; cases hn))) (fun _ hk => hk.1)
theorem box_cells {t : TypeId} {B : Nat} {v : Value} {row : Option Nat} (h : Boxed W B t v) (hg : W.grownBy W' row) (hr : ∀ r, row = some r → ∃ o : Obj, W.heap[r]? = some o ∧ o.isCells = false) : Boxed W' B t v :=
  h.kept hg (fun e => by
    obtain ⟨o, ho, hn⟩ := hr B e.symm
    rw [show W.heap[B]? = _ from h] at ho; cases ho; cases hn)
theorem DI.grown {row : Option Nat} (h : DI w q0 q1 q2 p6 p7 p8 p9 p10 d1 d2 a0 S A N c v6 σ v7 v8 W) (hg : W.grownBy W' row) (hr : ∀ r, row = some r → w.heap.size ≤ r ∧ ∃ o : Obj, W.heap[r]? = some o ∧ o.isCells = false) : DI w q0 q1 q2 p6 p7 p8 p9 p10 d1 d2 a0 S A N c v6 σ v7 v8 W' :=
  have hr2 := fun r e => (hr r e).2
  ⟨box_cells h.b0 hg hr2, box_cells h.b1 hg hr2, box_cells h.b2 hg hr2, box_cells h.b6 hg hr2, box_cells h.b7 hg hr2, box_cells h.b8 hg hr2, box_cells h.b9 hg hr2, box_cells h.b10 hg hr2, box_cells h.c1 hg hr2, box_cells h.c2 hg hr2,
    own_cells h.r6 hg hr2, own_cells h.r7 hg hr2, own_cells h.r8 hg hr2, ownFrom_below (Nat.le_refl _) (Nat.le_refl _) () W W' row h.bel hg hr⟩
end
theorem add_more (ad : Addr) (i j : Nat) : ad.add (i + (j + 1)) = ⟨(ad.add i).block, (ad.add i).off + (j + 1), none⟩ := by
  unfold Addr.add
  rw [if_neg (by omega)]
  by_cases h : i = 0
  · subst h; simp
  · rw [if_neg h]; simp; omega
theorem typed_far {α : Type} {d : Kd α} {e base : Nat} {ok : Nat → Prop} {v u : Value} {xs : List α} {W : World} {p t : Nat} {y : Value} (h : Kd.R d e W base ok v xs) (hb : Boxed W p t y) (ht : ∀ q, q ∈ e :: d.E → q ≠ t) : Kd.R d e (W.setCell ⟨p, 0, none⟩ u) base ok v xs :=
  Kd.R_mono (Kd.R_far (Kd.R_bound h) (fun k hk => by
    obtain ⟨_, _, _, q, hq, cells, hc⟩ := hk
    rintro rfl
    unfold Boxed at hb
    rw [hb] at hc
    injection hc with hc
    injection hc with _ hc
    exact ht q hq hc.symm) u) (fun _ hk => hk.1)
/-- The boxes lie one behind the other. -/
def Ord (q0 q1 q2 p6 p7 p8 p9 p10 d1 d2 : Nat) : Prop := q0 < q1 ∧ q1 < q2 ∧ q2 < p6 ∧ p6 < p7 ∧ p7 < p8 ∧ p8 < p9 ∧ p9 < p10 ∧ p10 < d1 ∧ d1 < d2
theorem DI.char {w : World} {q0 q1 q2 p6 p7 p8 p9 p10 d1 d2 : Nat} {a0 : ByteArray} {S : List Int} {A : Option Addr} {N c : Nat} {v6 : Value} {σ : DS} {v7 v8 : Value} {W : World} (h : DI w q0 q1 q2 p6 p7 p8 p9 p10 d1 d2 a0 S A N c v6 σ v7 v8 W) (ho : Ord q0 q1 q2 p6 p7 p8 p9 p10 d1 d2) (hw : w.heap.size ≤ q0) (v : Nat) :
    DI w q0 q1 q2 p6 p7 p8 p9 p10 d1 d2 a0 S A N c v6 ⟨σ.l, σ.al, σ.ln, v⟩ v7 v8 (W.setCell ⟨p10, 0, none⟩ (.int .i64 v)) := by
  unfold Ord at ho
  have ne : ∀ {B : Nat}, B ≠ p10 → B ≠ (⟨p10, 0, none⟩ : Addr).block := fun h => h
  exact ⟨h.b0.other2 (ne (by omega)) _, h.b1.other2 (ne (by omega)) _, h.b2.other2 (ne (by omega)) _, h.b6.other2 (ne (by omega)) _, h.b7.other2 (ne (by omega)) _, h.b8.other2 (ne (by omega)) _, h.b9.other2 (ne (by omega)) _, h.b10.set _, h.c1.other2 (ne (by omega)) _, h.c2.other2 (ne (by omega)) _,
    Kd.R_far h.r6 (fun k hk => ne (by omega)) _, typed_far h.r7 h.b10 (by decide), typed_far h.r8 h.b10 (by decide), h.bel.setCell (p := ⟨p10, 0, none⟩) (show w.heap.size ≤ p10 by omega) _⟩
theorem DI.line {w : World} {q0 q1 q2 p6 p7 p8 p9 p10 d1 d2 : Nat} {a0 : ByteArray} {S : List Int} {A : Option Addr} {N c : Nat} {v6 : Value} {σ : DS} {v7 v8 : Value} {W : World} (h : DI w q0 q1 q2 p6 p7 p8 p9 p10 d1 d2 a0 S A N c v6 σ v7 v8 W) (ho : Ord q0 q1 q2 p6 p7 p8 p9 p10 d1 d2) (hw : w.heap.size ≤ q0) (v : Nat) :
    DI w q0 q1 q2 p6 p7 p8 p9 p10 d1 d2 a0 S A N c v6 ⟨σ.l, σ.al, v, σ.ch⟩ v7 v8 (W.setCell ⟨p9, 0, none⟩ (.int .i64 v)) := by
  unfold Ord at ho
  have ne : ∀ {B : Nat}, B ≠ p9 → B ≠ (⟨p9, 0, none⟩ : Addr).block := fun h => h
  exact ⟨h.b0.other2 (ne (by omega)) _, h.b1.other2 (ne (by omega)) _, h.b2.other2 (ne (by omega)) _, h.b6.other2 (ne (by omega)) _, h.b7.other2 (ne (by omega)) _, h.b8.other2 (ne (by omega)) _, h.b9.set _, h.b10.other2 (ne (by omega)) _, h.c1.other2 (ne (by omega)) _, h.c2.other2 (ne (by omega)) _,
    Kd.R_far h.r6 (fun k hk => ne (by omega)) _, typed_far h.r7 h.b9 (by decide), typed_far h.r8 h.b9 (by decide), h.bel.setCell (p := ⟨p9, 0, none⟩) (show w.heap.size ≤ p9 by omega) _⟩
/-- What the loop holds in memory amid the two appends: the rows may be ahead of their boxes; the new mark and the five numbers lie in blocks of their own. -/
structure RJ (w : World) (q0 q1 q2 p6 p7 p8 p9 p10 d1 d2 : Nat) (a0 : ByteArray) (S : List Int) (A : Option Addr) (N c : Nat) (v6 : Value) (ln ch : Nat) (Z0 : Nat) (W : World) (gm g : Nat) (cm cf : Array Value) (l : List S38) (al : List S60) (v7 v8 y7 y8 : Value) (X : World) : Prop where
  b0 : Boxed X q0 9 (.string a0)
  b1 : Boxed X q1 22 (.slice none 0 0)
  b2 : Boxed X q2 28 (.int .i64 0)
  b6 : Boxed X p6 23 v6
  b7 : Boxed X p7 22 v7
  b8 : Boxed X p8 54 v8
  b9 : Boxed X p9 3 (.int .i64 ln)
  b10 : Boxed X p10 3 (.int .i64 ch)
  c1 : Boxed X d1 23 (.slice A N c)
  c2 : Boxed X d2 3 (.int .i64 5)
  r6 : Kd.R (Kd.int .i64) 3 X w.heap.size (fun k => k < p6) v6 S
  r7 : Kd.R k38 38 X w.heap.size (fun _ => True) y7 l
  r8 : Kd.R k60 60 X w.heap.size (fun _ => True) y8 al
  bel : Below w.heap.size w X
  kk : KeepsFrom Z0 W X
  bb : KBox2 d1 d2 W X
  hm : X.heap[gm]? = some (.cells cm 38 (0, 0))
  hf : X.heap[g]? = some (.cells cf 60 (0, 0))
section
variable {w : World} {q0 q1 q2 p6 p7 p8 p9 p10 d1 d2 : Nat} {a0 : ByteArray} {S : List Int} {A : Option Addr} {N c : Nat} {v6 : Value} {ln ch : Nat} {Z0 : Nat} {W : World} {gm g : Nat} {cm cf : Array Value} {l l' : List S38} {al al' : List S60} {v7 v8 y7 y8 : Value} {X Y : World}
theorem keepsB {B : Nat} (hb : Below X.heap.size X Y) : KeepsFrom B X Y := ⟨hb.size, fun k _ _ hk _ => (hb.block k (Array.getElem?_eq_some_iff.1 hk).1).trans hk⟩
theorem keepsR {B e : Nat} {row : Option Nat} (hg : X.grownBy Y row) (hty : ∀ k, row = some k → ∃ cells, X.heap[k]? = some (.cells cells e (0, 0))) : KeepsFrom B X Y := ⟨hg.size, fun k o _ hk ho => (hg.block k (Array.getElem?_eq_some_iff.1 hk).1 (fun e' => by
  obtain ⟨cells, hc⟩ := hty k e'.symm
  rw [hc] at hk
  cases hk
  cases ho)).trans hk⟩
theorem RJ.below (h : RJ w q0 q1 q2 p6 p7 p8 p9 p10 d1 d2 a0 S A N c v6 ln ch Z0 W gm g cm cf l al v7 v8 y7 y8 X) (hb : Below X.heap.size X Y) : RJ w q0 q1 q2 p6 p7 p8 p9 p10 d1 d2 a0 S A N c v6 ln ch Z0 W gm g cm cf l al v7 v8 y7 y8 Y :=
  ⟨(hb.block _ h.b0.lt).trans h.b0, (hb.block _ h.b1.lt).trans h.b1, (hb.block _ h.b2.lt).trans h.b2, (hb.block _ h.b6.lt).trans h.b6, (hb.block _ h.b7.lt).trans h.b7, (hb.block _ h.b8.lt).trans h.b8, (hb.block _ h.b9.lt).trans h.b9, (hb.block _ h.b10.lt).trans h.b10, (hb.block _ h.c1.lt).trans h.c1, (hb.block _ h.c2.lt).trans h.c2,
    Kd.R_below h.r6 hb, Kd.R_below h.r7 hb, Kd.R_below h.r8 hb, below_step h.bel hb, h.kk.trans (keepsB hb), ⟨(hb.block _ h.c1.lt).trans h.bb.1, (hb.block _ h.c2.lt).trans h.bb.2⟩, blk_below h.hm hb, blk_below h.hf hb⟩
theorem box_row {t e B : Nat} {u y : Value} {α : Type} {d : Kd α} {base : Nat} {ok : Nat → Prop} {xs : List α} (hb : Boxed X B t u) (hr : Kd.R d e X base ok y xs) (hne : e ≠ t) (hg : X.grownBy Y y.ownBlock) : Boxed Y B t u := by
  obtain ⟨inner, ho⟩ := Kd.R_own hr
  exact hb.kept hg (own_ne ho hb hne)
theorem RJ.app7 {y : Value} (h : RJ w q0 q1 q2 p6 p7 p8 p9 p10 d1 d2 a0 S A N c v6 ln ch Z0 W gm g cm cf l al v7 v8 y7 y8 X) (hg : X.grownBy Y y7.ownBlock) (hr : Kd.R k38 38 Y w.heap.size (fun _ => True) y l') (hb : Below w.heap.size w Y) (hn : some gm ≠ y7.ownBlock) (hn2 : some g ≠ y7.ownBlock) :
    RJ w q0 q1 q2 p6 p7 p8 p9 p10 d1 d2 a0 S A N c v6 ln ch Z0 W gm g cm cf l' al v7 v8 y y8 Y :=
  have e1 : Boxed Y d1 23 (.slice A N c) := box_row h.c1 h.r7 (by decide) hg
  have e2 : Boxed Y d2 3 (.int .i64 5) := box_row h.c2 h.r7 (by decide) hg
  ⟨box_row h.b0 h.r7 (by decide) hg, box_row h.b1 h.r7 (by decide) hg, box_row h.b2 h.r7 (by decide) hg, box_row h.b6 h.r7 (by decide) hg, box_row h.b7 h.r7 (by decide) hg, box_row h.b8 h.r7 (by decide) hg, box_row h.b9 h.r7 (by decide) hg, box_row h.b10 h.r7 (by decide) hg, e1, e2,
    Kd.R_over h.r6 h.r7 (by decide) hg, hr, Kd.R_over h.r8 h.r7 (by decide) hg, hb, h.kk.trans (keepsR hg (Kd.R_typed h.r7)), ⟨Eq.trans (Eq.trans e1 h.c1.symm) h.bb.1, Eq.trans (Eq.trans e2 h.c2.symm) h.bb.2⟩, (hg.block _ (Array.getElem?_eq_some_iff.1 h.hm).1 hn).trans h.hm, (hg.block _ (Array.getElem?_eq_some_iff.1 h.hf).1 hn2).trans h.hf⟩
theorem RJ.app8 {y : Value} (h : RJ w q0 q1 q2 p6 p7 p8 p9 p10 d1 d2 a0 S A N c v6 ln ch Z0 W gm g cm cf l al v7 v8 y7 y8 X) (hg : X.grownBy Y y8.ownBlock) (hr : Kd.R k60 60 Y w.heap.size (fun _ => True) y al') (hb : Below w.heap.size w Y) (hn : some gm ≠ y8.ownBlock) (hn2 : some g ≠ y8.ownBlock) :
    RJ w q0 q1 q2 p6 p7 p8 p9 p10 d1 d2 a0 S A N c v6 ln ch Z0 W gm g cm cf l al' v7 v8 y7 y Y :=
  have e1 : Boxed Y d1 23 (.slice A N c) := box_row h.c1 h.r8 (by decide) hg
  have e2 : Boxed Y d2 3 (.int .i64 5) := box_row h.c2 h.r8 (by decide) hg
  ⟨box_row h.b0 h.r8 (by decide) hg, box_row h.b1 h.r8 (by decide) hg, box_row h.b2 h.r8 (by decide) hg, box_row h.b6 h.r8 (by decide) hg, box_row h.b7 h.r8 (by decide) hg, box_row h.b8 h.r8 (by decide) hg, box_row h.b9 h.r8 (by decide) hg, box_row h.b10 h.r8 (by decide) hg, e1, e2,
    Kd.R_over h.r6 h.r8 (by decide) hg, Kd.R_over h.r7 h.r8 (by decide) hg, hr, hb, h.kk.trans (keepsR hg (Kd.R_typed h.r8)), ⟨Eq.trans (Eq.trans e1 h.c1.symm) h.bb.1, Eq.trans (Eq.trans e2 h.c2.symm) h.bb.2⟩, (hg.block _ (Array.getElem?_eq_some_iff.1 h.hm).1 hn).trans h.hm, (hg.block _ (Array.getElem?_eq_some_iff.1 h.hf).1 hn2).trans h.hf⟩
/-- Both boxes are brought along. -/
theorem RJ.stores (h : RJ w q0 q1 q2 p6 p7 p8 p9 p10 d1 d2 a0 S A N c v6 ln ch Z0 W gm g cm cf l al v7 v8 y7 y8 X) (ho : Ord q0 q1 q2 p6 p7 p8 p9 p10 d1 d2) (hw : w.heap.size ≤ q0) :
    DI w q0 q1 q2 p6 p7 p8 p9 p10 d1 d2 a0 S A N c v6 ⟨l, al, ln, ch⟩ y7 y8 ((X.setCell ⟨p7, 0, none⟩ y7).setCell ⟨p8, 0, none⟩ y8) ∧ KeepsFrom Z0 W ((X.setCell ⟨p7, 0, none⟩ y7).setCell ⟨p8, 0, none⟩ y8) ∧ KBox2 d1 d2 W ((X.setCell ⟨p7, 0, none⟩ y7).setCell ⟨p8, 0, none⟩ y8) := by
  unfold Ord at ho
  have n7 : ∀ {B : Nat}, B ≠ p7 → B ≠ (⟨p7, 0, none⟩ : Addr).block := fun h => h
  have n8 : ∀ {B : Nat}, B ≠ p8 → B ≠ (⟨p8, 0, none⟩ : Addr).block := fun h => h
  have hb8 : Boxed (X.setCell ⟨p7, 0, none⟩ y7) p8 54 v8 := h.b8.other2 (n7 (by omega)) _
  have e1 : Boxed ((X.setCell ⟨p7, 0, none⟩ y7).setCell ⟨p8, 0, none⟩ y8) d1 23 (.slice A N c) := (h.c1.other2 (n7 (by omega)) _).other2 (n8 (by omega)) _
  have e2 : Boxed ((X.setCell ⟨p7, 0, none⟩ y7).setCell ⟨p8, 0, none⟩ y8) d2 3 (.int .i64 5) := (h.c2.other2 (n7 (by omega)) _).other2 (n8 (by omega)) _
  refine ⟨⟨(h.b0.other2 (n7 (by omega)) _).other2 (n8 (by omega)) _, (h.b1.other2 (n7 (by omega)) _).other2 (n8 (by omega)) _, (h.b2.other2 (n7 (by omega)) _).other2 (n8 (by omega)) _, (h.b6.other2 (n7 (by omega)) _).other2 (n8 (by omega)) _, (h.b7.set _).other2 (n8 (by omega)) _, hb8.set _, (h.b9.other2 (n7 (by omega)) _).other2 (n8 (by omega)) _, (h.b10.other2 (n7 (by omega)) _).other2 (n8 (by omega)) _, e1, e2,
    Kd.R_far (Kd.R_far h.r6 (fun k hk => n7 (by omega)) _) (fun k hk => n8 (by omega)) _, typed_far (typed_far h.r7 h.b7 (by decide)) hb8 (by decide), typed_far (typed_far h.r8 h.b7 (by decide)) hb8 (by decide), (h.bel.setCell (p := ⟨p7, 0, none⟩) (show w.heap.size ≤ p7 by omega) _).setCell (p := ⟨p8, 0, none⟩) (show w.heap.size ≤ p8 by omega) _⟩,
    h.kk.trans (((KeepsOthers.setCell _ _ _).from _).trans ((KeepsOthers.setCell _ _ _).from _)), ⟨Eq.trans (Eq.trans e1 h.c1.symm) h.bb.1, Eq.trans (Eq.trans e2 h.c2.symm) h.bb.2⟩⟩
end
def KFrame (F : Nat → Act) (Pr : Nat → World → Prop) (a : Act) (w : World) : Prop := ∃ gm, a = F gm ∧ Pr gm w
theorem kframe_mk {F : Nat → Act} {Pr : Nat → World → Prop} (gm : Nat) {w : World} (h : Pr gm w) : KFrame F Pr (F gm) w := ⟨gm, rfl, h⟩
theorem n87 {q0 q1 q2 p6 p7 p8 p9 p10 d1 d2 : Nat} (ho : Ord q0 q1 q2 p6 p7 p8 p9 p10 d1 d2) : p8 ≠ (⟨p7, 0, none⟩ : Addr).block := fun h => by
  have h' : p8 = p7 := h
  unfold Ord at ho
  omega
theorem start_n {P : Program} {ops : Array Oper} {S : World → Prop} {ds : List Nat} {Q : Exit → Act → World → Prop} {id n : Nat} {a : Act} {w : World} (l : Array Bool) (hm : P.follows .mixedOrders = true) (hn : ops.size = n) (hl : Array.replicate n false = l) (hS : S w.drew)
    (h : S w.drew → wpAnyLast P .any ops (XRound.Norm fun a w => Q .normal a w) S ds n l a w.drew) : (Code.region id ops true).wp P Q a w :=
  wp_mono (start_ l hm hn hl hS h) (fun e a w h => by cases e <;> first | exact h | exact h.elim)
theorem mark_reads {w : World} {g : Nat} {x0 x1 x2 x3 : Int} (h : w.heap[g]? = some (.cells #[.int .i64 x0, .int .i64 x1, .int .i64 x2, .int .i64 x3] 38 (0, 0))) : Kd.C k38 w (some ⟨g, 0, none⟩) 1 [⟨⟨x0, x1⟩, x2, x3⟩] := by
  refine ⟨rfl, by omega, fun _ => ⟨_, rfl, fun j p hj => ⟨[.int .i64 x0, .int .i64 x1, .int .i64 x2, .int .i64 x3], rfl, ?_, fun i u hi => ?_⟩⟩⟩
  · obtain rfl : j = 0 := by have := (List.getElem?_eq_some_iff.1 hj).1; simpa using this
    obtain rfl := Option.some.inj hj
    exact k38_mk w ⟨⟨x0, x1⟩, x2, x3⟩
  · obtain rfl : j = 0 := by have := (List.getElem?_eq_some_iff.1 hj).1; simpa using this
    rw [show (⟨g, 0, none⟩ : Addr).add (0 * k38.sz + i) = ⟨g, i, none⟩ by unfold Addr.add; split <;> simp <;> omega]
    rw [blk_cell h i]
    simpa using hi
theorem reads_five {w : World} {g : Nat} {x0 x1 x2 x3 x4 : Int} (h : w.heap[g]? = some (.cells #[.int .i64 x0, .int .i64 x1, .int .i64 x2, .int .i64 x3, .int .i64 x4] 60 (0, 0))) : Kd.C k60 w (some ⟨g, 0, none⟩) 1 [⟨x0, x1, x2, x3, x4⟩] := by
  refine ⟨rfl, by omega, fun _ => ⟨_, rfl, fun j p hj => ⟨[.int .i64 x0, .int .i64 x1, .int .i64 x2, .int .i64 x3, .int .i64 x4], rfl, ?_, fun i u hi => ?_⟩⟩⟩
  · obtain rfl : j = 0 := by have := (List.getElem?_eq_some_iff.1 hj).1; simpa using this
    obtain rfl := Option.some.inj hj
    exact k60_mk w ⟨x0, x1, x2, x3, x4⟩
  · obtain rfl : j = 0 := by have := (List.getElem?_eq_some_iff.1 hj).1; simpa using this
    rw [show (⟨g, 0, none⟩ : Addr).add (0 * k60.sz + i) = ⟨g, i, none⟩ by unfold Addr.add; split <;> simp <;> omega]
    rw [blk_cell h i]
    simpa using hi
theorem int_at {w : World} {ad : Addr} {n : Nat} {D : List Int} (h : Kd.C (Kd.int .i64) w (some ad) n D) (j : Nat) (hj : j < n) : w.cell? (ad.add j) = some (.int .i64 (rd D (j : Int))) := by
  obtain ⟨hl, _, hc⟩ := h
  have hj2 : j < D.length := by rw [hl]; exact hj
  obtain ⟨ad', e, hc⟩ := hc (Nat.lt_of_le_of_lt (Nat.zero_le _) hj)
  cases e
  obtain ⟨c, _, hk, hcell⟩ := hc j _ (List.getElem?_eq_getElem hj2)
  have := hcell 0 (.int .i64 (rd D (j : Int))) (by
    rw [show c = [.int .i64 D[j]] from hk]
    unfold rd
    rw [List.getD_eq_getElem?_getD, show ((j : Int)).toNat = j from rfl, List.getElem?_eq_getElem hj2]
    rfl)
  simpa [Kd.int, Kd.scalar] using this
def dT19 : Bool × List (List Nat × List Nat) := (true, [([], []), ([], []), ([0, 1], [0, 1]), ([2], [2]), ([], []), ([], []), ([4, 5], [4, 5]), ([3, 6], [3, 6]), ([], []), ([], []), ([8, 9], [8, 9]), ([10], [10]), ([], []), ([], []), ([], []), ([14], [14]), ([13, 15], [13, 15]), ([12, 16, 6], [12, 16]), ([11, 17], [11, 17]), ([7, 18], [7, 18]), ([], []), ([20], [20]), ([], []), ([22], [22]), ([19, 21, 23], [19, 21, 23]), ([], []), ([25, 24, 17, 0, 1, 2, 3, 4, 5, 6, 7, 8, 9, 10, 11, 12, 13, 14, 15, 16, 17, 18, 19, 20, 21, 22, 23, 24, 25], [24, 25])])
def dB19 : List Nat := [0, 0, 3, 7, 0, 0, 48, 127, 0, 0, 768, 1792, 0, 0, 0, 16384, 57344, 127088, 262000, 524287, 0, 1048576, 0, 4194304, 16777215, 0, 67108863]
def dT22 : Bool × List (List Nat × List Nat) := (true, [([], []), ([0], [0]), ([1], [1]), ([2], [2]), ([2], [2]), ([3, 4, 2, 2], [2, 3, 4]), ([5, 2], [2, 5]), ([2, 6], [2, 6]), ([7, 5], [7]), ([8], [8]), ([8], [8]), ([9, 10, 8, 8], [8, 9, 10]), ([8], [8]), ([11, 12, 11, 8], [8, 11, 12]), ([13, 8], [8, 13]), ([8, 14], [8, 14])])
def dB22 : List Nat := [0, 1, 3, 7, 7, 31, 63, 127, 255, 511, 511, 2047, 511, 8191, 16383, 32767]
def dT20 : Bool × List (List Nat × List Nat) := (true, [([], []), ([], []), ([1], [1]), ([0, 2], [0, 2]), ([], []), ([], []), ([5], [5]), ([4, 6, 3], [4, 6]), ([3, 7, 0, 1, 2, 3], [3]), ([7, 8, 0, 1, 2, 3, 4, 5, 6, 7, 8], [7])])
def dB20 : List Nat := [0, 0, 2, 7, 0, 0, 32, 127, 255, 511]
theorem dcut_le (s : ByteArray) : ∀ (b p : Nat) (u : Int), p ≤ s.size → XUtf.cutAt s b p u ≤ s.size := by
  intro b
  induction b with
  | zero => intro p u hp; simp [XUtf.cutAt]
  | succ b ih =>
    intro p u hp
    rw [XUtf.cutAt]
    by_cases h : p < s.size
    · rw [if_pos h]
      split
      · omega
      · exact ih _ _ (XUtf.width_fit s p h)
    · rw [if_neg h]; exact Nat.le_refl _
theorem keepc {w w' : World} (hb : Below w.heap.size w w') {p : Addr} {v : Value} (h : w.cell? p = some v) : w'.cell? p = some v := (hb.cell (World.block_lt_of_cell? w _ h)).trans h
theorem mn_le' (a b : Int) : mn a b ≤ a ∧ mn a b ≤ b ∧ (mn a b = a ∨ mn a b = b) := by unfold mn; split <;> omega
theorem own_int {W : World} {e base : Nat} {ok : Nat → Prop} {A : Option Addr} {n c : Nat} {D : List Int} (h : Kd.R (Kd.int .i64) e W base ok (.slice A n c) D) (hn : 0 < D.length) : ∃ ad, A = some ad ∧ ∀ j, j < D.length → W.cell? (ad.add j) = some (.int .i64 (rd D (j : Int))) := by
  obtain ⟨A', c', e', hc, hr⟩ := h.2.reads
  injection e' with e1 e2 e3
  subst e1; obtain ⟨ad, e, _⟩ := hr.2.2 hn
  subst e; exact ⟨ad, rfl, fun j hj => int_at ⟨hr.1, hr.2.1, fun hn => let ⟨ad, e, hc⟩ := hr.2.2 hn; ⟨ad, e, fun j p hj => let ⟨c, h1, h2, h3⟩ := hc j p hj; ⟨c, h1, (Kd.int _).K_of_M h2, h3⟩⟩⟩ j hj⟩
set_option maxRecDepth 100000 in
set_option maxHeartbeats 40000000 in
theorem five_Decode.calls (k : Nat) (a0 : ByteArray) (A1 : Option Addr) (c1 : Nat) (l1 : List Int) (r1 : List S38) (r2 : Int) (w : World) (hr1 : Kd.C (Kd.int .i64) w A1 l1.length l1) (hc1 : l1.length ≤ c1) (hG : GlobOk w) (h : five_Decode.f k a0 l1 = some (r1, r2)) :
    Calls Tryd.prog 14 #[.string a0, .slice A1 l1.length c1] w fun e w' => ∃ v0_ : Value, e = .returned (.tuple #[v0_, .int .i64 r2]) ∧ Kd.R k38 38 w' w.heap.size (fun _ => True) v0_ r1 ∧ Below w.heap.size w w' := by
  unfold five_Decode.f at h
  by_cases hsz : a0.size ≤ 100000 ∧ l1.length ≤ 1000000
  case neg => rw [if_neg hsz] at h; cases h
  rw [if_pos hsz] at h
  obtain ⟨hs1, hs2⟩ := hsz
  have hu60 := Tryd.underlying60
  by_cases h5 : l1.length % 5 = 0
  case neg =>
    rw [if_neg h5] at h
    obtain ⟨rfl, rfl⟩ : r1 = [] ∧ r2 = 230 := by have := Option.some.inj h; exact ⟨(congrArg Prod.fst this).symm, (congrArg Prod.snd this).symm⟩
    clear h hr1; obtain ⟨n, hn⟩ : ∃ n, l1.length = n := ⟨_, rfl⟩
    rw [hn] at h5 hs2 hc1 ⊢
    have hm : ((n : Int) % 5 != 0) = true := bne_iff_ne.2 (by omega)
    clear hn; go_enter Tryd.func14, Tryd.ntmps14
    go_wp2
    have hB1 : Boxed (((w.alloc (.cells #[.string a0] 9)).alloc (.cells #[.slice none 0 0] 22)).alloc (.cells #[.int .i64 230] 28)) (w.heap.size + 1) 22 (.slice none 0 0) := by
      have := (Boxed.new (w.alloc (.cells #[.string a0] 9)) 22 (.slice none 0 0)).alloc (.cells #[.int .i64 230] 28)
      simpa using this
    have hB2 : Boxed (((w.alloc (.cells #[.string a0] 9)).alloc (.cells #[.slice none 0 0] 22)).alloc (.cells #[.int .i64 230] 28)) (w.heap.size + 1 + 1) 28 (.int .i64 230) := by
      have := Boxed.new ((w.alloc (.cells #[.string a0] 9)).alloc (.cells #[.slice none 0 0] 22)) 28 (.int .i64 230)
      simpa using this
    have q1 := hB1.cell
    have q2 := hB2.cell
    exact bodyPost_ret (v := .tuple #[.slice none 0 0, .int .i64 230]) (by simp [results, Tryd.results14, go_sem, q1, q2]) rfl ⟨_, rfl, Kd.R_nil _ _ _ _ _, (((Below.refl _ _).alloc (Nat.le_refl _) _).alloc (by simp) _).alloc (by simp; omega) _⟩
  rw [if_pos h5] at h
  obtain ⟨S, hS, h⟩ := Option.bind_eq_some_iff.1 h
  by_cases hok : sok a0 S
  case neg => rw [if_neg hok] at h; cases h
  rw [if_pos hok] at h
  obtain ⟨n, hn⟩ : ∃ n, l1.length = n := ⟨_, rfl⟩
  obtain ⟨M, hM⟩ : ∃ M, n / 5 = M := ⟨_, rfl⟩
  rw [hn] at h h5 hs2 hc1 hr1 ⊢
  rw [hM] at h
  have hnM : n = 5 * M := by omega
  have hAd : 0 < M → ∃ ad, A1 = some ad := fun hp => let ⟨ad, e, _⟩ := hr1.2.2 (by omega); ⟨ad, e⟩
  have hm : ((n : Int) % 5 != 0) = false := bne_eq_false_iff_eq.2 (by omega)
  have HR := Aside0.mk hr1; have HNM := Aside0.mk hnM; have HG := Aside0.mk hG; have H := Aside0.mk h; have HS := Aside0.mk hS; have HOK := Aside0.mk hok; have HAD := Aside0.mk hAd; have HC := Aside0.mk hc1; have HLN := Aside0.mk hn; clear hr1 hnM hG h hS hok hAd h5 hM hn hc1; refine (callsIn_wide (n := 3)).1 ?_
  refine callsIn_of_wp_marks Tryd.func14 rfl trivial ?_ rfl
  simp only [Tryd.ntmps14, List.size_toArray, List.length_cons, List.length_nil, Nat.reduceAdd, Nat.reduceSub, Array.replicate_succ, Array.replicate_zero, List.push_toArray, List.append_toArray, List.nil_append, List.cons_append]
  gi_wp2_with (first
    | (refine ⟨trivial, ?_⟩; gi_at_call 25; refine (callsIn_wide.2 (five_ends.calls a0 S _ HS.out)).mono ?_; rintro e w1 ⟨v6, rfl, hR6, hb1⟩; obtain ⟨A6, c6, rfl, hc6, _⟩ := hR6.2.reads)
    | (refine ⟨trivial, ?_⟩; gi_at_call 26; refine (chunk_in _ _ _ _ _).mono ?_; rintro e w' ⟨rfl, rfl⟩))
  obtain ⟨q1, hq1⟩ : ∃ q_, w.heap.size + 1 = q_ := ⟨_, rfl⟩
  rw [hq1]
  obtain ⟨q2, hq2⟩ : ∃ q_, q1 + 1 = q_ := ⟨_, rfl⟩
  rw [hq2]
  obtain ⟨p6, hp6⟩ : ∃ q_, w1.heap.size = q_ := ⟨_, rfl⟩
  rw [hp6]
  obtain ⟨p7, hp7⟩ : ∃ q_, p6 + 1 = q_ := ⟨_, rfl⟩
  rw [hp7]
  obtain ⟨p8, hp8⟩ : ∃ q_, p7 + 1 = q_ := ⟨_, rfl⟩
  rw [hp8]
  obtain ⟨p9, hp9⟩ : ∃ q_, p8 + 1 = q_ := ⟨_, rfl⟩
  rw [hp9]
  obtain ⟨p10, hp10⟩ : ∃ q_, p9 + 1 = q_ := ⟨_, rfl⟩
  rw [hp10]
  obtain ⟨d1, hd1⟩ : ∃ q_, p10 + 1 = q_ := ⟨_, rfl⟩
  rw [hd1]
  obtain ⟨d2, hd2⟩ : ∃ q_, d1 + 1 = q_ := ⟨_, rfl⟩
  rw [hd2]
  obtain ⟨W0, hW0⟩ : ∃ W0, (((((((w1.alloc (.cells #[.slice A6 S.length c6] 23)).alloc (.cells #[.slice none 0 0] 22)).alloc (.cells #[.slice none 0 0] 54)).alloc (.cells #[.int .i64 0] 3)).alloc (.cells #[.int .i64 0] 3)).alloc (.cells #[.slice A1 n c1] 23)).alloc (.cells #[.int .i64 5] 3)) = W0 := ⟨_, rfl⟩
  have hD0 : DI w w.heap.size q1 q2 p6 p7 p8 p9 p10 d1 d2 a0 S A1 n c1 (.slice A6 S.length c6) ⟨[], [], 0, 0⟩ (.slice none 0 0) (.slice none 0 0) W0 := by
    have e2 : (((w.alloc (.cells #[.string a0] 9)).alloc (.cells #[.slice none 0 0] 22)).alloc (.cells #[.int .i64 0] 28)).heap.size = q2 + 1 := by simp; omega
    have k0 := ((Boxed.new w 9 (.string a0)).alloc (.cells #[.slice none 0 0] 22)).alloc (.cells #[.int .i64 0] 28)
    have k1 := (Boxed.new (w.alloc (.cells #[.string a0] 9)) 22 (.slice none 0 0)).alloc (.cells #[.int .i64 0] 28)
    have k2 := Boxed.new ((w.alloc (.cells #[.string a0] 9)).alloc (.cells #[.slice none 0 0] 22)) 28 (.int .i64 0)
    have j0 : Boxed w1 w.heap.size 9 (.string a0) := (hb1.block _ k0.lt).trans k0
    have j1 : Boxed w1 q1 22 (.slice none 0 0) := by
      have := (hb1.block _ k1.lt).trans k1
      simp only [World.size_alloc, hq1] at this
      exact this
    have j2 : Boxed w1 q2 28 (.int .i64 0) := by
      have := (hb1.block _ k2.lt).trans k2
      simp only [World.size_alloc, hq1, hq2] at this
      exact this
    have hbw : Below w.heap.size w w1 := below_step ((((Below.refl _ w).alloc (Nat.le_refl _) _).alloc (by simp) _).alloc (by simp; omega) _) hb1
    have hr6 : Kd.R (Kd.int .i64) 3 w1 w.heap.size (fun k => k < p6) (.slice A6 S.length c6) S := Kd.R_mono (Kd.R_bound (Kd.R_lower hR6 (by rw [e2]; omega))) (fun k hk => by rw [← hp6]; exact hk.2.2.1)
    have m6 := Boxed.new w1 23 (.slice A6 S.length c6)
    have m7 := Boxed.new (w1.alloc (.cells #[.slice A6 S.length c6] 23)) 22 (.slice none 0 0)
    have m8 := Boxed.new ((w1.alloc (.cells #[.slice A6 S.length c6] 23)).alloc (.cells #[.slice none 0 0] 22)) 54 (.slice none 0 0)
    have m9 := Boxed.new (((w1.alloc (.cells #[.slice A6 S.length c6] 23)).alloc (.cells #[.slice none 0 0] 22)).alloc (.cells #[.slice none 0 0] 54)) 3 (.int .i64 0)
    have m10 := Boxed.new ((((w1.alloc (.cells #[.slice A6 S.length c6] 23)).alloc (.cells #[.slice none 0 0] 22)).alloc (.cells #[.slice none 0 0] 54)).alloc (.cells #[.int .i64 0] 3)) 3 (.int .i64 0)
    have m11 := Boxed.new (((((w1.alloc (.cells #[.slice A6 S.length c6] 23)).alloc (.cells #[.slice none 0 0] 22)).alloc (.cells #[.slice none 0 0] 54)).alloc (.cells #[.int .i64 0] 3)).alloc (.cells #[.int .i64 0] 3)) 23 (.slice A1 n c1)
    have m12 := Boxed.new ((((((w1.alloc (.cells #[.slice A6 S.length c6] 23)).alloc (.cells #[.slice none 0 0] 22)).alloc (.cells #[.slice none 0 0] 54)).alloc (.cells #[.int .i64 0] 3)).alloc (.cells #[.int .i64 0] 3)).alloc (.cells #[.slice A1 n c1] 23)) 3 (.int .i64 5)
    simp only [World.size_alloc, hp6, hp7, hp8, hp9, hp10, hd1, hd2] at m6 m7 m8 m9 m10 m11 m12
    have hB : Below w1.heap.size w1 W0 := by
      rw [← hW0]
      repeat (first | exact Below.refl _ _ | apply below_alloc)
    rw [← hW0] at hB ⊢
    exact ⟨(hB.block _ j0.lt).trans j0, (hB.block _ j1.lt).trans j1, (hB.block _ j2.lt).trans j2, (((((m6.alloc _).alloc _).alloc _).alloc _).alloc _).alloc _, ((((m7.alloc _).alloc _).alloc _).alloc _).alloc _, (((m8.alloc _).alloc _).alloc _).alloc _, ((m9.alloc _).alloc _).alloc _, (m10.alloc _).alloc _, m11.alloc _, m12,
      Kd.R_below hr6 hB, Kd.R_nil _ _ _ _ _, Kd.R_nil _ _ _ _ _, below_step hbw hB⟩
  rw [hW0]
  clear hW0; have hcap : n ≤ c1 := HC.out
  have hM9 : M < 1000000000 := by have := HNM.out; omega
  have hdz : d2 < W0.heap.size := hD0.c2.lt
  refine wpIn_rangeFunc_ownH rfl (by decide) (gf := 39) (lb := #[.pointer (some ⟨d1, 0, none⟩), .pointer (some ⟨d2, 0, none⟩)]) rfl trivial (enters_of Tryd.func39 (by kernel_rfl) rfl)
    (chunk_stops A1 n M c1 HNM.out HAD.out hM9 hcap 2 (by decide) d1 d2 W0 hD0.c1 hD0.c2) kbox2_t (kbox2_b hD0.c1.lt hD0.c2.lt) (Below.refl _ _) (fun _ => rfl)
    (fun pre W => ∃ σ v7 v8, dall a0 S l1 pre = some σ ∧ DI w w.heap.size q1 q2 p6 p7 p8 p9 p10 d1 d2 a0 S A1 n c1 (.slice A6 S.length c6) σ v7 v8 W)
    (fun c pre W => c = .ret ∧ dall a0 S l1 pre = none ∧ Boxed W q1 22 (.slice none 0 0) ∧ Boxed W q2 28 (.int .i64 230) ∧ Below w.heap.size w W)
    (fun pre X Y row hs hg hr => by obtain ⟨σ, v7, v8, h1, h2⟩ := hs; exact ⟨σ, v7, v8, h1, h2.grown hg (fun r e => ⟨Nat.le_trans hD0.bel.size (hr r e).1, (hr r e).2⟩)⟩)
    (fun c pre X Y row hs hg hr => by obtain ⟨h0, h1, h2, h3, h4⟩ := hs; exact ⟨h0, h1, box_cells h2 hg (fun r e => (hr r e).2), box_cells h3 hg (fun r e => (hr r e).2), ownFrom_below (Nat.le_refl _) (Nat.le_refl _) () X Y row h4 hg (fun r e => ⟨Nat.le_trans hD0.bel.size (hr r e).1, (hr r e).2⟩)⟩)
    ⟨_, _, _, rfl, hD0⟩
    (fun x a' W => a' = { tmps := #[.string a0, .slice A1 n c1, .pointer (some ⟨w.heap.size, 0, none⟩), undef, .pointer (some ⟨q1, 0, none⟩), .pointer (some ⟨q2, 0, none⟩), .pointer (some ⟨p6, 0, none⟩), .pointer (some ⟨p7, 0, none⟩), .pointer (some ⟨p8, 0, none⟩), .pointer (some ⟨p9, 0, none⟩), .pointer (some ⟨p10, 0, none⟩), fiveAt A1 x.1, undef, undef, undef, undef, undef, .slice A1 n c1, .int .i64 n, .int .i64 ((n : Int) % 5), .bool false, .string a0, .slice A6 S.length c6, .slice A1 n c1, .func (.func 39) #[] #[.pointer (some ⟨d1, 0, none⟩), .pointer (some ⟨d2, 0, none⟩)], fiveAt A1 x.1, undef, undef, undef, undef, undef, undef, undef, undef, undef, undef, undef, undef, undef, undef, undef, undef, undef, undef, undef, undef, undef, undef, undef, undef, undef, undef, undef, undef, undef, undef, undef, undef, undef, undef, undef, undef, undef, undef, undef, undef, undef, undef, undef, undef, undef, undef, undef, undef, undef, undef, undef, undef, undef, undef, undef, undef, undef, undef, undef, undef, undef, undef, undef, undef, undef, undef, undef, undef, undef, undef, undef, undef, undef, undef, undef, undef, undef, undef, undef, undef, undef, undef, undef, undef, undef, undef, undef, undef, undef, undef, undef, undef, undef, undef, undef, undef, undef, undef, undef, undef, undef, undef, undef, undef, undef, undef, undef, undef, undef, undef, undef, undef, undef, undef, undef, undef, undef, undef, undef, undef, undef, undef, undef, undef, undef, undef, undef, undef, undef, undef, undef, undef, undef, undef, undef, undef], defers := [] })
    (fun x a' _ X Y row hs hg hr => hs)
    ?assign ?body ?done ?stop
  case assign =>
    rintro l pre x W K hI hK
    gi_wp2
    exact hK _ _ (KeepsFrom.refl _ _) ⟨rfl, rfl⟩ hI rfl
  case body =>
    rintro l pre x a' W hl _ ⟨σ, v7, v8, hσ, D⟩ rfl hlt
    obtain ⟨ad, hAd⟩ := HAD.out (by have := x.2; omega)
    subst hAd; simp only [fiveAt, Option.map_some]
    have hxM := x.2
    obtain ⟨i, hi⟩ : ∃ i, 5 * x.1 = i := ⟨_, rfl⟩
    have hin : i + 5 ≤ n := by have := HNM.out; omega
    rw [hi]
    obtain ⟨g1, g2, g3, g4⟩ := dall_ok a0 S l1 HOK.out pre σ hσ
    have HLEN := Aside0.mk (show σ.l.length = pre.length ∧ σ.al.length = pre.length from ⟨g3, g4⟩)
    have hord : Ord w.heap.size q1 q2 p6 p7 p8 p9 p10 d1 d2 := by unfold Ord; have := hb1.size; simp at this; omega
    have hstep : dall a0 S l1 (pre ++ [x]) = dstep a0 S l1 σ x.1 := by rw [dall_snoc, hσ]; rfl
    obtain ⟨f0, e0⟩ : ∃ f, dn l1 x.1 0 = f := ⟨_, rfl⟩
    obtain ⟨f1, e1⟩ : ∃ f, dn l1 x.1 1 = f := ⟨_, rfl⟩
    obtain ⟨f2, e2⟩ : ∃ f, dn l1 x.1 2 = f := ⟨_, rfl⟩
    obtain ⟨f3, e3⟩ : ∃ f, dn l1 x.1 3 = f := ⟨_, rfl⟩
    obtain ⟨f4, e4⟩ : ∃ f, dn l1 x.1 4 = f := ⟨_, rfl⟩
    have y0 := int_at HR.out (i + 0) (by omega)
    have y1 := int_at HR.out (i + 1) (by omega)
    have y2 := int_at HR.out (i + 2) (by omega)
    have y3 := int_at HR.out (i + 3) (by omega)
    have y4 := int_at HR.out (i + 4) (by omega)
    rw [← hi] at y0 y1 y2 y3 y4
    rw [show rd l1 ((5 * x.1 + 0 : Nat) : Int) = f0 from e0] at y0
    rw [show rd l1 ((5 * x.1 + 1 : Nat) : Int) = f1 from e1] at y1
    rw [show rd l1 ((5 * x.1 + 2 : Nat) : Int) = f2 from e2] at y2
    rw [show rd l1 ((5 * x.1 + 3 : Nat) : Int) = f3 from e3] at y3
    rw [show rd l1 ((5 * x.1 + 4 : Nat) : Int) = f4 from e4] at y4
    rw [hi] at y0 y1 y2 y3 y4
    rw [add_more ad i 0] at y1
    rw [add_more ad i 1] at y2
    rw [add_more ad i 2] at y3
    rw [add_more ad i 3] at y4
    replace y0 : W.cell? (ad.add i) = some (.int .i64 f0) := (D.bel.cell (World.block_lt_of_cell? w _ y0)).trans y0
    replace y1 : W.cell? ⟨(ad.add i).block, (ad.add i).off + 1, none⟩ = some (.int .i64 f1) := (D.bel.cell (World.block_lt_of_cell? w _ y1)).trans y1
    replace y2 : W.cell? ⟨(ad.add i).block, (ad.add i).off + 2, none⟩ = some (.int .i64 f2) := (D.bel.cell (World.block_lt_of_cell? w _ y2)).trans y2
    replace y3 : W.cell? ⟨(ad.add i).block, (ad.add i).off + 3, none⟩ = some (.int .i64 f3) := (D.bel.cell (World.block_lt_of_cell? w _ y3)).trans y3
    replace y4 : W.cell? ⟨(ad.add i).block, (ad.add i).off + 4, none⟩ = some (.int .i64 f4) := (D.bel.cell (World.block_lt_of_cell? w _ y4)).trans y4
    have hretG : ∀ (W3 : World) (a2 : Act), KeepsFrom W0.heap.size W W3 → Boxed W3 q1 22 (.slice none 0 0) → Boxed W3 q2 28 (.int .i64 230) → Below w.heap.size w W3 → dall a0 S l1 (pre ++ [x]) = none →
        ownPostG W0.heap.size (KBox2 d1 d2) (fun pre W => ∃ σ v7 v8, dall a0 S l1 pre = some σ ∧ DI w w.heap.size q1 q2 p6 p7 p8 p9 p10 d1 d2 a0 S (some ad) n c1 (.slice A6 S.length c6) σ v7 v8 W) (fun c pre W => c = .ret ∧ dall a0 S l1 pre = none ∧ Boxed W q1 22 (.slice none 0 0) ∧ Boxed W q2 28 (.int .i64 230) ∧ Below w.heap.size w W) (pre ++ [x]) W Exit.ret a2 W3 :=
      fun W3 a2 h1 h2 h3 h4 h5 => ⟨h1, rfl, h5, h2, h3, h4⟩
    have hat : ∀ W : World, (Instr.arrayAt 60 (.slice (some (ad.add i)) 5 5)).run Tryd.prog W = .ok (.pointer (some (ad.add i))) W := fun W => by
      unfold Instr.arrayAt
      simp only [Sem.run_bind, run_underlying hu60, Result.andThen_ok]
      simp
    have D1 : DI w w.heap.size q1 q2 p6 p7 p8 p9 p10 d1 d2 a0 S (some ad) n c1 (.slice A6 S.length c6) σ v7 v8 (W.alloc (.cells #[.int .i64 f0, .int .i64 f1, .int .i64 f2, .int .i64 f3, .int .i64 f4] 60)) := D.below ((Below.refl _ _).alloc (Nat.le_refl _) _)
    have c6' := D.b6.cell
    have c9 := D.b9.cell
    have c10 := D.b10.cell
    have k1 := D.b1.frozen
    have k2 := D.b2.frozen
    have k9 := D.b9.frozen
    have k10 := D.b10.frozen
    have z1 := D.b1.lt
    have z2 := D.b2.lt
    have z6 := D.b6.lt
    have z9 := D.b9.lt
    have z10 := D.b10.lt
    have cq1 := D.b1.cell
    have cq2 := D.b2.cell
    have hne12 : q1 ≠ q2 := by unfold Ord at hord; omega
    have hSlen : (2 : Int) ≤ (S.length : Int) := by have := HOK.out.1; omega
    have hSlen2 : (S.length : Int) ≤ 1000000 := by have := HOK.out.2.1; omega
    have g1' : (σ.ln : Int) + 1 < (S.length : Int) := by omega
    have hbad0 : dstep a0 S l1 σ x.1 = if dbad S l1 σ x.1 then none else if dfar a0 S l1 σ x.1 then none else some ⟨σ.l ++ [dmark a0 S l1 (dln l1 σ x.1) (dch l1 σ x.1) x.1], σ.al ++ [⟨f0, f1, f2, f3, f4⟩], dln l1 σ x.1, dch l1 σ x.1 + f1.toNat⟩ := by rw [← e0, ← e1, ← e2, ← e3, ← e4]; rfl
    have hbadI : dbad S l1 σ x.1 ↔ (f0 < 0 ∨ (S.length : Int) - 1 - σ.ln ≤ f0 ∨ f1 < 0 ∨ f2 < 0 ∨ f3 < 0 ∨ f4 < 0) := by unfold dbad; rw [e0, e1, e2, e3, e4]
    obtain ⟨lN, hlN⟩ : ∃ lN, σ.ln = lN := ⟨_, rfl⟩
    obtain ⟨cH, hcH⟩ : ∃ cH, σ.ch = cH := ⟨_, rfl⟩
    rw [hlN] at c9 g1' hbadI
    rw [hcH] at c10
    have HB0 := Aside0.mk hbad0; have HBI := Aside0.mk hbadI; have HST := Aside0.mk hstep; have HORD := Aside0.mk hord; have HLN2 := Aside0.mk hlN; have HCH := Aside0.mk hcH; have HE := Aside0.mk (And.intro e0 (And.intro e1 (And.intro e2 (And.intro e3 e4))))
    clear hbad0 hbadI hstep hord hlN hcH e0 e1 e2 e3 e4 g1 g3 g4; by_cases hb : f0 < 0 ∨ (S.length : Int) - 1 - lN ≤ f0 ∨ f1 < 0 ∨ f2 < 0 ∨ f3 < 0 ∨ f4 < 0
    · have hno : dall a0 S l1 (pre ++ [x]) = none := by rw [HST.out, HB0.out, if_pos (HBI.out.2 hb)]
      have HNO := Aside0.mk hno; clear hno; have fin : ∀ a2, ownPostG W0.heap.size (KBox2 d1 d2) (fun pre W => ∃ σ v7 v8, dall a0 S l1 pre = some σ ∧ DI w w.heap.size q1 q2 p6 p7 p8 p9 p10 d1 d2 a0 S (some ad) n c1 (.slice A6 S.length c6) σ v7 v8 W) (fun c pre W => c = .ret ∧ dall a0 S l1 pre = none ∧ Boxed W q1 22 (.slice none 0 0) ∧ Boxed W q2 28 (.int .i64 230) ∧ Below w.heap.size w W) (pre ++ [x]) W Exit.ret a2
          (((W.setCell ⟨q1, 0, none⟩ (.slice none 0 0)).setCell ⟨q2, 0, none⟩ (.int .i64 230)).alloc (.cells #[.int .i64 f0, .int .i64 f1, .int .i64 f2, .int .i64 f3, .int .i64 f4] 60)) := fun a2 => by
        have ho := HORD.out
        unfold Ord at ho
        have hb2 : Below w.heap.size w ((W.setCell ⟨q1, 0, none⟩ (.slice none 0 0)).setCell ⟨q2, 0, none⟩ (.int .i64 230)) := (D.bel.setCell (p := ⟨q1, 0, none⟩) (show w.heap.size ≤ q1 by omega) _).setCell (p := ⟨q2, 0, none⟩) (show w.heap.size ≤ q2 by omega) _
        exact hretG _ _ (((KeepsOthers.setCell _ _ _).from _).trans (((KeepsOthers.setCell _ _ _).from _).trans ((KeepsOthers.alloc _ _).from _))) (((D.b1.set _).other2 (show q1 ≠ q2 by omega) _).alloc _) (((D.b2.other2 (show q2 ≠ q1 by omega) _).set _).alloc _) (hb2.alloc hb2.size _) HNO.out
      by_cases w0 : f0 < 0
      · have t0 : decide (f0 < 0) = true := decide_eq_true w0
        clear hb w0; gi_wp2
        exact fin _
      have t0 : decide (f0 < 0) = false := decide_eq_false w0
      by_cases w1 : (S.length : Int) - 1 - lN ≤ f0
      · have t1 : decide ((S.length : Int) - 1 - (lN : Int) ≤ f0) = true := decide_eq_true w1
        clear hb w0 w1; gi_wp2
        exact fin _
      have t1 : decide ((S.length : Int) - 1 - (lN : Int) ≤ f0) = false := decide_eq_false w1
      by_cases w2 : f1 < 0
      · have t2 : decide (f1 < 0) = true := decide_eq_true w2
        clear hb w0 w1 w2; gi_wp2
        exact fin _
      have t2 : decide (f1 < 0) = false := decide_eq_false w2
      by_cases w3 : f2 < 0
      · have t3 : decide (f2 < 0) = true := decide_eq_true w3
        clear hb w0 w1 w2 w3; gi_wp2
        exact fin _
      have t3 : decide (f2 < 0) = false := decide_eq_false w3
      by_cases w4 : f3 < 0
      · have t4 : decide (f3 < 0) = true := decide_eq_true w4
        clear hb w0 w1 w2 w3 w4; gi_wp2
        exact fin _
      have t4 : decide (f3 < 0) = false := decide_eq_false w4
      have w5 : f4 < 0 := by omega
      have t5 : decide (f4 < 0) = true := decide_eq_true w5
      clear hb w0 w1 w2 w3 w4 w5; gi_wp2
      exact fin _
    obtain ⟨F0, rfl⟩ : ∃ F : Nat, f0 = F := ⟨f0.toNat, by omega⟩
    obtain ⟨F1, rfl⟩ : ∃ F : Nat, f1 = F := ⟨f1.toNat, by omega⟩
    obtain ⟨F2, rfl⟩ : ∃ F : Nat, f2 = F := ⟨f2.toNat, by omega⟩
    have t0 : decide ((F0 : Int) < 0) = false := decide_eq_false (by omega)
    have t1 : decide ((S.length : Int) - 1 - (lN : Int) ≤ (F0 : Int)) = false := decide_eq_false (by omega)
    have t2 : decide ((F1 : Int) < 0) = false := decide_eq_false (by omega)
    have t3 : decide ((F2 : Int) < 0) = false := decide_eq_false (by omega)
    have t4 : decide (f3 < 0) = false := decide_eq_false (by omega)
    have t5 : decide (f4 < 0) = false := decide_eq_false (by omega)
    obtain ⟨L, hL⟩ : ∃ L, lN + F0 = L := ⟨_, rfl⟩
    have hLlt : L + 1 < S.length := by omega
    have hF0S : (F0 : Int) < (S.length : Int) - 1 - lN := by omega
    have HNB := Aside0.mk hb; have HL := Aside0.mk hL; have hLs : (lN : Int) + (F0 : Int) = (L : Int) := by omega
    have hne9 : p9 ≠ p10 := by have := HORD.out; unfold Ord at this; omega
    clear hb hL; have hdch : dch l1 σ x.1 = if 0 < F0 then 0 else cH := by
      unfold dch
      rw [HE.out.1, HCH.out]
      by_cases hp : 0 < F0
      · rw [if_pos hp, if_pos (show (0 : Int) < (F0 : Int) by omega)]
      · rw [if_neg hp, if_neg (show ¬ (0 : Int) < (F0 : Int) by omega)]
    have hdln : dln l1 σ x.1 = L := by unfold dln; rw [HE.out.1, HLN2.out]; exact HL.out
    have hcHle : cH ≤ a0.size := by rw [← HCH.out]; exact g2
    obtain ⟨CH, hCH⟩ : ∃ CH, (if 0 < F0 then 0 else cH) = CH := ⟨_, rfl⟩
    have hCHle : CH ≤ a0.size := by rw [← hCH]; split <;> omega
    rw [hCH] at hdch
    have HDC := Aside0.mk hdch; have HDL := Aside0.mk hdln; have HCHE := Aside0.mk hCH; clear hdch hdln hcHle hCH; rcases Nat.lt_or_ge 0 F0 with hp | hp
    all_goals
      have hX : ∃ X : World, (∃ v7 v8, DI w w.heap.size q1 q2 p6 p7 p8 p9 p10 d1 d2 a0 S (some ad) n c1 (.slice A6 S.length c6) ⟨σ.l, σ.al, L, CH⟩ v7 v8 X) ∧ KeepsFrom W0.heap.size W X ∧ KBox2 d1 d2 W X ∧ X.heap.size = W.heap.size ∧
          (X = (W.setCell ⟨p10, 0, none⟩ (.int .i64 0)).setCell ⟨p9, 0, none⟩ (.int .i64 L) ∧ 0 < F0 ∨ X = W.setCell ⟨p9, 0, none⟩ (.int .i64 L) ∧ F0 = 0) := by
        have ho := HORD.out
        have hne := HORD.out
        unfold Ord at hne
        have e1 := HCHE.out
        first
          | (rw [if_pos hp] at e1
             subst e1; exact ⟨_, ⟨_, _, (D.char ho (Nat.le_refl _) 0).line ho (Nat.le_refl _) L⟩, ((KeepsOthers.setCell _ _ _).from _).trans ((KeepsOthers.setCell _ _ _).from _), ⟨(Below.heap_setCell _ _ _ _ (show d1 ≠ p9 by omega)).trans (Below.heap_setCell _ _ _ _ (show d1 ≠ p10 by omega)), (Below.heap_setCell _ _ _ _ (show d2 ≠ p9 by omega)).trans (Below.heap_setCell _ _ _ _ (show d2 ≠ p10 by omega))⟩, by simp, .inl ⟨rfl, hp⟩⟩)
          | (rw [if_neg (Nat.not_lt.2 hp)] at e1
             rw [← HCH.out] at e1
             subst e1; exact ⟨_, ⟨_, _, D.line ho (Nat.le_refl _) L⟩, (KeepsOthers.setCell _ _ _).from _, ⟨Below.heap_setCell _ _ _ _ (show d1 ≠ p9 by omega), Below.heap_setCell _ _ _ _ (show d2 ≠ p9 by omega)⟩, by simp, .inr ⟨rfl, by omega⟩⟩)
      obtain ⟨X, ⟨v7, v8, DX⟩, hXk, hXb, hXs, hXe⟩ := hX
      first
        | (have t6 : decide ((0 : Int) < (F0 : Int)) = true := decide_eq_true (by omega)
           obtain ⟨hXe, -⟩ : X = (W.setCell ⟨p10, 0, none⟩ (.int .i64 0)).setCell ⟨p9, 0, none⟩ (.int .i64 L) ∧ 0 < F0 := hXe.resolve_right (fun h => by omega))
        | (have t6 : decide ((0 : Int) < (F0 : Int)) = false := decide_eq_false (by omega)
           obtain ⟨hXe, -⟩ : X = W.setCell ⟨p9, 0, none⟩ (.int .i64 L) ∧ F0 = 0 := hXe.resolve_left (fun h => by omega))
      have HX := Aside0.mk hXe; clear hXe; gi_wp2
      rw [← HX.out]
      have D4 : DI w w.heap.size q1 q2 p6 p7 p8 p9 p10 d1 d2 a0 S (some ad) n c1 (.slice A6 S.length c6) ⟨σ.l, σ.al, L, CH⟩ v7 v8 (X.alloc (.cells #[.int .i64 F0, .int .i64 F1, .int .i64 F2, .int .i64 f3, .int .i64 f4] 60)) := DX.below ((Below.refl _ _).alloc (Nat.le_refl _) _)
      obtain ⟨g, hg⟩ : ∃ g, W.heap.size = g := ⟨_, rfl⟩
      rw [hg]
      have hXg : X.heap.size = g := hXs.trans hg
      have bf : (X.alloc (.cells #[.int .i64 F0, .int .i64 F1, .int .i64 F2, .int .i64 f3, .int .i64 f4] 60)).heap[g]? = some (.cells #[.int .i64 F0, .int .i64 F1, .int .i64 F2, .int .i64 f3, .int .i64 f4] 60 (0, 0)) := by rw [← hXg]; exact World.alloc_heap_new X _
      have hK4 : KeepsFrom W0.heap.size W (X.alloc (.cells #[.int .i64 F0, .int .i64 F1, .int .i64 F2, .int .i64 f3, .int .i64 f4] 60)) := hXk.trans ((KeepsOthers.alloc _ _).from _)
      have hB4 : KBox2 d1 d2 W (X.alloc (.cells #[.int .i64 F0, .int .i64 F1, .int .i64 F2, .int .i64 f3, .int .i64 f4] 60)) := kbox2_t hXb ⟨Below.heap_alloc _ _ _ DX.c1.lt, Below.heap_alloc _ _ _ DX.c2.lt⟩
      have hg4 : g < (X.alloc (.cells #[.int .i64 F0, .int .i64 F1, .int .i64 F2, .int .i64 f3, .int .i64 f4] 60)).heap.size := by simp; omega
      obtain ⟨W4, hW4⟩ : ∃ W4, X.alloc (.cells #[.int .i64 F0, .int .i64 F1, .int .i64 F2, .int .i64 f3, .int .i64 f4] 60) = W4 := ⟨_, rfl⟩
      rw [hW4] at D4 bf hK4 hB4 hg4 ⊢
      have u0 : W4.cell? ⟨g, 0, none⟩ = some (.int .i64 F0) := (blk_cell bf 0).trans rfl
      have u1 : W4.cell? ⟨g, 1, none⟩ = some (.int .i64 F1) := (blk_cell bf 1).trans rfl
      have u2 : W4.cell? ⟨g, 2, none⟩ = some (.int .i64 F2) := (blk_cell bf 2).trans rfl
      have u3 : W4.cell? ⟨g, 3, none⟩ = some (.int .i64 f3) := (blk_cell bf 3).trans rfl
      have u4 : W4.cell? ⟨g, 4, none⟩ = some (.int .i64 f4) := (blk_cell bf 4).trans rfl
      obtain ⟨a6, hA6, hrow⟩ := own_int D4.r6 (by omega)
      subst hA6; have v0 := D4.b0.cell
      have v6 := D4.b6.cell
      have v9 := D4.b9.cell
      have v10 := D4.b10.cell
      have sL := hrow L (by omega)
      have sM := hrow (L + 1) hLlt
      obtain ⟨s1, s2, s3⟩ := HOK.out.2.2 L hLlt
      obtain ⟨L1, hL1⟩ : ∃ L1, L + 1 = L1 := ⟨_, rfl⟩
      rw [hL1] at sM s2 s3
      obtain ⟨aN, haN⟩ : ∃ a : Nat, rd S (L : Int) = a := ⟨(rd S (L : Int)).toNat, by omega⟩
      have hmn := mn_le' (rd S (L1 : Int)) (a0.size : Int)
      obtain ⟨bN, hbN⟩ : ∃ b : Nat, rd S (L1 : Int) = b := ⟨(rd S (L1 : Int)).toNat, by omega⟩
      rw [haN] at sL s1 s2
      rw [hbN] at sM s2 s3 hmn
      have haB : aN ≤ a0.size := by omega
      have haB2 : aN ≤ bN := by omega
      obtain ⟨BE, hBE⟩ : ∃ BE : Nat, mn (bN : Int) (a0.size : Int) = (BE : Int) := ⟨(mn (bN : Int) (a0.size : Int)).toNat, by omega⟩
      have hBE1 : aN ≤ BE := by omega
      have hBE2 : BE ≤ a0.size := by omega
      have hminE : (if a0.size < bN then (a0.size : Int) else (bN : Int)) = (BE : Int) := by
        rw [← hBE]
        unfold mn
        by_cases hq : a0.size < bN
        · rw [if_pos hq, if_pos (by omega)]
        · rw [if_neg hq, if_neg (by omega)]
      have HDLINE : Aside0 (dline a0 S L = a0.extract aN BE) := ⟨by unfold dline; rw [show ((L + 1 : Nat) : Int) = (L1 : Int) by omega, haN, hbN, hBE]; rfl⟩
      have HAN := Aside0.mk haN; clear hBE; have hS15 : ∀ w' : World, (w'.cell? ⟨w.heap.size, 0, none⟩ = some (.string a0) ∧ w'.cell? ⟨p6, 0, none⟩ = some (.slice (some a6) S.length c6) ∧ w'.cell? ⟨p9, 0, none⟩ = some (.int .i64 L) ∧ w'.cell? (a6.add L) = some (.int .i64 aN) ∧ w'.cell? (a6.add L1) = some (.int .i64 bN)) → True := fun _ _ => trivial
      clear hS15 haN hbN hmn s1 s2 s3; have hLn : L < S.length := by omega
      have hL1n : L1 < S.length := by omega
      have hLb : (L : Int) ≤ 1000000 := by omega
      have hsum : (L : Int) + 1 = (L1 : Int) := by omega
      have HLL := Aside0.mk hL1; clear hL1; have hL1b : (L1 : Int) ≤ 9223372036854775807 := by omega
      have hwL1 : wrap64 (L1 : Int) = (L1 : Int) := by unfold wrap64; omega
      refine XRound.quiet_in (fun w' => (w'.cell? ⟨w.heap.size, 0, none⟩ = some (.string a0) ∧ w'.cell? ⟨p6, 0, none⟩ = some (.slice (some a6) S.length c6) ∧ w'.cell? ⟨p9, 0, none⟩ = some (.int .i64 L) ∧ w'.cell? (a6.add L) = some (.int .i64 aN) ∧ w'.cell? (a6.add L1) = some (.int .i64 bN)) ∧ ∃ m, w' = W4.drewN m)
        ⟨⟨v0, v6, v9, sL, sM⟩, 1, rfl⟩ (by kernel_rfl) (by kernel_rfl) (by kernel_rfl) ?_
      iterate 12 refine XRound.q_op ?_
      refine XRound.q_op ?_
      refine XRound.q_op ?_
      refine XRound.q_op ?_
      refine wpQuiet_nil ?_
      rintro w' ⟨_, m15, rfl⟩
      clear hwL1 hminE; obtain ⟨R, hRR⟩ : ∃ R, a0.extract aN BE = R := ⟨_, rfl⟩
      rw [hRR]
      rw [hRR] at HDLINE
      have hRs : R.size ≤ a0.size := by rw [← hRR, ByteArray.size_extract]; omega
      have D5 : DI w w.heap.size q1 q2 p6 p7 p8 p9 p10 d1 d2 a0 S (some ad) n c1 (.slice (some a6) S.length c6) ⟨σ.l, σ.al, L, CH⟩ v7 v8 (W4.drewN m15) := D4.below (pw_below_drewN (Below.refl _ _) _)
      obtain ⟨W5, hW5⟩ : ∃ W5, W4.drewN m15 = W5 := ⟨_, rfl⟩
      have bf5 : W5.heap[g]? = some (.cells #[.int .i64 F0, .int .i64 F1, .int .i64 F2, .int .i64 f3, .int .i64 f4] 60 (0, 0)) := by rw [← hW5]; exact bf
      have hK5 : KeepsFrom W0.heap.size W W5 := by rw [← hW5]; exact hK4.trans ((show KeepsOthers W4 (W4.drewN m15) from ⟨Nat.le_refl _, fun _ _ h _ => h⟩).from _)
      have hB5 : KBox2 d1 d2 W W5 := by rw [← hW5]; exact hB4
      rw [hW5] at D5 ⊢
      clear hW5 D4 hK4 hB4 bf u0 u1 u2 u3 u4 v0 v6 v9 v10 sL sM hrow hW4; have u0 : W5.cell? ⟨g, 0, none⟩ = some (.int .i64 F0) := (blk_cell bf5 0).trans rfl
      have u1 : W5.cell? ⟨g, 1, none⟩ = some (.int .i64 F1) := (blk_cell bf5 1).trans rfl
      have u2 : W5.cell? ⟨g, 2, none⟩ = some (.int .i64 F2) := (blk_cell bf5 2).trans rfl
      have u3 : W5.cell? ⟨g, 3, none⟩ = some (.int .i64 f3) := (blk_cell bf5 3).trans rfl
      have u4 : W5.cell? ⟨g, 4, none⟩ = some (.int .i64 f4) := (blk_cell bf5 4).trans rfl
      have v10 := D5.b10.cell
      have k10 := D5.b10.frozen
      have cq1 := D5.b1.cell
      have cq2 := D5.b2.cell
      have k1 := D5.b1.frozen
      have k2 := D5.b2.frozen
      have hRb : (R.size : Int) ≤ 100000 := by omega
      have hCb : (CH : Int) ≤ 100000 := by omega
      have hdfar : dfar a0 S l1 σ x.1 ↔ ((R.size : Int) - CH < F1 ∨ (R.size : Int) - CH - F1 < F2) := by
        unfold dfar
        rw [HDL.out, HDC.out, HDLINE.out, HE.out.2.1, HE.out.2.2.1]
      have HDF := Aside0.mk hdfar; clear hdfar; by_cases hf : (R.size : Int) - CH < F1 ∨ (R.size : Int) - CH - F1 < F2
      · have hno : dall a0 S l1 (pre ++ [x]) = none := by rw [HST.out, HB0.out, if_neg (fun h => HNB.out (HBI.out.1 h)), if_pos (HDF.out.2 hf)]
        have HNO := Aside0.mk hno; clear hno; have fin : ∀ a2, ownPostG W0.heap.size (KBox2 d1 d2) (fun pre W => ∃ σ v7 v8, dall a0 S l1 pre = some σ ∧ DI w w.heap.size q1 q2 p6 p7 p8 p9 p10 d1 d2 a0 S (some ad) n c1 (.slice (some a6) S.length c6) σ v7 v8 W) (fun c pre W => c = .ret ∧ dall a0 S l1 pre = none ∧ Boxed W q1 22 (.slice none 0 0) ∧ Boxed W q2 28 (.int .i64 230) ∧ Below w.heap.size w W) (pre ++ [x]) W Exit.ret a2
            ((W5.setCell ⟨q1, 0, none⟩ (.slice none 0 0)).setCell ⟨q2, 0, none⟩ (.int .i64 230)) := fun a2 => by
          have ho := HORD.out
          unfold Ord at ho
          have hb2 : Below w.heap.size w ((W5.setCell ⟨q1, 0, none⟩ (.slice none 0 0)).setCell ⟨q2, 0, none⟩ (.int .i64 230)) := (D5.bel.setCell (p := ⟨q1, 0, none⟩) (show w.heap.size ≤ q1 by omega) _).setCell (p := ⟨q2, 0, none⟩) (show w.heap.size ≤ q2 by omega) _
          exact hretG _ _ (hK5.trans (((KeepsOthers.setCell _ _ _).from _).trans ((KeepsOthers.setCell _ _ _).from _))) ((D5.b1.set _).other2 (show q1 ≠ q2 by omega) _) ((D5.b2.other2 (show q2 ≠ q1 by omega) _).set _) hb2 HNO.out
        by_cases w0 : (R.size : Int) - CH < F1
        · have t7 : decide ((R.size : Int) - (CH : Int) < (F1 : Int)) = true := decide_eq_true w0
          clear hf w0; gi_wp2
          first | exact fin _ | exact fin { tmps := #[], defers := [] }
        · have t7 : decide ((R.size : Int) - (CH : Int) < (F1 : Int)) = false := decide_eq_false w0
          have w1 : (R.size : Int) - CH - F1 < F2 := by omega
          have t8 : decide ((R.size : Int) - (CH : Int) - (F1 : Int) < (F2 : Int)) = true := decide_eq_true w1
          have hF1b : (F1 : Int) ≤ 100000 := by omega
          clear hf w0 w1; gi_wp2
          first | exact fin _ | exact fin { tmps := #[], defers := [] }
      have t7 : decide ((R.size : Int) - (CH : Int) < (F1 : Int)) = false := decide_eq_false (by omega)
      have t8 : decide ((R.size : Int) - (CH : Int) - (F1 : Int) < (F2 : Int)) = false := decide_eq_false (by omega)
      have hF1b : (F1 : Int) ≤ 100000 := by omega
      have hF2b : (F2 : Int) ≤ 100000 := by omega
      obtain ⟨C2, hC2⟩ : ∃ C2, CH + F1 = C2 := ⟨_, rfl⟩
      have hC2s : (CH : Int) + (F1 : Int) = (C2 : Int) := by omega
      have HC2 := Aside0.mk hC2; have HNF := Aside0.mk (fun h => hf (HDF.out.1 h))
      clear hf hC2; gi_wp2
      have D6 : DI w w.heap.size q1 q2 p6 p7 p8 p9 p10 d1 d2 a0 S (some ad) n c1 (.slice (some a6) S.length c6) ⟨σ.l, σ.al, L, C2⟩ v7 v8 (W5.setCell ⟨p10, 0, none⟩ (.int .i64 C2)) := D5.char HORD.out (Nat.le_refl _) C2
      have hgo : g ≠ p10 := by have h1 := DX.b10.lt; omega
      have bf6 : (W5.setCell ⟨p10, 0, none⟩ (.int .i64 C2)).heap[g]? = some (.cells #[.int .i64 F0, .int .i64 F1, .int .i64 F2, .int .i64 f3, .int .i64 f4] 60 (0, 0)) := (Below.heap_setCell _ _ _ _ hgo).trans bf5
      have hK6 : KeepsFrom W0.heap.size W (W5.setCell ⟨p10, 0, none⟩ (.int .i64 C2)) := hK5.trans ((KeepsOthers.setCell _ _ _).from _)
      have hB6 : KBox2 d1 d2 W (W5.setCell ⟨p10, 0, none⟩ (.int .i64 C2)) := by
        have ho := HORD.out
        unfold Ord at ho
        exact kbox2_t hB5 ⟨Below.heap_setCell _ _ _ _ (show d1 ≠ p10 by omega), Below.heap_setCell _ _ _ _ (show d2 ≠ p10 by omega)⟩
      obtain ⟨W6, hW6⟩ : ∃ W6, W5.setCell ⟨p10, 0, none⟩ (.int .i64 C2) = W6 := ⟨_, rfl⟩
      rw [hW6] at D6 bf6 hK6 hB6 ⊢
      clear hW6 D5 hK5 hB5 bf5 u0 u1 u2 u3 u4 v10 k10 cq1 cq2 k1 k2 hgo; have u2 : W6.cell? ⟨g, 2, none⟩ = some (.int .i64 F2) := (blk_cell bf6 2).trans rfl
      have u3 : W6.cell? ⟨g, 3, none⟩ = some (.int .i64 f3) := (blk_cell bf6 3).trans rfl
      have u4 : W6.cell? ⟨g, 4, none⟩ = some (.int .i64 f4) := (blk_cell bf6 4).trans rfl
      obtain ⟨a6', hA6', hrow⟩ := own_int D6.r6 (by omega)
      cases hA6'
      have sL := hrow L (by omega)
      rw [HAN.out] at sL
      have v6 := D6.b6.cell
      have v9 := D6.b9.cell
      have v10 := D6.b10.cell
      obtain ⟨P, hP⟩ : ∃ P : Nat, XUtf.cutAt R R.size 0 (C2 : Int) = P := ⟨_, rfl⟩
      obtain ⟨E2, hE2⟩ : ∃ E, C2 + F2 = E := ⟨_, rfl⟩
      have hE2s : (C2 : Int) + (F2 : Int) = (E2 : Int) := by omega
      obtain ⟨Q, hQ⟩ : ∃ Q : Nat, XUtf.cutAt R R.size 0 (E2 : Int) = Q := ⟨_, rfl⟩
      have hcut1 : ∀ w : World, Calls Tryd.prog 27 #[.string R, .int .i64 C2] w fun e w' => e = .returned (.int .i64 P) ∧ Below w.heap.size w w' := fun w => utf_Cut.calls R C2 P w (by unfold utf_Cut.f; rw [if_neg (by omega), if_pos (by omega), hP])
      have hcut2' : ∀ w : World, Calls Tryd.prog 27 #[.string R, .int .i64 E2] w fun e w' => e = .returned (.int .i64 Q) ∧ Below w.heap.size w w' := fun w => utf_Cut.calls R E2 Q w (by unfold utf_Cut.f; rw [if_neg (by omega), if_pos (by omega), hQ])
      have HP := Aside0.mk hP; have HQ := Aside0.mk hQ; have HE2 := Aside0.mk hE2; have hC2b : (C2 : Int) ≤ 200000 := by omega
      have hE2b : (E2 : Int) ≤ 300000 := by omega
      have hPle := dcut_le R R.size 0 (C2 : Int) (Nat.zero_le _)
      have hQle := dcut_le R R.size 0 (E2 : Int) (Nat.zero_le _)
      rw [hP] at hPle
      rw [hQ] at hQle
      obtain ⟨X1, hX1⟩ : ∃ X1, aN + P = X1 := ⟨_, rfl⟩
      obtain ⟨X2, hX2⟩ : ∃ X2, aN + Q = X2 := ⟨_, rfl⟩
      have hX1s : (aN : Int) + (P : Int) = (X1 : Int) := by omega
      have hX2s : (aN : Int) + (Q : Int) = (X2 : Int) := by omega
      have hX1b : X1 ≤ 1000000 := by omega
      have hX2b : X2 ≤ 1000000 := by omega
      have HX1 := Aside0.mk hX1; have HX2 := Aside0.mk hX2; clear hP hQ hE2 hX1 hX2 hPle hQle; have hwE2 : wrap64 (E2 : Int) = (E2 : Int) := by unfold wrap64; omega
      have hcut2 : ∀ w : World, Calls Tryd.prog 27 #[.string R, .int .i64 (wrap64 (E2 : Int))] w fun e w' => e = .returned (.int .i64 Q) ∧ Below w.heap.size w w' := by rw [hwE2]; exact hcut2'
      clear hcut2'; have hwX1 : wrap64 (X1 : Int) = (X1 : Int) := by clear hwE2; unfold wrap64; omega
      have hwX2 : wrap64 (X2 : Int) = (X2 : Int) := by clear hwE2 hwX1; unfold wrap64; omega
      refine' XRound.begin_in (S := fun w' => w'.cell? ⟨p6, 0, none⟩ = some (.slice (some a6) S.length c6) ∧ w'.cell? ⟨p9, 0, none⟩ = some (.int .i64 L) ∧ w'.cell? ⟨p10, 0, none⟩ = some (.int .i64 C2) ∧ w'.cell? (a6.add L) = some (.int .i64 aN) ∧ w'.cell? ⟨g, 2, none⟩ = some (.int .i64 F2) ∧ w'.cell? ⟨g, 3, none⟩ = some (.int .i64 f3) ∧ w'.cell? ⟨g, 4, none⟩ = some (.int .i64 f4)) (ds := []) (KFrame _ (fun gm w' => g < gm ∧ RJ w w.heap.size q1 q2 p6 p7 p8 p9 p10 d1 d2 a0 S (some ad) n c1 (.slice (some a6) S.length c6) L C2 W0.heap.size W gm g #[.int .i64 X1, .int .i64 X2, .int .i64 f3, .int .i64 f4] #[.int .i64 F0, .int .i64 F1, .int .i64 F2, .int .i64 f3, .int .i64 f4] σ.l σ.al v7 v8 v7 v8 w')) (bz 27 0) (by kernel_rfl) (by kernel_rfl) rfl rfl ⟨v6, v9, v10, sL, u2, u3, u4⟩ (fun hHeld => ?_) ?h20
      rotate_left; refine with_tabW (T := dT19) (B := dB19) (by kernel_rfl) (by kernel_rfl) (fun HT_ HW_ => ?_)
      refine tk 0 (some 106) (bz 27 1) HT_ HW_ rfl rfl hHeld ?_; refine tk 1 (some 107) (bz 27 3) HT_ HW_ rfl rfl hHeld ?_; refine pu 2 (some 108) (bz 27 7) HT_ rfl rfl ?_; refine tk 3 (some 109) (bz 27 15) HT_ HW_ rfl rfl hHeld ?_; refine pu 4 (some 110) (bz 27 31) HT_ rfl rfl ?_; refine tk 5 (some 111) (bz 27 63) HT_ HW_ rfl rfl hHeld ?_; refine tk 8 (some 114) (bz 27 319) HT_ HW_ rfl rfl hHeld ?_; refine tk 9 (some 115) (bz 27 831) HT_ HW_ rfl rfl hHeld ?_; refine pu 10 (some 116) (bz 27 1855) HT_ rfl rfl ?_; refine tk 11 (some 117) (bz 27 3903) HT_ HW_ rfl rfl hHeld ?_; refine pu 12 (some 118) (bz 27 7999) HT_ rfl rfl ?_; refine tk 13 (some 119) (bz 27 16191) HT_ HW_ rfl rfl hHeld ?_; refine pu 14 (some 120) (bz 27 32575) HT_ rfl rfl ?_; refine tk 15 (some 121) (bz 27 65343) HT_ HW_ rfl rfl hHeld ?_; refine pu 16 (some 122) (bz 27 130879) HT_ rfl rfl ?_; refine pu 20 (some 126) (bz 27 1179455) HT_ rfl rfl ?_; refine tk 21 (some 127) (bz 27 3276607) HT_ HW_ rfl rfl hHeld ?_; refine pu 22 (some 128) (bz 27 7470911) HT_ rfl rfl ?_; refine tk 23 (some 129) (bz 27 15859519) HT_ HW_ rfl rfl hHeld ?_; have hBel : Below W6.heap.size W6 W6.drew := below_drew1 (Below.refl _ _)
      refine two_ (i := 6) (j := 25) (Ni := some 112) (Nj := some 14) (bz 27 15859583) (bz 27 49413951) rfl rfl rfl rfl (two_of HT_.out (by kernel_rfl)) (by decide) (by decide) (fun K hK => ?_) (fun K hK => ?_)
      · refine goes_ Tryd.func27 (by kernel_rfl) rfl #[.string R, .int .i64 C2] (by rfl) rfl rfl (by first | rfl | (simp only [List.map_toArray, List.map_cons, List.map_nil]; rfl)) ?_
        refine (hcut1 _).mono ?_
        rintro e wn ⟨rfl, hb⟩
        refine ⟨_, rfl, ?_⟩
        have hBel' := below_step hBel hb
        have hS' := (⟨keepc hb hHeld.1, keepc hb hHeld.2.1, keepc hb hHeld.2.2.1, keepc hb hHeld.2.2.2.1, keepc hb hHeld.2.2.2.2.1, keepc hb hHeld.2.2.2.2.2.1, keepc hb hHeld.2.2.2.2.2.2⟩ : (fun w' : World => w'.cell? ⟨p6, 0, none⟩ = some (.slice (some a6) S.length c6) ∧ w'.cell? ⟨p9, 0, none⟩ = some (.int .i64 L) ∧ w'.cell? ⟨p10, 0, none⟩ = some (.int .i64 C2) ∧ w'.cell? (a6.add L) = some (.int .i64 aN) ∧ w'.cell? ⟨g, 2, none⟩ = some (.int .i64 F2) ∧ w'.cell? ⟨g, 3, none⟩ = some (.int .i64 f3) ∧ w'.cell? ⟨g, 4, none⟩ = some (.int .i64 f4)) _)
        clear hBel hb hHeld; have hBel := hBel'
        clear hBel'; refine hK.out _ _ hS' (fun hHeld => ?_)
        clear hK K hS'; refine norm_ (a' := ?_) ?_ ?_
        rotate_left
        · show Act.put _ (some 112) _ = _
          simp only [Act.put, List.setIfInBounds_toArray, List.set_cons_zero, List.set_cons_succ, i64_w, i32_w]
          rfl
        refine pu 7 (some 113) (bz 27 15859711) HT_ rfl rfl ?_; refine two_ (i := 17) (j := 25) (Ni := some 123) (Nj := some 14) (bz 27 15990783) (bz 27 49414143) rfl rfl rfl rfl (two_of HT_.out (by kernel_rfl)) (by decide) (by decide) (fun K hK => ?_) (fun K hK => ?_)
        · refine goes_ Tryd.func27 (by kernel_rfl) rfl #[.string R, .int .i64 (wrap64 (E2 : Int))] (by rfl) rfl rfl (by first | rfl | (simp only [List.map_toArray, List.map_cons, List.map_nil]; rfl)) ?_
          refine (hcut2 _).mono ?_
          rintro e wn ⟨rfl, hb⟩
          refine ⟨_, rfl, ?_⟩
          have hBel' := below_step hBel hb
          have hS' := (⟨keepc hb hHeld.1, keepc hb hHeld.2.1, keepc hb hHeld.2.2.1, keepc hb hHeld.2.2.2.1, keepc hb hHeld.2.2.2.2.1, keepc hb hHeld.2.2.2.2.2.1, keepc hb hHeld.2.2.2.2.2.2⟩ : (fun w' : World => w'.cell? ⟨p6, 0, none⟩ = some (.slice (some a6) S.length c6) ∧ w'.cell? ⟨p9, 0, none⟩ = some (.int .i64 L) ∧ w'.cell? ⟨p10, 0, none⟩ = some (.int .i64 C2) ∧ w'.cell? (a6.add L) = some (.int .i64 aN) ∧ w'.cell? ⟨g, 2, none⟩ = some (.int .i64 F2) ∧ w'.cell? ⟨g, 3, none⟩ = some (.int .i64 f3) ∧ w'.cell? ⟨g, 4, none⟩ = some (.int .i64 f4)) _)
          clear hBel hb hHeld; have hBel := hBel'
          clear hBel'; refine hK.out _ _ hS' (fun hHeld => ?_)
          clear hK K hS'; refine norm_ (a' := ?_) ?_ ?_
          rotate_left
          · show Act.put _ (some 123) _ = _
            simp only [Act.put, List.setIfInBounds_toArray, List.set_cons_zero, List.set_cons_succ, i64_w, i32_w]
            rfl
          refine pu 18 (some 124) (bz 27 16252927) HT_ rfl rfl ?_; refine pu 19 (some 125) (bz 27 16777215) HT_ rfl rfl ?_; refine pu 24 (some 130) (bz 27 33554431) HT_ rfl rfl ?_; refine one_ (i := 25) (N := some 14) (bz 27 67108863) rfl rfl (one_of HT_.out (by kernel_rfl)) (by decide) (fun K hK => ?_)
          refine box_step (by rfl) (N := 14) rfl (cs := #[.int .i64 0, .int .i64 0, .int .i64 0, .int .i64 0]) (t := 38) ?hr ?_
          case hr => go_simp
          intro gm hgm wn hbox hb
          have hgm6 : W6.heap.size ≤ gm := by rw [hgm]; exact hBel.size
          have hBel' := below_step hBel hb
          have hS' := (⟨keepc hb hHeld.1, keepc hb hHeld.2.1, keepc hb hHeld.2.2.1, keepc hb hHeld.2.2.2.1, keepc hb hHeld.2.2.2.2.1, keepc hb hHeld.2.2.2.2.2.1, keepc hb hHeld.2.2.2.2.2.2⟩ : (fun w' : World => w'.cell? ⟨p6, 0, none⟩ = some (.slice (some a6) S.length c6) ∧ w'.cell? ⟨p9, 0, none⟩ = some (.int .i64 L) ∧ w'.cell? ⟨p10, 0, none⟩ = some (.int .i64 C2) ∧ w'.cell? (a6.add L) = some (.int .i64 aN) ∧ w'.cell? ⟨g, 2, none⟩ = some (.int .i64 F2) ∧ w'.cell? ⟨g, 3, none⟩ = some (.int .i64 f3) ∧ w'.cell? ⟨g, 4, none⟩ = some (.int .i64 f4)) _)
          clear hBel hb hHeld hgm; have hBel := hBel'
          clear hBel'; refine hK.out _ _ hS' (fun hHeld => ?_)
          clear hK K hS'; refine norm_ (a' := ?_) ?_ ?_
          rotate_left
          · show Act.put _ (some 14) _ = _
            simp only [Act.put, List.setIfInBounds_toArray, List.set_cons_zero, List.set_cons_succ, i64_w, i32_w]
            rfl
          refine one_ (i := 26) (N := none) (bz 27 134217727) rfl rfl (one_of HT_.out (by kernel_rfl)) (by decide) (fun K hK => ?_)
          have z0 : wn.cell? ⟨gm, 0, none⟩ = some (.int .i64 0) := (blk_cell hbox 0).trans rfl
          have z1 : wn.cell? ⟨gm, 1, none⟩ = some (.int .i64 0) := (blk_cell hbox 1).trans rfl
          have z2 : wn.cell? ⟨gm, 2, none⟩ = some (.int .i64 0) := (blk_cell hbox 2).trans rfl
          have z3 : wn.cell? ⟨gm, 3, none⟩ = some (.int .i64 0) := (blk_cell hbox 3).trans rfl
          have y0 : wn.frozen? ⟨gm, 0, none⟩ = false := blk_frozen hbox 0
          have y1 : wn.frozen? ⟨gm, 1, none⟩ = false := blk_frozen hbox 1
          have y2 : wn.frozen? ⟨gm, 2, none⟩ = false := blk_frozen hbox 2
          have y3 : wn.frozen? ⟨gm, 3, none⟩ = false := blk_frozen hbox 3
          refine skip_ (w1 := (((wn.setCell ⟨gm, 0, none⟩ (.int .i64 (wrap64 (X1 : Int)))).setCell ⟨gm, 1, none⟩ (.int .i64 (wrap64 (X2 : Int)))).setCell ⟨gm, 2, none⟩ (.int .i64 f3)).setCell ⟨gm, 3, none⟩ (.int .i64 f4)) (by rfl) rfl (by go_simp) ?_
          clear z0 z1 z2 z3 y0 y1 y2 y3; have hbm : ((((wn.setCell ⟨gm, 0, none⟩ (.int .i64 (wrap64 (X1 : Int)))).setCell ⟨gm, 1, none⟩ (.int .i64 (wrap64 (X2 : Int)))).setCell ⟨gm, 2, none⟩ (.int .i64 f3)).setCell ⟨gm, 3, none⟩ (.int .i64 f4)).heap[gm]? = some (.cells #[.int .i64 (wrap64 (X1 : Int)), .int .i64 (wrap64 (X2 : Int)), .int .i64 f3, .int .i64 f4] 38 (0, 0)) := by refine blk_put (cs := #[.int .i64 (wrap64 (X1 : Int)), .int .i64 (wrap64 (X2 : Int)), .int .i64 f3, .int .i64 0]) ?_ 3 _ rfl; refine blk_put (cs := #[.int .i64 (wrap64 (X1 : Int)), .int .i64 (wrap64 (X2 : Int)), .int .i64 0, .int .i64 0]) ?_ 2 _ rfl; refine blk_put (cs := #[.int .i64 (wrap64 (X1 : Int)), .int .i64 0, .int .i64 0, .int .i64 0]) ?_ 1 _ rfl; exact blk_put hbox 0 _ rfl
          have hBm : Below W6.heap.size W6 ((((wn.setCell ⟨gm, 0, none⟩ (.int .i64 (wrap64 (X1 : Int)))).setCell ⟨gm, 1, none⟩ (.int .i64 (wrap64 (X2 : Int)))).setCell ⟨gm, 2, none⟩ (.int .i64 f3)).setCell ⟨gm, 3, none⟩ (.int .i64 f4)) := (((hBel.setCell (p := ⟨gm, 0, none⟩) hgm6 _).setCell (p := ⟨gm, 1, none⟩) hgm6 _).setCell (p := ⟨gm, 2, none⟩) hgm6 _).setCell (p := ⟨gm, 3, none⟩) hgm6 _
          obtain ⟨W7, hW7⟩ : ∃ W7, (((wn.setCell ⟨gm, 0, none⟩ (.int .i64 (wrap64 (X1 : Int)))).setCell ⟨gm, 1, none⟩ (.int .i64 (wrap64 (X2 : Int)))).setCell ⟨gm, 2, none⟩ (.int .i64 f3)).setCell ⟨gm, 3, none⟩ (.int .i64 f4) = W7 := ⟨_, rfl⟩
          rw [hW7] at hbm hBm ⊢
          clear hW7 hbox hBel hHeld; refine hK.out _ _ ⟨keepc hBm v6, keepc hBm v9, keepc hBm v10, keepc hBm sL, keepc hBm u2, keepc hBm u3, keepc hBm u4⟩ (fun _ => ?_)
          clear hK K; have D7 := D6.below hBm
          rw [hwX1, hwX2] at hbm
          refine done_ (done_of HT_.out (by kernel_rfl)) (XRound.norm_mk ?_)
          refine kframe_mk gm ?_
          exact ⟨Nat.lt_of_lt_of_le (Array.getElem?_eq_some_iff.1 bf6).1 hgm6, ⟨D7.b0, D7.b1, D7.b2, D7.b6, D7.b7, D7.b8, D7.b9, D7.b10, D7.c1, D7.c2, D7.r6, D7.r7, D7.r8, D7.bel, hK6.trans (keepsB hBm), kbox2_t hB6 ⟨hBm.block _ D6.c1.lt, hBm.block _ D6.c2.lt⟩, hbm, blk_below bf6 hBm⟩⟩
        · refine box_step (by rfl) (N := 14) rfl (cs := #[.int .i64 0, .int .i64 0, .int .i64 0, .int .i64 0]) (t := 38) ?hr ?_
          case hr => go_simp
          intro gm hgm wn hbox hb
          have hgm6 : W6.heap.size ≤ gm := by rw [hgm]; exact hBel.size
          have hBel' := below_step hBel hb
          have hS' := (⟨keepc hb hHeld.1, keepc hb hHeld.2.1, keepc hb hHeld.2.2.1, keepc hb hHeld.2.2.2.1, keepc hb hHeld.2.2.2.2.1, keepc hb hHeld.2.2.2.2.2.1, keepc hb hHeld.2.2.2.2.2.2⟩ : (fun w' : World => w'.cell? ⟨p6, 0, none⟩ = some (.slice (some a6) S.length c6) ∧ w'.cell? ⟨p9, 0, none⟩ = some (.int .i64 L) ∧ w'.cell? ⟨p10, 0, none⟩ = some (.int .i64 C2) ∧ w'.cell? (a6.add L) = some (.int .i64 aN) ∧ w'.cell? ⟨g, 2, none⟩ = some (.int .i64 F2) ∧ w'.cell? ⟨g, 3, none⟩ = some (.int .i64 f3) ∧ w'.cell? ⟨g, 4, none⟩ = some (.int .i64 f4)) _)
          clear hBel hb hHeld hgm; have hBel := hBel'
          clear hBel'; refine hK.out _ _ hS' (fun hHeld => ?_)
          clear hK K hS'; refine norm_ (a' := ?_) ?_ ?_
          rotate_left
          · show Act.put _ (some 14) _ = _
            simp only [Act.put, List.setIfInBounds_toArray, List.set_cons_zero, List.set_cons_succ, i64_w, i32_w]
            rfl
          refine one_ (i := 17) (N := some 123) (bz 27 49545215) rfl rfl (one_of HT_.out (by kernel_rfl)) (by decide) (fun K hK => ?_)
          refine goes_ Tryd.func27 (by kernel_rfl) rfl #[.string R, .int .i64 (wrap64 (E2 : Int))] (by rfl) rfl rfl (by first | rfl | (simp only [List.map_toArray, List.map_cons, List.map_nil]; rfl)) ?_
          refine (hcut2 _).mono ?_
          rintro e wn ⟨rfl, hb⟩
          refine ⟨_, rfl, ?_⟩
          have hBel' := below_step hBel hb
          have hS' := (⟨keepc hb hHeld.1, keepc hb hHeld.2.1, keepc hb hHeld.2.2.1, keepc hb hHeld.2.2.2.1, keepc hb hHeld.2.2.2.2.1, keepc hb hHeld.2.2.2.2.2.1, keepc hb hHeld.2.2.2.2.2.2⟩ : (fun w' : World => w'.cell? ⟨p6, 0, none⟩ = some (.slice (some a6) S.length c6) ∧ w'.cell? ⟨p9, 0, none⟩ = some (.int .i64 L) ∧ w'.cell? ⟨p10, 0, none⟩ = some (.int .i64 C2) ∧ w'.cell? (a6.add L) = some (.int .i64 aN) ∧ w'.cell? ⟨g, 2, none⟩ = some (.int .i64 F2) ∧ w'.cell? ⟨g, 3, none⟩ = some (.int .i64 f3) ∧ w'.cell? ⟨g, 4, none⟩ = some (.int .i64 f4)) _)
          have hbox' := (hb.block _ (Array.getElem?_eq_some_iff.1 hbox).1).trans hbox
          clear hbox; have hbox := hbox'
          clear hbox'; clear hBel hb hHeld; have hBel := hBel'
          clear hBel'; refine hK.out _ _ hS' (fun hHeld => ?_)
          clear hK K hS'; refine norm_ (a' := ?_) ?_ ?_
          rotate_left
          · show Act.put _ (some 123) _ = _
            simp only [Act.put, List.setIfInBounds_toArray, List.set_cons_zero, List.set_cons_succ, i64_w, i32_w]
            rfl
          refine pu 18 (some 124) (bz 27 49807359) HT_ rfl rfl ?_; refine pu 19 (some 125) (bz 27 50331647) HT_ rfl rfl ?_; refine pu 24 (some 130) (bz 27 67108863) HT_ rfl rfl ?_; refine one_ (i := 26) (N := none) (bz 27 134217727) rfl rfl (one_of HT_.out (by kernel_rfl)) (by decide) (fun K hK => ?_)
          have z0 : wn.cell? ⟨gm, 0, none⟩ = some (.int .i64 0) := (blk_cell hbox 0).trans rfl
          have z1 : wn.cell? ⟨gm, 1, none⟩ = some (.int .i64 0) := (blk_cell hbox 1).trans rfl
          have z2 : wn.cell? ⟨gm, 2, none⟩ = some (.int .i64 0) := (blk_cell hbox 2).trans rfl
          have z3 : wn.cell? ⟨gm, 3, none⟩ = some (.int .i64 0) := (blk_cell hbox 3).trans rfl
          have y0 : wn.frozen? ⟨gm, 0, none⟩ = false := blk_frozen hbox 0
          have y1 : wn.frozen? ⟨gm, 1, none⟩ = false := blk_frozen hbox 1
          have y2 : wn.frozen? ⟨gm, 2, none⟩ = false := blk_frozen hbox 2
          have y3 : wn.frozen? ⟨gm, 3, none⟩ = false := blk_frozen hbox 3
          refine skip_ (w1 := (((wn.setCell ⟨gm, 0, none⟩ (.int .i64 (wrap64 (X1 : Int)))).setCell ⟨gm, 1, none⟩ (.int .i64 (wrap64 (X2 : Int)))).setCell ⟨gm, 2, none⟩ (.int .i64 f3)).setCell ⟨gm, 3, none⟩ (.int .i64 f4)) (by rfl) rfl (by go_simp) ?_
          clear z0 z1 z2 z3 y0 y1 y2 y3; have hbm : ((((wn.setCell ⟨gm, 0, none⟩ (.int .i64 (wrap64 (X1 : Int)))).setCell ⟨gm, 1, none⟩ (.int .i64 (wrap64 (X2 : Int)))).setCell ⟨gm, 2, none⟩ (.int .i64 f3)).setCell ⟨gm, 3, none⟩ (.int .i64 f4)).heap[gm]? = some (.cells #[.int .i64 (wrap64 (X1 : Int)), .int .i64 (wrap64 (X2 : Int)), .int .i64 f3, .int .i64 f4] 38 (0, 0)) := by refine blk_put (cs := #[.int .i64 (wrap64 (X1 : Int)), .int .i64 (wrap64 (X2 : Int)), .int .i64 f3, .int .i64 0]) ?_ 3 _ rfl; refine blk_put (cs := #[.int .i64 (wrap64 (X1 : Int)), .int .i64 (wrap64 (X2 : Int)), .int .i64 0, .int .i64 0]) ?_ 2 _ rfl; refine blk_put (cs := #[.int .i64 (wrap64 (X1 : Int)), .int .i64 0, .int .i64 0, .int .i64 0]) ?_ 1 _ rfl; exact blk_put hbox 0 _ rfl
          have hBm : Below W6.heap.size W6 ((((wn.setCell ⟨gm, 0, none⟩ (.int .i64 (wrap64 (X1 : Int)))).setCell ⟨gm, 1, none⟩ (.int .i64 (wrap64 (X2 : Int)))).setCell ⟨gm, 2, none⟩ (.int .i64 f3)).setCell ⟨gm, 3, none⟩ (.int .i64 f4)) := (((hBel.setCell (p := ⟨gm, 0, none⟩) hgm6 _).setCell (p := ⟨gm, 1, none⟩) hgm6 _).setCell (p := ⟨gm, 2, none⟩) hgm6 _).setCell (p := ⟨gm, 3, none⟩) hgm6 _
          obtain ⟨W7, hW7⟩ : ∃ W7, (((wn.setCell ⟨gm, 0, none⟩ (.int .i64 (wrap64 (X1 : Int)))).setCell ⟨gm, 1, none⟩ (.int .i64 (wrap64 (X2 : Int)))).setCell ⟨gm, 2, none⟩ (.int .i64 f3)).setCell ⟨gm, 3, none⟩ (.int .i64 f4) = W7 := ⟨_, rfl⟩
          rw [hW7] at hbm hBm ⊢
          clear hW7 hbox hBel hHeld; refine hK.out _ _ ⟨keepc hBm v6, keepc hBm v9, keepc hBm v10, keepc hBm sL, keepc hBm u2, keepc hBm u3, keepc hBm u4⟩ (fun _ => ?_)
          clear hK K; have D7 := D6.below hBm
          rw [hwX1, hwX2] at hbm
          refine done_ (done_of HT_.out (by kernel_rfl)) (XRound.norm_mk ?_)
          refine kframe_mk gm ?_
          exact ⟨Nat.lt_of_lt_of_le (Array.getElem?_eq_some_iff.1 bf6).1 hgm6, ⟨D7.b0, D7.b1, D7.b2, D7.b6, D7.b7, D7.b8, D7.b9, D7.b10, D7.c1, D7.c2, D7.r6, D7.r7, D7.r8, D7.bel, hK6.trans (keepsB hBm), kbox2_t hB6 ⟨hBm.block _ D6.c1.lt, hBm.block _ D6.c2.lt⟩, hbm, blk_below bf6 hBm⟩⟩
      · refine box_step (by rfl) (N := 14) rfl (cs := #[.int .i64 0, .int .i64 0, .int .i64 0, .int .i64 0]) (t := 38) ?hr ?_
        case hr => go_simp
        intro gm hgm wn hbox hb
        have hgm6 : W6.heap.size ≤ gm := by rw [hgm]; exact hBel.size
        have hBel' := below_step hBel hb
        have hS' := (⟨keepc hb hHeld.1, keepc hb hHeld.2.1, keepc hb hHeld.2.2.1, keepc hb hHeld.2.2.2.1, keepc hb hHeld.2.2.2.2.1, keepc hb hHeld.2.2.2.2.2.1, keepc hb hHeld.2.2.2.2.2.2⟩ : (fun w' : World => w'.cell? ⟨p6, 0, none⟩ = some (.slice (some a6) S.length c6) ∧ w'.cell? ⟨p9, 0, none⟩ = some (.int .i64 L) ∧ w'.cell? ⟨p10, 0, none⟩ = some (.int .i64 C2) ∧ w'.cell? (a6.add L) = some (.int .i64 aN) ∧ w'.cell? ⟨g, 2, none⟩ = some (.int .i64 F2) ∧ w'.cell? ⟨g, 3, none⟩ = some (.int .i64 f3) ∧ w'.cell? ⟨g, 4, none⟩ = some (.int .i64 f4)) _)
        clear hBel hb hHeld hgm; have hBel := hBel'
        clear hBel'; refine hK.out _ _ hS' (fun hHeld => ?_)
        clear hK K hS'; refine norm_ (a' := ?_) ?_ ?_
        rotate_left
        · show Act.put _ (some 14) _ = _
          simp only [Act.put, List.setIfInBounds_toArray, List.set_cons_zero, List.set_cons_succ, i64_w, i32_w]
          rfl
        refine one_ (i := 6) (N := some 112) (bz 27 49414015) rfl rfl (one_of HT_.out (by kernel_rfl)) (by decide) (fun K hK => ?_)
        refine goes_ Tryd.func27 (by kernel_rfl) rfl #[.string R, .int .i64 C2] (by rfl) rfl rfl (by first | rfl | (simp only [List.map_toArray, List.map_cons, List.map_nil]; rfl)) ?_
        refine (hcut1 _).mono ?_
        rintro e wn ⟨rfl, hb⟩
        refine ⟨_, rfl, ?_⟩
        have hBel' := below_step hBel hb
        have hS' := (⟨keepc hb hHeld.1, keepc hb hHeld.2.1, keepc hb hHeld.2.2.1, keepc hb hHeld.2.2.2.1, keepc hb hHeld.2.2.2.2.1, keepc hb hHeld.2.2.2.2.2.1, keepc hb hHeld.2.2.2.2.2.2⟩ : (fun w' : World => w'.cell? ⟨p6, 0, none⟩ = some (.slice (some a6) S.length c6) ∧ w'.cell? ⟨p9, 0, none⟩ = some (.int .i64 L) ∧ w'.cell? ⟨p10, 0, none⟩ = some (.int .i64 C2) ∧ w'.cell? (a6.add L) = some (.int .i64 aN) ∧ w'.cell? ⟨g, 2, none⟩ = some (.int .i64 F2) ∧ w'.cell? ⟨g, 3, none⟩ = some (.int .i64 f3) ∧ w'.cell? ⟨g, 4, none⟩ = some (.int .i64 f4)) _)
        have hbox' := (hb.block _ (Array.getElem?_eq_some_iff.1 hbox).1).trans hbox
        clear hbox; have hbox := hbox'
        clear hbox'; clear hBel hb hHeld; have hBel := hBel'
        clear hBel'; refine hK.out _ _ hS' (fun hHeld => ?_)
        clear hK K hS'; refine norm_ (a' := ?_) ?_ ?_
        rotate_left
        · show Act.put _ (some 112) _ = _
          simp only [Act.put, List.setIfInBounds_toArray, List.set_cons_zero, List.set_cons_succ, i64_w, i32_w]
          rfl
        refine pu 7 (some 113) (bz 27 49414143) HT_ rfl rfl ?_; refine one_ (i := 17) (N := some 123) (bz 27 49545215) rfl rfl (one_of HT_.out (by kernel_rfl)) (by decide) (fun K hK => ?_)
        refine goes_ Tryd.func27 (by kernel_rfl) rfl #[.string R, .int .i64 (wrap64 (E2 : Int))] (by rfl) rfl rfl (by first | rfl | (simp only [List.map_toArray, List.map_cons, List.map_nil]; rfl)) ?_
        refine (hcut2 _).mono ?_
        rintro e wn ⟨rfl, hb⟩
        refine ⟨_, rfl, ?_⟩
        have hBel' := below_step hBel hb
        have hS' := (⟨keepc hb hHeld.1, keepc hb hHeld.2.1, keepc hb hHeld.2.2.1, keepc hb hHeld.2.2.2.1, keepc hb hHeld.2.2.2.2.1, keepc hb hHeld.2.2.2.2.2.1, keepc hb hHeld.2.2.2.2.2.2⟩ : (fun w' : World => w'.cell? ⟨p6, 0, none⟩ = some (.slice (some a6) S.length c6) ∧ w'.cell? ⟨p9, 0, none⟩ = some (.int .i64 L) ∧ w'.cell? ⟨p10, 0, none⟩ = some (.int .i64 C2) ∧ w'.cell? (a6.add L) = some (.int .i64 aN) ∧ w'.cell? ⟨g, 2, none⟩ = some (.int .i64 F2) ∧ w'.cell? ⟨g, 3, none⟩ = some (.int .i64 f3) ∧ w'.cell? ⟨g, 4, none⟩ = some (.int .i64 f4)) _)
        have hbox' := (hb.block _ (Array.getElem?_eq_some_iff.1 hbox).1).trans hbox
        clear hbox; have hbox := hbox'
        clear hbox'; clear hBel hb hHeld; have hBel := hBel'
        clear hBel'; refine hK.out _ _ hS' (fun hHeld => ?_)
        clear hK K hS'; refine norm_ (a' := ?_) ?_ ?_
        rotate_left
        · show Act.put _ (some 123) _ = _
          simp only [Act.put, List.setIfInBounds_toArray, List.set_cons_zero, List.set_cons_succ, i64_w, i32_w]
          rfl
        refine pu 18 (some 124) (bz 27 49807359) HT_ rfl rfl ?_; refine pu 19 (some 125) (bz 27 50331647) HT_ rfl rfl ?_; refine pu 24 (some 130) (bz 27 67108863) HT_ rfl rfl ?_; refine one_ (i := 26) (N := none) (bz 27 134217727) rfl rfl (one_of HT_.out (by kernel_rfl)) (by decide) (fun K hK => ?_)
        have z0 : wn.cell? ⟨gm, 0, none⟩ = some (.int .i64 0) := (blk_cell hbox 0).trans rfl
        have z1 : wn.cell? ⟨gm, 1, none⟩ = some (.int .i64 0) := (blk_cell hbox 1).trans rfl
        have z2 : wn.cell? ⟨gm, 2, none⟩ = some (.int .i64 0) := (blk_cell hbox 2).trans rfl
        have z3 : wn.cell? ⟨gm, 3, none⟩ = some (.int .i64 0) := (blk_cell hbox 3).trans rfl
        have y0 : wn.frozen? ⟨gm, 0, none⟩ = false := blk_frozen hbox 0
        have y1 : wn.frozen? ⟨gm, 1, none⟩ = false := blk_frozen hbox 1
        have y2 : wn.frozen? ⟨gm, 2, none⟩ = false := blk_frozen hbox 2
        have y3 : wn.frozen? ⟨gm, 3, none⟩ = false := blk_frozen hbox 3
        refine skip_ (w1 := (((wn.setCell ⟨gm, 0, none⟩ (.int .i64 (wrap64 (X1 : Int)))).setCell ⟨gm, 1, none⟩ (.int .i64 (wrap64 (X2 : Int)))).setCell ⟨gm, 2, none⟩ (.int .i64 f3)).setCell ⟨gm, 3, none⟩ (.int .i64 f4)) (by rfl) rfl (by go_simp) ?_
        clear z0 z1 z2 z3 y0 y1 y2 y3; have hbm : ((((wn.setCell ⟨gm, 0, none⟩ (.int .i64 (wrap64 (X1 : Int)))).setCell ⟨gm, 1, none⟩ (.int .i64 (wrap64 (X2 : Int)))).setCell ⟨gm, 2, none⟩ (.int .i64 f3)).setCell ⟨gm, 3, none⟩ (.int .i64 f4)).heap[gm]? = some (.cells #[.int .i64 (wrap64 (X1 : Int)), .int .i64 (wrap64 (X2 : Int)), .int .i64 f3, .int .i64 f4] 38 (0, 0)) := by refine blk_put (cs := #[.int .i64 (wrap64 (X1 : Int)), .int .i64 (wrap64 (X2 : Int)), .int .i64 f3, .int .i64 0]) ?_ 3 _ rfl; refine blk_put (cs := #[.int .i64 (wrap64 (X1 : Int)), .int .i64 (wrap64 (X2 : Int)), .int .i64 0, .int .i64 0]) ?_ 2 _ rfl; refine blk_put (cs := #[.int .i64 (wrap64 (X1 : Int)), .int .i64 0, .int .i64 0, .int .i64 0]) ?_ 1 _ rfl; exact blk_put hbox 0 _ rfl
        have hBm : Below W6.heap.size W6 ((((wn.setCell ⟨gm, 0, none⟩ (.int .i64 (wrap64 (X1 : Int)))).setCell ⟨gm, 1, none⟩ (.int .i64 (wrap64 (X2 : Int)))).setCell ⟨gm, 2, none⟩ (.int .i64 f3)).setCell ⟨gm, 3, none⟩ (.int .i64 f4)) := (((hBel.setCell (p := ⟨gm, 0, none⟩) hgm6 _).setCell (p := ⟨gm, 1, none⟩) hgm6 _).setCell (p := ⟨gm, 2, none⟩) hgm6 _).setCell (p := ⟨gm, 3, none⟩) hgm6 _
        obtain ⟨W7, hW7⟩ : ∃ W7, (((wn.setCell ⟨gm, 0, none⟩ (.int .i64 (wrap64 (X1 : Int)))).setCell ⟨gm, 1, none⟩ (.int .i64 (wrap64 (X2 : Int)))).setCell ⟨gm, 2, none⟩ (.int .i64 f3)).setCell ⟨gm, 3, none⟩ (.int .i64 f4) = W7 := ⟨_, rfl⟩
        rw [hW7] at hbm hBm ⊢
        clear hW7 hbox hBel hHeld; refine hK.out _ _ ⟨keepc hBm v6, keepc hBm v9, keepc hBm v10, keepc hBm sL, keepc hBm u2, keepc hBm u3, keepc hBm u4⟩ (fun _ => ?_)
        clear hK K; have D7 := D6.below hBm
        rw [hwX1, hwX2] at hbm
        refine done_ (done_of HT_.out (by kernel_rfl)) (XRound.norm_mk ?_)
        refine kframe_mk gm ?_
        exact ⟨Nat.lt_of_lt_of_le (Array.getElem?_eq_some_iff.1 bf6).1 hgm6, ⟨D7.b0, D7.b1, D7.b2, D7.b6, D7.b7, D7.b8, D7.b9, D7.b10, D7.c1, D7.c2, D7.r6, D7.r7, D7.r8, D7.bel, hK6.trans (keepsB hBm), kbox2_t hB6 ⟨hBm.block _ D6.c1.lt, hBm.block _ D6.c2.lt⟩, hbm, blk_below bf6 hBm⟩⟩
      case h20 =>
        rintro _ W7 ⟨gm, rfl, hgg, J⟩
        clear hcut1 hcut2 hwX1 hwX2 hwE2 sL u2 u3 u4 v6 v9 v10 hrow D6 bf6 hK6 hB6; obtain ⟨A7, c7, rfl, hc7, _⟩ := J.r7.2.reads
        obtain ⟨A8, c8, rfl, hc8, _⟩ := J.r8.2.reads
        have hn7 : ∀ k, g ≤ k → some k ≠ (Value.slice A7 σ.l.length c7).ownBlock := fun k hk e => by obtain ⟨_, ho⟩ := Kd.R_own DX.r7; have := own_lt ho k e.symm; rw [hXg] at this; exact absurd hk (Nat.not_le.2 this)
        have hn8 : ∀ k, g ≤ k → some k ≠ (Value.slice A8 σ.al.length c8).ownBlock := fun k hk e => by obtain ⟨_, ho⟩ := Kd.R_own DX.r8; have := own_lt ho k e.symm; rw [hXg] at this; exact absurd hk (Nat.not_le.2 this)
        have hlenl : σ.l.length ≤ 1000000000 := by have := HLEN.out.1; omega
        have hlena : σ.al.length ≤ 1000000000 := by have := HLEN.out.2; omega
        gi_wp2
        replace J := J.below (below_drew1 (Below.refl _ W7))
        refine XRound.begin_in (S := (fun w' : World => w'.cell? ⟨p7, 0, none⟩ = some (.slice A7 σ.l.length c7) ∧ w'.cell? ⟨p8, 0, none⟩ = some (.slice A8 σ.al.length c8) ∧ w'.cell? ⟨gm, 0, none⟩ = some (.int .i64 X1) ∧ w'.cell? ⟨gm, 1, none⟩ = some (.int .i64 X2) ∧ w'.cell? ⟨gm, 2, none⟩ = some (.int .i64 f3) ∧ w'.cell? ⟨gm, 3, none⟩ = some (.int .i64 f4) ∧ w'.cell? ⟨g, 0, none⟩ = some (.int .i64 F0) ∧ w'.cell? ⟨g, 1, none⟩ = some (.int .i64 F1) ∧ w'.cell? ⟨g, 2, none⟩ = some (.int .i64 F2) ∧ w'.cell? ⟨g, 3, none⟩ = some (.int .i64 f3) ∧ w'.cell? ⟨g, 4, none⟩ = some (.int .i64 f4))) (ds := [8, 9]) (fun _ W' => KeepsFrom W0.heap.size W W' ∧ KBox2 d1 d2 W W' ∧ ∃ v7 v8, DI w w.heap.size q1 q2 p6 p7 p8 p9 p10 d1 d2 a0 S (some ad) n c1 (.slice (some a6) S.length c6) ⟨σ.l ++ [⟨⟨X1, X2⟩, f3, f4⟩], σ.al ++ [⟨F0, F1, F2, f3, f4⟩], L, C2⟩ v7 v8 W') (bz 10 0) (by kernel_rfl) (by kernel_rfl) rfl rfl ⟨J.b7.cell, J.b8.cell, (blk_cell J.hm 0).trans rfl, (blk_cell J.hm 1).trans rfl, (blk_cell J.hm 2).trans rfl, (blk_cell J.hm 3).trans rfl, (blk_cell J.hf 0).trans rfl, (blk_cell J.hf 1).trans rfl, (blk_cell J.hf 2).trans rfl, (blk_cell J.hf 3).trans rfl, (blk_cell J.hf 4).trans rfl⟩ (fun hHeld => ?_) (fun a' W' hq => ?_)
        obtain ⟨x0, ex0⟩ : ∃ q, W7.drew = q := ⟨_, rfl⟩
        rw [ex0] at J hHeld ⊢
        refine with_tabW (T := dT20) (B := dB20) (by kernel_rfl) (by kernel_rfl) (fun HT_ HW_ => ?_)
        refine tk 0 (some 131) (bz 10 1) HT_ HW_ rfl rfl hHeld ?_; refine tk 1 (some 132) (bz 10 3) HT_ HW_ rfl rfl hHeld ?_; refine tk 4 (some 135) (bz 10 19) HT_ HW_ rfl rfl hHeld ?_; refine tk 5 (some 136) (bz 10 51) HT_ HW_ rfl rfl hHeld ?_; refine two_ (i := 2) (j := 6) (Ni := some 133) (Nj := some 137) (bz 10 55) (bz 10 115) rfl rfl rfl rfl (two_of HT_.out (by kernel_rfl)) (by decide) (by decide) (fun K hK => ?_) (fun K hK => ?_)
        · refine event_step (by rfl) (v := .slice (some ⟨x0.heap.size, 0, none⟩) 1 1) (w1 := x0.alloc (.cells #[.int .i64 X1, .int .i64 X2, .int .i64 f3, .int .i64 f4] 38)) (by go_simp) ?_
          have J1 := J.below (below_alloc (Below.refl _ x0) (.cells #[.int .i64 X1, .int .i64 X2, .int .i64 f3, .int .i64 f4] 38))
          have hgs := World.alloc_heap_new x0 (.cells #[.int .i64 X1, .int .i64 X2, .int .i64 f3, .int .i64 f4] 38)
          have kgs : g ≤ x0.heap.size := Nat.le_of_lt (Array.getElem?_eq_some_iff.1 J.hf).1
          obtain ⟨gs, egs⟩ : ∃ q, x0.heap.size = q := ⟨_, rfl⟩
          obtain ⟨x1, ex1⟩ : ∃ q, x0.alloc (.cells #[.int .i64 X1, .int .i64 X2, .int .i64 f3, .int .i64 f4] 38) = q := ⟨_, rfl⟩
          rw [ex1] at hgs J1 ⊢
          rw [egs] at hgs kgs ⊢
          refine hK.out _ _ ⟨J1.b7.cell, J1.b8.cell, (blk_cell J1.hm 0).trans rfl, (blk_cell J1.hm 1).trans rfl, (blk_cell J1.hm 2).trans rfl, (blk_cell J1.hm 3).trans rfl, (blk_cell J1.hf 0).trans rfl, (blk_cell J1.hf 1).trans rfl, (blk_cell J1.hf 2).trans rfl, (blk_cell J1.hf 3).trans rfl, (blk_cell J1.hf 4).trans rfl⟩ (fun hHeld => ?_)
          clear hK K; refine norm_ (a' := ?_) ?_ ?_
          rotate_left
          · show Act.put _ (some 133) _ = _
            simp only [Act.put, List.setIfInBounds_toArray, List.set_cons_zero, List.set_cons_succ, i64_w, i32_w]
            rfl
          refine two_ (i := 3) (j := 6) (Ni := some 134) (Nj := some 137) (bz 10 63) (bz 10 119) rfl rfl rfl rfl (two_of HT_.out (by kernel_rfl)) (by decide) (by decide) (fun K hK => ?_) (fun K hK => ?_)
          · refine Kd.R_append_rows_step k38 (w0 := w) w.heap.size (by rfl) (.tmp 131) (.tmp 133) 22 38 (.agg #[(.int .i64 0), (.int .i64 0), (.int .i64 0), (.int .i64 0)]) 32 rfl Tryd.underlying22 info38 rfl (by decide) (by omega) (.slice A7 σ.l.length c7) σ.l [⟨⟨X1, X2⟩, f3, f4⟩] (some ⟨gs, 0, none⟩) 1 1 (fun _ => True) (fun _ => False) rfl rfl J1.r7 (mark_reads hgs) (fun _ _ h => h) (fun _ h => h.elim) (fun _ _ => trivial) J1.bel J1.bel.size (by have := hlenl; omega) ?_
            intro v7' x2 hR2 hB2 hG2 _
            obtain ⟨A7', m7, c7', rfl⟩ : ∃ A m c, v7' = .slice A m c := let ⟨A, c, e, _⟩ := hR2.2.reads; ⟨A, _, c, e⟩
            have J2 := J1.app7 hG2 hR2 hB2 (hn7 gm (Nat.le_of_lt hgg)) (hn7 g (Nat.le_refl _))
            refine hK.out _ _ ⟨J2.b7.cell, J2.b8.cell, (blk_cell J2.hm 0).trans rfl, (blk_cell J2.hm 1).trans rfl, (blk_cell J2.hm 2).trans rfl, (blk_cell J2.hm 3).trans rfl, (blk_cell J2.hf 0).trans rfl, (blk_cell J2.hf 1).trans rfl, (blk_cell J2.hf 2).trans rfl, (blk_cell J2.hf 3).trans rfl, (blk_cell J2.hf 4).trans rfl⟩ (fun hHeld => ?_)
            clear hK K; refine norm_ (a' := ?_) ?_ ?_
            rotate_left
            · show Act.put _ (some 134) _ = _
              simp only [Act.put, List.setIfInBounds_toArray, List.set_cons_zero, List.set_cons_succ, i64_w, i32_w]
              rfl
            refine one_ (i := 6) (N := some 137) (bz 10 127) rfl rfl (one_of HT_.out (by kernel_rfl)) (by decide) (fun K hK => ?_)
            refine event_step (by rfl) (v := .slice (some ⟨x2.heap.size, 0, none⟩) 1 1) (w1 := x2.alloc (.cells #[.int .i64 F0, .int .i64 F1, .int .i64 F2, .int .i64 f3, .int .i64 f4] 60)) (by go_simp) ?_
            have J3 := J2.below (below_alloc (Below.refl _ x2) (.cells #[.int .i64 F0, .int .i64 F1, .int .i64 F2, .int .i64 f3, .int .i64 f4] 60))
            have hgt := World.alloc_heap_new x2 (.cells #[.int .i64 F0, .int .i64 F1, .int .i64 F2, .int .i64 f3, .int .i64 f4] 60)
            have kgt : g ≤ x2.heap.size := Nat.le_of_lt (Array.getElem?_eq_some_iff.1 J2.hf).1
            obtain ⟨gt, egt⟩ : ∃ q, x2.heap.size = q := ⟨_, rfl⟩
            obtain ⟨x3, ex3⟩ : ∃ q, x2.alloc (.cells #[.int .i64 F0, .int .i64 F1, .int .i64 F2, .int .i64 f3, .int .i64 f4] 60) = q := ⟨_, rfl⟩
            rw [ex3] at hgt J3 ⊢
            rw [egt] at hgt kgt ⊢
            refine hK.out _ _ ⟨J3.b7.cell, J3.b8.cell, (blk_cell J3.hm 0).trans rfl, (blk_cell J3.hm 1).trans rfl, (blk_cell J3.hm 2).trans rfl, (blk_cell J3.hm 3).trans rfl, (blk_cell J3.hf 0).trans rfl, (blk_cell J3.hf 1).trans rfl, (blk_cell J3.hf 2).trans rfl, (blk_cell J3.hf 3).trans rfl, (blk_cell J3.hf 4).trans rfl⟩ (fun hHeld => ?_)
            clear hK K; refine norm_ (a' := ?_) ?_ ?_
            rotate_left
            · show Act.put _ (some 137) _ = _
              simp only [Act.put, List.setIfInBounds_toArray, List.set_cons_zero, List.set_cons_succ, i64_w, i32_w]
              rfl
            refine one_ (i := 7) (N := some 138) (bz 10 255) rfl rfl (one_of HT_.out (by kernel_rfl)) (by decide) (fun K hK => ?_)
            refine Kd.R_append_rows_step k60 (w0 := w) w.heap.size (by rfl) (.tmp 135) (.tmp 137) 54 60 (.agg #[(.int .i64 0), (.int .i64 0), (.int .i64 0), (.int .i64 0), (.int .i64 0)]) 40 rfl Tryd.underlying54 info60 rfl (by decide) (by omega) (.slice A8 σ.al.length c8) σ.al [⟨F0, F1, F2, f3, f4⟩] (some ⟨gt, 0, none⟩) 1 1 (fun _ => True) (fun _ => False) rfl rfl J3.r8 (reads_five hgt) (fun _ _ h => h) (fun _ h => h.elim) (fun _ _ => trivial) J3.bel J3.bel.size (by have := hlena; omega) ?_
            intro v8' x4 hR4 hB4 hG4 _
            obtain ⟨A8', m8, c8', rfl⟩ : ∃ A m c, v8' = .slice A m c := let ⟨A, c, e, _⟩ := hR4.2.reads; ⟨A, _, c, e⟩
            have J4 := J3.app8 hG4 hR4 hB4 (hn8 gm (Nat.le_of_lt hgg)) (hn8 g (Nat.le_refl _))
            refine hK.out _ _ ⟨J4.b7.cell, J4.b8.cell, (blk_cell J4.hm 0).trans rfl, (blk_cell J4.hm 1).trans rfl, (blk_cell J4.hm 2).trans rfl, (blk_cell J4.hm 3).trans rfl, (blk_cell J4.hf 0).trans rfl, (blk_cell J4.hf 1).trans rfl, (blk_cell J4.hf 2).trans rfl, (blk_cell J4.hf 3).trans rfl, (blk_cell J4.hf 4).trans rfl⟩ (fun hHeld => ?_)
            clear hK K; refine norm_ (a' := ?_) ?_ ?_
            rotate_left
            · show Act.put _ (some 138) _ = _
              simp only [Act.put, List.setIfInBounds_toArray, List.set_cons_zero, List.set_cons_succ, i64_w, i32_w]
              rfl
            refine last_ (i := 8) (N := none) (bz 10 511) rfl rfl (one_of HT_.out (by kernel_rfl)) (by decide) (fun K hK => ?_)
            have z7 := J4.b7.cell
            have y7 := J4.b7.frozen
            refine skip_ (w1 := x4.setCell ⟨p7, 0, none⟩ (.slice A7' m7 c7')) (by rfl) rfl (by go_simp) ?_
            clear z7 y7; have hSt := J4.stores HORD.out (Nat.le_refl _)
            have z8 : (x4.setCell ⟨p7, 0, none⟩ (.slice A7' m7 c7')).cell? ⟨p8, 0, none⟩ = some (.slice A8 σ.al.length c8) := (J4.b8.other2 (n87 HORD.out) _).cell
            have y8 : (x4.setCell ⟨p7, 0, none⟩ (.slice A7' m7 c7')).frozen? ⟨p8, 0, none⟩ = false := (J4.b8.other2 (n87 HORD.out) _).frozen
            refine hK.out _ _ ?_
            clear hK K; refine last_ (i := 9) (N := none) (bz 10 1023) rfl rfl (one_of HT_.out (by kernel_rfl)) (by decide) (fun K hK => ?_)
            refine skip_ (w1 := (x4.setCell ⟨p7, 0, none⟩ (.slice A7' m7 c7')).setCell ⟨p8, 0, none⟩ (.slice A8' m8 c8')) (by rfl) rfl (by go_simp) ?_
            refine hK.out _ _ ?_
            clear hK K; exact done_ (done_of HT_.out (by kernel_rfl)) (XRound.norm_mk ⟨hSt.2.1, hSt.2.2, _, _, hSt.1⟩)
          · refine event_step (by rfl) (v := .slice (some ⟨x1.heap.size, 0, none⟩) 1 1) (w1 := x1.alloc (.cells #[.int .i64 F0, .int .i64 F1, .int .i64 F2, .int .i64 f3, .int .i64 f4] 60)) (by go_simp) ?_
            have J5 := J1.below (below_alloc (Below.refl _ x1) (.cells #[.int .i64 F0, .int .i64 F1, .int .i64 F2, .int .i64 f3, .int .i64 f4] 60))
            have hgt := World.alloc_heap_new x1 (.cells #[.int .i64 F0, .int .i64 F1, .int .i64 F2, .int .i64 f3, .int .i64 f4] 60)
            have kgt : g ≤ x1.heap.size := Nat.le_of_lt (Array.getElem?_eq_some_iff.1 J1.hf).1
            have hgs := blk_below hgs (below_alloc (Below.refl _ x1) (.cells #[.int .i64 F0, .int .i64 F1, .int .i64 F2, .int .i64 f3, .int .i64 f4] 60))
            obtain ⟨gt, egt⟩ : ∃ q, x1.heap.size = q := ⟨_, rfl⟩
            obtain ⟨x5, ex5⟩ : ∃ q, x1.alloc (.cells #[.int .i64 F0, .int .i64 F1, .int .i64 F2, .int .i64 f3, .int .i64 f4] 60) = q := ⟨_, rfl⟩
            rw [ex5] at hgt J5 hgs ⊢
            rw [egt] at hgt kgt ⊢
            refine hK.out _ _ ⟨J5.b7.cell, J5.b8.cell, (blk_cell J5.hm 0).trans rfl, (blk_cell J5.hm 1).trans rfl, (blk_cell J5.hm 2).trans rfl, (blk_cell J5.hm 3).trans rfl, (blk_cell J5.hf 0).trans rfl, (blk_cell J5.hf 1).trans rfl, (blk_cell J5.hf 2).trans rfl, (blk_cell J5.hf 3).trans rfl, (blk_cell J5.hf 4).trans rfl⟩ (fun hHeld => ?_)
            clear hK K; refine norm_ (a' := ?_) ?_ ?_
            rotate_left
            · show Act.put _ (some 137) _ = _
              simp only [Act.put, List.setIfInBounds_toArray, List.set_cons_zero, List.set_cons_succ, i64_w, i32_w]
              rfl
            refine one_ (i := 3) (N := some 134) (bz 10 127) rfl rfl (one_of HT_.out (by kernel_rfl)) (by decide) (fun K hK => ?_)
            refine Kd.R_append_rows_step k38 (w0 := w) w.heap.size (by rfl) (.tmp 131) (.tmp 133) 22 38 (.agg #[(.int .i64 0), (.int .i64 0), (.int .i64 0), (.int .i64 0)]) 32 rfl Tryd.underlying22 info38 rfl (by decide) (by omega) (.slice A7 σ.l.length c7) σ.l [⟨⟨X1, X2⟩, f3, f4⟩] (some ⟨gs, 0, none⟩) 1 1 (fun _ => True) (fun _ => False) rfl rfl J5.r7 (mark_reads hgs) (fun _ _ h => h) (fun _ h => h.elim) (fun _ _ => trivial) J5.bel J5.bel.size (by have := hlenl; omega) ?_
            intro v7' x6 hR6 hB6 hG6 _
            obtain ⟨A7', m7, c7', rfl⟩ : ∃ A m c, v7' = .slice A m c := let ⟨A, c, e, _⟩ := hR6.2.reads; ⟨A, _, c, e⟩
            have J6 := J5.app7 hG6 hR6 hB6 (hn7 gm (Nat.le_of_lt hgg)) (hn7 g (Nat.le_refl _))
            have hgt := (hG6.block _ (Array.getElem?_eq_some_iff.1 hgt).1 (hn7 _ kgt)).trans hgt
            refine hK.out _ _ ⟨J6.b7.cell, J6.b8.cell, (blk_cell J6.hm 0).trans rfl, (blk_cell J6.hm 1).trans rfl, (blk_cell J6.hm 2).trans rfl, (blk_cell J6.hm 3).trans rfl, (blk_cell J6.hf 0).trans rfl, (blk_cell J6.hf 1).trans rfl, (blk_cell J6.hf 2).trans rfl, (blk_cell J6.hf 3).trans rfl, (blk_cell J6.hf 4).trans rfl⟩ (fun hHeld => ?_)
            clear hK K; refine norm_ (a' := ?_) ?_ ?_
            rotate_left
            · show Act.put _ (some 134) _ = _
              simp only [Act.put, List.setIfInBounds_toArray, List.set_cons_zero, List.set_cons_succ, i64_w, i32_w]
              rfl
            refine one_ (i := 7) (N := some 138) (bz 10 255) rfl rfl (one_of HT_.out (by kernel_rfl)) (by decide) (fun K hK => ?_)
            refine Kd.R_append_rows_step k60 (w0 := w) w.heap.size (by rfl) (.tmp 135) (.tmp 137) 54 60 (.agg #[(.int .i64 0), (.int .i64 0), (.int .i64 0), (.int .i64 0), (.int .i64 0)]) 40 rfl Tryd.underlying54 info60 rfl (by decide) (by omega) (.slice A8 σ.al.length c8) σ.al [⟨F0, F1, F2, f3, f4⟩] (some ⟨gt, 0, none⟩) 1 1 (fun _ => True) (fun _ => False) rfl rfl J6.r8 (reads_five hgt) (fun _ _ h => h) (fun _ h => h.elim) (fun _ _ => trivial) J6.bel J6.bel.size (by have := hlena; omega) ?_
            intro v8' x7 hR7 hB7 hG7 _
            obtain ⟨A8', m8, c8', rfl⟩ : ∃ A m c, v8' = .slice A m c := let ⟨A, c, e, _⟩ := hR7.2.reads; ⟨A, _, c, e⟩
            have J7 := J6.app8 hG7 hR7 hB7 (hn8 gm (Nat.le_of_lt hgg)) (hn8 g (Nat.le_refl _))
            refine hK.out _ _ ⟨J7.b7.cell, J7.b8.cell, (blk_cell J7.hm 0).trans rfl, (blk_cell J7.hm 1).trans rfl, (blk_cell J7.hm 2).trans rfl, (blk_cell J7.hm 3).trans rfl, (blk_cell J7.hf 0).trans rfl, (blk_cell J7.hf 1).trans rfl, (blk_cell J7.hf 2).trans rfl, (blk_cell J7.hf 3).trans rfl, (blk_cell J7.hf 4).trans rfl⟩ (fun hHeld => ?_)
            clear hK K; refine norm_ (a' := ?_) ?_ ?_
            rotate_left
            · show Act.put _ (some 138) _ = _
              simp only [Act.put, List.setIfInBounds_toArray, List.set_cons_zero, List.set_cons_succ, i64_w, i32_w]
              rfl
            refine last_ (i := 8) (N := none) (bz 10 511) rfl rfl (one_of HT_.out (by kernel_rfl)) (by decide) (fun K hK => ?_)
            have z7 := J7.b7.cell
            have y7 := J7.b7.frozen
            refine skip_ (w1 := x7.setCell ⟨p7, 0, none⟩ (.slice A7' m7 c7')) (by rfl) rfl (by go_simp) ?_
            clear z7 y7; have hSt := J7.stores HORD.out (Nat.le_refl _)
            have z8 : (x7.setCell ⟨p7, 0, none⟩ (.slice A7' m7 c7')).cell? ⟨p8, 0, none⟩ = some (.slice A8 σ.al.length c8) := (J7.b8.other2 (n87 HORD.out) _).cell
            have y8 : (x7.setCell ⟨p7, 0, none⟩ (.slice A7' m7 c7')).frozen? ⟨p8, 0, none⟩ = false := (J7.b8.other2 (n87 HORD.out) _).frozen
            refine hK.out _ _ ?_
            clear hK K; refine last_ (i := 9) (N := none) (bz 10 1023) rfl rfl (one_of HT_.out (by kernel_rfl)) (by decide) (fun K hK => ?_)
            refine skip_ (w1 := (x7.setCell ⟨p7, 0, none⟩ (.slice A7' m7 c7')).setCell ⟨p8, 0, none⟩ (.slice A8' m8 c8')) (by rfl) rfl (by go_simp) ?_
            refine hK.out _ _ ?_
            clear hK K; exact done_ (done_of HT_.out (by kernel_rfl)) (XRound.norm_mk ⟨hSt.2.1, hSt.2.2, _, _, hSt.1⟩)
        · refine event_step (by rfl) (v := .slice (some ⟨x0.heap.size, 0, none⟩) 1 1) (w1 := x0.alloc (.cells #[.int .i64 F0, .int .i64 F1, .int .i64 F2, .int .i64 f3, .int .i64 f4] 60)) (by go_simp) ?_
          have J8 := J.below (below_alloc (Below.refl _ x0) (.cells #[.int .i64 F0, .int .i64 F1, .int .i64 F2, .int .i64 f3, .int .i64 f4] 60))
          have hgt := World.alloc_heap_new x0 (.cells #[.int .i64 F0, .int .i64 F1, .int .i64 F2, .int .i64 f3, .int .i64 f4] 60)
          have kgt : g ≤ x0.heap.size := Nat.le_of_lt (Array.getElem?_eq_some_iff.1 J.hf).1
          obtain ⟨gt, egt⟩ : ∃ q, x0.heap.size = q := ⟨_, rfl⟩
          obtain ⟨x8, ex8⟩ : ∃ q, x0.alloc (.cells #[.int .i64 F0, .int .i64 F1, .int .i64 F2, .int .i64 f3, .int .i64 f4] 60) = q := ⟨_, rfl⟩
          rw [ex8] at hgt J8 ⊢
          rw [egt] at hgt kgt ⊢
          refine hK.out _ _ ⟨J8.b7.cell, J8.b8.cell, (blk_cell J8.hm 0).trans rfl, (blk_cell J8.hm 1).trans rfl, (blk_cell J8.hm 2).trans rfl, (blk_cell J8.hm 3).trans rfl, (blk_cell J8.hf 0).trans rfl, (blk_cell J8.hf 1).trans rfl, (blk_cell J8.hf 2).trans rfl, (blk_cell J8.hf 3).trans rfl, (blk_cell J8.hf 4).trans rfl⟩ (fun hHeld => ?_)
          clear hK K; refine norm_ (a' := ?_) ?_ ?_
          rotate_left
          · show Act.put _ (some 137) _ = _
            simp only [Act.put, List.setIfInBounds_toArray, List.set_cons_zero, List.set_cons_succ, i64_w, i32_w]
            rfl
          refine one_ (i := 2) (N := some 133) (bz 10 119) rfl rfl (one_of HT_.out (by kernel_rfl)) (by decide) (fun K hK => ?_)
          refine event_step (by rfl) (v := .slice (some ⟨x8.heap.size, 0, none⟩) 1 1) (w1 := x8.alloc (.cells #[.int .i64 X1, .int .i64 X2, .int .i64 f3, .int .i64 f4] 38)) (by go_simp) ?_
          have J9 := J8.below (below_alloc (Below.refl _ x8) (.cells #[.int .i64 X1, .int .i64 X2, .int .i64 f3, .int .i64 f4] 38))
          have hgs := World.alloc_heap_new x8 (.cells #[.int .i64 X1, .int .i64 X2, .int .i64 f3, .int .i64 f4] 38)
          have kgs : g ≤ x8.heap.size := Nat.le_of_lt (Array.getElem?_eq_some_iff.1 J8.hf).1
          have hgt := blk_below hgt (below_alloc (Below.refl _ x8) (.cells #[.int .i64 X1, .int .i64 X2, .int .i64 f3, .int .i64 f4] 38))
          obtain ⟨gs, egs⟩ : ∃ q, x8.heap.size = q := ⟨_, rfl⟩
          obtain ⟨x9, ex9⟩ : ∃ q, x8.alloc (.cells #[.int .i64 X1, .int .i64 X2, .int .i64 f3, .int .i64 f4] 38) = q := ⟨_, rfl⟩
          rw [ex9] at hgs J9 hgt ⊢
          rw [egs] at hgs kgs ⊢
          refine hK.out _ _ ⟨J9.b7.cell, J9.b8.cell, (blk_cell J9.hm 0).trans rfl, (blk_cell J9.hm 1).trans rfl, (blk_cell J9.hm 2).trans rfl, (blk_cell J9.hm 3).trans rfl, (blk_cell J9.hf 0).trans rfl, (blk_cell J9.hf 1).trans rfl, (blk_cell J9.hf 2).trans rfl, (blk_cell J9.hf 3).trans rfl, (blk_cell J9.hf 4).trans rfl⟩ (fun hHeld => ?_)
          clear hK K; refine norm_ (a' := ?_) ?_ ?_
          rotate_left
          · show Act.put _ (some 133) _ = _
            simp only [Act.put, List.setIfInBounds_toArray, List.set_cons_zero, List.set_cons_succ, i64_w, i32_w]
            rfl
          refine one_ (i := 3) (N := some 134) (bz 10 127) rfl rfl (one_of HT_.out (by kernel_rfl)) (by decide) (fun K hK => ?_)
          refine Kd.R_append_rows_step k38 (w0 := w) w.heap.size (by rfl) (.tmp 131) (.tmp 133) 22 38 (.agg #[(.int .i64 0), (.int .i64 0), (.int .i64 0), (.int .i64 0)]) 32 rfl Tryd.underlying22 info38 rfl (by decide) (by omega) (.slice A7 σ.l.length c7) σ.l [⟨⟨X1, X2⟩, f3, f4⟩] (some ⟨gs, 0, none⟩) 1 1 (fun _ => True) (fun _ => False) rfl rfl J9.r7 (mark_reads hgs) (fun _ _ h => h) (fun _ h => h.elim) (fun _ _ => trivial) J9.bel J9.bel.size (by have := hlenl; omega) ?_
          intro v7' x10 hR10 hB10 hG10 _
          obtain ⟨A7', m7, c7', rfl⟩ : ∃ A m c, v7' = .slice A m c := let ⟨A, c, e, _⟩ := hR10.2.reads; ⟨A, _, c, e⟩
          have J10 := J9.app7 hG10 hR10 hB10 (hn7 gm (Nat.le_of_lt hgg)) (hn7 g (Nat.le_refl _))
          have hgt := (hG10.block _ (Array.getElem?_eq_some_iff.1 hgt).1 (hn7 _ kgt)).trans hgt
          refine hK.out _ _ ⟨J10.b7.cell, J10.b8.cell, (blk_cell J10.hm 0).trans rfl, (blk_cell J10.hm 1).trans rfl, (blk_cell J10.hm 2).trans rfl, (blk_cell J10.hm 3).trans rfl, (blk_cell J10.hf 0).trans rfl, (blk_cell J10.hf 1).trans rfl, (blk_cell J10.hf 2).trans rfl, (blk_cell J10.hf 3).trans rfl, (blk_cell J10.hf 4).trans rfl⟩ (fun hHeld => ?_)
          clear hK K; refine norm_ (a' := ?_) ?_ ?_
          rotate_left
          · show Act.put _ (some 134) _ = _
            simp only [Act.put, List.setIfInBounds_toArray, List.set_cons_zero, List.set_cons_succ, i64_w, i32_w]
            rfl
          refine one_ (i := 7) (N := some 138) (bz 10 255) rfl rfl (one_of HT_.out (by kernel_rfl)) (by decide) (fun K hK => ?_)
          refine Kd.R_append_rows_step k60 (w0 := w) w.heap.size (by rfl) (.tmp 135) (.tmp 137) 54 60 (.agg #[(.int .i64 0), (.int .i64 0), (.int .i64 0), (.int .i64 0), (.int .i64 0)]) 40 rfl Tryd.underlying54 info60 rfl (by decide) (by omega) (.slice A8 σ.al.length c8) σ.al [⟨F0, F1, F2, f3, f4⟩] (some ⟨gt, 0, none⟩) 1 1 (fun _ => True) (fun _ => False) rfl rfl J10.r8 (reads_five hgt) (fun _ _ h => h) (fun _ h => h.elim) (fun _ _ => trivial) J10.bel J10.bel.size (by have := hlena; omega) ?_
          intro v8' x11 hR11 hB11 hG11 _
          obtain ⟨A8', m8, c8', rfl⟩ : ∃ A m c, v8' = .slice A m c := let ⟨A, c, e, _⟩ := hR11.2.reads; ⟨A, _, c, e⟩
          have J11 := J10.app8 hG11 hR11 hB11 (hn8 gm (Nat.le_of_lt hgg)) (hn8 g (Nat.le_refl _))
          refine hK.out _ _ ⟨J11.b7.cell, J11.b8.cell, (blk_cell J11.hm 0).trans rfl, (blk_cell J11.hm 1).trans rfl, (blk_cell J11.hm 2).trans rfl, (blk_cell J11.hm 3).trans rfl, (blk_cell J11.hf 0).trans rfl, (blk_cell J11.hf 1).trans rfl, (blk_cell J11.hf 2).trans rfl, (blk_cell J11.hf 3).trans rfl, (blk_cell J11.hf 4).trans rfl⟩ (fun hHeld => ?_)
          clear hK K; refine norm_ (a' := ?_) ?_ ?_
          rotate_left
          · show Act.put _ (some 138) _ = _
            simp only [Act.put, List.setIfInBounds_toArray, List.set_cons_zero, List.set_cons_succ, i64_w, i32_w]
            rfl
          refine last_ (i := 8) (N := none) (bz 10 511) rfl rfl (one_of HT_.out (by kernel_rfl)) (by decide) (fun K hK => ?_)
          have z7 := J11.b7.cell
          have y7 := J11.b7.frozen
          refine skip_ (w1 := x11.setCell ⟨p7, 0, none⟩ (.slice A7' m7 c7')) (by rfl) rfl (by go_simp) ?_
          clear z7 y7; have hSt := J11.stores HORD.out (Nat.le_refl _)
          have z8 : (x11.setCell ⟨p7, 0, none⟩ (.slice A7' m7 c7')).cell? ⟨p8, 0, none⟩ = some (.slice A8 σ.al.length c8) := (J11.b8.other2 (n87 HORD.out) _).cell
          have y8 : (x11.setCell ⟨p7, 0, none⟩ (.slice A7' m7 c7')).frozen? ⟨p8, 0, none⟩ = false := (J11.b8.other2 (n87 HORD.out) _).frozen
          refine hK.out _ _ ?_
          clear hK K; refine last_ (i := 9) (N := none) (bz 10 1023) rfl rfl (one_of HT_.out (by kernel_rfl)) (by decide) (fun K hK => ?_)
          refine skip_ (w1 := (x11.setCell ⟨p7, 0, none⟩ (.slice A7' m7 c7')).setCell ⟨p8, 0, none⟩ (.slice A8' m8 c8')) (by rfl) rfl (by go_simp) ?_
          refine hK.out _ _ ?_
          clear hK K; exact done_ (done_of HT_.out (by kernel_rfl)) (XRound.norm_mk ⟨hSt.2.1, hSt.2.2, _, _, hSt.1⟩)
        obtain ⟨hk, hb, v7', v8', hD⟩ := hq
        have hst : dall a0 S l1 (pre ++ [x]) = some ⟨σ.l ++ [⟨⟨X1, X2⟩, f3, f4⟩], σ.al ++ [⟨F0, F1, F2, f3, f4⟩], L, C2⟩ := by
          have kHC2 : (CH : Int) + (F1 : Int) = (C2 : Int) := by have := HC2.out; omega
          have kHE2 : (C2 : Int) + (F2 : Int) = (E2 : Int) := by have := HE2.out; omega
          have kHX1 : (aN : Int) + (P : Int) = (X1 : Int) := by have := HX1.out; omega
          have kHX2 : (aN : Int) + (Q : Int) = (X2 : Int) := by have := HX2.out; omega
          rw [HST.out, HB0.out, if_neg (fun h => HNB.out (HBI.out.1 h)), if_neg HNF.out]
          unfold dmark
          rw [HDL.out, HDC.out, HDLINE.out, HAN.out, HE.out.2.1, HE.out.2.2.1, HE.out.2.2.2.1, HE.out.2.2.2.2, kHC2, kHE2, HP.out, HQ.out, kHX1, kHX2, Int.toNat_natCast, HC2.out]
        gi_wp2
        exact ⟨hk, hb, _, v7', v8', hst, hD⟩
  case done =>
    rintro Dd ys W hDd rfl ⟨σ, v7, v8, hσ, D⟩ hK
    have h2 := H.out
    rw [hσ] at h2
    obtain ⟨⟨ps, en⟩, hp, h2⟩ := Option.bind_eq_some_iff.1 h2
    replace h2 : (if en = 0 then (if sameMarks ps σ.l = true then (five_fives.f k a0 ps).bind fun v => if sameFives v σ.al = true then some (σ.l, 0) else some ([], 230) else some ([], 230)) else some ([], 230)) = some (r1, r2) := h2
    obtain ⟨A7, c7, rfl, hc7, hC7⟩ := Kd.R_reads D.r7
    obtain ⟨A8, c8, rfl, hc8, hC8⟩ := Kd.R_reads D.r8
    have v0 := D.b0.cell
    have v7 := D.b7.cell
    have hord : Ord w.heap.size q1 q2 p6 p7 p8 p9 p10 d1 d2 := by unfold Ord; have := hb1.size; simp at this; omega
    have hdw : w.heap.size ≤ Dd := Nat.le_trans hD0.bel.size hDd
    have hz1 : q1 < Dd := Nat.lt_of_lt_of_le hD0.b1.lt hDd
    have hz2 : q2 < Dd := Nat.lt_of_lt_of_le hD0.b2.lt hDd
    have hfin : ∀ (X : World) (v : Value) (r : Int), DI w w.heap.size q1 q2 p6 p7 p8 p9 p10 d1 d2 a0 S A1 n c1 (.slice A6 S.length c6) σ (.slice A7 σ.l.length c7) (.slice A8 σ.al.length c8) X → X.heap[Dd]? = some (.deferred (some [])) → Boxed ((X.setCell ⟨q1, 0, none⟩ v).setCell ⟨q2, 0, none⟩ (.int .i64 r)) q1 22 v ∧ Boxed ((X.setCell ⟨q1, 0, none⟩ v).setCell ⟨q2, 0, none⟩ (.int .i64 r)) q2 28 (.int .i64 r) ∧ ((X.setCell ⟨q1, 0, none⟩ v).setCell ⟨q2, 0, none⟩ (.int .i64 r)).heap[Dd]? = some (.deferred (some [])) ∧ Below w.heap.size w ((X.setCell ⟨q1, 0, none⟩ v).setCell ⟨q2, 0, none⟩ (.int .i64 r)) := fun X v r D5 h5 => by
      unfold Ord at hord
      exact ⟨(D5.b1.set _).other2 (show q1 ≠ q2 by omega) _, (D5.b2.other2 (show q2 ≠ q1 by omega) _).set _, (Below.heap_setCell _ _ _ _ (show Dd ≠ q2 by omega)).trans ((Below.heap_setCell _ _ _ _ (show Dd ≠ q1 by omega)).trans h5), (D5.bel.setCell (p := ⟨q1, 0, none⟩) (show w.heap.size ≤ q1 by omega) _).setCell (p := ⟨q2, 0, none⟩) (show w.heap.size ≤ q2 by omega) _⟩
    have HFIN := Aside0.mk hfin; have HGW := Aside0.mk (HG.out.below D.bel)
    have HP := Aside0.mk hp; have HC7 := Aside0.mk hC7; have HC8 := Aside0.mk hC8; have H2 := Aside0.mk h2; have HORD := Aside0.mk hord; clear h2 hp hC7 hC8 HR HNM HAD HC HLN hR6 hb1 hσ H hfin hord; gi_wp2_with (refine ⟨trivial, ?_⟩; gi_at_call 11; refine (callsIn_wide.2 (five_Pieces.calls k a0 A7 c7 σ.l ps en W HC7.out hc7 HGW.out HP.out)).mono ?_; rintro e w2 ⟨vp, rfl, hRp, hb2⟩)
    have D2 := D.below hb2
    have hK2 : w2.heap[Dd]? = some (.deferred (some [])) := (hb2.block _ (Array.getElem?_eq_some_iff.1 hK).1).trans hK
    obtain ⟨Ap, cp, rfl, hcp, hCp⟩ := Kd.R_reads hRp
    have HCP := Aside0.mk hCp; have HRP := Aside0.mk hRp; have HC72 := Aside0.mk (Kd.C_below HC7.out hb2)
    have HC82 := Aside0.mk (Kd.C_below HC8.out hb2)
    clear hCp hRp HC7 HC8 D hK v0 v7 hb2 HP HGW; have v0 := D2.b0.cell
    have v7 := D2.b7.cell
    have v8 := D2.b8.cell
    by_cases he : en = 0
    case neg =>
      have HNO : Aside0 (r1 = [] ∧ r2 = 230) := by
        have h2 := H2.out
        rw [if_neg he] at h2
        have := Option.some.inj h2
        exact ⟨(congrArg Prod.fst this).symm, (congrArg Prod.snd this).symm⟩
      have hne : (en != 0) = true := bne_iff_ne.2 he
      clear he H2; refine wpIn_wide.2 ?_
      refine XRound.quiet_any (fun w' => ∃ m, w' = w2.drewN m) ⟨1, rfl⟩ (by kernel_rfl) (by kernel_rfl) ?_
      iterate 3 refine XRound.q_op ?_
      iterate 4 refine XRound.q_off ?_
      iterate 2 refine XRound.q_op ?_
      iterate 6 refine XRound.q_off ?_
      refine XRound.q_op ?_
      refine wpQuiet_nil ?_
      rintro w' ⟨m, rfl⟩
      have D3 := D2.below (pw_below_drewN (Below.refl _ _) m)
      have hK3 : (w2.drewN m).heap[Dd]? = some (.deferred (some [])) := hK2
      obtain ⟨X, hX⟩ : ∃ X, w2.drewN m = X := ⟨_, rfl⟩
      rw [hX] at D3 hK3 ⊢
      obtain ⟨e1, e2, e3, e4⟩ := HFIN.out X (.slice none 0 0) 230 D3 hK3
      have z1 := D3.b1.cell
      have z2 := D3.b2.cell
      have y1 := D3.b1.frozen
      have y2 := D3.b2.frozen
      gi_wp2
      refine ⟨by simp, .inl ⟨_, _, rfl, run_takeDeferred e3, ?_⟩⟩
      clear z1 z2 y1 y2 v0 v7; have cq1 := (e1.kept (grownBy_putObj' _ Dd (.deferred none)) (by simp; omega)).cell
      have cq2 := (e2.kept (grownBy_putObj' _ Dd (.deferred none)) (by simp; omega)).cell
      obtain ⟨hr1, hr2⟩ := HNO.out
      subst hr1 hr2
      exact ⟨.tuple #[.slice none 0 0, .int .i64 230], by simp [results, Tryd.results14, go_sem, cq1, cq2], _, rfl, Kd.R_nil _ _ _ _ _, e4.trans (belowK_b (w := w) (Nat.le_refl _) _ Dd _ _ hdw e3 rfl rfl)⟩
    subst he; rw [if_pos rfl] at H2
    by_cases hs : sameMarks ps σ.l = true
    case neg =>
      have HNO : Aside0 (r1 = [] ∧ r2 = 230) := by
        have h2 := H2.out
        rw [if_neg hs] at h2
        have := Option.some.inj h2
        exact ⟨(congrArg Prod.fst this).symm, (congrArg Prod.snd this).symm⟩
      have hsf : sameMarks ps σ.l = false := Bool.eq_false_iff.2 hs
      clear hs H2; refine wpIn_wide.2 ?_
      refine XRound.quiet_any (fun w' => w'.cell? ⟨p7, 0, none⟩ = some (.slice A7 σ.l.length c7) ∧ ∃ m, w' = w2.drewN m) ⟨v7, 1, rfl⟩ (by kernel_rfl) (by kernel_rfl) ?_
      iterate 5 refine XRound.q_op ?_
      refine XRound.q_call (f := 28) (args := #[.slice Ap ps.length cp, .slice A7 σ.l.length c7]) (.bool false) (fun w' hw' => ?hc) ?_ (hy := fun w' => by go_simp)
      case hc =>
        obtain ⟨h7, m, rfl⟩ := hw'
        refine (api_Mark.calls Ap cp ps A7 c7 σ.l false _ (Kd.C_below HCP.out (pw_below_drewN (Below.refl _ _) m)) hcp (Kd.C_below HC72.out (pw_below_drewN (Below.refl _ _) m)) hc7 (congrArg some hsf)).mono ?_
        rintro e w'' ⟨rfl, ⟨q, rfl⟩⟩
        exact ⟨rfl, h7, (Drawn0.step (w := w2) ⟨⟨m, rfl⟩⟩ q).out⟩
      iterate 3 refine XRound.q_op ?_
      iterate 6 refine XRound.q_off ?_
      refine XRound.q_op ?_
      refine wpQuiet_nil ?_
      rintro w' ⟨_, m, rfl⟩
      have D3 := D2.below (pw_below_drewN (Below.refl _ _) m)
      have hK3 : (w2.drewN m).heap[Dd]? = some (.deferred (some [])) := hK2
      obtain ⟨X, hX⟩ : ∃ X, w2.drewN m = X := ⟨_, rfl⟩
      rw [hX] at D3 hK3 ⊢
      obtain ⟨e1, e2, e3, e4⟩ := HFIN.out X (.slice none 0 0) 230 D3 hK3
      have z1 := D3.b1.cell
      have z2 := D3.b2.cell
      have y1 := D3.b1.frozen
      have y2 := D3.b2.frozen
      gi_wp2
      refine ⟨by simp, .inl ⟨_, _, rfl, run_takeDeferred e3, ?_⟩⟩
      clear z1 z2 y1 y2 v0 v7; have cq1 := (e1.kept (grownBy_putObj' _ Dd (.deferred none)) (by simp; omega)).cell
      have cq2 := (e2.kept (grownBy_putObj' _ Dd (.deferred none)) (by simp; omega)).cell
      obtain ⟨hr1, hr2⟩ := HNO.out
      subst hr1 hr2
      exact ⟨.tuple #[.slice none 0 0, .int .i64 230], by simp [results, Tryd.results14, go_sem, cq1, cq2], _, rfl, Kd.R_nil _ _ _ _ _, e4.trans (belowK_b (w := w) (Nat.le_refl _) _ Dd _ _ hdw e3 rfl rfl)⟩
    have hsf : sameMarks ps σ.l = true := hs
    rw [if_pos hs] at H2
    obtain ⟨fv, hfv, h2⟩ := Option.bind_eq_some_iff.1 H2.out
    obtain ⟨bq, hbq⟩ : ∃ b, sameFives fv σ.al = b := ⟨_, rfl⟩
    rw [hbq] at h2
    have H3 := Aside0.mk h2; have HFV := Aside0.mk hfv; have HBQ := Aside0.mk hbq; have HSF := Aside0.mk hsf; clear h2 hfv H2 hs hsf hbq; refine wpIn_wide.2 ?_
    have D3 := D2.below (below_drew1 (Below.refl _ w2))
    have hK3 : w2.drew.heap[Dd]? = some (.deferred (some [])) := hK2
    have HC3 := Aside0.mk (Kd.C_below HC72.out (below_drew1 (Below.refl _ w2)))
    have HC4 := Aside0.mk (Kd.C_below HCP.out (below_drew1 (Below.refl _ w2)))
    have HC5 := Aside0.mk (Kd.C_below HC82.out (below_drew1 (Below.refl _ w2)))
    clear HC72 HCP HC82 hK2 D2 HRP; refine start_n (n := 16) (S := fun w' => w'.cell? ⟨w.heap.size, 0, none⟩ = some (.string a0) ∧ w'.cell? ⟨p7, 0, none⟩ = some (.slice A7 σ.l.length c7) ∧ w'.cell? ⟨p8, 0, none⟩ = some (.slice A8 σ.al.length c8)) (ds := []) (bz 16 0) (by kernel_rfl) rfl rfl ⟨v0, v7, v8⟩ (fun hHeld => ?_)
    clear v0 v7 v8; refine with_tabW (T := dT22) (B := dB22) (by kernel_rfl) (by kernel_rfl) (fun HT_ HW_ => ?_)
    generalize w2.drew = x2 at D3 hK3 HC3 HC4 HC5 hHeld ⊢
    refine pu 0 (some 145) (bz 16 1) HT_ rfl rfl ?_; refine pu 1 (some 146) (bz 16 3) HT_ rfl rfl ?_; refine pu 2 (some 147) (bz 16 7) HT_ rfl rfl ?_; refine pu 3 (some 148) (bz 16 15) HT_ rfl rfl ?_; refine tk 4 (some 149) (bz 16 31) HT_ HW_ rfl rfl hHeld ?_; refine one_ (i := 5) (N := some 150) (bz 16 63) rfl rfl (one_of HT_.out (by kernel_rfl)) (by decide) (fun K hK => ?_)
    refine goes_ Tryd.func28 (by kernel_rfl) rfl #[.slice Ap ps.length cp, .slice A7 σ.l.length c7] (by rfl) rfl rfl (by first | rfl | (simp only [List.map_toArray, List.map_cons, List.map_nil]; rfl)) ?_
    refine (api_Mark.calls Ap cp ps A7 c7 σ.l true x2 HC4.out hcp HC3.out hc7 (congrArg some HSF.out)).mono ?_
    rintro e x3 ⟨rfl, hd⟩
    refine ⟨_, rfl, ?_⟩
    have D4 := D3.below hd.below
    have hK4 : x3.heap[Dd]? = some (.deferred (some [])) := (hd.below.block _ (Array.getElem?_eq_some_iff.1 hK3).1).trans hK3
    have HC6 := Aside0.mk (Kd.C_below HC4.out hd.below)
    have HC7 := Aside0.mk (Kd.C_below HC5.out hd.below)
    refine hK.out _ _ ⟨D4.b0.cell, D4.b7.cell, D4.b8.cell⟩ (fun hHeld => ?_)
    clear hK K hd D3 hK3 HC3 HC4 HC5; refine norm_ (a' := ?_) ?_ ?_
    rotate_left
    · show Act.put _ (some 150) _ = _
      simp only [Act.put, List.setIfInBounds_toArray, List.set_cons_zero, List.set_cons_succ, i64_w, i32_w]
      rfl
    refine pu 6 (some 151) (bz 16 127) HT_ rfl rfl ?_; refine pu 7 (some 152) (bz 16 255) HT_ rfl rfl ?_; refine pu 8 (some 153) (bz 16 511) HT_ rfl rfl ?_; refine tk 9 (some 154) (bz 16 1023) HT_ HW_ rfl rfl hHeld ?_; refine pu 10 (some 155) (bz 16 2047) HT_ rfl rfl ?_; refine tk 12 (some 157) (bz 16 6143) HT_ HW_ rfl rfl hHeld ?_; refine one_ (i := 11) (N := some 156) (bz 16 8191) rfl rfl (one_of HT_.out (by kernel_rfl)) (by decide) (fun K hK => ?_)
    refine goes_ Tryd.func23 (by kernel_rfl) rfl #[.string a0, .slice Ap ps.length cp] (by rfl) rfl rfl (by first | rfl | (simp only [List.map_toArray, List.map_cons, List.map_nil]; rfl)) ?_
    refine (five_fives.calls k a0 Ap cp ps fv x3 HC6.out hcp HFV.out).mono ?_
    rintro e x4 ⟨vf, rfl, hRf, hb4⟩
    refine ⟨_, rfl, ?_⟩
    obtain ⟨Af, cf, rfl, hcf, hCf⟩ := Kd.R_reads hRf
    have HCF := Aside0.mk hCf; have D5 := D4.below hb4
    have hK5 : x4.heap[Dd]? = some (.deferred (some [])) := (hb4.block _ (Array.getElem?_eq_some_iff.1 hK4).1).trans hK4
    have HC8 := Aside0.mk (Kd.C_below HC7.out hb4)
    refine hK.out _ _ ⟨D5.b0.cell, D5.b7.cell, D5.b8.cell⟩ (fun hHeld => ?_)
    clear hK K hRf hCf hb4 D4 hK4 HC6 HC7; refine norm_ (a' := ?_) ?_ ?_
    rotate_left
    · show Act.put _ (some 156) _ = _
      simp only [Act.put, List.setIfInBounds_toArray, List.set_cons_zero, List.set_cons_succ, i64_w, i32_w]
      rfl
    refine one_ (i := 13) (N := some 158) (bz 16 16383) rfl rfl (one_of HT_.out (by kernel_rfl)) (by decide) (fun K hK => ?_)
    refine goes_ Tryd.func29 (by kernel_rfl) rfl #[.slice Af fv.length cf, .slice A8 σ.al.length c8] (by rfl) rfl rfl (by first | rfl | (simp only [List.map_toArray, List.map_cons, List.map_nil]; rfl)) ?_
    refine (slices_Equal_5_int_5_int.calls Af cf fv A8 c8 σ.al bq x4 HCF.out hcf HC8.out hc8 (congrArg some HBQ.out)).mono ?_
    rintro e x5 ⟨rfl, hd⟩
    refine ⟨_, rfl, ?_⟩
    have D6 := D5.below hd.below
    have hK6 : x5.heap[Dd]? = some (.deferred (some [])) := (hd.below.block _ (Array.getElem?_eq_some_iff.1 hK5).1).trans hK5
    refine hK.out _ _ ⟨D6.b0.cell, D6.b7.cell, D6.b8.cell⟩ (fun hHeld => ?_)
    clear hK K hd D5 hK5 HC8 HCF; refine norm_ (a' := ?_) ?_ ?_
    rotate_left
    · show Act.put _ (some 158) _ = _
      simp only [Act.put, List.setIfInBounds_toArray, List.set_cons_zero, List.set_cons_succ, i64_w, i32_w]
      rfl
    cases bq
    all_goals
      refine pu 14 (some 159) (bz 16 32767) HT_ rfl rfl ?_; refine pu 15 (some 160) (bz 16 65535) HT_ rfl rfl ?_; refine done_ (done_of HT_.out (by kernel_rfl)) (XRound.norm_mk ?_)
      clear HT_ HW_ hHeld; have z1 := D6.b1.cell
      have z2 := D6.b2.cell
      have y1 := D6.b1.frozen
      have y2 := D6.b2.frozen
      have v7 := D6.b7.cell
      gi_wp2
    · obtain ⟨e1, e2, e3, e4⟩ := HFIN.out x5 (.slice none 0 0) 230 D6 hK6
      refine ⟨by simp, .inl ⟨_, _, rfl, run_takeDeferred e3, ?_⟩⟩
      clear z1 z2 y1 y2 v7; have cq1 := (e1.kept (grownBy_putObj' _ Dd (.deferred none)) (by simp; omega)).cell
      have cq2 := (e2.kept (grownBy_putObj' _ Dd (.deferred none)) (by simp; omega)).cell
      obtain ⟨rfl, rfl⟩ : r1 = [] ∧ r2 = 230 := by have := Option.some.inj H3.out; exact ⟨(congrArg Prod.fst this).symm, (congrArg Prod.snd this).symm⟩
      exact ⟨.tuple #[.slice none 0 0, .int .i64 230], by simp [results, Tryd.results14, go_sem, cq1, cq2], _, rfl, Kd.R_nil _ _ _ _ _, e4.trans (belowK_b (w := w) (Nat.le_refl _) _ Dd _ _ hdw e3 rfl rfl)⟩
    · obtain ⟨e1, e2, e3, e4⟩ := HFIN.out x5 (.slice A7 σ.l.length c7) 0 D6 hK6
      have hq21 : q2 ≠ (⟨q1, 0, none⟩ : Addr).block := fun h => by
        have h' : q2 = q1 := h
        have ho := HORD.out
        unfold Ord at ho
        omega
      have hb2 : Boxed (x5.setCell ⟨q1, 0, none⟩ (.slice A7 σ.l.length c7)) q2 28 (.int .i64 0) := D6.b2.other2 hq21 _
      have r7 := own_cells (typed_far (y := .int .i64 0) (u := .int .i64 0) (typed_far (u := .slice A7 σ.l.length c7) D6.r7 D6.b1 (by decide)) hb2 (by decide)) (grownBy_putObj' _ Dd (.deferred none)) (fun r e => by cases e; exact ⟨_, e3, rfl⟩)
      refine ⟨by simp, .inl ⟨_, _, rfl, run_takeDeferred e3, ?_⟩⟩
      clear z1 z2 y1 y2 v7; have cq1 := (e1.kept (grownBy_putObj' _ Dd (.deferred none)) (by simp; omega)).cell
      have cq2 := (e2.kept (grownBy_putObj' _ Dd (.deferred none)) (by simp; omega)).cell
      obtain ⟨rfl, rfl⟩ : r1 = σ.l ∧ r2 = 0 := by have := Option.some.inj H3.out; exact ⟨(congrArg Prod.fst this).symm, (congrArg Prod.snd this).symm⟩
      exact ⟨.tuple #[.slice A7 σ.l.length c7, .int .i64 0], by simp [results, Tryd.results14, go_sem, cq1, cq2], _, rfl, r7, e4.trans (belowK_b (w := w) (Nat.le_refl _) _ Dd _ _ hdw e3 rfl rfl)⟩
  case stop =>
    rintro Dd c pre W hDd hp ⟨rfl, hn, b1, b2, bel⟩ hK
    have hl2 := dall_none a0 S l1 pre _ hp hn
    have h2 := H.out
    rw [hl2] at h2
    obtain ⟨rfl, rfl⟩ : r1 = [] ∧ r2 = 230 := by have := Option.some.inj h2; exact ⟨(congrArg Prod.fst this).symm, (congrArg Prod.snd this).symm⟩
    clear h2 hl2; have hz1 := hD0.b1.lt
    have hz2 := hD0.b2.lt
    gi_wp2
    refine ⟨by simp, .inl ⟨_, _, rfl, run_takeDeferred hK, ?_⟩⟩
    have cq1 := (b1.kept (grownBy_putObj' _ Dd (.deferred none)) (by simp; omega)).cell
    have cq2 := (b2.kept (grownBy_putObj' _ Dd (.deferred none)) (by simp; omega)).cell
    have hdw : w.heap.size ≤ Dd := Nat.le_trans hD0.bel.size hDd
    exact ⟨.tuple #[.slice none 0 0, .int .i64 230], by simp [results, Tryd.results14, go_sem, cq1, cq2], _, rfl, Kd.R_nil _ _ _ _ _, bel.trans (belowK_b (w := w) (Nat.le_refl _) _ Dd _ _ hdw hK rfl rfl)⟩
end
end Go.Proofs.YtbjhmknahldhaaaDoor.Q
