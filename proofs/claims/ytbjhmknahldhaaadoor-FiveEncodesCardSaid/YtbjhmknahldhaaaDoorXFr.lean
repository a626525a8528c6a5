/-
  Marks of a string: what the reference's functions answer.
-/
import Derived.Test.YtbjhmknahldhaaaDoorXFa
import Derived.Test.YtbjhmknahldhaaaDoorXRef02
import Derived.Test.YtbjhmknahldhaaaDoorXRef01u
import Derived.Test.YtbjhmknahldhaaaDoorXUtfTr
import Derived.Test.YtbjhmknahldhaaaDoorQ10
import Derived.Test.YtbjhmknahldhaaaDoorQ3
import Derived.Test.YtbjhmknahldhaaaDoorQ5
import Derived.Test.YtbjhmknahldhaaaDoorQ6
import Derived.Test.YtbjhmknahldhaaaDoorQ7
namespace Go.Proofs.YtbjhmknahldhaaaDoor.XFiveR
open Go Go.RowKit Go.Proofs.YtbjhmknahldhaaaDoor.Q Go.Proofs.YtbjhmknahldhaaaDoorW.PrintWords Go.Proofs.YtbjhmknahldhaaaDoorW.PrintLast Go.Proofs.YtbjhmknahldhaaaDoorW.PrintMore Go.Proofs.YtbjhmknahldhaaaDoor.XEv Go.Proofs.YtbjhmknahldhaaaDoor.XUtfT Go.Proofs.YtbjhmknahldhaaaDoor.XWchars Go.Proofs.YtbjhmknahldhaaaDoor.XLines Go.Proofs.YtbjhmknahldhaaaDoor.XYlines Go.Proofs.YtbjhmknahldhaaaDoor.XFive
set_option linter.unusedVariables false
set_option linter.unusedSimpArgs false

theorem rd_at {l : List Mk} {i : Nat} {m : Mk} (h : l[i]? = some m) : rd_T38 l (i : Int) = m := by
  unfold rd_T38
  rw [List.getD_eq_getElem?_getD, show ((i : Int)).toNat = i from rfl, h]; rfl
theorem rightE (s : ByteArray) (hs : s.size ≤ 1000000) (l : List Mk) (hl : l.length ≤ 1000000) : ∀ (d i : Nat) (a : Int), l.length = i + d → Ev (fun k => glossatorref23_Right.l0 k s l a (i : Int)) (rgt s a (l.drop i)) := by
  intro d
  induction d with
  | zero =>
    intro i a hd
    have c : ¬ (i : Int) < (l.length : Int) := by omega
    rw [List.drop_eq_nil_of_le (by omega)]
    refine up ?_
    simp only [glossatorref23_Right.l0, if_neg c]
    exact now fun _ => rfl
  | succ d ih =>
    intro i a hd
    have hi : i < l.length := by omega
    have c1 : (i : Int) < (l.length : Int) := by omega
    have c2 : (0 : Int) ≤ (i : Int) := by omega
    obtain ⟨m, hm⟩ : ∃ m, l[i]? = some m := ⟨_, List.getElem?_eq_getElem hi⟩
    rw [List.drop_eq_getElem_cons hi, show l[i] = m from Option.some.inj ((List.getElem?_eq_getElem hi).symm.trans hm)]
    have ho : ∀ r, r = false → Ev (fun k => glossatorref23_Right.j1 k s l (i : Int) m.f0.f0 m.f0.f1 true) r := by
      intro r hr
      subst hr
      refine up ?_
      simp only [glossatorref23_Right.j1, if_true]
      exact now fun _ => rfl
    refine up ?_
    simp only [glossatorref23_Right.l0, if_pos c1, if_pos c2, rd_at hm]
    simp only [rgt]
    by_cases q1 : m.f0.f0 < a
    · simp only [if_pos q1]; exact ho _ rfl
    simp only [if_neg q1]
    by_cases q2 : m.f0.f1 < m.f0.f0
    · simp only [if_pos q2]; exact ho _ rfl
    simp only [if_neg q2]
    by_cases q3 : m.f0.f1 > (s.size : Int)
    · simp only [if_pos q3, if_pos (show (s.size : Int) < m.f0.f1 from q3)]; exact ho _ rfl
    simp only [if_neg q3, if_neg (show ¬ (s.size : Int) < m.f0.f1 from q3)]
    by_cases q4 : m.f1 < 0
    · simp only [if_pos q4]; exact ho _ rfl
    simp only [if_neg q4]
    by_cases q5 : m.f2 < 0
    · simp only [if_pos q5, decide_eq_true q5]; exact ho _ rfl
    simp only [if_neg q5, decide_eq_false q5]
    refine up ?_
    simp only [glossatorref23_Right.j1, Bool.false_eq_true, if_false]
    refine bind (ref_beg s (by omega) _) ?_
    by_cases q6 : (beg s m.f0.f0 : Int) = m.f0.f0
    · simp only [if_pos q6]
      refine bind (ref_beg s (by omega) _) ?_
      by_cases q7 : (beg s m.f0.f1 : Int) = m.f0.f1
      · simp only [if_pos q7, w1 i (by omega)]; exact ih (i + 1) _ (by omega)
      · simp only [if_neg q7]; exact now fun _ => rfl
    · simp only [if_neg q6]; exact now fun _ => rfl
theorem right (s : ByteArray) (hs : s.size ≤ 1000000) (l : List Mk) (hl : l.length ≤ 1000000) : Ev (fun k => glossatorref23_Right.f k s l) (rgt s 0 l) := by
  have := rightE s hs l hl l.length 0 0 (by omega)
  rw [List.drop_zero] at this
  exact this

/-- The lines, as stretches. -/
def Ls (s : ByteArray) : List S36 := (lns s).map fun x => ⟨(x.1.2.1 : Int), (x.1.2.2 : Int)⟩
theorem ls_len (s : ByteArray) : (Ls s).length = (lns s).length := by unfold Ls; rw [List.length_map]
theorem begs_len (s : ByteArray) : (begs (lns s)).length = (lns s).length := by unfold begs; rw [List.length_map]
theorem rd_ls {s : ByteArray} {n : Nat} {x : Ln s} (h : (lns s)[n]? = some x) : rd_T36 (Ls s) (n : Int) = ⟨(x.1.2.1 : Int), (x.1.2.2 : Int)⟩ := by
  unfold rd_T36 Ls
  rw [List.getD_eq_getElem?_getD, show ((n : Int)).toNat = n from rfl, List.getElem?_map, h]; rfl
theorem manyE (s : ByteArray) (hs : s.size ≤ 1000000) : Ev (fun k => glossatorref02_Many.f k s) ((lns s).length : Int) := by
  simp only [glossatorref02_Many.f]
  refine bind (XRef02.starts s (by omega)) (now fun _ => ?_)
  rw [begs_len]
section
variable (s : ByteArray) (hs : s.size ≤ 1000000) (L : List Mk)
include hs
theorem r0 (r : List Mk × Int) (h : Ev (fun k => glossatorref23_Pieces.l1 k L (Ls s) [] 0) r) : ∀ (d n : Nat), (lns s).length = n + d → Ev (fun k => glossatorref23_Pieces.l0 k s L ((Ls s).take n) (n : Int)) r := by
  have hln := lns_len s
  intro d
  induction d with
  | zero =>
    intro n hd
    have c : ¬ (n : Int) < ((lns s).length : Int) := by omega
    refine up ?_
    simp only [glossatorref23_Pieces.l0]
    refine bind (manyE s hs) ?_
    simp only [if_neg c]
    rw [List.take_of_length_le (by rw [ls_len]; omega)]
    exact h
  | succ d ih =>
    intro n hd
    have c : (n : Int) < ((lns s).length : Int) := by omega
    obtain ⟨x, hx⟩ : ∃ x, (lns s)[n]? = some x := ⟨_, List.getElem?_eq_getElem (by omega)⟩
    have hlen : ((Ls s).take n).length < 8796093022208 := by rw [List.length_take, ls_len]; omega
    refine up ?_
    simp only [glossatorref23_Pieces.l0]
    refine bind (manyE s hs) ?_
    simp only [if_pos c]
    refine bind (XRef02.line_at s (by omega) n x hx) ?_
    simp only [if_pos hlen, w1 n (show n < 9223372036854775807 by omega)]
    have := ih (n + 1) (by omega)
    rw [List.take_succ_eq_append_getElem (by rw [ls_len]; omega)] at this
    rw [show (Ls s)[n]'(by rw [ls_len]; omega) = ⟨(x.1.2.1 : Int), ((brk s x.1.2.1 : Nat) : Int)⟩ from ?_] at this
    · exact this
    · have h1 := rd_ls hx
      unfold rd_T36 at h1
      rw [List.getD_eq_getElem?_getD, show ((n : Int)).toNat = n from rfl, List.getElem?_eq_getElem (by rw [ls_len]; omega)] at h1
      rw [← (lns_at s n x hx).2]
      exact h1
theorem r2 {i : Nat} {m : Mk} {r : List Mk × Int} (hm : L[i]? = some m) :
    ∀ (d n : Nat) (acc : List Mk), (lns s).length = n + d → acc.length + d < 4000000000000 →
    Ev (fun k => glossatorref23_Pieces.l1 k L (Ls s) (acc ++ ((lns s).drop n).filterMap (pc s m)) (wrap64 ((i : Int) + 1))) r →
    Ev (fun k => glossatorref23_Pieces.l2 k L (Ls s) acc (i : Int) (n : Int)) r := by
  have hln := lns_len s
  have hi := (List.getElem?_eq_some_iff.1 hm).1
  have c1 : (i : Int) < (L.length : Int) := by omega
  have c2 : (0 : Int) ≤ (i : Int) := by omega
  intro d
  induction d with
  | zero =>
    intro n acc hd _ h
    rw [List.drop_eq_nil_of_le (by omega), List.filterMap_nil, List.append_nil] at h
    have c : ¬ (n : Int) < ((Ls s).length : Int) := by rw [ls_len]; omega
    refine up ?_
    simp only [glossatorref23_Pieces.l2, if_neg c]
    exact h
  | succ d ih =>
    intro n acc hd hacc h
    obtain ⟨x, hx⟩ : ∃ x, (lns s)[n]? = some x := ⟨_, List.getElem?_eq_getElem (by omega)⟩
    have hj : n < (lns s).length := by omega
    have c3 : (n : Int) < ((Ls s).length : Int) := by rw [ls_len]; omega
    have c4 : (0 : Int) ≤ (n : Int) := by omega
    have c5 : acc.length < 4398046511104 := by omega
    rw [List.drop_eq_getElem_cons hj, show (lns s)[n] = x from Option.some.inj ((List.getElem?_eq_getElem hj).symm.trans hx)] at h
    have hnext : Ev (fun k => glossatorref23_Pieces.l2 k L (Ls s) (acc ++ (pc s m x).toList) (i : Int) (wrap64 ((n : Int) + 1))) r := by
      rw [w1 n (by omega)]
      refine ih (n + 1) _ (by omega) ?_ ?_
      · rw [List.length_append]
        have : (pc s m x).toList.length ≤ 1 := by cases pc s m x <;> simp
        omega
      · rw [List.append_assoc]
        cases hp : pc s m x with
        | none => rw [List.filterMap_cons_none hp] at h; exact h
        | some p => rw [List.filterMap_cons_some hp] at h; exact h
    have hj3 : Ev (fun k => glossatorref23_Pieces.j3 k L (Ls s) acc (i : Int) (n : Int) (mx m.f0.f0 (x.1.2.1 : Int)) m.f0.f1) r := by
      refine up ?_
      simp only [glossatorref23_Pieces.j3, if_pos c4, if_pos c3, rd_ls hx, rd_at hm, if_pos c1, if_pos c2, if_pos c5]
      unfold pc at hnext
      by_cases q1 : (x.1.2.2 : Int) < m.f0.f1
      · have e : mn m.f0.f1 (x.1.2.2 : Int) = (x.1.2.2 : Int) := if_pos q1
        rw [e] at hnext
        simp only [if_pos q1]
        by_cases q2 : mx m.f0.f0 (x.1.2.1 : Int) < (x.1.2.2 : Int)
        · rw [if_pos q2] at hnext; simp only [if_pos q2]; exact hnext
        · rw [if_neg q2, Option.toList_none, List.append_nil] at hnext; simp only [if_neg q2]; exact hnext
      · have e : mn m.f0.f1 (x.1.2.2 : Int) = m.f0.f1 := if_neg q1
        rw [e] at hnext
        simp only [if_neg q1]
        by_cases q2 : mx m.f0.f0 (x.1.2.1 : Int) < m.f0.f1
        · rw [if_pos q2] at hnext; simp only [if_pos q2]; exact hnext
        · rw [if_neg q2, Option.toList_none, List.append_nil] at hnext; simp only [if_neg q2]; exact hnext
    refine up ?_
    simp only [glossatorref23_Pieces.l2, if_pos c1, if_pos c2, if_pos c3, if_pos c4, rd_ls hx, rd_at hm]
    by_cases q : (x.1.2.1 : Int) > m.f0.f0
    · have e : mx m.f0.f0 (x.1.2.1 : Int) = (x.1.2.1 : Int) := if_pos q
      rw [e] at hj3
      simp only [if_pos q]; exact hj3
    · have e : mx m.f0.f0 (x.1.2.1 : Int) = m.f0.f0 := if_neg q
      rw [e] at hj3
      simp only [if_neg q]; exact hj3
theorem r1 (hL : L.length < 1000000000) : ∀ (d i : Nat) (acc : List Mk), L.length = i + d → acc.length + d * (s.size + 1) < 2000000000000 →
    Ev (fun k => glossatorref23_Pieces.l1 k L (Ls s) acc (i : Int)) (acc ++ pcs s (L.drop i), 0) := by
  have hln := lns_len s
  intro d
  induction d with
  | zero =>
    intro i acc hd _
    have c : ¬ (i : Int) < (L.length : Int) := by omega
    refine up ?_
    simp only [glossatorref23_Pieces.l1, if_neg c]
    rw [List.drop_eq_nil_of_le (by omega)]
    refine now fun _ => ?_
    simp [pcs]
  | succ d ih =>
    intro i acc hd hb
    rw [Nat.succ_mul] at hb
    obtain ⟨D, hD⟩ : ∃ D, d * (s.size + 1) = D := ⟨_, rfl⟩
    rw [hD] at hb ih
    clear hD
    have hi : i < L.length := by omega
    have c1 : (i : Int) < (L.length : Int) := by omega
    obtain ⟨m, hm⟩ : ∃ m, L[i]? = some m := ⟨_, List.getElem?_eq_getElem hi⟩
    refine up ?_
    simp only [glossatorref23_Pieces.l1, if_pos c1]
    refine r2 s hs L hm (lns s).length 0 acc (by omega) (by omega) ?_
    rw [List.drop_zero, w1 i (by omega), List.drop_eq_getElem_cons hi, show L[i] = m from Option.some.inj ((List.getElem?_eq_getElem hi).symm.trans hm)]
    have h1 := pcs1_len s m
    have := ih (i + 1) (acc ++ pcs1 s m) (by omega) (by rw [List.length_append]; omega)
    unfold pcs at this ⊢
    rw [List.flatMap_cons, ← List.append_assoc]
    exact this
end
theorem pieces (s : ByteArray) (hs : s.size ≤ 10000) (l : List Mk) (hl : l.length ≤ 100000) : Ev (fun k => glossatorref23_Pieces.f k s l) (if rgt s 0 l = true then (pcs s l, 0) else ([], 230)) := by
  simp only [glossatorref23_Pieces.f]
  refine bind (right s (by omega) l (by omega)) ?_
  by_cases h : rgt s 0 l = true
  · simp only [if_pos h]
    have hb : l.length * (s.size + 1) ≤ 100000 * 10001 := Nat.mul_le_mul hl (by omega)
    have h1 := r1 s (by omega) l (by omega) l.length 0 [] (by omega) (by simp only [List.length_nil]; omega)
    rw [List.drop_zero, List.nil_append] at h1
    exact r0 s (by omega) l _ h1 (lns s).length 0 (by omega)
  · simp only [if_neg h]; exact now fun _ => rfl

theorem unitsE (s : ByteArray) (h : s.size ≤ 1000000) : Ev (fun k => glossatorref01_Units.f k s) (U s) := XRef01.units s (by omega)
theorem ext_size (s : ByteArray) (a b : Nat) : (s.extract a b).size ≤ s.size := by rw [ByteArray.size_extract]; omega
theorem posE (s : ByteArray) (hs : s.size ≤ 1000000) {p : Mk} {N : Nat} {X : Ln s} (o : Ok s p) (hin : InLn s p N X) : Ev (fun k => glossatorref02_Pos.f k s p.f0.f0) ((N : Int), char s p.f0.f0.toNat) := by
  have hln := lns_len s
  have o0 := o.h0
  have o1 := o.h1
  have o2 := o.h2
  have hN := (List.getElem?_eq_some_iff.1 hin.at_).1
  have hh := hin.here
  have hlo := hin.lo
  have hlt := hin.lt
  have hhi := hin.hi
  have hX := X.2
  have hj1 : Ev (fun k => glossatorref02_Pos.j1 k s p.f0.f0 (N : Int)) ((N : Int), char s p.f0.f0.toNat) := by
    have hli := XRef02.line_at s (by omega) N X hin.at_
    rw [← (lns_at s N X hin.at_).2] at hli
    have q1 : ¬ p.f0.f0 > (X.1.2.2 : Int) := by omega
    have q2 : (0 : Int) ≤ (X.1.2.1 : Int) := by omega
    have q3 : p.f0.f0 ≤ (s.size : Int) := by omega
    have hu : Ev (fun k => glossatorref01_Units.f k (s.extract ((X.1.2.1 : Int)).toNat p.f0.f0.toNat)) (char s p.f0.f0.toNat) := by
      have := unitsE (s.extract X.1.2.1 p.f0.f0.toNat) (by have := ext_size s X.1.2.1 p.f0.f0.toNat; omega)
      unfold char
      rw [hh.lno.2]
      exact this
    refine up ?_
    simp only [glossatorref02_Pos.j1]
    refine bind hli ?_
    simp only [if_neg q1, if_pos q2, if_pos hlo, if_pos q3]
    exact bind hu (now fun _ => rfl)
  have hl0 : ∀ (e n : Nat), N = n + e → Ev (fun k => glossatorref02_Pos.l0 k s p.f0.f0 (begs (lns s)) (n : Int)) ((N : Int), char s p.f0.f0.toNat) := by
    intro e
    induction e with
    | zero =>
      intro n he
      obtain rfl : n = N := by omega
      have hn9 : n < 9223372036854775807 := by omega
      refine up ?_
      simp only [glossatorref02_Pos.l0, w1 n hn9]
      have c4 : (0 : Int) ≤ ((n + 1 : Nat) : Int) := by omega
      by_cases c : ((n + 1 : Nat) : Int) < ((begs (lns s)).length : Int)
      · have hb := begs_len s
        obtain ⟨y, hy⟩ : ∃ y, (lns s)[n + 1]? = some y := ⟨_, List.getElem?_eq_getElem (by omega)⟩
        have hr := rd_of (begs_at s (n + 1) y hy)
        have h1 := hh.hi y hy
        have c5 : ¬ (y.1.2.1 : Int) ≤ p.f0.f0 := by omega
        simp only [if_pos c, if_pos c4, hr, if_neg c5]
        exact hj1
      · simp only [if_neg c]
        exact hj1
    | succ e ih =>
      intro n he
      have hn9 : n < 9223372036854775807 := by omega
      have hb := begs_len s
      have c : ((n + 1 : Nat) : Int) < ((begs (lns s)).length : Int) := by omega
      have c4 : (0 : Int) ≤ ((n + 1 : Nat) : Int) := by omega
      obtain ⟨y, hy⟩ : ∃ y, (lns s)[n + 1]? = some y := ⟨_, List.getElem?_eq_getElem (by omega)⟩
      have hr := rd_of (begs_at s (n + 1) y hy)
      have hyX := beg_mono s hy hin.at_ (by omega)
      have c5 : (y.1.2.1 : Int) ≤ p.f0.f0 := by omega
      refine up ?_
      simp only [glossatorref02_Pos.l0, w1 n hn9, if_pos c, if_pos c4, hr, if_pos c5]
      exact ih (n + 1) (by omega)
  simp only [glossatorref02_Pos.f]
  refine bind (ref_beg s (by omega) _) ?_
  rw [beg_of_bnd o0 o.b0]
  refine bind (XRef02.starts s (by omega)) ?_
  exact hl0 N 0 (by omega)
section
variable (s : ByteArray) (hs : s.size ≤ 1000000) (L : List Mk)
include hs
theorem e0 (hL : L.length < 1000000000000) (r : List Int × Int) : ∀ (d i n : Nat) (acc : List Int) (a c : Int) (x : Ln s), L.length = i + d → PRow s a (L.drop i) → (lns s)[n]? = some x → (x.1.2.1 : Int) ≤ a → 0 ≤ c ∧ c ≤ s.size → acc.length + 5 * d < 15000000000000 →
    r = (acc ++ (fvs s n c (L.drop i)).flatMap fiveOf, 0) → Ev (fun k => glossatorref23_Encode.l0 k s L acc (i : Int) (n : Int) c) r := by
  have hln := lns_len s
  intro d
  induction d with
  | zero =>
    intro i n acc a c x hd _ _ _ _ _ hr
    have c1 : ¬ (i : Int) < (L.length : Int) := by omega
    refine up ?_
    simp only [glossatorref23_Encode.l0, if_neg c1]
    rw [List.drop_eq_nil_of_le (by omega)] at hr
    subst hr
    refine now fun _ => ?_
    simp [fvs]
  | succ d ih =>
    intro i n acc a c x hd hrow hx hle hc hb hr
    have hi : i < L.length := by omega
    have c1 : (i : Int) < (L.length : Int) := by omega
    have c2 : (0 : Int) ≤ (i : Int) := by omega
    obtain ⟨m, hm⟩ : ∃ m, L[i]? = some m := ⟨_, List.getElem?_eq_getElem hi⟩
    rw [List.drop_eq_getElem_cons hi, show L[i] = m from Option.some.inj ((List.getElem?_eq_getElem hi).symm.trans hm)] at hrow hr
    cases hrow with
    | @cons _ _ _ N X h o hin t =>
      have hh := hin.here
      have hN := (List.getElem?_eq_some_iff.1 hin.at_).1
      have hn := (List.getElem?_eq_some_iff.1 hx).1
      have o0 := o.h0
      have o1 := o.h1
      have o2 := o.h2
      have hnN : n ≤ N := by
        refine Nat.le_of_not_lt fun hlt => ?_
        obtain ⟨y, hy⟩ : ∃ y, (lns s)[N + 1]? = some y := ⟨_, List.getElem?_eq_getElem (by omega)⟩
        have h1 := hh.hi y hy
        have h2 := beg_mono s hy hx (by omega)
        omega
      have hlo := hin.lo
      have hcr := char_range s m.f0.f0.toNat
      have q3 : acc.length + 5 < 17592186044416 := by omega
      have hi9 : i < 9223372036854775807 := by omega
      have hu : Ev (fun k => glossatorref01_Units.f k (s.extract m.f0.f0.toNat m.f0.f1.toNat)) (span s m) := unitsE _ (by have := ext_size s m.f0.f0.toNat m.f0.f1.toNat; omega)
      have hnext := ih (i + 1) N (acc ++ fiveOf ⟨(N : Int) - n, if (n : Int) < (N : Int) then char s m.f0.f0.toNat else char s m.f0.f0.toNat - c, span s m, m.f1, m.f2⟩) m.f0.f1 (char s m.f0.f0.toNat) X (by omega) t hin.at_ (by omega) hcr (by rw [List.length_append]; show _ + 5 + _ < _; omega) (by
        rw [hr]
        simp only [fvs, hh.lno.1, List.flatMap_cons, List.append_assoc])
      have hw1 : wrap64 ((N : Int) - (n : Int)) = (N : Int) - n := w64 (by omega) (by omega)
      have hw3 : wrap64 (char s m.f0.f0.toNat - c) = char s m.f0.f0.toNat - c := w64 (by omega) (by omega)
      refine up ?_
      simp only [glossatorref23_Encode.l0, if_pos c1, if_pos c2, rd_at hm]
      refine bind (posE s hs o hin) ?_
      by_cases cl : (N : Int) = (n : Int)
      · simp only [if_pos cl, if_pos o0, if_pos o1, if_pos o2]
        refine bind hu ?_
        simp only [Option.bind_some, List.length_cons, List.length_nil, if_pos q3, hw1, hw3, w1 i hi9]
        rw [if_neg (show ¬ (n : Int) < (N : Int) by rw [cl]; exact Int.lt_irrefl _)] at hnext
        exact hnext
      · simp only [if_neg cl, if_pos o0, if_pos o1, if_pos o2]
        refine bind hu ?_
        simp only [Option.bind_some, List.length_cons, List.length_nil, if_pos q3, hw1, w1 i hi9]
        rw [if_pos (show (n : Int) < (N : Int) by clear hw1 hw3; omega)] at hnext
        exact hnext
end
theorem encode (s : ByteArray) (hs : s.size ≤ 10000) (l : List Mk) (hl : l.length ≤ 100000) : Ev (fun k => glossatorref23_Encode.f k s l) (if rgt s 0 l = true then ((fvs s 0 0 (pcs s l)).flatMap fiveOf, 0) else ([], 230)) := by
  simp only [glossatorref23_Encode.f]
  refine bind (pieces s hs l hl) ?_
  by_cases h : rgt s 0 l = true
  · simp only [if_pos h, if_true]
    have h1 := pcs_len s l
    have h2 := lns_len s
    have h3 : l.length * (lns s).length ≤ 100000 * 10001 := Nat.mul_le_mul hl (by omega)
    have hrow := pcs_row (row_of_rgt s l 0 (by omega) h)
    obtain ⟨x, hx, hx0⟩ := ln_first s
    exact e0 s (by omega) (pcs s l) (by omega) _ (pcs s l).length 0 0 [] 0 0 x (by omega) (by rw [List.drop_zero]; exact hrow) hx (by omega) (by omega) (by simp only [List.length_nil]; omega) (by rw [List.drop_zero, List.nil_append]; rfl)
  · simp only [if_neg h]
    have c : ¬ ((230 : Int) = 0) := by omega
    simp only [if_neg c]
    exact now fun _ => rfl
end Go.Proofs.YtbjhmknahldhaaaDoor.XFiveR
