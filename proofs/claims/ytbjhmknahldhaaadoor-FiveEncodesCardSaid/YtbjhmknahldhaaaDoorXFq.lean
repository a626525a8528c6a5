/-
  Marks of a string: the five numbers of each piece, as the program's functions answer.
-/
import Derived.Test.YtbjhmknahldhaaaDoorXFp
namespace Go.Proofs.YtbjhmknahldhaaaDoor.XFive
open Go Go.RowKit Go.Proofs.YtbjhmknahldhaaaDoor.Q Go.Proofs.YtbjhmknahldhaaaDoorW.PrintWords Go.Proofs.YtbjhmknahldhaaaDoorW.PrintLast Go.Proofs.YtbjhmknahldhaaaDoorW.PrintMore Go.Proofs.YtbjhmknahldhaaaDoor.XEv Go.Proofs.YtbjhmknahldhaaaDoor.XUtfT Go.Proofs.YtbjhmknahldhaaaDoor.XWchars Go.Proofs.YtbjhmknahldhaaaDoor.XLines Go.Proofs.YtbjhmknahldhaaaDoor.XYlines
set_option linter.unusedVariables false
set_option linter.unusedSimpArgs false

theorem unitsE (s : ByteArray) (h : s.size ≤ 1000000) : utf_Units.f s = some (U s) := by
  unfold utf_Units.f
  rw [if_pos (by omega)]
  rfl
theorem ext_size (s : ByteArray) (a b : Nat) : (s.extract a b).size ≤ s.size := by rw [ByteArray.size_extract]; omega
section
variable (s : ByteArray) (hs : s.size ≤ 1000000) (L : List Mk)
include hs
theorem f1 {i N : Nat} {X : Ln s} {acc : List S60} {p : Mk} {r : List S60} {line : Nat} {c : Int} (o : Ok s p) (hin : InLn s p N X) (hline : line ≤ 2000000) (hc : 0 ≤ c ∧ c ≤ s.size) (hacc : acc.length < 3000000000000)
    (h : Ev (fun k => five_fives.l0 k s (acc ++ [⟨(N : Int) - line, if (line : Int) < (N : Int) then char s p.f0.f0.toNat else char s p.f0.f0.toNat - c, span s p, p.f1, p.f2⟩]) (st s) (N : Int) (N : Int) (char s p.f0.f0.toNat) L (L.length : Int) (wrap64 ((i : Int) + 1))) r) :
    ∀ (e n : Nat) (x : Ln s), N = n + e → (lns s)[n]? = some x → (x.1.2.1 : Int) ≤ p.f0.f0 →
      Ev (fun k => five_fives.l1 k s acc (st s) (n : Int) (line : Int) c L (L.length : Int) (i : Int) p.f0.f0 p.f0.f1 p.f1 p.f2) r := by
  have hln := lns_len s
  have o0 := o.h0
  have o1 := o.h1
  have o2 := o.h2
  have hN := (List.getElem?_eq_some_iff.1 hin.at_).1
  have hh := hin.here
  intro e
  induction e with
  | zero =>
    intro n x he hx hxle
    obtain rfl : n = N := by omega
    obtain rfl : x = X := by have := hin.at_; rw [hx] at this; exact Option.some.inj this
    have hn9 : n < 9223372036854775807 := by omega
    have c4 : (0 : Int) ≤ ((n + 1 : Nat) : Int) := by omega
    have c5 : ((n + 1 : Nat) : Int) < ((st s).length : Int) := by rw [st_len]; omega
    obtain ⟨g, hg, _, h3, h4, h5, _⟩ := st_next s n x hx
    have hg' : rd (st s) ((n + 1 : Nat) : Int) = (g : Int) := by rw [show ((n + 1 : Nat) : Int) = (n : Int) + 1 by omega]; exact hg
    have cg : ¬ (g : Int) ≤ p.f0.f0 := by
      cases hy : (lns s)[n + 1]? with
      | none => have := h5 hy; omega
      | some y => have := h4 y hy; have := hh.hi y hy; omega
    have d1 : (0 : Int) ≤ (n : Int) := by omega
    have d2 : (n : Int) < ((st s).length : Int) := by rw [st_len]; omega
    have d3 : (0 : Int) ≤ (x.1.2.1 : Int) := by omega
    have hu1 : utf_Units.f (s.extract ((x.1.2.1 : Int)).toNat p.f0.f0.toNat) = some (char s p.f0.f0.toNat) := by
      rw [unitsE _ (by have := ext_size s ((x.1.2.1 : Int)).toNat p.f0.f0.toNat; omega)]
      unfold char
      rw [hh.lno.2]; rfl
    have hu2 : utf_Units.f (s.extract p.f0.f0.toNat p.f0.f1.toNat) = some (span s p) := by
      rw [unitsE _ (by have := ext_size s p.f0.f0.toNat p.f0.f1.toNat; omega)]
      rfl
    have hcr := char_range s p.f0.f0.toNat
    have d4 : acc.length < 3518437208883 := by omega
    have d5 : p.f0.f0 ≤ (s.size : Int) := by omega
    have hw1 : wrap64 ((n : Int) - (line : Int)) = (n : Int) - line := w64 (by omega) (by omega)
    have hw2 : wrap64 (char s p.f0.f0.toNat) = char s p.f0.f0.toNat := w64 (by omega) (by omega)
    have hw3 : wrap64 (char s p.f0.f0.toNat - c) = char s p.f0.f0.toNat - c := w64 (by omega) (by omega)
    refine up ?_
    simp only [five_fives.l1, w1 n hn9, if_pos c4, if_pos c5, hg', if_neg cg]
    by_cases cl : (n : Int) > (line : Int)
    · simp only [if_pos cl, if_pos d1, if_pos d2, st_beg s n x hx, if_pos d3, if_pos hxle, if_pos d5, hu1, Option.bind_some, if_pos o0, if_pos o1, if_pos o2, hu2, if_pos d4, hw1, hw2]
      rw [if_pos (show (line : Int) < (n : Int) by omega)] at h
      exact h
    · simp only [if_neg cl, if_pos d1, if_pos d2, st_beg s n x hx, if_pos d3, if_pos hxle, if_pos d5, hu1, Option.bind_some, if_pos o0, if_pos o1, if_pos o2, hu2, if_pos d4, hw1, hw3]
      rw [if_neg (show ¬ (line : Int) < (n : Int) by omega)] at h
      exact h
  | succ e ihe =>
    intro n x he hx hxle
    have hn9 : n < 9223372036854775807 := by omega
    have c4 : (0 : Int) ≤ ((n + 1 : Nat) : Int) := by omega
    have c5 : ((n + 1 : Nat) : Int) < ((st s).length : Int) := by rw [st_len]; omega
    obtain ⟨y, hy⟩ : ∃ y, (lns s)[n + 1]? = some y := ⟨_, List.getElem?_eq_getElem (by omega)⟩
    have hyX := beg_mono s hy hin.at_ (by omega)
    have hlo := hin.lo
    have cg : (y.1.2.1 : Int) ≤ p.f0.f0 := by omega
    refine up ?_
    simp only [five_fives.l1, w1 n hn9, if_pos c4, if_pos c5, st_beg s (n + 1) y hy, if_pos cg]
    exact ihe (n + 1) y (by omega) hy cg
theorem f0 (hL : L.length < 1000000000000) (r : List S60) : ∀ (d i n : Nat) (acc : List S60) (a c : Int) (x : Ln s), L.length = i + d → PRow s a (L.drop i) → (lns s)[n]? = some x → (x.1.2.1 : Int) ≤ a → 0 ≤ c ∧ c ≤ s.size → acc.length + d < 2000000000000 →
    r = acc ++ fvs s n c (L.drop i) → Ev (fun k => five_fives.l0 k s acc (st s) (n : Int) (n : Int) c L (L.length : Int) (i : Int)) r := by
  have hln := lns_len s
  intro d
  induction d with
  | zero =>
    intro i n acc a c x hd _ _ _ _ _ hr
    have c1 : ¬ (i : Int) < (L.length : Int) := by omega
    refine up ?_
    simp only [five_fives.l0, if_neg c1]
    rw [List.drop_eq_nil_of_le (by omega)] at hr
    subst hr
    refine now fun _ => ?_
    simp [fvs]
  | succ d ih =>
    intro i n acc a c x hd hrow hx hle hc hb hr
    have hi : i < L.length := by omega
    have c1 : (i : Int) < (L.length : Int) := by omega
    have c2 : (0 : Int) ≤ (i : Int) := by omega
    obtain ⟨m, hm⟩ : ∃ m, L[i]? = some m := ⟨_, List.getElem?_eq_getElem hi⟩
    have hrd : rd_T38 L (i : Int) = m := by
      unfold rd_T38
      rw [List.getD_eq_getElem?_getD, show ((i : Int)).toNat = i from rfl, hm]; rfl
    rw [List.drop_eq_getElem_cons hi, show L[i] = m from Option.some.inj ((List.getElem?_eq_getElem hi).symm.trans hm)] at hrow hr
    cases hrow with
    | @cons _ _ _ N X h o hin t =>
      have hh := hin.here
      have hN := (List.getElem?_eq_some_iff.1 hin.at_).1
      have hn := (List.getElem?_eq_some_iff.1 hx).1
      have o1 := o.h1
      have hnN : n ≤ N := by
        refine Nat.le_of_not_lt fun hlt => ?_
        obtain ⟨y, hy⟩ : ∃ y, (lns s)[N + 1]? = some y := ⟨_, List.getElem?_eq_getElem (by omega)⟩
        have h1 := hh.hi y hy
        have h2 := beg_mono s hy hx (by omega)
        omega
      refine up ?_
      simp only [five_fives.l0, if_pos c1, if_pos c2, hrd]
      refine f1 s hs L o hin (by omega) hc (by omega) ?_ (N - n) n x (by omega) hx (by omega)
      rw [w1 i (by omega)]
      have hlo := hin.lo
      refine ih (i + 1) N _ m.f0.f1 _ X (by omega) t hin.at_ (by omega) (char_range s _) (by rw [List.length_append]; simp; omega) ?_
      rw [hr]
      simp only [fvs, hh.lno.1, List.append_assoc, List.singleton_append]
end
theorem fives (s : ByteArray) (hs : s.size ≤ 10000) (P : List Mk) (hP : P.length < 1000000000000) (h : PRow s 0 P) : Ev (fun k => five_fives.f k s P) (fvs s 0 0 P) := by
  simp only [five_fives.f]
  refine cbind (ends s (by omega)) ?_
  obtain ⟨x, hx, hx0⟩ := ln_first s
  exact f0 s (by omega) P hP _ P.length 0 0 [] 0 0 x (by omega) (by rw [List.drop_zero]; exact h) hx (by omega) (by omega) (by simp only [List.length_nil]; omega) (by rw [List.drop_zero, List.nil_append]; rfl)
/-- The numbers of marks. -/
def enc (s : ByteArray) (l : List Mk) : List Int := (fvs s 0 0 (pcs s l)).flatMap fiveOf
theorem encode (s : ByteArray) (hs : s.size ≤ 10000) (l : List Mk) (hl : l.length ≤ 100000) : Ev (fun k => five_Encode.f k s l) (if rgt s 0 l = true then (enc s l, 0) else ([], 230)) := by
  simp only [five_Encode.f]
  refine bind (pieces s hs l hl) ?_
  by_cases h : rgt s 0 l = true
  · simp only [if_pos h, if_true]
    have h1 := pcs_len s l
    have h2 := lns_len s
    have h3 : l.length * (lns s).length ≤ 100000 * 10001 := Nat.mul_le_mul hl (by omega)
    have hrow := pcs_row (row_of_rgt s l 0 (by omega) h)
    refine bind (fives s hs (pcs s l) (by omega) hrow) ?_
    have hr : five_row.f (fvs s 0 0 (pcs s l)) = some (enc s l) := by
      unfold five_row.f
      rw [if_pos (by rw [fvs_len]; omega)]
      rfl
    exact cbind hr (now fun _ => rfl)
  · simp only [if_neg h]
    have c : ¬ ((230 : Int) = 0) := by omega
    simp only [if_neg c]
    exact now fun _ => rfl
end Go.Proofs.YtbjhmknahldhaaaDoor.XFive
