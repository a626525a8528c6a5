/-
  Places by lines: what the reference of layer 2 answers.
-/
import Derived.Test.YtfjanedappcolaaDoorXZoffs
import Derived.Test.YtfjanedappcolaaDoorXRef02
import Derived.Test.YtfjanedappcolaaDoorXRef01u
import Derived.Test.YtfjanedappcolaaDoorXUtfTr
import Derived.Test.YtfjanedappcolaaDoorQ14
import Derived.Test.YtfjanedappcolaaDoorQ15
import Derived.Test.YtfjanedappcolaaDoorQ16
namespace Go.Proofs.YtfjanedappcolaaDoor.XZoffs
open Go Go.RowKit Go.Proofs.YtfjanedappcolaaDoor.Q Go.Proofs.YtfjanedappcolaaDoorW.PrintWords Go.Proofs.YtfjanedappcolaaDoorW.PrintLast Go.Proofs.YtfjanedappcolaaDoorW.PrintMore Go.Proofs.YtfjanedappcolaaDoor.XEv Go.Proofs.YtfjanedappcolaaDoor.XLines
set_option linter.unusedVariables false
set_option linter.unusedSimpArgs false

theorem ref_offset (s : ByteArray) (hs : s.size ≤ 20000) (l c : Int) : Ev (fun k => glossatorref02_Offset.f k s l c) (offs s l c) := by
  have hm := mx0 c
  have hl := mx0 l
  have hj1 : Ev (fun k => glossatorref02_Offset.j1 k s (mx l 0) (mx c 0)) (offs s l c) := by
    refine up ?_
    simp only [glossatorref02_Offset.j1]
    refine bind (XRef02.line s (by omega) (mx l 0)) ?_
    unfold offs
    rcases line_cases s (mx l 0) with ⟨_, h⟩ | ⟨i, x, _, _, h⟩
    · rw [h]; exact now fun _ => rfl
    · rw [h]
      have hx := x.2
      have c1 : (0 : Int) ≤ (x.1.2.1 : Int) := by omega
      have c2 : (x.1.2.1 : Int) ≤ (x.1.2.2 : Int) := by omega
      have c3 : (x.1.2.2 : Int) ≤ (s.size : Int) := by omega
      simp only [if_true, if_pos c1, if_pos c2, if_pos c3]
      have hsz : (s.extract x.1.2.1 x.1.2.2).size ≤ 140737488351232 := by rw [ByteArray.size_extract]; omega
      refine bind (XRef01.cut (s.extract x.1.2.1 x.1.2.2) hsz (mx c 0)) (now fun _ => ?_)
      have := cutIn_le s x.1.2.1 x.1.2.2 (mx c 0) hx.2.2
      show some (wrap64 ((x.1.2.1 : Int) + (cutIn s x.1.2.1 x.1.2.2 (mx c 0) : Int))) = _
      rw [w64 (by omega) (by omega)]
      rfl
  have hj0 : Ev (fun k => glossatorref02_Offset.j0 k s (mx l 0) c) (offs s l c) := by
    refine up ?_
    simp only [glossatorref02_Offset.j0]
    by_cases h : c < 0
    · simp only [if_pos h]; rw [hm.2.1 h] at hj1; exact hj1
    · simp only [if_neg h]; rw [hm.2.2 (by omega)] at hj1; exact hj1
  simp only [glossatorref02_Offset.f]
  by_cases h : l < 0
  · simp only [if_pos h]; rw [hl.2.1 h] at hj0; exact hj0
  · simp only [if_neg h]; rw [hl.2.2 (by omega)] at hj0; exact hj0
theorem pos_j1 (s : ByteArray) (hs : s.size ≤ 20000) (t n : Nat) (ht : t ≤ s.size) (x : Ln s) (hx : (lns s)[n]? = some x) (hle : x.1.2.1 ≤ t) :
    Ev (fun k => glossatorref02_Pos.j1 k s (t : Int) (n : Int)) ((n : Int), unitsOf (s.extract x.1.2.1 (min (t : Int) (x.1.2.2 : Int)).toNat)) := by
  have hx2 := x.2
  refine up ?_
  simp only [glossatorref02_Pos.j1]
  have hli := XRef02.line s (by omega) (n : Int)
  rw [line_in s n x hx, ← (lns_at s n x hx).2] at hli
  refine bind hli ?_
  have c1 : (0 : Int) ≤ (x.1.2.1 : Int) := by omega
  by_cases h : (t : Int) > (x.1.2.2 : Int)
  · have c2 : (x.1.2.1 : Int) ≤ (x.1.2.2 : Int) := by omega
    have c3 : (x.1.2.2 : Int) ≤ (s.size : Int) := by omega
    simp only [if_pos h, if_pos c1, if_pos c2, if_pos c3]
    rw [show (min (t : Int) (x.1.2.2 : Int)).toNat = x.1.2.2 by omega]
    refine bind (XRef01.units (s.extract x.1.2.1 x.1.2.2) (by rw [ByteArray.size_extract]; omega)) (now fun _ => rfl)
  · have c2 : (x.1.2.1 : Int) ≤ (t : Int) := by omega
    have c3 : (t : Int) ≤ (s.size : Int) := by omega
    simp only [if_neg h, if_pos c1, if_pos c2, if_pos c3]
    rw [show (min (t : Int) (x.1.2.2 : Int)).toNat = t by omega]
    refine bind (XRef01.units (s.extract x.1.2.1 t) (by rw [ByteArray.size_extract]; omega)) (now fun _ => rfl)
theorem pos_l0 (s : ByteArray) (hs : s.size ≤ 20000) (t : Nat) (ht : t ≤ s.size) : ∀ (d n : Nat), ((lns s).takeWhile (fun x => decide ((x.1.2.1 : Int) ≤ (t : Int)))).length = n + 1 + d →
    Ev (fun k => glossatorref02_Pos.l0 k s (t : Int) (begs (lns s)) (n : Int)) (posOf (t : Int) (lns s)) := by
  have hl : (begs (lns s)).length = (lns s).length := by unfold begs; rw [List.length_map]
  have hln : (lns s).length ≤ s.size + 1 := lnsFrom_len _ _ _
  intro d
  induction d with
  | zero =>
    intro n hd
    obtain ⟨hg, x, hx, hpx⟩ := take_get (fun x : Ln s => decide ((x.1.2.1 : Int) ≤ (t : Int))) (lns s) n (by omega)
    have hlt := (List.getElem?_eq_some_iff.1 hx).1
    have hpos : posOf (t : Int) (lns s) = ((n : Int), unitsOf (s.extract x.1.2.1 (min (t : Int) (x.1.2.2 : Int)).toNat)) := by
      unfold posOf lastPos
      rw [List.getLast?_eq_getElem?, hd, show n + 1 + 0 - 1 = n by omega, hg, hx]
      simp only [(lns_at s n x hx).1]
    rw [hpos]
    have hj := pos_j1 s hs t n ht x hx (by have := of_decide_eq_true hpx; omega)
    have e1 : wrap64 ((n : Int) + 1) = ((n + 1 : Nat) : Int) := by rw [w64 (by omega) (by omega)]; rfl
    refine up ?_
    simp only [glossatorref02_Pos.l0, e1]
    by_cases h : n + 1 < (lns s).length
    · have c1 : ((n + 1 : Nat) : Int) < ((begs (lns s)).length : Int) := by omega
      have c0 : (0 : Int) ≤ ((n + 1 : Nat) : Int) := by omega
      obtain ⟨y, hy⟩ : ∃ y, (lns s)[n + 1]? = some y := ⟨_, List.getElem?_eq_getElem h⟩
      have hst := take_stop (fun x : Ln s => decide ((x.1.2.1 : Int) ≤ (t : Int))) (lns s) y (by rw [hd]; exact hy)
      have c2 : ¬ rd (begs (lns s)) ((n + 1 : Nat) : Int) ≤ (t : Int) := by
        rw [XLines.rd_of (begs_at s (n + 1) y hy)]
        exact of_decide_eq_false hst
      simp only [if_pos c1, if_pos c0, if_neg c2]
      exact hj
    · have c1 : ¬ ((n + 1 : Nat) : Int) < ((begs (lns s)).length : Int) := by omega
      simp only [if_neg c1]
      exact hj
  | succ d ih =>
    intro n hd
    obtain ⟨_, y, hy, hpy⟩ := take_get (fun x : Ln s => decide ((x.1.2.1 : Int) ≤ (t : Int))) (lns s) (n + 1) (by omega)
    have hlt := (List.getElem?_eq_some_iff.1 hy).1
    have e1 : wrap64 ((n : Int) + 1) = ((n + 1 : Nat) : Int) := by rw [w64 (by omega) (by omega)]; rfl
    refine up ?_
    have c1 : ((n + 1 : Nat) : Int) < ((begs (lns s)).length : Int) := by omega
    have c0 : (0 : Int) ≤ ((n + 1 : Nat) : Int) := by omega
    have c2 : rd (begs (lns s)) ((n + 1 : Nat) : Int) ≤ (t : Int) := by
      rw [XLines.rd_of (begs_at s (n + 1) y hy)]
      exact of_decide_eq_true hpy
    simp only [glossatorref02_Pos.l0, e1, if_pos c1, if_pos c0, if_pos c2]
    exact ih (n + 1) (by omega)
theorem ref_pos (s : ByteArray) (hs : s.size ≤ 20000) (a : Int) : Ev (fun k => glossatorref02_Pos.f k s a) (pos s a) := by
  simp only [glossatorref02_Pos.f]
  refine bind (XUtfT.ref_beg s (by omega) a) (bind (XRef02.starts s (by omega)) ?_)
  have hb := beg_le s a
  obtain ⟨x, hx, hx0⟩ := lns_zero s
  have hlen : 1 ≤ ((lns s).takeWhile (fun x => decide ((x.1.2.1 : Int) ≤ (XUtfT.beg s a : Int)))).length := by
    have hne := lns_ne s
    match hl : lns s, hne with
    | y :: l, _ =>
      rw [hl] at hx
      obtain rfl := Option.some.inj hx
      rw [List.takeWhile_cons_of_pos (by rw [hx0]; simp)]
      simp
  exact pos_l0 s hs (XUtfT.beg s a) hb (((lns s).takeWhile (fun x => decide ((x.1.2.1 : Int) ≤ (XUtfT.beg s a : Int)))).length - 1) 0 (by omega)
end Go.Proofs.YtfjanedappcolaaDoor.XZoffs
