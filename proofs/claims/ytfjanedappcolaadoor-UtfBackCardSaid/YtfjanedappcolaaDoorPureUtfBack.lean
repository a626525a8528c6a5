/-
  UtfBack: the pure statement of the law: whatever the string, the place and the number, the printed law answers true. No condition of ours.
-/
import Derived.Test.YtfjanedappcolaaDoorXWchars
import Derived.Test.YtfjanedappcolaaDoorXYawake1
import Derived.Test.YtfjanedappcolaaDoorQ11
namespace Go.Proofs.YtfjanedappcolaaDoor.Pure
open Go Go.RowKit Go.Proofs.YtfjanedappcolaaDoor.Q Go.Proofs.YtfjanedappcolaaDoorW.PrintWords Go.Proofs.YtfjanedappcolaaDoorW.PrintLast Go.Proofs.YtfjanedappcolaaDoor.XEv Go.Proofs.YtfjanedappcolaaDoor.XWchars Go.Proofs.YtfjanedappcolaaDoor.XUtfT Go.Proofs.YtfjanedappcolaaDoor.XRef01
set_option linter.unusedVariables false
set_option linter.unusedSimpArgs false

theorem UtfBack.units (s : ByteArray) (hs : s.size ≤ 140737488351232) : utf_Units.f s = some (U s) := by
  unfold utf_Units.f; rw [if_pos hs]; rfl
theorem UtfBack.cut (s : ByteArray) (u : Int) (hu : u ≤ 9223372036854775807) : utf_Cut.f s u = some (C s u : Int) := by
  unfold utf_Cut.f
  by_cases h : u < 0
  · rw [if_pos h, C_neg s u h]; rfl
  · rw [if_neg h, if_pos hu]; rfl
theorem UtfBack.head (s : ByteArray) (hs : s.size ≤ 20000) (p : Nat) (u : Int) (h : Ch s p u) : utf_Units.f (s.extract 0 (p : Int).toNat) = some u := by
  rw [show (p : Int).toNat = p from rfl, UtfBack.units _ (by rw [ByteArray.size_extract]; omega), U_ext .zero h (Nat.zero_le _), Int.sub_zero]
theorem UtfBack.j1 (s : ByteArray) (hs : s.size ≤ 20000) (u : Int) (hu : -9223372036854775808 ≤ u ∧ u ≤ 9223372036854775807) : Ev (fun k => glossatorlaw01_UtfBack.j1 k s u (C s u : Int) false) true := by
  have hb := C_bnd s u
  obtain ⟨v, hv⟩ := Ch.of hb
  have hle := hv.le
  have c1 : (0 : Int) ≤ (C s u : Int) := by omega
  have c2 : (C s u : Int) ≤ (s.size : Int) := by omega
  refine up ?_
  simp only [glossatorlaw01_UtfBack.j1, Bool.false_eq_true, if_false, if_pos c1, if_pos c2]
  refine cbind (UtfBack.head s hs _ v hv) ?_
  by_cases h0 : u < 0
  · simp only [if_pos h0]
    refine now fun _ => ?_
    rw [C_neg s u h0]; rfl
  · simp only [if_neg h0]
    refine cbind (UtfBack.units s (by omega)) ?_
    obtain ⟨v', hv', hvu, hlt⟩ := C_spec s u (by omega)
    obtain rfl := hv.uniq hv'
    have hm := hv.mono (Ch.all s)
    by_cases h1 : u ≥ U s
    · simp only [if_pos h1]
      have he : C s u = s.size := by
        rcases Nat.lt_or_eq_of_le hle with h2 | h2
        · have := hm.2.2 h2; have := hlt h2; omega
        · exact h2
      refine now fun _ => ?_
      rw [he]; simp
    · simp only [if_neg h1]
      by_cases h2 : v = u
      · simp only [if_pos h2]; exact now fun _ => rfl
      · simp only [if_neg h2]
        have hlt2 : C s u < s.size := by
          rcases Nat.lt_or_eq_of_le hle with h3 | h3
          · exact h3
          · have := hm.2.1 h3; omega
        have h3 := hlt hlt2
        have hr := XUtf.uni_range s (C s u)
        have hw := XUtf.uni_width s (C s u)
        have h4 : XUtf.width s (C s u) = 4 := by
          rcases Nat.decEq (XUtf.width s (C s u)) 4 with h5 | h5
          · rw [if_neg h5] at hw; omega
          · exact h5
        refine bind (utf_next s (C s u) hlt2) ?_
        rw [nx_good s _ (good_of_wide s _ (by omega))]
        have e1 : wrap64 (u - 1) = u - 1 := w64 (by omega) (by omega)
        have e2 : v = u - 1 := by omega
        simp only [e1, if_pos e2]
        refine now fun _ => ?_
        show some (((XUtf.width s (C s u) : Nat) : Int) == 4) = _
        rw [h4]; rfl
theorem UtfBack.j0 (s : ByteArray) (hs : s.size ≤ 20000) (u : Int) (hu : -9223372036854775808 ≤ u ∧ u ≤ 9223372036854775807) : Ev (fun k => glossatorlaw01_UtfBack.j0 k s u false) true := by
  have hb := C_bnd s u
  have hle := bnd_le hb
  have c1 : ¬ (C s u : Int) < 0 := by omega
  have c2 : ¬ (C s u : Int) > (s.size : Int) := by omega
  refine up ?_
  simp only [glossatorlaw01_UtfBack.j0, Bool.false_eq_true, if_false]
  refine cbind (UtfBack.cut s u hu.2) ?_
  simp only [if_neg c1, if_neg c2]
  refine bind (utf_begin s (by omega) (C s u : Int)) ?_
  rw [beg_bnd s _ hb]
  simp only [bne_self_eq_false]
  exact UtfBack.j1 s hs u hu
theorem UtfBack : glossatorlaw01_UtfBack.Pure := by
  intro s a u hs ha hu
  have ha1 := lit_i64 ha
  have hu1 := lit_i64 hu
  refine Ev.rounds (g := fun k => glossatorlaw01_UtfBack.f k s a u) ?_
  simp only [glossatorlaw01_UtfBack.f]
  refine bind XYawake1.awake ?_
  simp only [if_true]
  by_cases h : (s.size : Int) > 20000
  · simp only [if_pos h]; exact now fun _ => rfl
  · simp only [if_neg h]
    have hs : s.size ≤ 20000 := by omega
    refine bind (utf_begin s (by omega) a) ?_
    have hb := bnd_beg s a
    have hle := bnd_le hb
    have hla := beg_le' s a
    obtain ⟨v, hv⟩ := Ch.of hb
    have c1 : ¬ (beg s a : Int) < 0 := by omega
    have c2 : ¬ (beg s a : Int) > (s.size : Int) := by omega
    have c3 : (0 : Int) ≤ (beg s a : Int) := by omega
    have c4 : (beg s a : Int) ≤ (s.size : Int) := by omega
    have rest : Ev (fun k => (utf_Units.f (s.extract 0 (beg s a : Int).toNat)).bind fun t179 => ((utf_Cut.f s t179).bind fun t180 => (if t180 = (beg s a : Int) then ((utf_Begin.f k s (beg s a : Int)).bind fun t181 => (glossatorlaw01_UtfBack.j0 k s u (t181 != (beg s a : Int)))) else (glossatorlaw01_UtfBack.j0 k s u true)))) true := by
      refine cbind (UtfBack.head s hs _ v hv) (cbind (UtfBack.cut s v (by have := hv.range; omega)) ?_)
      rw [C_of s _ v hv]
      simp only [if_true]
      refine bind (utf_begin s (by omega) (beg s a : Int)) ?_
      rw [beg_bnd s _ hb]
      simp only [bne_self_eq_false]
      exact UtfBack.j0 s hs u hu1
    simp only [if_neg c1, if_neg c2, if_pos c3, if_pos c4]
    refine both (fun hc => ?_) (fun _ => rest)
    have c5 : ¬ a ≥ 0 := by intro h; have := hla h; omega
    simp only [if_neg c5]
    exact rest
end Go.Proofs.YtfjanedappcolaaDoor.Pure
