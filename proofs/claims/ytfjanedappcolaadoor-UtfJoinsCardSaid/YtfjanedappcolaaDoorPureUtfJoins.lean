/-
  UtfJoins: the pure statement of the law: whatever the two strings, the printed law answers true. No condition of ours.
-/
import Derived.Test.YtfjanedappcolaaDoorXYfix
import Derived.Test.YtfjanedappcolaaDoorXYawake1
import Derived.Stop.FmtQuoteTie
import Derived.Test.YtfjanedappcolaaDoorQ13
namespace Go.Proofs.YtfjanedappcolaaDoor.Pure
open Go Go.RowKit Go.Proofs.YtfjanedappcolaaDoor.Q Go.Proofs.YtfjanedappcolaaDoorW.PrintWords Go.Proofs.YtfjanedappcolaaDoorW.PrintLast Go.Proofs.YtfjanedappcolaaDoor.XEv Go.Proofs.YtfjanedappcolaaDoor.XYfix Go.Proofs.YtfjanedappcolaaDoor.XWchars Go.Proofs.YtfjanedappcolaaDoor.XUtfT Go.Proofs.YtfjanedappcolaaDoor.XRef01
set_option linter.unusedVariables false
set_option linter.unusedSimpArgs false

theorem UtfJoins.units (s : ByteArray) (hs : s.size ≤ 140737488351232) : utf_Units.f s = some (U s) := by
  unfold utf_Units.f; rw [if_pos hs]; rfl
theorem UtfJoins.enc (r : Nat) : (Utf8.encode (r : Int)).toList = Lib.encodeRune (r : Int) := by
  rw [Lib.toList_data]
  unfold Lib.encodeRune
  rw [← Extern.FmtText.encode_eq r]
  unfold Extern.FmtText.nums
  rw [List.map_map]
  conv => lhs; rw [← List.map_id (Utf8.encode (r : Int)).data.toList]
  apply List.map_congr_left
  intro x _
  simp
theorem UtfJoins.mn_range (a : Nat) : 0 ≤ mn (a : Int) 1048576 ∧ mn (a : Int) 1048576 ≤ 1048576 ∧ (mn (a : Int) 1048576 ≤ 262144 → mn (a : Int) 1048576 = a) := by
  unfold mn; split <;> omega
theorem UtfJoins.long (s t : ByteArray) : ∃ b, Ev (fun k => glossatorlaw01_long.f k [s, t]) b ∧ (b = false → s.size + t.size ≤ 262144) := by
  have h1 := UtfJoins.mn_range s.size
  have h2 := UtfJoins.mn_range t.size
  refine ⟨decide (mn (s.size : Int) 1048576 + mn (t.size : Int) 1048576 > 262144), ?_, fun h => ?_⟩
  · have e1 : wrap64 (0 + mn (s.size : Int) 1048576) = mn (s.size : Int) 1048576 := by rw [w64 (by omega) (by omega)]; omega
    have e2 : wrap64 (mn (s.size : Int) 1048576 + mn (t.size : Int) 1048576) = mn (s.size : Int) 1048576 + mn (t.size : Int) 1048576 := w64 (by omega) (by omega)
    have e3 : wrap64 ((0 : Int) + 1) = 1 := w64 (by omega) (by omega)
    have e4 : wrap64 ((1 : Int) + 1) = 2 := w64 (by omega) (by omega)
    have c0 : (0 : Int) < (([s, t] : List ByteArray).length : Int) := by simp
    have c1 : (1 : Int) < (([s, t] : List ByteArray).length : Int) := by simp
    have c2 : ¬ (2 : Int) < (([s, t] : List ByteArray).length : Int) := by simp
    have c3 : (0 : Int) ≤ 1 := by omega
    have r0 : rdOf ByteArray.empty [s, t] 0 = s := rfl
    have r1 : rdOf ByteArray.empty [s, t] 1 = t := rfl
    simp only [glossatorlaw01_long.f]
    refine up ?_
    simp only [glossatorlaw01_long.l0, if_pos c0, Int.le_refl, if_true, r0, e1, e3]
    refine up ?_
    simp only [glossatorlaw01_long.l0, if_pos c1, if_pos c3, r1, e2, e4]
    refine up ?_
    simp only [glossatorlaw01_long.l0, if_neg c2]
    exact now fun _ => rfl
  · have := of_decide_eq_false h
    omega
theorem UtfJoins.l0 (s : ByteArray) (hs : s.size ≤ 1048576) (hg : ∀ q, Bnd s q → q < s.size → ¬ bad s q) : ∀ (d p : Nat) (u : Int), s.size ≤ p + d → Ch s p u → Ev (fun k => glossatorlaw01_UtfJoins.l0 k s (p : Int) u) true := by
  have fin : ∀ (p : Nat) (u : Int), Ch s p u → s.size ≤ p → Ev (fun k => glossatorlaw01_UtfJoins.l0 k s (p : Int) u) true := by
    intro p u h hp
    have hl := h.le
    have he : p = s.size := by omega
    subst he
    have c1 : ¬ (s.size : Int) < (s.size : Int) := by omega
    refine up ?_
    simp only [glossatorlaw01_UtfJoins.l0, if_neg c1, if_true]
    refine cbind (UtfJoins.units s (by omega)) (now fun _ => ?_)
    rw [h.uniq (Ch.all s)]; simp
  intro d
  induction d with
  | zero => intro p u hd h; exact fin p u h (by omega)
  | succ d ih =>
    intro p u hd h
    by_cases hp : p < s.size
    · have c1 : (p : Int) < (s.size : Int) := by omega
      have hw := XUtf.width_range s p
      have hf := XUtf.width_fit s p hp
      have hb := hg p h.bnd hp
      have hr := h.range
      refine up ?_
      simp only [glossatorlaw01_UtfJoins.l0, if_pos c1]
      refine bind (utf_next s p hp) ?_
      rw [nx_good s p hb]
      have k1 : ¬ ((Utf8.decode s p).2 : Int) < 1 := by unfold XUtf.width at hw; omega
      have k2 : ¬ ((Utf8.decode s p).2 : Int) > 4 := by unfold XUtf.width at hw; omega
      have k3 : (0 : Int) ≤ (p : Int) := by omega
      have e1 : wrap64 ((p : Int) + ((Utf8.decode s p).2 : Int)) = ((p + XUtf.width s p : Nat) : Int) := by
        rw [wadd p (Utf8.decode s p).2 (by unfold XUtf.width at hf; omega)]; rfl
      have k4 : (p : Int) ≤ ((p + XUtf.width s p : Nat) : Int) := by omega
      have k5 : ((p + XUtf.width s p : Nat) : Int) ≤ (s.size : Int) := by omega
      have e2 : (Utf8.encode ((Utf8.decode s p).1 : Int)).toList = (s.extract (p : Int).toNat ((p + XUtf.width s p : Nat) : Int).toNat).toList := by
        rw [UtfJoins.enc, XUtfX.enc_good s p hp hb, Lib.extract_toList]
        show _ = (s.data.toList.drop p).take (p + XUtf.width s p - p)
        rw [Nat.add_sub_cancel_left]
        rfl
      simp only [if_true, if_neg k1, if_neg k2, if_pos k3, e1, if_pos k4, if_pos k5, e2, bne_self_eq_false]
      refine up ?_
      have hu := XUtf.uni_width s p
      have hnext := Ch.next h hp
      have hn2 := ih (p + XUtf.width s p) _ (by omega) hnext
      by_cases h4 : XUtf.width s p = 4
      · have k6 : ((Utf8.decode s p).2 : Int) = 4 := by unfold XUtf.width at h4; omega
        rw [if_pos h4] at hu
        rw [hu] at hn2
        have e3 : wrap64 (wrap64 (u + 1) + 1) = u + 2 := by
          rw [w64 (x := u + 1) (by omega) (by omega), w64 (by omega) (by omega)]; omega
        simp only [glossatorlaw01_UtfJoins.j1, Bool.false_eq_true, if_false, if_pos k6, e1, e3]
        exact hn2
      · have k6 : ¬ ((Utf8.decode s p).2 : Int) = 4 := by unfold XUtf.width at h4; omega
        rw [if_neg h4] at hu
        rw [hu] at hn2
        have e3 : wrap64 (u + 1) = u + 1 := w64 (by omega) (by omega)
        simp only [glossatorlaw01_UtfJoins.j1, Bool.false_eq_true, if_false, if_neg k6, e1, e3]
        exact hn2
    · exact fin p u h (by omega)
theorem UtfJoins : glossatorlaw01_UtfJoins.Pure := by
  intro s t hs ht
  refine Ev.rounds (g := fun k => glossatorlaw01_UtfJoins.f k s t) ?_
  simp only [glossatorlaw01_UtfJoins.f]
  refine bind XYawake1.awake ?_
  simp only [if_true]
  obtain ⟨b, hb, hle⟩ := UtfJoins.long s t
  refine bind hb ?_
  cases b with
  | true => simp only [if_true]; exact now fun _ => rfl
  | false =>
    have h := hle rfl
    have hz := fixed_size s
    have c1 : (XUtfX.fixed s).size + t.size ≤ 9223372036854775807 := by omega
    have hg := okF_good (XUtfX.fixed s) (XUtfX.fixed s).size 0 (by omega) (fixed_valid s) .zero
    have hg' : ∀ q, Bnd (XUtfX.fixed s) q → q < (XUtfX.fixed s).size → ¬ bad (XUtfX.fixed s) q := fun q h1 h2 => hg q h1 (Nat.zero_le _) h2
    have hu1 := U_range (XUtfX.fixed s)
    have hu2 := U_range t
    have e1 : U (XUtfX.fixed s ++ t) = wrap64 (U (XUtfX.fixed s) + U t) := by
      rw [U_app _ _ hg', w64 (by omega) (by omega)]
    simp only [Bool.false_eq_true, if_false]
    refine cbind (utf_fixE s (by omega)) ?_
    simp only [if_pos c1]
    refine cbind (UtfJoins.units _ (by rw [ByteArray.size_append]; omega)) (cbind (UtfJoins.units _ (by omega)) (cbind (UtfJoins.units t (by omega)) ?_))
    simp only [if_pos e1]
    exact UtfJoins.l0 _ (by omega) hg' (XUtfX.fixed s).size 0 0 (by omega) .zero
end Go.Proofs.YtfjanedappcolaaDoor.Pure
