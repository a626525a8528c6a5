/-
  What is fixed: it is valid, it has as many units, and fixed again it stays. No program in sight but for what the functions answer.
-/
import Derived.Test.YtfjanedappcolaaDoorXUtfX
import Derived.Test.YtfjanedappcolaaDoorXWchars
namespace Go.Proofs.YtfjanedappcolaaDoor.XYfix
open Go Go.RowKit Go.Proofs.YtfjanedappcolaaDoor.Q Go.Proofs.YtfjanedappcolaaDoorW.PrintWords Go.Proofs.YtfjanedappcolaaDoorW.PrintLast Go.Proofs.YtfjanedappcolaaDoorW.PrintMore Go.Proofs.YtfjanedappcolaaDoor.XEv Go.Proofs.YtfjanedappcolaaDoor.XRef01 Go.Proofs.YtfjanedappcolaaDoor.XUtfT Go.Proofs.YtfjanedappcolaaDoor.XUtfX Go.Proofs.YtfjanedappcolaaDoor.XWchars
set_option linter.unusedVariables false
set_option linter.unusedSimpArgs false

theorem getD_take (l m : List UInt8) (w j : Nat) (he : m.take w = l.take w) (hj : j < w) : m.getD j 0 = l.getD j 0 := by
  have : m[j]? = l[j]? := by rw [← List.getElem?_take_of_lt (l := m) hj, he, List.getElem?_take_of_lt hj]
  rw [List.getD_eq_getElem?_getD, List.getD_eq_getElem?_getD, this]
theorem decL_same (l m : List UInt8) (hg : ¬ ((Lib.decodeL l).1 = 65533 ∧ (Lib.decodeL l).2 = 1)) (hm : (Lib.decodeL l).2 ≤ m.length) (he : m.take (Lib.decodeL l).2 = l.take (Lib.decodeL l).2) : Lib.decodeL m = Lib.decodeL l := by
  have hw := Lib.decodeL_width l
  have g : ∀ j, j < (Lib.decodeL l).2 → m.getD j 0 = l.getD j 0 := fun j hj => getD_take l m _ j he hj
  rw [Lib.decodeL_N m, g 0 (by omega)]
  rw [Lib.decodeL_N l] at hg hm g ⊢
  refine decodeN_local _ _ _ _ _ _ _ _ _ hg hm (fun h => ?_) (fun h => ?_) (fun h => ?_)
  · rw [g 1 (by omega)]
  · rw [g 2 (by omega)]
  · rw [g 3 (by omega)]
theorem dec_fffd (rest : List UInt8) : Lib.decodeL ([239, 191, 189] ++ rest) = (65533, 3) := by
  rw [Lib.decodeL_N]
  show Lib.decodeN (rest.length + 3) 239 191 189 _ = _
  unfold Lib.decodeN
  rw [if_neg (by omega), if_neg (by omega), if_pos (by omega), if_pos (by omega)]
/-- What was put there is read again as what it was. -/
theorem dec_enc (s : ByteArray) (p : Nat) (hp : p < s.size) (rest : List UInt8) :
    Lib.decodeL (Lib.encodeRune ((Utf8.decode s p).1 : Int) ++ rest) = ((Utf8.decode s p).1, (Lib.encodeRune ((Utf8.decode s p).1 : Int)).length) ∧
    ¬ ((Utf8.decode s p).1 = 65533 ∧ (Lib.encodeRune ((Utf8.decode s p).1 : Int)).length = 1) ∧ 1 ≤ (Lib.encodeRune ((Utf8.decode s p).1 : Int)).length := by
  by_cases hb : bad s p
  · rw [enc_bad s p hb, dec_fffd, hb.1]
    exact ⟨rfl, fun h => by simp at h, by simp⟩
  · have hd := XUtfT.decodeL_drop s p
    have hw := XUtf.width_range s p
    have hf := XUtf.width_fit s p hp
    unfold XUtf.width at hw hf
    have hlen : ((s.data.toList.drop p).take (Utf8.decode s p).2).length = (Utf8.decode s p).2 := by
      rw [List.length_take, List.length_drop, ← Lib.size_eq]; omega
    rw [enc_good s p hp hb, hlen]
    refine ⟨?_, hb, hw.1⟩
    have := decL_same (s.data.toList.drop p) ((s.data.toList.drop p).take (Utf8.decode s p).2 ++ rest) (by rw [hd]; exact hb) (by rw [hd, List.length_append, hlen]; omega) (by
      rw [hd]
      exact List.take_left' hlen)
    rw [this, hd]
theorem fix_good (s : ByteArray) : ∀ (b p : Nat), Lib.validD (fixL s b p) = true := by
  intro b
  induction b with
  | zero => intro p; rfl
  | succ b ih =>
    intro p
    rw [fixL]
    by_cases h : p < s.size
    · rw [if_pos h]
      obtain ⟨h1, h2, h3⟩ := dec_enc s p h (fixL s b (p + (Utf8.decode s p).2))
      rw [Lib.validD_step _ (by intro e; rw [List.append_eq_nil_iff] at e; rw [e.1] at h3; simp at h3), h1, if_neg h2, List.drop_left]
      exact ih _
    · rw [if_neg h]; rfl
theorem fix_inv (s : ByteArray) {p : Nat} {u : Int} (h : Ch s p u) : ∃ q b, Ch (fixed s) q u ∧ (fixed s).data.toList.drop q = fixL s b p ∧ s.size ≤ p + b := by
  induction h with
  | zero => exact ⟨0, s.size, .zero, by rw [List.drop_zero]; rfl, by omega⟩
  | next hp hlt ih =>
    rename_i p u
    obtain ⟨q, b, h1, h2, h3⟩ := ih
    obtain ⟨b, rfl⟩ : ∃ c, b = c + 1 := ⟨b - 1, by omega⟩
    rw [fixL, if_pos hlt] at h2
    obtain ⟨g1, g2, g3⟩ := dec_enc s p hlt (fixL s b (p + (Utf8.decode s p).2))
    rw [← h2] at g1
    have hd := XUtfT.decodeL_drop (fixed s) q
    rw [g1] at hd
    have hq : q < (fixed s).size := by
      have := congrArg List.length h2
      rw [List.length_drop, List.length_append, ← Lib.size_eq] at this
      omega
    have hn := Ch.next h1 hq
    unfold XUtf.width XUtf.uni at hn
    rw [← hd] at hn
    have hw := XUtf.width_range s p
    refine ⟨_, b, hn, ?_, by omega⟩
    show (fixed s).data.toList.drop (q + (Lib.encodeRune ((Utf8.decode s p).1 : Int)).length) = _
    rw [← List.drop_drop, h2, List.drop_left]
    rfl
theorem fixed_valid (s : ByteArray) : okF (fixed s) (fixed s).size 0 = true := by
  rw [← valid_ok (fixed s) (fixed s).size 0 (by omega), List.drop_zero]
  exact fix_good s s.size 0
theorem fixed_units (s : ByteArray) : U (fixed s) = U s := by
  obtain ⟨q, b, h1, h2, _⟩ := fix_inv s (Ch.all s)
  have hl := congrArg List.length h2
  rw [fixL_end s b s.size (by omega), List.length_drop, ← Lib.size_eq] at hl
  have := h1.le
  simp only [List.length_nil] at hl
  have hq : q = (fixed s).size := by omega
  rw [hq] at h1
  exact (Ch.all _).uniq h1
theorem fixed_self (s : ByteArray) (h : okF s s.size 0 = true) : fixed s = s := by
  unfold fixed
  rw [fixL_ok s s.size 0 (by omega) h, List.drop_zero]
theorem fixed_size (s : ByteArray) : (fixed s).size ≤ 4 * s.size := by
  have := fixL_len s s.size 0
  exact this
theorem utf_fixE (s : ByteArray) (hs : s.size ≤ 35184372088832) : utf_Fix.f s = some (fixed s) := by
  simp only [utf_Fix.f, utf_valid s (by omega), Option.bind_some]
  by_cases h : okF s s.size 0 = true
  · rw [if_pos h, fixed_self s h]
  · rw [if_neg h, if_pos hs]
    rfl
theorem fixed_same (s : ByteArray) : ((fixed s).toList == s.toList) = okF s s.size 0 := by
  cases ho : okF s s.size 0 with
  | true => rw [fixed_self s ho]; simp
  | false =>
    rw [beq_eq_false_iff_ne]
    intro h
    rw [Lib.toList_data, Lib.toList_data] at h
    have : fixed s = s := ByteArray.ext (Array.ext' h)
    have hv := fixed_valid s
    rw [this, ho] at hv
    cases hv
end Go.Proofs.YtfjanedappcolaaDoor.XYfix
