/-
  Places by lines and back: what the functions of layer 2 answer, put together. No program in sight.
-/
import Derived.Test.YtfjanedappcolaaDoorXZoffs
import Derived.Test.YtfjanedappcolaaDoorXYlines
namespace Go.Proofs.YtfjanedappcolaaDoor.XZplace
open Go Go.RowKit Go.Proofs.YtfjanedappcolaaDoor.Q Go.Proofs.YtfjanedappcolaaDoorW.PrintWords Go.Proofs.YtfjanedappcolaaDoorW.PrintLast Go.Proofs.YtfjanedappcolaaDoorW.PrintMore Go.Proofs.YtfjanedappcolaaDoor.XEv Go.Proofs.YtfjanedappcolaaDoor.XRef01 Go.Proofs.YtfjanedappcolaaDoor.XUtfT Go.Proofs.YtfjanedappcolaaDoor.XWchars Go.Proofs.YtfjanedappcolaaDoor.XLines Go.Proofs.YtfjanedappcolaaDoor.XYlines Go.Proofs.YtfjanedappcolaaDoor.XZoffs
set_option linter.unusedVariables false
set_option linter.unusedSimpArgs false

theorem begs_len (s : ByteArray) : (begs (lns s)).length = (lns s).length := by unfold begs; rw [List.length_map]
/-- The line of a place. -/
theorem at_line (s : ByteArray) (t : Nat) : ∃ (n : Nat) (x : Ln s), (lns s)[n]? = some x ∧ x.1.2.1 ≤ t ∧ (∀ y, (lns s)[n + 1]? = some y → t < y.1.2.1) ∧ posOf (t : Int) (lns s) = ((n : Int), U (s.extract x.1.2.1 (min t x.1.2.2))) := by
  obtain ⟨x0, hx0, h00⟩ := ln_first s
  have hlen : 1 ≤ ((lns s).takeWhile (fun x : Ln s => decide ((x.1.2.1 : Int) ≤ (t : Int)))).length := by
    have hne := lns_ne s
    match hl : lns s, hne with
    | y :: l, _ =>
      rw [hl] at hx0
      obtain rfl := Option.some.inj hx0
      rw [List.takeWhile_cons_of_pos (by rw [h00]; simp)]
      simp
  obtain ⟨n, hn⟩ : ∃ n, ((lns s).takeWhile (fun x : Ln s => decide ((x.1.2.1 : Int) ≤ (t : Int)))).length = n + 1 := ⟨_, (Nat.sub_add_cancel hlen).symm⟩
  obtain ⟨hg, x, hx, hpx⟩ := take_get (fun x : Ln s => decide ((x.1.2.1 : Int) ≤ (t : Int))) (lns s) n (by omega)
  have hx1 := of_decide_eq_true hpx
  refine ⟨n, x, hx, by omega, fun y hy => ?_, ?_⟩
  · have hst := take_stop (fun x : Ln s => decide ((x.1.2.1 : Int) ≤ (t : Int))) (lns s) y (by rw [hn]; exact hy)
    have := of_decide_eq_false hst
    omega
  · unfold posOf lastPos
    rw [List.getLast?_eq_getElem?, hn, Nat.add_sub_cancel, hg, hx]
    simp only [(lns_at s n x hx).1]
    rw [show (min (t : Int) (x.1.2.2 : Int)).toNat = min t x.1.2.2 by omega]
    rfl
theorem posOf_le (s : ByteArray) (t : Nat) : (posOf (t : Int) (lns s)).2 ≤ s.size := by
  obtain ⟨n, x, _, _, _, h⟩ := at_line s t
  have h2 := U_range (s.extract x.1.2.1 (min t x.1.2.2))
  have h3 := x.2
  rw [size_ext s _ _ (by omega)] at h2
  rw [h]
  show U _ ≤ _
  omega
/-- The line that has a place is its line. -/
theorem line_uniq (s : ByteArray) (t n i : Nat) (x y : Ln s) (hx : (lns s)[n]? = some x) (h1 : x.1.2.1 ≤ t) (h2 : ∀ z, (lns s)[n + 1]? = some z → t < z.1.2.1) (hy : (lns s)[i]? = some y) (h3 : y.1.2.1 ≤ t) (h4 : t ≤ y.1.2.2) : n = i := by
  have hi := (List.getElem?_eq_some_iff.1 hy).1
  have hn := (List.getElem?_eq_some_iff.1 hx).1
  rcases Nat.lt_trichotomy n i with h | h | h
  · obtain ⟨z, hz⟩ : ∃ z, (lns s)[n + 1]? = some z := ⟨_, List.getElem?_eq_getElem (by omega)⟩
    have := h2 z hz
    by_cases he : n + 1 = i
    · rw [he, hy] at hz; obtain rfl := Option.some.inj hz; omega
    · have := ln_rise s (n + 1) z hz (i - (n + 2)) y (by rw [show n + 1 + (i - (n + 2)) + 1 = i by omega]; exact hy)
      have := z.2
      omega
  · exact h
  · have := ln_rise s i y hy (n - (i + 1)) x (by rw [show i + (n - (i + 1)) + 1 = n by omega]; exact hx)
    omega
/-- The place by lines of where a character begins, and back. -/
theorem place (s : ByteArray) (t : Nat) (ht : Bnd s t) : ∃ (n : Nat) (x : Ln s) (m : Nat) (uf um : Int), (lns s)[n]? = some x ∧ x.1.2.1 ≤ t ∧ (∀ y, (lns s)[n + 1]? = some y → t < y.1.2.1) ∧ m = min t x.1.2.2 ∧
    Ch s x.1.2.1 uf ∧ Ch s m um ∧ x.1.2.1 ≤ m ∧ posOf (t : Int) (lns s) = ((n : Int), um - uf) ∧ (m = t ∨ (m + 1 = t ∧ m = x.1.2.2 ∧ crlf s m = true)) := by
  obtain ⟨n, x, hx, h1, h2, h3⟩ := at_line s t
  obtain ⟨b1, b2, _, h4, h5, h6, h7⟩ := ln s n x hx
  have hts := bnd_le ht
  have hm : Bnd s (min t x.1.2.2) := by
    rcases Nat.le_total t x.1.2.2 with h | h
    · rw [Nat.min_eq_left h]; exact ht
    · rw [Nat.min_eq_right h]; exact b2
  obtain ⟨uf, hf⟩ := Ch.of b1
  obtain ⟨um, hum⟩ := Ch.of hm
  refine ⟨n, x, min t x.1.2.2, uf, um, hx, h1, h2, rfl, hf, hum, by omega, ?_, ?_⟩
  · rw [h3, U_ext hf hum (by omega)]
  · rcases Nat.le_total t x.1.2.2 with h | h
    · exact .inl (Nat.min_eq_left h)
    · rcases Nat.lt_or_eq_of_le h with h8 | h8
      · right
        rcases h7 with ⟨h7, _⟩ | ⟨h7, y, hy, he⟩
        · omega
        · have := h2 y hy
          rw [he] at this
          unfold nxt at this
          by_cases hc : crlf s x.1.2.2 = true
          · rw [if_pos hc] at this
            have e : min t x.1.2.2 = x.1.2.2 := Nat.min_eq_right h
            rw [e]
            exact ⟨by omega, rfl, hc⟩
          · rw [if_neg hc] at this; omega
      · left; omega
theorem mx_nat (i : Nat) : mx (i : Int) 0 = i := (mx0 (i : Int)).2.2 (by omega)
theorem offs_line (s : ByteArray) (i : Nat) (x : Ln s) (h : (lns s)[i]? = some x) (l c : Int) (hl : mx l 0 = i) : offs s l c = ((x.1.2.1 + C (s.extract x.1.2.1 x.1.2.2) (mx c 0) : Nat) : Int) := by
  unfold offs
  rw [hl, line_in s i x h, ← (lns_at s i x h).2]
  simp only [if_true]
  rw [show ((x.1.2.1 : Int)).toNat = x.1.2.1 from rfl, show ((x.1.2.2 : Int)).toNat = x.1.2.2 from rfl]
  unfold cutIn C
  omega
/-- Back from a place by lines. -/
theorem place_back (s : ByteArray) (t : Nat) (ht : Bnd s t) : ∃ m : Nat, offs s (posOf (t : Int) (lns s)).1 (posOf (t : Int) (lns s)).2 = (m : Int) ∧ (m = t ∨ (m + 1 = t ∧ crlf s m = true)) ∧ (m = t → ¬ (0 < t ∧ crlf s (t - 1) = true)) := by
  obtain ⟨n, x, m, uf, um, hx, h1, h2, hm, hf, hum, hfm, hp, hc⟩ := place s t ht
  obtain ⟨b1, b2, _, h4, h5, h6, h7⟩ := ln s n x hx
  refine ⟨m, ?_, hc.imp id (fun h => ⟨h.1, h.2.2⟩), fun he hcr => ?_⟩
  · rw [hp]
    show offs s (n : Int) (um - uf) = _
    have hmono := (hf.mono hum).1 hfm
    rw [offs_line s n x hx (n : Int) (um - uf) (mx_nat n), (mx0 (um - uf)).2.2 (by omega)]
    have hi := Ch.into hf h5 hum hfm (by omega)
    rw [C_of _ _ _ hi]
    omega
  · have hle : t ≤ x.1.2.2 := by omega
    obtain ⟨hb1, hb2⟩ := crlf_isB s (t - 1) hcr.2
    by_cases hlt : x.1.2.1 ≤ t - 1
    · exact h6 (t - 1) hlt (by omega) hb1
    · have hxt : x.1.2.1 = t := by omega
      cases n with
      | zero =>
        obtain ⟨x0, g0, g1⟩ := ln_first s
        rw [hx] at g0
        obtain rfl := Option.some.inj g0
        omega
      | succ n =>
        obtain ⟨y, hy⟩ : ∃ y, (lns s)[n]? = some y := ⟨_, List.getElem?_eq_getElem (by have := (List.getElem?_eq_some_iff.1 hx).1; omega)⟩
        obtain ⟨_, _, _, _, _, _, ⟨_, k7⟩ | ⟨k7, z, hz, he2⟩⟩ := ln s n y hy
        · have := (List.getElem?_eq_some_iff.1 hx).1; omega
        · rw [hx] at hz
          obtain rfl := Option.some.inj hz
          have hcc := (crlf_iff s (t - 1)).1 hcr.2
          unfold nxt at he2
          by_cases hc2 : crlf s y.1.2.2 = true
          · rw [if_pos hc2] at he2
            have := (crlf_iff s y.1.2.2).1 hc2
            rw [show y.1.2.2 + 1 = t - 1 by omega] at this
            omega
          · rw [if_neg hc2] at he2
            apply hc2
            rw [show y.1.2.2 = t - 1 by omega]
            exact hcr.2
/-- From any place by lines one comes to one that is the same place. -/
theorem offs_spec (s : ByteArray) (l c : Int) : ∃ k : Nat, offs s l c = (k : Int) ∧ Bnd s k ∧ offs s (posOf (k : Int) (lns s)).1 (posOf (k : Int) (lns s)).2 = (k : Int) ∧
    (((lineOf (mx l 0) (lns s)).2.2 = false ∧ k = s.size) ∨
     ((lineOf (mx l 0) (lns s)).2.2 = true ∧ (posOf (k : Int) (lns s)).1 = mx l 0 ∧ (posOf (k : Int) (lns s)).2 ≤ mx c 0 ∧ (lineOf (mx l 0) (lns s)).1 ≤ (k : Int) ∧ (k : Int) ≤ (lineOf (mx l 0) (lns s)).2.1)) := by
  rcases line_cases s (mx l 0) with ⟨_, h⟩ | ⟨i, x, hi, hx, h⟩
  · refine ⟨s.size, by unfold offs; rw [h]; rfl, bnd_size s, ?_, .inl ⟨by rw [h], rfl⟩⟩
    obtain ⟨m, h1, h2, _⟩ := place_back s s.size (bnd_size s)
    rw [h1]
    rcases h2 with h2 | ⟨h2, h3⟩
    · rw [h2]
    · have := (crlf_iff s m).1 h3; omega
  · obtain ⟨b1, b2, _, h4, h5, h6, h7⟩ := ln s i x hx
    have hmc := mx0 c
    obtain ⟨uf, hf⟩ := Ch.of b1
    obtain ⟨ut, htt⟩ := Ch.of b2
    obtain ⟨v, hv, hvc, hlt⟩ := C_spec (s.extract x.1.2.1 x.1.2.2) (mx c 0) hmc.1
    have hvl := hv.le
    rw [size_ext s _ _ h5] at hvl
    have hk := Ch.back hf htt hv
    refine ⟨x.1.2.1 + C (s.extract x.1.2.1 x.1.2.2) (mx c 0), offs_line s i x hx l c hi, hk.bnd, ?_, .inr ⟨by rw [h], ?_⟩⟩
    · obtain ⟨m, g1, g2, g3⟩ := place_back s _ hk.bnd
      rw [g1]
      rcases g2 with g2 | ⟨g2, g4⟩
      · rw [g2]
      · obtain ⟨hb1, hb2⟩ := crlf_isB s m g4
        exfalso
        by_cases hm : x.1.2.1 ≤ m
        · exact h6 m hm (by omega) hb1
        · -- the line begins amid a break: no
          have hm2 : m + 1 = x.1.2.1 := by omega
          cases i with
          | zero =>
            obtain ⟨x0, q0, q1⟩ := ln_first s
            rw [hx] at q0
            obtain rfl := Option.some.inj q0
            omega
          | succ i =>
            obtain ⟨y, hy⟩ : ∃ y, (lns s)[i]? = some y := ⟨_, List.getElem?_eq_getElem (by have := (List.getElem?_eq_some_iff.1 hx).1; omega)⟩
            obtain ⟨_, _, _, _, _, _, ⟨_, k7⟩ | ⟨k7, z, hz, he2⟩⟩ := ln s i y hy
            · have := (List.getElem?_eq_some_iff.1 hx).1; omega
            · rw [hx] at hz
              obtain rfl := Option.some.inj hz
              have hcc := (crlf_iff s m).1 g4
              unfold nxt at he2
              by_cases hc2 : crlf s y.1.2.2 = true
              · rw [if_pos hc2] at he2
                have := (crlf_iff s y.1.2.2).1 hc2
                rw [show y.1.2.2 + 1 = m by omega] at this
                omega
              · rw [if_neg hc2] at he2
                apply hc2
                rw [show y.1.2.2 = m by omega]
                exact g4
    · obtain ⟨n, y, m, uy, um, hy, g1, g2, hm, gf, gum, gfm, gp, gc⟩ := place s _ hk.bnd
      have hn := line_uniq s _ n i y x hy g1 g2 hx (by omega) (by omega)
      subst hn
      rw [hx] at hy
      obtain rfl := Option.some.inj hy
      have hmm : m = x.1.2.1 + C (s.extract x.1.2.1 x.1.2.2) (mx c 0) := by omega
      rw [hmm] at gum
      have e1 := gum.uniq hk
      have e2 := gf.uniq hf
      rw [gp, h]
      refine ⟨hi.symm, ?_, ?_, ?_⟩
      · show um - uy ≤ _; omega
      · show (x.1.2.1 : Int) ≤ _; omega
      · show _ ≤ (x.1.2.2 : Int); omega
/-- Places by lines rise. -/
theorem pos_rise (s : ByteArray) (a b : Nat) (ha : Bnd s a) (hb : Bnd s b) (h : a ≤ b) : (posOf (a : Int) (lns s)).1 < (posOf (b : Int) (lns s)).1 ∨ ((posOf (a : Int) (lns s)).1 = (posOf (b : Int) (lns s)).1 ∧ (posOf (a : Int) (lns s)).2 ≤ (posOf (b : Int) (lns s)).2) := by
  obtain ⟨n, x, m, uf, um, hx, h1, h2, hm, hf, hum, hfm, hp, hc⟩ := place s a ha
  obtain ⟨n', x', m', uf', um', hx', h1', h2', hm', hf', hum', hfm', hp', hc'⟩ := place s b hb
  rw [hp, hp']
  rcases Nat.lt_trichotomy n n' with h3 | h3 | h3
  · left; show (n : Int) < (n' : Int); omega
  · right
    subst h3
    rw [hx] at hx'
    obtain rfl := Option.some.inj hx'
    have := hf.uniq hf'
    have := (hum.mono hum').1 (by omega)
    exact ⟨rfl, by show um - uf ≤ um' - uf'; omega⟩
  · exfalso
    obtain ⟨z, hz⟩ : ∃ z, (lns s)[n' + 1]? = some z := ⟨_, List.getElem?_eq_getElem (by have := (List.getElem?_eq_some_iff.1 hx).1; omega)⟩
    have h4 := h2' z hz
    by_cases he : n' + 1 = n
    · rw [he, hx] at hz; obtain rfl := Option.some.inj hz; omega
    · have := ln_rise s (n' + 1) z hz (n - (n' + 2)) x (by rw [show n' + 1 + (n - (n' + 2)) + 1 = n by omega]; exact hx)
      have := z.2
      omega
end Go.Proofs.YtfjanedappcolaaDoor.XZplace
