/- Words and walks of this claim, put together by this repo's wip/xlink.py out of Q11, Q12. -/
import Derived.Test.YtebmgmagdhedgaaGreatDoorL13
import Derived.Test.YtebmgmagdhedgaaGreatDoorL8
import Derived.Test.YtebmgmagdhedgaaGreatDoorL9
import Derived.Test.YtebmgmagdhedgaaGreatDoorL10
import Derived.Test.YtebmgmagdhedgaaGreatDoorL11
import Derived.Test.YtebmgmagdhedgaaGreatDoorL12
section
namespace Go.Proofs.YtebmgmagdhedgaaGreatDoor.Q
open Go.RowKit Go.Proofs.YtebmgmagdhedgaaGreatDoorW.PrintWords Go.Proofs.YtebmgmagdhedgaaGreatDoorW.PrintLast Go.Proofs.YtebmgmagdhedgaaGreatDoorW.PrintMore
attribute [local go_sem] max2_int min2_int max_two min_two max_three min_three max_four min_four   
set_option linter.unusedVariables false
set_option linter.unusedSimpArgs false
/-- Bytes that stand in s from i on. -/
def Stands' (s : ByteArray) (i : Nat) (l : List UInt8) : Prop := ∀ q (h : q < l.length), hnd s (i + q) = (l[q]).toNat
theorem Stands'.app {s : ByteArray} {i : Nat} {a b : List UInt8} (h : Stands' s i (a ++ b)) : Stands' s i a ∧ Stands' s (i + a.length) b := by
 refine ⟨fun q hq => ?_, fun q hq => ?_⟩
 ·rw [h q (by rw [List.length_append]; omega), List.getElem_append_left hq]
 ·rw [Nat.add_assoc, h (a.length + q) (by rw [List.length_append]; omega), List.getElem_append_right (by omega)]
  simp
theorem Stands'.one {s : ByteArray} {i : Nat} {c : UInt8} {r : List UInt8} (h : Stands' s i (c :: r)) : hnd s i = c.toNat := by have := h 0 (by simp); simpa using this
theorem Stands'.tail {s : ByteArray} {i : Nat} {c : UInt8} {r : List UInt8} (h : Stands' s i (c :: r)) : Stands' s (i + 1) r := (show Stands' s i ([c] ++ r) from h).app.2
/-- How a byte of a valid text is quoted. -/
def hexd (n : Nat) : UInt8 := if n < 10 then UInt8.ofNat (48 + n) else UInt8.ofNat (87 + n)
def qByte (c : Nat) : List UInt8 := if c = 34 then [92, 34] else if c = 92 then [92, 92] else if c = 8 then [92, 98] else if c = 9 then [92, 116] else if c = 10 then [92, 110] else if c = 12 then [92, 102] else if c = 13 then [92, 114]
 else if c < 32 then [92, 117, 48, 48, hexd (c / 16), hexd (c % 16)] else [UInt8.ofNat c]
theorem qByte_esc : ∀ c, c < 128 → (∃ x, qByte c = [92, x] ∧ escV x.toNat = some c) ∨ (∃ a b, qByte c = [92, 117, 48, 48, a, b] ∧ hexv a.toNat = some (c / 16) ∧ hexv b.toNat = some (c % 16) ∧ c < 32) ∨ (qByte c = [UInt8.ofNat c] ∧ c ≠ 34 ∧ c ≠ 92 ∧ 32 ≤ c) := by
 intro c hc
 unfold qByte
 by_cases h1 : c = 34
 ·subst h1; exact .inl ⟨34, rfl, rfl⟩
 rw [if_neg h1]
 by_cases h2 : c = 92
 ·subst h2; exact .inl ⟨92, rfl, rfl⟩
 rw [if_neg h2]
 by_cases h3 : c = 8
 ·subst h3; exact .inl ⟨98, rfl, rfl⟩
 rw [if_neg h3]
 by_cases h4 : c = 9
 ·subst h4; exact .inl ⟨116, rfl, rfl⟩
 rw [if_neg h4]
 by_cases h5 : c = 10
 ·subst h5; exact .inl ⟨110, rfl, rfl⟩
 rw [if_neg h5]
 by_cases h6 : c = 12
 ·subst h6; exact .inl ⟨102, rfl, rfl⟩
 rw [if_neg h6]
 by_cases h7 : c = 13
 ·subst h7; exact .inl ⟨114, rfl, rfl⟩
 rw [if_neg h7]
 by_cases h8 : c < 32
 ·rw [if_pos h8]
  have : ∀ c, c < 32 → hexv (hexd (c / 16)).toNat = some (c / 16) ∧ hexv (hexd (c % 16)).toNat = some (c % 16) := by decide
  exact .inr (.inl ⟨_, _, rfl, (this c h8).1, (this c h8).2, h8⟩)
 ·rw [if_neg h8]
  exact .inr (.inr ⟨rfl, h1, h2, by omega⟩)
/-- A byte below 128, quoted, is read back in one step. -/
theorem read_one {t : ByteArray} {f q c : Nat} {acc rest : List UInt8} (hc : c < 128) (h : Stands' t q (qByte c ++ rest)) (hz : q + (qByte c).length ≤ t.size) : txt t (f + 1) q acc = txt t f (q + (qByte c).length) (acc ++ [UInt8.ofNat c]) := by
 have hen : Lib.encodeRune (c : Int) = [UInt8.ofNat c] := by
  rw [Lib.encodeRune, Lib.encodeRuneZ_one (by omega) (by omega)]
  simp
  try rfl
 rcases qByte_esc c hc with ⟨x, hx, he⟩ | ⟨a, b, hx, ha, hb, hl⟩ | ⟨hx, n1, n2, n3⟩
 ·rw [hx] at h hz ⊢
  have h0 : hnd t q = 92 := h.one
  have h1 : hnd t (q + 1) = x.toNat := h.tail.one
  rw [txt, if_neg (by omega), if_neg (by omega), if_pos h0]
  unfold escape
  rw [h1, he]
  show txt t f (q + 1 + 1) (acc ++ Lib.encodeRune (c : Int)) = _
  rw [hen]
  rfl
 ·rw [hx] at h hz ⊢
  have h0 : hnd t q = 92 := h.one
  have h1 : hnd t (q + 1) = 117 := h.tail.one
  have h2 : hnd t (q + 1 + 1) = 48 := h.tail.tail.one
  have h3 : hnd t (q + 1 + 1 + 1) = 48 := h.tail.tail.tail.one
  have h4 : hnd t (q + 1 + 1 + 1 + 1) = a.toNat := h.tail.tail.tail.tail.one
  have h5 : hnd t (q + 1 + 1 + 1 + 1 + 1) = b.toNat := h.tail.tail.tail.tail.tail.one
  rw [txt, if_neg (by omega), if_neg (by omega), if_pos h0]
  have hu : unit t (q + 1) = .ok c (q + 6) := by
   unfold unit
   rw [if_pos h1]
   simp only [hexN, h2, h3, h4, h5, ha, hb, show hexv 48 = some 0 from rfl]
   congr 1
   omega
  unfold escape
  rw [h1]
  show ((unit t (q + 1)).bind fun u j => escU t u j).bind _ = _
  rw [hu]
  show (escU t c (q + 6)).bind _ = _
  unfold escU
  rw [if_neg (by omega)]
  show txt t f (q + 6) (acc ++ Lib.encodeRune (c : Int)) = _
  rw [hen]
  rfl
 ·rw [hx] at h hz ⊢
  have h0 : hnd t q = c := by
   have := h.one
   rw [this]
   simp [UInt8.toNat_ofNat]
   try omega
  have hn : nxt t q = some 1 := by
   unfold nxt
   rw [dec_hnd, h0]
   have : Lib.decodeN 4 c (hnd t (q + 1)) (hnd t (q + 2)) (hnd t (q + 3)) = (c, 1) := by unfold Lib.decodeN; rw [if_pos (by omega)]
   rw [this, if_neg (by omega)]
  have hcut : (t.extract q (q + 1)).data.toList = [UInt8.ofNat c] := by
   refine map_inj ?_
   rw [cut_list t 1 q (by simpa using hz)]
   simp [List.range', h0, UInt8.toNat_ofNat]
   try omega
  rw [txt, if_neg (by omega), if_neg (by omega), if_neg (by omega), hn]
  show txt t f (q + 1) (acc ++ (t.extract q (q + 1)).data.toList) = _
  rw [hcut]
  rfl
/-- From p on, s is made of whole characters. -/
inductive Vld (s : ByteArray) : Nat → Prop
 | stop : Vld s s.size
 | step (p z : Nat) (h : p < s.size) (hz : nxt s p = some z) (hv : Vld s (p + z)) : Vld s p
def bts (s : ByteArray) (p : Nat) : List Nat := (List.range' p (s.size - p)).map (hnd s)
theorem bts_cons {s : ByteArray} {p : Nat} (h : p < s.size) : bts s p = hnd s p :: bts s (p + 1) := by
 unfold bts
 rw [show s.size - p = (s.size - (p + 1)) + 1 by omega, List.range'_succ, List.map_cons]
theorem bts_app {s : ByteArray} : ∀ (z p : Nat), p + z ≤ s.size → bts s p = (List.range' p z).map (hnd s) ++ bts s (p + z) := by
 intro z
 induction z with
 | zero => intro p _; rfl
 | succ z ih =>
  intro p h
  rw [bts_cons (by omega), ih (p + 1) (by omega), List.range'_succ, List.map_cons, List.cons_append, show p + 1 + z = p + (z + 1) by omega]
theorem dec_high {b0 b1 b2 b3 z : Nat} (h : (Lib.decodeN 4 b0 b1 b2 b3).2 = z) (hz : z ≠ 1) : z ≤ 4 ∧ 128 ≤ b0 ∧ (1 < z → 128 ≤ b1) ∧ (2 < z → 128 ≤ b2) ∧ (3 < z → 128 ≤ b3) := by
 unfold Lib.decodeN at h
 split at h
 ·exact absurd h.symm hz
 split at h
 ·split at h
  ·simp only at h; refine ⟨?_, ?_, ?_, ?_, ?_⟩ <;> omega
  ·exact absurd h.symm hz
 split at h
 ·split at h
  ·simp only at h; refine ⟨?_, ?_, ?_, ?_, ?_⟩ <;> omega
  ·exact absurd h.symm hz
 split at h
 ·split at h
  ·simp only at h; refine ⟨?_, ?_, ?_, ?_, ?_⟩ <;> omega
  ·exact absurd h.symm hz
 ·exact absurd h.symm hz
/-- What stands for itself in a quoted text: a character of more than one byte. -/
theorem nxt_high {s : ByteArray} {p z : Nat} (h : nxt s p = some z) (hz : z ≠ 1) : ∀ k, k < z → 128 ≤ hnd s (p + k) := by
 have hd : (Utf8.decode s p).2 = z := by
  unfold nxt at h
  split at h
  ·cases h
  ·injection h with h
 rw [dec_hnd] at hd
 obtain ⟨h4, a0, a1, a2, a3⟩ := dec_high hd hz
 intro k hk
 rcases Nat.lt_or_ge k 1 with c | c
 ·rw [show k = 0 by omega]; exact a0
 rcases Nat.lt_or_ge k 2 with c | c
 ·rw [show k = 1 by omega]; exact a1 (by omega)
 rcases Nat.lt_or_ge k 3 with c | c
 ·rw [show k = 2 by omega]; exact a2 (by omega)
 ·rw [show k = 3 by omega]; exact a3 (by omega)
theorem qByte_high {c : Nat} (h : 128 ≤ c) : qByte c = [UInt8.ofNat c] := by
 unfold qByte
 rw [if_neg (by omega), if_neg (by omega), if_neg (by omega), if_neg (by omega), if_neg (by omega), if_neg (by omega), if_neg (by omega), if_neg (by omega)]
theorem quote_high : ∀ {l : List Nat}, (∀ c ∈ l, 128 ≤ c) → l.flatMap qByte = l.map UInt8.ofNat := by
 intro l
 induction l with
 | nil => intro _; rfl
 | cons c r ih =>
  intro h
  rw [List.flatMap_cons, qByte_high (h c (by simp)), ih (fun x hx => h x (by simp [hx])), List.map_cons]
  rfl
theorem nxt_same {s t : ByteArray} {p q z : Nat} (h : nxt s p = some z) (hs : ∀ k, k < z → hnd t (q + k) = hnd s (p + k)) : nxt t q = some z := by
 have hz := nxt_pos h
 unfold nxt at h ⊢
 split at h
 ·cases h
 ·rename_i hn
  injection h with h
  have hd := dec_hnd s p
  have hp : Utf8.decode s p = ((Utf8.decode s p).1, z) := by rw [← h]
  rw [hp] at hn hd
  have ht : Utf8.decode t q = ((Utf8.decode s p).1, z) := by
   rw [dec_hnd]
   refine dN_same hd.symm hn (hs 0 (by omega)) (fun c => ?_) (fun c => ?_) (fun c => ?_)
   ·exact hs 1 (by omega)
   ·exact hs 2 (by omega)
   ·exact hs 3 (by omega)
  rw [ht, if_neg hn]
theorem nxt_low {s : ByteArray} {p : Nat} (h : nxt s p = some 1) : hnd s p < 128 := by
 unfold nxt at h
 split at h
 ·cases h
 ·rename_i hn
  injection h with h
  rw [dec_hnd] at h hn
  unfold Lib.decodeN at h hn
  split at h
  ·assumption
  split at h
  ·split at h
   ·cases h
   ·rename_i a b c; rw [if_neg a, if_pos b, if_neg c] at hn; exact absurd ⟨rfl, rfl⟩ hn
  split at h
  ·split at h
   ·cases h
   ·rename_i a b c d; rw [if_neg a, if_neg b, if_pos c, if_neg d] at hn; exact absurd ⟨rfl, rfl⟩ hn
  split at h
  ·split at h
   ·cases h
   ·rename_i a b c d e; rw [if_neg a, if_neg b, if_neg c, if_pos d, if_neg e] at hn; exact absurd ⟨rfl, rfl⟩ hn
  ·rename_i a b c d; rw [if_neg a, if_neg b, if_neg c, if_neg d] at hn; exact absurd ⟨rfl, rfl⟩ hn
theorem hnd_ge {s : ByteArray} {i : Nat} (h : s.size ≤ i) : hnd s i = 0 := hnd_out (by omega)
/-- A character of more than one byte ends within the text. -/
theorem nxt_in {s : ByteArray} {p z : Nat} (h : nxt s p = some z) (hp : p < s.size) : p + z ≤ s.size := by
 rcases Nat.lt_or_ge s.size (p + z) with c | c
 ·have hz : z ≠ 1 := by omega
  have := nxt_high h hz (s.size - p) (by omega)
  rw [hnd_ge (by omega)] at this
  omega
 ·exact c
theorem hnd_byte (s : ByteArray) (i : Nat) : hnd s i < 256 := by
 unfold hnd
 split
 ·exact (s[i]).toNat_lt
 ·omega
theorem ofNat_hnd (s : ByteArray) (i : Nat) : (UInt8.ofNat (hnd s i)).toNat = hnd s i := by
 rw [UInt8.toNat_ofNat']
 exact Nat.mod_eq_of_lt (hnd_byte s i)
theorem cut_bts {s : ByteArray} {p z : Nat} (h : p + z ≤ s.size) : (s.extract p (p + z)).data.toList = ((List.range' p z).map (hnd s)).map UInt8.ofNat := by
 refine map_inj ?_
 rw [cut_list s z p h, List.map_map, List.map_map]
 exact List.map_congr_left fun x _ => (ofNat_hnd s x).symm
theorem bts_stop (s : ByteArray) : bts s s.size = [] := by
 unfold bts
 rw [Nat.sub_self]
 rfl
/-- A quoted text is read back. -/
theorem txt_quoted {s t : ByteArray} {p : Nat} (hv : Vld s p) : ∀ (f q : Nat) (acc rest : List UInt8), p ≤ s.size → Stands' t q ((bts s p).flatMap qByte ++ 34 :: rest) → q + ((bts s p).flatMap qByte).length + 1 ≤ t.size → s.size - p < f →
  txt t f q acc = .ok (acc ++ (bts s p).map UInt8.ofNat) (q + ((bts s p).flatMap qByte).length + 1) := by
 induction hv with
 | stop =>
  intro f q acc rest _ hS hz hf
  obtain ⟨f, rfl⟩ : ∃ g, f = g + 1 := ⟨f - 1, by omega⟩
  rw [bts_stop] at hS hz ⊢
  have h0 : hnd t q = 34 := hS.one
  rw [txt, if_pos h0]
  simp
 | step p z hp hn hv ih =>
  intro f q acc rest _ hS hz hf
  obtain ⟨f, rfl⟩ : ∃ g, f = g + 1 := ⟨f - 1, by omega⟩
  have hi := nxt_in hn hp
  have hp0 := nxt_pos hn
  by_cases c : z = 1
  ·subst c; rw [bts_cons hp, List.flatMap_cons] at hS hz ⊢
   rw [List.append_assoc] at hS
   rw [List.length_append] at hz ⊢
   rw [read_one (nxt_low hn) hS (by omega), ih f _ _ rest hi hS.app.2 (by omega) (by omega)]
   rw [List.append_assoc, List.map_cons, Nat.add_assoc q]
   rfl
  ·have hh := nxt_high hn c
   have hall : ∀ x ∈ (List.range' p z).map (hnd s), 128 ≤ x := by
    intro x hx
    rw [List.mem_map] at hx
    obtain ⟨y, hy, rfl⟩ := hx
    rw [List.mem_range'_1] at hy
    have := hh (y - p) (by omega)
    rwa [show p + (y - p) = y by omega] at this
   rw [bts_app z p hi, List.flatMap_append, quote_high hall, List.append_assoc] at hS
   rw [bts_app z p hi, List.flatMap_append, quote_high hall, List.length_append] at hz ⊢
   simp only [List.length_map, List.length_range'] at hz ⊢
   have hs : ∀ k, k < z → hnd t (q + k) = hnd s (p + k) := by
    intro k hk
    rw [hS.app.1 k (by simpa using hk)]
    simp only [List.getElem_map, List.getElem_range', Nat.one_mul]
    exact ofNat_hnd s _
   have hb := hS.app.2
   simp only [List.length_map, List.length_range'] at hb
   have h0 : 128 ≤ hnd t q := by have := hs 0 (by omega); rw [Nat.add_zero, Nat.add_zero] at this; rw [this]; exact hh 0 (by omega)
   rw [txt, if_neg (by omega), if_neg (by omega), if_neg (by omega), nxt_same hn hs]
   show txt t f (q + z) (acc ++ (t.extract q (q + z)).data.toList) = _
   rw [cut_bts (by omega), ih f _ _ rest hi hb (by omega) (by omega)]
   have he : (List.range' q z).map (hnd t) = (List.range' p z).map (hnd s) := by
    refine List.ext_getElem (by simp) fun k h1 h2 => ?_
    simp at h1
    simp [hs k h1]
   rw [he, List.append_assoc, List.map_append, Nat.add_assoc q]
theorem u8n (z : Int) (h0 : 0 ≤ z) (h : z < 256) : ((z.toNat.toUInt8).toNat : Int) = z := by simp; omega
theorem enc_step (r : Int) (rest : List UInt8) : (Lib.decodeL (Lib.encodeRune r ++ rest)).2 = (Lib.encodeRune r).length ∧ ¬ ((Lib.decodeL (Lib.encodeRune r ++ rest)).1 = 65533 ∧ (Lib.encodeRune r).length = 1) := by
 rw [Lib.decodeL_N]
 by_cases h1 : 0 ≤ r ∧ r ≤ 127
 ·have e : Lib.encodeRune r = [r.toNat.toUInt8] := by unfold Lib.encodeRune; rw [Lib.encodeRuneZ_one h1.1 h1.2]; rfl
  have a := u8n r (by omega) (by omega)
  rw [e]
  simp only [List.cons_append, List.nil_append, List.getD_cons_zero, List.length_cons, List.length_nil]
  unfold Lib.decodeN
  rw [if_pos (by omega)]
  exact ⟨rfl, by omega⟩
 by_cases h2 : 128 ≤ r ∧ r ≤ 2047
 ·have e : Lib.encodeRune r = [(192 + r / 64).toNat.toUInt8, (128 + r % 64).toNat.toUInt8] := by unfold Lib.encodeRune; rw [Lib.encodeRuneZ_two h2.1 h2.2]; rfl
  have a := u8n (192 + r / 64) (by omega) (by omega)
  have b := u8n (128 + r % 64) (by omega) (by omega)
  rw [e]
  simp only [List.cons_append, List.nil_append, List.getD_cons_zero, List.getD_cons_succ, List.length_cons, List.length_nil]
  unfold Lib.decodeN
  rw [if_neg (by omega), if_pos (by omega), if_pos (by omega)]
  exact ⟨rfl, by omega⟩
 by_cases h3 : (2048 ≤ r ∧ r < 55296) ∨ (57343 < r ∧ r ≤ 65535)
 ·have e : Lib.encodeRune r = [(224 + r / 4096).toNat.toUInt8, (128 + r / 64 % 64).toNat.toUInt8, (128 + r % 64).toNat.toUInt8] := by unfold Lib.encodeRune; rw [Lib.encodeRuneZ_three h3]; rfl
  have a := u8n (224 + r / 4096) (by omega) (by omega)
  have b := u8n (128 + r / 64 % 64) (by omega) (by omega)
  have c := u8n (128 + r % 64) (by omega) (by omega)
  rw [e]
  simp only [List.cons_append, List.nil_append, List.getD_cons_zero, List.getD_cons_succ, List.length_cons, List.length_nil]
  unfold Lib.decodeN
  rw [if_neg (by omega), if_neg (by omega), if_pos (by omega), if_pos (by omega)]
  exact ⟨rfl, by omega⟩
 by_cases h4 : 65536 ≤ r ∧ r ≤ 1114111
 ·have e : Lib.encodeRune r = [(240 + r / 262144).toNat.toUInt8, (128 + r / 4096 % 64).toNat.toUInt8, (128 + r / 64 % 64).toNat.toUInt8, (128 + r % 64).toNat.toUInt8] := by unfold Lib.encodeRune; rw [Lib.encodeRuneZ_four h4.1 h4.2]; rfl
  have a := u8n (240 + r / 262144) (by omega) (by omega)
  have b := u8n (128 + r / 4096 % 64) (by omega) (by omega)
  have c := u8n (128 + r / 64 % 64) (by omega) (by omega)
  have d := u8n (128 + r % 64) (by omega) (by omega)
  rw [e]
  simp only [List.cons_append, List.nil_append, List.getD_cons_zero, List.getD_cons_succ, List.length_cons, List.length_nil]
  unfold Lib.decodeN
  rw [if_neg (by omega), if_neg (by omega), if_neg (by omega), if_pos (by omega), if_pos (by omega)]
  exact ⟨rfl, by omega⟩
 ·have e : Lib.encodeRune r = [239, 191, 189] := by unfold Lib.encodeRune; rw [Lib.encodeRuneZ_bad (by omega)]; rfl
  rw [e]
  simp only [List.cons_append, List.nil_append, List.getD_cons_zero, List.getD_cons_succ, List.length_cons, List.length_nil]
  have a : (239 : UInt8).toNat = 239 := rfl
  have b : (191 : UInt8).toNat = 191 := rfl
  have c : (189 : UInt8).toNat = 189 := rfl
  rw [a, b, c]
  unfold Lib.decodeN
  rw [if_neg (by omega), if_neg (by omega), if_pos (by omega), if_pos (by omega)]
  exact ⟨rfl, by omega⟩
theorem validD_enc (r : Int) (rest : List UInt8) : Lib.validD (Lib.encodeRune r ++ rest) = Lib.validD rest := by
 obtain ⟨h1, h2⟩ := enc_step r rest
 have hl := (Lib.encodeRuneZ_length r).1
 have hl : 1 ≤ (Lib.encodeRune r).length := by unfold Lib.encodeRune; rw [List.length_map]; exact hl
 rw [Lib.validD_step _ (by intro e; rw [List.append_eq_nil_iff] at e; rw [e.1] at hl; simp at hl), h1, if_neg h2, List.drop_left]
theorem vld_of {s : ByteArray} : ∀ (n p : Nat), s.size - p ≤ n → p ≤ s.size → Lib.validD (s.data.toList.drop p) = true → Vld s p := by
 intro n
 induction n with
 | zero =>
  intro p h hp _
  obtain rfl : p = s.size := by omega
  exact .stop
 | succ n ih =>
  intro p h hp hv
  by_cases hlt : p < s.size
  ·have hz : s.data.toList.length = s.size := Array.length_toList
   have hne : s.data.toList.drop p ≠ [] := by
    intro e
    have := congrArg List.length e
    rw [List.length_drop, List.length_nil] at this
    omega
   rw [Lib.validD_step _ hne, Go.Proofs.YtebmgmagdhedgaaGreatDoor.XUtfT.decodeL_drop s p] at hv
   split at hv
   ·cases hv
   ·rename_i hb
    have hn : nxt s p = some (Utf8.decode s p).2 := by unfold nxt; rw [if_neg hb]
    rw [List.drop_drop] at hv
    have h0 := nxt_pos hn
    have h1 := nxt_in hn hlt
    exact .step p _ hlt hn (ih _ (by omega) h1 hv)
  ·obtain rfl : p = s.size := by omega
   exact .stop
theorem vld0 {s : ByteArray} (h : Lib.validD s.data.toList = true) : Vld s 0 := vld_of s.size 0 (by omega) (by omega) h
theorem qby_qByte (b : UInt8) : Go.Proofs.YtebmgmagdhedgaaGreatDoor.XQuote.qby b = qByte b.toNat := by
 have key : ∀ n : Nat, n < 128 → qb n = qByte n := by decide +kernel
 unfold Go.Proofs.YtebmgmagdhedgaaGreatDoor.XQuote.qby
 by_cases h : b.toNat < 128
 ·rw [if_pos h, key _ h]
 ·rw [if_neg h, qByte_high (by omega)]
  congr 1
  exact UInt8.toNat_inj.1 (by simp)
theorem bts_all (s : ByteArray) : (bts s 0).map UInt8.ofNat = s.data.toList := by
 have h := cut_bts (s := s) (p := 0) (z := s.size) (by omega)
 rw [Nat.zero_add] at h
 have e : (s.extract 0 s.size) = s := by simp
 rw [e] at h
 exact h.symm
theorem quoted_list (s : ByteArray) (b p : Nat) : quoteL s b p = (fixL s b p).flatMap (fun x => qByte x.toNat) := by
 rw [Go.Proofs.YtebmgmagdhedgaaGreatDoor.XQuote.quote_fix]
 congr 1
 funext x
 exact qby_qByte x
theorem fix_same {s : ByteArray} (h : Lib.validD s.data.toList = true) : fixL s s.size 0 = s.data.toList := by
 have := Go.Proofs.YtebmgmagdhedgaaGreatDoor.XUtfT.valid_ok s s.size 0 (by omega)
 rw [List.drop_zero, h] at this
 rw [Go.Proofs.YtebmgmagdhedgaaGreatDoor.XUtfX.fixL_ok s s.size 0 (by omega) this.symm, List.drop_zero]
/-- A text as it is quoted. -/
def quo (s : ByteArray) : List UInt8 := 34 :: (quoteL s s.size 0 ++ [34])
theorem bts_nat (s : ByteArray) : bts s 0 = s.data.toList.map UInt8.toNat := by
 rw [← bts_all, List.map_map]
 conv => lhs; rw [← List.map_id (bts s 0)]
 refine List.map_congr_left fun x hx => ?_
 unfold bts at hx
 obtain ⟨y, _, rfl⟩ := List.mem_map.1 hx
 exact (ofNat_hnd s y).symm
theorem quo_valid {s : ByteArray} (h : Lib.validD s.data.toList = true) : quo s = 34 :: ((bts s 0).flatMap qByte ++ [34]) := by
 unfold quo
 rw [quoted_list, fix_same h, bts_nat, List.flatMap_map]
/-- A quoted text that is valid is read as it was. -/
theorem text_quo {s t : ByteArray} (h : Lib.validD s.data.toList = true) {i : Nat} {rest : List UInt8} (hS : Stands' t i (quo s ++ rest)) (hz : i + (quo s).length ≤ t.size) : text t i = .ok s.data.toList (i + (quo s).length) := by
 rw [quo_valid h] at hS hz ⊢
 simp only [List.length_cons, List.length_append, List.length_nil] at hz ⊢
 have hS2 : Stands' t (i + 1) (((bts s 0).flatMap qByte ++ [34]) ++ rest) := hS.tail
 rw [List.append_assoc] at hS2
 have hl : s.size ≤ ((bts s 0).flatMap qByte).length := by
  have hb : (bts s 0).length = s.size := by rw [bts_nat, List.length_map]; exact Array.length_toList
  have : ∀ l : List Nat, l.length ≤ (l.flatMap qByte).length := by
   intro l
   induction l with
   | nil => simp
   | cons c r ih =>
    rw [List.flatMap_cons, List.length_append, List.length_cons]
    have : 1 ≤ (qByte c).length := by
     unfold qByte
     repeat' split
     all_goals simp
    omega
  have := this (bts s 0)
  omega
 have := txt_quoted (vld0 h) (t.size + 1) (i + 1) [] rest (by omega) hS2 (by omega) (by omega)
 unfold text
 rw [this, bts_all, List.nil_append]
 congr 1
 omega
theorem parse_ok {s : ByteArray} {v : JV} (h : parse s = .ok v 0) : ∃ j, pval s 64 (skip isBl s 0) = .ok v j ∧ j ≤ s.size ∧ skip isBl s 0 < j ∧ skip isBl s j = s.size := by
 unfold parse at h
 have hs := pval_sn 64 _ (skip_in (p := isBl) (Nat.zero_le s.size))
 cases hv : pval s 64 (skip isBl s 0) with
 | bad k c => rw [hv] at h; cases h
 | ok w j =>
  rw [hv] at h hs
  change (if skip isBl s j < s.size then Res.bad (skip isBl s j) 30 else Res.ok w 0) = .ok v 0 at h
  split at h
  ·cases h
  ·rename_i hn
   injection h with h1 _
   subst h1; have := skip_in (p := isBl) hs.2
   exact ⟨j, rfl, hs.2, pval_lt _ _ _ _ hv, by omega⟩
theorem flat_br {t : ByteArray} {br : Nat → Res JV} {i : Nat} (h : hnd t i = 91 ∨ hnd t i = 123) : flat t br i = br i := by
 unfold flat
 rw [if_neg (by omega), if_neg (by omega), if_neg (by omega), if_neg (by omega), if_pos h]
theorem skip_at {t : ByteArray} {i : Nat} (h : isBl (hnd t i) = false) : skip isBl t i = i := skip_to bl0 _ _ _ rfl (Nat.le_refl _) (fun q h1 h2 => by omega) h
theorem wd_one {t : ByteArray} {c i : Nat} (h : hnd t i = c) : wd t [c] i = .ok () (i + 1) := by rw [wd_cons, if_pos h]; rfl
/-- What may be of a value, whatever it holds. -/
def fineV (v : JV) : Bool := decide (v.f0 ≤ 6) && (decide (v.f1.size = 0) || decide (v.f0 = 3) || decide (v.f0 = 4)) && (v.f2.isEmpty || decide (v.f0 = 5)) && (v.f3.isEmpty || decide (v.f0 = 6)) && (!decide (v.f0 = 3) || numOk v.f1) && (!decide (v.f0 = 4) || Lib.validD v.f1.data.toList) && (!decide (v.f0 = 6) || namedF v.f3 [])
/-- May a value be, with so many levels more? -/
def mayD : Nat → JV → Bool
 | 0, v => fineV v && decide (v.f0 < 5)
 | d + 1, v => fineV v && v.f2.all (mayD d) && v.f3.all (fun f => mayD d f.f1)
/-- Things behind one another, with commas. -/
def sep : Bool → List (List UInt8) → List UInt8
 | _, [] => []
 | b, x :: r => (if b = true then x else 44 :: x) ++ sep false r
def wrF (ch : JV → List UInt8) (v : JV) : List UInt8 :=
 if v.f0 = 0 then [110, 117, 108, 108] else if v.f0 = 1 then [102, 97, 108, 115, 101] else if v.f0 = 2 then [116, 114, 117, 101] else if v.f0 = 3 then v.f1.data.toList else if v.f0 = 4 then quo v.f1
 else if v.f0 = 5 then 91 :: (sep true (v.f2.map ch) ++ [93]) else 123 :: (sep true (v.f3.map fun f => quo f.f0 ++ 58 :: ch f.f1) ++ [125])
/-- A value as it is written. -/
def wrD : Nat → JV → List UInt8
 | 0 => wrF (fun _ => [])
 | d + 1 => wrF (wrD d)
theorem fineV_parts {v : JV} (h : fineV v = true) : v.f0 ≤ 6 ∧ (v.f1.size = 0 ∨ v.f0 = 3 ∨ v.f0 = 4) ∧ (v.f2 = [] ∨ v.f0 = 5) ∧ (v.f3 = [] ∨ v.f0 = 6) ∧ (v.f0 = 3 → numOk v.f1 = true) ∧ (v.f0 = 4 → Lib.validD v.f1.data.toList = true) ∧ (v.f0 = 6 → namedF v.f3 [] = true) := by
 simp only [fineV, Bool.and_eq_true, Bool.or_eq_true, decide_eq_true_eq, Bool.not_eq_true', decide_eq_false_iff_not, List.isEmpty_iff] at h
 obtain ⟨⟨⟨⟨⟨⟨a, b⟩, c⟩, d⟩, e⟩, f⟩, g⟩ := h
 exact ⟨a, by rcases b with (b | b) | b <;> simp [b], c, d, fun x => e.resolve_left (fun y => y x), fun x => f.resolve_left (fun y => y x), fun x => g.resolve_left (fun y => y x)⟩
theorem mayD_fine {d : Nat} {v : JV} (h : mayD d v = true) : fineV v = true := by
 cases d with
 | zero => simp only [mayD, Bool.and_eq_true] at h; exact h.1
 | succ d => simp only [mayD, Bool.and_eq_true] at h; exact h.1.1
theorem flat3 {s : ByteArray} {br : Nat → Res JV} {i j : Nat} {v : JV} (h : flat s br i = .ok v j) (hb : ∀ v j, br i = .ok v j → v.f0 ≠ 3) (h3 : v.f0 = 3) : number s i = .ok () j ∧ v = ⟨3, s.extract i j, [], []⟩ ∧ hnd s i ≠ 110 ∧ hnd s i ≠ 116 ∧ hnd s i ≠ 102 ∧ hnd s i ≠ 34 ∧ hnd s i ≠ 91 ∧ hnd s i ≠ 123 := by
 unfold flat at h
 split at h
 ·cases hw : wd s [110, 117, 108, 108] i with
  | ok u k => rw [hw] at h; injection h with h; subst h; cases h3
  | bad k c => rw [hw] at h; cases h
 split at h
 ·cases hw : wd s [116, 114, 117, 101] i with
  | ok u k => rw [hw] at h; injection h with h; subst h; cases h3
  | bad k c => rw [hw] at h; cases h
 split at h
 ·cases hw : wd s [102, 97, 108, 115, 101] i with
  | ok u k => rw [hw] at h; injection h with h; subst h; cases h3
  | bad k c => rw [hw] at h; cases h
 split at h
 ·cases hw : text s i with
  | ok u k => rw [hw] at h; injection h with h; subst h; cases h3
  | bad k c => rw [hw] at h; cases h
 split at h
 ·exact absurd h3 (hb _ _ h)
 ·rename_i a b c d e
  cases hw : number s i with
  | ok u k =>
   rw [hw] at h
   injection h with h h2
   subst h h2
   exact ⟨rfl, rfl, a, b, c, d, fun x => e (.inl x), fun x => e (.inr x)⟩
  | bad k c => rw [hw] at h; cases h
theorem brk3 {s : ByteArray} {pv : Nat → Res JV} {i : Nat} (v : JV) (j : Nat) (h : brk s pv i = .ok v j) : v.f0 ≠ 3 := by
 unfold brk at h
 split at h
 ·cases hw : lst s pv (s.size + 1) (skip isBl s (i + 1)) [] with
  | ok u k => rw [hw] at h; injection h with h; subst h; intro c; simp at c
  | bad k c => rw [hw] at h; cases h
 ·cases hw : obj s pv (s.size + 1) (skip isBl s (i + 1)) true [] with
  | ok u k => rw [hw] at h; injection h with h; subst h; intro c; simp at c
  | bad k c => rw [hw] at h; cases h
theorem pval3 {s : ByteArray} {d i j : Nat} {v : JV} (h : pval s d i = .ok v j) (h3 : v.f0 = 3) : number s i = .ok () j ∧ v = ⟨3, s.extract i j, [], []⟩ ∧ hnd s i ≠ 110 ∧ hnd s i ≠ 116 ∧ hnd s i ≠ 102 ∧ hnd s i ≠ 34 ∧ hnd s i ≠ 91 ∧ hnd s i ≠ 123 := by
 cases d with
 | zero => exact flat3 h (fun v j hb => by cases hb) h3
 | succ d => exact flat3 h (fun v j hb => brk3 v j hb) h3
/-- A number's text, read alone. -/
theorem num_parts {t : ByteArray} (h : numOk t = true) : 0 < t.size ∧ t.size ≤ 262144 ∧ number t 0 = .ok () t.size ∧ hnd t 0 ≠ 110 ∧ hnd t 0 ≠ 116 ∧ hnd t 0 ≠ 102 ∧ hnd t 0 ≠ 34 ∧ hnd t 0 ≠ 91 ∧ hnd t 0 ≠ 123 := by
 unfold numOk at h
 by_cases hs : 262144 < t.size
 ·have : parsed t = (⟨0, ⟨#[]⟩, [], []⟩, 0, 3) := if_pos hs
  rw [this] at h
  simp at h
 ·rcases parse_sn t with ⟨v, hv⟩ | ⟨k, c, hv, _, hc⟩
  ·have hp : parsed t = (v, 0, 0) := by unfold parsed; rw [if_neg hs, hv]
   rw [hp] at h
   simp only [if_true] at h
   split at h
   ·rename_i h3
    obtain ⟨j, hj, hjs, hij, hend⟩ := parse_ok hv
    obtain ⟨hn, rfl, hr⟩ := pval3 hj h3
    have he : t.extract (skip isBl t 0) j = t := by
     have := beq_iff_eq.1 h
     rw [ByteArray.toList_eq, ByteArray.toList_eq] at this
     apply ByteArray.ext
     exact Array.toList_inj.1 this
    have hsz := congrArg ByteArray.size he
    rw [ByteArray.size_extract] at hsz
    have h0 : skip isBl t 0 = 0 := by omega
    have hj : j = t.size := by omega
    rw [h0] at hn hr hij
    subst hj; exact ⟨hij, by omega, hn, hr⟩
   ·cases h
  ·have hp : parsed t = (⟨0, ⟨#[]⟩, [], []⟩, k, c) := by unfold parsed; rw [if_neg hs, hv]
   rw [hp] at h
   rcases hc with rfl | rfl <;> simp at h
theorem num_lead {t : ByteArray} {j : Nat} (h : number t 0 = .ok () j) : hnd t 0 = 45 ∨ isDig (hnd t 0) = true := by
 unfold number at h
 split at h
 ·rename_i c; exact .inl c
 ·unfold nI at h
  by_cases c : hnd t 0 = 48
  ·rw [c]; exact .inr (by decide)
  ·rw [if_neg c] at h
   unfold digits at h
   split at h
   ·rename_i c; exact .inr c
   ·cases h
/-- The rule of a kind. -/
inductive KC : Int → Bool → Bool → Bool → Value → Prop
 | k0 : KC 0 false false false .nilFunc
 | k1 : KC 1 false false false .nilFunc
 | k2 : KC 2 false false false .nilFunc
 | k3 : KC 3 true false false (.func (.func 34) #[] #[])
 | k4 : KC 4 true false false (.func (.func 81) #[] #[])
 | k5 : KC 5 false true false .nilFunc
 | k6 : KC 6 false false true (.func (.func 82) #[] #[])
theorem KC.index {k : Int} {a b c : Bool} {f : Value} (h : KC k a b c f) (W : World) : (Instr.index 88 (.agg ruleA) (.int .u8 k)).run Tryz.prog W = .ok (.agg #[.bool a, .bool b, .bool c, f]) W := by
 cases h <;> kernel_rfl
theorem KC.one {k : Int} {a b c : Bool} {f : Value} (h : KC k a b c f) : f.oneCell' = true := by cases h <;> rfl
theorem KC.range {k : Int} {a b c : Bool} {f : Value} (h : KC k a b c f) : 0 ≤ k ∧ k ≤ 6 := by cases h <;> decide
theorem below_put4 {w0 w : World} {g : Nat} (h : Below w0.heap.size w0 w) (hg : w0.heap.size ≤ g) (a b c d : Value) : Below w0.heap.size w0 ((((w.setCell ⟨g, 0, none⟩ a).setCell ⟨g, 1, none⟩ b).setCell ⟨g, 2, none⟩ c).setCell ⟨g, 3, none⟩ d) :=
 (((h.setCell (p := ⟨g, 0, none⟩) hg _).setCell (p := ⟨g, 1, none⟩) hg _).setCell (p := ⟨g, 2, none⟩) hg _).setCell (p := ⟨g, 3, none⟩) hg _
theorem may_el {w wr : World} {A2 : Option Addr} {n2 j : Nat} {l : List JV} {ch : JV → Bool} (hn : n2 = l.length) (hlt : j < n2) (hC : k25.C w A2 n2 l) (hB : Below w.heap.size w wr) : ∃ (ad : Addr) (A6 : Option Addr) (c6 : Nat) (A7 : Option Addr) (c7 : Nat) (x : JV), A2 = some ad ∧ wr.cell? (ad.add (j * 4)) = some (.int .u8 x.f0) ∧ wr.cell? ⟨(ad.add (j * 4)).block, (ad.add (j * 4)).off + 1, none⟩ = some (.string x.f1) ∧ wr.cell? ⟨(ad.add (j * 4)).block, (ad.add (j * 4)).off + 2, none⟩ = some (.slice A6 x.f2.length c6) ∧ wr.cell? ⟨(ad.add (j * 4)).block, (ad.add (j * 4)).off + 3, none⟩ = some (.slice A7 x.f3.length c7) ∧ (x ∈ l ∧ k25.C wr A6 x.f2.length x.f2 ∧ k45.C wr A7 x.f3.length x.f3 ∧ (l.drop j).all ch = (ch x && (l.drop (j + 1)).all ch)) := by
 have hlt' : j < l.length := by omega
 obtain ⟨ad, A6, c6, A7, c7, hA2, n0, n1, n2', n3, _, g6, _, g7⟩ := at_T25 (Kd.C_below hC hB) j (by omega) (by omega)
 have hrd : rd_T25 l j = l[j] := by unfold rd_T25; rw [Int.toNat_natCast, List.getD_eq_getElem?_getD, List.getElem?_eq_getElem hlt']; rfl
 rw [hrd] at n0 n1 n2' n3 g6 g7
 rw [Int.toNat_natCast] at n0 n1 n2' n3
 exact ⟨ad, A6, c6, A7, c7, l[j], hA2, n0, n1, n2', n3, List.getElem_mem hlt', g6, g7, by rw [List.drop_eq_getElem_cons hlt', List.all_cons]⟩
theorem may_elf {w wr : World} {A2 : Option Addr} {n2 j : Nat} {l : List JF} {ch : JV → Bool} (hn : n2 = l.length) (hlt : j < n2) (hC : k45.C w A2 n2 l) (hB : Below w.heap.size w wr) : ∃ (ad : Addr) (A6 : Option Addr) (c6 : Nat) (A7 : Option Addr) (c7 : Nat) (x : JF), A2 = some ad ∧ wr.cell? (ad.add (j * 5)) = some (.string x.f0) ∧ wr.cell? ⟨(ad.add (j * 5)).block, (ad.add (j * 5)).off + 1, none⟩ = some (.int .u8 x.f1.f0) ∧ wr.cell? ⟨(ad.add (j * 5)).block, (ad.add (j * 5)).off + 2, none⟩ = some (.string x.f1.f1) ∧ wr.cell? ⟨(ad.add (j * 5)).block, (ad.add (j * 5)).off + 3, none⟩ = some (.slice A6 x.f1.f2.length c6) ∧ wr.cell? ⟨(ad.add (j * 5)).block, (ad.add (j * 5)).off + 4, none⟩ = some (.slice A7 x.f1.f3.length c7) ∧ (x ∈ l ∧ k25.C wr A6 x.f1.f2.length x.f1.f2 ∧ k45.C wr A7 x.f1.f3.length x.f1.f3 ∧ ((l.drop j).all fun y => ch y.f1) = (ch x.f1 && (l.drop (j + 1)).all fun y => ch y.f1)) := by
 have hlt' : j < l.length := by omega
 obtain ⟨ad, A6, c6, A7, c7, hA2, n0, n1, n2', n3, n4, _, g6, _, g7⟩ := at_T45 (Kd.C_below hC hB) j (by omega) (by omega)
 have hrd : rd_T45 l j = l[j] := by unfold rd_T45; rw [Int.toNat_natCast, List.getD_eq_getElem?_getD, List.getElem?_eq_getElem hlt']; rfl
 rw [hrd] at n0 n1 n2' n3 n4 g6 g7
 rw [Int.toNat_natCast] at n0 n1 n2' n3 n4
 exact ⟨ad, A6, c6, A7, c7, l[j], hA2, n0, n1, n2', n3, n4, List.getElem_mem hlt', g6, g7, by rw [List.drop_eq_getElem_cons hlt', List.all_cons]⟩
theorem fn_nil (w : World) : (binOp .neq 27 .nilFunc .nilFunc).run Tryz.prog w = .ok (.bool false) w := by
 have h24 := Tryz.underlying27
 have he : (Op.equal 27 .nilFunc .nilFunc).run Tryz.prog w = .ok true w := by
  unfold Op.equal
  have : Op.maxDepth = 9999 + 1 := by decide
  rw [this]
  generalize 9999 = d
  simp only [Op.equalIn, Sem.run_bind, run_underlying h24, Result.andThen_ok]
  simp
 simp [binOp, he]
theorem fn_some (j : Nat) (w : World) : (binOp .neq 27 (.func (.func j) #[] #[]) .nilFunc).run Tryz.prog w = .ok (.bool true) w := by
 have h24 := Tryz.underlying27
 have he : (Op.equal 27 (.func (.func j) #[] #[]) .nilFunc).run Tryz.prog w = .ok false w := by
  unfold Op.equal
  have : Op.maxDepth = 9999 + 1 := by decide
  rw [this]
  generalize 9999 = d
  simp only [Op.equalIn, Sem.run_bind, run_underlying h24, Result.andThen_ok]
  simp
 simp [binOp, he]
/-- What a value has that it may not have. -/
def badV (k : Int) (a b c p q s fr : Bool) (deep : Int) : Bool := (p && !a) || (q && !b) || (s && !c) || !fr || (decide (64 < deep) && decide (5 ≤ k))
def MayFine (k : Int) (t : ByteArray) (A2 A3 : Option Addr) (n2 c2 n3 c3 : Nat) (fr : Bool) (w : World) : Prop :=
 (k = 3 → ∀ W, Below w.heap.size w W → Calls Tryz.prog 34 #[.agg #[.int .u8 k, .string t, .slice A2 n2 c2, .slice A3 n3 c3]] W fun e W' => e = .returned (.bool fr) ∧ Below W.heap.size W W') ∧
 (k = 4 → ∀ W, Below w.heap.size w W → Calls Tryz.prog 81 #[.agg #[.int .u8 k, .string t, .slice A2 n2 c2, .slice A3 n3 c3]] W fun e W' => e = .returned (.bool fr) ∧ Below W.heap.size W W') ∧
 (k = 6 → ∀ W, Below w.heap.size w W → Calls Tryz.prog 82 #[.agg #[.int .u8 k, .string t, .slice A2 n2 c2, .slice A3 n3 c3]] W fun e W' => e = .returned (.bool fr) ∧ Below W.heap.size W W') ∧
 (k ≠ 3 → k ≠ 4 → k ≠ 6 → fr = true)
set_option maxRecDepth 100000 in
set_option maxHeartbeats 8000000 in
theorem may_go (k : Int) (a b c p q s fr : Bool) (f : Value) (t : ByteArray) (deep : Int) (A2 A3 : Option Addr) (c2 c3 : Nat) (l : List JV) (fs : List JF) (ch : JV → Bool) (w : World) (hK : KC k a b c f) (hd : 0 ≤ deep ∧ deep ≤ 1000) (h2 : k25.C w A2 l.length l) (h3 : k45.C w A3 fs.length fs) (hl2 : l.length ≤ 140737488351232) (hl3 : fs.length ≤ 140737488351232)
  (hp : t.toList = [] ↔ p = false) (hq : l.length = 0 ↔ q = false) (hs : fs.length = 0 ↔ s = false) (hF : MayFine k t A2 A3 l.length c2 fs.length c3 fr w)
  (hI : badV k a b c p q s fr deep = false → ∀ x, (x ∈ l ∨ ∃ y ∈ fs, y.f1 = x) → ∀ (W : World) (B2 B3 : Option Addr) (d2 d3 : Nat), Below w.heap.size w W → k25.C W B2 x.f2.length x.f2 → k45.C W B3 x.f3.length x.f3 → Calls Tryz.prog 32 #[.agg #[.int .u8 x.f0, .string x.f1, .slice B2 x.f2.length d2, .slice B3 x.f3.length d3], .int .i64 (deep + 1)] W fun e W' => e = .returned (.bool (ch x)) ∧ Below W.heap.size W W') :
  Calls Tryz.prog 32 #[.agg #[.int .u8 k, .string t, .slice A2 l.length c2, .slice A3 fs.length c3], .int .i64 deep] w fun e w' => e = .returned (.bool (!badV k a b c p q s fr deep && (l.all ch && fs.all fun y => ch y.f1))) ∧ Below w.heap.size w w' := by
 obtain ⟨bad, hbad⟩ : ∃ bad, bad = badV k a b c p q s fr deep := ⟨_, rfl⟩
 rw [← hbad] at hI ⊢
 obtain ⟨n2, hn2⟩ : ∃ n2, n2 = l.length := ⟨_, rfl⟩
 obtain ⟨n3, hn3⟩ : ∃ n3, n3 = fs.length := ⟨_, rfl⟩
 rw [← hn2] at h2 hl2 hq hF ⊢
 rw [← hn3] at h3 hl3 hs hF ⊢
 obtain ⟨res, hres⟩ : ∃ res, res = (!bad && (l.all ch && fs.all fun y => ch y.f1)) := ⟨_, rfl⟩
 rw [← hres]
 have HBD := Aside0.mk hbad; have HRES := Aside0.mk hres; have HN2 := Aside0.mk hn2; have HN3 := Aside0.mk hn3; have HC2 := Aside0.mk h2; have HC3 := Aside0.mk h3; have HP := Aside0.mk hp; have HQ := Aside0.mk hq; have HS := Aside0.mk hs; have HF := Aside0.mk hF; have HI := Aside0.mk hI; have HD := Aside0.mk hd; have FP0 := Aside0.mk (show p = false → t.toList.isEmpty = true ∧ (t.toList == []) = true from fun e => by rw [hp.2 e]; exact ⟨rfl, rfl⟩)
 have FP1 := Aside0.mk (show p = true → t.toList.isEmpty = false ∧ (t.toList == []) = false from fun e => by
  have hne : t.toList ≠ [] := fun h => by rw [hp.1 h] at e; cases e
  exact ⟨by simpa using hne, by simpa using hne⟩)
 have FQ0 := Aside0.mk (show q = false → decide ((0 : Int) < (n2 : Int)) = false ∧ decide (0 < n2) = false from fun e => by have h := hq.2 e; exact ⟨decide_eq_false (by omega), decide_eq_false (by omega)⟩)
 have FQ1 := Aside0.mk (show q = true → decide ((0 : Int) < (n2 : Int)) = true ∧ decide (0 < n2) = true from fun e => by have h := mt hq.1 (by rw [e]; decide); exact ⟨decide_eq_true (by omega), decide_eq_true (by omega)⟩)
 have FS0 := Aside0.mk (show s = false → decide ((0 : Int) < (n3 : Int)) = false ∧ decide (0 < n3) = false from fun e => by have h := hs.2 e; exact ⟨decide_eq_false (by omega), decide_eq_false (by omega)⟩)
 have FS1 := Aside0.mk (show s = true → decide ((0 : Int) < (n3 : Int)) = true ∧ decide (0 < n3) = true from fun e => by have h := mt hs.1 (by rw [e]; decide); exact ⟨decide_eq_true (by omega), decide_eq_true (by omega)⟩)
 clear hbad hres hn2 hn3 h2 h3 hp hq hs hF hI hd; obtain ⟨W1, hW1⟩ : ∃ W1, W1 = w.alloc (.cells #[.int .u8 k, .string t, .slice A2 n2 c2, .slice A3 n3 c3] 25 (0, 0)) := ⟨_, rfl⟩
 obtain ⟨N, hN⟩ : ∃ N, N = w.heap.size := ⟨_, rfl⟩
 have HX := Aside0.mk (show W1.heap[N]? = some (.cells #[.int .u8 k, .string t, .slice A2 n2 c2, .slice A3 n3 c3] 25 (0, 0)) by rw [hW1, hN]; exact blk_new w _)
 have HB1 := Aside0.mk (show Below w.heap.size w W1 by rw [hW1]; exact below_alloc (Below.refl _ _) _)
 have HN := Aside0.mk hN; have HKC := Aside0.mk hK; have x0 := blk_cell HX.out 0
 have x02 : ∀ o, (W1.alloc o).cell? ⟨N, 0, none⟩ = some (.int .u8 k) := fun o => blk_cell (blk_alloc HX.out o) 0
 have hone := hK.one
 have hrg := hK.range
 have t6 : decide ((6 : Int) < k) = false := decide_eq_false (by omega)
 have hidx := hK.index
 have hst : ∀ p m W, (store p f m).run Tryz.prog W = stored Tryz.prog W p f m := fun p m W => run_store Tryz.prog W p f m hone
 clear hrg hK; go_enter Tryz.func32, Tryz.ntmps32
 go_upto_region 1 with (fail)
 rw [← hW1, ← hN]
 clear hW1 hN; go_wp2
 go_upto_region 4 with (fail)
 go_cut [5] from 13 to 16 (fun v5 wc => ∃ B, v5 = .pointer (some ⟨B, 0, none⟩) ∧ Aside0 (wc.heap[B]? = some (.cells #[.bool a, .bool b, .bool c, f] 87 (0, 0))) ∧ Aside0 (wc.heap[N]? = some (.cells #[.int .u8 k, .string t, .slice A2 n2 c2, .slice A3 n3 c3] 25 (0, 0))) ∧ Aside0 (Below w.heap.size w wc))
 case first =>
  rename_i J K2 hJ hK2
  go_region_with (first | ((go_at_call 57; refine (jsontext_rules.calls _).mono ?_; rintro e w1 ⟨rfl, hb⟩; have hbb := Aside0.mk hb; have hy : Aside0 (w1.heap[N]? = some (.cells #[.int .u8 k, .string t, .slice A2 n2 c2, .slice A3 n3 c3] 25 (0, 0))) := ⟨(by first | exact blk_below (show (World.drew _).heap[N]? = _ from HX.out) hb | exact blk_below (blk_alloc (show (World.drew _).heap[N]? = _ from HX.out) _) hb)⟩; have hbw : Aside0 (Below w.heap.size w w1) := ⟨(by first | exact below_step (below_drew1 HB1.out) hb | exact below_step (below_drew1 (below_alloc HB1.out _)) hb | exact below_step (below_alloc (below_drew1 HB1.out) _) hb)⟩; have y := blk_cell hy.out 0; have y2 : ∀ o, (w1.alloc o).cell? ⟨N, 0, none⟩ = some (.int .u8 k) := fun o => blk_cell (blk_alloc hy.out o) 0; (first | (have hz := Aside0.mk (show w1.heap[W1.heap.size]? = some (.cells #[.bool false, .bool false, .bool false, .nilFunc] 87 (0, 0)) from blk_below (blk_new (World.drew _) _) hb); have z0 := blk_cell hz.out 0; have z1 := blk_cell hz.out 1; have z2 := blk_cell hz.out 2; have z3 := blk_cell hz.out 3; have g0 := blk_frozen hz.out 0; have g1 := blk_frozen hz.out 1; have g2 := blk_frozen hz.out 2; have g3 := blk_frozen hz.out 3) | skip); clear hb)))
  all_goals
   refine hK2 _ _ (Met.intro (hJ _ _ ?_))
   (repeat apply Exists.intro)
   refine ⟨?rel, rfl⟩
   case rel => first | (have hz2 := hz; exact ⟨_, rfl, ⟨blk_put (blk_put (blk_put (blk_put hz2.out 0 _ rfl) 1 _ rfl) 2 _ rfl) 3 _ rfl⟩, ⟨(put4_far (show N ≠ W1.heap.size from Nat.ne_of_lt (blk_lt HX.out)) _ _ _ _).trans hy.out⟩, ⟨below_put4 hbw.out HB1.out.size _ _ _ _⟩⟩) | exact ⟨_, rfl, ⟨blk_new w1 _⟩, ⟨blk_alloc hy.out _⟩, ⟨below_alloc hbw.out _⟩⟩
 case rest =>
 obtain ⟨B, rfl, HR, HXc, HBc⟩ := hcut
 clear HX HB1 x0 x02 hone hidx hst t6; go_upto_region 4 with (fail)
 go_cut [67] from 17 to 67 (fun v67 wc => v67 = .bool bad ∧ Aside0 (wc.heap[N]? = some (.cells #[.int .u8 k, .string t, .slice A2 n2 c2, .slice A3 n3 c3] 25 (0, 0))) ∧ Aside0 (Below w.heap.size w wc))
 case first =>
  have x0 := blk_cell HXc.out 0
  have x1 := blk_cell HXc.out 1
  have x2 := blk_cell HXc.out 2
  have x3 := blk_cell HXc.out 3
  have y0 := blk_cell HR.out 0
  have y1 := blk_cell HR.out 1
  have y2 := blk_cell HR.out 2
  have y3 := blk_cell HR.out 3
  have hn0 := fn_nil
  have hn1 := fn_some
  have hkc := HKC.out
  clear HKC; cases hkc
  case k0 =>
   obtain rfl : fr = true := HF.out.2.2.2 (by decide) (by decide) (by decide)
   cases p
   ·skip
    have tp := (FP0.out rfl).1
    have tpn := (FP0.out rfl).2
    cases q
    ·skip
     have tq := (FQ0.out rfl).1
     have tqn := (FQ0.out rfl).2
     cases s
     ·skip
      have ts := (FS0.out rfl).1
      have tsn := (FS0.out rfl).2
      by_cases hd : (64 : Int) < deep
      ·have td : decide ((64 : Int) < deep) = true := decide_eq_true hd
       go_wp2
       go_meet
       case rel => exact ⟨by rw [show bad = false by rw [HBD.out]; simp [badV, hd]], HXc, HBc⟩
      ·have td : decide ((64 : Int) < deep) = false := decide_eq_false hd
       go_wp2
       go_meet
       case rel => exact ⟨by rw [show bad = false by rw [HBD.out]; simp [badV, hd]], HXc, HBc⟩
     ·skip
      have ts := (FS1.out rfl).1
      have tsn := (FS1.out rfl).2
      go_wp2
      go_meet
      case rel => exact ⟨by rw [show bad = true by rw [HBD.out]; simp [badV]], HXc, HBc⟩
    ·skip
     have tq := (FQ1.out rfl).1
     have tqn := (FQ1.out rfl).2
     go_wp2
     go_meet
     case rel => exact ⟨by rw [show bad = true by rw [HBD.out]; simp [badV]], HXc, HBc⟩
   ·skip
    have tp := (FP1.out rfl).1
    have tpn := (FP1.out rfl).2
    go_wp2
    go_meet
    case rel => exact ⟨by rw [show bad = true by rw [HBD.out]; simp [badV]], HXc, HBc⟩
  case k1 =>
   obtain rfl : fr = true := HF.out.2.2.2 (by decide) (by decide) (by decide)
   cases p
   ·skip
    have tp := (FP0.out rfl).1
    have tpn := (FP0.out rfl).2
    cases q
    ·skip
     have tq := (FQ0.out rfl).1
     have tqn := (FQ0.out rfl).2
     cases s
     ·skip
      have ts := (FS0.out rfl).1
      have tsn := (FS0.out rfl).2
      by_cases hd : (64 : Int) < deep
      ·have td : decide ((64 : Int) < deep) = true := decide_eq_true hd
       go_wp2
       go_meet
       case rel => exact ⟨by rw [show bad = false by rw [HBD.out]; simp [badV, hd]], HXc, HBc⟩
      ·have td : decide ((64 : Int) < deep) = false := decide_eq_false hd
       go_wp2
       go_meet
       case rel => exact ⟨by rw [show bad = false by rw [HBD.out]; simp [badV, hd]], HXc, HBc⟩
     ·skip
      have ts := (FS1.out rfl).1
      have tsn := (FS1.out rfl).2
      go_wp2
      go_meet
      case rel => exact ⟨by rw [show bad = true by rw [HBD.out]; simp [badV]], HXc, HBc⟩
    ·skip
     have tq := (FQ1.out rfl).1
     have tqn := (FQ1.out rfl).2
     go_wp2
     go_meet
     case rel => exact ⟨by rw [show bad = true by rw [HBD.out]; simp [badV]], HXc, HBc⟩
   ·skip
    have tp := (FP1.out rfl).1
    have tpn := (FP1.out rfl).2
    go_wp2
    go_meet
    case rel => exact ⟨by rw [show bad = true by rw [HBD.out]; simp [badV]], HXc, HBc⟩
  case k2 =>
   obtain rfl : fr = true := HF.out.2.2.2 (by decide) (by decide) (by decide)
   cases p
   ·skip
    have tp := (FP0.out rfl).1
    have tpn := (FP0.out rfl).2
    cases q
    ·skip
     have tq := (FQ0.out rfl).1
     have tqn := (FQ0.out rfl).2
     cases s
     ·skip
      have ts := (FS0.out rfl).1
      have tsn := (FS0.out rfl).2
      by_cases hd : (64 : Int) < deep
      ·have td : decide ((64 : Int) < deep) = true := decide_eq_true hd
       go_wp2
       go_meet
       case rel => exact ⟨by rw [show bad = false by rw [HBD.out]; simp [badV, hd]], HXc, HBc⟩
      ·have td : decide ((64 : Int) < deep) = false := decide_eq_false hd
       go_wp2
       go_meet
       case rel => exact ⟨by rw [show bad = false by rw [HBD.out]; simp [badV, hd]], HXc, HBc⟩
     ·skip
      have ts := (FS1.out rfl).1
      have tsn := (FS1.out rfl).2
      go_wp2
      go_meet
      case rel => exact ⟨by rw [show bad = true by rw [HBD.out]; simp [badV]], HXc, HBc⟩
    ·skip
     have tq := (FQ1.out rfl).1
     have tqn := (FQ1.out rfl).2
     go_wp2
     go_meet
     case rel => exact ⟨by rw [show bad = true by rw [HBD.out]; simp [badV]], HXc, HBc⟩
   ·skip
    have tp := (FP1.out rfl).1
    have tpn := (FP1.out rfl).2
    go_wp2
    go_meet
    case rel => exact ⟨by rw [show bad = true by rw [HBD.out]; simp [badV]], HXc, HBc⟩
  case k3 =>
   have HFc := HF.out.1 rfl
   cases p
   ·skip
    have tp := (FP0.out rfl).1
    have tpn := (FP0.out rfl).2
    cases q
    ·skip
     have tq := (FQ0.out rfl).1
     have tqn := (FQ0.out rfl).2
     cases s
     ·skip
      have ts := (FS0.out rfl).1
      have tsn := (FS0.out rfl).2
      cases fr
      ·skip
       go_wp2_with (go_at_call 34; refine (HFc _ (by exact HBc.out)).mono ?_; rintro e w2 ⟨rfl, hb⟩; have HB2 := Aside0.mk (below_step HBc.out hb); have HX2 := Aside0.mk (blk_below HXc.out hb); have xz0 := blk_cell HX2.out 0; clear hb)
       go_meet
       case rel => exact ⟨by rw [show bad = true by rw [HBD.out]; simp [badV]], HX2, HB2⟩
      ·skip
       by_cases hd : (64 : Int) < deep
       ·have td : decide ((64 : Int) < deep) = true := decide_eq_true hd
        go_wp2_with (go_at_call 34; refine (HFc _ (by exact HBc.out)).mono ?_; rintro e w2 ⟨rfl, hb⟩; have HB2 := Aside0.mk (below_step HBc.out hb); have HX2 := Aside0.mk (blk_below HXc.out hb); have xz0 := blk_cell HX2.out 0; clear hb)
        go_meet
        case rel => exact ⟨by rw [show bad = false by rw [HBD.out]; simp [badV, hd]], HX2, HB2⟩
       ·have td : decide ((64 : Int) < deep) = false := decide_eq_false hd
        go_wp2_with (go_at_call 34; refine (HFc _ (by exact HBc.out)).mono ?_; rintro e w2 ⟨rfl, hb⟩; have HB2 := Aside0.mk (below_step HBc.out hb); have HX2 := Aside0.mk (blk_below HXc.out hb); have xz0 := blk_cell HX2.out 0; clear hb)
        go_meet
        case rel => exact ⟨by rw [show bad = false by rw [HBD.out]; simp [badV, hd]], HX2, HB2⟩
     ·skip
      have ts := (FS1.out rfl).1
      have tsn := (FS1.out rfl).2
      go_wp2
      go_meet
      case rel => exact ⟨by rw [show bad = true by rw [HBD.out]; simp [badV]], HXc, HBc⟩
    ·skip
     have tq := (FQ1.out rfl).1
     have tqn := (FQ1.out rfl).2
     go_wp2
     go_meet
     case rel => exact ⟨by rw [show bad = true by rw [HBD.out]; simp [badV]], HXc, HBc⟩
   ·skip
    have tp := (FP1.out rfl).1
    have tpn := (FP1.out rfl).2
    cases q
    ·skip
     have tq := (FQ0.out rfl).1
     have tqn := (FQ0.out rfl).2
     cases s
     ·skip
      have ts := (FS0.out rfl).1
      have tsn := (FS0.out rfl).2
      cases fr
      ·skip
       go_wp2_with (go_at_call 34; refine (HFc _ (by exact HBc.out)).mono ?_; rintro e w2 ⟨rfl, hb⟩; have HB2 := Aside0.mk (below_step HBc.out hb); have HX2 := Aside0.mk (blk_below HXc.out hb); have xz0 := blk_cell HX2.out 0; clear hb)
       go_meet
       case rel => exact ⟨by rw [show bad = true by rw [HBD.out]; simp [badV]], HX2, HB2⟩
      ·skip
       by_cases hd : (64 : Int) < deep
       ·have td : decide ((64 : Int) < deep) = true := decide_eq_true hd
        go_wp2_with (go_at_call 34; refine (HFc _ (by exact HBc.out)).mono ?_; rintro e w2 ⟨rfl, hb⟩; have HB2 := Aside0.mk (below_step HBc.out hb); have HX2 := Aside0.mk (blk_below HXc.out hb); have xz0 := blk_cell HX2.out 0; clear hb)
        go_meet
        case rel => exact ⟨by rw [show bad = false by rw [HBD.out]; simp [badV, hd]], HX2, HB2⟩
       ·have td : decide ((64 : Int) < deep) = false := decide_eq_false hd
        go_wp2_with (go_at_call 34; refine (HFc _ (by exact HBc.out)).mono ?_; rintro e w2 ⟨rfl, hb⟩; have HB2 := Aside0.mk (below_step HBc.out hb); have HX2 := Aside0.mk (blk_below HXc.out hb); have xz0 := blk_cell HX2.out 0; clear hb)
        go_meet
        case rel => exact ⟨by rw [show bad = false by rw [HBD.out]; simp [badV, hd]], HX2, HB2⟩
     ·skip
      have ts := (FS1.out rfl).1
      have tsn := (FS1.out rfl).2
      go_wp2
      go_meet
      case rel => exact ⟨by rw [show bad = true by rw [HBD.out]; simp [badV]], HXc, HBc⟩
    ·skip
     have tq := (FQ1.out rfl).1
     have tqn := (FQ1.out rfl).2
     go_wp2
     go_meet
     case rel => exact ⟨by rw [show bad = true by rw [HBD.out]; simp [badV]], HXc, HBc⟩
  case k4 =>
   have HFc := HF.out.2.1 rfl
   cases p
   ·skip
    have tp := (FP0.out rfl).1
    have tpn := (FP0.out rfl).2
    cases q
    ·skip
     have tq := (FQ0.out rfl).1
     have tqn := (FQ0.out rfl).2
     cases s
     ·skip
      have ts := (FS0.out rfl).1
      have tsn := (FS0.out rfl).2
      cases fr
      ·skip
       go_wp2_with (go_at_call 81; refine (HFc _ (by exact HBc.out)).mono ?_; rintro e w2 ⟨rfl, hb⟩; have HB2 := Aside0.mk (below_step HBc.out hb); have HX2 := Aside0.mk (blk_below HXc.out hb); have xz0 := blk_cell HX2.out 0; clear hb)
       go_meet
       case rel => exact ⟨by rw [show bad = true by rw [HBD.out]; simp [badV]], HX2, HB2⟩
      ·skip
       by_cases hd : (64 : Int) < deep
       ·have td : decide ((64 : Int) < deep) = true := decide_eq_true hd
        go_wp2_with (go_at_call 81; refine (HFc _ (by exact HBc.out)).mono ?_; rintro e w2 ⟨rfl, hb⟩; have HB2 := Aside0.mk (below_step HBc.out hb); have HX2 := Aside0.mk (blk_below HXc.out hb); have xz0 := blk_cell HX2.out 0; clear hb)
        go_meet
        case rel => exact ⟨by rw [show bad = false by rw [HBD.out]; simp [badV, hd]], HX2, HB2⟩
       ·have td : decide ((64 : Int) < deep) = false := decide_eq_false hd
        go_wp2_with (go_at_call 81; refine (HFc _ (by exact HBc.out)).mono ?_; rintro e w2 ⟨rfl, hb⟩; have HB2 := Aside0.mk (below_step HBc.out hb); have HX2 := Aside0.mk (blk_below HXc.out hb); have xz0 := blk_cell HX2.out 0; clear hb)
        go_meet
        case rel => exact ⟨by rw [show bad = false by rw [HBD.out]; simp [badV, hd]], HX2, HB2⟩
     ·skip
      have ts := (FS1.out rfl).1
      have tsn := (FS1.out rfl).2
      go_wp2
      go_meet
      case rel => exact ⟨by rw [show bad = true by rw [HBD.out]; simp [badV]], HXc, HBc⟩
    ·skip
     have tq := (FQ1.out rfl).1
     have tqn := (FQ1.out rfl).2
     go_wp2
     go_meet
     case rel => exact ⟨by rw [show bad = true by rw [HBD.out]; simp [badV]], HXc, HBc⟩
   ·skip
    have tp := (FP1.out rfl).1
    have tpn := (FP1.out rfl).2
    cases q
    ·skip
     have tq := (FQ0.out rfl).1
     have tqn := (FQ0.out rfl).2
     cases s
     ·skip
      have ts := (FS0.out rfl).1
      have tsn := (FS0.out rfl).2
      cases fr
      ·skip
       go_wp2_with (go_at_call 81; refine (HFc _ (by exact HBc.out)).mono ?_; rintro e w2 ⟨rfl, hb⟩; have HB2 := Aside0.mk (below_step HBc.out hb); have HX2 := Aside0.mk (blk_below HXc.out hb); have xz0 := blk_cell HX2.out 0; clear hb)
       go_meet
       case rel => exact ⟨by rw [show bad = true by rw [HBD.out]; simp [badV]], HX2, HB2⟩
      ·skip
       by_cases hd : (64 : Int) < deep
       ·have td : decide ((64 : Int) < deep) = true := decide_eq_true hd
        go_wp2_with (go_at_call 81; refine (HFc _ (by exact HBc.out)).mono ?_; rintro e w2 ⟨rfl, hb⟩; have HB2 := Aside0.mk (below_step HBc.out hb); have HX2 := Aside0.mk (blk_below HXc.out hb); have xz0 := blk_cell HX2.out 0; clear hb)
        go_meet
        case rel => exact ⟨by rw [show bad = false by rw [HBD.out]; simp [badV, hd]], HX2, HB2⟩
       ·have td : decide ((64 : Int) < deep) = false := decide_eq_false hd
        go_wp2_with (go_at_call 81; refine (HFc _ (by exact HBc.out)).mono ?_; rintro e w2 ⟨rfl, hb⟩; have HB2 := Aside0.mk (below_step HBc.out hb); have HX2 := Aside0.mk (blk_below HXc.out hb); have xz0 := blk_cell HX2.out 0; clear hb)
        go_meet
        case rel => exact ⟨by rw [show bad = false by rw [HBD.out]; simp [badV, hd]], HX2, HB2⟩
     ·skip
      have ts := (FS1.out rfl).1
      have tsn := (FS1.out rfl).2
      go_wp2
      go_meet
      case rel => exact ⟨by rw [show bad = true by rw [HBD.out]; simp [badV]], HXc, HBc⟩
    ·skip
     have tq := (FQ1.out rfl).1
     have tqn := (FQ1.out rfl).2
     go_wp2
     go_meet
     case rel => exact ⟨by rw [show bad = true by rw [HBD.out]; simp [badV]], HXc, HBc⟩
  case k5 =>
   obtain rfl : fr = true := HF.out.2.2.2 (by decide) (by decide) (by decide)
   cases p
   ·skip
    have tp := (FP0.out rfl).1
    have tpn := (FP0.out rfl).2
    cases q
    ·skip
     have tq := (FQ0.out rfl).1
     have tqn := (FQ0.out rfl).2
     cases s
     ·skip
      have ts := (FS0.out rfl).1
      have tsn := (FS0.out rfl).2
      by_cases hd : (64 : Int) < deep
      ·have td : decide ((64 : Int) < deep) = true := decide_eq_true hd
       go_wp2
       go_meet
       case rel => exact ⟨by rw [show bad = true by rw [HBD.out]; simp [badV, hd]], HXc, HBc⟩
      ·have td : decide ((64 : Int) < deep) = false := decide_eq_false hd
       go_wp2
       go_meet
       case rel => exact ⟨by rw [show bad = false by rw [HBD.out]; simp [badV, hd]], HXc, HBc⟩
     ·skip
      have ts := (FS1.out rfl).1
      have tsn := (FS1.out rfl).2
      go_wp2
      go_meet
      case rel => exact ⟨by rw [show bad = true by rw [HBD.out]; simp [badV]], HXc, HBc⟩
    ·skip
     have tq := (FQ1.out rfl).1
     have tqn := (FQ1.out rfl).2
     cases s
     ·skip
      have ts := (FS0.out rfl).1
      have tsn := (FS0.out rfl).2
      by_cases hd : (64 : Int) < deep
      ·have td : decide ((64 : Int) < deep) = true := decide_eq_true hd
       go_wp2
       go_meet
       case rel => exact ⟨by rw [show bad = true by rw [HBD.out]; simp [badV, hd]], HXc, HBc⟩
      ·have td : decide ((64 : Int) < deep) = false := decide_eq_false hd
       go_wp2
       go_meet
       case rel => exact ⟨by rw [show bad = false by rw [HBD.out]; simp [badV, hd]], HXc, HBc⟩
     ·skip
      have ts := (FS1.out rfl).1
      have tsn := (FS1.out rfl).2
      go_wp2
      go_meet
      case rel => exact ⟨by rw [show bad = true by rw [HBD.out]; simp [badV]], HXc, HBc⟩
   ·skip
    have tp := (FP1.out rfl).1
    have tpn := (FP1.out rfl).2
    go_wp2
    go_meet
    case rel => exact ⟨by rw [show bad = true by rw [HBD.out]; simp [badV]], HXc, HBc⟩
  case k6 =>
   have HFc := HF.out.2.2.1 rfl
   cases p
   ·skip
    have tp := (FP0.out rfl).1
    have tpn := (FP0.out rfl).2
    cases q
    ·skip
     have tq := (FQ0.out rfl).1
     have tqn := (FQ0.out rfl).2
     cases s
     ·skip
      have ts := (FS0.out rfl).1
      have tsn := (FS0.out rfl).2
      cases fr
      ·skip
       go_wp2_with (go_at_call 82; refine (HFc _ (by exact HBc.out)).mono ?_; rintro e w2 ⟨rfl, hb⟩; have HB2 := Aside0.mk (below_step HBc.out hb); have HX2 := Aside0.mk (blk_below HXc.out hb); have xz0 := blk_cell HX2.out 0; clear hb)
       go_meet
       case rel => exact ⟨by rw [show bad = true by rw [HBD.out]; simp [badV]], HX2, HB2⟩
      ·skip
       by_cases hd : (64 : Int) < deep
       ·have td : decide ((64 : Int) < deep) = true := decide_eq_true hd
        go_wp2_with (go_at_call 82; refine (HFc _ (by exact HBc.out)).mono ?_; rintro e w2 ⟨rfl, hb⟩; have HB2 := Aside0.mk (below_step HBc.out hb); have HX2 := Aside0.mk (blk_below HXc.out hb); have xz0 := blk_cell HX2.out 0; clear hb)
        go_meet
        case rel => exact ⟨by rw [show bad = true by rw [HBD.out]; simp [badV, hd]], HX2, HB2⟩
       ·have td : decide ((64 : Int) < deep) = false := decide_eq_false hd
        go_wp2_with (go_at_call 82; refine (HFc _ (by exact HBc.out)).mono ?_; rintro e w2 ⟨rfl, hb⟩; have HB2 := Aside0.mk (below_step HBc.out hb); have HX2 := Aside0.mk (blk_below HXc.out hb); have xz0 := blk_cell HX2.out 0; clear hb)
        go_meet
        case rel => exact ⟨by rw [show bad = false by rw [HBD.out]; simp [badV, hd]], HX2, HB2⟩
     ·skip
      have ts := (FS1.out rfl).1
      have tsn := (FS1.out rfl).2
      cases fr
      ·skip
       go_wp2_with (go_at_call 82; refine (HFc _ (by exact HBc.out)).mono ?_; rintro e w2 ⟨rfl, hb⟩; have HB2 := Aside0.mk (below_step HBc.out hb); have HX2 := Aside0.mk (blk_below HXc.out hb); have xz0 := blk_cell HX2.out 0; clear hb)
       go_meet
       case rel => exact ⟨by rw [show bad = true by rw [HBD.out]; simp [badV]], HX2, HB2⟩
      ·skip
       by_cases hd : (64 : Int) < deep
       ·have td : decide ((64 : Int) < deep) = true := decide_eq_true hd
        go_wp2_with (go_at_call 82; refine (HFc _ (by exact HBc.out)).mono ?_; rintro e w2 ⟨rfl, hb⟩; have HB2 := Aside0.mk (below_step HBc.out hb); have HX2 := Aside0.mk (blk_below HXc.out hb); have xz0 := blk_cell HX2.out 0; clear hb)
        go_meet
        case rel => exact ⟨by rw [show bad = true by rw [HBD.out]; simp [badV, hd]], HX2, HB2⟩
       ·have td : decide ((64 : Int) < deep) = false := decide_eq_false hd
        go_wp2_with (go_at_call 82; refine (HFc _ (by exact HBc.out)).mono ?_; rintro e w2 ⟨rfl, hb⟩; have HB2 := Aside0.mk (below_step HBc.out hb); have HX2 := Aside0.mk (blk_below HXc.out hb); have xz0 := blk_cell HX2.out 0; clear hb)
        go_meet
        case rel => exact ⟨by rw [show bad = false by rw [HBD.out]; simp [badV, hd]], HX2, HB2⟩
    ·skip
     have tq := (FQ1.out rfl).1
     have tqn := (FQ1.out rfl).2
     go_wp2
     go_meet
     case rel => exact ⟨by rw [show bad = true by rw [HBD.out]; simp [badV]], HXc, HBc⟩
   ·skip
    have tp := (FP1.out rfl).1
    have tpn := (FP1.out rfl).2
    go_wp2
    go_meet
    case rel => exact ⟨by rw [show bad = true by rw [HBD.out]; simp [badV]], HXc, HBc⟩
 case rest =>
 obtain ⟨rfl, HX4, HB4⟩ := hcut
 clear HR HXc HBc HP HQ HS HF FP0 FP1 FQ0 FQ1 FS0 FS1 HKC; cases hbd : bad
 case true =>
  have HE := Aside0.mk (show res = false by rw [HRES.out, hbd]; rfl)
  subst hbd; go_wp2
  go_ret
  exact ⟨by rw [HE.out]; rfl, HB4.out⟩
 case false =>
  have HE := Aside0.mk (show res = (l.all ch && fs.all fun y => ch y.f1) by rw [HRES.out, hbd]; rfl)
  subst hbd; have x2 := blk_cell HX4.out 2
  obtain ⟨hd0, hd1⟩ := HD.out
  have HRec := Aside0.mk (HI.out rfl)
  clear HI HBD HRES; go_upto_region 7 with (fail)
  go_wp2
  clear x2; go_loopw [71] (fun t71 w' => ∃ j : Nat, j ≤ n2 ∧ t71 = .int .i64 j ∧ Aside0 (res = ((l.drop j).all ch && fs.all fun y => ch y.f1)) ∧ Aside0 (w'.heap[N]? = some (.cells #[.int .u8 k, .string t, .slice A2 n2 c2, .slice A3 n3 c3] 25 (0, 0))) ∧ Aside0 (Below w.heap.size w w')) (fun t71 _ => n2 - (intOf t71).toNat)
  case atStart => exact ⟨0, Nat.zero_le _, rfl, ⟨by simpa using HE.out⟩, HX4, HB4⟩
  case round =>
   obtain ⟨j, hj, rfl, HR1, HX5, HB5⟩ := hrel
   by_cases hlt : j < n2
   ·have tlt : decide ((j : Int) < (n2 : Int)) = true := decide_eq_true (by omega)
    have tln : decide (j < n2) = true := decide_eq_true (by omega)
    have HEL := Aside0.mk (may_el (ch := ch) HN2.out hlt HC2.out HB5.out)
    have HJ := Aside0.mk hlt; obtain ⟨ad, A6, c6, A7, c7, x, hA2, m0, m1, m2, m3, hx⟩ := HEL.out
    have HXX := Aside0.mk hx; subst hA2; clear hx HEL; obtain ⟨E, hE⟩ : ∃ E, E = wr.heap.size := ⟨_, rfl⟩
    obtain ⟨W3, hW3⟩ : ∃ W3, W3 = wr.alloc (.cells #[.int .u8 x.f0, .string x.f1, .slice A6 x.f2.length c6, .slice A7 x.f3.length c7] 25 (0, 0)) := ⟨_, rfl⟩
    have HE3 := Aside0.mk (show W3.heap[E]? = some (.cells #[.int .u8 x.f0, .string x.f1, .slice A6 x.f2.length c6, .slice A7 x.f3.length c7] 25 (0, 0)) by rw [hW3, hE]; exact blk_new wr _)
    have HX6 := Aside0.mk (show W3.heap[N]? = some (.cells #[.int .u8 k, .string t, .slice (some ad) n2 c2, .slice A3 n3 c3] 25 (0, 0)) by rw [hW3]; exact blk_alloc HX5.out _)
    have HB6 := Aside0.mk (show Below w.heap.size w W3 by rw [hW3]; exact below_alloc HB5.out _)
    have HG6 := Aside0.mk (show k25.C W3 A6 x.f2.length x.f2 ∧ k45.C W3 A7 x.f3.length x.f3 by rw [hW3]; exact ⟨Kd.C_alloc HXX.out.2.1 _, Kd.C_alloc HXX.out.2.2.1 _⟩)
    go_upto_region 9 with (fail)
    rw [← hW3, ← hE]
    clear m0 m1 m2 m3 hW3 hE tlt tln hlt; have y0 := blk_cell HE3.out 0
    have y1 := blk_cell HE3.out 1
    have y2 := blk_cell HE3.out 2
    have y3 := blk_cell HE3.out 3
    have HCL := Aside0.mk (HRec.out x (.inl HXX.out.1) W3 A6 A7 c6 c7 HB6.out HG6.out.1 HG6.out.2)
    have HR2 := Aside0.mk (HR1.out.trans (congrArg (fun z => z && fs.all fun y => ch y.f1) HXX.out.2.2.2))
    obtain ⟨cx, hcx⟩ : ∃ cx, cx = ch x := ⟨_, rfl⟩
    rw [← hcx] at HCL HR2
    clear hcx; cases cx
    ·go_wp2_with (go_at_call 32; refine HCL.out.mono ?_; rintro e w7 ⟨rfl, hb⟩; have HB7 := Aside0.mk (below_step HB6.out hb); clear hb)
     go_ret
     exact ⟨by rw [HR2.out]; rfl, HB7.out⟩
    ·go_wp2_with (go_at_call 32; refine HCL.out.mono ?_; rintro e w7 ⟨rfl, hb⟩; have HB7 := Aside0.mk (below_step HB6.out hb); have HX7 := Aside0.mk (blk_below HX6.out hb); clear hb)
     go_roundw
     case rel => exact ⟨j + 1, HJ.out, by go_num, ⟨by rw [HR2.out, Bool.true_and]⟩, HX7, HB7⟩
     case measure => have := HJ.out; simp [intOf]; omega
   ·have tlt : decide ((j : Int) < (n2 : Int)) = false := decide_eq_false (by omega)
    have tln : decide (j < n2) = false := decide_eq_false (by omega)
    have HE2 := Aside0.mk (show res = fs.all fun y => ch y.f1 by
     have h := HR1.out
     rw [List.drop_eq_nil_of_le (by have := HN2.out; omega)] at h
     simpa using h)
    clear HR1 hlt; have x3 := blk_cell HX5.out 3
    go_upto_region 13 with (fail)
    go_wp2
    clear x3 tlt tln; go_loopw [84] (fun t84 w' => ∃ j : Nat, j ≤ n3 ∧ t84 = .int .i64 j ∧ Aside0 (res = ((fs.drop j).all fun y => ch y.f1)) ∧ Aside0 (Below w.heap.size w w')) (fun t84 _ => n3 - (intOf t84).toNat)
    case atStart => exact ⟨0, Nat.zero_le _, rfl, ⟨by simpa using HE2.out⟩, HB5⟩
    case round =>
     obtain ⟨i, hi, rfl, HR1, HB8⟩ := hrel
     by_cases hlt : i < n3
     ·have tlt : decide ((i : Int) < (n3 : Int)) = true := decide_eq_true (by omega)
      have tln : decide (i < n3) = true := decide_eq_true (by omega)
      have HEL := Aside0.mk (may_elf (ch := ch) HN3.out hlt HC3.out HB8.out)
      have HJ := Aside0.mk hlt; obtain ⟨ad, A6, c6, A7, c7, x, hA2, m0, m1, m2, m3, m4, hx⟩ := HEL.out
      have HXX := Aside0.mk hx; subst hA2; clear hx HEL; obtain ⟨E, hE⟩ : ∃ E, E = wr.heap.size := ⟨_, rfl⟩
      obtain ⟨W3, hW3⟩ : ∃ W3, W3 = wr.alloc (.cells #[.string x.f0, .int .u8 x.f1.f0, .string x.f1.f1, .slice A6 x.f1.f2.length c6, .slice A7 x.f1.f3.length c7] 45 (0, 0)) := ⟨_, rfl⟩
      have HE3 := Aside0.mk (show W3.heap[E]? = some (.cells #[.string x.f0, .int .u8 x.f1.f0, .string x.f1.f1, .slice A6 x.f1.f2.length c6, .slice A7 x.f1.f3.length c7] 45 (0, 0)) by rw [hW3, hE]; exact blk_new wr _)
      have HB6 := Aside0.mk (show Below w.heap.size w W3 by rw [hW3]; exact below_alloc HB8.out _)
      have HG6 := Aside0.mk (show k25.C W3 A6 x.f1.f2.length x.f1.f2 ∧ k45.C W3 A7 x.f1.f3.length x.f1.f3 by rw [hW3]; exact ⟨Kd.C_alloc HXX.out.2.1 _, Kd.C_alloc HXX.out.2.2.1 _⟩)
      go_upto_region 15 with (fail)
      rw [← hW3, ← hE]
      clear m0 m1 m2 m3 m4 hW3 hE tlt tln hlt; have y1 := blk_cell HE3.out 1
      have y2 := blk_cell HE3.out 2
      have y3 := blk_cell HE3.out 3
      have y4 := blk_cell HE3.out 4
      have HCL := Aside0.mk (HRec.out x.f1 (.inr ⟨x, HXX.out.1, rfl⟩) W3 A6 A7 c6 c7 HB6.out HG6.out.1 HG6.out.2)
      have HR2 := Aside0.mk (HR1.out.trans HXX.out.2.2.2)
      obtain ⟨cx, hcx⟩ : ∃ cx, cx = ch x.f1 := ⟨_, rfl⟩
      rw [← hcx] at HCL HR2
      clear hcx; cases cx
      ·go_wp2_with (go_at_call 32; refine HCL.out.mono ?_; rintro e w7 ⟨rfl, hb⟩; have HB7 := Aside0.mk (below_step HB6.out hb); clear hb)
       go_ret
       exact ⟨by rw [HR2.out]; rfl, HB7.out⟩
      ·go_wp2_with (go_at_call 32; refine HCL.out.mono ?_; rintro e w7 ⟨rfl, hb⟩; have HB7 := Aside0.mk (below_step HB6.out hb); clear hb)
       go_roundw
       case rel => exact ⟨i + 1, HJ.out, by go_num, ⟨by rw [HR2.out, Bool.true_and]⟩, HB7⟩
       case measure => have := HJ.out; simp [intOf]; omega
     ·have tlt : decide ((i : Int) < (n3 : Int)) = false := decide_eq_false (by omega)
      have tln : decide (i < n3) = false := decide_eq_false (by omega)
      have HE3 := Aside0.mk (show res = true by
       have h := HR1.out
       rw [List.drop_eq_nil_of_le (by have := HN3.out; omega)] at h
       exact h)
      clear HR1 hlt; go_wp2
      go_ret
      exact ⟨by rw [HE3.out]; rfl, HB8.out⟩
/-- Texts are of at most so many bytes, rows are in bounds, and kinds are not below 0. -/
inductive Sz (M : Nat) : JV → Prop
 | mk (v : JV) (h0 : 0 ≤ v.f0) (h1 : v.f1.size ≤ M) (h2 : v.f2.length ≤ 140737488351232) (h3 : v.f3.length ≤ 140737488351232) (hl : ∀ x ∈ v.f2, Sz M x) (hn : ∀ y ∈ v.f3, y.f0.size ≤ M) (hf : ∀ y ∈ v.f3, Sz M y.f1) : Sz M v
theorem Sz.le {M N : Nat} (h : M ≤ N) {v : JV} (hv : Sz M v) : Sz N v := by
 induction hv with
 | mk v h0 h1 h2 h3 _ hn _ ih1 ih2 => exact .mk v h0 (Nat.le_trans h1 h) h2 h3 ih1 (fun y hy => Nat.le_trans (hn y hy) h) ih2
theorem may_kind {k : Int} (h0 : 0 ≤ k) (h6 : k ≤ 6) : ∃ a b c f, KC k a b c f := by
 obtain rfl | rfl | rfl | rfl | rfl | rfl | rfl : k = 0 ∨ k = 1 ∨ k = 2 ∨ k = 3 ∨ k = 4 ∨ k = 5 ∨ k = 6 := by omega
 ·exact ⟨_, _, _, _, .k0⟩
 ·exact ⟨_, _, _, _, .k1⟩
 ·exact ⟨_, _, _, _, .k2⟩
 ·exact ⟨_, _, _, _, .k3⟩
 ·exact ⟨_, _, _, _, .k4⟩
 ·exact ⟨_, _, _, _, .k5⟩
 ·exact ⟨_, _, _, _, .k6⟩
set_option maxRecDepth 100000 in
set_option maxHeartbeats 2000000 in
theorem may_high (k : Int) (hk : 6 < k) (x : Int) (t : ByteArray) (v2 v3 : Value) (w : World) : Calls Tryz.prog 32 #[.agg #[.int .u8 k, .string t, v2, v3], .int .i64 x] w fun e w' => e = .returned (.bool false) ∧ Below w.heap.size w w' := by
 have t6 : decide ((6 : Int) < k) = true := decide_eq_true hk
 go_enter Tryz.func32, Tryz.ntmps32
 go_wp2
 go_ret
 exact ⟨rfl, below_alloc (Below.refl _ _) _⟩
theorem fineV_bad {v : JV} {a b c : Bool} {f : Value} (hK : KC v.f0 a b c f) : fineV v = !badV v.f0 a b c (!decide (v.f1.size = 0)) (!v.f2.isEmpty) (!v.f3.isEmpty) (if v.f0 = 3 then numOk v.f1 else if v.f0 = 4 then Lib.validD v.f1.data.toList else if v.f0 = 6 then namedF v.f3 [] else true) 0 := by
 obtain ⟨k, t, l, fs⟩ := v
 simp only at hK ⊢
 generalize hz : decide (t.size = 0) = z
 generalize hl : l.isEmpty = y
 generalize hfs : fs.isEmpty = x
 have e : fineV ⟨k, t, l, fs⟩ = (decide (k ≤ 6) && (z || decide (k = 3) || decide (k = 4)) && (y || decide (k = 5)) && (x || decide (k = 6)) && (!decide (k = 3) || numOk t) && (!decide (k = 4) || Lib.validD t.data.toList) && (!decide (k = 6) || namedF fs [])) := by
  rw [← hz, ← hl, ← hfs]; rfl
 rw [e]
 cases hK <;> cases z <;> cases y <;> cases x <;> simp [badV]
theorem toList_size (t : ByteArray) : t.toList = [] ↔ t.size = 0 := by
 rw [ByteArray.toList_eq]
 have hl : t.data.toList.length = t.size := Array.length_toList
 constructor
 ·intro h; rw [h] at hl; exact hl.symm
 ·intro h; exact List.eq_nil_of_length_eq_zero (by omega)
theorem jsontext_may.calls : ∀ (d : Nat), d ≤ 64 → ∀ (v : JV) (A2 A3 : Option Addr) (c2 c3 : Nat) (w : World), GlobOk w → Sz 140737488351232 v → k25.C w A2 v.f2.length v.f2 → k45.C w A3 v.f3.length v.f3 →
  Calls Tryz.prog 32 #[.agg #[.int .u8 v.f0, .string v.f1, .slice A2 v.f2.length c2, .slice A3 v.f3.length c3], .int .i64 (65 - (d : Int))] w fun e w' => e = .returned (.bool (mayD d v)) ∧ Below w.heap.size w w' := by
 intro d
 induction d with
 | zero =>
  intro hd v A2 A3 c2 c3 w hG hS h2 h3
  obtain ⟨_, z0, z1, z2, z3, zl, zn, zf⟩ := hS
  by_cases h6 : 6 < v.f0
  ·refine (may_high v.f0 h6 _ _ _ _ w).mono ?_
   rintro e w' ⟨rfl, hb⟩
   refine ⟨?_, hb⟩
   have : mayD 0 v = false := by
    simp only [mayD]
    rw [show decide (v.f0 < 5) = false from decide_eq_false (by omega), Bool.and_false]
   rw [this]
  obtain ⟨a, b, c, f, hK⟩ := may_kind z0 (by omega)
  obtain ⟨fr, hfr⟩ : ∃ fr, fr = (if v.f0 = 3 then numOk v.f1 else if v.f0 = 4 then Lib.validD v.f1.data.toList else if v.f0 = 6 then namedF v.f3 [] else true) := ⟨_, rfl⟩
  have hfine := fineV_bad hK
  rw [← hfr] at hfine
  have hb : badV v.f0 a b c (!decide (v.f1.size = 0)) (!v.f2.isEmpty) (!v.f3.isEmpty) fr 65 = !mayD 0 v := by
   simp only [mayD, hfine]
   unfold badV
   by_cases h5 : v.f0 < 5
   ·rw [decide_eq_false (show ¬ (5 : Int) ≤ v.f0 by omega), decide_eq_true h5]
    simp
   ·rw [decide_eq_true (show (5 : Int) ≤ v.f0 by omega), decide_eq_false h5]
    simp
  refine (may_go v.f0 a b c (!decide (v.f1.size = 0)) (!v.f2.isEmpty) (!v.f3.isEmpty) fr f v.f1 65 A2 A3 c2 c3 v.f2 v.f3 (fun _ => false) w hK (by omega) h2 h3 z2 z3 (by rw [toList_size, Bool.not_eq_false', decide_eq_true_eq]) (by rw [Bool.not_eq_false', List.isEmpty_iff, List.length_eq_zero_iff]) (by rw [Bool.not_eq_false', List.isEmpty_iff, List.length_eq_zero_iff]) ?_ ?_).mono ?_
  ·refine ⟨fun e W hW => ?_, fun e W hW => ?_, fun e W hW => ?_, fun e1 e2 e3 => ?_⟩
   ·rw [hfr, if_pos e]
    exact jsontext_number.calls _ _ _ _ _ _ _ _ W (hG.below hW)
   ·rw [hfr, if_neg (by omega), if_pos e]
    exact jsontext_rules_1.calls _ _ _ _ _ _ _ _ W (hG.below hW) z1
   ·rw [hfr, if_neg (by omega), if_neg (by omega), if_pos e]
    exact jsontext_named.calls _ _ _ _ _ _ _ _ W (hG.below hW) (Kd.C_below h3 hW) zn z3
   ·rw [hfr, if_neg e1, if_neg e2, if_neg e3]
  ·intro hbf x hx
   rw [hb] at hbf
   have hm : mayD 0 v = true := by simpa using hbf
   exfalso
   have hf := mayD_fine hm
   obtain ⟨_, _, e2, e3, _⟩ := fineV_parts hf
   simp only [mayD, Bool.and_eq_true, decide_eq_true_eq] at hm
   rcases hx with hx | ⟨y, hy, _⟩
   ·rcases e2 with e2 | e2
    ·rw [e2] at hx; cases hx
    ·omega
   ·rcases e3 with e3 | e3
    ·rw [e3] at hy; cases hy
    ·omega
  ·rintro e w' ⟨rfl, hbw⟩
   refine ⟨?_, hbw⟩
   rw [hb]
   cases hm : mayD 0 v
   ·rfl
   ·have hf := mayD_fine hm
    obtain ⟨_, _, e2, e3, _⟩ := fineV_parts hf
    simp only [mayD, Bool.and_eq_true, decide_eq_true_eq] at hm
    rw [e2.resolve_right (by omega), e3.resolve_right (by omega)]
    rfl
 | succ d ih =>
  intro hd v A2 A3 c2 c3 w hG hS h2 h3
  obtain ⟨_, z0, z1, z2, z3, zl, zn, zf⟩ := hS
  by_cases h6 : 6 < v.f0
  ·refine (may_high v.f0 h6 _ _ _ _ w).mono ?_
   rintro e w' ⟨rfl, hb⟩
   refine ⟨?_, hb⟩
   have : mayD (d + 1) v = false := by
    simp only [mayD, fineV]
    rw [show decide (v.f0 ≤ 6) = false from decide_eq_false (by omega)]
    simp
   rw [this]
  obtain ⟨a, b, c, f, hK⟩ := may_kind z0 (by omega)
  obtain ⟨fr, hfr⟩ : ∃ fr, fr = (if v.f0 = 3 then numOk v.f1 else if v.f0 = 4 then Lib.validD v.f1.data.toList else if v.f0 = 6 then namedF v.f3 [] else true) := ⟨_, rfl⟩
  have hfine := fineV_bad hK
  rw [← hfr] at hfine
  obtain ⟨deep, hdeep⟩ : ∃ deep : Int, deep = 65 - ((d + 1 : Nat) : Int) := ⟨_, rfl⟩
  have hb : badV v.f0 a b c (!decide (v.f1.size = 0)) (!v.f2.isEmpty) (!v.f3.isEmpty) fr deep = !fineV v := by
   rw [hfine]
   unfold badV
   rw [decide_eq_false (show ¬ (64 : Int) < deep by omega)]
   simp
  rw [← hdeep]
  refine (may_go v.f0 a b c (!decide (v.f1.size = 0)) (!v.f2.isEmpty) (!v.f3.isEmpty) fr f v.f1 deep A2 A3 c2 c3 v.f2 v.f3 (mayD d) w hK (by omega) h2 h3 z2 z3 (by rw [toList_size, Bool.not_eq_false', decide_eq_true_eq]) (by rw [Bool.not_eq_false', List.isEmpty_iff, List.length_eq_zero_iff]) (by rw [Bool.not_eq_false', List.isEmpty_iff, List.length_eq_zero_iff]) ?_ ?_).mono ?_
  ·refine ⟨fun e W hW => ?_, fun e W hW => ?_, fun e W hW => ?_, fun e1 e2 e3 => ?_⟩
   ·rw [hfr, if_pos e]
    exact jsontext_number.calls _ _ _ _ _ _ _ _ W (hG.below hW)
   ·rw [hfr, if_neg (by omega), if_pos e]
    exact jsontext_rules_1.calls _ _ _ _ _ _ _ _ W (hG.below hW) z1
   ·rw [hfr, if_neg (by omega), if_neg (by omega), if_pos e]
    exact jsontext_named.calls _ _ _ _ _ _ _ _ W (hG.below hW) (Kd.C_below h3 hW) zn z3
   ·rw [hfr, if_neg e1, if_neg e2, if_neg e3]
  ·intro _ x hx W B2 B3 d2 d3 hW g2 g3
   have hx' : Sz 140737488351232 x := by
    rcases hx with hx | ⟨y, hy, rfl⟩
    ·exact zl x hx
    ·exact zf y hy
   rw [show deep + 1 = 65 - (d : Int) by omega]
   exact ih (by omega) x B2 B3 d2 d3 W (hG.below hW) hx' g2 g3
  ·rintro e w' ⟨rfl, hbw⟩
   refine ⟨?_, hbw⟩
   rw [hb]
   simp only [mayD, Bool.not_not, Bool.and_assoc]
end Go.Proofs.YtebmgmagdhedgaaGreatDoor.Q

end
section
namespace Go.Proofs.YtebmgmagdhedgaaGreatDoor.Q
open Go.RowKit Go.Proofs.YtebmgmagdhedgaaGreatDoorW.PrintWords Go.Proofs.YtebmgmagdhedgaaGreatDoorW.PrintLast Go.Proofs.YtebmgmagdhedgaaGreatDoorW.PrintMore
attribute [local go_sem] max2_int min2_int max_two min_two max_three min_three max_four min_four   
set_option linter.unusedVariables false
set_option linter.unusedSimpArgs false
set_option maxRecDepth 100000 in
set_option maxHeartbeats 2000000 in
theorem jsontext_May.calls (v : JV) (A2 A3 : Option Addr) (c2 c3 : Nat) (w : World) (hG : GlobOk w) (hS : Sz 140737488351232 v) (h2 : k25.C w A2 v.f2.length v.f2) (h3 : k45.C w A3 v.f3.length v.f3) :
  Calls Tryz.prog 12 #[.agg #[.int .u8 v.f0, .string v.f1, .slice A2 v.f2.length c2, .slice A3 v.f3.length c3]] w fun e w' => e = .returned (.bool (mayD 64 v)) ∧ Below w.heap.size w w' := by
 obtain ⟨W1, hW1⟩ : ∃ W1, W1 = w.alloc (.cells #[.int .u8 v.f0, .string v.f1, .slice A2 v.f2.length c2, .slice A3 v.f3.length c3] 25 (0, 0)) := ⟨_, rfl⟩
 obtain ⟨N, hN⟩ : ∃ N, N = w.heap.size := ⟨_, rfl⟩
 have HX := Aside0.mk (show W1.heap[N]? = some (.cells #[.int .u8 v.f0, .string v.f1, .slice A2 v.f2.length c2, .slice A3 v.f3.length c3] 25 (0, 0)) by rw [hW1, hN]; exact blk_new w _)
 have HB1 := Aside0.mk (show Below w.heap.size w W1 by rw [hW1]; exact below_alloc (Below.refl _ _) _)
 have HCL := Aside0.mk (jsontext_may.calls 64 (by omega) v A2 A3 c2 c3 W1 (hG.below HB1.out) hS (Kd.C_below h2 HB1.out) (Kd.C_below h3 HB1.out))
 rw [show (65 : Int) - ((64 : Nat) : Int) = 1 from rfl] at HCL
 have x0 := blk_cell HX.out 0
 have x1 := blk_cell HX.out 1
 have x2 := blk_cell HX.out 2
 have x3 := blk_cell HX.out 3
 clear hG hS h2 h3; go_enter Tryz.func12, Tryz.ntmps12
 go_upto_region 1 with (fail)
 rw [← hW1, ← hN]
 clear hW1 hN; go_wp2_with (go_at_call 32; refine HCL.out.mono ?_; rintro e w2 ⟨rfl, hb2⟩; have HB2 := Aside0.mk (below_step HB1.out hb2); clear hb2)
 go_ret
 exact ⟨rfl, HB2.out⟩
end Go.Proofs.YtebmgmagdhedgaaGreatDoor.Q

end
