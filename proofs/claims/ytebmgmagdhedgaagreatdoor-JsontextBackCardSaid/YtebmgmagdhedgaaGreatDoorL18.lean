/- Words and walks of this claim, put together by this repo's wip/xlink.py out of Q17. -/
import Derived.Test.YtebmgmagdhedgaaGreatDoorL13
import Derived.Test.YtebmgmagdhedgaaGreatDoorL8
import Derived.Test.YtebmgmagdhedgaaGreatDoorL9
import Derived.Test.YtebmgmagdhedgaaGreatDoorL10
import Derived.Test.YtebmgmagdhedgaaGreatDoorL11
import Derived.Test.YtebmgmagdhedgaaGreatDoorL12
import Derived.Test.YtebmgmagdhedgaaGreatDoorL14
import Derived.Test.YtebmgmagdhedgaaGreatDoorL15
import Derived.Test.YtebmgmagdhedgaaGreatDoorL16
import Derived.Test.YtebmgmagdhedgaaGreatDoorL17
namespace Go.Proofs.YtebmgmagdhedgaaGreatDoor.Q
open Go.RowKit Go.Proofs.YtebmgmagdhedgaaGreatDoorW.PrintWords Go.Proofs.YtebmgmagdhedgaaGreatDoorW.PrintLast Go.Proofs.YtebmgmagdhedgaaGreatDoorW.PrintMore
attribute [local go_sem] max2_int min2_int max_two min_two max_three min_three max_four min_four   
set_option linter.unusedVariables false
set_option linter.unusedSimpArgs false
theorem dd_eq (u : Nat) : Lib.decDigits u = if h : u < 10 then [UInt8.ofNat (48 + u)] else Lib.decDigits (u / 10) ++ [UInt8.ofNat (48 + u % 10)] := by rw [Lib.decDigits]
theorem u8_dig (d : Nat) (h : d < 10) : (UInt8.ofNat (48 + d)).toNat = 48 + d := by simp; omega
theorem dd_dig : ∀ (u : Nat), ∀ x ∈ Lib.decDigits u, 48 ≤ x.toNat ∧ x.toNat ≤ 57 := by
 intro u
 induction u using Nat.strongRecOn with
 | ind u ih =>
  intro x hx
  rw [dd_eq] at hx
  split at hx
  ·rename_i h
   rw [List.mem_singleton.1 hx, u8_dig u h]
   omega
  ·rename_i h
   rcases List.mem_append.1 hx with hx | hx
   ·exact ih (u / 10) (by omega) x hx
   ·rw [List.mem_singleton.1 hx, u8_dig (u % 10) (by omega)]
    omega
theorem dd_first : ∀ (u : Nat), ∃ c r, Lib.decDigits u = c :: r ∧ (u = 0 → r = [] ∧ c.toNat = 48) ∧ (0 < u → c.toNat ≠ 48) := by
 intro u
 induction u using Nat.strongRecOn with
 | ind u ih =>
  rw [dd_eq]
  split
  ·rename_i h
   exact ⟨_, [], rfl, fun e => ⟨rfl, by rw [u8_dig u h, e]⟩, fun e => by rw [u8_dig u h]; omega⟩
  ·rename_i h
   obtain ⟨c, r, e, _, h2⟩ := ih (u / 10) (by omega)
   exact ⟨c, r ++ [UInt8.ofNat (48 + u % 10)], by rw [e]; rfl, fun e => by omega, fun _ => h2 (by omega)⟩
theorem pu_app : ∀ (l m : List UInt8) (a : Nat), Lib.parseUint10 a (l ++ m) = match Lib.parseUint10 a l with | .ok b => Lib.parseUint10 b m | .range => .range | x => x := by
 intro l
 induction l with
 | nil => intro m a; rfl
 | cons c r ih =>
  intro m a
  simp only [List.cons_append, Lib.parseUint10]
  split
  ·split
   ·rfl
   split
   ·rfl
   ·exact ih m _
  ·rfl
theorem pu_one {a d : Nat} (hd : d < 10) (h : a * 10 + d < 18446744073709551616) : Lib.parseUint10 a [UInt8.ofNat (48 + d)] = .ok (a * 10 + d) := by
 simp only [Lib.parseUint10, u8_dig d hd]
 rw [if_pos (by omega), if_neg (by omega), if_neg (by omega), Nat.add_sub_cancel_left]
theorem pu_dd : ∀ (u : Nat), u < 18446744073709551616 → Lib.parseUint10 0 (Lib.decDigits u) = .ok u := by
 intro u
 induction u using Nat.strongRecOn with
 | ind u ih =>
  intro hu
  rw [dd_eq]
  split
  ·rename_i h
   rw [pu_one h (by omega), Nat.zero_mul, Nat.zero_add]
  ·rename_i h
   rw [pu_app, ih (u / 10) (by omega) (by omega)]
   show Lib.parseUint10 (u / 10) [UInt8.ofNat (48 + u % 10)] = _
   rw [pu_one (by omega) (by omega)]
   congr 1
   omega
theorem atoi_itoa (n : Int) (h0 : -9223372036854775808 ≤ n) (h1 : n ≤ 9223372036854775807) : Lib.atoiAll (Lib.itoa n) = .ok n := by
 rcases Int.lt_or_le n 0 with hn | hn
 ·obtain ⟨u, hu⟩ : ∃ u : Nat, n = -(u : Int) := ⟨n.natAbs, by omega⟩
  rw [hu, Lib.itoa_neg u (by omega)]
  have hne : Lib.decDigits u ≠ [] := by obtain ⟨c, r, e, _⟩ := dd_first u; rw [e]; simp
  have hp : Lib.parseMag (Lib.decDigits u) = .ok u := by unfold Lib.parseMag; rw [if_neg hne, pu_dd u (by omega)]
  unfold Lib.atoiAll
  simp only [show (45 : UInt8).toNat = 45 from rfl, or_true, if_true, hp]
  rw [if_neg (by simp), if_neg (by omega)]
 ·obtain ⟨u, hu⟩ : ∃ u : Nat, n = (u : Int) := ⟨n.toNat, by omega⟩
  rw [hu, Lib.itoa_nonneg u]
  obtain ⟨c, r, e, _, _⟩ := dd_first u
  have hc := dd_dig u c (by rw [e]; simp)
  have hp : Lib.parseMag (Lib.decDigits u) = .ok u := by unfold Lib.parseMag; rw [if_neg (by rw [e]; simp), pu_dd u (by omega)]
  rw [e] at hp ⊢
  unfold Lib.atoiAll
  simp only [show ¬ c.toNat = 43 by omega, show ¬ c.toNat = 45 by omega, or_self, if_false]
  rw [hp]
  show (if ¬ False ∧ _ then _ else if False ∧ _ then _ else _) = _
  rw [if_neg (by intro h; have := h.2; omega), if_neg (by intro h; exact h.1)]
theorem itoa_set (n : Int) : ∀ x ∈ Lib.itoa n, x.toNat = 45 ∨ (48 ≤ x.toNat ∧ x.toNat ≤ 57) := by
 intro x hx
 unfold Lib.itoa at hx
 split at hx
 ·rcases List.mem_cons.1 hx with rfl | hx
  ·exact .inl rfl
  ·exact .inr (dd_dig _ x hx)
 ·exact .inr (dd_dig _ x hx)
theorem trim_all {l : List UInt8} (h : ∀ x ∈ l, x.toNat = 45 ∨ (48 ≤ x.toNat ∧ x.toNat ≤ 57)) : Lib.trimS l digSet = [] := by
 have hc : ∀ x ∈ l, digSet.contains x = true := by
  intro x hx
  have key : ∀ n : Nat, n < 256 → (n = 45 ∨ (48 ≤ n ∧ n ≤ 57)) → digSet.contains (UInt8.ofNat n) = true := by decide +kernel
  have := key x.toNat x.toNat_lt (h x hx)
  rwa [UInt8.ofNat_toNat] at this
 have hd : ∀ m : List UInt8, (∀ x ∈ m, digSet.contains x = true) → m.dropWhile (digSet.contains ·) = [] := by
  intro m
  induction m with
  | nil => intro _; rfl
  | cons a r ih => intro hm; rw [List.dropWhile_cons, if_pos (hm a (by simp)), ih (fun x hx => hm x (by simp [hx]))]
 unfold Lib.trimS Lib.trimRightS Lib.trimLeftS
 rw [hd l.reverse (fun x hx => hc x (by simpa using hx))]
 rfl
/-- A text that is a number's, whole. -/
theorem numOk_of {t : ByteArray} (hs : t.size ≤ 262144) (h : number t 0 = .ok () t.size) : numOk t = true := by
 have hlt := number_lt h
 have hld := dig_lead (num_lead h)
 have hfirst : hnd t 0 ≠ 110 ∧ hnd t 0 ≠ 116 ∧ hnd t 0 ≠ 102 ∧ hnd t 0 ≠ 34 ∧ hnd t 0 ≠ 91 ∧ hnd t 0 ≠ 123 := by
  rcases num_lead h with c | c
  ·omega
  ·unfold isDig at c
   simp only [Bool.and_eq_true, decide_eq_true_eq] at c
   omega
 obtain ⟨n1, n2, n3, n4, n5, n6⟩ := hfirst
 have hfl : ∀ br, flat t br 0 = .ok ⟨3, t, [], []⟩ t.size := by
  intro br
  unfold flat
  rw [if_neg n1, if_neg n2, if_neg n3, if_neg n4, if_neg (by omega), h]
  show Res.ok _ _ = _
  have e : t.extract 0 t.size = t := by simp
  rw [e]
 have hk : skip isBl t 0 = 0 := skip_at hld.1
 have hk2 : skip isBl t t.size = t.size := skip_at (by rw [hnd_ge (by omega)]; rfl)
 have hp : parse t = .ok ⟨3, t, [], []⟩ 0 := by
  unfold parse
  rw [hk, show pval t 64 = flat t _ from rfl, hfl]
  show (if _ then _ else _) = _
  rw [hk2, if_neg (by omega)]
 have hpd : parsed t = (⟨3, t, [], []⟩, 0, 0) := by unfold parsed; rw [if_neg (by omega), hp]
 unfold numOk
 rw [hpd]
 simp
theorem hnd_list (l : List UInt8) (i : Nat) (h : i < l.length) : hnd ⟨l.toArray⟩ i = l[i].toNat := by
 have hz : (⟨l.toArray⟩ : ByteArray).size = l.length := rfl
 unfold hnd
 rw [dif_pos (by rw [hz]; exact h)]
 rfl
theorem digs_read (l : List UInt8) (i u : Nat) (hl : l.drop i = Lib.decDigits u) (hi : i ≤ l.length) : nI ⟨l.toArray⟩ i = .ok () l.length := by
 have hz : (⟨l.toArray⟩ : ByteArray).size = l.length := rfl
 obtain ⟨c, r, e, e0, e1⟩ := dd_first u
 have hlt : i < l.length := by
  rcases Nat.lt_or_ge i l.length with h | h
  ·exact h
  ·rw [List.drop_eq_nil_of_le h, e] at hl; cases hl
 have hci : l[i] = c := by
  have := List.drop_eq_getElem_cons hlt
  rw [hl, e] at this
  injection this with this _
  exact this.symm
 have hend : hnd ⟨l.toArray⟩ l.length = 0 := hnd_ge (by rw [hz]; exact Nat.le_refl _)
 have hlast : ∀ j, j = l.length → nD ⟨l.toArray⟩ j = .ok () l.length := by
  intro j hj
  subst hj; unfold nD
  rw [hend, if_neg (by omega)]
  show nE _ _ = _
  unfold nE
  rw [hend, if_neg (by omega)]
 have hic : hnd ⟨l.toArray⟩ i = c.toNat := by rw [hnd_list l i hlt, hci]
 have hdig : ∀ q, i ≤ q → q < l.length → isDig (hnd ⟨l.toArray⟩ q) = true := by
  intro q h1 h2
  rw [hnd_list l q h2]
  have hm : l[q] ∈ Lib.decDigits u := by
   rw [← hl]
   have : (l.drop i)[q - i]'(by rw [List.length_drop]; omega) = l[q] := by rw [List.getElem_drop]; congr 1; omega
   rw [← this]
   exact List.getElem_mem _
  have := dd_dig u _ hm
  unfold isDig
  simp only [Bool.and_eq_true, decide_eq_true_eq]
  exact this
 unfold nI
 by_cases h0 : u = 0
 ·obtain ⟨hr, hc⟩ := e0 h0
  rw [hic, if_pos hc]
  show nD _ (i + 1) = _
  refine hlast _ ?_
  have := congrArg List.length hl
  rw [e, hr, List.length_drop] at this
  simp at this
  omega
 ·rw [hic, if_neg (e1 (by omega))]
  unfold digits
  rw [hdig i (Nat.le_refl _) hlt, if_pos rfl, skip_to dig0 _ i l.length rfl (by omega) hdig (by rw [hend]; rfl)]
  exact hlast _ rfl
theorem itoa_num (n : Int) (h0 : -9223372036854775808 ≤ n) (h1 : n ≤ 9223372036854775807) : numOk ⟨(Lib.itoa n).toArray⟩ = true := by
 have hz : (⟨(Lib.itoa n).toArray⟩ : ByteArray).size = (Lib.itoa n).length := rfl
 have hlen := Lib.itoa_length_le n h0 h1
 refine numOk_of (by omega) ?_
 rw [hz]
 unfold number
 rcases Int.lt_or_le n 0 with hn | hn
 ·obtain ⟨u, hu⟩ : ∃ u : Nat, n = -(u : Int) := ⟨n.natAbs, by omega⟩
  have e : Lib.itoa n = 45 :: Lib.decDigits u := by rw [hu, Lib.itoa_neg u (by omega)]
  rw [e, if_pos (by rw [hnd_list _ 0 (by simp)]; rfl)]
  exact digs_read _ 1 u rfl (by simp)
 ·obtain ⟨u, hu⟩ : ∃ u : Nat, n = (u : Int) := ⟨n.toNat, by omega⟩
  have e : Lib.itoa n = Lib.decDigits u := by rw [hu, Lib.itoa_nonneg u]
  obtain ⟨c, r, ec, _⟩ := dd_first u
  have hc := dd_dig u c (by rw [ec]; simp)
  rw [e, if_neg (by rw [ec, hnd_list _ 0 (by simp)]; show ¬ c.toNat = 45; omega)]
  exact digs_read _ 0 u rfl (by omega)
theorem int_number (n : Int) (h0 : -9223372036854775808 ≤ n) (h1 : n ≤ 9223372036854775807) : intV ⟨3, ⟨(Lib.itoa n).toArray⟩, [], []⟩ = (n, true) := by
 unfold intV
 rw [if_pos rfl]
 have e : (⟨(Lib.itoa n).toArray⟩ : ByteArray).data.toList = Lib.itoa n := rfl
 rw [e, if_pos (trim_all (itoa_set n)), if_pos (itoa_num n h0 h1), atoi_itoa n h0 h1]
/-- What is fixed is valid. -/
theorem fixL_valid (s : ByteArray) : ∀ (b p : Nat), Lib.validD (fixL s b p) = true := by
 intro b
 induction b with
 | zero => intro p; rfl
 | succ b ih =>
  intro p
  rw [fixL]
  split
  ·rw [validD_enc]; exact ih _
  ·rfl
theorem fixed_list (s : ByteArray) : (Go.Proofs.YtebmgmagdhedgaaGreatDoor.XUtfX.fixed s).data.toList = fixL s s.size 0 := rfl
theorem fixed_ok (s : ByteArray) : Lib.validD (Go.Proofs.YtebmgmagdhedgaaGreatDoor.XUtfX.fixed s).data.toList = true := fixL_valid s s.size 0
theorem quo_fixed (s : ByteArray) : quo (Go.Proofs.YtebmgmagdhedgaaGreatDoor.XUtfX.fixed s) = quo s := by
 unfold quo
 rw [quoted_list, quoted_list, fix_same (fixed_ok s), fixed_list]
theorem quoteL_len (s : ByteArray) : ∀ (f p : Nat), (quoteL s f p).length ≤ 6 * f := by
 intro f
 induction f with
 | zero => intro p; simp [quoteL]
 | succ f ih =>
  intro p
  rw [quoteL]
  split
  ·rw [List.length_append]
   have := ih (p + (Utf8.decode s p).2)
   have := qb_len (Utf8.decode s p).1
   omega
  ·simp
theorem may_text (s : ByteArray) : mayD 64 ⟨4, Go.Proofs.YtebmgmagdhedgaaGreatDoor.XUtfX.fixed s, [], []⟩ = true := mayD_flat (by simp [fineV, fixed_ok]) (show (4 : Int) < 5 by decide) rfl rfl
theorem wr_text (s : ByteArray) : wrD 64 ⟨4, Go.Proofs.YtebmgmagdhedgaaGreatDoor.XUtfX.fixed s, [], []⟩ = quo s := by
 obtain ⟨ch, e⟩ := wrD_eq 64 ⟨4, Go.Proofs.YtebmgmagdhedgaaGreatDoor.XUtfX.fixed s, [], []⟩
 rw [e]
 show quo _ = _
 exact quo_fixed s
theorem quo_short {s : ByteArray} (h : s.size ≤ 20000) : (quo s).length ≤ 262144 := by
 unfold quo
 have := quoteL_len s s.size 0
 simp only [List.length_cons, List.length_append, List.length_nil]
 omega
theorem printed_text {s : ByteArray} (h : s.size ≤ 20000) : printedV ⟨4, Go.Proofs.YtebmgmagdhedgaaGreatDoor.XUtfX.fixed s, [], []⟩ = (⟨(quo s).toArray⟩, 0) := by
 unfold printedV
 rw [if_pos (may_text s), wr_text, if_neg (by have := quo_short h; omega)]
theorem parsed_quo {s : ByteArray} (h : s.size ≤ 20000) : parsed ⟨(quo s).toArray⟩ = (⟨4, Go.Proofs.YtebmgmagdhedgaaGreatDoor.XUtfX.fixed s, [], []⟩, 0, 0) := by
 have := parsed_wr (may_text s) (posD_flat (show (0 : Int) ≤ 4 by decide) rfl rfl) (by rw [wr_text]; exact quo_short h)
 rw [wr_text] at this
 exact this
theorem same_flat (k0 : Int) (t : ByteArray) : ∃ ks, glossatorref03_Same.f ks k0 t [] [] k0 t [] [] = some true := by
 have c : (((([] : List JF).length : Nat) : Int) != ((([] : List JF).length : Nat) : Int)) = false := by decide
 have c0 : ¬ (0 : Int) < ((([] : List JV).length : Nat) : Int) := by simp
 have c1 : ¬ (0 : Int) < ((([] : List JF).length : Nat) : Int) := by simp
 refine ⟨5, ?_⟩
 simp only [glossatorref03_Same.f, if_true, c, glossatorref03_Same.j0, Bool.false_eq_true, if_false, glossatorref03_Same.l0, if_neg c0, glossatorref03_Same.l1, if_neg c1]
def glossatorlaw04_JsontextPlain.f (k : Nat) (a0 : Int) (a1 : ByteArray) : Option Bool := if -9223372036854775808 ≤ a0 ∧ a0 ≤ 9223372036854775807 then some true else none
theorem glossatorlaw04_JsontextPlain.mono : ∀ a0 a1 k, LeO (glossatorlaw04_JsontextPlain.f k a0 a1) (glossatorlaw04_JsontextPlain.f (k + 1) a0 a1) := fun a0 a1 k => LeO.refl _
set_option maxRecDepth 100000 in
set_option maxHeartbeats 2000000 in
theorem text_n (s : ByteArray) (hs : s.size ≤ 1048576) (w : World) (hG : GlobOk w) : Calls Tryz.prog 15 #[.string s] w fun e w' => e = .returned (.agg #[.int .u8 4, .string (Go.Proofs.YtebmgmagdhedgaaGreatDoor.XUtfX.fixed s), .slice none 0 0, .slice none 0 0]) ∧ Below w.heap.size w w' := by
 have hF := Go.Proofs.YtebmgmagdhedgaaGreatDoor.XUtfX.utf_fix s hs
 obtain ⟨F, hFF⟩ : ∃ F, F = Go.Proofs.YtebmgmagdhedgaaGreatDoor.XUtfX.fixed s := ⟨_, rfl⟩
 rw [← hFF] at hF ⊢
 obtain ⟨W1, hW1⟩ : ∃ W1, W1 = w.alloc (.cells #[.int .u8 0, .string ⟨#[]⟩, .slice none 0 0, .slice none 0 0] 25 (0, 0)) := ⟨_, rfl⟩
 obtain ⟨N, hN⟩ : ∃ N, N = w.heap.size := ⟨_, rfl⟩
 have HX := Aside0.mk (show W1.heap[N]? = some (.cells #[.int .u8 0, .string ⟨#[]⟩, .slice none 0 0, .slice none 0 0] 25 (0, 0)) by rw [hW1, hN]; exact blk_new w _)
 have HB1 := Aside0.mk (show Below w.heap.size w W1 by rw [hW1]; exact below_alloc (Below.refl _ _) _)
 have HN := Aside0.mk (show w.heap.size ≤ N by rw [hN]; exact Nat.le_refl _)
 have HFX := Aside0.mk (utf_Fix.calls s F W1 (hG.below HB1.out) hF)
 clear hG hF hFF; go_enter Tryz.func15, Tryz.ntmps15
 go_upto_region 1 with (fail)
 rw [← hW1, ← hN]
 clear hW1 hN; go_wp2_with (go_at_call 37; refine HFX.out.mono ?_; rintro e w2 ⟨rfl, hb⟩; have HB2 := Aside0.mk (below_step HB1.out hb); have HX2 := Aside0.mk (blk_below HX.out hb); have y0 := blk_cell HX2.out 0; have y1 := blk_cell HX2.out 1; have y2 := blk_cell HX2.out 2; have y3 := blk_cell HX2.out 3; have g0 := blk_frozen HX2.out 0; have g1 := blk_frozen HX2.out 1; have g2 := blk_frozen HX2.out 2; have g3 := blk_frozen HX2.out 3; clear hb)
 have hw := put4 (a' := .int .u8 4) (b' := .string F) (c' := .slice none 0 0) (d' := .slice none 0 0) HX2.out
 have k0 := blk_cell hw 0
 have k1 := blk_cell hw 1
 have k2 := blk_cell hw 2
 have k3 := blk_cell hw 3
 refine bodyPost_ret (v := .agg #[.int .u8 4, .string F, .slice none 0 0, .slice none 0 0]) (by simp [results, Tryz.results15, go_sem, k0, k1, k2, k3]) rfl ?_
 exact ⟨rfl, below_put4 HB2.out HN.out _ _ _ _⟩
theorem number_c (n : Int) (h0 : -9223372036854775808 ≤ n) (h1 : n ≤ 9223372036854775807) (w : World) (hG : GlobOk w) : Calls Tryz.prog 14 #[.int .i64 n] w fun e w' => ∃ A2 c2 A3 c3, e = .returned (.agg #[.int .u8 3, .string ⟨(Lib.itoa n).toArray⟩, .slice A2 0 c2, .slice A3 0 c3]) ∧ Rd ⟨3, ⟨(Lib.itoa n).toArray⟩, [], []⟩ A2 A3 w' ∧ Below w.heap.size w w' := by
 have ht : jsontext_Number.f n = some (3, (⟨(Lib.itoa n).toArray⟩ : ByteArray), ([] : List JV), ([] : List JF)) := by
  unfold jsontext_Number.f strconv_Itoa.f
  rw [if_pos h0, if_pos h1]
  rfl
 refine (jsontext_Number.calls n _ _ _ _ w hG ht).mono ?_
 rintro e w' ⟨v2, v3, rfl, h2, h3, hb⟩
 obtain ⟨A2, c2, rfl⟩ := Kd.R_slice h2
 obtain ⟨A3, c3, rfl⟩ := Kd.R_slice h3
 exact ⟨A2, c2, A3, c3, rfl, ⟨(Kd.V_reads' (Kd.R_V (base' := 0) h2)).2.2, (Kd.V_reads' (Kd.R_V (base' := 0) h3)).2.2⟩, hb⟩
theorem pq_c (Q F : ByteArray) (hp : parsed Q = (⟨4, F, [], []⟩, 0, 0)) (w : World) (hG : GlobOk w) : Calls Tryz.prog 10 #[.string Q] w fun e w' => ∃ A2 c2 A3 c3, e = .returned (.tuple #[.agg #[.int .u8 4, .string F, .slice A2 0 c2, .slice A3 0 c3], .int .i64 0, .int .i64 0]) ∧ Rd ⟨4, F, [], []⟩ A2 A3 w' ∧ Below w.heap.size w w' := by
 refine (jp_at Q _ _ _ hp w hG).mono ?_
 rintro e w' ⟨A2, c2, A3, c3, rfl, h2, h3, hb⟩
 exact ⟨A2, c2, A3, c3, rfl, ⟨(Kd.V_reads' (Kd.R_V (base' := 0) h2)).2.2, (Kd.V_reads' (Kd.R_V (base' := 0) h3)).2.2⟩, hb⟩
theorem sf_c (ks : Nat) (F : ByteArray) (h : glossatorref03_Same.f ks 4 F [] [] 4 F [] [] = some true) (A2 A3 B2 B3 : Option Addr) (c2 c3 d2 d3 : Nat) (w : World) (h1 : Rd ⟨4, F, [], []⟩ A2 A3 w) (h2 : Rd ⟨4, F, [], []⟩ B2 B3 w) : Calls Tryz.prog 11 #[.agg #[.int .u8 4, .string F, .slice A2 0 c2, .slice A3 0 c3], .agg #[.int .u8 4, .string F, .slice B2 0 d2, .slice B3 0 d3]] w fun e w' => e = .returned (.bool true) ∧ Below w.heap.size w w' :=
 glossatorref03_Same.calls ks 4 F A2 c2 [] A3 c3 [] 4 F B2 d2 [] B3 d3 [] true w h1.1 (Nat.zero_le _) h1.2 (Nat.zero_le _) h2.1 (Nat.zero_le _) h2.2 (Nat.zero_le _) h
set_option maxRecDepth 100000 in
set_option maxHeartbeats 4000000 in
theorem glossatorlaw04_JsontextPlain.calls (k : Nat) (a0 : Int) (a1 : ByteArray) (r : Bool) (w : World) (hG : GlobOk w) (h : glossatorlaw04_JsontextPlain.f k a0 a1 = some r) : Calls Tryz.prog 4 #[.int .i64 a0, .string a1] w fun e w' => e = .returned (.bool r) ∧ Below w.heap.size w w' := by
 unfold glossatorlaw04_JsontextPlain.f at h
 by_cases hn : -9223372036854775808 ≤ a0 ∧ a0 ≤ 9223372036854775807
 case neg => rw [if_neg hn] at h; cases h
 rw [if_pos hn] at h
 obtain rfl := Option.some.inj h
 have HG := Aside0.mk hG; have HN := Aside0.mk hn; clear hG h hn; have HAW := Aside0.mk (glossatorlaw04_awake.calls w HG.out)
 by_cases hs : 20000 < a1.size
 ·have t1 : decide ((20000 : Int) < (a1.size : Int)) = true := decide_eq_true (by omega)
  clear hs; go_enter Tryz.func4, Tryz.ntmps4
  go_wp2_with (go_at_call 7; refine HAW.out.mono ?_; rintro e w0 ⟨rfl, hb⟩; have HB0 := Aside0.mk hb; clear hb)
  go_ret
  exact ⟨rfl, HB0.out⟩
 ·have t1 : decide ((20000 : Int) < (a1.size : Int)) = false := decide_eq_false (by omega)
  have HS := Aside0.mk (show a1.size ≤ 20000 by omega)
  obtain ⟨Q, hQ⟩ : ∃ Q : ByteArray, Q = ⟨(quo a1).toArray⟩ := ⟨_, rfl⟩
  obtain ⟨F, hF⟩ : ∃ F, F = Go.Proofs.YtebmgmagdhedgaaGreatDoor.XUtfX.fixed a1 := ⟨_, rfl⟩
  obtain ⟨D, hD⟩ : ∃ D : ByteArray, D = ⟨(Lib.itoa a0).toArray⟩ := ⟨_, rfl⟩
  have HQ := Aside0.mk (show jsontext_Quote.f a1 = some Q by rw [hQ]; exact if_pos (by have := HS.out; omega))
  have HPR := Aside0.mk (show printedV ⟨4, F, [], []⟩ = (Q, 0) by rw [hF, hQ]; exact printed_text HS.out)
  have HPQ := Aside0.mk (show parsed Q = (⟨4, F, [], []⟩, 0, 0) by rw [hQ, hF]; exact parsed_quo HS.out)
  have HIN := Aside0.mk (show intV ⟨3, D, [], []⟩ = (a0, true) by rw [hD]; exact int_number a0 HN.out.1 HN.out.2)
  have HIT := Aside0.mk (show intV ⟨4, F, [], []⟩ = (0, false) from if_neg (show ¬ (4 : Int) = 3 by decide))
  have HFS := Aside0.mk (show F.size ≤ 1048576 by
   rw [hF]
   have h1 := Go.Proofs.YtebmgmagdhedgaaGreatDoor.XUtfX.fixL_len a1 a1.size 0
   have h2 : (Go.Proofs.YtebmgmagdhedgaaGreatDoor.XUtfX.fixed a1).size = (fixL a1 a1.size 0).length := rfl
   have := HS.out
   omega)
  have HDS := Aside0.mk (show D.size ≤ 21 by rw [hD]; exact Lib.itoa_length_le a0 HN.out.1 HN.out.2)
  have HDR := Aside0.mk (show Lib.atoiAll D.data.toList ≠ .range by rw [hD]; show Lib.atoiAll (Lib.itoa a0) ≠ _; rw [atoi_itoa a0 HN.out.1 HN.out.2]; simp)
  have HWL := Aside0.mk (show (wrD 64 ⟨4, F, [], []⟩).length ≤ 140737488300000 by rw [hF, wr_text]; have := quo_short HS.out; omega)
  have HNC := Aside0.mk (fun (W : World) (h : GlobOk W) => number_c a0 HN.out.1 HN.out.2 W h)
  rw [← hD] at HNC
  have HTC := Aside0.mk (fun (W : World) (h : GlobOk W) => text_n a1 (by have := HS.out; omega) W h)
  rw [← hF] at HTC
  obtain ⟨ks, hks⟩ := same_flat 4 F
  have HSame := Aside0.mk hks; clear hs hQ hF hD hks; go_enter Tryz.func4, Tryz.ntmps4
  go_upto_region 5 with (go_at_call 7; refine HAW.out.mono ?_; rintro e w0 ⟨rfl, hb⟩; have HB0 := Aside0.mk hb; clear hb)
  go_upto_region 6 with (first | (go_at_call 14; refine (HNC.out _ (HG.out.below HB0.out)).mono ?_; rintro e w1 ⟨A2, c2, A3, c3, rfl, hr, hb⟩; have HB1 := Aside0.mk (below_step HB0.out hb); clear hr hb) | (go_at_call 13; refine (jsontext_Int.calls ⟨3, D, [], []⟩ A2 A3 _ _ _ _ _ (HG.out.below HB1.out) (by have := HDS.out; show D.size ≤ _; omega) (fun _ h => absurd h HDR.out)).mono ?_; rintro e w2 ⟨rfl, hb⟩; rw [HIN.out]; have HB2 := Aside0.mk (below_step HB1.out hb); clear hb))
  go_upto_region 7 with (first | (go_at_call 15; refine (HTC.out _ (HG.out.below HB2.out)).mono ?_; rintro e w3 ⟨rfl, hb⟩; have HB3 := Aside0.mk (below_step HB2.out hb); clear hb) | (go_at_call 9; refine (jsontext_Print.calls ⟨4, F, [], []⟩ none none 0 0 _ (HG.out.below HB3.out) (sz_flat 4 F (by decide) HFS.out) HWL.out (Kd.C_nil _ _) (Kd.C_nil _ _)).mono ?_; rintro e w4 ⟨rfl, hb⟩; rw [HPR.out]; have HB4 := Aside0.mk (below_step HB3.out hb); clear hb))
  go_upto_region 8 with (first | (go_at_call 15; refine (HTC.out _ (HG.out.below HB4.out)).mono ?_; rintro e w5 ⟨rfl, hb⟩; have HB5 := Aside0.mk (below_step HB4.out hb); clear hb) | (go_at_call 13; refine (jsontext_Int.calls ⟨4, F, [], []⟩ none none _ _ _ _ _ (HG.out.below HB5.out) (by have := HFS.out; show F.size ≤ _; omega) (fun h => absurd h (show ¬ (4 : Int) = 3 by decide))).mono ?_; rintro e w6 ⟨rfl, hb⟩; rw [HIT.out]; have HB6 := Aside0.mk (below_step HB5.out hb); clear hb))
  go_upto_region 9 with (first | (go_at_call 16; refine (jsontext_Quote.calls _ _ _ HQ.out).mono ?_; rintro e w7 ⟨rfl, hb⟩; have HB7 := Aside0.mk (below_step HB6.out hb); clear hb) | (go_at_call 10; refine (pq_c Q F HPQ.out _ (HG.out.below HB7.out)).mono ?_; rintro e w8 ⟨A8, c8, A9, c9, rfl, hr, hb⟩; have HB8 := Aside0.mk (below_alloc (below_step HB7.out hb) (.cells #[.int .u8 4, .string F, .slice A8 0 c8, .slice A9 0 c9] 25 (0, 0))); have HM8 := Aside0.mk (blk_new w8 (.cells #[.int .u8 4, .string F, .slice A8 0 c8, .slice A9 0 c9] 25 (0, 0))); have HR8 := Aside0.mk (Rd.alloc hr (.cells #[.int .u8 4, .string F, .slice A8 0 c8, .slice A9 0 c9] 25 (0, 0))); obtain ⟨W9, hW9⟩ : ∃ W9, W9 = w8.alloc (.cells #[.int .u8 4, .string F, .slice A8 0 c8, .slice A9 0 c9] 25 (0, 0)) := ⟨_, rfl⟩; obtain ⟨M, hM⟩ : ∃ M, M = w8.heap.size := ⟨_, rfl⟩; rw [← hW9] at HB8 HM8 HR8; rw [← hM] at HM8; have HWM := Aside0.mk (show W9 = w8.alloc (.cells #[.int .u8 4, .string F, .slice A8 0 c8, .slice A9 0 c9] 25 (0, 0)) ∧ M = w8.heap.size from ⟨hW9, hM⟩); clear hr hb hW9 hM))
  rw [← HWM.out.1, ← HWM.out.2]
  clear HWM; have y0 := blk_cell HM8.out 0
  have y1 := blk_cell HM8.out 1
  have y2 := blk_cell HM8.out 2
  have y3 := blk_cell HM8.out 3
  refine Go.Proofs.YtebmgmagdhedgaaGreatDoor.XRound.quiet_any (fun w' => w'.cell? ⟨M, 0, none⟩ = some (.int .u8 4) ∧ w'.cell? ⟨M, 1, none⟩ = some (.string F) ∧ w'.cell? ⟨M, 2, none⟩ = some (.slice A8 0 c8) ∧ w'.cell? ⟨M, 3, none⟩ = some (.slice A9 0 c9) ∧ Aside0 (Below w.heap.size w w') ∧ Aside0 (Rd ⟨4, F, [], []⟩ A8 A9 w')) ⟨y0, y1, y2, y3, ⟨below_drew1 HB8.out⟩, ⟨⟨Kd.C_drew HR8.out.1, Kd.C_drew HR8.out.2⟩⟩⟩ (by kernel_rfl) (by kernel_rfl) ?_
  iterate 13 refine Go.Proofs.YtebmgmagdhedgaaGreatDoor.XRound.q_op ?_
  refine Go.Proofs.YtebmgmagdhedgaaGreatDoor.XRound.q_call (f := 16) (args := #[.string a1]) (.string Q) (fun w' hw' => ?hq) ?_ (hy := fun w' => by go_simp)
  case hq =>
   obtain ⟨h0, h1, h2, h3, hB, hR⟩ := hw'
   refine (jsontext_Quote.calls _ _ _ HQ.out).mono ?_
   rintro e w'' ⟨rfl, hb⟩
   exact ⟨rfl, pw_cell_below hb h0, pw_cell_below hb h1, pw_cell_below hb h2, pw_cell_below hb h3, ⟨below_step hB.out hb⟩, ⟨hR.out.below hb⟩⟩
  iterate 13 refine Go.Proofs.YtebmgmagdhedgaaGreatDoor.XRound.q_op ?_
  refine Go.Proofs.YtebmgmagdhedgaaGreatDoor.XRound.q_call (f := 15) (args := #[.string a1]) (.agg #[.int .u8 4, .string F, .slice none 0 0, .slice none 0 0]) (fun w' hw' => ?ht) ?_ (hy := fun w' => by go_simp)
  case ht =>
   obtain ⟨h0, h1, h2, h3, hB, hR⟩ := hw'
   refine (HTC.out _ (HG.out.below hB.out)).mono ?_
   rintro e w'' ⟨rfl, hb⟩
   exact ⟨rfl, pw_cell_below hb h0, pw_cell_below hb h1, pw_cell_below hb h2, pw_cell_below hb h3, ⟨below_step hB.out hb⟩, ⟨hR.out.below hb⟩⟩
  refine Go.Proofs.YtebmgmagdhedgaaGreatDoor.XRound.q_call (f := 11) (args := #[.agg #[.int .u8 4, .string F, .slice A8 0 c8, .slice A9 0 c9], .agg #[.int .u8 4, .string F, .slice none 0 0, .slice none 0 0]]) (.bool true) (fun w' hw' => ?hs) ?_ (hy := fun w' => by go_simp)
  case hs =>
   obtain ⟨h0, h1, h2, h3, hB, hR⟩ := hw'
   refine (sf_c ks F HSame.out A8 A9 none none c8 c9 0 0 _ hR.out ⟨Kd.C_nil _ _, Kd.C_nil _ _⟩).mono ?_
   rintro e w'' ⟨rfl, hb⟩
   exact ⟨rfl, pw_cell_below hb h0, pw_cell_below hb h1, pw_cell_below hb h2, pw_cell_below hb h3, ⟨below_step hB.out hb⟩, ⟨hR.out.below hb⟩⟩
  iterate 2 refine Go.Proofs.YtebmgmagdhedgaaGreatDoor.XRound.q_op ?_
  refine wpQuiet_nil ?_
  rintro w' ⟨_, _, _, _, hB, _⟩
  clear y0 y1 y2 y3; go_wp2
  go_ret
  exact ⟨rfl, hB.out⟩
/-- THE ONE PURE STATEMENT of glossatorlaw04_JsontextPlain. -/
def glossatorlaw04_JsontextPlain.Pure : Prop := ∀ (p0 : Int) (p1 : ByteArray), (Lit.int .i64 p0).wf = true → p1.size ≤ 140737488351232 → ∃ k, glossatorlaw04_JsontextPlain.f k p0 p1 = some true
end Go.Proofs.YtebmgmagdhedgaaGreatDoor.Q
