/- Words and walks of this claim, put together by this repo's wip/xlink.py out of Q3, Q4, Q5, PureFrameBack. -/
import Derived.Test.YtbhajflbbjipdaaDoorL1
import Derived.Test.YtbhajflbbjipdaaDoorL5
import Derived.Test.YtbhajflbbjipdaaDoorL2
section
namespace Go.Proofs.YtbhajflbbjipdaaDoor.Q
open Go.RowKit Go.Proofs.YtbhajflbbjipdaaDoorW.PrintWords Go.Proofs.YtbhajflbbjipdaaDoorW.PrintLast Go.Proofs.YtbhajflbbjipdaaDoorW.PrintMore
attribute [local go_sem] max2_int min2_int max_two min_two max_three min_three max_four min_four   
set_option linter.unusedVariables false
set_option linter.unusedSimpArgs false
set_option maxRecDepth 100000 in
theorem next_none (w0 w : World) (B : Nat) (HV TV : Value) (st : Go.Proofs.YtbhajflbbjipdaaDoor.XFm.FS) (h : RdF w0 B HV TV st w) (ht : st.told = []) : Calls Tryd.prog 12 #[.pointer (some ⟨B, 0, none⟩)] w fun en w' => en = .returned (.tuple #[.string ⟨#[]⟩, .bool false]) ∧ w' = w := by
 obtain ⟨A, c, rfl, hc⟩ := q_slice h.told
 have y3 := blk_cell h.blk 3
 rw [ht] at y3
 clear h ht hc; go_enter Tryd.func12, Tryd.ntmps12
 go_wp2
 go_ret2
 exact ⟨rfl, rfl⟩
theorem rd_next {w0 w : World} {B : Nat} {HV TV TV' : Value} {st : Go.Proofs.YtbhajflbbjipdaaDoor.XFm.FS} (h : RdF w0 B HV TV st w) (r : List (List UInt8)) (hq : QRow w w0.heap.size 9 1 TV' r.length (sv r)) (hown : TV'.ownBlock = TV.ownBlock) :
  RdF w0 B HV TV' { st with told := r } (w.setCell ⟨B, 3, none⟩ TV') ∧ Fr w (w.setCell ⟨B, 3, none⟩ TV') B HV TV HV TV' := by
 have ho := (Only.refl B w).set 3 TV'
 exact ⟨h.only ho (blk_put h.blk 3 TV' rfl) h.hand hq, .only ho (.refl _ _) (.inr (.inl hown))⟩
theorem q_plain {w : World} {base n c : Nat} {e : TypeId} {A : Option Addr} {xs : List Value} (h : QRow w base e 1 (.slice A n c) n xs) (hn : 0 < n) : ∃ g o, A = some ⟨g, o, none⟩ ∧ ∀ j u, xs[j]? = some u → w.cell? ⟨g, o + j, none⟩ = some u := by
 obtain ⟨ad, ha, hc⟩ := q_cells h hn
 rcases h.2 with ⟨h0, _⟩ | ⟨g, off, cap, cur, he, _⟩
 ·omega
 ·injection he with e1 e2 e3
  rw [e1] at ha
  injection ha with ha
  subst ha; refine ⟨g, off * 1, e1, fun j u hu => ?_⟩
  have := hc j u hu
  rwa [add_at] at this
set_option maxRecDepth 100000 in
set_option maxHeartbeats 2000000 in
theorem next_some (w0 w : World) (B : Nat) (HV TV : Value) (st : Go.Proofs.YtbhajflbbjipdaaDoor.XFm.FS) (h : RdF w0 B HV TV st w) (b : List UInt8) (r : List (List UInt8)) (ht : st.told = b :: r) : Calls Tryd.prog 12 #[.pointer (some ⟨B, 0, none⟩)] w fun en w' => ∃ TV', en = .returned (.tuple #[.string ⟨b.toArray⟩, .bool true]) ∧ RdF w0 B HV TV' { st with told := r } w' ∧ Fr w w' B HV TV HV TV' ∧ TV'.ownBlock = TV.ownBlock := by
 obtain ⟨A, c, rfl, hc⟩ := q_slice h.told
 have H := Aside0.mk h; have y3 := blk_cell h.blk 3
 have g3 := blk_frozen h.blk 3
 obtain ⟨g, o, rfl, hcs⟩ := q_plain h.told (by rw [ht]; simp)
 have hq := q_drop h.told (show 1 ≤ st.told.length by rw [ht]; simp)
 rw [sv_drop] at hq
 have y5 := hcs 0 (.string ⟨b.toArray⟩) (by rw [ht]; rfl)
 rw [Nat.add_zero] at y5
 have hcp : st.told.length = r.length + 1 := by rw [ht]; rfl
 have hdr : st.told.drop 1 = r := by rw [ht]; rfl
 rw [hdr, hcp, Nat.add_sub_cancel] at hq
 rw [hcp] at y3 hc ⊢
 have HQ := Aside0.mk hq; have H2 := Aside0.mk (show RdF w0 B HV (.slice (some ⟨g, o, none⟩) (r.length + 1) c) st w by rw [← hcp]; exact H.out)
 clear h ht hcs hq hcp hdr H; go_enter Tryd.func12, Tryd.ntmps12
 go_wp2
 all_goals go_ret2
 ·have h1 : c = 1 := by assumption
  subst h1; have hq := HQ.out
  rw [if_pos rfl] at hq
  have hz := rd_next H2.out r hq (by rfl)
  exact ⟨rfl, _, hz.1, hz.2, rfl⟩
 ·have hq := HQ.out
  rw [if_neg (by assumption)] at hq
  have hz := rd_next H2.out r hq (own_map (some ⟨g, o, none⟩) _ _ _ _ _)
  exact ⟨rfl, _, hz.1, hz.2, own_map (some ⟨g, o, none⟩) _ _ _ _ _⟩
set_option maxRecDepth 100000 in
theorem frame_New.calls (w0 w : World) (hb : Below w0.heap.size w0 w) : Calls Tryd.prog 8 #[] w fun en w' => ∃ B, en = .returned (.pointer (some ⟨B, 0, none⟩)) ∧ w.heap.size ≤ B ∧ RdF w0 B (.slice none 0 0) (.slice none 0 0) Go.Proofs.YtbhajflbbjipdaaDoor.XFm.new w' ∧ Below w.heap.size w w' := by
 have HB := Aside0.mk hb; clear hb; go_enter Tryd.func8, Tryd.ntmps8
 go_wp2
 go_ret
 refine ⟨w.heap.size, rfl, Nat.le_refl _, ⟨HB.out.size, below_alloc HB.out _, blk_new w _, q_nil _ _ _, q_nil _ _ _⟩, below_alloc (Below.refl _ _) _⟩
theorem RdF.keep {w0 w w' : World} {B : Nat} {HV TV : Value} {st : Go.Proofs.YtbhajflbbjipdaaDoor.XFm.FS} (h : RdF w0 B HV TV st w) (hb : Below w0.heap.size w0 w') (hk : ∀ k, k < w.heap.size → (k = B ∨ some k = HV.ownBlock ∨ some k = TV.ownBlock) → w'.heap[k]? = w.heap[k]?) : RdF w0 B HV TV st w' :=
 ⟨h.base, hb, (hk B (blk_lt h.blk) (.inl rfl)).trans h.blk, q_move h.hand fun k e => hk k (q_lt h.hand k e) (.inr (.inl e.symm)), q_move h.told fun k e => hk k (q_lt h.told k e) (.inr (.inr e.symm))⟩
/-- The messages that were told, in a row of one's own: N is where the own rows begin. -/
structure HdR (w0 w : World) (B : Nat) (HV TV V TV' : Value) (st : Go.Proofs.YtbhajflbbjipdaaDoor.XFm.FS) (a r : List (List UInt8)) (w' : World) : Prop where
 all : st.told = a ++ r
 rd : RdF w0 B HV TV' { st with told := r } w'
 fr : Fr w w' B HV TV HV TV'
 own : TV'.ownBlock = TV.ownBlock
 row : QRow w' w.heap.size 9 1 V a.length (sv a)
theorem HdR.next {w0 w w1 w2 : World} {B : Nat} {HV TV V TV1 TV2 : Value} {st : Go.Proofs.YtbhajflbbjipdaaDoor.XFm.FS} {a r : List (List UInt8)} {b : List UInt8} (h0 : RdF w0 B HV TV st w) (h : HdR w0 w B HV TV V TV1 st a (b :: r) w1) (hr : RdF w0 B HV TV2 { st with told := r } w2) (hf : Fr w1 w2 B HV TV1 HV TV2) (ho : TV2.ownBlock = TV1.ownBlock) : QRow w2 w.heap.size 9 1 V a.length (sv a) ∧ Fr w w2 B HV TV HV TV2 := by
 refine ⟨q_move h.row fun k hk => ?_, h.fr.trans hf⟩
 have hle := (q_typed h.row k hk).1
 have hlt := q_lt h.row k hk
 have hB := blk_lt h0.blk
 refine hf.keep k hlt (by omega) ?_ ?_
 ·intro e
  have := q_lt h0.hand k e.symm
  omega
 ·rw [h.own]
  intro e
  have := q_lt h0.told k e.symm
  omega
theorem HdR.put {w0 w w2 w3 : World} {B : Nat} {HV TV V V' TV2 : Value} {st : Go.Proofs.YtbhajflbbjipdaaDoor.XFm.FS} {a r : List (List UInt8)} {b : List UInt8} (h0 : RdF w0 B HV TV st w) (ha : st.told = a ++ b :: r) (hr : RdF w0 B HV TV2 { st with told := r } w2) (hf : Fr w w2 B HV TV HV TV2) (ho : TV2.ownBlock = TV.ownBlock) (hq : QRow w2 w.heap.size 9 1 V a.length (sv a)) (c : Obj)
  (hq3 : QRow w3 w.heap.size 9 1 V' ((sv a).length + 1) (sv a ++ [.string ⟨b.toArray⟩])) (hg : (w2.alloc c).grownBy w3 V.ownBlock) : HdR w0 w B HV TV V' TV2 st (a ++ [b]) r w3 := by
 have hB := blk_lt h0.blk
 have hk : ∀ k, k < w2.heap.size → some k ≠ V.ownBlock → w3.heap[k]? = w2.heap[k]? := fun k h1 h2 => (hg.block k (by rw [World.size_alloc]; omega) h2).trans (Below.heap_alloc w2 c k h1)
 have hs : w2.heap.size ≤ w3.heap.size := by have := hg.size; rw [World.size_alloc] at this; omega
 have hne : ∀ k, k < w.heap.size → some k ≠ V.ownBlock := by
  intro k h1 e
  have := (q_typed hq k e.symm).1
  omega
 have hb0 : Below w0.heap.size w0 (w2.alloc c) := below_alloc hr.below c
 have hb : Below w0.heap.size w0 w3 := grown_only (V := V) (w := w2.alloc c) hb0 hg (fun k e => by have := (q_typed hq k e).1; have := h0.below.size; omega)
 refine ⟨by rw [ha]; simp, hr.keep hb ?_, ⟨Nat.le_trans hf.size hs, ?_, hf.h, hf.t⟩, ho, ?_⟩
 ·rintro k h1 (rfl | e | e)
  ·exact hk _ h1 (hne _ hB)
  ·exact hk _ h1 (hne _ (q_lt h0.hand k e.symm))
  ·rw [ho] at e
   exact hk _ h1 (hne _ (q_lt h0.told k e.symm))
 ·intro k h1 h2 h3 h4
  exact (hk k (Nat.lt_of_lt_of_le h1 hf.size) (hne k h1)).trans (hf.keep k h1 h2 h3 h4)
 ·have e1 : (sv a).length + 1 = (a ++ [b]).length := by rw [sv_len, List.length_append]; rfl
  have e2 : sv a ++ [.string ⟨b.toArray⟩] = sv (a ++ [b]) := by simp [sv]
  rw [e1, e2] at hq3
  exact hq3
set_option maxRecDepth 100000 in
set_option maxHeartbeats 2000000 in
theorem glossatorlaw05_heard.calls (w0 w : World) (B : Nat) (HV TV : Value) (st : Go.Proofs.YtbhajflbbjipdaaDoor.XFm.FS) (h : RdF w0 B HV TV st w) (hz : st.told.length ≤ 900000) :
  Calls Tryd.prog 15 #[.pointer (some ⟨B, 0, none⟩)] w fun en w' => ∃ V TV', en = .returned V ∧ HdR w0 w B HV TV V TV' st st.told [] w' := by
 have H := Aside0.mk h; have HZ := Aside0.mk hz; have HS := Aside0.mk (show HdR w0 w B HV TV (.slice none 0 0) TV st [] st.told w from ⟨rfl, h, .refl _ _ _ _, rfl, q_nil _ _ _⟩)
 clear h hz; go_enter Tryd.func15, Tryd.ntmps15
 go_wp2
 go_loopg [3] st.told.length (fun kq v3 w' => ∃ (V TV' : Value) (a r : List (List UInt8)), v3 = V ∧ kq = r.length ∧ Aside0 (HdR w0 w B HV TV V TV' st a r w'))
 case atStart => exact ⟨_, _, _, _, rfl, rfl, HS⟩
 case round =>
  clear HS; obtain ⟨V, TV', a, r, rfl, rfl, HL⟩ := hrel
  cases r with
  | nil =>
   have ha : st.told = a := by have := HL.out.all; rw [List.append_nil] at this; exact this
   go_wp2_with ((go_at_call 12; refine (next_none w0 wr B HV TV' { st with told := [] } HL.out.rd rfl).mono ?_; rintro e w5 ⟨rfl, rfl⟩))
   go_ret
   refine ⟨_, TV', rfl, ?_⟩
   rw [ha]
   exact HL.out
  | cons b r =>
   obtain ⟨Av, cv, rfl, hcv⟩ := q_slice HL.out.row
   have HLen := Aside0.mk (show a.length ≤ 900000 by have := HL.out.all; have := HZ.out; rw [HL.out.all, List.length_append] at this; omega)
   go_wp2_with (first | (go_at_call 12; refine (next_some w0 wr B HV TV' { st with told := b :: r } HL.out.rd b r rfl).mono ?_; rintro e w5 ⟨TV5, rfl, hr5, hf5, ho5⟩; have hz := HL.out.next H.out hr5 hf5 ho5; have HR5 := Aside0.mk hr5; have HO5 := Aside0.mk (ho5.trans HL.out.own); have HQ5 := Aside0.mk hz.1; have HF5 := Aside0.mk hz.2; clear hr5 hf5 ho5 hz) | ((with_reducible refine gate_builtin (b := .append) (xs := #[.tmp 14, .tmp 16]) rfl ?_); at_builtin; refine qrow_put w.heap.size rfl (.tmp 14) (.tmp 16) 31 9 (.string ⟨#[]⟩) 16 rfl Tryd.underlying31 (by kernel_rfl) rfl (by decide) (.slice Av a.length cv) (sv a) (some ⟨w5.heap.size, 0, none⟩) 1 1 [.string ⟨b.toArray⟩] rfl (fun _ => ⟨_, rfl, fun j u hu => by simpa using World.news_of_block (cs := #[.string ⟨b.toArray⟩]) (t := 9) (fr := (0, 0)) (heap_alloc_new w5 _) j u hu⟩) (by intro u hu; simp at hu; subst hu; rfl) (by simp [Act.eval, Act.put]) (by simp [Act.eval, Act.put]) (q_move (by rw [sv_len]; exact HQ5.out) (fun k hk => Below.heap_alloc w5 _ k (q_lt HQ5.out k hk))) (by rw [World.size_alloc]; have := HF5.out.size; omega) (by rw [sv_len]; have := HLen.out; omega) ?_; intro v1 w1 hq1 hg1 hat1; have HW := Aside0.mk (HdR.put H.out HL.out.all HR5.out HF5.out HO5.out HQ5.out _ hq1 hg1); clear hq1 hg1 hat1))
   go_roundg r.length
   case rel => exact ⟨_, _, _, _, rfl, rfl, HW⟩
   case measure => simp
def strconv_Itoa.f (a0 : Int) : Option ByteArray := if -9223372036854775808 ≤ a0 then (if a0 ≤ 9223372036854775807 then some ⟨(Lib.itoa a0).toArray⟩ else none) else none
theorem strconv_Itoa.calls (a0 : Int) (r : ByteArray) (w : World) (hG : GlobOk w) (h : strconv_Itoa.f a0 = some r) :
  Calls Tryd.prog 21 #[.int .i64 a0] w fun e w' => e = .returned (.string r) ∧ Below w.heap.size w w' := by
 unfold strconv_Itoa.f at h
 split at h
 ·split at h
  ·rename_i h0 h1
   obtain rfl := Option.some.inj h
   refine (Tryd.strconv_Itoa a0 h0 h1 w hG.tab).mono ?_
   rintro e w' ⟨rfl, k, os, rfl⟩
   exact ⟨rfl, Lib.below_grow _ w (Nat.le_refl _) k os⟩
  ·cases h
 ·cases h
def frame_Write.f (a0 : ByteArray) : Option (ByteArray) := (strconv_Itoa.f (a0.size : Int)).bind fun t101 => (if 16 + t101.size ≤ 9223372036854775807 then (if ((⟨#[67, 111, 110, 116, 101, 110, 116, 45, 76, 101, 110, 103, 116, 104, 58, 32]⟩ : ByteArray) ++ t101).size + 4 ≤ 9223372036854775807 then (if (((⟨#[67, 111, 110, 116, 101, 110, 116, 45, 76, 101, 110, 103, 116, 104, 58, 32]⟩ : ByteArray) ++ t101) ++ (⟨#[13, 10, 13, 10]⟩ : ByteArray)).size + a0.size ≤ 9223372036854775807 then (some ((((⟨#[67, 111, 110, 116, 101, 110, 116, 45, 76, 101, 110, 103, 116, 104, 58, 32]⟩ : ByteArray) ++ t101) ++ (⟨#[13, 10, 13, 10]⟩ : ByteArray)) ++ a0)) else (none)) else (none)) else (none))
set_option maxHeartbeats 8000000 in
set_option maxRecDepth 100000 in
theorem frame_Write.calls (a0 : ByteArray) (r : ByteArray) (w : World) (hG : GlobOk w) (h : frame_Write.f a0 = some r) :
  Calls Tryd.prog 17 #[.string a0] w fun e w' => e = .returned (.string r) ∧ Below w.heap.size w w' := by
 have HG := Aside0.mk hG; clear hG; have HB := Aside0.mk (Below.refl w.heap.size w)
 have H : ((strconv_Itoa.f (a0.size : Int)).bind fun t101 => (if 16 + t101.size ≤ 9223372036854775807 then (if ((⟨#[67, 111, 110, 116, 101, 110, 116, 45, 76, 101, 110, 103, 116, 104, 58, 32]⟩ : ByteArray) ++ t101).size + 4 ≤ 9223372036854775807 then (if (((⟨#[67, 111, 110, 116, 101, 110, 116, 45, 76, 101, 110, 103, 116, 104, 58, 32]⟩ : ByteArray) ++ t101) ++ (⟨#[13, 10, 13, 10]⟩ : ByteArray)).size + a0.size ≤ 9223372036854775807 then (some ((((⟨#[67, 111, 110, 116, 101, 110, 116, 45, 76, 101, 110, 103, 116, 104, 58, 32]⟩ : ByteArray) ++ t101) ++ (⟨#[13, 10, 13, 10]⟩ : ByteArray)) ++ a0)) else (none)) else (none)) else (none))) = some r := h
 clear h; replace H := Option.bind_eq_some_iff.mp H
 obtain ⟨t101, A20, H⟩ := H
 replace H : (if 16 + t101.size ≤ 9223372036854775807 then (if ((⟨#[67, 111, 110, 116, 101, 110, 116, 45, 76, 101, 110, 103, 116, 104, 58, 32]⟩ : ByteArray) ++ t101).size + 4 ≤ 9223372036854775807 then (if (((⟨#[67, 111, 110, 116, 101, 110, 116, 45, 76, 101, 110, 103, 116, 104, 58, 32]⟩ : ByteArray) ++ t101) ++ (⟨#[13, 10, 13, 10]⟩ : ByteArray)).size + a0.size ≤ 9223372036854775807 then (some ((((⟨#[67, 111, 110, 116, 101, 110, 116, 45, 76, 101, 110, 103, 116, 104, 58, 32]⟩ : ByteArray) ++ t101) ++ (⟨#[13, 10, 13, 10]⟩ : ByteArray)) ++ a0)) else (none)) else (none)) else (none)) = some r := H
 have A2 := Aside0.mk A20; clear A20; by_cases c3 : 16 + t101.size ≤ 9223372036854775807
 rotate_left
 ·rw [if_neg c3] at H; exact absurd H (by simp)
 rw [if_pos c3] at H; have c3b0 := eq_true c3
 have c3b1 : decide (16 + t101.size ≤ 9223372036854775807) = true := decide_eq_true c3; try have c3b2 : (9223372036854775807 < 16 + t101.size) = False := eq_false (Nat.not_lt.2 c3)
 by_cases c4 : ((⟨#[67, 111, 110, 116, 101, 110, 116, 45, 76, 101, 110, 103, 116, 104, 58, 32]⟩ : ByteArray) ++ t101).size + 4 ≤ 9223372036854775807
 rotate_left
 ·rw [if_neg c4] at H; exact absurd H (by simp)
 rw [if_pos c4] at H; have c4b0 := eq_true c4
 have c4b4 : (16 + t101.size + 4 ≤ 9223372036854775807) = True := eq_true (by have h_ := c4; simp only [ByteArray.size_append] at h_; exact h_)
 have c4b5 : (9223372036854775807 < 16 + t101.size + 4) = False := eq_false (Nat.not_lt.2 (of_eq_true c4b4))
 have c4b1 : decide (((⟨#[67, 111, 110, 116, 101, 110, 116, 45, 76, 101, 110, 103, 116, 104, 58, 32]⟩ : ByteArray) ++ t101).size + 4 ≤ 9223372036854775807) = true := decide_eq_true c4; try have c4b2 : (9223372036854775807 < ((⟨#[67, 111, 110, 116, 101, 110, 116, 45, 76, 101, 110, 103, 116, 104, 58, 32]⟩ : ByteArray) ++ t101).size + 4) = False := eq_false (Nat.not_lt.2 c4)
 by_cases c5 : (((⟨#[67, 111, 110, 116, 101, 110, 116, 45, 76, 101, 110, 103, 116, 104, 58, 32]⟩ : ByteArray) ++ t101) ++ (⟨#[13, 10, 13, 10]⟩ : ByteArray)).size + a0.size ≤ 9223372036854775807
 ·rw [if_pos c5] at H; have c5b0 := eq_true c5
  have c5b4 : (16 + t101.size + 4 + a0.size ≤ 9223372036854775807) = True := eq_true (by have h_ := c5; simp only [ByteArray.size_append] at h_; exact h_)
  have c5b5 : (9223372036854775807 < 16 + t101.size + 4 + a0.size) = False := eq_false (Nat.not_lt.2 (of_eq_true c5b4))
  have c5b1 : decide ((((⟨#[67, 111, 110, 116, 101, 110, 116, 45, 76, 101, 110, 103, 116, 104, 58, 32]⟩ : ByteArray) ++ t101) ++ (⟨#[13, 10, 13, 10]⟩ : ByteArray)).size + a0.size ≤ 9223372036854775807) = true := decide_eq_true c5; try have c5b2 : (9223372036854775807 < (((⟨#[67, 111, 110, 116, 101, 110, 116, 45, 76, 101, 110, 103, 116, 104, 58, 32]⟩ : ByteArray) ++ t101) ++ (⟨#[13, 10, 13, 10]⟩ : ByteArray)).size + a0.size) = False := eq_false (Nat.not_lt.2 c5)
  obtain rfl := Option.some.inj H; go_enter Tryd.func17, Tryd.ntmps17
  go_wp2_with (first | ((with_reducible refine gate_callee (f := 21) rfl ?_); refine goesL_ (some 5) rfl rfl Tryd.func21 (by kernel_rfl) rfl #[.int .i64 (a0.size : Int)] rfl (by (try simp only [List.map_toArray, List.map_cons, List.map_nil]); first | done | rfl | (simp only [List.length_drop, List.length_take]; rfl)) ?_; (with_reducible refine (strconv_Itoa.calls (a0.size : Int) t101 _ (by first | exact HG.out | exact GlobOk.below HG.out (bl HB)) A2.out).mono ?_); rintro e w6 ⟨rfl, hb⟩; refine ⟨_, rfl, ?_⟩; have n0_ := Aside0.mk (below_step (bl HB) hb); clear HB; have HB := n0_; clear n0_; (try clear hb); (try clear hb2); (try clear hk); (try clear hi)))
  go_ret
  exact ⟨by first | rfl | (simp [errW_none, errW_some] <;> rfl) | (simp [*, errW_none, errW_some] <;> rfl), bl HB⟩
 ·rw [if_neg c5] at H; exact absurd H (by simp)
def aw1 : List UInt8 := [67, 111, 110, 116, 101, 110, 116, 45, 76, 101, 110, 103, 116, 104, 58, 32, 50, 13, 10, 13]
def aw2 : List UInt8 := [10, 123, 125, 88, 58, 13, 10, 99, 111, 110, 116, 101, 110, 116, 45, 108, 101, 110, 103, 116, 104, 58, 9, 48, 51, 32, 13, 10, 13, 10, 97, 98, 99]
def aw3 : List UInt8 := [13, 10]
def aw4 : List UInt8 := [97]
def as1 : Go.Proofs.YtbhajflbbjipdaaDoor.XFm.FS := ⟨aw1, false, 0, [], 0⟩
def as2 : Go.Proofs.YtbhajflbbjipdaaDoor.XFm.FS := ⟨[], false, 3, [[123, 125], [97, 98, 99]], 0⟩
def as3 : Go.Proofs.YtbhajflbbjipdaaDoor.XFm.FS := ⟨[], false, 3, [[97, 98, 99]], 0⟩
def as4 : Go.Proofs.YtbhajflbbjipdaaDoor.XFm.FS := ⟨[], false, 3, [], 0⟩
def as5 : Go.Proofs.YtbhajflbbjipdaaDoor.XFm.FS := ⟨[], false, 3, [], 50⟩
theorem fe1 : Go.Proofs.YtbhajflbbjipdaaDoor.XFm.feed Go.Proofs.YtbhajflbbjipdaaDoor.XFm.new aw1 = as1 := Go.Proofs.YtbhajflbbjipdaaDoor.XFm.run_stop (t := as1) rfl (by kernel_rfl)
theorem fe2 : Go.Proofs.YtbhajflbbjipdaaDoor.XFm.feed as1 aw2 = as2 :=
 (Go.Proofs.YtbhajflbbjipdaaDoor.XFm.run_go (s := as1.more aw2) (t := ⟨aw2.drop 1, true, 2, [], 0⟩) rfl (by kernel_rfl)).trans <|
 (Go.Proofs.YtbhajflbbjipdaaDoor.XFm.run_go (t := ⟨aw2.drop 3, false, 2, [[123, 125]], 0⟩) rfl (by kernel_rfl)).trans <|
 (Go.Proofs.YtbhajflbbjipdaaDoor.XFm.run_go (t := ⟨aw2.drop 30, true, 3, [[123, 125]], 0⟩) rfl (by kernel_rfl)).trans <|
 (Go.Proofs.YtbhajflbbjipdaaDoor.XFm.run_go (t := as2) rfl (by kernel_rfl)).trans <|
 Go.Proofs.YtbhajflbbjipdaaDoor.XFm.run_stop rfl (by kernel_rfl)
theorem fe3 : Go.Proofs.YtbhajflbbjipdaaDoor.XFm.feed as4 aw3 = as5 := Go.Proofs.YtbhajflbbjipdaaDoor.XFm.run_stop (s := as4.more aw3) rfl (by kernel_rfl)
theorem fe4 : Go.Proofs.YtbhajflbbjipdaaDoor.XFm.feed as5 aw4 = as5 := rfl
theorem wr_aw : frame_Write.f ⟨#[195, 169]⟩ = some ⟨#[67, 111, 110, 116, 101, 110, 116, 45, 76, 101, 110, 103, 116, 104, 58, 32, 50, 13, 10, 13, 10, 195, 169]⟩ := by kernel_rfl
/-- A literal's bytes: a block of their own. -/
theorem rb_new (w : World) (cs : List UInt8) (fr : Nat × Nat) : Rb (w.alloc (.cells (bv cs).toArray 5 fr)) (some ⟨w.heap.size, 0, none⟩) cs := by
 intro _
 refine ⟨_, rfl, fun j u hu => ?_⟩
 have := World.news_of_block (cs := (bv cs).toArray) (t := 5) (fr := fr) (heap_alloc_new w (.cells (bv cs).toArray 5 fr))
 exact this j u (by simpa using hu)
theorem cvA1 (w : World) : (convert 29 29 (.slice (some ⟨w.heap.size, 0, none⟩) 20 20)).run Tryd.prog (w.alloc (.cells #[.int .u8 67, .int .u8 111, .int .u8 110, .int .u8 116, .int .u8 101, .int .u8 110, .int .u8 116, .int .u8 45, .int .u8 76, .int .u8 101, .int .u8 110, .int .u8 103, .int .u8 116, .int .u8 104, .int .u8 58, .int .u8 32, .int .u8 50, .int .u8 13, .int .u8 10, .int .u8 13] 5)) = .ok (.slice (some ⟨w.heap.size, 0, none⟩) 20 20) (w.alloc (.cells #[.int .u8 67, .int .u8 111, .int .u8 110, .int .u8 116, .int .u8 101, .int .u8 110, .int .u8 116, .int .u8 45, .int .u8 76, .int .u8 101, .int .u8 110, .int .u8 103, .int .u8 116, .int .u8 104, .int .u8 58, .int .u8 32, .int .u8 50, .int .u8 13, .int .u8 10, .int .u8 13] 5 (20, 21))) := Lib.run_convert_bytes_const w _ _ _ 20 20 Tryd.underlying29 Tryd.underlying5
theorem rbA1 (w : World) : Rb (w.alloc (.cells #[.int .u8 67, .int .u8 111, .int .u8 110, .int .u8 116, .int .u8 101, .int .u8 110, .int .u8 116, .int .u8 45, .int .u8 76, .int .u8 101, .int .u8 110, .int .u8 103, .int .u8 116, .int .u8 104, .int .u8 58, .int .u8 32, .int .u8 50, .int .u8 13, .int .u8 10, .int .u8 13] 5 (20, 21))) (some ⟨w.heap.size, 0, none⟩) aw1 := rb_new w aw1 (20, 21)
theorem cvA2 (w : World) : (convert 29 29 (.slice (some ⟨w.heap.size, 0, none⟩) 33 33)).run Tryd.prog (w.alloc (.cells #[.int .u8 10, .int .u8 123, .int .u8 125, .int .u8 88, .int .u8 58, .int .u8 13, .int .u8 10, .int .u8 99, .int .u8 111, .int .u8 110, .int .u8 116, .int .u8 101, .int .u8 110, .int .u8 116, .int .u8 45, .int .u8 108, .int .u8 101, .int .u8 110, .int .u8 103, .int .u8 116, .int .u8 104, .int .u8 58, .int .u8 9, .int .u8 48, .int .u8 51, .int .u8 32, .int .u8 13, .int .u8 10, .int .u8 13, .int .u8 10, .int .u8 97, .int .u8 98, .int .u8 99] 5)) = .ok (.slice (some ⟨w.heap.size, 0, none⟩) 33 33) (w.alloc (.cells #[.int .u8 10, .int .u8 123, .int .u8 125, .int .u8 88, .int .u8 58, .int .u8 13, .int .u8 10, .int .u8 99, .int .u8 111, .int .u8 110, .int .u8 116, .int .u8 101, .int .u8 110, .int .u8 116, .int .u8 45, .int .u8 108, .int .u8 101, .int .u8 110, .int .u8 103, .int .u8 116, .int .u8 104, .int .u8 58, .int .u8 9, .int .u8 48, .int .u8 51, .int .u8 32, .int .u8 13, .int .u8 10, .int .u8 13, .int .u8 10, .int .u8 97, .int .u8 98, .int .u8 99] 5 (33, 34))) := Lib.run_convert_bytes_const w _ _ _ 33 33 Tryd.underlying29 Tryd.underlying5
theorem rbA2 (w : World) : Rb (w.alloc (.cells #[.int .u8 10, .int .u8 123, .int .u8 125, .int .u8 88, .int .u8 58, .int .u8 13, .int .u8 10, .int .u8 99, .int .u8 111, .int .u8 110, .int .u8 116, .int .u8 101, .int .u8 110, .int .u8 116, .int .u8 45, .int .u8 108, .int .u8 101, .int .u8 110, .int .u8 103, .int .u8 116, .int .u8 104, .int .u8 58, .int .u8 9, .int .u8 48, .int .u8 51, .int .u8 32, .int .u8 13, .int .u8 10, .int .u8 13, .int .u8 10, .int .u8 97, .int .u8 98, .int .u8 99] 5 (33, 34))) (some ⟨w.heap.size, 0, none⟩) aw2 := rb_new w aw2 (33, 34)
theorem cvA3 (w : World) : (convert 29 29 (.slice (some ⟨w.heap.size, 0, none⟩) 2 2)).run Tryd.prog (w.alloc (.cells #[.int .u8 13, .int .u8 10] 5)) = .ok (.slice (some ⟨w.heap.size, 0, none⟩) 2 2) (w.alloc (.cells #[.int .u8 13, .int .u8 10] 5 (2, 3))) := Lib.run_convert_bytes_const w _ _ _ 2 2 Tryd.underlying29 Tryd.underlying5
theorem rbA3 (w : World) : Rb (w.alloc (.cells #[.int .u8 13, .int .u8 10] 5 (2, 3))) (some ⟨w.heap.size, 0, none⟩) aw3 := rb_new w aw3 (2, 3)
theorem cvA4 (w : World) : (convert 29 29 (.slice (some ⟨w.heap.size, 0, none⟩) 1 1)).run Tryd.prog (w.alloc (.cells #[.int .u8 97] 5)) = .ok (.slice (some ⟨w.heap.size, 0, none⟩) 1 1) (w.alloc (.cells #[.int .u8 97] 5 (1, 2))) := Lib.run_convert_bytes_const w _ _ _ 1 1 Tryd.underlying29 Tryd.underlying5
theorem rbA4 (w : World) : Rb (w.alloc (.cells #[.int .u8 97] 5 (1, 2))) (some ⟨w.heap.size, 0, none⟩) aw4 := rb_new w aw4 (1, 2)
set_option maxRecDepth 100000 in
set_option maxHeartbeats 4000000 in
theorem glossatorlaw05_awake.calls (w : World) (hG : GlobOk w) : Calls Tryd.prog 13 #[] w fun en w' => en = .returned (.bool true) ∧ Below w.heap.size w w' := by
 have HG := Aside0.mk hG; clear hG; go_enter Tryd.func13, Tryd.ntmps13
 go_upto_region 4 with (go_at_call 8; refine (frame_New.calls w w (Below.refl _ _)).mono ?_; rintro e w1 ⟨B, rfl, hle, hr, _⟩; have H1 := Aside0.mk hr; clear hr hle)
 have hcv := cvA1 w1
 go_upto_region 5 with (go_at_call 10; refine (frame_Reader_Feed.calls w _ HG.out B (.slice none 0 0) (.slice none 0 0) Go.Proofs.YtbhajflbbjipdaaDoor.XFm.new (H1.out.move (below_alloc (Below.refl _ _) _)) _ 20 20 aw1 rfl (rbA1 w1) (by decide)).mono ?_; rintro e wf1 ⟨hv1, tv1, rfl, hr, _⟩; rw [fe1] at hr ⊢; have Hf1 := Aside0.mk hr; clear hr)
 clear hcv; go_upto_region 6 with (go_at_call 12; refine (next_none w wf1 B hv1 tv1 as1 Hf1.out rfl).mono ?_; rintro e w5 ⟨rfl, hw⟩; rw [hw]; clear hw w5)
 have hcv := cvA2 wf1
 go_upto_region 7 with (go_at_call 10; refine (frame_Reader_Feed.calls w _ HG.out B hv1 tv1 as1 (Hf1.out.move (below_alloc (Below.refl _ _) _)) _ 33 33 aw2 rfl (rbA2 wf1) (by decide)).mono ?_; rintro e wf2 ⟨hv2, tv2, rfl, hr, _⟩; rw [fe2] at hr ⊢; have Hf2 := Aside0.mk hr; clear hr)
 clear hcv; go_upto_region 8 with (go_at_call 12; refine (next_some w wf2 B hv2 tv2 as2 Hf2.out [123, 125] [[97, 98, 99]] rfl).mono ?_; rintro e wn1 ⟨tn1, rfl, hr, _, _⟩; have Hn1 := Aside0.mk hr; clear hr)
 go_upto_region 9 with (go_at_call 12; refine (next_some w wn1 B hv2 tn1 as3 Hn1.out [97, 98, 99] [] rfl).mono ?_; rintro e wn2 ⟨tn2, rfl, hr, _, _⟩; have Hn2 := Aside0.mk hr; clear hr)
 have hcv := cvA3 wn2
 go_upto_region 10 with (go_at_call 10; refine (frame_Reader_Feed.calls w _ HG.out B hv2 tn2 as4 (Hn2.out.move (below_alloc (Below.refl _ _) _)) _ 2 2 aw3 rfl (rbA3 wn2) (by decide)).mono ?_; rintro e wf3 ⟨hv3, tv3, rfl, hr, _⟩; rw [fe3] at hr ⊢; have Hf3 := Aside0.mk hr; clear hr)
 clear hcv; have hcv := cvA4 wf3
 go_upto_region 11 with (go_at_call 10; refine (frame_Reader_Feed.calls w _ HG.out B hv3 tv3 as5 (Hf3.out.move (below_alloc (Below.refl _ _) _)) _ 1 1 aw4 rfl (rbA4 wf3) (by decide)).mono ?_; rintro e wf4 ⟨hv4, tv4, rfl, hr, _⟩; rw [fe4] at hr ⊢; have Hf4 := Aside0.mk hr; clear hr)
 clear hcv; go_wp2_with (first | (go_at_call 9; refine (frame_Reader_Dead.calls w wf4 B hv4 tv4 as5 Hf4.out).mono ?_; rintro e w9 ⟨rfl, hw⟩; rw [hw]; clear hw w9) | (go_at_call 17; refine (frame_Write.calls ⟨#[195, 169]⟩ _ wf4 (HG.out.below Hf4.out.below) wr_aw).mono ?_; rintro e w9 ⟨rfl, hb9⟩; have HB9 := Aside0.mk hb9; clear hb9))
 go_ret
 exact ⟨rfl, below_step Hf4.out.below HB9.out⟩
def glossatorlaw05_same.l0 : Nat → List ByteArray → List ByteArray → Int → Option (Bool)
 | 0, _, _, _ => none
 | k + 1, x0, x1, x5 => if x5 < (x0.length : Int) then (if 0 ≤ x5 then (if x5 < (x1.length : Int) then (if (rdOf ByteArray.empty x0 x5).toList = (rdOf ByteArray.empty x1 x5).toList then (glossatorlaw05_same.l0 k x0 x1 (wrap64 (x5 + 1))) else (some false)) else (none)) else (none)) else (some true)
def glossatorlaw05_same.f (k : Nat) (l0 : List ByteArray) (l1 : List ByteArray) : Option (Bool) := if (l0.length : Int) = (l1.length : Int) then (glossatorlaw05_same.l0 k l0 l1 0) else (some false)
theorem glossatorlaw05_same.mono_l : ∀ k, (∀ y0 y1 y2, LeO (glossatorlaw05_same.l0 k y0 y1 y2) (glossatorlaw05_same.l0 (k + 1) y0 y1 y2))
 | 0 => fun _ _ _ r h => by simp [glossatorlaw05_same.l0] at h
 | k + 1 => by
  have ih0 := glossatorlaw05_same.mono_l k
  ·intro y0 y1 y2
   unfold glossatorlaw05_same.l0
   repeat' first
   | (with_reducible exact ih0 _ _ _)
   | (with_reducible exact LeO.refl _)
   | (with_reducible exact LeO.none _)
   | (with_reducible refine LeO.ite ?_ ?_)
   | (with_reducible refine LeO.bind ?_ (fun _ => ?_))
   | exact ih0 _ _ _
   | exact LeO.none _
   | refine LeO.ite ?_ ?_
   | refine LeO.bind ?_ (fun _ => ?_)
theorem glossatorlaw05_same.mono : ∀ a0 a1 k, LeO (glossatorlaw05_same.f k a0 a1) (glossatorlaw05_same.f (k + 1) a0 a1) := by
 intro a0 a1 k
 have ih0 := glossatorlaw05_same.mono_l k
 unfold glossatorlaw05_same.f
 repeat' first
   | (with_reducible exact ih0 _ _ _)
   | (with_reducible exact LeO.refl _)
   | (with_reducible exact LeO.none _)
   | (with_reducible refine LeO.ite ?_ ?_)
   | (with_reducible refine LeO.bind ?_ (fun _ => ?_))
   | exact ih0 _ _ _
   | exact LeO.none _
   | refine LeO.ite ?_ ?_
   | refine LeO.bind ?_ (fun _ => ?_)
set_option maxHeartbeats 8000000 in
set_option maxRecDepth 100000 in
theorem glossatorlaw05_same.calls (k : Nat) (A0 : Option Addr) (c0 : Nat) (l0 : List ByteArray) (A1 : Option Addr) (c1 : Nat) (l1 : List ByteArray) (r : Bool) (w : World) (hr0 : Kd.C Kd.string w A0 l0.length l0) (hc0 : l0.length ≤ c0) (hr1 : Kd.C Kd.string w A1 l1.length l1) (hc1 : l1.length ≤ c1) (h : glossatorlaw05_same.f k l0 l1 = some r) :
  Calls Tryd.prog 16 #[.slice A0 l0.length c0, .slice A1 l1.length c1] w fun e w' => e = .returned (.bool r) ∧ Drawn0 w w' := by
 have HR0 := Aside0.mk hr0; have HC0 := Aside0.mk hc0; clear hr0 hc0; have HR1 := Aside0.mk hr1; have HC1 := Aside0.mk hc1; clear hr1 hc1; have H : (if (l0.length : Int) = (l1.length : Int) then (glossatorlaw05_same.l0 k l0 l1 0) else (some false)) = some r := h
 clear h; by_cases c3 : (l0.length : Int) = (l1.length : Int)
 rotate_left
 ·rw [if_neg c3] at H; have c3b0 : ((l0.length : Int) == (l1.length : Int)) = false := beq_eq_false_iff_ne.mpr c3; have c3b1 : ((l0.length : Int) != (l1.length : Int)) = true := bne_iff_ne.mpr c3; have c3b2 : (l0.length == l1.length) = false := by first | simpa using c3 | (simp at c3 ⊢; omega)
  obtain rfl := Option.some.inj H; go_enter Tryd.func16, Tryd.ntmps16
  go_wp2
  repeat (go_quiet (fail); try go_wp2)
  go_ret
  exact ⟨by first | rfl | (simp; done) | (simp [*]; done) | (simp; exact xEmpty_ne _) | (simp [*]; exact xEmpty_ne _), by repeat (first | exact Drawn0.refl _ | apply Drawn0.step)⟩
 rw [if_pos c3] at H; have c3b0 : ((l0.length : Int) == (l1.length : Int)) = true := beq_iff_eq.mpr c3
 have c3b1 : ((l0.length : Int) != (l1.length : Int)) = false := bne_eq_false_iff_eq.mpr c3
 have c3b2 : (l0.length == l1.length) = true := by first | simpa using c3 | (simp at c3 ⊢; omega)
 clear c3; have H' := Aside0.mk H; clear H; go_enter Tryd.func16, Tryd.ntmps16
 go_wp2
 repeat (go_quiet (fail); try go_wp2)
 go_loopg [5] k (fun kq v5 w' => ∃ (x5_1 : Int), v5 = .int .i64 x5_1 ∧ Aside0 (glossatorlaw05_same.l0 kq l0 l1 x5_1 = some r) ∧ Aside0 (kq ≤ k) ∧ Drawn0 w w')
 case atStart => exact ⟨(0), (by first | rfl | (simp; done) | (simp [*]; done) | (simp; exact xEmpty_ne _) | (simp [*]; exact xEmpty_ne _)), H', ⟨Nat.le_refl _⟩, by repeat (first | exact Drawn0.refl _ | apply Drawn0.step)⟩
 case round =>
  clear H'; (try clear c1); (try clear p2); (try clear c3); (try clear c3b0); (try clear c3b1); (try clear c3b2); obtain ⟨x5_1, rfl, HA, HK1, ⟨m1, rfl⟩⟩ := hrel
  cases gk with
  | zero => exact absurd HA.out (by simp [glossatorlaw05_same.l0])
  | succ k1 =>
   have H := HA.out
   clear HA; simp only [glossatorlaw05_same.l0] at H
   by_cases c4 : x5_1 < (l0.length : Int)
   rotate_left
   ·rw [if_neg c4] at H; have c4b0 : decide (x5_1 < (l0.length : Int)) = false := decide_eq_false c4; clear c4; obtain rfl := Option.some.inj H; go_wp2
    repeat (go_quiet (fail); try go_wp2)
    go_ret
    exact ⟨by first | rfl | (simp; done) | (simp [*]; done) | (simp; exact xEmpty_ne _) | (simp [*]; exact xEmpty_ne _), by repeat (first | exact Drawn0.refl _ | apply Drawn0.step)⟩
   rw [if_pos c4] at H; have c4b0 : decide (x5_1 < (l0.length : Int)) = true := decide_eq_true c4; clear c4; by_cases c5 : 0 ≤ x5_1
   rotate_left
   ·rw [if_neg c5] at H; exact absurd H (by simp)
   rw [if_pos c5] at H; have c5b0 : decide (0 ≤ x5_1) = true := decide_eq_true c5; clear c5; by_cases c6 : x5_1 < (l1.length : Int)
   rotate_left
   ·rw [if_neg c6] at H; exact absurd H (by simp)
   rw [if_pos c6] at H; have c6b0 : decide (x5_1 < (l1.length : Int)) = true := decide_eq_true c6; clear c6; by_cases c7 : (rdOf ByteArray.empty l0 x5_1).toList = (rdOf ByteArray.empty l1 x5_1).toList
   ·rw [if_pos c7] at H; have c7b0 : ((rdOf ByteArray.empty l0 x5_1).toList == (rdOf ByteArray.empty l1 x5_1).toList) = true := beq_iff_eq.mpr c7
    have c7b1 : ((rdOf ByteArray.empty l0 x5_1).toList != (rdOf ByteArray.empty l1 x5_1).toList) = false := bne_eq_false_iff_eq.mpr c7
    clear c7; have H' := Aside0.mk H; clear H; have p102 : 0 ≤ (x5_1 : Int) := of_decide_eq_true (by first | (with_reducible assumption) | assumption)
    have q102 : x5_1 < (l0.length : Int) := of_decide_eq_true (by first | (with_reducible assumption) | assumption)
    obtain ⟨ad102, e102, hx102_0⟩ := Kd.at_string HR0.out x5_1 p102 q102
    cases e102; replace p102 := eq_true p102; replace q102 := eq_true q102; have p103 : 0 ≤ (x5_1 : Int) := of_decide_eq_true (by first | (with_reducible assumption) | assumption)
    have q103 : x5_1 < (l1.length : Int) := of_decide_eq_true (by first | (with_reducible assumption) | assumption)
    obtain ⟨ad103, e103, hx103_0⟩ := Kd.at_string HR1.out x5_1 p103 q103
    cases e103; replace p103 := eq_true p103; replace q103 := eq_true q103; go_wp2
    repeat (go_quiet (fail); try go_wp2)
    go_roundg k1
    case measure => have := HK1.out; omega
    case rel => exact ⟨(wrap64 (x5_1 + 1)), (by first | rfl | (simp; done) | (simp [*]; done) | (simp; exact xEmpty_ne _) | (simp [*]; exact xEmpty_ne _)), H', ⟨by have := HK1.out; omega⟩, by repeat (first | exact Drawn0.refl _ | apply Drawn0.step)⟩
   ·rw [if_neg c7] at H; have c7b0 : ((rdOf ByteArray.empty l0 x5_1).toList == (rdOf ByteArray.empty l1 x5_1).toList) = false := beq_eq_false_iff_ne.mpr c7; have c7b1 : ((rdOf ByteArray.empty l0 x5_1).toList != (rdOf ByteArray.empty l1 x5_1).toList) = true := bne_iff_ne.mpr c7; obtain rfl := Option.some.inj H; have p102 : 0 ≤ (x5_1 : Int) := of_decide_eq_true (by first | (with_reducible assumption) | assumption)
    have q102 : x5_1 < (l0.length : Int) := of_decide_eq_true (by first | (with_reducible assumption) | assumption)
    obtain ⟨ad102, e102, hx102_0⟩ := Kd.at_string HR0.out x5_1 p102 q102
    cases e102; replace p102 := eq_true p102; replace q102 := eq_true q102; have p103 : 0 ≤ (x5_1 : Int) := of_decide_eq_true (by first | (with_reducible assumption) | assumption)
    have q103 : x5_1 < (l1.length : Int) := of_decide_eq_true (by first | (with_reducible assumption) | assumption)
    obtain ⟨ad103, e103, hx103_0⟩ := Kd.at_string HR1.out x5_1 p103 q103
    cases e103; replace p103 := eq_true p103; replace q103 := eq_true q103; go_wp2
    repeat (go_quiet (fail); try go_wp2)
    go_ret
    exact ⟨by first | rfl | (simp; done) | (simp [*]; done) | (simp; exact xEmpty_ne _) | (simp [*]; exact xEmpty_ne _), by repeat (first | exact Drawn0.refl _ | apply Drawn0.step)⟩
end Go.Proofs.YtbhajflbbjipdaaDoor.Q

end
section
namespace Go.Proofs.YtbhajflbbjipdaaDoor.Q
open Go.RowKit Go.Proofs.YtbhajflbbjipdaaDoorW.PrintWords Go.Proofs.YtbhajflbbjipdaaDoorW.PrintLast Go.Proofs.YtbhajflbbjipdaaDoorW.PrintMore
attribute [local go_sem] max2_int min2_int max_two min_two max_three min_three max_four min_four   
set_option linter.unusedVariables false
set_option linter.unusedSimpArgs false
def Dj (V V' : Value) : Prop := ∀ k, V.ownBlock = some k → V'.ownBlock ≠ some k
structure Two (w0 : World) (B1 : Nat) (H1 T1 : Value) (s1 : Go.Proofs.YtbhajflbbjipdaaDoor.XFm.FS) (B2 : Nat) (H2 T2 : Value) (s2 : Go.Proofs.YtbhajflbbjipdaaDoor.XFm.FS) (w : World) : Prop where
 a : RdF w0 B1 H1 T1 s1 w
 b : RdF w0 B2 H2 T2 s2 w
 ne : B1 ≠ B2
 h : Dj H1 H2
 t : Dj T1 T2
theorem Dj.symm {V V' : Value} (h : Dj V V') : Dj V' V := fun k h1 h2 => h k h2 h1
theorem Two.symm {w0 w : World} {B1 B2 : Nat} {H1 T1 H2 T2 : Value} {s1 s2 : Go.Proofs.YtbhajflbbjipdaaDoor.XFm.FS} (h : Two w0 B1 H1 T1 s1 B2 H2 T2 s2 w) : Two w0 B2 H2 T2 s2 B1 H1 T1 s1 w := ⟨h.b, h.a, fun e => h.ne e.symm, h.h.symm, h.t.symm⟩
theorem Two.move {w0 w w' : World} {B1 B2 : Nat} {H1 T1 H2 T2 : Value} {s1 s2 : Go.Proofs.YtbhajflbbjipdaaDoor.XFm.FS} (h : Two w0 B1 H1 T1 s1 B2 H2 T2 s2 w) (hb : Below w.heap.size w w') : Two w0 B1 H1 T1 s1 B2 H2 T2 s2 w' := ⟨h.a.move hb, h.b.move hb, h.ne, h.h, h.t⟩
theorem Nw.dj {w : World} {V V' U : Value} (h : Nw w V V') (hd : Dj V U) (hU : ∀ k, U.ownBlock = some k → k < w.heap.size) : Dj V' U := by
 intro k h1 h2
 rcases h with h | h | ⟨b, h, hb⟩
 ·rw [h] at h1; cases h1
 ·exact hd k (h ▸ h1) h2
 ·rw [h] at h1
  injection h1 with h1
  subst h1; have := hU b h2
  omega
theorem Two.left {w0 w w' : World} {B1 B2 : Nat} {H1 T1 H2 T2 H1' T1' : Value} {s1 s2 s1' : Go.Proofs.YtbhajflbbjipdaaDoor.XFm.FS} (h : Two w0 B1 H1 T1 s1 B2 H2 T2 s2 w) (hr : RdF w0 B1 H1' T1' s1' w') (hf : Fr w w' B1 H1 T1 H1' T1') : Two w0 B1 H1' T1' s1' B2 H2 T2 s2 w' := by
 refine ⟨hr, h.b.keep hr.below ?_, h.ne, hf.h.dj h.h (fun k => q_lt h.b.hand k), hf.t.dj h.t (fun k => q_lt h.b.told k)⟩
 rintro k hk (rfl | e | e)
 ·refine hf.keep k hk (fun e => h.ne e.symm) (fun e => ?_) (fun e => ?_)
  ·exact q_not h.a.hand h.b.blk (by decide) k e.symm rfl
  ·exact q_not h.a.told h.b.blk (by decide) k e.symm rfl
 ·refine hf.keep k hk (fun e' => ?_) (fun e' => h.h k e'.symm e.symm) (fun e' => ?_)
  ·exact q_not h.b.hand h.a.blk (by decide) k e.symm e'
  ·obtain ⟨_, c1, hc1⟩ := q_typed h.b.hand k e.symm
   obtain ⟨_, c2, hc2⟩ := q_typed h.a.told k e'.symm
   rw [hc1] at hc2
   injection hc2 with hc2
   injection hc2 with _ hc2
   exact absurd hc2 (by decide)
 ·refine hf.keep k hk (fun e' => ?_) (fun e' => ?_) (fun e' => h.t k e'.symm e.symm)
  ·exact q_not h.b.told h.a.blk (by decide) k e.symm e'
  ·obtain ⟨_, c1, hc1⟩ := q_typed h.b.told k e.symm
   obtain ⟨_, c2, hc2⟩ := q_typed h.a.hand k e'.symm
   rw [hc1] at hc2
   injection hc2 with hc2
   injection hc2 with _ hc2
   exact absurd hc2 (by decide)
theorem Two.first {w0 w w' : World} {B1 B2 : Nat} {H1 T1 : Value} {s1 : Go.Proofs.YtbhajflbbjipdaaDoor.XFm.FS} (h : RdF w0 B1 H1 T1 s1 w) (hb : Below w.heap.size w w') (hle : w.heap.size ≤ B2) {s2 : Go.Proofs.YtbhajflbbjipdaaDoor.XFm.FS} (h2 : RdF w0 B2 (.slice none 0 0) (.slice none 0 0) s2 w') : Two w0 B1 H1 T1 s1 B2 (.slice none 0 0) (.slice none 0 0) s2 w' :=
 ⟨h.move hb, h2, fun e => by have := blk_lt h.blk; omega, (fun _ _ h => by cases h), (fun _ _ h => by cases h)⟩
/-- A row of one's own, made behind a reader's last call, stays when the reader goes on. -/
theorem row_keep {w0 w w1 w2 : World} {B n : Nat} {HV TV HV' TV' V : Value} {st : Go.Proofs.YtbhajflbbjipdaaDoor.XFm.FS} {e : TypeId} {xs : List Value} (h : RdF w0 B HV TV st w) (hq : QRow w1 w.heap.size e 1 V n xs) (hf : Fr w1 w2 B HV TV HV' TV') : QRow w2 w.heap.size e 1 V n xs := by
 refine q_move hq fun k hk => ?_
 have h1 := (q_typed hq k hk).1
 refine hf.keep k (q_lt hq k hk) (fun e => ?_) (fun e => ?_) (fun e => ?_)
 ·have := blk_lt h.blk; omega
 ·have := q_lt h.hand k e.symm; omega
 ·have := q_lt h.told k e.symm; omega
theorem q_rb {w : World} {base n c : Nat} {A : Option Addr} {cs : List UInt8} (h : QRow w base 5 1 (.slice A n c) n (bv cs)) : Rb w A cs := by
 intro h0
 have : n = cs.length := by have := h.1; rw [bv_len] at this; omega
 exact q_cells h (by omega)
/-- Bytes that came in. -/
theorem rb_ints {w : World} {A : Option Addr} {l : List Int} (h : Kd.C (Kd.int .u8) w A l.length l) (cs : List UInt8) (hl : l = cs.map fun c => (c.toNat : Int)) : Rb w A cs := by
 intro h0
 obtain ⟨ad, rfl, hc⟩ := (Kd.reads_of_C (enc := Value.int .u8) (d := (0 : Int)) (h1 := fun _ => rfl) h).2.2 (by rw [hl, List.length_map]; exact h0)
 refine ⟨ad, rfl, fun j u hu => ?_⟩
 have hj : j < cs.length := by
  have := (List.getElem?_eq_some_iff.1 hu).1
  rwa [bv_len] at this
 rw [hc j (by rw [hl, List.length_map]; exact hj)]
 simp [bv, List.getElem?_eq_getElem hj] at hu
 rw [← hu, hl]
 simp [List.getElem?_eq_getElem hj, List.getD_eq_getElem?_getD]
def sb (l : List (List UInt8)) : List ByteArray := l.map fun b => ⟨b.toArray⟩
theorem sb_len (l : List (List UInt8)) : (sb l).length = l.length := List.length_map ..
theorem sb_inj {a b : List (List UInt8)} : sb a = sb b ↔ a = b := by
 constructor
 ·intro h
  have := congrArg (List.map fun x : ByteArray => x.data.toList) h
  simpa [sb, Function.comp_def] using this
 ·intro h; rw [h]
theorem q_C {W : World} {base n c : Nat} {A : Option Addr} {l : List (List UInt8)} (h : QRow W base 9 1 (.slice A n c) n (sv l)) : Kd.C Kd.string W A (sb l).length (sb l) := by
 have hn : n = l.length := by have := h.1; rw [sv_len] at this; omega
 refine Kd.C_of_reads (enc := Value.string) (d := ByteArray.empty) (h1 := fun _ => rfl) ⟨rfl, by rw [sb_len, ← hn]; exact q_max h, fun h0 => ?_⟩
 rw [sb_len] at h0
 obtain ⟨ad, rfl, hc⟩ := q_cells h (by omega)
 refine ⟨ad, rfl, fun j hj => hc j _ ?_⟩
 rw [sb_len] at hj
 simp [sv, sb, List.getElem?_eq_getElem hj, List.getD_eq_getElem?_getD]
theorem same_l0 (x y : List ByteArray) (hl : x.length = y.length) (hx : x.length ≤ 1000000) : ∀ (n m : Nat), x.length ≤ m + n → m ≤ x.length → x.take m = y.take m → glossatorlaw05_same.l0 (n + 1) x y m = some (decide (x = y)) := by
 intro n
 induction n with
 | zero =>
  intro m h1 h2 h3
  obtain rfl : m = x.length := by omega
  rw [List.take_length, hl, List.take_length] at h3
  unfold glossatorlaw05_same.l0
  rw [if_neg (by omega), decide_eq_true h3]
 | succ n ih =>
  intro m h1 h2 h3
  unfold glossatorlaw05_same.l0
  by_cases hm : m < x.length
  ·rw [if_pos (by omega), if_pos (by omega), if_pos (by omega)]
   have ex : rdOf ByteArray.empty x (m : Int) = x[m] := by simp [rdOf, List.getD_eq_getElem?_getD, List.getElem?_eq_getElem hm]
   have ey : rdOf ByteArray.empty y (m : Int) = y[m] := by simp [rdOf, List.getD_eq_getElem?_getD, List.getElem?_eq_getElem (show m < y.length by omega)]
   rw [ex, ey]
   by_cases he : x[m] = y[m]
   ·rw [if_pos (by rw [he]), Go.Proofs.YtbhajflbbjipdaaDoor.XEv.w1 m (by omega)]
    refine ih (m + 1) (by omega) (by omega) ?_
    rw [List.take_succ_eq_append_getElem hm, List.take_succ_eq_append_getElem (show m < y.length by omega), h3, he]
   ·rw [if_neg (fun e => he (by rw [ByteArray.toList_eq, ByteArray.toList_eq] at e; exact ByteArray.ext (Array.toList_inj.1 e)))]
    rw [decide_eq_false (fun e => he (by subst e; rfl))]
  ·obtain rfl : m = x.length := by omega
   rw [List.take_length, hl, List.take_length] at h3
   rw [if_neg (by omega), decide_eq_true h3]
theorem same_f (x y : List ByteArray) (hx : x.length ≤ 1000000) : glossatorlaw05_same.f (x.length + 1) x y = some (decide (x = y)) := by
 unfold glossatorlaw05_same.f
 by_cases hl : x.length = y.length
 ·rw [if_pos (by omega)]
  exact same_l0 x y hl hx x.length 0 (by omega) (by omega) (by simp)
 ·rw [if_neg (by omega), decide_eq_false (fun e => hl (by rw [e]))]
theorem same_q {w : World} {b1 b2 n m c d : Nat} {A1 A2 : Option Addr} {x y : List (List UInt8)} (h1 : QRow w b1 9 1 (.slice A1 n c) n (sv x)) (h2 : QRow w b2 9 1 (.slice A2 m d) m (sv y)) (hx : x.length ≤ 1000000) :
  Calls Tryd.prog 16 #[.slice A1 n c, .slice A2 m d] w fun e w' => e = .returned (.bool (decide (x = y))) ∧ Below w.heap.size w w' := by
 have e1 : n = (sb x).length := by have := h1.1; rw [sv_len] at this; rw [sb_len]; omega
 have e2 : m = (sb y).length := by have := h2.1; rw [sv_len] at this; rw [sb_len]; omega
 have c1 : n ≤ c := by obtain ⟨_, _, he, hc⟩ := q_slice h1; injection he with _ _ e3; omega
 have c2 : m ≤ d := by obtain ⟨_, _, he, hc⟩ := q_slice h2; injection he with _ _ e3; omega
 have hC1 := q_C h1
 have hC2 := q_C h2
 clear h1 h2; subst e1 e2
 refine (glossatorlaw05_same.calls _ A1 c (sb x) A2 d (sb y) (decide (sb x = sb y)) w hC1 c1 hC2 c2 (same_f (sb x) (sb y) (by rw [sb_len]; exact hx))).mono ?_
 rintro e w' ⟨rfl, q, rfl⟩
 exact ⟨by rw [show decide (sb x = sb y) = decide (x = y) from decide_eq_decide.2 sb_inj], below_drewN w q⟩
def okB (l : List Int) : Bool := l.all fun x => decide (0 ≤ x) && decide (x < 256)
def u8s (l : List Int) : List UInt8 := l.map fun x => UInt8.ofNat x.toNat
theorem u8s_back {l : List Int} (h : okB l = true) : l = (u8s l).map fun c => (c.toNat : Int) := by
 unfold u8s
 rw [List.map_map]
 refine ((List.map_congr_left fun x hx => ?_).trans (List.map_id l)).symm
 have := List.all_eq_true.1 h x hx
 simp only [Bool.and_eq_true, decide_eq_true_eq] at this
 show (((UInt8.ofNat x.toNat).toNat : Nat) : Int) = x
 rw [UInt8.toNat_ofNat']
 omega
theorem u8s_len (l : List Int) : (u8s l).length = l.length := List.length_map ..
/-- An empty row of one's own, just made. -/
theorem q_new (w : World) (base : Nat) (hb : base ≤ w.heap.size) : QRow (w.alloc (.cells #[] 5 (0, 0))) base 5 1 (.slice (some ⟨w.heap.size, 0, none⟩) 0 0) 0 [] :=
 ⟨rfl, .inl ⟨rfl, _, rfl, fun a ha => by injection ha with ha; subst ha; exact ⟨hb, _, heap_alloc_new w _⟩⟩⟩
theorem grown_below {w w' : World} {V : Value} (b : Nat) (hg : w.grownBy w' V.ownBlock) (hV : ∀ k, V.ownBlock = some k → b ≤ k) (hb : b ≤ w.heap.size) : Below b w w' :=
 ⟨hg.os, hg.tape, hg.output, hg.size, fun k hk => hg.block k (Nat.lt_of_lt_of_le hk hb) (fun e => by have := hV k e.symm; omega)⟩
theorem ite_told {c : Prop} [Decidable c] {r : Bool} (h : (if c then some true else none) = some r) : c ∧ r = true := by
 by_cases hc : c
 ·rw [if_pos hc] at h
  exact ⟨hc, (Option.some.inj h).symm⟩
 ·rw [if_neg hc] at h
  cases h
theorem Rb.move {w w' : World} {A : Option Addr} {cs : List UInt8} (h : Rb w A cs) (hb : Below w.heap.size w w') : Rb w' A cs := by
 intro h0
 obtain ⟨ad, rfl, hc⟩ := h h0
 exact ⟨ad, rfl, fun j u hu => pw_cell_below hb (hc j u hu)⟩
/-- A copy of bytes. -/
theorem app_new {w3 w4 : World} {v1 : Value} {bs : List UInt8} {m : Nat} {fr : Nat × Nat} (hq : QRow w4 w3.heap.size 5 1 v1 (([] : List Value).length + m) ([] ++ bv bs)) (hg : (w3.alloc (.cells #[] 5 fr)).grownBy w4 (Value.slice (some ⟨w3.heap.size, 0, none⟩) 0 0).ownBlock) :
  QRow w4 w3.heap.size 5 1 v1 m (bv bs) ∧ Below w3.heap.size w3 w4 := by
 refine ⟨by simpa using hq, ?_⟩
 have h1 := grown_below (V := Value.slice (some ⟨w3.heap.size, 0, none⟩) 0 0) w3.heap.size hg (fun k hk => by simp [Value.ownBlock] at hk; omega) (by rw [World.size_alloc]; omega)
 have h2 : Below w3.heap.size w3 (w3.alloc (.cells #[] 5 fr)) := below_alloc (Below.refl _ _) _
 exact ⟨h1.os.trans h2.os, h1.tape.trans h2.tape, h1.output.trans h2.output, Nat.le_trans h2.size h1.size, fun k hk => (h1.block k hk).trans (h2.block k hk)⟩
theorem app_more {w4 w5 : World} {base m m2 : Nat} {v v1 : Value} {a b : List UInt8} (hq0 : QRow w4 base 5 1 v m (bv a)) (hm : a.length = m) (hq : QRow w5 base 5 1 v1 ((bv a).length + m2) (bv a ++ bv b)) (hg : w4.grownBy w5 v.ownBlock) (hb : base ≤ w4.heap.size) :
  QRow w5 base 5 1 v1 (m + m2) (bv (a ++ b)) ∧ Below base w4 w5 := by
 rw [bv_len, hm, ← bv_app] at hq
 exact ⟨hq, grown_below base hg (fun k hk => (q_typed hq0 k hk).1) hb⟩
theorem Below.tr {b : Nat} {w w1 w2 : World} (h : Below b w w1) (h2 : Below b w1 w2) : Below b w w2 := ⟨h2.os.trans h.os, h2.tape.trans h.tape, h2.output.trans h.output, Nat.le_trans h.size h2.size, fun k hk => (h2.block k hk).trans (h.block k hk)⟩
theorem run_size : ∀ (n : Nat) (s : Go.Proofs.YtbhajflbbjipdaaDoor.XFm.FS), s.mu ≤ n → (Go.Proofs.YtbhajflbbjipdaaDoor.XFm.run s).told.length ≤ s.told.length + n + 1 := by
 intro n
 induction n with
 | zero =>
  intro s h
  by_cases hd : s.dead = 0
  ·cases ht : Go.Proofs.YtbhajflbbjipdaaDoor.XFm.turn s with
   | mk x t =>
    cases x with
    | false => rw [Go.Proofs.YtbhajflbbjipdaaDoor.XFm.run_stop hd ht]; have := (turn_size ht).2; omega
    | true => have := Go.Proofs.YtbhajflbbjipdaaDoor.XFm.turn_mu ht; omega
  ·rw [Go.Proofs.YtbhajflbbjipdaaDoor.XFm.run_dead hd]; omega
 | succ n ih =>
  intro s h
  by_cases hd : s.dead = 0
  ·cases ht : Go.Proofs.YtbhajflbbjipdaaDoor.XFm.turn s with
   | mk x t =>
    have h2 := (turn_size ht).2
    cases x with
    | false => rw [Go.Proofs.YtbhajflbbjipdaaDoor.XFm.run_stop hd ht]; omega
    | true =>
     have h1 := Go.Proofs.YtbhajflbbjipdaaDoor.XFm.turn_mu ht
     rw [Go.Proofs.YtbhajflbbjipdaaDoor.XFm.run_go hd ht]
     have := ih t (by omega)
     omega
  ·rw [Go.Proofs.YtbhajflbbjipdaaDoor.XFm.run_dead hd]; omega
theorem after_size (b : List UInt8) (n : Nat) (hn : b.length ≤ n) : (Go.Proofs.YtbhajflbbjipdaaDoor.XFm.after b).told.length ≤ 2 * n + 2 := by
 have h : (Go.Proofs.YtbhajflbbjipdaaDoor.XFm.new.more b).mu ≤ 2 * n + 1 := by
  unfold Go.Proofs.YtbhajflbbjipdaaDoor.XFm.FS.mu
  show 2 * ([] ++ b).length + _ ≤ _
  rw [List.nil_append]
  split <;> omega
 have := run_size _ _ h
 have e : (Go.Proofs.YtbhajflbbjipdaaDoor.XFm.new.more b).told.length = 0 := rfl
 unfold Go.Proofs.YtbhajflbbjipdaaDoor.XFm.after
 omega
theorem feed_new (b : List UInt8) : Go.Proofs.YtbhajflbbjipdaaDoor.XFm.feed Go.Proofs.YtbhajflbbjipdaaDoor.XFm.new b = Go.Proofs.YtbhajflbbjipdaaDoor.XFm.after b := by
 rw [← Go.Proofs.YtbhajflbbjipdaaDoor.XFm.after_nil, Go.Proofs.YtbhajflbbjipdaaDoor.XFm.feed_after, List.nil_append]
def glossatorlaw05_FrameDies.f (_ : Nat) (l0 l1 : List Int) : Option Bool := if okB l0 = true ∧ okB l1 = true ∧ l0.length + l1.length ≤ 1152921504606846976 then some true else none
theorem glossatorlaw05_FrameDies.mono : ∀ a0 l1 k, LeO (glossatorlaw05_FrameDies.f k a0 l1) (glossatorlaw05_FrameDies.f (k + 1) a0 l1) := fun _ _ _ => LeO.refl _
set_option maxRecDepth 100000 in
set_option maxHeartbeats 8000000 in
theorem glossatorlaw05_FrameDies.calls (k : Nat) (A0 : Option Addr) (c0 : Nat) (l0 : List Int) (A1 : Option Addr) (c1 : Nat) (l1 : List Int) (r : Bool) (w : World) (hr0 : Kd.C (Kd.int .u8) w A0 l0.length l0) (hc0 : l0.length ≤ c0) (hr1 : Kd.C (Kd.int .u8) w A1 l1.length l1) (hc1 : l1.length ≤ c1) (hG : GlobOk w) (h : glossatorlaw05_FrameDies.f k l0 l1 = some r) :
  Calls Tryd.prog 6 #[.slice A0 l0.length c0, .slice A1 l1.length c1] w fun e w' => e = .returned (.bool r) ∧ Below w.heap.size w w' := by
 unfold glossatorlaw05_FrameDies.f at h
 obtain ⟨hok, h⟩ := ite_told h
 subst h; obtain ⟨ok0, ok1, hl⟩ := hok
 have hR0 := Aside0.mk (rb_ints hr0 (u8s l0) (u8s_back ok0))
 have hR1 := Aside0.mk (rb_ints hr1 (u8s l1) (u8s_back ok1))
 have HG := Aside0.mk hG; have hL0 := Aside0.mk (u8s_len l0)
 have hL1 := Aside0.mk (u8s_len l1)
 have HC0 := Aside0.mk hc0; have HC1 := Aside0.mk hc1; generalize u8s l0 = bs at *
 generalize u8s l1 = ms at *
 have hw : wrap64 ((l0.length : Int) + (l1.length : Int)) = (l0.length : Int) + (l1.length : Int) := by unfold wrap64; omega
 by_cases hs : 20000 < l0.length + l1.length
 ·have t : decide ((20000 : Int) < (l0.length : Int) + (l1.length : Int)) = true := decide_eq_true (by omega)
  clear hr0 hr1 hc0 hc1 hl hG ok0 ok1 hs; go_enter Tryd.func6, Tryd.ntmps6
  go_wp2_with ((go_at_call 13; refine (glossatorlaw05_awake.calls w HG.out).mono ?_; rintro e w1 ⟨rfl, hb⟩; have HB1 := Aside0.mk hb; clear hb))
  all_goals (go_ret; exact ⟨rfl, HB1.out⟩)
 ·have t : decide ((20000 : Int) < (l0.length : Int) + (l1.length : Int)) = false := decide_eq_false (by omega)
  have HS := Aside0.mk (show l0.length + l1.length ≤ 20000 by omega)
  obtain ⟨s1, hs1⟩ : ∃ s, s = Go.Proofs.YtbhajflbbjipdaaDoor.XFm.after bs := ⟨_, rfl⟩
  obtain ⟨s2, hs2⟩ : ∃ s, s = Go.Proofs.YtbhajflbbjipdaaDoor.XFm.after (bs ++ ms) := ⟨_, rfl⟩
  have HS1 := Aside0.mk ((feed_new bs).trans hs1.symm)
  have HS2 := Aside0.mk ((feed_new (bs ++ ms)).trans hs2.symm)
  have HZ1 := Aside0.mk (show s1.told.length ≤ 100000 by rw [hs1]; have := after_size bs 20000 (by have := hL0.out; omega); omega)
  have HZ2 := Aside0.mk (show s2.told.length ≤ 100000 by rw [hs2]; have := after_size (bs ++ ms) 20000 (by have := hL0.out; have := hL1.out; rw [List.length_append]; omega); omega)
  have HE := Aside0.mk (show s1.dead = 0 ∨ s1.dead = 50 ∨ s1.dead = 51 by rw [hs1]; exact Go.Proofs.YtbhajflbbjipdaaDoor.XFm.after_err bs)
  have HF := Aside0.mk (show s2 = Go.Proofs.YtbhajflbbjipdaaDoor.XFm.feed s1 ms by rw [hs1, hs2, Go.Proofs.YtbhajflbbjipdaaDoor.XFm.feed_after])
  clear hr0 hr1 hc0 hc1 hl hG ok0 ok1 hs hs1 hs2; go_enter Tryd.func6, Tryd.ntmps6
  go_upto_region 5 with ((go_at_call 13; refine (glossatorlaw05_awake.calls w HG.out).mono ?_; rintro e w1 ⟨rfl, hb⟩; have HB1 := Aside0.mk hb; clear hb))
  go_upto_region 6 with (first | (go_at_call 8; have hq := HX2.out; clear hq; refine (frame_New.calls w w2 HX2.out.below).mono ?_; rintro e w3 ⟨B2, rfl, hle, hr, hb⟩; have HT3 := Aside0.mk (Two.first HX2.out hb hle hr); clear hr hle hb) | (go_at_call 8; refine (frame_New.calls w w1 HB1.out).mono ?_; rintro e w2 ⟨B1, rfl, hle, hr, hb⟩; have HX2 := Aside0.mk hr; clear hr hle hb))
  go_upto_region 7 with (first | ((with_reducible refine gate_builtin (b := .append) (xs := #[.tmp 21, .tmp 22]) rfl ?_); at_builtin; refine qrow_put w3.heap.size rfl (.tmp 21) (.tmp 22) 29 5 (.int .u8 0) 1 rfl Tryd.underlying29 (by kernel_rfl) rfl (by decide) (.slice (some ⟨w3.heap.size, 0, none⟩) 0 0) [] A0 l0.length c0 (bv bs) (by rw [bv_len]; exact hL0.out) (fun h0 => (hR0.out.move (below_step HT3.out.a.below (below_alloc (Below.refl _ _) _))) (by have := hL0.out; omega)) (bv_one bs) (by simp [Act.eval, Act.put]) (by simp [Act.eval, Act.put]) (q_new w3 w3.heap.size (Nat.le_refl _)) (by simp only [World.size_alloc]; omega) (by have := HS.out; have := hL0.out; have := hL1.out; simp [bv_len]; omega) ?_; intro v1 w4 hq1 hg1 _; have hz := app_new hq1 hg1; obtain ⟨A4, c4, rfl, _⟩ := q_slice hz.1; have HQ4 := Aside0.mk hz.1; have HT4 := Aside0.mk (HT3.out.move hz.2); clear hz hq1 hg1) | (go_at_call 10; refine (frame_Reader_Feed.calls w w4 HG.out B1 (.slice none 0 0) (.slice none 0 0) Go.Proofs.YtbhajflbbjipdaaDoor.XFm.new HT4.out.a A4 l0.length c4 bs hL0.out (q_rb HQ4.out) (by show 4 * (0 + l0.length) + 0 ≤ 900000; have := HS.out; omega)).mono ?_; rintro e w5 ⟨hv1, tv1, rfl, hr, hf⟩; rw [if_pos (show Go.Proofs.YtbhajflbbjipdaaDoor.XFm.new.dead = 0 from rfl), HS1.out]; rw [HS1.out] at hr; have HT5 := Aside0.mk (HT4.out.left hr hf); clear hr hf))
  go_upto_region 8 with (first | ((with_reducible refine gate_builtin (b := .append) (xs := #[.tmp 28, .tmp 29]) rfl ?_); at_builtin; refine qrow_put w5.heap.size rfl (.tmp 28) (.tmp 29) 29 5 (.int .u8 0) 1 rfl Tryd.underlying29 (by kernel_rfl) rfl (by decide) (.slice A6 l0.length c6) (bv bs) A1 l1.length c1 (bv ms) (by rw [bv_len]; exact hL1.out) (fun h0 => (hR1.out.move HT6.out.a.below) (by have := hL1.out; omega)) (bv_one ms) (by simp [Act.eval, Act.put]) (by simp [Act.eval, Act.put]) (by rw [bv_len, hL0.out]; exact HQ6.out) HLE.out (by have := HS.out; have := hL0.out; have := hL1.out; simp [bv_len]; omega) ?_; intro v1 w7 hq1 hg1 _; have hz := app_more HQ6.out hL0.out hq1 hg1 HLE.out; obtain ⟨A7, c7, rfl, _⟩ := q_slice hz.1; have HQ7 := Aside0.mk hz.1; have HT7 := Aside0.mk (HT5.out.move (Below.tr HW6.out hz.2)); clear hz hq1 hg1) | ((with_reducible refine gate_builtin (b := .append) (xs := #[.tmp 26, .tmp 27]) rfl ?_); at_builtin; refine qrow_put w5.heap.size rfl (.tmp 26) (.tmp 27) 29 5 (.int .u8 0) 1 rfl Tryd.underlying29 (by kernel_rfl) rfl (by decide) (.slice (some ⟨w5.heap.size, 0, none⟩) 0 0) [] A0 l0.length c0 (bv bs) (by rw [bv_len]; exact hL0.out) (fun h0 => (hR0.out.move (below_step HT5.out.a.below (below_alloc (Below.refl _ _) _))) (by have := hL0.out; omega)) (bv_one bs) (by simp [Act.eval, Act.put]) (by simp [Act.eval, Act.put]) (q_new w5 w5.heap.size (Nat.le_refl _)) (by simp only [World.size_alloc]; omega) (by have := HS.out; have := hL0.out; have := hL1.out; simp [bv_len]; omega) ?_; intro v1 w6 hq1 hg1 _; have hz := app_new hq1 hg1; obtain ⟨A6, c6, rfl, _⟩ := q_slice hz.1; have HQ6 := Aside0.mk hz.1; have HT6 := Aside0.mk (HT5.out.move hz.2); have HW6 := Aside0.mk hz.2; have HLE := Aside0.mk hz.2.size; clear hz hq1 hg1) | (go_at_call 10; refine (frame_Reader_Feed.calls w w7 HG.out B2 (.slice none 0 0) (.slice none 0 0) Go.Proofs.YtbhajflbbjipdaaDoor.XFm.new HT7.out.b A7 (l0.length + l1.length) c7 (bs ++ ms) (by rw [List.length_append, hL0.out, hL1.out]) (q_rb HQ7.out) (by show 4 * (0 + _) + 0 ≤ 900000; have := HS.out; omega)).mono ?_; rintro e w8 ⟨hv2, tv2, rfl, hr, hf⟩; rw [HS2.out] at hr; have HT8 := Aside0.mk (HT7.out.symm.left hr hf).symm; clear hr hf))
  go_upto_region 9 with (first | (go_at_call 15; have hq := HT9.out; clear hq; refine (glossatorlaw05_heard.calls w w9 B2 hv2 tv2 s2 HT9.out.b (by have := HZ2.out; omega)).mono ?_; rintro e w10 ⟨V2, tx2, rfl, hr⟩; have HT10 := Aside0.mk (HT9.out.symm.left hr.rd hr.fr).symm; have HV10 := Aside0.mk (row_keep HT8.out.b HV9.out hr.fr); have HU10 := Aside0.mk hr.row; clear hr) | (go_at_call 15; refine (glossatorlaw05_heard.calls w w8 B1 hv1 tv1 s1 HT8.out.a (by have := HZ1.out; omega)).mono ?_; rintro e w9 ⟨V1, tx1, rfl, hr⟩; have HT9 := Aside0.mk (HT8.out.left hr.rd hr.fr); have HV9 := Aside0.mk hr.row; clear hr))
  obtain ⟨V1A, V1c, rfl, hv1c⟩ := q_slice HV10.out
  obtain ⟨V2A, V2c, rfl, hv2c⟩ := q_slice HU10.out
  by_cases hd : s1.dead = 0
  ·have t1 : (s1.dead == 0) = true := by simp [hd]
   obtain ⟨m, hm⟩ := Go.Proofs.YtbhajflbbjipdaaDoor.XFm.feed_told s1 ms
   rw [← HF.out] at hm
   have hle : s1.told.length ≤ s2.told.length := by rw [hm, List.length_append]; omega
   have t2 : decide ((s1.told.length : Int) ≤ (s2.told.length : Int)) = true := decide_eq_true (by omega)
   have hlc : s1.told.length ≤ V2c := by omega
   have HQT := Aside0.mk (show QRow w10 w9.heap.size 9 1 (.slice V2A s1.told.length V2c) s1.told.length (sv s1.told) by
    have h := q_take HU10.out hle
    have e : (sv s2.told).take (s1.told.length * 1) = sv s1.told := by rw [hm, Nat.mul_one]; simp [sv]
    rw [e] at h
    exact h)
   clear hd hm; go_wp2_with (first | (go_at_call 9; refine (frame_Reader_Dead.calls w w10 B1 hv1 tx1 { s1 with told := [] } HT10.out.a).mono ?_; rintro e w9 ⟨rfl, hw⟩; rw [hw]; clear hw w9) | (go_at_call 16; refine (same_q HQT.out HV10.out (by have := HZ1.out; omega)).mono ?_; rintro e w11 ⟨rfl, hb⟩; rw [decide_eq_true (rfl : s1.told = s1.told)]; have HB11 := Aside0.mk hb; clear hb))
   go_ret
   exact ⟨rfl, below_step HT10.out.a.below HB11.out⟩
  ·have e : s2 = s1 := by rw [HF.out]; unfold Go.Proofs.YtbhajflbbjipdaaDoor.XFm.feed; rw [if_neg hd]
   subst e; have t1 : (s2.dead == 0) = false := by simpa using hd
   have t2 : (s2.dead == 50) = true ∨ ((s2.dead == 50) = false ∧ (s2.dead == 51) = true) := by
    rcases HE.out with h | h | h
    ·exact absurd h hd
    ·exact .inl (by simp [h])
    ·exact .inr (by simp [h])
   have HD := Aside0.mk hd; clear hd; rcases t2 with t2 | ⟨t2, t3⟩ <;>
   ·go_wp2_with (first | (go_at_call 9; (with_reducible refine (frame_Reader_Dead.calls w w10 B1 hv1 tx1 { s2 with told := [] } HT10.out.a).mono ?_); rintro e w9 ⟨rfl, hw⟩; rw [hw]; clear hw w9) | (go_at_call 9; (with_reducible refine (frame_Reader_Dead.calls w w10 B2 hv2 tx2 { s2 with told := [] } HT10.out.b).mono ?_); rintro e w9 ⟨rfl, hw⟩; rw [hw]; clear hw w9) | (go_at_call 16; refine (same_q HV10.out HU10.out (by have := HZ1.out; omega)).mono ?_; rintro e w11 ⟨rfl, hb⟩; rw [decide_eq_true (rfl : s2.told = s2.told)]; have HT11 := Aside0.mk (HT10.out.move hb); clear hb) | (go_at_call 10; refine (feed_dead w w11 B1 hv1 tx1 { s2 with told := [] } HT11.out.a HD.out A1 l1.length c1).mono ?_; rintro e w12 ⟨rfl, hw⟩; rw [hw]; clear hw w12))
    go_ret
    exact ⟨rfl, HT11.out.a.below⟩
/-- THE ONE PURE STATEMENT of glossatorlaw05_FrameDies. -/
def glossatorlaw05_FrameDies.Pure : Prop := ∀ (p0 : List Int) (p1 : List Int), (p0.length ≤ maxLen ∧ p0.length * 1 ≤ 140737488351232 ∧ (∀ x ∈ p0, (fun x : Int => (Lit.int .u8 x).wf = true) x)) → (p1.length ≤ maxLen ∧ p1.length * 1 ≤ 140737488351232 ∧ (∀ x ∈ p1, (fun x : Int => (Lit.int .u8 x).wf = true) x)) → ∃ k, glossatorlaw05_FrameDies.f k p0 p1 = some true
theorem run_hand : ∀ (n : Nat) (s : Go.Proofs.YtbhajflbbjipdaaDoor.XFm.FS), s.mu ≤ n → (Go.Proofs.YtbhajflbbjipdaaDoor.XFm.run s).hand.length ≤ s.hand.length := by
 intro n
 induction n with
 | zero =>
  intro s h
  by_cases hd : s.dead = 0
  ·cases ht : Go.Proofs.YtbhajflbbjipdaaDoor.XFm.turn s with
   | mk x t =>
    cases x with
    | false => rw [Go.Proofs.YtbhajflbbjipdaaDoor.XFm.run_stop hd ht]; exact (turn_size ht).1
    | true => have := Go.Proofs.YtbhajflbbjipdaaDoor.XFm.turn_mu ht; omega
  ·rw [Go.Proofs.YtbhajflbbjipdaaDoor.XFm.run_dead hd]; omega
 | succ n ih =>
  intro s h
  by_cases hd : s.dead = 0
  ·cases ht : Go.Proofs.YtbhajflbbjipdaaDoor.XFm.turn s with
   | mk x t =>
    have h2 := (turn_size ht).1
    cases x with
    | false => rw [Go.Proofs.YtbhajflbbjipdaaDoor.XFm.run_stop hd ht]; exact h2
    | true =>
     have h1 := Go.Proofs.YtbhajflbbjipdaaDoor.XFm.turn_mu ht
     rw [Go.Proofs.YtbhajflbbjipdaaDoor.XFm.run_go hd ht]
     have := ih t (by omega)
     omega
  ·rw [Go.Proofs.YtbhajflbbjipdaaDoor.XFm.run_dead hd]; omega
theorem after_hand (b : List UInt8) : (Go.Proofs.YtbhajflbbjipdaaDoor.XFm.after b).hand.length ≤ b.length := by
 have := run_hand _ (Go.Proofs.YtbhajflbbjipdaaDoor.XFm.new.more b) (Nat.le_refl _)
 unfold Go.Proofs.YtbhajflbbjipdaaDoor.XFm.after
 refine Nat.le_trans this ?_
 show ([] ++ b).length ≤ _
 rw [List.nil_append]
 exact Nat.le_refl _
/-- Bytes in a block of bytes, where they lie. -/
def BRow (w : World) (V : Value) (r : List UInt8) : Prop := ∃ A c, V = .slice A r.length c ∧ r.length ≤ c ∧ Rb w A r ∧ ∀ k, V.ownBlock = some k → ∃ cells fr, w.heap[k]? = some (.cells cells 5 fr)
theorem q_brow {w : World} {base n : Nat} {V : Value} {r : List UInt8} (h : QRow w base 5 1 V n (bv r)) (hn : r.length = n) : BRow w V r := by
 subst hn; obtain ⟨A, c, rfl, hc⟩ := q_slice h
 exact ⟨A, c, rfl, hc, q_rb h, fun k hk => by obtain ⟨_, cells, e⟩ := q_typed h k hk; exact ⟨cells, _, e⟩⟩
theorem BRow.at_ {w : World} {A : Option Addr} {n c : Nat} {r : List UInt8} (h : BRow w (.slice A n c) r) : Rb w A r ∧ ∀ k, (Value.slice A n c).ownBlock = some k → ∃ cells fr, w.heap[k]? = some (.cells cells 5 fr) := by
 obtain ⟨A', c', he, _, h1, h2⟩ := h
 injection he with e1 e2 e3
 subst e1; exact ⟨h1, h2⟩
theorem rb_take {w : World} {A : Option Addr} {r : List UInt8} (h : Rb w A r) (m : Nat) : Rb w A (r.take m) := by
 intro h0
 rw [List.length_take] at h0
 obtain ⟨ad, rfl, hc⟩ := h (by omega)
 refine ⟨ad, rfl, fun j u hu => hc j u ?_⟩
 have e : bv (r.take m) = (bv r).take m := by simp [bv]
 rw [e, List.getElem?_take] at hu
 split at hu
 ·exact hu
 ·cases hu
theorem rb_drop {w : World} {ad : Addr} {r : List UInt8} (h : Rb w (some ad) r) (m : Nat) : Rb w (some (ad.add m)) (r.drop m) := by
 intro h0
 rw [List.length_drop] at h0
 obtain ⟨ad', he, hc⟩ := h (by omega)
 injection he with he
 subst he; refine ⟨_, rfl, fun j u hu => ?_⟩
 have e : bv (r.drop m) = (bv r).drop m := by simp [bv]
 rw [e, List.getElem?_drop] at hu
 rw [Addr.add_add]
 exact hc (m + j) u hu
theorem own_sl (A : Option Addr) (n c n' c' : Nat) : (Value.slice A n c).ownBlock = (Value.slice A n' c').ownBlock := by cases A <;> rfl
theorem b_drop {w : World} {A : Option Addr} {c m : Nat} {r : List UInt8} (h : BRow w (.slice A r.length c) r) (hc : r.length ≤ c) (hm : m ≤ r.length) : BRow w (.slice (if c = m then A else A.map (·.add (m * 1))) (r.length - m) (c - m)) (r.drop m) := by
 obtain ⟨h1, h2⟩ := h.at_
 refine ⟨_, c - m, by rw [List.length_drop], by rw [List.length_drop]; omega, ?_, ?_⟩
 ·by_cases e : c = m
  ·intro h0
   rw [List.length_drop] at h0
   omega
  ·rw [if_neg e, Nat.mul_one]
   cases A with
   | none => intro h0; rw [List.length_drop] at h0; obtain ⟨_, he, _⟩ := h1 (by omega); cases he
   | some ad => exact rb_drop h1 m
 ·intro k hk
  refine h2 k ?_
  by_cases e : c = m
  ·rw [if_pos e] at hk
   exact (own_sl A _ _ _ _).trans hk
  ·rw [if_neg e] at hk
   exact (own_map A _ _ _ _ _).symm.trans hk
/-- Where the cutting stands: what was handed over, what is left. -/
structure CutR (w0 w : World) (B : Nat) (HV TV : Value) (a all : List UInt8) (V HV' TV' : Value) (d r : List UInt8) (w' : World) : Prop where
 all : d ++ r = a ++ all
 rd : RdF w0 B HV' TV' (Go.Proofs.YtbhajflbbjipdaaDoor.XFm.after d) w'
 fr : Fr w w' B HV TV HV' TV'
 row : BRow w' V r
 dj : Dj HV' V
theorem b_fr {w0 w1 w2 : World} {B : Nat} {HV TV HV' TV' V : Value} {st : Go.Proofs.YtbhajflbbjipdaaDoor.XFm.FS} {r : List UInt8} (h : RdF w0 B HV TV st w1) (hq : BRow w1 V r) (hd : Dj HV V) (hf : Fr w1 w2 B HV TV HV' TV') : BRow w2 V r := by
 obtain ⟨A, c, rfl, hc, h1, h2⟩ := hq
 have hk : ∀ k, (Value.slice A r.length c).ownBlock = some k → w2.heap[k]? = w1.heap[k]? := by
  intro k hk
  obtain ⟨cells, fr, e⟩ := h2 k hk
  refine hf.keep k (Array.getElem?_eq_some_iff.1 e).1 (fun e' => ?_) (fun e' => hd k e'.symm hk) (fun e' => ?_)
  ·subst e'
   rw [h.blk] at e
   injection e with e
   injection e with _ e
   exact absurd e (by decide)
  ·obtain ⟨_, x2, hc2⟩ := q_typed h.told k e'.symm
   rw [e] at hc2
   injection hc2 with hc2
   injection hc2 with _ hc2
   exact absurd hc2 (by decide)
 refine ⟨A, c, rfl, hc, ?_, fun k e => ?_⟩
 ·intro h0
  obtain ⟨ad, rfl, hcs⟩ := h1 h0
  refine ⟨ad, rfl, fun j u hu => ?_⟩
  rw [← hcs j u hu]
  refine World.cell?_of_block (w := w1) ?_
  refine hk _ ?_
  have : (ad.add j).block = ad.block := by unfold Addr.add; split <;> rfl
  rw [this]
  rfl
 ·obtain ⟨cells, fr, e2⟩ := h2 k e
  exact ⟨cells, fr, (hk k e).trans e2⟩
theorem b_own {w : World} {V : Value} {r : List UInt8} (h : BRow w V r) (k : Nat) (hk : V.ownBlock = some k) : k < w.heap.size := by
 obtain ⟨A, c, rfl, hc, h1, h2⟩ := h
 obtain ⟨cells, fr, e⟩ := h2 k hk
 exact (Array.getElem?_eq_some_iff.1 e).1
theorem CutR.next {w0 w w1 w2 : World} {B : Nat} {HV TV V V' HV1 TV1 HV2 TV2 : Value} {a all d r : List UInt8} (m : Nat) (h : CutR w0 w B HV TV a all V HV1 TV1 d r w1) (hr : RdF w0 B HV2 TV2 (Go.Proofs.YtbhajflbbjipdaaDoor.XFm.feed (Go.Proofs.YtbhajflbbjipdaaDoor.XFm.after d) (r.take m)) w2) (hf : Fr w1 w2 B HV1 TV1 HV2 TV2)
  (hq : BRow w1 V' (r.drop m)) (ho : ∀ k, V'.ownBlock = some k → V.ownBlock = some k) : CutR w0 w B HV TV a all V' HV2 TV2 (d ++ r.take m) (r.drop m) w2 := by
 have hd : Dj HV1 V' := fun k h1 h2 => h.dj k h1 (ho k h2)
 refine ⟨by rw [List.append_assoc, List.take_append_drop]; exact h.all, ?_, h.fr.trans hf, b_fr h.rd hq hd hf, hf.h.dj hd (fun k hk => b_own hq k hk)⟩
 rw [Go.Proofs.YtbhajflbbjipdaaDoor.XFm.feed_after] at hr
 exact hr
theorem feed_any (w0 w : World) (hG : GlobOk w0) (B : Nat) (HV TV : Value) (st : Go.Proofs.YtbhajflbbjipdaaDoor.XFm.FS) (h : RdF w0 B HV TV st w) (A : Option Addr) (m c : Nat) (cs : List UInt8) (hm : cs.length = m) (hr : Rb w A cs) (hz : 4 * (st.hand.length + m) + st.told.length ≤ 900000) :
  Calls Tryd.prog 10 #[.pointer (some ⟨B, 0, none⟩), .slice A m c] w fun en w' => ∃ (x : Int) (HV' TV' : Value), en = .returned (.int .i64 x) ∧ RdF w0 B HV' TV' (Go.Proofs.YtbhajflbbjipdaaDoor.XFm.feed st cs) w' ∧ Fr w w' B HV TV HV' TV' := by
 refine (frame_Reader_Feed.calls w0 w hG B HV TV st h A m c cs hm hr hz).mono ?_
 rintro e w' ⟨HV', TV', rfl, h1, h2⟩
 exact ⟨_, HV', TV', rfl, h1, h2⟩
set_option maxRecDepth 100000 in
set_option maxHeartbeats 4000000 in
theorem glossatorlaw05_cut.calls (w0 w : World) (hG : GlobOk w0) (B : Nat) (HV TV V : Value) (a all : List UInt8) (h : CutR w0 w B HV TV a all V HV TV a all w) (Ap : Option Addr) (cp : Nat) (ps : List Int) (hp : Kd.C (Kd.int .i64) w0 Ap ps.length ps) (hcp : ps.length ≤ cp) (hps : ps.length ≤ 1000) (hz : (a ++ all).length ≤ 30000) :
  Calls Tryd.prog 14 #[.pointer (some ⟨B, 0, none⟩), V, .slice Ap ps.length cp] w fun en w' => ∃ HV' TV', en = .returned (.tuple #[]) ∧ RdF w0 B HV' TV' (Go.Proofs.YtbhajflbbjipdaaDoor.XFm.after (a ++ all)) w' ∧ Fr w w' B HV TV HV' TV' := by
 have H := Aside0.mk h; have HG := Aside0.mk hG; have HP := Aside0.mk hp; have HZ := Aside0.mk hz; have HPS := Aside0.mk hps; clear h hG hp hz hps; go_enter Tryd.func14, Tryd.ntmps14
 go_wp2
 go_loopg [1, 6] (all.length + ps.length) (fun kq v1 v6 w' => ∃ (HV' TV' : Value) (d r : List UInt8) (i : Nat), kq = r.length + (ps.length - i) ∧ v6 = .int .i64 i ∧ i ≤ ps.length + 1 ∧ (i ≤ ps.length ∨ r = []) ∧ Aside0 (CutR w0 w B HV TV a all v1 HV' TV' d r w'))
 case atStart => exact ⟨HV, TV, a, all, 0, rfl, rfl, Nat.zero_le _, .inl (Nat.zero_le _), H⟩
 case round =>
  clear H; obtain ⟨HV', TV', d, r, i, rfl, rfl, hi, hir, HL⟩ := hrel
  obtain ⟨Av, cv, rfl, hcv, hrb0, _⟩ := HL.out.row
  have HRB := Aside0.mk hrb0; clear hrb0; by_cases hr : r = []
  ·have t : decide ((0 : Int) < (r.length : Int)) = false := by rw [hr]; rfl
   have t' : decide (0 < r.length) = false := by rw [hr]; rfl
   have hr0 : r.length = 0 := by rw [hr]; rfl
   have HR := Aside0.mk hr; clear hir hi hr hr0; go_wp2
   go_end0
   have e := HL.out.all
   rw [HR.out, List.append_nil] at e
   subst e; exact ⟨HV', TV', rfl, HL.out.rd, HL.out.fr⟩
  ·have hr0 : 0 < r.length := by cases r with
    | nil => exact absurd rfl hr
    | cons => simp
   have hile : i ≤ ps.length := hir.resolve_right hr
   clear hir hr; have t : decide ((0 : Int) < (r.length : Int)) = true := decide_eq_true (by omega)
   have t' : decide (0 < r.length) = true := decide_eq_true hr0
   have HDL := Aside0.mk (show d.length + r.length ≤ 30000 by rw [← List.length_append, HL.out.all]; exact HZ.out)
   have HI := Aside0.mk hile; have HR0 := Aside0.mk hr0; have HCV := Aside0.mk hcv; by_cases hip : i < ps.length
   ·have hpi : wr.cell? = wr.cell? := rfl
    obtain ⟨ad, rfl, y1⟩ := Kd.at_int HP.out (i : Int) (by omega) (by omega)
    have y2 := pw_cell_below HL.out.rd.below y1
    rw [Int.toNat_natCast] at y2
    have t1 : decide ((i : Int) < (ps.length : Int)) = true := decide_eq_true (by omega)
    have t1' : decide (i < ps.length) = true := decide_eq_true hip
    have hn : (0 : Int) < (r.length : Int) := by omega
    clear y1 hpi; generalize rd ps (i : Int) = p at y2
    by_cases hp0 : p < 0
    ·have hp1 : (0 : Int) > p := hp0
     have hm : 0 ≤ r.length := by omega
     have b1 : ((0 : Nat) : Int) ≤ (cv : Int) := by have := HCV.out; omega
     have b1' : ((0 : Nat) : Int) ≤ (r.length : Int) := by omega
     have HQT := Aside0.mk (rb_take HRB.out (0))
     have HQD := Aside0.mk (b_drop HL.out.row HCV.out hm)
     have HTL := Aside0.mk (show (r.take 0).length = 0 by rw [List.length_take]; omega)
     have HM := Aside0.mk hm; clear hm hr0 hile; go_wp2_with ((go_at_call 10; refine (feed_any w0 wr HG.out B HV' TV' (Go.Proofs.YtbhajflbbjipdaaDoor.XFm.after d) HL.out.rd Av (0) (0) (r.take (0)) HTL.out HQT.out (by have h1 := after_hand d; have h2 := after_size d 30000 (by have := HDL.out; omega); have := HDL.out; have := HM.out; omega)).mono ?_; rintro e w5 ⟨xx, HV5, TV5, rfl, hr5, hf5⟩; have HR5 := Aside0.mk hr5; have HF5 := Aside0.mk hf5; clear hr5 hf5))
     have hw1 := Go.Proofs.YtbhajflbbjipdaaDoor.XEv.w1 i (by have := HI.out; have := HPS.out; omega)
     rw [hw1]
     go_roundg ((r.drop (0)).length + (ps.length - (i + 1)))
     case rel =>
      have hq : BRow wr (.slice Av r.length cv) (r.drop 0) := HL.out.row
      exact ⟨HV5, TV5, d ++ r.take (0), r.drop (0), i + 1, rfl, rfl, by have := HI.out; omega, .inl (by omega), ⟨CutR.next (0) HL.out HR5.out HF5.out hq (fun k hk => hk)⟩⟩
     case measure => rw [List.length_drop]; have := HR0.out; have := HI.out; have := HM.out; omega
    ·have hp1 : ¬ (0 : Int) > p := hp0
     obtain ⟨m, rfl⟩ : ∃ m : Nat, p = m := ⟨p.toNat, by omega⟩
     by_cases hmr : (m : Int) < (r.length : Int)
     ·skip
      have hm : m ≤ r.length := by omega
      have b1 : ((m : Nat) : Int) ≤ (cv : Int) := by have := HCV.out; omega
      have b1' : ((m : Nat) : Int) ≤ (r.length : Int) := by omega
      have HQT := Aside0.mk (rb_take HRB.out (m))
      have HQD := Aside0.mk (b_drop HL.out.row HCV.out hm)
      have HTL := Aside0.mk (show (r.take m).length = m by rw [List.length_take]; omega)
      have HM := Aside0.mk hm; clear hm hr0 hile; go_wp2_with ((go_at_call 10; refine (feed_any w0 wr HG.out B HV' TV' (Go.Proofs.YtbhajflbbjipdaaDoor.XFm.after d) HL.out.rd Av (m) (m) (r.take (m)) HTL.out HQT.out (by have h1 := after_hand d; have h2 := after_size d 30000 (by have := HDL.out; omega); have := HDL.out; have := HM.out; omega)).mono ?_; rintro e w5 ⟨xx, HV5, TV5, rfl, hr5, hf5⟩; have HR5 := Aside0.mk hr5; have HF5 := Aside0.mk hf5; clear hr5 hf5))
      have hw1 := Go.Proofs.YtbhajflbbjipdaaDoor.XEv.w1 i (by have := HI.out; have := HPS.out; omega)
      rw [hw1]
      go_roundg ((r.drop (m)).length + (ps.length - (i + 1)))
      case rel =>
       have hq := HQD.out
       rw [if_neg (by have := HCV.out; omega)] at hq
       exact ⟨HV5, TV5, d ++ r.take (m), r.drop (m), i + 1, rfl, rfl, by have := HI.out; omega, .inl (by omega), ⟨CutR.next (m) HL.out HR5.out HF5.out (by simp only [Nat.mul_one, Nat.sub_self] at hq; exact hq) (fun k hk => (own_map Av _ _ _ _ _).symm.trans hk)⟩⟩
      case measure => rw [List.length_drop]; have := HR0.out; have := HI.out; have := HM.out; omega
     ·skip
      have hm : r.length ≤ r.length := by omega
      have b1 : ((r.length : Nat) : Int) ≤ (cv : Int) := by have := HCV.out; omega
      have b1' : ((r.length : Nat) : Int) ≤ (r.length : Int) := by omega
      have HQT := Aside0.mk (rb_take HRB.out (r.length))
      have HQD := Aside0.mk (b_drop HL.out.row HCV.out hm)
      have HTL := Aside0.mk (show (r.take r.length).length = r.length by rw [List.length_take]; omega)
      have HM := Aside0.mk hm; clear hm hr0 hile; go_wp2_with ((go_at_call 10; refine (feed_any w0 wr HG.out B HV' TV' (Go.Proofs.YtbhajflbbjipdaaDoor.XFm.after d) HL.out.rd Av (r.length) (r.length) (r.take (r.length)) HTL.out HQT.out (by have h1 := after_hand d; have h2 := after_size d 30000 (by have := HDL.out; omega); have := HDL.out; have := HM.out; omega)).mono ?_; rintro e w5 ⟨xx, HV5, TV5, rfl, hr5, hf5⟩; have HR5 := Aside0.mk hr5; have HF5 := Aside0.mk hf5; clear hr5 hf5))
      ·have hw1 := Go.Proofs.YtbhajflbbjipdaaDoor.XEv.w1 i (by have := HI.out; have := HPS.out; omega)
       rw [hw1]
       go_roundg ((r.drop (r.length)).length + (ps.length - (i + 1)))
       case rel =>
        have hq := HQD.out
        rw [if_pos (by assumption), Nat.sub_self, show cv - r.length = 0 by omega] at hq
        exact ⟨HV5, TV5, d ++ r.take (r.length), r.drop (r.length), i + 1, rfl, rfl, by have := HI.out; omega, .inl (by omega), ⟨CutR.next (r.length) HL.out HR5.out HF5.out hq (fun k hk => by cases Av <;> exact hk)⟩⟩
       case measure => rw [List.length_drop]; have := HR0.out; have := HI.out; have := HM.out; omega
      ·have hw1 := Go.Proofs.YtbhajflbbjipdaaDoor.XEv.w1 i (by have := HI.out; have := HPS.out; omega)
       rw [hw1]
       go_roundg ((r.drop (r.length)).length + (ps.length - (i + 1)))
       case rel =>
        have hq := HQD.out
        rw [if_neg (by assumption)] at hq
        exact ⟨HV5, TV5, d ++ r.take (r.length), r.drop (r.length), i + 1, rfl, rfl, by have := HI.out; omega, .inl (by omega), ⟨CutR.next (r.length) HL.out HR5.out HF5.out (by simp only [Nat.mul_one, Nat.sub_self] at hq; exact hq) (fun k hk => (own_map Av _ _ _ _ _).symm.trans hk)⟩⟩
       case measure => rw [List.length_drop]; have := HR0.out; have := HI.out; have := HM.out; omega
   ·have t1 : decide ((i : Int) < (ps.length : Int)) = false := decide_eq_false (by omega)
    have t1' : decide (i < ps.length) = false := decide_eq_false hip
    have hm : r.length ≤ r.length := by omega
    have b1 : ((r.length : Nat) : Int) ≤ (cv : Int) := by have := HCV.out; omega
    have b1' : ((r.length : Nat) : Int) ≤ (r.length : Int) := by omega
    have HQT := Aside0.mk (rb_take HRB.out (r.length))
    have HQD := Aside0.mk (b_drop HL.out.row HCV.out hm)
    have HTL := Aside0.mk (show (r.take r.length).length = r.length by rw [List.length_take]; omega)
    have HM := Aside0.mk hm; clear hm hr0 hile; go_wp2_with ((go_at_call 10; refine (feed_any w0 wr HG.out B HV' TV' (Go.Proofs.YtbhajflbbjipdaaDoor.XFm.after d) HL.out.rd Av (r.length) (r.length) (r.take (r.length)) HTL.out HQT.out (by have h1 := after_hand d; have h2 := after_size d 30000 (by have := HDL.out; omega); have := HDL.out; have := HM.out; omega)).mono ?_; rintro e w5 ⟨xx, HV5, TV5, rfl, hr5, hf5⟩; have HR5 := Aside0.mk hr5; have HF5 := Aside0.mk hf5; clear hr5 hf5))
    ·have hw1 := Go.Proofs.YtbhajflbbjipdaaDoor.XEv.w1 i (by have := HI.out; have := HPS.out; omega)
     rw [hw1]
     go_roundg ((r.drop (r.length)).length + (ps.length - (i + 1)))
     case rel =>
      have hq := HQD.out
      rw [if_pos (by assumption), Nat.sub_self, show cv - r.length = 0 by omega] at hq
      exact ⟨HV5, TV5, d ++ r.take (r.length), r.drop (r.length), i + 1, rfl, rfl, by have := HI.out; omega, .inr (List.drop_length ..), ⟨CutR.next (r.length) HL.out HR5.out HF5.out hq (fun k hk => by cases Av <;> exact hk)⟩⟩
     case measure => rw [List.length_drop]; have := HR0.out; have := HI.out; have := HM.out; omega
    ·have hw1 := Go.Proofs.YtbhajflbbjipdaaDoor.XEv.w1 i (by have := HI.out; have := HPS.out; omega)
     rw [hw1]
     go_roundg ((r.drop (r.length)).length + (ps.length - (i + 1)))
     case rel =>
      have hq := HQD.out
      rw [if_neg (by assumption)] at hq
      exact ⟨HV5, TV5, d ++ r.take (r.length), r.drop (r.length), i + 1, rfl, rfl, by have := HI.out; omega, .inr (List.drop_length ..), ⟨CutR.next (r.length) HL.out HR5.out HF5.out (by simp only [Nat.mul_one, Nat.sub_self] at hq; exact hq) (fun k hk => (own_map Av _ _ _ _ _).symm.trans hk)⟩⟩
     case measure => rw [List.length_drop]; have := HR0.out; have := HI.out; have := HM.out; omega
end Go.Proofs.YtbhajflbbjipdaaDoor.Q

end
section
namespace Go.Proofs.YtbhajflbbjipdaaDoor.Q
open Go.RowKit Go.Proofs.YtbhajflbbjipdaaDoorW.PrintWords Go.Proofs.YtbhajflbbjipdaaDoorW.PrintLast Go.Proofs.YtbhajflbbjipdaaDoorW.PrintMore
attribute [local go_sem] max2_int min2_int max_two min_two max_three min_three max_four min_four   
set_option linter.unusedVariables false
set_option linter.unusedSimpArgs false
theorem rb_at {w : World} {ad : Addr} {bs : List UInt8} (h : Rb w (some ad) bs) (i : Nat) (hi : i < bs.length) : Rb w (some (ad.add i)) [bs[i]] := by
 intro _
 obtain ⟨ad', he, hc⟩ := h (by omega)
 injection he with he
 subst he; refine ⟨_, rfl, fun j u hu => ?_⟩
 cases j with
 | zero =>
  have hu' : .int .u8 ((bs[i].toNat : Nat) : Int) = u := by simpa [bv] using hu
  have h1 := hc i (.int .u8 ((bs[i].toNat : Nat) : Int)) (by simp [bv, List.getElem?_eq_getElem hi])
  rw [hu'] at h1
  rw [Addr.add_add]
  exact h1
 | succ j => simp [bv] at hu
def glossatorlaw05_FrameChunks.f (_ : Nat) (l0 l1 : List Int) : Option Bool := if okB l0 = true ∧ l0.length + l1.length ≤ 1152921504606846976 then some true else none
theorem glossatorlaw05_FrameChunks.mono : ∀ a0 l1 k, LeO (glossatorlaw05_FrameChunks.f k a0 l1) (glossatorlaw05_FrameChunks.f (k + 1) a0 l1) := fun _ _ _ => LeO.refl _
set_option maxRecDepth 100000 in
set_option maxHeartbeats 8000000 in
theorem glossatorlaw05_FrameChunks.calls (k : Nat) (A0 : Option Addr) (c0 : Nat) (l0 : List Int) (A1 : Option Addr) (c1 : Nat) (l1 : List Int) (r : Bool) (w : World) (hr0 : Kd.C (Kd.int .u8) w A0 l0.length l0) (hc0 : l0.length ≤ c0) (hr1 : Kd.C (Kd.int .i64) w A1 l1.length l1) (hc1 : l1.length ≤ c1) (hG : GlobOk w) (h : glossatorlaw05_FrameChunks.f k l0 l1 = some r) :
  Calls Tryd.prog 4 #[.slice A0 l0.length c0, .slice A1 l1.length c1] w fun e w' => e = .returned (.bool r) ∧ Below w.heap.size w w' := by
 unfold glossatorlaw05_FrameChunks.f at h
 obtain ⟨hok, h⟩ := ite_told h
 subst h; obtain ⟨ok0, hl⟩ := hok
 have hR0 := Aside0.mk (rb_ints hr0 (u8s l0) (u8s_back ok0))
 have HP := Aside0.mk hr1; have HG := Aside0.mk hG; have hL0 := Aside0.mk (u8s_len l0)
 have HC0 := Aside0.mk hc0; have HC1 := Aside0.mk hc1; generalize u8s l0 = bs at *
 by_cases hs : 20000 < l0.length
 ·have t : decide ((20000 : Int) < (l0.length : Int)) = true := decide_eq_true (by omega)
  clear hr0 hr1 hc0 hc1 hl hG ok0 hs; go_enter Tryd.func4, Tryd.ntmps4
  go_wp2_with ((go_at_call 13; refine (glossatorlaw05_awake.calls w HG.out).mono ?_; rintro e w1 ⟨rfl, hb⟩; have HB1 := Aside0.mk hb; clear hb))
  all_goals (go_ret; exact ⟨rfl, HB1.out⟩)
 have t : decide ((20000 : Int) < (l0.length : Int)) = false := decide_eq_false (by omega)
 by_cases hs2 : 400 < l1.length
 ·have t2 : decide ((400 : Int) < (l1.length : Int)) = true := decide_eq_true (by omega)
  clear hr0 hr1 hc0 hc1 hl hG ok0 hs hs2; go_enter Tryd.func4, Tryd.ntmps4
  go_wp2_with ((go_at_call 13; refine (glossatorlaw05_awake.calls w HG.out).mono ?_; rintro e w1 ⟨rfl, hb⟩; have HB1 := Aside0.mk hb; clear hb))
  all_goals (go_ret; exact ⟨rfl, HB1.out⟩)
 have t2 : decide ((400 : Int) < (l1.length : Int)) = false := decide_eq_false (by omega)
 have HS := Aside0.mk (show l0.length ≤ 20000 ∧ l1.length ≤ 400 by omega)
 obtain ⟨s1, hs1⟩ : ∃ s, s = Go.Proofs.YtbhajflbbjipdaaDoor.XFm.after bs := ⟨_, rfl⟩
 have HS1 := Aside0.mk ((feed_new bs).trans hs1.symm)
 have HAF := Aside0.mk hs1.symm; have HZ1 := Aside0.mk (show s1.told.length ≤ 100000 by rw [hs1]; have := after_size bs 20000 (by have := hL0.out; omega); omega)
 clear hr0 hr1 hc0 hc1 hl hG ok0 hs hs1 hs2; go_enter Tryd.func4, Tryd.ntmps4
 go_upto_region 5 with ((go_at_call 13; refine (glossatorlaw05_awake.calls w HG.out).mono ?_; rintro e w1 ⟨rfl, hb⟩; have HB1 := Aside0.mk hb; clear hb))
 go_upto_region 6 with (first | (go_at_call 8; have hq := HXY3.out; clear hq; refine (frame_New.calls w w3 HXY3.out.a.below).mono ?_; rintro e w4 ⟨B3, rfl, hle, hr, hb⟩; have HXZ4 := Aside0.mk (Two.first HXY3.out.a hb hle hr); have HYZ4 := Aside0.mk (Two.first HXY3.out.b hb hle hr); have HXY4 := Aside0.mk (HXY3.out.move hb); clear hr hle hb) | (go_at_call 8; have hq := HX2.out; clear hq; refine (frame_New.calls w w2 HX2.out.below).mono ?_; rintro e w3 ⟨B2, rfl, hle, hr, hb⟩; have HXY3 := Aside0.mk (Two.first HX2.out hb hle hr); clear hr hle hb) | (go_at_call 8; refine (frame_New.calls w w1 HB1.out).mono ?_; rintro e w2 ⟨B1, rfl, hle, hr, hb⟩; have HX2 := Aside0.mk hr; clear hr hle hb))
 go_upto_region 7 with (first | ((with_reducible refine gate_builtin (b := .append) (xs := #[.tmp 24, .tmp 25]) rfl ?_); at_builtin; refine qrow_put w4.heap.size rfl (.tmp 24) (.tmp 25) 29 5 (.int .u8 0) 1 rfl Tryd.underlying29 (by kernel_rfl) rfl (by decide) (.slice (some ⟨w4.heap.size, 0, none⟩) 0 0) [] A0 l0.length c0 (bv bs) (by rw [bv_len]; exact hL0.out) (fun h0 => (hR0.out.move (below_step HXY4.out.a.below (below_alloc (Below.refl _ _) _))) (by have := hL0.out; omega)) (bv_one bs) (by simp [Act.eval, Act.put]) (by simp [Act.eval, Act.put]) (q_new w4 w4.heap.size (Nat.le_refl _)) (by simp only [World.size_alloc]; omega) (by have := HS.out; have := hL0.out; simp [bv_len]; omega) ?_; intro v1 w5 hq1 hg1 _; have hz := app_new hq1 hg1; obtain ⟨A5, c5, rfl, _⟩ := q_slice hz.1; have HQ5 := Aside0.mk hz.1; have HXY5 := Aside0.mk (HXY4.out.move hz.2); have HXZ5 := Aside0.mk (HXZ4.out.move hz.2); have HYZ5 := Aside0.mk (HYZ4.out.move hz.2); clear hz hq1 hg1) | (go_at_call 10; refine (feed_any w w5 HG.out B1 (.slice none 0 0) (.slice none 0 0) Go.Proofs.YtbhajflbbjipdaaDoor.XFm.new HXY5.out.a A5 l0.length c5 bs hL0.out (q_rb HQ5.out) (by show 4 * (0 + l0.length) + 0 ≤ 900000; have := HS.out; omega)).mono ?_; rintro e w6 ⟨xx, hv1, tv1, rfl, hr, hf⟩; rw [HS1.out] at hr; have HXY6 := Aside0.mk (HXY5.out.left hr hf); have HXZ6 := Aside0.mk (HXZ5.out.left hr hf); have HYZ6 := Aside0.mk (Two.mk HXY6.out.b HXZ6.out.b HYZ5.out.ne HYZ5.out.h HYZ5.out.t); clear hr hf))
 go_upto_region 8 with (first | ((with_reducible refine gate_builtin (b := .append) (xs := #[.tmp 29, .tmp 30]) rfl ?_); at_builtin; refine qrow_put w6.heap.size rfl (.tmp 29) (.tmp 30) 29 5 (.int .u8 0) 1 rfl Tryd.underlying29 (by kernel_rfl) rfl (by decide) (.slice (some ⟨w6.heap.size, 0, none⟩) 0 0) [] A0 l0.length c0 (bv bs) (by rw [bv_len]; exact hL0.out) (fun h0 => (hR0.out.move (below_step HXY6.out.a.below (below_alloc (Below.refl _ _) _))) (by have := hL0.out; omega)) (bv_one bs) (by simp [Act.eval, Act.put]) (by simp [Act.eval, Act.put]) (q_new w6 w6.heap.size (Nat.le_refl _)) (by simp only [World.size_alloc]; omega) (by have := HS.out; have := hL0.out; simp [bv_len]; omega) ?_; intro v1 w7 hq1 hg1 _; have hz := app_new hq1 hg1; obtain ⟨A7, c7, rfl, _⟩ := q_slice hz.1; have HQ7 := Aside0.mk (q_lower hz.1 HXY6.out.a.below.size); have HXY7 := Aside0.mk (HXY6.out.move hz.2); have HXZ7 := Aside0.mk (HXZ6.out.move hz.2); have HYZ7 := Aside0.mk (HYZ6.out.move hz.2); clear hz hq1 hg1) | (go_at_call 14; refine (glossatorlaw05_cut.calls w w7 HG.out B2 (.slice none 0 0) (.slice none 0 0) (.slice A7 l0.length c7) [] bs ⟨rfl, by rw [Go.Proofs.YtbhajflbbjipdaaDoor.XFm.after_nil]; exact HXY7.out.b, .refl _ _ _ _, q_brow HQ7.out hL0.out, (fun _ h => by cases h)⟩ A1 c1 l1 HP.out HC1.out (by have := HS.out; omega) (by rw [List.nil_append, hL0.out]; have := HS.out; omega)).mono ?_; rintro e w8 ⟨hv2, tv2, rfl, hr, hf⟩; rw [List.nil_append, HAF.out] at hr; have HXY8 := Aside0.mk (HXY7.out.symm.left hr hf).symm; have HYZ8 := Aside0.mk (HYZ7.out.left hr hf); have HXZ8 := Aside0.mk (Two.mk HXY8.out.a HYZ8.out.b HXZ7.out.ne HXZ7.out.h HXZ7.out.t); clear hr hf))
 go_wp2
 go_loopg [8] l0.length (fun kq v8 w' => ∃ (hv3 tv3 : Value) (i : Nat), kq = l0.length - i ∧ v8 = .int .i64 i ∧ i ≤ l0.length ∧ Aside0 (i = 0 ∨ l0.length ≤ 3000) ∧ Aside0 (Two w B1 hv1 tv1 s1 B2 hv2 tv2 s1 w') ∧ Aside0 (Two w B1 hv1 tv1 s1 B3 hv3 tv3 (Go.Proofs.YtbhajflbbjipdaaDoor.XFm.after (bs.take i)) w') ∧ Aside0 (Two w B2 hv2 tv2 s1 B3 hv3 tv3 (Go.Proofs.YtbhajflbbjipdaaDoor.XFm.after (bs.take i)) w'))
 case atStart => exact ⟨_, _, 0, rfl, rfl, Nat.zero_le _, ⟨.inl rfl⟩, HXY8, ⟨by rw [List.take_zero, Go.Proofs.YtbhajflbbjipdaaDoor.XFm.after_nil]; exact HXZ8.out⟩, ⟨by rw [List.take_zero, Go.Proofs.YtbhajflbbjipdaaDoor.XFm.after_nil]; exact HYZ8.out⟩⟩
 case round =>
  clear HXY8 HXZ8 HYZ8 HQ7 HQ5; obtain ⟨hv3, tv3, i, rfl, rfl, hi, HI, HXYs, HXZs, HYZs⟩ := hrel
  by_cases hsh : l0.length ≤ 3000
  ·have t3 : decide ((l0.length : Int) ≤ 3000) = true := decide_eq_true (by omega)
   have t3' : decide ((3000 : Int) < (l0.length : Int)) = false := decide_eq_false (by omega)
   by_cases hil : i < l0.length
   ·have t4 : decide ((i : Int) < (l0.length : Int)) = true := decide_eq_true (by omega)
    have t4' : decide (i < l0.length) = true := decide_eq_true hil
    have hw0 : wrap64 ((i : Int) + 1) = ((i + 1 : Nat) : Int) := Go.Proofs.YtbhajflbbjipdaaDoor.XEv.w1 i (by omega)
    obtain ⟨ad, rfl, _⟩ := hR0.out (by have := hL0.out; omega)
    have HRI := Aside0.mk (rb_at (hR0.out.move HXYs.out.a.below) i (by have := hL0.out; omega))
    have b1 : ((i + 1 : Nat) : Int) ≤ (c0 : Int) := by have := HC0.out; omega
    have b2 : i + 1 ≤ c0 := by have := HC0.out; omega
    have b3 : (i : Int) ≤ ((i + 1 : Nat) : Int) := by omega
    have HTK := Aside0.mk (show Go.Proofs.YtbhajflbbjipdaaDoor.XFm.feed (Go.Proofs.YtbhajflbbjipdaaDoor.XFm.after (bs.take i)) [bs[i]'(by have := hL0.out; omega)] = Go.Proofs.YtbhajflbbjipdaaDoor.XFm.after (bs.take (i + 1)) by rw [Go.Proofs.YtbhajflbbjipdaaDoor.XFm.feed_after, List.take_succ_eq_append_getElem])
    have HIL := Aside0.mk hil; have HSH := Aside0.mk hsh; clear hi hsh; generalize bs[i]'(by have := hL0.out; omega) = ch at HRI HTK
    go_wp2_with ((go_at_call 10; refine (feed_any w wr HG.out B3 hv3 tv3 (Go.Proofs.YtbhajflbbjipdaaDoor.XFm.after (bs.take i)) HXZs.out.b (some (ad.add i)) 1 1 [ch] rfl HRI.out (by have h1 := after_hand (bs.take i); have h2 := after_size (bs.take i) 20000 (by rw [List.length_take]; have := HS.out; have := hL0.out; omega); rw [List.length_take] at h1; have := HS.out; have := hL0.out; omega)).mono ?_; rintro e wt ⟨xx, hv4, tv4, rfl, hr, hf⟩; rw [HTK.out] at hr; have HXZt := Aside0.mk (HXZs.out.symm.left hr hf).symm; have HYZt := Aside0.mk (HYZs.out.symm.left hr hf).symm; have HXYt := Aside0.mk (Two.mk HXZt.out.a HYZt.out.a HXYs.out.ne HXYs.out.h HXYs.out.t); clear hr hf))
    have hw1 := Go.Proofs.YtbhajflbbjipdaaDoor.XEv.w1 i (by have := HS.out; omega)
    rw [hw1]
    go_roundg (l0.length - (i + 1))
    case rel => exact ⟨hv4, tv4, i + 1, rfl, rfl, by omega, ⟨.inr HSH.out⟩, HXYt, HXZt, HYZt⟩
    case measure => omega
   ·have t4 : decide ((i : Int) < (l0.length : Int)) = false := decide_eq_false (by omega)
    have t4' : decide (i < l0.length) = false := decide_eq_false hil
    obtain rfl : i = l0.length := by omega
    have e : Go.Proofs.YtbhajflbbjipdaaDoor.XFm.after (bs.take l0.length) = s1 := by rw [← hL0.out, List.take_length]; exact HAF.out
    rw [e] at HXZs HYZs
    clear hi hsh hil e; go_wp2_with (first | (go_at_call 16; (with_reducible refine (same_q HVd.out HUd.out (by have := HZ1.out; omega)).mono ?_); rintro e we ⟨rfl, hb⟩; rw [decide_eq_true (rfl : s1.told = s1.told)]; have HXZe := Aside0.mk (HXZd.out.move hb); clear hb) | (go_at_call 15; (with_reducible refine (glossatorlaw05_heard.calls w wc B3 hv3 tv3 s1 HXZc.out.b (by have := HZ1.out; omega)).mono ?_); rintro e wd ⟨V3, tx3, rfl, hr⟩; have HXZd := Aside0.mk (HXZc.out.symm.left hr.rd hr.fr).symm; have HVd := Aside0.mk (row_keep HXZs.out.b HVc.out hr.fr); have hrow := hr.row; obtain ⟨V3A, V3c, rfl, hv3c⟩ := q_slice hrow; have HUd := Aside0.mk hrow; clear hr hrow hv3c) | (go_at_call 16; (with_reducible refine (same_q HVb.out HUb.out (by have := HZ1.out; omega)).mono ?_); rintro e wc ⟨rfl, hb⟩; rw [decide_eq_true (rfl : s1.told = s1.told)]; have HXYc := Aside0.mk (HXYb.out.move hb); have HXZc := Aside0.mk (HXZb.out.move hb); have HVc := Aside0.mk (q_move HVb.out (fun k hk => hb.block k (q_lt HVb.out k hk))); clear hb) | (go_at_call 15; (with_reducible refine (glossatorlaw05_heard.calls w wa B2 hv2 tv2 s1 HXYa.out.b (by have := HZ1.out; omega)).mono ?_); rintro e wb ⟨V2, tx2, rfl, hr⟩; have HXYb := Aside0.mk (HXYa.out.symm.left hr.rd hr.fr).symm; have HYZb := Aside0.mk (HYZa.out.left hr.rd hr.fr); have HXZb := Aside0.mk (Two.mk HXYb.out.a HYZb.out.b HXZa.out.ne HXZa.out.h HXZa.out.t); have HVb := Aside0.mk (row_keep HXYs.out.b HVa.out hr.fr); have hrow := hr.row; obtain ⟨V2A, V2c, rfl, hv2c⟩ := q_slice hrow; have HUb := Aside0.mk hrow; clear hr hrow hv2c) | (go_at_call 15; (with_reducible refine (glossatorlaw05_heard.calls w wr B1 hv1 tv1 s1 HXYs.out.a (by have := HZ1.out; omega)).mono ?_); rintro e wa ⟨V1, tx1, rfl, hr⟩; have HXYa := Aside0.mk (HXYs.out.left hr.rd hr.fr); have HXZa := Aside0.mk (HXZs.out.left hr.rd hr.fr); have HYZa := Aside0.mk (Two.mk HXYa.out.b HXZa.out.b HYZs.out.ne HYZs.out.h HYZs.out.t); have hrow := hr.row; obtain ⟨V1A, V1c, rfl, hv1c⟩ := q_slice hrow; have HVa := Aside0.mk hrow; clear hr hrow hv1c) | (go_at_call 9; (with_reducible refine (frame_Reader_Dead.calls w wc B1 hv1 tx1 { s1 with told := [] } HXYc.out.a).mono ?_); rintro e w9 ⟨rfl, hw⟩; rw [hw]; clear hw w9) | (go_at_call 9; (with_reducible refine (frame_Reader_Dead.calls w wc B3 hv3 tv3 s1 HXZc.out.b).mono ?_); rintro e w9 ⟨rfl, hw⟩; rw [hw]; clear hw w9) | (go_at_call 9; (with_reducible refine (frame_Reader_Dead.calls w wa B1 hv1 tx1 { s1 with told := [] } HXYa.out.a).mono ?_); rintro e w9 ⟨rfl, hw⟩; rw [hw]; clear hw w9) | (go_at_call 9; (with_reducible refine (frame_Reader_Dead.calls w wa B2 hv2 tv2 s1 HXYa.out.b).mono ?_); rintro e w9 ⟨rfl, hw⟩; rw [hw]; clear hw w9))
    go_ret
    exact ⟨rfl, HXZe.out.a.below⟩
  ·have t3 : decide ((l0.length : Int) ≤ 3000) = false := decide_eq_false (by omega)
   have t3' : decide ((3000 : Int) < (l0.length : Int)) = true := decide_eq_true (by omega)
   obtain rfl : i = 0 := HI.out.resolve_right hsh
   have t4 : decide ((0 : Int) < (l0.length : Int)) = true := decide_eq_true (by omega)
   have t4' : decide (0 < l0.length) = true := decide_eq_true (by omega)
   rw [List.take_zero, Go.Proofs.YtbhajflbbjipdaaDoor.XFm.after_nil] at HXZs HYZs
   clear hi hsh; go_upto_region 14 with ((go_at_call 10; refine (feed_any w wr HG.out B3 hv3 tv3 Go.Proofs.YtbhajflbbjipdaaDoor.XFm.new HXZs.out.b A0 l0.length c0 bs hL0.out (hR0.out.move HXYs.out.a.below) (by show 4 * (0 + l0.length) + 0 ≤ 900000; have := HS.out; omega)).mono ?_; rintro e wt ⟨xx, hv4, tv4, rfl, hr, hf⟩; rw [HS1.out] at hr; have HXZt := Aside0.mk (HXZs.out.symm.left hr hf).symm; have HYZt := Aside0.mk (HYZs.out.symm.left hr hf).symm; have HXYt := Aside0.mk (Two.mk HXZt.out.a HYZt.out.a HXYs.out.ne HXYs.out.h HXYs.out.t); clear hr hf))
   go_wp2_with (first | (go_at_call 16; (with_reducible refine (same_q HVd.out HUd.out (by have := HZ1.out; omega)).mono ?_); rintro e we ⟨rfl, hb⟩; rw [decide_eq_true (rfl : s1.told = s1.told)]; have HXZe := Aside0.mk (HXZd.out.move hb); clear hb) | (go_at_call 15; (with_reducible refine (glossatorlaw05_heard.calls w wc B3 hv4 tv4 s1 HXZc.out.b (by have := HZ1.out; omega)).mono ?_); rintro e wd ⟨V3, tx3, rfl, hr⟩; have HXZd := Aside0.mk (HXZc.out.symm.left hr.rd hr.fr).symm; have HVd := Aside0.mk (row_keep HXZt.out.b HVc.out hr.fr); have hrow := hr.row; obtain ⟨V3A, V3c, rfl, hv3c⟩ := q_slice hrow; have HUd := Aside0.mk hrow; clear hr hrow hv3c) | (go_at_call 16; (with_reducible refine (same_q HVb.out HUb.out (by have := HZ1.out; omega)).mono ?_); rintro e wc ⟨rfl, hb⟩; rw [decide_eq_true (rfl : s1.told = s1.told)]; have HXYc := Aside0.mk (HXYb.out.move hb); have HXZc := Aside0.mk (HXZb.out.move hb); have HVc := Aside0.mk (q_move HVb.out (fun k hk => hb.block k (q_lt HVb.out k hk))); clear hb) | (go_at_call 15; (with_reducible refine (glossatorlaw05_heard.calls w wa B2 hv2 tv2 s1 HXYa.out.b (by have := HZ1.out; omega)).mono ?_); rintro e wb ⟨V2, tx2, rfl, hr⟩; have HXYb := Aside0.mk (HXYa.out.symm.left hr.rd hr.fr).symm; have HYZb := Aside0.mk (HYZa.out.left hr.rd hr.fr); have HXZb := Aside0.mk (Two.mk HXYb.out.a HYZb.out.b HXZa.out.ne HXZa.out.h HXZa.out.t); have HVb := Aside0.mk (row_keep HXYt.out.b HVa.out hr.fr); have hrow := hr.row; obtain ⟨V2A, V2c, rfl, hv2c⟩ := q_slice hrow; have HUb := Aside0.mk hrow; clear hr hrow hv2c) | (go_at_call 15; (with_reducible refine (glossatorlaw05_heard.calls w wt B1 hv1 tv1 s1 HXYt.out.a (by have := HZ1.out; omega)).mono ?_); rintro e wa ⟨V1, tx1, rfl, hr⟩; have HXYa := Aside0.mk (HXYt.out.left hr.rd hr.fr); have HXZa := Aside0.mk (HXZt.out.left hr.rd hr.fr); have HYZa := Aside0.mk (Two.mk HXYa.out.b HXZa.out.b HYZt.out.ne HYZt.out.h HYZt.out.t); have hrow := hr.row; obtain ⟨V1A, V1c, rfl, hv1c⟩ := q_slice hrow; have HVa := Aside0.mk hrow; clear hr hrow hv1c) | (go_at_call 9; (with_reducible refine (frame_Reader_Dead.calls w wc B1 hv1 tx1 { s1 with told := [] } HXYc.out.a).mono ?_); rintro e w9 ⟨rfl, hw⟩; rw [hw]; clear hw w9) | (go_at_call 9; (with_reducible refine (frame_Reader_Dead.calls w wc B3 hv4 tv4 s1 HXZc.out.b).mono ?_); rintro e w9 ⟨rfl, hw⟩; rw [hw]; clear hw w9) | (go_at_call 9; (with_reducible refine (frame_Reader_Dead.calls w wa B1 hv1 tx1 { s1 with told := [] } HXYa.out.a).mono ?_); rintro e w9 ⟨rfl, hw⟩; rw [hw]; clear hw w9) | (go_at_call 9; (with_reducible refine (frame_Reader_Dead.calls w wa B2 hv2 tv2 s1 HXYa.out.b).mono ?_); rintro e w9 ⟨rfl, hw⟩; rw [hw]; clear hw w9))
   go_ret
   exact ⟨rfl, HXZe.out.a.below⟩
/-- THE ONE PURE STATEMENT of glossatorlaw05_FrameChunks. -/
def glossatorlaw05_FrameChunks.Pure : Prop := ∀ (p0 : List Int) (p1 : List Int), (p0.length ≤ maxLen ∧ p0.length * 1 ≤ 140737488351232 ∧ (∀ x ∈ p0, (fun x : Int => (Lit.int .u8 x).wf = true) x)) → (p1.length ≤ maxLen ∧ p1.length * 8 ≤ 140737488351232 ∧ (∀ x ∈ p1, (fun x : Int => (Lit.int .i64 x).wf = true) x)) → ∃ k, glossatorlaw05_FrameChunks.f k p0 p1 = some true
theorem dl (b : ByteArray) : b.data.toList.length = b.size := by rw [Array.length_toList]; rfl
theorem rd_at (l : List ByteArray) (i : Nat) (h : i < l.length) : rdOf ByteArray.empty l (i : Int) = l[i] := by
 unfold rdOf
 rw [Int.toNat_natCast, List.getD_eq_getElem?_getD, List.getElem?_eq_getElem h]
 rfl
theorem ba_cat (a b : List UInt8) : (⟨a.toArray⟩ ++ ⟨b.toArray⟩ : ByteArray) = ⟨(a ++ b).toArray⟩ := ByteArray.ext (by rw [ByteArray.data_append]; simp)
theorem wr_f (b : ByteArray) (hb : b.size ≤ 20000) : frame_Write.f b = some ⟨(Go.Proofs.YtbhajflbbjipdaaDoor.XFm.wr b.data.toList).toArray⟩ := by
 have hl := Go.Proofs.YtbhajflbbjipdaaDoor.XFm.d_len b.size (by omega)
 have hsz : ∀ l : List UInt8, (⟨l.toArray⟩ : ByteArray).size = l.length := fun l => rfl
 have h1 : strconv_Itoa.f (b.size : Int) = some ⟨(Lib.decDigits b.size).toArray⟩ := by
  unfold strconv_Itoa.f
  rw [if_pos (by omega), if_pos (by omega), Lib.itoa_nonneg]
 have h16 : (⟨#[67, 111, 110, 116, 101, 110, 116, 45, 76, 101, 110, 103, 116, 104, 58, 32]⟩ : ByteArray).size = 16 := rfl
 have h4 : (⟨#[13, 10, 13, 10]⟩ : ByteArray).size = 4 := rfl
 unfold frame_Write.f
 rw [h1, Option.bind_some, if_pos (by rw [hsz]; omega), if_pos (by rw [ByteArray.size_append, h16, hsz]; omega), if_pos (by rw [ByteArray.size_append, ByteArray.size_append, h16, h4, hsz]; omega)]
 refine congrArg some (ByteArray.ext (Array.ext' ?_))
 have e := dl b
 unfold Go.Proofs.YtbhajflbbjipdaaDoor.XFm.wr Go.Proofs.YtbhajflbbjipdaaDoor.XFm.hdr Go.Proofs.YtbhajflbbjipdaaDoor.XFm.crlf2
 rw [e]
 simp [ByteArray.data_append]
theorem wr_len (b : List UInt8) (h : b.length ≤ 20000) : (Go.Proofs.YtbhajflbbjipdaaDoor.XFm.wr b).length ≤ 30 + b.length := by
 have := Go.Proofs.YtbhajflbbjipdaaDoor.XFm.d_len b.length (by omega)
 unfold Go.Proofs.YtbhajflbbjipdaaDoor.XFm.wr Go.Proofs.YtbhajflbbjipdaaDoor.XFm.hdr Go.Proofs.YtbhajflbbjipdaaDoor.XFm.crlf2
 simp only [List.length_append, List.length_cons, List.length_nil]
 omega
def sumM (l : List ByteArray) : Nat := (l.map fun b => min b.size 262144).sum
def txt (l : List ByteArray) : List UInt8 := (l.map fun b => b.data.toList).flatMap Go.Proofs.YtbhajflbbjipdaaDoor.XFm.wr
theorem sumM_mem {l : List ByteArray} (h : sumM l ≤ 20000) : ∀ b ∈ l, b.size ≤ 20000 := by
 induction l with
 | nil => intro b hb; cases hb
 | cons a l ih =>
  intro b hb
  have e : sumM (a :: l) = min a.size 262144 + sumM l := by simp [sumM]
  rcases List.mem_cons.1 hb with rfl | hb
  ·omega
  ·exact ih (by omega) b hb
theorem sumM_step (l : List ByteArray) (i : Nat) (h : i < l.length) : sumM (l.take (i + 1)) = sumM (l.take i) + min l[i].size 262144 := by
 unfold sumM
 rw [List.take_succ_eq_append_getElem h, List.map_append, List.sum_append]
 simp only [List.map_cons, List.map_nil, List.sum_cons, List.sum_nil, Nat.add_zero]
theorem sumM_le (l : List ByteArray) : sumM l ≤ l.length * 262144 := by
 induction l with
 | nil => exact Nat.le_refl _
 | cons a l ih =>
  have e : sumM (a :: l) = min a.size 262144 + sumM l := by simp [sumM]
  rw [e, List.length_cons]
  omega
theorem sum41 (l : List ByteArray) (i : Nat) (h : i ≤ 41) : sumM (l.take i) ≤ 10747904 := by
 have h1 := sumM_le (l.take i)
 have h2 : (l.take i).length ≤ 41 := by rw [List.length_take]; omega
 generalize sumM (l.take i) = a at *
 generalize (l.take i).length = b at *
 omega
theorem txt_step (l : List ByteArray) (i : Nat) (h : i < l.length) : txt (l.take (i + 1)) = txt (l.take i) ++ Go.Proofs.YtbhajflbbjipdaaDoor.XFm.wr l[i].data.toList := by
 unfold txt
 rw [List.take_succ_eq_append_getElem h, List.map_append, List.flatMap_append]
 simp only [List.map_cons, List.map_nil, List.flatMap_cons, List.flatMap_nil, List.append_nil]
theorem txt_len {l : List ByteArray} (h : sumM l ≤ 20000) : (txt l).length ≤ 30 * l.length + sumM l := by
 induction l with
 | nil => exact Nat.zero_le _
 | cons a l ih =>
  have e : sumM (a :: l) = min a.size 262144 + sumM l := by simp [sumM]
  have e2 : txt (a :: l) = Go.Proofs.YtbhajflbbjipdaaDoor.XFm.wr a.data.toList ++ txt l := by simp [txt]
  have e3 := dl a
  have h1 := wr_len a.data.toList (by omega)
  have h2 := ih (by omega)
  rw [e, e2, List.length_append, List.length_cons]
  omega
theorem sb_map (l : List ByteArray) : sb (l.map fun b => b.data.toList) = l := by
 unfold sb
 rw [List.map_map]
 refine (List.map_congr_left fun b _ => ?_).trans (List.map_id l)
 exact ByteArray.ext (by simp)
theorem same_in {w : World} {b1 n c d : Nat} {A1 A2 : Option Addr} {x : List (List UInt8)} {ys : List ByteArray} (h1 : QRow w b1 9 1 (.slice A1 n c) n (sv x)) (h2 : Kd.C Kd.string w A2 ys.length ys) (hd : ys.length ≤ d) (hx : x.length ≤ 1000000) :
  Calls Tryd.prog 16 #[.slice A1 n c, .slice A2 ys.length d] w fun e w' => e = .returned (.bool (decide (sb x = ys))) ∧ Below w.heap.size w w' := by
 have e1 : n = (sb x).length := by have := h1.1; rw [sv_len] at this; rw [sb_len]; omega
 have c1 : n ≤ c := by obtain ⟨_, _, he, hc⟩ := q_slice h1; injection he with _ _ e3; omega
 have hC1 := q_C h1
 clear h1; subst e1; refine (glossatorlaw05_same.calls _ A1 c (sb x) A2 d ys (decide (sb x = ys)) w hC1 c1 h2 hd (same_f (sb x) ys (by rw [sb_len]; exact hx))).mono ?_
 rintro e w' ⟨rfl, q, rfl⟩
 exact ⟨rfl, below_drewN w q⟩
/-- A string's bytes, converted: a reader is handed them. -/
theorem cut_start {w0 w3 : World} {B : Nat} (hr : RdF w0 B (.slice none 0 0) (.slice none 0 0) Go.Proofs.YtbhajflbbjipdaaDoor.XFm.new w3) (AL : List UInt8) :
  CutR w0 (w3.drew.alloc (.cells (bytesRow ⟨AL.toArray⟩ (grownCap w3 (⟨AL.toArray⟩ : ByteArray).size 0 5)) 5 ((bytesRow ⟨AL.toArray⟩ (grownCap w3 (⟨AL.toArray⟩ : ByteArray).size 0 5)).size, (bytesRow ⟨AL.toArray⟩ (grownCap w3 (⟨AL.toArray⟩ : ByteArray).size 0 5)).size + 1))) B (.slice none 0 0) (.slice none 0 0) [] AL
   (.slice (some ⟨w3.heap.size, 0, none⟩) (⟨AL.toArray⟩ : ByteArray).size (grownCap w3 (⟨AL.toArray⟩ : ByteArray).size 0 5)) (.slice none 0 0) (.slice none 0 0) [] AL
   (w3.drew.alloc (.cells (bytesRow ⟨AL.toArray⟩ (grownCap w3 (⟨AL.toArray⟩ : ByteArray).size 0 5)) 5 ((bytesRow ⟨AL.toArray⟩ (grownCap w3 (⟨AL.toArray⟩ : ByteArray).size 0 5)).size, (bytesRow ⟨AL.toArray⟩ (grownCap w3 (⟨AL.toArray⟩ : ByteArray).size 0 5)).size + 1))) := by
 generalize hcap : grownCap w3 (⟨AL.toArray⟩ : ByteArray).size 0 5 = cap
 have hge : AL.length ≤ cap := by rw [← hcap]; exact grownCap_ge w3 AL.length 0 5
 refine ⟨rfl, ?_, .refl _ _ _ _, ⟨_, _, rfl, hge, ?_, ?_⟩, fun _ h => by cases h⟩
 ·rw [Go.Proofs.YtbhajflbbjipdaaDoor.XFm.after_nil]
  exact hr.move (below_alloc (below_drew (Below.refl _ _)) _)
 ·intro _
  refine ⟨_, rfl, fun j u hu => ?_⟩
  have hj : j < AL.length := by have := (List.getElem?_eq_some_iff.1 hu).1; rwa [bv_len] at this
  have h1 := bytesRow_at ⟨AL.toArray⟩ cap j (by simpa using hj)
  have h2 : u = .int .u8 ((AL[j].toNat : Nat) : Int) := by
   simp [bv, List.getElem?_eq_getElem hj] at hu
   exact hu.symm
  rw [add_at, Nat.zero_add, cell_of_row _ w3.heap.size _ _ 5 _ (heap_alloc_new w3.drew _), h1, h2]
  simp
 ·intro k hk
  have : w3.heap.size = k := by simpa [Value.ownBlock] using hk
  subst this; exact ⟨_, _, heap_alloc_new w3.drew _⟩
def glossatorlaw05_FrameBack.f (_ : Nat) (l0 : List ByteArray) (l1 : List Int) : Option Bool := if l0.length + l1.length ≤ 1152921504606846976 then some true else none
theorem glossatorlaw05_FrameBack.mono : ∀ a0 l1 k, LeO (glossatorlaw05_FrameBack.f k a0 l1) (glossatorlaw05_FrameBack.f (k + 1) a0 l1) := fun _ _ _ => LeO.refl _
set_option maxRecDepth 100000 in
set_option maxHeartbeats 8000000 in
theorem glossatorlaw05_FrameBack.calls (k : Nat) (A0 : Option Addr) (c0 : Nat) (l0 : List ByteArray) (A1 : Option Addr) (c1 : Nat) (l1 : List Int) (r : Bool) (w : World) (hr0 : Kd.C Kd.string w A0 l0.length l0) (hc0 : l0.length ≤ c0) (hr1 : Kd.C (Kd.int .i64) w A1 l1.length l1) (hc1 : l1.length ≤ c1) (hG : GlobOk w) (h : glossatorlaw05_FrameBack.f k l0 l1 = some r) :
  Calls Tryd.prog 5 #[.slice A0 l0.length c0, .slice A1 l1.length c1] w fun e w' => e = .returned (.bool r) ∧ Below w.heap.size w w' := by
 unfold glossatorlaw05_FrameBack.f at h
 obtain ⟨hl, h⟩ := ite_told h
 subst h; have HQ := Aside0.mk hr0; have HP := Aside0.mk hr1; have HG := Aside0.mk hG; have HC0 := Aside0.mk hc0; have HC1 := Aside0.mk hc1; have HL := Aside0.mk hl; clear hr0 hr1 hc0 hc1 hl hG; go_enter Tryd.func5, Tryd.ntmps5
 go_upto_region 4 with ((go_at_call 13; refine (glossatorlaw05_awake.calls w HG.out).mono ?_; rintro e w1 ⟨rfl, hb⟩; have HB1 := Aside0.mk hb; clear hb))
 go_wp2
 go_loopg [5, 7] 41 (fun kq v5 v7 w' => ∃ (i : Nat), kq = 41 - i ∧ v5 = .int .i64 (sumM (l0.take i)) ∧ v7 = .int .i64 i ∧ i ≤ l0.length ∧ i ≤ 41 ∧ w' = w1)
 case atStart => exact ⟨0, rfl, rfl, rfl, Nat.zero_le _, Nat.zero_le _, rfl⟩
 case round =>
  obtain ⟨i, rfl, rfl, rfl, hi, hi41, rfl⟩ := hrel
  by_cases hil : i < l0.length
  ·have t1 : decide ((i : Int) < (l0.length : Int)) = true := decide_eq_true (by omega)
   have t1' : decide (i < l0.length) = true := decide_eq_true hil
   by_cases h40 : i ≤ 40
   ·have t2 : decide ((i : Int) ≤ 40) = true := decide_eq_true (by omega)
    obtain ⟨ad, rfl, y1⟩ := Kd.at_string HQ.out (i : Int) (by omega) (by omega)
    have y2 := pw_cell_below HB1.out y1
    rw [Int.toNat_natCast, rd_at l0 i hil] at y2
    have hst := sumM_step l0 i hil
    have hle : sumM (l0.take i) ≤ 10747904 := sum41 l0 i hi41
    generalize l0[i] = b at y2 hst
    have HST := Aside0.mk hst; have HLE := Aside0.mk hle; have HI := Aside0.mk (show i ≤ 40 ∧ i < l0.length from ⟨h40, hil⟩)
    clear y1 hst hle hi hi41 h40; by_cases hbz : 262144 < b.size
    ·have t3 : (262144 : Int) < (b.size : Int) := by omega
     go_wp2
     have hw1 := Go.Proofs.YtbhajflbbjipdaaDoor.XEv.w1 i (by have := HI.out; omega)
     have hw2 : wrap64 ((sumM (l0.take i) : Nat) + 262144 : Int) = ((sumM (l0.take (i + 1)) : Nat) : Int) := by have := HST.out; have := HLE.out; unfold wrap64; omega
     rw [hw1, hw2]
     go_roundg (41 - (i + 1))
     case rel => exact ⟨i + 1, rfl, rfl, rfl, by have := HI.out; omega, by have := HI.out; omega, rfl⟩
     case measure => have := HI.out; omega
    ·have t3 : ¬ (262144 : Int) < (b.size : Int) := by omega
     go_wp2
     have hw1 := Go.Proofs.YtbhajflbbjipdaaDoor.XEv.w1 i (by have := HI.out; omega)
     have hw2 : wrap64 ((sumM (l0.take i) : Nat) + (b.size : Nat) : Int) = ((sumM (l0.take (i + 1)) : Nat) : Int) := by have := HST.out; have := HLE.out; unfold wrap64; omega
     rw [hw1, hw2]
     go_roundg (41 - (i + 1))
     case rel => exact ⟨i + 1, rfl, rfl, rfl, by have := HI.out; omega, by have := HI.out; omega, rfl⟩
     case measure => have := HI.out; omega
   ·have t2 : decide ((i : Int) ≤ 40) = false := decide_eq_false (by omega)
    have t4 : decide ((40 : Int) < (l0.length : Int)) = true := decide_eq_true (by omega)
    clear hi hi41 h40 hil; go_wp2
    go_ret
    exact ⟨rfl, HB1.out⟩
  ·have t1 : decide ((i : Int) < (l0.length : Int)) = false := decide_eq_false (by omega)
   have t1' : decide (i < l0.length) = false := decide_eq_false hil
   obtain rfl : i = l0.length := by omega
   rw [List.take_length]
   by_cases h40 : 40 < l0.length
   ·have t4 : decide ((40 : Int) < (l0.length : Int)) = true := decide_eq_true (by omega)
    clear hi hi41 h40 hil; go_wp2
    go_ret
    exact ⟨rfl, HB1.out⟩
   have t4 : decide ((40 : Int) < (l0.length : Int)) = false := decide_eq_false (by omega)
   by_cases hn : 20000 < sumM l0
   ·have t5 : decide ((20000 : Int) < ((sumM l0 : Nat) : Int)) = true := decide_eq_true (by omega)
    clear hi hi41 h40 hil hn; go_wp2
    go_ret
    exact ⟨rfl, HB1.out⟩
   have t5 : decide ((20000 : Int) < ((sumM l0 : Nat) : Int)) = false := decide_eq_false (by omega)
   by_cases hp : 400 < l1.length
   ·have t6 : decide ((400 : Int) < (l1.length : Int)) = true := decide_eq_true (by omega)
    clear hi hi41 h40 hil hn hp; go_wp2
    go_ret
    exact ⟨rfl, HB1.out⟩
   have t6 : decide ((400 : Int) < (l1.length : Int)) = false := decide_eq_false (by omega)
   have HN1 := Aside0.mk (show l0.length ≤ 40 by omega)
   have HN2 := Aside0.mk (show l1.length ≤ 400 by omega)
   have HN := Aside0.mk (show sumM l0 ≤ 20000 by omega)
   have HAL := Aside0.mk (show (txt l0).length ≤ 30000 by have := txt_len HN.out; omega)
   clear hi hi41 h40 hil hn hp; go_wp2
   go_loopg [6, 8] l0.length (fun kq v6 v8 w' => ∃ (i : Nat), kq = l0.length - i ∧ v6 = .string ⟨(txt (l0.take i)).toArray⟩ ∧ v8 = .int .i64 i ∧ i ≤ l0.length ∧ Aside0 (Below w.heap.size w w'))
   case atStart => exact ⟨0, rfl, rfl, rfl, Nat.zero_le _, HB1⟩
   case round =>
    obtain ⟨i, rfl, rfl, rfl, hi, HBr⟩ := hrel
    clear t1 t1'; by_cases hil : i < l0.length
    ·have t1 : decide ((i : Int) < (l0.length : Int)) = true := decide_eq_true (by omega)
     have t1' : decide (i < l0.length) = true := decide_eq_true hil
     obtain ⟨ad, rfl, y1⟩ := Kd.at_string HQ.out (i : Int) (by omega) (by omega)
     have y2 := pw_cell_below HBr.out y1
     rw [Int.toNat_natCast, rd_at l0 i hil] at y2
     have hbm := sumM_mem HN.out l0[i] (List.getElem_mem hil)
     have HTX := Aside0.mk (txt_step l0 i hil)
     have HWf := Aside0.mk (wr_f l0[i] hbm)
     have hj : (⟨(txt (l0.take i)).toArray⟩ : ByteArray).size + (⟨(Go.Proofs.YtbhajflbbjipdaaDoor.XFm.wr l0[i].data.toList).toArray⟩ : ByteArray).size ≤ 9223372036854775807 := by
      have h1 : sumM (l0.take i) ≤ 20000 := by
       have : sumM l0 = sumM (l0.take i) + sumM (l0.drop i) := by
        unfold sumM
        rw [← List.sum_append, ← List.map_append, List.take_append_drop]
       have := HN.out
       omega
      have h2 := txt_len h1
      have h3 := wr_len l0[i].data.toList (by rw [dl]; exact hbm)
      have h4 : l0[i].data.toList.length ≤ 20000 := by rw [dl]; exact hbm
      rw [List.length_take] at h2
      show (txt (l0.take i)).length + (Go.Proofs.YtbhajflbbjipdaaDoor.XFm.wr l0[i].data.toList).length ≤ _
      have := HN1.out
      omega
     generalize l0[i] = b at y2 HTX HWf hj
     have HI := Aside0.mk hil; clear y1 hbm hi; go_wp2_with ((go_at_call 17; refine (frame_Write.calls b _ wr (HG.out.below HBr.out) HWf.out).mono ?_; rintro e w2 ⟨rfl, hb⟩; have HB2 := Aside0.mk (below_step HBr.out hb); clear hb))
     have hw1 := Go.Proofs.YtbhajflbbjipdaaDoor.XEv.w1 i (by have := HN1.out; omega)
     rw [ba_cat, ← HTX.out, hw1]
     go_roundg (l0.length - (i + 1))
     case rel => exact ⟨i + 1, rfl, rfl, rfl, by omega, HB2⟩
     case measure => omega
    ·have t1 : decide ((i : Int) < (l0.length : Int)) = false := decide_eq_false (by omega)
     have t1' : decide (i < l0.length) = false := decide_eq_false hil
     obtain rfl : i = l0.length := by omega
     rw [List.take_length]
     obtain ⟨n9, hn9⟩ := Go.Proofs.YtbhajflbbjipdaaDoor.XFm.after_wr (l0.map fun b => b.data.toList) (by intro b hb; obtain ⟨x, hx, rfl⟩ := List.mem_map.1 hb; have := sumM_mem HN.out x hx; rw [dl]; omega)
     have hn9 : Go.Proofs.YtbhajflbbjipdaaDoor.XFm.after (txt l0) = ⟨[], false, n9, l0.map fun b => b.data.toList, 0⟩ := hn9
     obtain ⟨S8, hS8⟩ : ∃ s, s = Go.Proofs.YtbhajflbbjipdaaDoor.XFm.after (txt l0) := ⟨_, rfl⟩
     have HAF := Aside0.mk hS8.symm; have HT8 := Aside0.mk (show S8.told.length ≤ 900000 by rw [hS8, hn9]; show (l0.map fun b => b.data.toList).length ≤ 900000; rw [List.length_map]; have := HN1.out; omega)
     have HSB := Aside0.mk (show decide (sb S8.told = l0) = true by rw [hS8, hn9]; exact decide_eq_true (sb_map l0))
     have td : (S8.dead == 0) = true := by rw [hS8, hn9]; rfl
     clear hn9 hi hil hS8; generalize txt l0 = AL at *
     go_upto_region 15 with ((go_at_call 8; refine (frame_New.calls w wr HBr.out).mono ?_; rintro e w3 ⟨B, rfl, hle, hr, hb⟩; have HR3 := Aside0.mk hr; clear hr hle hb))
     have hcv := run_bytes_of_string w3 9 29 5 ⟨AL.toArray⟩ Tryd.underlying9 Tryd.underlying29 Tryd.underlying5
     go_upto_region 16 with ((go_at_call 14; refine (glossatorlaw05_cut.calls w _ HG.out B (.slice none 0 0) (.slice none 0 0) _ [] AL (cut_start HR3.out AL) A1 c1 l1 HP.out HC1.out (by have := HN2.out; omega) (by rw [List.nil_append]; exact HAL.out)).mono ?_; rintro e w8 ⟨hv2, tv2, rfl, hr, _⟩; rw [List.nil_append, HAF.out] at hr; have HR8 := Aside0.mk hr; clear hr))
     clear hcv; go_wp2_with (first | (go_at_call 16; refine (same_in HVa.out (Kd.C_below HQ.out HRa.out.below) HC0.out (by have := HT8.out; omega)).mono ?_; rintro e wb ⟨rfl, hb⟩; rw [HSB.out]; have HBb := Aside0.mk hb; clear hb) | (go_at_call 15; refine (glossatorlaw05_heard.calls w w8 B hv2 tv2 S8 HR8.out HT8.out).mono ?_; rintro e wa ⟨V1, tx1, rfl, hr⟩; have hrow := hr.row; have HRa := Aside0.mk hr.rd; obtain ⟨V1A, V1c, rfl, hv1c⟩ := q_slice hrow; have HVa := Aside0.mk hrow; clear hr hrow hv1c) | (go_at_call 9; (with_reducible refine (frame_Reader_Dead.calls w w8 B hv2 tv2 S8 HR8.out).mono ?_); rintro e w9 ⟨rfl, hw⟩; rw [hw]; clear hw w9))
     go_ret
     exact ⟨rfl, below_step HRa.out.below HBb.out⟩
/-- THE ONE PURE STATEMENT of glossatorlaw05_FrameBack. -/
def glossatorlaw05_FrameBack.Pure : Prop := ∀ (p0 : List ByteArray) (p1 : List Int), (p0.length ≤ maxLen ∧ p0.length * 16 ≤ 140737488351232 ∧ (∀ x ∈ p0, (fun x : ByteArray => x.size ≤ 140737488351232) x)) → (p1.length ≤ maxLen ∧ p1.length * 8 ≤ 140737488351232 ∧ (∀ x ∈ p1, (fun x : Int => (Lit.int .i64 x).wf = true) x)) → ∃ k, glossatorlaw05_FrameBack.f k p0 p1 = some true
end Go.Proofs.YtbhajflbbjipdaaDoor.Q

end
section
namespace Go.Proofs.YtbhajflbbjipdaaDoor.Pure
open Go Go.RowKit Go.Proofs.YtbhajflbbjipdaaDoor.Q Go.Proofs.YtbhajflbbjipdaaDoorW.PrintWords Go.Proofs.YtbhajflbbjipdaaDoorW.PrintLast Go.Proofs.YtbhajflbbjipdaaDoorW.PrintMore Go.Proofs.YtbhajflbbjipdaaDoor.XEv
set_option linter.unusedVariables false
set_option linter.unusedSimpArgs false
theorem FrameBack : glossatorlaw05_FrameBack.Pure := by
  intro p0 p1 h0 h1
  have a := h0.2.1
  have b := h1.2.1
  exact ⟨0, if_pos (by omega)⟩
end Go.Proofs.YtbhajflbbjipdaaDoor.Pure

end
