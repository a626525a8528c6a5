/- Words and walks of this claim, put together by this repo's wip/xlink.py out of Q2, Q3. -/
import Derived.Test.YtebmgmagdhedgaaGreatDoorL8
section
namespace Go.Proofs.YtebmgmagdhedgaaGreatDoor.Q
open Go.RowKit Go.Proofs.YtebmgmagdhedgaaGreatDoorW.PrintWords Go.Proofs.YtebmgmagdhedgaaGreatDoorW.PrintLast Go.Proofs.YtebmgmagdhedgaaGreatDoorW.PrintMore
attribute [local go_sem] max2_int min2_int max_two min_two max_three min_three max_four min_four   
set_option linter.unusedVariables false
set_option linter.unusedSimpArgs false
theorem hexL_lt : ∀ (l : List Nat) (a n : Nat), hexL l a = some n → n < (a + 1) * 16 ^ l.length := by
 intro l
 induction l with
 | nil => intro a n h; injection h with h; simp; omega
 | cons c r ih =>
  intro a n h
  rw [hexL_cons] at h
  cases hv : hexv c with
  | none => rw [hv] at h; cases h
  | some d =>
   rw [hv] at h
   have h1 := ih _ _ h
   have h2 := hexv_lt hv
   have h3 : (a * 16 + d + 1) * 16 ^ r.length ≤ ((a + 1) * 16) * 16 ^ r.length := Nat.mul_le_mul_right _ (by omega)
   rw [List.length_cons, Nat.pow_succ]
   have h4 : (a + 1) * (16 ^ r.length * 16) = ((a + 1) * 16) * 16 ^ r.length := by rw [Nat.mul_assoc, Nat.mul_comm 16]
   omega
theorem ne_cast (a : Nat) : ((a : Int) != 65533) = (a != 65533) := by
 rw [Bool.eq_iff_iff]
 simp
 omega
/-- Does a low one stand behind a high one? -/
def pairB (s : ByteArray) (i h : Nat) : Bool := if s.size < i + 6 then false else if (s.extract i (i + 2)).data.toList = [92, 117] then (match hexL ((s.extract (i + 2) (i + 6)).data.toList.map UInt8.toNat) 0 with | some n => joined h n != 65533 | none => false) else false
set_option maxRecDepth 100000 in
set_option maxHeartbeats 1000000 in
theorem json_reader_pair.calls (B : Nat) (s : ByteArray) (i h : Nat) (w : World) (hR : Rdr B s i w) (hs : s.size ≤ 140737488351232) (hi : i ≤ s.size) (hh : h < 65536) (hG : GlobOk w) :
  Calls Tryz.prog 100 #[.pointer (some ⟨B, 0, none⟩), .int .i32 h] w fun e w' => e = .returned (.bool (pairB s i h)) ∧ Below w.heap.size w w' := by
 have c0 := hR.c0
 have c1 := hR.c1
 by_cases h6 : s.size < i + 6
 ·have t1 : decide ((s.size : Int) < (i : Int) + 6) = true := decide_eq_true (by omega)
  have HE := Aside0.mk (show pairB s i h = false by unfold pairB; rw [if_pos h6])
  clear hR; go_enter Tryz.func100, Tryz.ntmps100
  go_wp2
  go_quiet (fail)
  go_wp2
  go_ret
  rw [HE.out]
  exact ⟨rfl, pw_below_drewN (Below.refl _ _) _⟩
 ·have t1 : decide ((s.size : Int) < (i : Int) + 6) = false := decide_eq_false (by omega)
  have b1 : (0 : Int) ≤ (i : Int) := by omega
  have b2 : (i : Int) ≤ (i : Int) + 2 := by omega
  have b3 : (i : Int) + 2 ≤ (s.size : Int) := by omega
  have b4 : (i : Int) + 2 ≤ (i : Int) + 6 := by omega
  have b5 : (i : Int) + 6 ≤ (s.size : Int) := by omega
  clear hR; by_cases hu : (s.extract i (i + 2)).data.toList = [92, 117]
  ·have t2 : (!(s.extract i (i + 2)).toList == [92, 117]) = false := by rw [ByteArray.toList_eq, hu]; rfl
   have hsz : (s.extract (i + 2) (i + 6)).size = 4 := by rw [ByteArray.size_extract]; omega
   have HS := Aside0.mk hsz; have HG := Aside0.mk hG; obtain ⟨tx, htx⟩ : ∃ tx, tx = s.extract (i + 2) (i + 6) := ⟨_, rfl⟩
   cases hx : hexL ((s.extract (i + 2) (i + 6)).data.toList.map UInt8.toNat) 0 with
   | some n =>
    have HE := Aside0.mk (show pairB s i h = (joined h n != 65533) by unfold pairB; rw [if_neg h6, if_pos hu, hx])
    have HP := Aside0.mk (show ∀ w', Below w.heap.size w w' → Calls Tryz.prog 114 #[.string (s.extract (i + 2) (i + 6)), .int .i64 16, .int .i64 32] w' fun e w1 => e = .returned (.tuple #[.int .u64 n, .nilIface]) ∧ Below w'.heap.size w' w1 from fun w' hb => by
     refine (pu_outer _ hsz w' (HG.out.below hb)).mono ?_
     intro e w1 ⟨he, hb⟩
     rw [hx] at he
     exact ⟨he, hb⟩)
    have hn : n < 65536 := by
     have h1 := hexL_lt _ _ _ hx
     have h2 : ((s.extract (i + 2) (i + 6)).data.toList.map UInt8.toNat).length = 4 := by rw [List.length_map, Array.length_toList]; exact hsz
     rw [h2] at h1
     omega
    have wn : IntKind.i32.wrap (n : Int) = (n : Int) := by rw [IntKind.wrap_i32]; omega
    have HJ := Aside0.mk (fun w => json_joined.calls h n hh hn w)
    have w2 : IntKind.i64.wrap ((i : Int) + 2) = (i : Int) + 2 := IntWalk.i64_in _ (by omega)
    have w6 : IntKind.i64.wrap ((i : Int) + 6) = (i : Int) + 6 := IntWalk.i64_in _ (by omega)
    have n2 : ((i : Int) + 2).toNat = i + 2 := by omega
    have n6 : ((i : Int) + 6).toNat = i + 6 := by omega
    have z2 : (0 : Int) ≤ (i : Int) + 2 := by omega
    clear hu hsz hG hx htx hn; go_enter Tryz.func100, Tryz.ntmps100
    go_wp2
    go_quiet (fail)
    go_wp2
    go_region_held3 (fun w' => w'.cell? ⟨B, 0, none⟩ = some (.string s) ∧ w'.cell? ⟨B, 1, none⟩ = some (.int .i64 i)) (first | exact ⟨c0n, c1n⟩ | go_keep) (first | (go_at_call 114; refine (HP.out _ (pw_below_drewN (Below.refl _ _) _)).mono ?_; rintro e w1 ⟨rfl, hb⟩; have c0n := pw_cell_below hb c0; have c1n := pw_cell_below hb c1; have HB := Aside0.mk hb; clear hb))
    go_wp2_with (go_at_call 102; refine (HJ.out _).mono ?_; rintro e w2 ⟨rfl, rfl⟩)
    go_ret
    rw [HE.out, ← ne_cast]
    exact ⟨rfl, below_step (pw_below_drewN (Below.refl _ _) _) HB.out⟩
   | none =>
    have HE := Aside0.mk (show pairB s i h = false by unfold pairB; rw [if_neg h6, if_pos hu, hx])
    have HP := Aside0.mk (show ∀ w', Below w.heap.size w w' → Calls Tryz.prog 114 #[.string (s.extract (i + 2) (i + 6)), .int .i64 16, .int .i64 32] w' fun e w1 => (∃ p, e = .returned (.tuple #[.int .u64 0, .iface 115 p])) ∧ Below w'.heap.size w' w1 from fun w' hb => by
     refine (pu_outer _ hsz w' (HG.out.below hb)).mono ?_
     intro e w1 ⟨he, hb⟩
     rw [hx] at he
     exact ⟨he, hb⟩)
    have w2 : IntKind.i64.wrap ((i : Int) + 2) = (i : Int) + 2 := IntWalk.i64_in _ (by omega)
    have w6 : IntKind.i64.wrap ((i : Int) + 6) = (i : Int) + 6 := IntWalk.i64_in _ (by omega)
    have n2 : ((i : Int) + 2).toNat = i + 2 := by omega
    have n6 : ((i : Int) + 6).toNat = i + 6 := by omega
    have z2 : (0 : Int) ≤ (i : Int) + 2 := by omega
    clear hu hsz hG hx htx; go_enter Tryz.func100, Tryz.ntmps100
    go_wp2
    go_quiet (fail)
    go_wp2
    go_region_held3 (fun w' => w'.cell? ⟨B, 0, none⟩ = some (.string s) ∧ w'.cell? ⟨B, 1, none⟩ = some (.int .i64 i)) (first | exact ⟨c0n, c1n⟩ | go_keep) (first | (go_at_call 114; refine (HP.out _ (pw_below_drewN (Below.refl _ _) _)).mono ?_; rintro e w1 ⟨⟨p, rfl⟩, hb⟩; have c0n := pw_cell_below hb c0; have c1n := pw_cell_below hb c1; have HB := Aside0.mk hb; clear hb))
    go_wp2
    go_ret
    rw [HE.out]
    exact ⟨rfl, below_step (pw_below_drewN (Below.refl _ _) _) HB.out⟩
  ·have t2 : (!(s.extract i (i + 2)).toList == [92, 117]) = true := by rw [ByteArray.toList_eq]; simpa using hu
   have HE := Aside0.mk (show pairB s i h = false by unfold pairB; rw [if_neg h6, if_neg hu])
   clear hu; go_enter Tryz.func100, Tryz.ntmps100
   go_wp2
   go_quiet (fail)
   go_wp2
   go_ret
   rw [HE.out]
   exact ⟨rfl, pw_below_drewN (Below.refl _ _) _⟩
/-- What stands for itself, or for a control, behind a backslash. -/
def escV (c : Nat) : Option Nat := if c = 34 then some 34 else if c = 92 then some 92 else if c = 47 then some 47 else if c = 98 then some 8 else if c = 102 then some 12 else if c = 110 then some 10 else if c = 114 then some 13 else if c = 116 then some 9 else none
theorem escV_some {c v : Nat} (h : escV c = some v) : (c = 34 ∧ v = 34) ∨ (c = 92 ∧ v = 92) ∨ (c = 47 ∧ v = 47) ∨ (c = 98 ∧ v = 8) ∨ (c = 102 ∧ v = 12) ∨ (c = 110 ∧ v = 10) ∨ (c = 114 ∧ v = 13) ∨ (c = 116 ∧ v = 9) := by
 unfold escV at h
 repeat (split at h; · injection h with h; omega)
 cases h
theorem escV_none (c : Nat) (hc : c < 256) (h : escV c = none) : Lib.indexByte [34, 92, 47, 98, 102, 110, 114, 116] c.toUInt8 = -1 := by
 have : ∀ c, c < 256 → escV c = none → Lib.indexByte [34, 92, 47, 98, 102, 110, 114, 116] c.toUInt8 = -1 := by decide +kernel
 exact this c hc h
def escU (s : ByteArray) (u j : Nat) : Res Nat := if 55296 ≤ u ∧ u < 57344 then (if pairB s j u = true then (unit s (j + 1)).bind fun l k => .ok (joined u l) k else .ok 65533 j) else .ok u j
def escape (s : ByteArray) (i : Nat) : Res Nat := match escV (hnd s i) with | some v => .ok v (i + 1) | none => (unit s i).bind fun u j => escU s u j
theorem unit_lt {s : ByteArray} {i n j : Nat} (h : unit s i = .ok n j) : n < 65536 ∧ j = i + 5 := by
 unfold unit at h
 split at h
 ·have key : ∀ (k i n m j : Nat), hexN s k i n = .ok m j → m < (n + 1) * 16 ^ k ∧ j = i + k := by
   intro k
   induction k with
   | zero => intro i n m j h; simp only [hexN] at h; injection h with h1 h2; subst h1 h2; simp
   | succ k ih =>
    intro i n m j h
    rw [hexN] at h
    cases hv : hexv (hnd s i) with
    | none => rw [hv] at h; cases h
    | some d =>
     rw [hv] at h
     have h1 := ih _ _ _ _ h
     have h2 := hexv_lt hv
     have h3 : (n * 16 + d + 1) * 16 ^ k ≤ ((n + 1) * 16) * 16 ^ k := Nat.mul_le_mul_right _ (by omega)
     rw [Nat.pow_succ]
     have h4 : (n + 1) * (16 ^ k * 16) = ((n + 1) * 16) * 16 ^ k := by rw [Nat.mul_assoc, Nat.mul_comm 16]
     omega
  have := key _ _ _ _ _ h
  omega
 ·cases h
theorem esc_ib (c : Nat) (w : World) : Calls Tryz.prog 50 #[.string ⟨#[34, 92, 47, 98, 102, 110, 114, 116]⟩, .int .u8 c] w fun e w' => e = .returned (.int .i64 (Lib.indexByte [34, 92, 47, 98, 102, 110, 114, 116] c.toUInt8)) ∧ w' = w := ib_c ⟨#[34, 92, 47, 98, 102, 110, 114, 116]⟩ c w
theorem esc_w (x : UInt8) (n : Nat) (h : x.toNat = n) : wrap32 (x.toNat : Int) = (n : Int) := by
 have := UInt8.toNat_lt x
 unfold wrap32
 omega
theorem json_reader_escape.hit (B : Nat) (s : ByteArray) (i v : Nat) (w : World) (hR : Rdr B s i w) (hs : s.size ≤ 140737488351232) (hv : escV (hnd s i) = some v) :
  Calls Tryz.prog 78 #[.pointer (some ⟨B, 0, none⟩)] w (Out B s VR w (.ok v (i + 1))) := by
 have c0 := hR.c0
 have c1 := hR.c1
 have fr := hR.fr
 have HR := Aside0.mk hR; have hc := escV_some hv
 have hl : i < s.size := hnd_pos (c := hnd s i) rfl (by omega)
 have t1 : decide ((i : Int) < (s.size : Int)) = true := decide_eq_true (by omega)
 have HH := Aside0.mk (json_reader_hand.calls B s i w hR hs)
 have HB := Aside0.mk (esc_ib (hnd s i))
 clear hR hv; rcases hc with ⟨hc, rfl⟩ | ⟨hc, rfl⟩ | ⟨hc, rfl⟩ | ⟨hc, rfl⟩ | ⟨hc, rfl⟩ | ⟨hc, rfl⟩ | ⟨hc, rfl⟩ | ⟨hc, rfl⟩
 ·have HC := Aside0.mk (show Lib.indexByte [34, 92, 47, 98, 102, 110, 114, 116] (hnd s i).toUInt8 = 0 by rw [hc]; rfl)
  clear hc; go_enter Tryz.func78, Tryz.ntmps78
  go_wp2_with (first | (go_at_call 51; refine HH.out.mono ?_; rintro e w' ⟨rfl, n1, rfl⟩) | (go_at_call 50; refine (HB.out _).mono ?_; rintro e w' ⟨rfl, rfl⟩; rw [HC.out]))
  go_quiet (fail)
  go_wp2
  go_ret
  exact ⟨_, rfl, congrArg (Value.int IntKind.i32) (esc_w _ _ rfl), hl, Rdr.set1 (i := i) (HR.out.drewN _), ((Kp.refl _ _).drewN _).set _ _⟩
 ·have HC := Aside0.mk (show Lib.indexByte [34, 92, 47, 98, 102, 110, 114, 116] (hnd s i).toUInt8 = 1 by rw [hc]; rfl)
  clear hc; go_enter Tryz.func78, Tryz.ntmps78
  go_wp2_with (first | (go_at_call 51; refine HH.out.mono ?_; rintro e w' ⟨rfl, n1, rfl⟩) | (go_at_call 50; refine (HB.out _).mono ?_; rintro e w' ⟨rfl, rfl⟩; rw [HC.out]))
  go_quiet (fail)
  go_wp2
  go_ret
  exact ⟨_, rfl, congrArg (Value.int IntKind.i32) (esc_w _ _ rfl), hl, Rdr.set1 (i := i) (HR.out.drewN _), ((Kp.refl _ _).drewN _).set _ _⟩
 ·have HC := Aside0.mk (show Lib.indexByte [34, 92, 47, 98, 102, 110, 114, 116] (hnd s i).toUInt8 = 2 by rw [hc]; rfl)
  clear hc; go_enter Tryz.func78, Tryz.ntmps78
  go_wp2_with (first | (go_at_call 51; refine HH.out.mono ?_; rintro e w' ⟨rfl, n1, rfl⟩) | (go_at_call 50; refine (HB.out _).mono ?_; rintro e w' ⟨rfl, rfl⟩; rw [HC.out]))
  go_quiet (fail)
  go_wp2
  go_ret
  exact ⟨_, rfl, congrArg (Value.int IntKind.i32) (esc_w _ _ rfl), hl, Rdr.set1 (i := i) (HR.out.drewN _), ((Kp.refl _ _).drewN _).set _ _⟩
 ·have HC := Aside0.mk (show Lib.indexByte [34, 92, 47, 98, 102, 110, 114, 116] (hnd s i).toUInt8 = 3 by rw [hc]; rfl)
  clear hc; go_enter Tryz.func78, Tryz.ntmps78
  go_wp2_with (first | (go_at_call 51; refine HH.out.mono ?_; rintro e w' ⟨rfl, n1, rfl⟩) | (go_at_call 50; refine (HB.out _).mono ?_; rintro e w' ⟨rfl, rfl⟩; rw [HC.out]))
  go_quiet (fail)
  go_wp2
  go_ret
  exact ⟨_, rfl, congrArg (Value.int IntKind.i32) (esc_w _ _ rfl), hl, Rdr.set1 (i := i) (HR.out.drewN _), ((Kp.refl _ _).drewN _).set _ _⟩
 ·have HC := Aside0.mk (show Lib.indexByte [34, 92, 47, 98, 102, 110, 114, 116] (hnd s i).toUInt8 = 4 by rw [hc]; rfl)
  clear hc; go_enter Tryz.func78, Tryz.ntmps78
  go_wp2_with (first | (go_at_call 51; refine HH.out.mono ?_; rintro e w' ⟨rfl, n1, rfl⟩) | (go_at_call 50; refine (HB.out _).mono ?_; rintro e w' ⟨rfl, rfl⟩; rw [HC.out]))
  go_quiet (fail)
  go_wp2
  go_ret
  exact ⟨_, rfl, congrArg (Value.int IntKind.i32) (esc_w _ _ rfl), hl, Rdr.set1 (i := i) (HR.out.drewN _), ((Kp.refl _ _).drewN _).set _ _⟩
 ·have HC := Aside0.mk (show Lib.indexByte [34, 92, 47, 98, 102, 110, 114, 116] (hnd s i).toUInt8 = 5 by rw [hc]; rfl)
  clear hc; go_enter Tryz.func78, Tryz.ntmps78
  go_wp2_with (first | (go_at_call 51; refine HH.out.mono ?_; rintro e w' ⟨rfl, n1, rfl⟩) | (go_at_call 50; refine (HB.out _).mono ?_; rintro e w' ⟨rfl, rfl⟩; rw [HC.out]))
  go_quiet (fail)
  go_wp2
  go_ret
  exact ⟨_, rfl, congrArg (Value.int IntKind.i32) (esc_w _ _ rfl), hl, Rdr.set1 (i := i) (HR.out.drewN _), ((Kp.refl _ _).drewN _).set _ _⟩
 ·have HC := Aside0.mk (show Lib.indexByte [34, 92, 47, 98, 102, 110, 114, 116] (hnd s i).toUInt8 = 6 by rw [hc]; rfl)
  clear hc; go_enter Tryz.func78, Tryz.ntmps78
  go_wp2_with (first | (go_at_call 51; refine HH.out.mono ?_; rintro e w' ⟨rfl, n1, rfl⟩) | (go_at_call 50; refine (HB.out _).mono ?_; rintro e w' ⟨rfl, rfl⟩; rw [HC.out]))
  go_quiet (fail)
  go_wp2
  go_ret
  exact ⟨_, rfl, congrArg (Value.int IntKind.i32) (esc_w _ _ rfl), hl, Rdr.set1 (i := i) (HR.out.drewN _), ((Kp.refl _ _).drewN _).set _ _⟩
 ·have HC := Aside0.mk (show Lib.indexByte [34, 92, 47, 98, 102, 110, 114, 116] (hnd s i).toUInt8 = 7 by rw [hc]; rfl)
  clear hc; go_enter Tryz.func78, Tryz.ntmps78
  go_wp2_with (first | (go_at_call 51; refine HH.out.mono ?_; rintro e w' ⟨rfl, n1, rfl⟩) | (go_at_call 50; refine (HB.out _).mono ?_; rintro e w' ⟨rfl, rfl⟩; rw [HC.out]))
  go_quiet (fail)
  go_wp2
  go_ret
  exact ⟨_, rfl, congrArg (Value.int IntKind.i32) (esc_w _ _ rfl), hl, Rdr.set1 (i := i) (HR.out.drewN _), ((Kp.refl _ _).drewN _).set _ _⟩
set_option maxRecDepth 100000 in
set_option maxHeartbeats 1000000 in
theorem json_reader_escape.miss (B : Nat) (s : ByteArray) (i : Nat) (w : World) (hR : Rdr B s i w) (hs : s.size ≤ 140737488351232) (hi : i ≤ s.size) (hv : escV (hnd s i) = none) (hG : GlobOk w) (hF : GFree B) :
  Calls Tryz.prog 78 #[.pointer (some ⟨B, 0, none⟩)] w (Out B s VR w ((unit s i).bind fun u j => escU s u j)) := by
 have c0 := hR.c0
 have c1 := hR.c1
 have HR := Aside0.mk hR; have HG := Aside0.mk hG; have HH := Aside0.mk (json_reader_hand.calls B s i w hR hs)
 have hib := fun w => esc_ib (hnd s i) w
 rw [escV_none _ (hnd_lt s i) hv] at hib
 have HB := Aside0.mk hib; have HU := Aside0.mk (fun w (h : Rdr B s i w) => json_reader_unit.calls B s i w h hs hi)
 obtain ⟨R, hRes⟩ : ∃ R, R = (unit s i).bind fun u j => escU s u j := ⟨_, rfl⟩
 rw [← hRes]
 clear hR hG hib; have t2 : decide ((0 : Int) ≤ -1) = false := by decide
 have HA := Aside0.mk True.intro; cases hu : unit s i with
 | bad j c =>
  have H1 := Aside0.mk (show Res.bad j c = R by rw [hRes, hu]; rfl)
  have HE := Aside0.mk hu; clear hRes hu; by_cases hl : i < s.size
  ·have t1 : decide ((i : Int) < (s.size : Int)) = true := decide_eq_true (by omega)
   go_enter Tryz.func78, Tryz.ntmps78
   go_wp2_with (first | (go_at_call 51; refine HH.out.mono ?_; rintro e w' ⟨rfl, n1, rfl⟩) | (go_at_call 50; refine (HB.out _).mono ?_; rintro e w' ⟨rfl, rfl⟩))
   go_quiet (fail)
   go_wp2_with (go_at_call 99; refine (HU.out _ (HR.out.drewN _)).mono ?_; intro e w1 ho; rw [HE.out] at ho; obtain ⟨rfl, hk⟩ := ho.bad_; have HK := Aside0.mk hk; clear ho hk)
   exact ⟨rfl, by rw [← H1.out]; exact ⟨rfl, ((Kp.refl _ _).drewN _).trans HK.out⟩⟩
  ·have t1 : decide ((i : Int) < (s.size : Int)) = false := decide_eq_false (by omega)
   go_enter Tryz.func78, Tryz.ntmps78
   go_wp2_with (first | (go_at_call 51; refine HH.out.mono ?_; rintro e w' ⟨rfl, n1, rfl⟩) | (go_at_call 50; refine (HB.out _).mono ?_; rintro e w' ⟨rfl, rfl⟩))
   go_quiet (fail)
   go_wp2_with (go_at_call 99; refine (HU.out _ (HR.out.drewN _)).mono ?_; intro e w1 ho; rw [HE.out] at ho; obtain ⟨rfl, hk⟩ := ho.bad_; have HK := Aside0.mk hk; clear ho hk)
   exact ⟨rfl, by rw [← H1.out]; exact ⟨rfl, ((Kp.refl _ _).drewN _).trans HK.out⟩⟩
 | ok u j =>
  have hU := unit_lt hu
  have hl : i < s.size := by
   unfold unit at hu
   split at hu
   ·rename_i h; exact hnd_pos h (by omega)
   ·cases hu
  have t1 : decide ((i : Int) < (s.size : Int)) = true := decide_eq_true (by omega)
  have HE := Aside0.mk hu; have hlt := hU.1
  have HF := Aside0.mk hF; have H1 := Aside0.mk (show escU s u j = R by rw [hRes, hu]; rfl)
  clear hRes hu hU hF; by_cases hs1 : 55296 ≤ u
  ·have t3 : decide ((55296 : Int) ≤ (u : Int)) = true := decide_eq_true (by omega)
   by_cases hs2 : u < 57344
   ·have t4 : decide ((u : Int) < 57344) = true := decide_eq_true (by omega)
    have HP := Aside0.mk (fun w (h : Rdr B s j w) (hg : GlobOk w) (hj : j ≤ s.size) => json_reader_pair.calls B s j u w h hs hj hlt hg)
    cases hp : pairB s j u with
    | false =>
     have H2 := Aside0.mk (show Res.ok 65533 j = R by rw [← H1.out]; unfold escU; rw [if_pos ⟨hs1, hs2⟩, hp]; rfl)
     rw [hp] at HP
     clear hp; go_enter Tryz.func78, Tryz.ntmps78
     go_wp2_with (first | (go_at_call 51; refine HH.out.mono ?_; rintro e w' ⟨rfl, n1, rfl⟩) | (go_at_call 50; refine (HB.out _).mono ?_; rintro e w' ⟨rfl, rfl⟩))
     go_quiet (fail)
     go_wp2_with (first | (go_at_call 99; refine (HU.out _ (HR.out.drewN _)).mono ?_; intro e w1 ho; rw [HE.out] at ho; obtain ⟨x, rfl, rfl, hj, hr, hk⟩ := ho.ok_; have HR1 := Aside0.mk hr; have HK := Aside0.mk (((Kp.refl _ _).drewN _).trans hk); clear ho hr hk) | (go_at_call 100; refine (HP.out _ HR1.out (HG.out.kept HF.out HK.out.block) hj).mono ?_; rintro e w2 ⟨rfl, hb⟩; have HR2 := Aside0.mk (HR1.out.below hb); have HK2 := Aside0.mk (HK.out.trans (Kp.of_below hb)); clear hb))
     go_ret
     rw [← H2.out]
     exact ⟨_, rfl, rfl, hj, HR2.out, HK2.out⟩
    | true =>
     have HJ := Aside0.mk (show j + 1 ≤ s.size by
      unfold pairB at hp
      split at hp
      ·cases hp
      ·omega)
     have H2 := Aside0.mk (show ((unit s (j + 1)).bind fun l k => .ok (joined u l) k) = R by rw [← H1.out]; unfold escU; rw [if_pos ⟨hs1, hs2⟩, if_pos hp])
     rw [hp] at HP
     clear hp; cases hl2 : unit s (j + 1) with
     | bad k c =>
      have HL := Aside0.mk hl2; have H3 := Aside0.mk (show Res.bad k c = R by rw [← H2.out, hl2]; rfl)
      clear hl2; go_enter Tryz.func78, Tryz.ntmps78
      go_wp2_with (first | (go_at_call 51; refine HH.out.mono ?_; rintro e w' ⟨rfl, n1, rfl⟩) | (go_at_call 50; refine (HB.out _).mono ?_; rintro e w' ⟨rfl, rfl⟩))
      go_quiet (fail)
      go_wp2_with (first | (go_at_call 99; refine (HU.out _ (HR.out.drewN _)).mono ?_; intro e w1 ho; rw [HE.out] at ho; obtain ⟨x, rfl, rfl, hj, hr, hk⟩ := ho.ok_; have HR1 := Aside0.mk hr; have HK := Aside0.mk (((Kp.refl _ _).drewN _).trans hk); clear ho hr hk) | (go_at_call 100; refine (HP.out _ HR1.out (HG.out.kept HF.out HK.out.block) hj).mono ?_; rintro e w2 ⟨rfl, hb⟩; have HR2 := Aside0.mk (HR1.out.below hb); have HK2 := Aside0.mk (HK.out.trans (Kp.of_below hb)); clear hb) | (go_at_call 101; refine (json_reader_unit2.calls B s j _ HR2.out hs HJ.out).mono ?_; intro e w3 ho; rw [HL.out] at ho; obtain ⟨rfl, hk⟩ := ho.bad_; have HK3 := Aside0.mk (HK2.out.trans hk); clear ho hk))
      exact ⟨rfl, by rw [← H3.out]; exact ⟨rfl, HK3.out⟩⟩
     | ok l k =>
      have HL := Aside0.mk hl2; have H3 := Aside0.mk (show Res.ok (joined u l) k = R by rw [← H2.out, hl2]; rfl)
      have HJO := Aside0.mk (fun w => json_joined.calls u l hlt (unit_lt hl2).1 w)
      clear hl2; go_enter Tryz.func78, Tryz.ntmps78
      go_wp2_with (first | (go_at_call 51; refine HH.out.mono ?_; rintro e w' ⟨rfl, n1, rfl⟩) | (go_at_call 50; refine (HB.out _).mono ?_; rintro e w' ⟨rfl, rfl⟩))
      go_quiet (fail)
      go_wp2_with (first | (go_at_call 99; refine (HU.out _ (HR.out.drewN _)).mono ?_; intro e w1 ho; rw [HE.out] at ho; obtain ⟨x, rfl, rfl, hj, hr, hk⟩ := ho.ok_; have HR1 := Aside0.mk hr; have HK := Aside0.mk (((Kp.refl _ _).drewN _).trans hk); clear ho hr hk) | (go_at_call 100; refine (HP.out _ HR1.out (HG.out.kept HF.out HK.out.block) hj).mono ?_; rintro e w2 ⟨rfl, hb⟩; have HR2 := Aside0.mk (HR1.out.below hb); have HK2 := Aside0.mk (HK.out.trans (Kp.of_below hb)); clear hb) | (go_at_call 101; refine (json_reader_unit2.calls B s j _ HR2.out hs HJ.out).mono ?_; intro e w3 ho; rw [HL.out] at ho; obtain ⟨x, rfl, rfl, hj2, hr, hk⟩ := ho.ok_; have HR3 := Aside0.mk hr; have HK3 := Aside0.mk (HK2.out.trans hk); clear ho hr hk) | (go_at_call 102; refine (HJO.out _).mono ?_; rintro e w4 ⟨rfl, rfl⟩))
      go_ret
      rw [← H3.out]
      exact ⟨_, rfl, rfl, hj2, HR3.out, HK3.out⟩
   ·have t4 : decide ((u : Int) < 57344) = false := decide_eq_false (by omega)
    have H2 := Aside0.mk (show Res.ok u j = R by rw [← H1.out]; unfold escU; rw [if_neg (fun h => hs2 h.2)])
    go_enter Tryz.func78, Tryz.ntmps78
    go_wp2_with (first | (go_at_call 51; refine HH.out.mono ?_; rintro e w' ⟨rfl, n1, rfl⟩) | (go_at_call 50; refine (HB.out _).mono ?_; rintro e w' ⟨rfl, rfl⟩))
    go_quiet (fail)
    go_wp2_with (go_at_call 99; refine (HU.out _ (HR.out.drewN _)).mono ?_; intro e w1 ho; rw [HE.out] at ho; obtain ⟨x, rfl, rfl, hj, hr, hk⟩ := ho.ok_; have HR1 := Aside0.mk hr; have HK := Aside0.mk (((Kp.refl _ _).drewN _).trans hk); clear ho hr hk)
    go_ret
    rw [← H2.out]
    exact ⟨_, rfl, rfl, hj, HR1.out, HK.out⟩
  ·have t3 : decide ((55296 : Int) ≤ (u : Int)) = false := decide_eq_false (by omega)
   have H2 := Aside0.mk (show Res.ok u j = R by rw [← H1.out]; unfold escU; rw [if_neg (fun h => hs1 h.1)])
   go_enter Tryz.func78, Tryz.ntmps78
   go_wp2_with (first | (go_at_call 51; refine HH.out.mono ?_; rintro e w' ⟨rfl, n1, rfl⟩) | (go_at_call 50; refine (HB.out _).mono ?_; rintro e w' ⟨rfl, rfl⟩))
   go_quiet (fail)
   go_wp2_with (go_at_call 99; refine (HU.out _ (HR.out.drewN _)).mono ?_; intro e w1 ho; rw [HE.out] at ho; obtain ⟨x, rfl, rfl, hj, hr, hk⟩ := ho.ok_; have HR1 := Aside0.mk hr; have HK := Aside0.mk (((Kp.refl _ _).drewN _).trans hk); clear ho hr hk)
   go_ret
   rw [← H2.out]
   exact ⟨_, rfl, rfl, hj, HR1.out, HK.out⟩
theorem json_reader_escape.calls (B : Nat) (s : ByteArray) (i : Nat) (w : World) (hR : Rdr B s i w) (hs : s.size ≤ 140737488351232) (hi : i ≤ s.size) (hG : GlobOk w) (hF : GFree B) :
  Calls Tryz.prog 78 #[.pointer (some ⟨B, 0, none⟩)] w (Out B s VR w (escape s i)) := by
 unfold escape
 cases hv : escV (hnd s i) with
 | some v => exact json_reader_escape.hit B s i v w hR hs hv
 | none => exact json_reader_escape.miss B s i w hR hs hi hv hG hF
def NxO (d : Nat × Nat) (e : Ending) : Prop := e = .returned (if d.1 = 65533 ∧ d.2 = 1 then .tuple #[.int .i32 0, .int .i64 0, .bool false] else .tuple #[.int .i32 d.1, .int .i64 d.2, .bool true])
theorem next_go (s : ByteArray) (i : Nat) (h : i < s.size) : Lib.decodeGo (s.extract i s.size) = Utf8.decode s i := by
 unfold Lib.decodeGo
 rw [if_neg (by rw [Lib.tail_size]; omega), Lib.tail_decode, Nat.add_zero]
theorem next_in (s : ByteArray) (i : Nat) (w : World) (hG : GlobOk w) (hs : s.size ≤ 140737488351232) (hi : i < s.size) : Calls Tryz.prog 79 #[.string s, .int .i64 i] w fun e w' => NxO (Utf8.decode s i) e ∧ Below w.heap.size w w' := by
 have t1 : decide ((s.size : Int) ≤ (i : Int)) = false := decide_eq_false (by omega)
 have t0 : decide ((i : Int) < 0) = false := decide_eq_false (by omega)
 obtain ⟨d, hd⟩ : ∃ d, d = Utf8.decode s i := ⟨_, rfl⟩
 have hc := Tryz.utf8_DecodeRuneInString (s.extract i s.size) w hG.utf
 rw [next_go s i hi, ← hd] at hc
 rw [← hd]
 obtain ⟨r, z⟩ := d
 have HC := Aside0.mk hc; have b1 : (i : Int) ≤ (s.size : Int) := by omega
 clear hc hd hG; by_cases h1 : r = 65533
 ·by_cases h2 : z = 1
  ·subst h1 h2
   go_enter Tryz.func79, Tryz.ntmps79
   go_wp2_with (go_at_call 84; refine HC.out.mono ?_; rintro e w1 ⟨rfl, hb⟩; have HB := Aside0.mk hb; clear hb)
   all_goals (refine bodyPost_ret (v := .tuple #[.int .i32 0, .int .i64 0, .bool false]) ?_ rfl ⟨rfl, HB.out⟩; simp [results, Tryz.results79, go_sem])
  ·have t2 : ((z : Int) == 1) = false := by simp; omega
   have HN := Aside0.mk h2; clear h2; subst h1; go_enter Tryz.func79, Tryz.ntmps79
   go_wp2_with (go_at_call 84; refine HC.out.mono ?_; rintro e w1 ⟨rfl, hb⟩; have HB := Aside0.mk hb; clear hb)
   refine bodyPost_ret (v := .tuple #[.int .i32 65533, .int .i64 z, .bool true]) (by simp [results, Tryz.results79, go_sem]) rfl ⟨?_, HB.out⟩
   unfold NxO; rw [if_neg (fun h => HN.out h.2)]; rfl
 ·have t2 : ((r : Int) == 65533) = false := by simp; omega
  have HN := Aside0.mk h1; clear h1; go_enter Tryz.func79, Tryz.ntmps79
  go_wp2_with (go_at_call 84; refine HC.out.mono ?_; rintro e w1 ⟨rfl, hb⟩; have HB := Aside0.mk hb; clear hb)
  refine bodyPost_ret (v := .tuple #[.int .i32 r, .int .i64 z, .bool true]) (by simp [results, Tryz.results79, go_sem]) rfl ⟨?_, HB.out⟩
  unfold NxO; rw [if_neg (fun h => HN.out h.1)]
/-- How many bytes the character at a place has; none: it is none. -/
def nxt (s : ByteArray) (i : Nat) : Option Nat := if (Utf8.decode s i).1 = 65533 ∧ (Utf8.decode s i).2 = 1 then none else some (Utf8.decode s i).2
/-- A text from a place on, behind what was read. -/
def txt (s : ByteArray) : Nat → Nat → List UInt8 → Res (List UInt8)
 | 0, i, _ => .bad i 0
 | f + 1, i, acc => if hnd s i = 34 then .ok acc (i + 1) else if hnd s i < 32 then .bad i 30 else if hnd s i = 92 then (escape s (i + 1)).bind fun r j => txt s f j (acc ++ Lib.encodeRune r) else match nxt s i with
  | some z => txt s f (i + z) (acc ++ (s.extract i (i + z)).data.toList)
  | none => .bad i 30
def text (s : ByteArray) (i : Nat) : Res (List UInt8) := txt s (s.size + 1) (i + 1) []
def VT (l : List UInt8) (x : Value) (_ : World) : Prop := x = .string ⟨l.toArray⟩
theorem bld_kept {T e : TypeId} {N b : Nat} {bs : List Value} {w w' : World} (h : Lib.IsBuilderF T e N b bs w) (hb : ∀ k, N ≤ k → k < w.heap.size → w'.heap[k]? = w.heap[k]?) : Lib.IsBuilderF T e N b bs w' := by
 have one : ∀ p, Lib.BuilderAtF T e N b p bs w → Lib.BuilderAtF T e N b p bs w' := by
  rintro p ⟨hB, v, hk, ho, hne⟩
  refine ⟨hB, v, (hb b hB (Array.getElem?_eq_some_iff.1 hk).1).trans hk, ⟨ho.1, ho.2.imp id ?_⟩, hne⟩
  rintro ⟨g, cap, cur, fz, hv, hg, hh, rest⟩
  exact ⟨g, cap, cur, fz, hv, hg, (hb g hg (Array.getElem?_eq_some_iff.1 hh).1).trans hh, rest⟩
 exact h.imp (one _) (one _)
theorem bld_kp {T e : TypeId} {N b B : Nat} {bs : List Value} {w w' : World} (h : Lib.IsBuilderF T e N b bs w) (hk : Kp B w w') (hB : B < N) : Lib.IsBuilderF T e N b bs w' := bld_kept h (fun k hN hlt => hk.block k hlt (by omega))
theorem Kp.thenB {B N : Nat} {a b c : World} (h : Kp B a b) (hb : Below N b c) (hN : a.heap.size ≤ N) : Kp B a c :=
 ⟨hb.os.trans h.os, hb.tape.trans h.tape, hb.output.trans h.output, Nat.le_trans h.size hb.size, fun k hk hn => (hb.block k (by omega)).trans (h.block k hk hn)⟩
theorem encode_len (r : Nat) : (Lib.encodeRune (r : Int)).length ≤ 4 := by
 have := (Lib.runeCells_le (r : Int)).2
 rw [Lib.runeCells_length] at this
 exact this
theorem encode_one (r : Nat) (h : r < 128) : (Lib.encodeRune (r : Int)).length = 1 := by
 rw [Lib.encodeRune, Lib.encodeRuneZ_one (by omega) (by omega)]; rfl
theorem joined_lt (h l : Nat) : joined h l < 1114112 := by unfold joined; split <;> omega
theorem escape_ok {s : ByteArray} {i r j : Nat} (h : escape s i = .ok r j) : r < 1114112 ∧ (Lib.encodeRune (r : Int)).length + i ≤ j := by
 unfold escape at h
 cases hv : escV (hnd s i) with
 | some v =>
  rw [hv] at h
  injection h with h1 h2
  have := escV_some hv
  have h3 : r < 128 := by omega
  rw [encode_one r h3]
  omega
 | none =>
  rw [hv] at h
  have h4 := encode_len r
  cases hu : unit s i with
  | bad k c => rw [hu] at h; cases h
  | ok u k =>
   rw [hu] at h
   have hk := unit_lt hu
   change escU s u k = .ok r j at h
   unfold escU at h
   split at h
   ·split at h
    ·cases hl : unit s (k + 1) with
     | bad m c => rw [hl] at h; cases h
     | ok l m =>
      rw [hl] at h
      have hm := unit_lt hl
      injection h with h1 h2
      have := joined_lt u l
      omega
    ·injection h with h1 h2
     omega
   ·injection h with h1 h2
    omega
set_option maxRecDepth 100000 in
set_option maxHeartbeats 2000000 in
theorem json_reader_text.calls (B : Nat) (s : ByteArray) (i : Nat) (w : World) (hR : Rdr B s i w) (hs : s.size ≤ 140737488351232) (hi : i < s.size) (hG : GlobOk w) (hF : GFree B) :
  Calls Tryz.prog 53 #[.pointer (some ⟨B, 0, none⟩)] w (Out B s VT w (text s i)) := by
 obtain ⟨N, hN⟩ : ∃ N, N = w.heap.size := ⟨_, rfl⟩
 obtain ⟨W1, hW1⟩ : ∃ W1, W1 = w.alloc (.cells #[.pointer none, .slice none 0 0] 50 (0, 0)) := ⟨_, rfl⟩
 have hI : Lib.IsBuilderF 50 5 N N (Lib.byteCells []) W1 := by rw [hN, hW1]; exact Lib.IsBuilderF.of (Lib.fresh_isBuilder 50 5 w)
 have hR1 : Rdr B s i W1 := by rw [hW1]; exact hR.alloc _
 have hb1 : Below w.heap.size w W1 := by rw [hW1]; exact below_alloc (Below.refl _ _) _
 have hBN : B < N := by rw [hN]; exact hR.lt
 obtain ⟨R, hRes⟩ : ∃ R, R = text s i := ⟨_, rfl⟩
 have HRes := Aside0.mk hRes; rw [← hRes]
 go_enter Tryz.func53, Tryz.ntmps53
 go_upto_region 2 with (fail)
 rw [← hW1, ← hN]
 have c1 := hR1.c1
 have fr := hR1.fr
 have H1 := Aside0.mk (Rdr.set1 hR1)
 have H2 := Aside0.mk (bld_kept hI (w' := W1.setCell ⟨B, 1, none⟩ (.int .i64 ((i : Int) + 1))) (fun k hk _ => Below.heap_setCell _ _ _ _ (show k ≠ B by omega)))
 have H3 := Aside0.mk (((Kp.of_below hb1).set (B := B) 1 (.int .i64 ((i : Int) + 1))))
 have HG := Aside0.mk hG; have HF := Aside0.mk hF; have HNw := Aside0.mk hN; clear hW1 hR hI hR1 hb1 hN hRes hG hF; go_wp2
 clear c1 fr; go_loopg [] (s.size + 1) (fun kq w' => ∃ (j : Nat) (acc : List UInt8), j ≤ s.size ∧ s.size < j + kq ∧ Aside0 (acc.length ≤ j) ∧ Aside0 (txt s kq j acc = R) ∧ Aside0 (Rdr B s j w') ∧ Aside0 (Lib.IsBuilderF 50 5 N N (Lib.byteCells acc) w') ∧ Aside0 (Kp B w w'))
 case atStart => exact ⟨i + 1, [], hi, by omega, ⟨by simp⟩, ⟨HRes.out.symm⟩, H1, H2, H3⟩
 case round =>
  clear H1 H2 H3 HRes; obtain ⟨j, acc, hj, hk, HA, HX, HR, HI, HK⟩ := hrel
  obtain ⟨f, rfl⟩ : ∃ f, gk = f + 1 := ⟨gk - 1, by omega⟩
  have hX := HX.out
  rw [txt] at hX
  have HH := Aside0.mk (json_reader_hand.calls B s j wr HR.out hs)
  have c0 := HR.out.c0
  have c1 := HR.out.c1
  have fr := HR.out.fr
  have HNs := Aside0.mk (show N ≤ wr.heap.size by rw [HNw.out]; exact HK.out.size)
  by_cases h34 : hnd s j = 34
  ·rw [if_pos h34] at hX
   have HX1 := Aside0.mk hX; have hlt := hnd_pos h34 (by omega)
   have t34 := eqI (hnd s j) 34 (by omega)
   have HBn := Aside0.mk hBN; clear hX h34; have HIs := Aside0.mk (fun n u => bld_kept HI.out (w' := (wr.drewN n).setCell ⟨B, 1, none⟩ u) (fun k hk _ => Below.heap_setCell _ _ _ _ (show k ≠ B by have := HBn.out; omega)))
   go_wp2_with (go_at_call 51; refine HH.out.mono ?_; rintro e w' ⟨rfl, n1, rfl⟩)
   refine (Tryz.Builder_String_any_k N N acc _ (HIs.out _ _) (by have := HNs.out; simpa [World.setCell] using this)).mono ?_
   rintro e w1 ⟨rfl, _, hb, _⟩
   have HB1 := Aside0.mk hb; clear hb; go_wp2
   go_ret
   rw [← HX1.out]
   have hk2 := ((HK.out.drewN n1).set 1 (.int .i64 ((j : Int) + 1)))
   have hr2 := Rdr.set1 (i := j) (HR.out.drewN n1)
   refine ⟨_, rfl, rfl, hlt, ?_, ?_⟩
   ·exact (HB1.out.block B (by have := HBn.out; omega)).trans hr2
   ·exact hk2.thenB HB1.out (by rw [HNw.out]; exact Nat.le_refl _)
  ·rw [if_neg h34] at hX
   by_cases h32 : hnd s j < 32
   ·rw [if_pos h32] at hX
    have HX1 := Aside0.mk hX; have t34 := neI (hnd s j) 34 (by omega)
    have t32 : decide (((hnd s j : Nat) : Int) < 32) = true := decide_eq_true (by omega)
    clear hX h34 h32; go_wp2_with (first | (go_at_call 51; refine HH.out.mono ?_; rintro e w' ⟨rfl, n1, rfl⟩) | (go_at_call 31; refine (json_reader_stop.calls B s j _ (HR.out.drewN _)).mono ?_; rintro e w' ⟨rfl, rfl⟩))
    exact ⟨rfl, by rw [← HX1.out]; exact ⟨rfl, HK.out.drewN _⟩⟩
   ·rw [if_neg h32] at hX
    have t32 : decide (((hnd s j : Nat) : Int) < 32) = false := decide_eq_false (by omega)
    by_cases h92 : hnd s j = 92
    ·rw [if_pos h92] at hX
     have t34 := neI (hnd s j) 34 (by omega)
     have t92 := eqI (hnd s j) 92 (by omega)
     have hlt := hnd_pos h92 (by omega)
     have HBn := Aside0.mk hBN; cases he : escape s (j + 1) with
     | bad k c =>
      have HX1 := Aside0.mk (show Res.bad k c = R by rw [← hX, he]; rfl)
      have HE := Aside0.mk he; clear hX h34 h32 h92 he; go_wp2_with (first | (go_at_call 51; refine HH.out.mono ?_; rintro e w' ⟨rfl, n1, rfl⟩) | (go_at_call 78; refine (json_reader_escape.calls B s (j + 1) _ (Rdr.set1 (i := j) (HR.out.drewN _)) hs hlt (HG.out.kept HF.out ((HK.out.drewN _).set _ _).block) HF.out).mono ?_; intro e w2 ho; rw [HE.out] at ho; obtain ⟨rfl, hk2⟩ := ho.bad_; have HK2 := Aside0.mk (((HK.out.drewN _).set _ _).trans hk2); clear ho hk2))
      exact ⟨rfl, by rw [← HX1.out]; exact ⟨rfl, HK2.out⟩⟩
     | ok r k =>
      have hX1 : txt s f k (acc ++ Lib.encodeRune (r : Int)) = R := by rw [← hX, he]; rfl
      have HX1 := Aside0.mk hX1; have HE := Aside0.mk he; have hko := escape_ok he
      have hrl := hko.1
      have HL := Aside0.mk hko.2; have HIs := Aside0.mk (fun n u => bld_kept HI.out (w' := (wr.drewN n).setCell ⟨B, 1, none⟩ u) (fun k hk _ => Below.heap_setCell _ _ _ _ (show k ≠ B by have := HBn.out; omega)))
      clear hX h34 h32 h92 he hX1 hko; go_wp2_with (first | (go_at_call 51; refine HH.out.mono ?_; rintro e w' ⟨rfl, n1, rfl⟩) | (go_at_call 78; refine (json_reader_escape.calls B s (j + 1) _ (Rdr.set1 (i := j) (HR.out.drewN _)) hs hlt (HG.out.kept HF.out ((HK.out.drewN _).set _ _).block) HF.out).mono ?_; intro e w2 ho; rw [HE.out] at ho; obtain ⟨x, rfl, rfl, hk1, hr2, hk2⟩ := ho.ok_; have HR2 := Aside0.mk hr2; have HKs := Aside0.mk hk2; have HK2 := Aside0.mk (((HK.out.drewN _).set _ _).trans hk2); clear ho hk2 hr2))
      refine (bw_rune N N (Lib.byteCells acc) r (by omega) (by omega) _ (bld_kp (HIs.out _ _) HKs.out HBn.out) (by rw [Lib.byteCells_length]; have := HA.out; omega) (by rw [HNw.out]; exact HK2.out.size)).mono ?_
      rintro e w3 ⟨rfl, hbl, hbe, _⟩
      have HB3 := Aside0.mk hbe; have HBl := Aside0.mk hbl; clear hbe hbl; go_wp2
      go_roundg f
      case measure => omega
      case rel =>
       refine ⟨k, acc ++ Lib.encodeRune (r : Int), hk1, by have := HL.out; omega, ⟨by rw [List.length_append]; have := HL.out; have := HA.out; omega⟩, HX1, ⟨(HB3.out.block B HBn.out).trans HR2.out⟩, ⟨?_⟩, ⟨HK2.out.thenB HB3.out (by rw [HNw.out]; exact Nat.le_refl _)⟩⟩
       rw [Lib.byteCells_append, Lib.byteCells_encodeRune]
       exact .inr HBl.out
    ·rw [if_neg h92] at hX
     have hlt : j < s.size := hnd_pos (c := hnd s j) rfl (by omega)
     have t34 := neI (hnd s j) 34 (by omega)
     have t92 := neI (hnd s j) 92 (by omega)
     have HBn := Aside0.mk hBN; have HGW := Aside0.mk (HG.out.kept HF.out HK.out.block)
     have hnx := fun (n : Nat) => next_in s j (wr.drewN n) (HGW.out.below (pw_below_drewN (Below.refl _ _) n)) hs hlt
     cases hz : nxt s j with
     | none =>
      rw [hz] at hX
      have hd : (Utf8.decode s j).1 = 65533 ∧ (Utf8.decode s j).2 = 1 := by
       unfold nxt at hz
       split at hz
       ·assumption
       ·cases hz
      have HNX := Aside0.mk (show ∀ n, Calls Tryz.prog 79 #[.string s, .int .i64 j] (wr.drewN n) fun e w' => e = .returned (.tuple #[.int .i32 0, .int .i64 0, .bool false]) ∧ Below (wr.drewN n).heap.size (wr.drewN n) w' from fun n => (hnx n).mono (by
       rintro e w' ⟨he, hb⟩
       unfold NxO at he
       rw [if_pos hd] at he
       exact ⟨he, hb⟩))
      have HX1 := Aside0.mk (show Res.bad j 30 = R from hX)
      clear hX h34 h32 h92 hnx hd hz; go_wp2_with (go_at_call 51; refine HH.out.mono ?_; rintro e w' ⟨rfl, n1, rfl⟩)
      go_region_held3 (fun w' => w'.cell? ⟨B, 0, none⟩ = some (.string s) ∧ w'.cell? ⟨B, 1, none⟩ = some (.int .i64 j)) (first | exact ⟨c0n, c1n⟩ | go_keep) (first | (go_at_call 79; refine (HNX.out _).mono ?_; rintro e w1 ⟨rfl, hb⟩; have c0n := pw_cell_below hb c0; have c1n := pw_cell_below hb c1; have HB := Aside0.mk hb; clear hb))
      go_wp2_with (go_at_call 31; refine (json_reader_stop.calls B s j _ (Rdr.below (HR.out.drewN _) HB.out)).mono ?_; rintro e w' ⟨rfl, rfl⟩)
      exact ⟨rfl, by rw [← HX1.out]; exact ⟨rfl, (HK.out.drewN _).trans (Kp.of_below HB.out)⟩⟩
     | some z =>
      rw [hz] at hX
      obtain ⟨r, hr⟩ : ∃ r, r = (Utf8.decode s j).1 := ⟨_, rfl⟩
      have hd : ¬ ((Utf8.decode s j).1 = 65533 ∧ (Utf8.decode s j).2 = 1) ∧ (Utf8.decode s j).2 = z := by
       unfold nxt at hz
       split at hz
       ·cases hz
       ·injection hz with hz; exact ⟨by assumption, hz⟩
      have hz1 : 1 ≤ z := by rw [← hd.2]; exact Lib.decode_width_pos s j hlt
      have hz2 : j + z ≤ s.size := by rw [← hd.2]; exact XUtf.decode_fit s j hlt
      have HNX := Aside0.mk (show ∀ n, Calls Tryz.prog 79 #[.string s, .int .i64 j] (wr.drewN n) fun e w' => e = .returned (.tuple #[.int .i32 r, .int .i64 z, .bool true]) ∧ Below (wr.drewN n).heap.size (wr.drewN n) w' from fun n => (hnx n).mono (by
       rintro e w' ⟨he, hb⟩
       unfold NxO at he
       rw [if_neg hd.1, hd.2, ← hr] at he
       exact ⟨he, hb⟩))
      have HX1 := Aside0.mk (show txt s f (j + z) (acc ++ (s.extract j (j + z)).data.toList) = R from hX)
      clear hX h34 h32 h92 hnx hd hz hr; go_wp2_with (go_at_call 51; refine HH.out.mono ?_; rintro e w' ⟨rfl, n1, rfl⟩)
      go_region_held3 (fun w' => w'.cell? ⟨B, 0, none⟩ = some (.string s) ∧ w'.cell? ⟨B, 1, none⟩ = some (.int .i64 j)) (first | exact ⟨c0n, c1n⟩ | go_keep) (first | (go_at_call 79; refine (HNX.out _).mono ?_; rintro e w1 ⟨rfl, hb⟩; have c0n := pw_cell_below hb c0; have c1n := pw_cell_below hb c1; have HB := Aside0.mk hb; clear hb))
      have HR1 := Aside0.mk (Rdr.below (HR.out.drewN _) HB.out)
      have HK1 := Aside0.mk ((HK.out.drewN _).trans (Kp.of_below HB.out))
      have HI1 := Aside0.mk (bld_kept (show Lib.IsBuilderF 50 5 N N (Lib.byteCells acc) (wr.drewN _) from HI.out) (fun k _ hlt => HB.out.block k hlt))
      have HN1 := Aside0.mk (show N ≤ w1.heap.size by rw [HNw.out]; exact HK1.out.size)
      clear HB HK HR HI HH HNX HGW c0n c1n c0 c1 fr; have c0 := HR1.out.c0
      have c1 := HR1.out.c1
      go_upto_region 7 with (fail)
      have b1 : (0 : Int) ≤ (j : Int) := by omega
      have b2 : (j : Int) ≤ (j : Int) + (z : Int) := by omega
      have b3 : (j : Int) + (z : Int) ≤ (s.size : Int) := by omega
      have n3 : ((j : Int) + (z : Int)).toNat = j + z := by omega
      have wz : IntKind.i64.wrap ((j : Int) + (z : Int)) = (j : Int) + (z : Int) := IntWalk.i64_in _ (by omega)
      have HW := Aside0.mk (fun n => bw_str N N (Lib.byteCells acc) (s.extract j (j + z)) (w1.drewN n) HI1.out (by rw [Lib.byteCells_length, ByteArray.size_extract]; have := HA.out; omega) HN1.out)
      have HZ := Aside0.mk hz1; have HZ2 := Aside0.mk hz2; go_region_held3 (fun w' => w'.cell? ⟨B, 0, none⟩ = some (.string s) ∧ w'.cell? ⟨B, 1, none⟩ = some (.int .i64 j)) (first | exact ⟨c0n, c1n⟩ | go_keep) (first | (go_at_call 40; refine (HW.out _).mono ?_; rintro e w3 ⟨rfl, hbl, hb, _⟩; have c0n := (hb.cell (p := ⟨B, 0, none⟩) HBn.out).trans c0; have c1n := (hb.cell (p := ⟨B, 1, none⟩) HBn.out).trans c1; have HB3 := Aside0.mk hb; have HBl := Aside0.mk hbl; clear hb hbl))
      have HR3 := Aside0.mk (show Rdr B s j w3 from (HB3.out.block B HBn.out).trans HR1.out)
      have HK3 := Aside0.mk ((HK1.out.drewN _).thenB HB3.out (by rw [HNw.out]; exact Nat.le_refl _))
      have HI3 := Aside0.mk (show Lib.IsBuilderF 50 5 N N (Lib.byteCells (acc ++ (s.extract j (j + z)).data.toList)) w3 by rw [Lib.byteCells_append, ← Lib.strCells_eq]; exact .inr HBl.out)
      clear HB3 HBl HR1 HK1 HI1 HW c0n c1n c0 c1 wz n3; have c1 := HR3.out.c1
      have fr := HR3.out.fr
      go_wp2
      go_roundg f
      case measure => omega
      case rel =>
       refine ⟨j + z, acc ++ (s.extract j (j + z)).data.toList, HZ2.out, by have := HZ.out; omega, ⟨?_⟩, HX1, ⟨?_⟩, ⟨?_⟩, ⟨HK3.out.set _ _⟩⟩
       ·have h1 : (s.extract j (j + z)).data.toList.length = (s.extract j (j + z)).size := Array.length_toList
        rw [List.length_append, h1, ByteArray.size_extract]; have := HA.out; omega
       ·exact HR3.out.set (j + z)
       ·exact bld_kept HI3.out (fun k hk _ => Below.heap_setCell _ _ _ _ (show k ≠ B by have := HBn.out; omega))
end Go.Proofs.YtebmgmagdhedgaaGreatDoor.Q

end
section
namespace Go.Proofs.YtebmgmagdhedgaaGreatDoor.Q
open Go.RowKit Go.Proofs.YtebmgmagdhedgaaGreatDoorW.PrintWords Go.Proofs.YtebmgmagdhedgaaGreatDoorW.PrintLast Go.Proofs.YtebmgmagdhedgaaGreatDoorW.PrintMore
attribute [local go_sem] max2_int min2_int max_two min_two max_three min_three max_four min_four   
set_option linter.unusedVariables false
set_option linter.unusedSimpArgs false
abbrev JV := S25
abbrev JF := S45
theorem jinfoV : (Tryz.prog.info? 25).map (fun i => (i.zero, i.size, i.bytes)) = some (some (.agg #[(.int .u8 0), (.string ⟨#[]⟩), (.slice none 0 0), (.slice none 0 0)]), 4, 72) := by kernel_rfl
theorem jinfoF : (Tryz.prog.info? 45).map (fun i => (i.zero, i.size, i.bytes)) = some (some (.agg #[(.string ⟨#[]⟩), (.int .u8 0), (.string ⟨#[]⟩), (.slice none 0 0), (.slice none 0 0)]), 5, 88) := by kernel_rfl
/-- A value of blocks from N on. -/
def VV (N : Nat) (v : JV) (x : Value) (w : World) : Prop := ∃ v2 v3, x = .agg #[.int .u8 v.f0, .string v.f1, v2, v3] ∧ Kd.R k25 25 w N (fun _ => True) v2 v.f2 ∧ Kd.R k45 45 w N (fun _ => True) v3 v.f3
/-- A reading of a value, and its walk. -/
def ValOk (s : ByteArray) (pv : Nat → Res JV) (deep : Int) : Prop := ∀ (B i : Nat) (w : World), Rdr B s i w → i ≤ s.size → GlobOk w → GFree B → Calls Tryz.prog 30 #[.pointer (some ⟨B, 0, none⟩), .int .i64 deep] w (Out B s (VV w.heap.size) w (pv i))
/-- The values of a list, behind those that were read. -/
def lst (s : ByteArray) (pv : Nat → Res JV) : Nat → Nat → List JV → Res (List JV)
 | 0, i, _ => .bad i 0
 | f + 1, i, acc => if hnd s i = 93 then .ok acc (i + 1) else
  (if acc.length = 0 then .ok () i else (wd s [44] i).bind fun _ j => .ok () (skip isBl s j)).bind fun _ j => (pv j).bind fun v k => lst s pv f (skip isBl s k) (acc ++ [v])
theorem rk {α : Type} {d : Kd α} {e : Nat} {w w' : World} {base : Nat} {v : Value} {xs : List α} (h : d.R e w base (fun _ => True) v xs) (hk : ∀ k, base ≤ k → k < w.heap.size → w'.heap[k]? = w.heap[k]?) : d.R e w' base (fun _ => True) v xs :=
 Kd.R_mono (Kd.R_move (Kd.R_bound h) (fun k hk' => hk k hk'.2.1 hk'.2.2.1)) (fun _ _ => trivial)
theorem put4 {w : World} {N : Nat} {T : TypeId} {a b c d : Value} (h : w.heap[N]? = some (.cells #[a, b, c, d] T (0, 0))) (a' b' c' d' : Value) : ((((w.setCell ⟨N, 0, none⟩ a').setCell ⟨N, 1, none⟩ b').setCell ⟨N, 2, none⟩ c').setCell ⟨N, 3, none⟩ d').heap[N]? = some (.cells #[a', b', c', d'] T (0, 0)) :=
 blk_put (blk_put (blk_put (blk_put h 0 a' rfl) 1 b' rfl) 2 c' rfl) 3 d' rfl
theorem put4_far {w : World} {N k : Nat} (h : k ≠ N) (a' b' c' d' : Value) : ((((w.setCell ⟨N, 0, none⟩ a').setCell ⟨N, 1, none⟩ b').setCell ⟨N, 2, none⟩ c').setCell ⟨N, 3, none⟩ d').heap[k]? = w.heap[k]? := by
 rw [Below.heap_setCell _ _ _ _ h, Below.heap_setCell _ _ _ _ h, Below.heap_setCell _ _ _ _ h, Below.heap_setCell _ _ _ _ h]
theorem Kp.put4 {B : Nat} {a w : World} (h : Kp B a w) {N : Nat} (hN : a.heap.size ≤ N) (a' b' c' d' : Value) : Kp B a ((((w.setCell ⟨N, 0, none⟩ a').setCell ⟨N, 1, none⟩ b').setCell ⟨N, 2, none⟩ c').setCell ⟨N, 3, none⟩ d') :=
 (((h.setN (p := ⟨N, 0, none⟩) hN _).setN (p := ⟨N, 1, none⟩) hN _).setN (p := ⟨N, 2, none⟩) hN _).setN (p := ⟨N, 3, none⟩) hN _
theorem skip_le {p : Nat → Bool} {s : ByteArray} : ∀ (n i : Nat), s.size - i = n → i ≤ skip p s i ∧ (i ≤ s.size → skip p s i ≤ s.size) := by
 intro n
 induction n with
 | zero => intro i h; rw [skip_no (fun c => by omega)]; exact ⟨Nat.le_refl _, id⟩
 | succ n ih =>
  intro i h
  by_cases c : i < s.size ∧ p (hnd s i) = true
  ·rw [skip_yes c.1 c.2]
   have := ih (i + 1) (by omega)
   exact ⟨by omega, fun _ => this.2 (by omega)⟩
  ·rw [skip_no c]; exact ⟨Nat.le_refl _, id⟩
theorem skip_ge {p : Nat → Bool} (s : ByteArray) (i : Nat) : i ≤ skip p s i := (skip_le _ i rfl).1
theorem skip_in {p : Nat → Bool} {s : ByteArray} {i : Nat} (h : i ≤ s.size) : skip p s i ≤ s.size := (skip_le _ i rfl).2 h
/-- A call of a Go function that panics. -/
theorem goesP_ {P : Program} {ops : Array Oper} {Q : Exit → Act → World → Prop} {oi : Oper} {N : Option Tmp} {a : Act} {w : World} {K : Act → World → Prop} {f : FuncId} {fn : Func} {az : Array Operand} {ts : Array TypeId} (hf : P.funcs[f]? = some fn) (hname : (fn.name == "runtime.NumGoroutine") = false) (hb : fn.body.isSome = true) (args : Array Value)
  (hw : Region.wanted oi (yielded ops a.tmps) = true) (hN : oi.dst = N) (hop : oi.op = .call { callee := .value (.func f), args := az, argTypes := ts }) (hargs : az.map a.eval = args)
  (h : Calls P f args w fun e w' => ∃ c, e = .panicked c ∧ Q (.panic c) a w') : if Region.wanted oi (yielded ops a.tmps) = true then Oper.wp P oi a w K Q else K (a.put N undef) w := by
 have he := enters_ hf hname hb args w
 have hrun : (execOp a.eval oi).run P w = .ok (.enter f args) w := by
  unfold execOp
  simp [hop, resolve, Deferred.ofValue, invoke, Act.eval, hargs, he]
 rw [if_pos hw]
 unfold Oper.wp
 rw [hrun, Oper.upon_enter]
 refine h.mono fun e w'' hh => ?_
 obtain ⟨c, rfl, hk⟩ := hh
 exact hk
def json_reader_list.T8 : Bool × List (List Nat × List Nat) := (true, [([], []), ([0], [0]), ([], []), ([], []), ([3], [3]), ([2, 4], [2, 4]), ([5], [5]), ([1, 6, 5], [1, 6]), ([0, 1, 2, 3, 4, 5, 6, 7], []), ([8, 7, 7, 0, 1, 2, 3, 4, 5, 6, 7], [7, 8])])
def json_reader_list.B8 : List Nat := [0, 1, 0, 0, 8, 28, 60, 127, 255, 511]
theorem json_reader_list.tab8 : rtab .any (opsOf Tryz.f54 8) = json_reader_list.T8 := by kernel_rfl
theorem json_reader_list.bits8 : waitsOk json_reader_list.T8.2 json_reader_list.B8 = true := by kernel_rfl
set_option maxRecDepth 100000 in
set_option maxHeartbeats 2000000 in
theorem json_reader_list.calls (B : Nat) (s : ByteArray) (i : Nat) (pv : Nat → Res JV) (deep : Int) (hd : 0 ≤ deep ∧ deep ≤ 64) (w : World) (hR : Rdr B s i w) (hs : s.size ≤ 262144) (hi : i < s.size) (hG : GlobOk w) (hF : GFree B) (hV : ValOk s pv (deep + 1)) (hp : ∀ i v j, pv i = .ok v j → i < j) :
  Calls Tryz.prog 54 #[.pointer (some ⟨B, 0, none⟩), .int .i64 deep] w (Out B s (VV w.heap.size) w ((lst s pv (s.size + 1) (skip isBl s (i + 1)) []).bind fun l j => .ok ⟨5, ⟨#[]⟩, l, []⟩ j)) := by
 obtain ⟨N, hN⟩ : ∃ N, N = w.heap.size := ⟨_, rfl⟩
 have hBN : B < N := by rw [hN]; exact hR.lt
 obtain ⟨W1, hW1⟩ : ∃ W1, W1 = (w.alloc (.cells #[.int .u8 0, .string ⟨#[]⟩, .slice none 0 0, .slice none 0 0] 25 (0, 0))).alloc (.cells #[.int .u8 5, .string ⟨#[]⟩, .slice none 0 0, .slice none 0 0] 25 (0, 0)) := ⟨_, rfl⟩
 have hR1 : Rdr B s i W1 := by rw [hW1]; exact (hR.alloc _).alloc _
 have hb1 : Below w.heap.size w W1 := by rw [hW1]; exact below_alloc (below_alloc (Below.refl _ _) _) _
 have hx1 : W1.heap[N]? = some (.cells #[.int .u8 0, .string ⟨#[]⟩, .slice none 0 0, .slice none 0 0] 25 (0, 0)) := by rw [hW1, hN]; exact blk_alloc (blk_new w _) _
 have hx2 : W1.heap[N + 1]? = some (.cells #[.int .u8 5, .string ⟨#[]⟩, .slice none 0 0, .slice none 0 0] 25 (0, 0)) := by rw [hW1, hN]; have h := blk_new (w.alloc (.cells #[.int .u8 0, .string ⟨#[]⟩, .slice none 0 0, .slice none 0 0] 25 (0, 0))) (.cells #[.int .u8 5, .string ⟨#[]⟩, .slice none 0 0, .slice none 0 0] 25 (0, 0)); simpa using h
 obtain ⟨R, hRes⟩ : ∃ R, R = lst s pv (s.size + 1) (skip isBl s (i + 1)) [] := ⟨_, rfl⟩
 have HRes := Aside0.mk hRes; have HV := Aside0.mk hV; have HP := Aside0.mk hp; have HG := Aside0.mk hG; have HF := Aside0.mk hF; have hsz : s.size ≤ 140737488351232 := by omega
 rw [← hRes, ← hN]
 clear hV hp hG hF; go_enter Tryz.func54, Tryz.ntmps54
 go_upto_region 2 with (fail)
 rw [← hW1, ← hN]
 have HNw := Aside0.mk hN; have HBn := Aside0.mk hBN; have c1 := hR1.c1
 have fr := hR1.fr
 have HB := Aside0.mk (json_reader_blanks.calls B s (i + 1) _ (Rdr.set1 hR1) hsz hi)
 have HK := Aside0.mk ((Kp.of_below (B := B) hb1).set 1 (.int .i64 ((i : Int) + 1)))
 have HX1 := Aside0.mk (blk_far (p := ⟨B, 1, none⟩) hx1 (show N ≠ B by omega) (.int .i64 ((i : Int) + 1)))
 have HX2 := Aside0.mk (blk_far (p := ⟨B, 1, none⟩) hx2 (show N + 1 ≠ B by omega) (.int .i64 ((i : Int) + 1)))
 clear hW1 hN hR hR1 hb1 hx1 hx2 hRes; go_wp2_with (go_at_call 29; refine HB.out.mono ?_; rintro e W2 ⟨rfl, hr, hk⟩; have HR2 := Aside0.mk hr; have HK2 := Aside0.mk (HK.out.trans hk); have HY1 := Aside0.mk ((hk.block N (blk_lt HX1.out) (by have := HBn.out; omega)).trans HX1.out); have HY2 := Aside0.mk ((hk.block (N + 1) (blk_lt HX2.out) (by have := HBn.out; omega)).trans HX2.out); clear hr hk)
 clear HX1 HX2 HK HB c1 fr; go_loopg [] (s.size + 1) (fun kq w' => ∃ (j : Nat) (acc : List JV) (v2 : Value), j ≤ s.size ∧ s.size < j + kq ∧ Aside0 (acc.length ≤ j) ∧ Aside0 (lst s pv kq j acc = R) ∧ Aside0 (Rdr B s j w') ∧ Aside0 (w'.heap[N]? = some (.cells #[.int .u8 0, .string ⟨#[]⟩, .slice none 0 0, .slice none 0 0] 25 (0, 0))) ∧ Aside0 (w'.heap[N + 1]? = some (.cells #[.int .u8 5, .string ⟨#[]⟩, v2, .slice none 0 0] 25 (0, 0))) ∧ Aside0 (Kd.R k25 25 w' (N + 2) (fun _ => True) v2 acc) ∧ Aside0 (Kp B w w'))
 case atStart => exact ⟨skip isBl s (i + 1), [], .slice none 0 0, skip_in hi, by have := skip_ge (p := isBl) s (i + 1); omega, ⟨by simp⟩, ⟨HRes.out.symm⟩, HR2, HY1, HY2, ⟨Kd.R_nil _ _ _ _ _⟩, HK2⟩
 case round =>
  clear HR2 HY1 HY2 HK2 HRes; obtain ⟨j, acc, v2, hj, hk, HA, HX, HR, HY1, HY2, HRow, HK⟩ := hrel
  obtain ⟨f, rfl⟩ : ∃ f, gk = f + 1 := ⟨gk - 1, by omega⟩
  have hX := HX.out
  rw [lst] at hX
  have HH := Aside0.mk (json_reader_hand.calls B s j wr HR.out hsz)
  obtain ⟨A2, c2, rfl⟩ := Kd.R_slice HRow.out
  have d0 := blk_cell HY2.out 0
  have d1 := blk_cell HY2.out 1
  have d2 := blk_cell HY2.out 2
  have d3 := blk_cell HY2.out 3
  have HNs := Aside0.mk (blk_lt HY2.out)
  by_cases h93 : hnd s j = 93
  ·rw [if_pos h93] at hX
   have HX1 := Aside0.mk hX; have hlt := hnd_pos h93 (by omega)
   have t93 : (((hnd s j : Nat) : Int) != 93) = false := by rw [h93]; rfl
   have c1 := HR.out.c1
   have fr := HR.out.fr
   have e0 := blk_cell HY1.out 0
   have e1 := blk_cell HY1.out 1
   have e2 := blk_cell HY1.out 2
   have e3 := blk_cell HY1.out 3
   have f0 := blk_frozen HY1.out 0
   have f1 := blk_frozen HY1.out 1
   have f2 := blk_frozen HY1.out 2
   have f3 := blk_frozen HY1.out 3
   have ne1 : B ≠ N := by omega
   have ne2 : N ≠ B := by omega
   have ne3 : B ≠ N + 1 := by omega
   have ne4 : N + 1 ≠ B := by omega
   clear hX h93; go_wp2_with (go_at_call 51; refine HH.out.mono ?_; rintro e w' ⟨rfl, n1, rfl⟩)
   have hw := put4 (blk_far (p := ⟨B, 1, none⟩) (show (wr.drewN n1).heap[N]? = _ from HY1.out) ne2 (.int .i64 ((j : Int) + 1))) (.int .u8 5) (.string ⟨#[]⟩) (.slice A2 acc.length c2) (.slice none 0 0)
   have hr3 := (put4_far (show B ≠ N by omega) (.int .u8 5) (.string ⟨#[]⟩) (.slice A2 acc.length c2) (.slice none 0 0)).trans (Rdr.set1 (i := j) (HR.out.drewN n1))
   have hk3 := ((HK.out.drewN n1).set 1 (.int .i64 ((j : Int) + 1))).put4 (N := N) (by rw [HNw.out]; exact Nat.le_refl _) (.int .u8 5) (.string ⟨#[]⟩) (.slice A2 acc.length c2) (.slice none 0 0)
   have hv3 : Kd.R k25 25 _ N (fun _ => True) (.slice A2 acc.length c2) acc := Kd.R_lower (rk HRow.out (w' := (((((wr.drewN n1).setCell ⟨B, 1, none⟩ (.int .i64 ((j : Int) + 1))).setCell ⟨N, 0, none⟩ (.int .u8 5)).setCell ⟨N, 1, none⟩ (.string ⟨#[]⟩)).setCell ⟨N, 2, none⟩ (.slice A2 acc.length c2)).setCell ⟨N, 3, none⟩ (.slice none 0 0)) (fun k hk _ => by rw [put4_far (by omega)]; exact Below.heap_setCell _ _ _ _ (show k ≠ B by omega))) (by omega)
   generalize (((((wr.drewN n1).setCell ⟨B, 1, none⟩ (.int .i64 ((j : Int) + 1))).setCell ⟨N, 0, none⟩ (.int .u8 5)).setCell ⟨N, 1, none⟩ (.string ⟨#[]⟩)).setCell ⟨N, 2, none⟩ (.slice A2 acc.length c2)).setCell ⟨N, 3, none⟩ (.slice none 0 0) = Wf at hw hr3 hk3 hv3 ⊢
   have g0 := blk_cell hw 0
   have g1 := blk_cell hw 1
   have g2 := blk_cell hw 2
   have g3 := blk_cell hw 3
   refine bodyPost_ret (v := .agg #[.int .u8 5, .string ⟨#[]⟩, .slice A2 acc.length c2, .slice none 0 0]) (by simp [results, Tryz.results54, go_sem, g0, g1, g2, g3]) rfl ?_
   rw [← HX1.out]
   exact ⟨_, rfl, ⟨_, _, rfl, hv3, Kd.R_nil _ _ _ _ _⟩, hlt, hr3, hk3⟩
  ·rw [if_neg h93] at hX
   have t93 : (((hnd s j : Nat) : Int) != 93) = true := bne_iff_ne.mpr (by omega)
   have HX1 := Aside0.mk hX; clear hX h93; go_upto_if 22 with (go_at_call 51; refine HH.out.mono ?_; rintro e w' ⟨rfl, n1, rfl⟩)
   go_cut [] (fun wc => ∃ j1 : Nat, j ≤ j1 ∧ j1 ≤ s.size ∧ Aside0 (((pv j1).bind fun v k => lst s pv f (skip isBl s k) (acc ++ [v])) = R) ∧ Aside0 (Rdr B s j1 wc) ∧ Aside0 (wc.heap[N]? = some (.cells #[.int .u8 0, .string ⟨#[]⟩, .slice none 0 0, .slice none 0 0] 25 (0, 0))) ∧ Aside0 (wc.heap[N + 1]? = some (.cells #[.int .u8 5, .string ⟨#[]⟩, .slice A2 acc.length c2, .slice none 0 0] 25 (0, 0))) ∧ Aside0 (Kd.R k25 25 wc (N + 2) (fun _ => True) (.slice A2 acc.length c2) acc) ∧ Aside0 (Kp B w wc))
   case first =>
    by_cases ha : acc.length = 0
    ·have t1 : decide ((0 : Int) < (acc.length : Int)) = false := decide_eq_false (by omega)
     have t2 : decide (0 < acc.length) = false := decide_eq_false (by omega)
     have HX2 := Aside0.mk (show ((pv j).bind fun v k => lst s pv f (skip isBl s k) (acc ++ [v])) = R by rw [← HX1.out, if_pos ha]; rfl)
     clear ha t1; rw [t2]
     go_wp2
     go_meet
     exact ⟨j, Nat.le_refl _, hj, HX2, ⟨HR.out.drewN _⟩, HY1, HY2, ⟨Kd.R_drewN HRow.out _⟩, ⟨HK.out.drewN _⟩⟩
    ·have t1 : decide ((0 : Int) < (acc.length : Int)) = true := decide_eq_true (by omega)
     have t2 : decide (0 < acc.length) = true := decide_eq_true (by omega)
     have HW := Aside0.mk (fun n => json_reader_word.calls B s j [44] (wr.drewN n) (HR.out.drewN n) hsz hj (by decide) (by decide))
     by_cases h44 : hnd s j = 44
     ·have hwd : wd s ([44].map UInt8.toNat) j = .ok () (j + 1) := if_pos h44
      have HX2 := Aside0.mk (show ((pv (skip isBl s (j + 1))).bind fun v k => lst s pv f (skip isBl s k) (acc ++ [v])) = R by rw [← HX1.out, if_neg ha, show wd s [44] j = .ok () (j + 1) from hwd]; rfl)
      have HWD := Aside0.mk hwd; have hlt := hnd_pos h44 (by omega)
      clear ha h44 hwd t1; rw [t2]
      go_wp2_with (first | (go_at_call 52; refine (HW.out _).mono ?_; intro e w1 ho; rw [HWD.out] at ho; obtain ⟨x, rfl, rfl, hj1, hr, hk⟩ := ho.ok_; have HR1 := Aside0.mk hr; have HK1 := Aside0.mk hk; clear ho hr hk) | (go_at_call 29; refine (json_reader_blanks.calls B s (j + 1) _ HR1.out hsz hj1).mono ?_; rintro e w2 ⟨rfl, hr, hk⟩; have HR2 := Aside0.mk hr; have HK2 := Aside0.mk (HK1.out.trans hk); clear hr hk))
      go_meet
      refine ⟨skip isBl s (j + 1), by have := skip_ge (p := isBl) s (j + 1); omega, skip_in hj1, HX2, HR2, ⟨?_⟩, ⟨?_⟩, ⟨?_⟩, ⟨(HK.out.drewN _).trans HK2.out⟩⟩
      ·exact (HK2.out.block N (by have := HNs.out; exact (show N < wr.heap.size by omega)) (by have := HBn.out; omega)).trans HY1.out
      ·exact (HK2.out.block (N + 1) HNs.out (by have := HBn.out; omega)).trans HY2.out
      ·exact rk HRow.out (fun k hk hlt => HK2.out.block k hlt (by have := HBn.out; omega))
     ·have hwd : wd s ([44].map UInt8.toNat) j = .bad j 30 := if_neg h44
      have HX2 := Aside0.mk (show Res.bad j 30 = R by rw [← HX1.out, if_neg ha, show wd s [44] j = .bad j 30 from hwd]; rfl)
      have HWD := Aside0.mk hwd; clear ha h44 hwd t1; rw [t2]
      go_wp2_with (go_at_call 52; refine (HW.out _).mono ?_; intro e w1 ho; rw [HWD.out] at ho; obtain ⟨rfl, hk⟩ := ho.bad_; have HK1 := Aside0.mk hk; clear ho hk)
      exact ⟨rfl, by rw [← HX2.out]; exact ⟨rfl, (HK.out.drewN _).trans HK1.out⟩⟩
   case rest =>
    obtain ⟨j1, hj1, hj2, HX2, HR1, HZ1, HZ2, HRow1, HK1⟩ := hcut
    clear HX1 HR HY1 HY2 HRow HK HX HH d0 d1 d2 d3 HNs; have d2 := blk_cell HZ2.out 2
    have HNs := Aside0.mk (blk_lt HZ2.out)
    have b1 := hd.1
    have b2 := hd.2
    have wd1 : IntKind.i64.wrap (deep + 1) = deep + 1 := IntWalk.i64_in _ (by omega)
    have HVC := Aside0.mk (fun n => HV.out B j1 (wc.drewN n) (HR1.out.drewN n) hj2 ((HG.out.kept HF.out HK1.out.block).below (pw_below_drewN (Below.refl _ _) n)) HF.out)
    cases hv : pv j1 with
    | bad k c =>
     have HX3 := Aside0.mk (show Res.bad k c = R by rw [← HX2.out, hv]; rfl)
     have HE := Aside0.mk (fun n => (HVC.out n).mono (fun e w' (ho : Out B s _ _ (pv j1) e w') => by rw [hv] at ho; exact ho.bad_))
     clear hv; go_wp2
     refine start_ (n := 10) (S := fun w' => w'.cell? ⟨N + 1, 2, none⟩ = some (.slice A2 acc.length c2)) (ds := [9]) (bz 10 0) (by kernel_rfl) rfl rfl d2 (fun hHeld => ?_)
     refine with_tabW json_reader_list.tab8 json_reader_list.bits8 (fun HT_ HW_ => ?_)
     refine pu 0 (some 27) (bz 10 1) HT_ rfl rfl ?_; refine tk 1 (some 28) (bz 10 3) HT_ HW_ rfl rfl hHeld ?_; refine pu 2 (some 29) (bz 10 7) HT_ rfl rfl ?_; refine pu 3 (some 30) (bz 10 15) HT_ rfl rfl ?_; refine pu 4 (some 31) (bz 10 31) HT_ rfl rfl ?_; refine one_ (i := 5) (N := some 32) (bz 10 63) rfl rfl (one_of HT_.out (by kernel_rfl)) (by decide) (fun K hK => ?_)
     refine goesP_ Tryz.func30 (by kernel_rfl) rfl #[.pointer (some ⟨B, 0, none⟩), .int .i64 (deep + 1)] rfl rfl rfl (by (try simp only [List.map_toArray, List.map_cons, List.map_nil]); rfl) ?_
     refine (HE.out 1).mono ?_
     rintro e w1 ⟨rfl, hk⟩
     exact ⟨_, rfl, rfl, by rw [← HX3.out]; exact ⟨rfl, (HK1.out.drewN _).trans hk⟩⟩
    | ok v k =>
     have HX3 := Aside0.mk (show lst s pv f (skip isBl s k) (acc ++ [v]) = R by rw [← HX2.out, hv]; rfl)
     have HE := Aside0.mk (fun n => (HVC.out n).mono (fun e w' (ho : Out B s _ _ (pv j1) e w') => by rw [hv] at ho; exact ho.ok_))
     have hjk := HP.out _ _ _ hv
     clear hv; go_wp2
     refine start_ (n := 10) (S := fun w' => w'.cell? ⟨N + 1, 2, none⟩ = some (.slice A2 acc.length c2)) (ds := [9]) (bz 10 0) (by kernel_rfl) rfl rfl d2 (fun hHeld => ?_)
     refine with_tabW json_reader_list.tab8 json_reader_list.bits8 (fun HT_ HW_ => ?_)
     refine pu 0 (some 27) (bz 10 1) HT_ rfl rfl ?_; refine tk 1 (some 28) (bz 10 3) HT_ HW_ rfl rfl hHeld ?_; refine pu 2 (some 29) (bz 10 7) HT_ rfl rfl ?_; refine pu 3 (some 30) (bz 10 15) HT_ rfl rfl ?_; refine pu 4 (some 31) (bz 10 31) HT_ rfl rfl ?_; refine one_ (i := 5) (N := some 32) (bz 10 63) rfl rfl (one_of HT_.out (by kernel_rfl)) (by decide) (fun K hK => ?_)
     refine goes_ Tryz.func30 (by kernel_rfl) rfl #[.pointer (some ⟨B, 0, none⟩), .int .i64 (deep + 1)] rfl rfl rfl (by (try simp only [List.map_toArray, List.map_cons, List.map_nil]); rfl) ?_
     refine (HE.out 1).mono ?_
     rintro e w1 ⟨x, rfl, ⟨v2, v3, rfl, hr2, hr3⟩, hks, hrd, hk⟩
     refine ⟨_, rfl, ?_⟩
     have hsz1 : wc.heap.size ≤ w1.heap.size := hk.size
     have hNs := HNs.out
     have BX1 := Aside0.mk ((hk.block N (show N < wc.heap.size by omega) (by omega)).trans HZ1.out)
     have BX2 := Aside0.mk ((hk.block (N + 1) (show N + 1 < wc.heap.size by omega) (by omega)).trans HZ2.out)
     have RW := Aside0.mk (rk (w' := w1) HRow1.out (fun k hk' hlt => hk.block k hlt (by omega)))
     have hM := k25_mkM w1 wc.heap.size (fun _ => True) v hr2 hr3
     obtain ⟨A3, c3, rfl⟩ := Kd.R_slice hr2
     obtain ⟨A4, c4, rfl⟩ := Kd.R_slice hr3
     have HM := Aside0.mk (k25.M_lower (base' := N + 2) (by omega) (k25.M_mono (ok' := fun k => wc.heap.size ≤ k) (fun k hk => hk.2.1) (k25.M_bound hM)))
     have hown : ∀ k, (Value.slice A2 acc.length c2).ownBlock = some k → N + 2 ≤ k ∧ k < wc.heap.size := fun k hk => ⟨Kd.R_base HRow1.out k hk, Kd.R_lt HRow1.out k hk⟩
     have HOwn := Aside0.mk hown; have HR4 := Aside0.mk hrd; have HK4 := Aside0.mk ((HK1.out.drewN 1).trans hk)
     have e2 := blk_cell BX2.out 2
     clear hk hrd hown hr2 hr3 hM HR1 HZ1 HZ2 HRow1 HK1 d2; refine hK.out _ _ e2 (fun hHeld => ?_)
     clear hK K; refine norm_ (a' := ?_) ?_ ?_
     rotate_left
     ·show Act.put _ (some 32) _ = _
      simp only [Act.put, List.setIfInBounds_toArray, List.set_cons_zero, List.set_cons_succ, i64_w, i32_w]
      rfl
     refine one_ (i := 6) (N := some 33) (bz 10 127) rfl rfl (one_of HT_.out (by kernel_rfl)) (by decide) (fun K hK => ?_)
     refine value_ (w1 := ?_) (v := ?_) (by rfl) rfl ?_ ?_
     rotate_left 2
     ·go_simp
      constructor
      ·rfl
      ·rfl
     refine hK.out _ _ ((blk_cell (blk_alloc BX2.out _) 2).trans rfl) (fun hHeld => ?_)
     clear hK K; refine norm_ (a' := ?_) ?_ ?_
     rotate_left
     ·show Act.put _ (some 33) _ = _
      simp only [Act.put, List.setIfInBounds_toArray, List.set_cons_zero, List.set_cons_succ, i64_w, i32_w]
      rfl
     refine one_ (i := 7) (N := some 34) (bz 10 255) rfl rfl (one_of HT_.out (by kernel_rfl)) (by decide) (fun K hK => ?_)
     refine Kd.R_append_step k25 (w0 := w1) (N + 2) (by rfl) (.tmp 28) (.tmp 33) 22 25 (.agg #[(.int .u8 0), (.string ⟨#[]⟩), (.slice none 0 0), (.slice none 0 0)]) 72 rfl Tryz.underlying22 jinfoV rfl (by decide) (by omega) (.slice A2 acc.length c2) acc v [.int .u8 v.f0, .string v.f1, .slice A3 v.f2.length c3, .slice A4 v.f3.length c4] (fun _ => True) (fun k => wc.heap.size ≤ k) rfl rfl HM.out ?aO (fun _ _ => trivial) RW.out (Below.refl _ _) ?aB ?aL ?_
     case aO => exact fun k hk => ⟨trivial, fun he => by have := (HOwn.out k he.symm).2; omega⟩
     case aB => omega
     case aL => have := HA.out; omega
     intro v1 w2 hrow _ hgr hat
     have hfar : ∀ q, q < w1.heap.size → q < N + 2 → w2.heap[q]? = w1.heap[q]? := fun q h1 h2 => hgr.block q h1 (fun he => by have := (HOwn.out q he.symm).1; omega)
     have hBl : B < w1.heap.size := HR4.out.lt
     have hBx := HBn.out
     have hR5 : Rdr B s k w2 := (hfar B hBl (by omega)).trans HR4.out
     have hX1 := (hfar N (by omega) (by omega)).trans BX1.out
     have hX2 := (hfar (N + 1) (by omega) (by omega)).trans BX2.out
     have hK5 : Kp B w w2 := HK4.out.thenB ⟨hgr.os, hgr.tape, hgr.output, hgr.size, fun q hq => hfar q (by omega) (by omega)⟩ (show w.heap.size ≤ N by rw [HNw.out]; exact Nat.le_refl _)
     obtain ⟨A5, c5, hv1⟩ := Kd.R_slice hrow
     obtain ⟨L, hL⟩ : ∃ L, L = (acc ++ [v]).length := ⟨_, rfl⟩
     rw [← hL] at hv1
     subst hv1; clear hL; have HRow5 := Aside0.mk hrow; have HR5 := Aside0.mk hR5; have HX15 := Aside0.mk hX1; have HX25 := Aside0.mk hX2; have HK5 := Aside0.mk hK5; clear hrow hgr hat hfar hR5 hX1 hX2 hK5 e2 hBl; refine hK.out _ _ ((blk_cell HX25.out 2).trans rfl) (fun hHeld => ?_)
     clear hK K; refine norm_ (a' := ?_) ?_ ?_
     rotate_left
     ·show Act.put _ (some 34) _ = _
      simp only [Act.put, List.setIfInBounds_toArray, List.set_cons_zero, List.set_cons_succ, i64_w, i32_w]
      rfl
     refine pu 8 (some 35) (bz 10 511) HT_ rfl rfl ?_; refine last_ (i := 9) (N := none) (bz 10 1023) rfl rfl (one_of HT_.out (by kernel_rfl)) (by decide) (fun K hK => ?_)
     have e2 := blk_cell HX25.out 2
     have g2 := blk_frozen HX25.out 2
     refine skip_ (w1 := ?_) (by rfl) rfl ?_ ?_
     rotate_left
     ·go_simp
      rfl
     refine hK.out _ _ ?_
     clear hK K e2 g2; refine done_ (done_of HT_.out (by kernel_rfl)) ?_
     have HR6 := Aside0.mk (show Rdr B s k (w2.setCell ⟨N + 1, 2, none⟩ (.slice A5 L c5)) from (Below.heap_setCell _ _ _ _ (show B ≠ N + 1 by omega)).trans HR5.out)
     have HB6 := Aside0.mk (json_reader_blanks.calls B s k _ HR6.out hsz hks)
     go_wp2_with (go_at_call 29; refine HB6.out.mono ?_; rintro e w3 ⟨rfl, hr, hk⟩; have HR7 := Aside0.mk hr; have HK7 := Aside0.mk hk; clear hr hk)
     go_roundg f
     case measure => omega
     case rel =>
      have hsk := skip_ge (p := isBl) s k
      refine ⟨skip isBl s k, acc ++ [v], .slice A5 L c5, skip_in hks, by omega, ⟨by rw [List.length_append]; have := HA.out; simp; omega⟩, HX3, HR7, ⟨?_⟩, ⟨?_⟩, ⟨?_⟩, ⟨(HK5.out.setN (p := ⟨N + 1, 2, none⟩) (by rw [← HNw.out]; exact Nat.le_succ N) _).trans HK7.out⟩⟩
      ·exact (HK7.out.block N (by have := blk_lt HX15.out; simpa [World.setCell] using this) (by omega)).trans ((Below.heap_setCell _ _ _ _ (show N ≠ N + 1 by omega)).trans HX15.out)
      ·exact (HK7.out.block (N + 1) (by have := blk_lt HX25.out; simpa [World.setCell] using this) (by omega)).trans (blk_put HX25.out 2 _ rfl)
      ·exact rk (rk HRow5.out (fun q hq hlt => Below.heap_setCell _ _ _ _ (show q ≠ N + 1 by omega))) (fun q hq hlt => HK7.out.block q hlt (by omega))
end Go.Proofs.YtebmgmagdhedgaaGreatDoor.Q

end
