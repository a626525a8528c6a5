/- Words and walks of this claim, put together by this repo's wip/xlink.py out of XThr. -/
import Derived.Test.YtebmgmagdhedgaaGreatDoorL0
import Derived.Test.YtebmgmagdhedgaaGreatDoorL1
namespace Go.Proofs.YtebmgmagdhedgaaGreatDoorW.PrintWords
open Go Go.RowKit
set_option linter.unusedVariables false
set_option linter.unusedSimpArgs false
namespace Kd
/-- G of what is nested as deep as you like is G of what is nested so deep, for some depth. -/
structure Lim {α β : Type} (G : Kd α → Kd β) (F : Kd α → Kd α) (sz : Nat) (E : List Nat) (hs : ∀ n, (upto F sz E n).sz = sz) (hE : ∀ n q, q ∈ (upto F sz E n).E → q ∈ E) : Prop where
  K : ∀ w x cs, (G (fix F sz E hs hE)).K w x cs → ∃ n, (G (upto F sz E n)).K w x cs
  M : ∀ w base ok x cs, (G (fix F sz E hs hE)).M w base ok x cs → ∃ n, (G (upto F sz E n)).M w base ok x cs
section
variable {α : Type} {F : Kd α → Kd α} {sz : Nat} {E : List Nat} {hs : ∀ n, (upto F sz E n).sz = sz} {hE : ∀ n q, q ∈ (upto F sz E n).E → q ∈ E}
theorem lim_const {β : Type} (k : Kd β) : Lim (fun _ : Kd α => k) F sz E hs hE := ⟨fun _ _ _ h => ⟨0, h⟩, fun _ _ _ _ _ h => ⟨0, h⟩⟩
theorem lim_id : Lim (fun d : Kd α => d) F sz E hs hE := ⟨fun _ _ _ h => h, fun _ _ _ _ _ h => h⟩
theorem lim_iso {β γ : Type} {G : Kd α → Kd β} (f : γ → β) (h : Lim G F sz E hs hE) : Lim (fun d => iso (G d) f) F sz E hs hE := ⟨fun w x cs => h.K w (f x) cs, fun w base ok x cs => h.M w base ok (f x) cs⟩
theorem thr_K_le {β : Type} {G : Kd α → Kd β} (hm : Mono F) (hG : Mono G) (hs : ∀ n, (upto F sz E n).sz = sz) {n m : Nat} (hnm : n ≤ m) {w x cs} (h : (G (upto F sz E n)).K w x cs) : (G (upto F sz E m)).K w x cs :=
  hG.K _ _ (by rw [hs n, hs m]) (fun _ _ _ hk => upto_K_le hm hs hnm hk) _ _ _ h
theorem thr_M_le {β : Type} {G : Kd α → Kd β} (hm : Mono F) (hG : Mono G) (hs : ∀ n, (upto F sz E n).sz = sz) {n m : Nat} (hnm : n ≤ m) {w base ok x cs} (h : (G (upto F sz E n)).M w base ok x cs) : (G (upto F sz E m)).M w base ok x cs :=
  hG.M _ _ (by rw [hs n, hs m]) (fun _ _ _ _ _ hk => upto_M_le hm hs hnm hk) _ _ _ _ _ h
theorem lim_pair {β γ : Type} {G : Kd α → Kd β} {H : Kd α → Kd γ} (hm : Mono F) (hG : Mono G) (hH : Mono H) (lG : Lim G F sz E hs hE) (lH : Lim H F sz E hs hE) : Lim (fun d => pair (G d) (H d)) F sz E hs hE := by
  refine ⟨?_, ?_⟩
  · rintro w x cs ⟨c0, c1, rfl, h0, h1⟩
    obtain ⟨n, hn⟩ := lG.K _ _ _ h0
    obtain ⟨m, hm'⟩ := lH.K _ _ _ h1
    exact ⟨max n m, c0, c1, rfl, thr_K_le hm hG hs (Nat.le_max_left _ _) hn, thr_K_le hm hH hs (Nat.le_max_right _ _) hm'⟩
  · rintro w base ok x cs ⟨c0, c1, rfl, h0, h1⟩
    obtain ⟨n, hn⟩ := lG.M _ _ _ _ _ h0
    obtain ⟨m, hm'⟩ := lH.M _ _ _ _ _ h1
    exact ⟨max n m, c0, c1, rfl, thr_M_le hm hG hs (Nat.le_max_left _ _) hn, thr_M_le hm hH hs (Nat.le_max_right _ _) hm'⟩
theorem thr_sz {β : Type} {G : Kd α → Kd β} (hG : Mono G) (hs : ∀ n, (upto F sz E n).sz = sz) (n : Nat) : (G (upto F sz E n)).sz = (G (fix F sz E hs hE)).sz := hG.sz _ _ (hs n)
theorem thr_C {β : Type} {G : Kd α → Kd β} (hG : Mono G) {n : Nat} {w : World} {A : Option Addr} {m : Nat} {xs : List β} (h : (G (upto F sz E n)).C w A m xs) : (G (fix F sz E hs hE)).C w A m xs :=
  C_imp (hG.sz _ (fix F sz E hs hE) (hs n)) (hG.K _ (fix F sz E hs hE) (hs n) (fun _ _ _ hp => ⟨n, hp⟩)) h
theorem thr_R_back {β : Type} {G : Kd α → Kd β} (hm : Mono F) (hG : Mono G) (lG : Lim G F sz E hs hE) {e : Nat} {w : World} {base : Nat} {ok : Nat → Prop} {v : Value} {xs : List β} (h : (G (fix F sz E hs hE)).R e w base ok v xs) : ∃ n, (G (upto F sz E n)).R e w base ok v xs := by
  obtain ⟨h0, inner, ho, hr⟩ := h
  obtain ⟨N, hN⟩ := reps_bounded (R := fun n p c => (G (upto F sz E n)).M w base (fun k => ok k ∧ some k ≠ v.ownBlock) p c) (fun n m p c hnm hp => thr_M_le hm hG hs hnm hp) (size := (G (fix F sz E hs hE)).sz) ⟨hr.1, fun j p hj => lG.M _ _ _ _ _ (hr.2 j p hj)⟩
  refine ⟨N, h0, inner, ?_, ?_⟩
  · rw [thr_sz hG hs N]; exact ho
  · rw [thr_sz hG hs N]; exact hN
theorem thr_C_back {β : Type} {G : Kd α → Kd β} (hm : Mono F) (hG : Mono G) (lG : Lim G F sz E hs hE) {w : World} {A : Option Addr} {m : Nat} {xs : List β} (h : (G (fix F sz E hs hE)).C w A m xs) : ∃ n, (G (upto F sz E n)).C w A m xs := by
  rcases Nat.eq_zero_or_pos m with hz | hpos
  · subst hz
    exact ⟨0, h.1, h.2.1, fun hp => absurd hp (Nat.lt_irrefl 0)⟩
  · obtain ⟨ad, e, hc⟩ := h.2.2 hpos
    obtain ⟨N, hN⟩ := bounded (P := fun n j => ∀ p, xs[j]? = some p → ∃ c, c.length = (G (fix F sz E hs hE)).sz ∧ (G (upto F sz E n)).K w p c ∧ ∀ i u, c[i]? = some u → w.cell? (ad.add (j * (G (fix F sz E hs hE)).sz + i)) = some u)
      (fun n n' j hnm hp p hj => by
        obtain ⟨c, h1, h2, h3⟩ := hp p hj
        exact ⟨c, h1, thr_K_le hm hG hs hnm h2, h3⟩) xs.length
      (fun j hj => by
        obtain ⟨c, h1, h2, h3⟩ := hc j _ (List.getElem?_eq_getElem hj)
        obtain ⟨n, h2⟩ := lG.K _ _ _ h2
        refine ⟨n, fun p hp => ?_⟩
        rw [List.getElem?_eq_getElem hj] at hp
        injection hp with hp
        rw [← hp]
        exact ⟨c, h1, h2, h3⟩)
    refine ⟨N, h.1, h.2.1, fun _ => ⟨ad, e, fun j p hj => ?_⟩⟩
    rw [thr_sz hG hs N]
    exact hN j (List.getElem?_eq_some_iff.1 hj).1 p hj
theorem thr_R_le {β : Type} {G : Kd α → Kd β} (hm : Mono F) (hG : Mono G) (hs : ∀ n, (upto F sz E n).sz = sz) {n m : Nat} (hnm : n ≤ m) {e : Nat} {w : World} {base : Nat} {ok : Nat → Prop} {v : Value} {xs : List β} (h : (G (upto F sz E n)).R e w base ok v xs) : (G (upto F sz E m)).R e w base ok v xs :=
  R_imp (hG.sz _ _ (by rw [hs n, hs m])) (fun _ _ _ _ _ hp => thr_M_le hm hG hs hnm hp) h
theorem thr_C_le {β : Type} {G : Kd α → Kd β} (hm : Mono F) (hG : Mono G) (hs : ∀ n, (upto F sz E n).sz = sz) {n m : Nat} (hnm : n ≤ m) {w : World} {A : Option Addr} {l : Nat} {xs : List β} (h : (G (upto F sz E n)).C w A l xs) : (G (upto F sz E m)).C w A l xs :=
  C_imp (hG.sz _ _ (by rw [hs n, hs m])) (fun _ _ _ hp => thr_K_le hm hG hs hnm hp) h
end
end Kd
end Go.Proofs.YtebmgmagdhedgaaGreatDoorW.PrintWords
