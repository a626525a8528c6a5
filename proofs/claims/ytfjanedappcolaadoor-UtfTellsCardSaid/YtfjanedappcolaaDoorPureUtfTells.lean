/-
  UtfTells: the pure statement of the law: whatever the string and the place, the printed law answers true. No condition of ours.
-/
import Derived.Test.YtfjanedappcolaaDoorXUtfT
import Derived.Test.YtfjanedappcolaaDoorXLong
import Derived.Test.YtfjanedappcolaaDoorQ5
namespace Go.Proofs.YtfjanedappcolaaDoor.Pure
open Go Go.RowKit Go.Proofs.YtfjanedappcolaaDoor.Q Go.Proofs.YtfjanedappcolaaDoorW.PrintWords Go.Proofs.YtfjanedappcolaaDoorW.PrintLast Go.Proofs.YtfjanedappcolaaDoor.XEv

theorem UtfTells.same (s : ByteArray) (hs : s.size ≤ 140737488351232) (a : Int) : ∃ v, Ev (fun k => utf_Next.f k s a) v ∧ Ev (fun k => glossatorref01_Next.f k s a) v := by
  by_cases h : a < 0 ∨ (s.size : Int) ≤ a
  · exact ⟨_, XUtfT.utf_next_out s a h, XRef01.next_out s a h⟩
  · obtain ⟨n, rfl⟩ : ∃ n : Nat, a = n := ⟨a.toNat, by omega⟩
    exact ⟨_, XUtfT.utf_next s n (by omega), XRef01.next s n (by omega) hs⟩
theorem UtfTells : glossatorlaw01_UtfTells.Pure := by
  intro s a hs ha
  refine Ev.rounds (g := fun k => glossatorlaw01_UtfTells.f k s a) ?_
  obtain ⟨b, hb⟩ := XLong.one s
  simp only [glossatorlaw01_UtfTells.f]
  refine bind hb ?_
  cases b with
  | true => simp only [if_true]; exact now fun _ => rfl
  | false =>
    simp only [Bool.false_eq_true, if_false]
    obtain ⟨v, h1, h2⟩ := UtfTells.same s hs a
    refine bind h1 (bind h2 ?_)
    simp only [if_true, beq_self_eq_true]
    refine cbind (XUtfT.utf_valid s hs) (bind (XUtfT.ref_valid s hs) ?_)
    simp only [if_true, beq_self_eq_true]
    refine bind (XUtfT.utf_begin s hs a) (bind (XUtfT.ref_beg s hs a) (now fun _ => ?_))
    simp
end Go.Proofs.YtfjanedappcolaaDoor.Pure
