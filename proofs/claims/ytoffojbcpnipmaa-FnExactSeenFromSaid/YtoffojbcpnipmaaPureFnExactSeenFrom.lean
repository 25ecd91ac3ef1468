/- The program's SeenFrom answers as the reference's, for all arguments; its result is new memory and a second call answers the same (lists of more than 2^20 numbers answer true at once). -/
import Derived.Test.YtoffojbcpnipmaaPuSeen
import Derived.Test.YtoffojbcpnipmaaPuMarks
import Derived.Test.YtoffojbcpnipmaaPrint42
namespace Go.Proofs.Ytoffojbcpnipmaa.Pure
open Go.RowKit Go.Proofs.Ytoffojbcpnipmaa.Print Go.Proofs.YtoffojbcpnipmaaW.PrintWords Go.Proofs.YtoffojbcpnipmaaW.PrintLast Go.Proofs.Ytoffojbcpnipmaa.Pu
set_option linter.unusedSimpArgs false
set_option linter.unusedVariables false
theorem seen_both (l : List Int) (b : Int) (hl : l.length ≤ 1048576) : ∃ (w : List Int) (o : Bool), w.length ≤ l.length ∧ ∀ k, 30 * l.length + 40 < k → spec_SeenFrom.f k l b = some (w, o) ∧ impl_SeenFrom.f k l b = some (w, o) := by
  cases hh : heightsOk l with
  | false =>
    refine ⟨[], false, by simp, fun k hk => ?_⟩
    unfold spec_SeenFrom.f impl_SeenFrom.f
    rw [caGood_eq l (by omega) k (by omega), areHeights_eq l (by omega) k (by omega), hh]
    exact ⟨rfl, rfl⟩
  | true =>
    have hn : 1 ≤ l.length ∧ l.length ≤ 20 := by unfold heightsOk at hh; rw [Bool.and_eq_true, decide_eq_true_eq] at hh; exact hh.1
    have e : wrap64 ((l.length : Int) - 1) = (l.length : Int) - 1 := w64 (by omega) (by omega)
    by_cases h1 : 0 ≤ b ∧ b ≤ (l.length : Int) - 1
    · obtain ⟨n, rfl⟩ := Int.eq_ofNat_of_zero_le h1.1
      refine ⟨coll (seenP l n) 0 l.length, true, coll_length _ _ _, fun k hk => ?_⟩
      unfold spec_SeenFrom.f impl_SeenFrom.f
      rw [caGood_eq l (by omega) k (by omega), areHeights_eq l (by omega) k (by omega), hh, e]
      simp only [l1In_eq, within_eq, decide_eq_true h1, Option.bind_some, if_true]
      rw [caSeen_eq l (by omega) n (by omega) k (by omega), seenFrom_eq l (by omega) n (by omega) k (by omega)]
      exact ⟨rfl, rfl⟩
    · refine ⟨[], false, by simp, fun k hk => ?_⟩
      unfold spec_SeenFrom.f impl_SeenFrom.f
      rw [caGood_eq l (by omega) k (by omega), areHeights_eq l (by omega) k (by omega), hh, e]
      simp only [l1In_eq, within_eq, decide_eq_false h1, Option.bind_some, if_true, Bool.false_eq_true, if_false]
      exact ⟨trivial, trivial⟩
theorem FnExactSeenFrom : laws_FnExactSeenFrom.Pure := by
  intro l b hl _ _ _
  unfold maxLen at hl
  by_cases h : (l.length : Int) > 1048576
  · exact ⟨0, by unfold laws_FnExactSeenFrom.f; rw [if_pos h]⟩
  · obtain ⟨w, o, hw, hk⟩ := seen_both l b (by omega)
    have hs := fun k h => (hk k h).1
    have hi := fun k h => (hk k h).2
    refine ⟨30 * l.length + 50, ?_⟩
    unfold laws_FnExactSeenFrom.f
    rw [if_neg h]
    simp (disch := omega) only [toIntS_eq, hs, hi, eqIntS_refl, Option.bind_some, bne_self_eq_false, Bool.false_eq_true, if_false, if_true]
    simp only [laws_FnExactSeenFrom.j0]
    simp (disch := omega) only [toIntS_eq, eqIntS_refl, markIntS_eq, mark_lt, Option.bind_some, bne_self_eq_false, Bool.false_eq_true, if_false, if_true]
    simp only [laws_FnExactSeenFrom.j1]
    simp (disch := omega) only [toIntS_eq, hi, eqIntS_refl, markIntS_eq, heldIntS_eq, mark_lt, Option.bind_some, bne_self_eq_false, Bool.false_eq_true, if_false, if_true]
    simp only [laws_FnExactSeenFrom.j2]
    simp (disch := omega) only [heldIntS_eq, mark_lt, Option.bind_some, bne_self_eq_false, Bool.false_eq_true, if_false, if_true]
end Go.Proofs.Ytoffojbcpnipmaa.Pure
