/- The program's IsCatWay answers as the reference's, for all arguments, and leaves its lists as they were (lists of more than 2^20 numbers answer true at once). -/
import Derived.Test.YtoffojbcpnipmaaPuWay
import Derived.Test.YtoffojbcpnipmaaPrint12
namespace Go.Proofs.Ytoffojbcpnipmaa.Pure
open Go.RowKit Go.Proofs.Ytoffojbcpnipmaa.Print Go.Proofs.YtoffojbcpnipmaaW.PrintWords Go.Proofs.YtoffojbcpnipmaaW.PrintLast Go.Proofs.Ytoffojbcpnipmaa.Pu
set_option linter.unusedSimpArgs false
set_option linter.unusedVariables false
theorem catWay_both (h : List Int) (r c : Int) (w : List Int) (hl : h.length ≤ 1048576) (hw : w.length ≤ 1048576) : ∃ p : Bool × Bool, ∀ k, h.length + w.length + 2 < k → spec_IsCatWay.f k h r c w = some p ∧ impl_IsCatWay.f k h r c w = some p := by
  cases ha : (heightsOk h && decide (1 ≤ r ∧ r ≤ 20) && decide (0 ≤ c ∧ c ≤ 50)) with
  | false =>
    refine ⟨(false, false), fun k hk => ?_⟩
    unfold spec_IsCatWay.f impl_IsCatWay.f
    rw [caAsked_eq h r c (by omega) k (by omega), areClimbed_eq h r c (by omega) k (by omega), ha]
    exact ⟨rfl, rfl⟩
  | true =>
    have hh : heightsOk h = true := by
      rw [Bool.and_eq_true, Bool.and_eq_true] at ha; exact ha.1.1
    refine ⟨(wayOk h r c w, true), fun k hk => ?_⟩
    unfold spec_IsCatWay.f impl_IsCatWay.f
    rw [caAsked_eq h r c (by omega) k (by omega), areClimbed_eq h r c (by omega) k (by omega), ha, isWay_eq hh r c w hw k (by omega), caWay_eq hh r c w hw k (by omega)]
    exact ⟨rfl, rfl⟩
theorem FnExactIsCatWay : laws_FnExactIsCatWay.Pure := by
  intro h r c w hh _ _ _ _ hw _ _
  unfold maxLen at hh hw
  by_cases e : (h.length : Int) > 1048576
  · exact ⟨0, by unfold laws_FnExactIsCatWay.f; rw [if_pos e]⟩
  · by_cases e2 : (w.length : Int) > 1048576
    · exact ⟨0, by unfold laws_FnExactIsCatWay.f; rw [if_neg e, if_pos e2]⟩
    · obtain ⟨p, hp⟩ := catWay_both h r c w (by omega) (by omega)
      have hs := fun k z => (hp k z).1
      have hi := fun k z => (hp k z).2
      refine ⟨h.length + w.length + 5, ?_⟩
      unfold laws_FnExactIsCatWay.f
      rw [if_neg e, if_neg e2]
      simp (disch := omega) only [toIntS_eq, hs, hi, Option.bind_some, bne_self_eq_false, Bool.false_eq_true, if_false]
      simp only [laws_FnExactIsCatWay.j0]
      simp (disch := omega) only [toIntS_eq, eqIntS_refl, Option.bind_some, Bool.false_eq_true, if_false, if_true]
end Go.Proofs.Ytoffojbcpnipmaa.Pure
