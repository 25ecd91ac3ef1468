/- The program's AreHeights answers as the reference's, for every list of heights (lists of more than 2^20 numbers answer true at once). -/
import Derived.Test.YtoffojbcpnipmaaPuHeights
import Derived.Test.YtoffojbcpnipmaaPrint2
namespace Go.Proofs.Ytoffojbcpnipmaa.Pure
open Go.RowKit Go.Proofs.Ytoffojbcpnipmaa.Print Go.Proofs.YtoffojbcpnipmaaW.PrintWords Go.Proofs.YtoffojbcpnipmaaW.PrintLast Go.Proofs.Ytoffojbcpnipmaa.Pu
theorem FnExactAreHeights : laws_FnExactAreHeights.Pure := by
  intro l hl _ _
  unfold maxLen at hl
  by_cases h : (l.length : Int) > 1048576
  · exact ⟨0, by unfold laws_FnExactAreHeights.f; rw [if_pos h]⟩
  · refine ⟨l.length + 1, ?_⟩
    unfold laws_FnExactAreHeights.f spec_AreHeights.f
    rw [if_neg h]
    simp (disch := omega) only [toIntS_eq, caGood_eq, areHeights_eq, eqIntS_refl, Option.bind_some, bne_self_eq_false, Bool.false_eq_true, if_false, if_true]
end Go.Proofs.Ytoffojbcpnipmaa.Pure
