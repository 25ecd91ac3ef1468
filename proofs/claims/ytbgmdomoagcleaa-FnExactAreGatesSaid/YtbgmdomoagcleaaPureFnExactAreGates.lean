/- The program's AreGates answers as the reference's, for every number of boards and every list (lists of more than 2^20 numbers answer true at once). -/
import Derived.Test.YtbgmdomoagcleaaPuGates
import Derived.Test.YtbgmdomoagcleaaPrint4
namespace Go.Proofs.Ytbgmdomoagcleaa.Pure
open Go.RowKit Go.Proofs.Ytbgmdomoagcleaa.Print Go.Proofs.YtbgmdomoagcleaaW.PrintWords Go.Proofs.YtbgmdomoagcleaaW.PrintLast Go.Proofs.Ytbgmdomoagcleaa.Pu
theorem FnExactAreGates : laws_FnExactAreGates.Pure := by
  intro b l _ hl _ _
  unfold maxLen at hl
  by_cases h : (l.length : Int) > 1048576
  · exact ⟨0, by unfold laws_FnExactAreGates.f; rw [if_pos h]⟩
  · refine ⟨2 * l.length + 3, ?_⟩
    unfold laws_FnExactAreGates.f spec_AreGates.f
    rw [if_neg h]
    simp (disch := omega) only [toIntS_eq, gaAre_eq, areGates_eq, eqIntS_refl, Option.bind_some, bne_self_eq_false, Bool.false_eq_true, if_false, if_true]
end Go.Proofs.Ytbgmdomoagcleaa.Pure
