/- The program's IsYard answers as the reference's, for all texts (texts of more than 2^20 bytes answer true at once). -/
import Derived.Test.YteflfjbnddieeaaDoorPuYard
import Derived.Test.YteflfjbnddieeaaDoorPrint4
import Derived.Test.YteflfjbnddieeaaDoorPrint4
namespace Go.Proofs.YteflfjbnddieeaaDoor.Pure
open Go.RowKit Go.Proofs.YteflfjbnddieeaaDoor.Print Go.Proofs.YteflfjbnddieeaaDoorW.PrintWords Go.Proofs.YteflfjbnddieeaaDoorW.PrintLast Go.Proofs.YteflfjbnddieeaaDoor.Pu
set_option linter.unusedSimpArgs false
set_option linter.unusedVariables false
theorem FnExactIsYard : laws_FnExactIsYard.Pure := by
  intro s _
  refine ⟨50, ?_⟩
  unfold laws_FnExactIsYard.f spec_IsYard.f
  by_cases e : (s.size : Int) > 1048576
  · rw [if_pos e]
  · rw [if_neg e, reGood_eq s 50 (by omega), isYard_eq]
    simp
end Go.Proofs.YteflfjbnddieeaaDoor.Pure
