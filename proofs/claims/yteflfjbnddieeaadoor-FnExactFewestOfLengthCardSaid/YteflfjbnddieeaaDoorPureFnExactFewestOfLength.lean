/- The program's FewestOfLength answers as the reference's, for all arguments. -/
import Derived.Test.YteflfjbnddieeaaDoorPuStarts
import Derived.Test.YteflfjbnddieeaaDoorPrint10
import Derived.Test.YteflfjbnddieeaaDoorPrint8
namespace Go.Proofs.YteflfjbnddieeaaDoor.Pure
open Go.RowKit Go.Proofs.YteflfjbnddieeaaDoor.Print Go.Proofs.YteflfjbnddieeaaDoorW.PrintWords Go.Proofs.YteflfjbnddieeaaDoorW.PrintLast Go.Proofs.YteflfjbnddieeaaDoor.Pu
set_option linter.unusedSimpArgs false
set_option linter.unusedVariables false
theorem FnExactFewestOfLength : laws_FnExactFewestOfLength.Pure := by
  intro s L _ _
  refine ⟨100, ?_⟩
  unfold laws_FnExactFewestOfLength.f
  by_cases e : (s.size : Int) > 1048576
  · rw [if_pos e]
  · rw [if_neg e]
    unfold impl_FewestOfLength.f spec_FewestOfLength.f
    rw [startsOf_eq s L 100 (by omega), reGood_eq s 100 (by omega), l1In_eq]
    by_cases h : yardOk s = true ∧ 1 ≤ L ∧ L ≤ 30
    · have hs := yard_size h.1
      rw [if_pos h, h.1, decide_eq_true h.2, reStarts_eq s hs.2 L h.2 100 (by omega)]
      simp
    · rw [if_neg h]
      cases hy : yardOk s with
      | false => simp
      | true =>
        rw [hy] at h
        rw [decide_eq_false (fun z => h ⟨rfl, z⟩)]; simp
end Go.Proofs.YteflfjbnddieeaaDoor.Pure
