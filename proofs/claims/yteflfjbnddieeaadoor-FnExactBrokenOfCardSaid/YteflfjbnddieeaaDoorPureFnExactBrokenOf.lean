/- The program's BrokenOf answers as the reference's, for all texts; its result is new memory and a second call answers the same. -/
import Derived.Test.YteflfjbnddieeaaDoorPuYard
import Derived.Test.YteflfjbnddieeaaDoorPuMarks
import Derived.Test.YteflfjbnddieeaaDoorPrint17
namespace Go.Proofs.YteflfjbnddieeaaDoor.Pure
open Go.RowKit Go.Proofs.YteflfjbnddieeaaDoor.Print Go.Proofs.YteflfjbnddieeaaDoorW.PrintWords Go.Proofs.YteflfjbnddieeaaDoorW.PrintLast Go.Proofs.YteflfjbnddieeaaDoor.Pu
set_option linter.unusedSimpArgs false
set_option linter.unusedVariables false
theorem brokenOf_both (s : ByteArray) : ∃ (w : List Int) (o : Bool), w.length ≤ 100 ∧ ∀ k, 50 < k → spec_BrokenOf.f k s = some (w, o) ∧ impl_BrokenOf.f k s = some (w, o) := by
  cases h : yardOk s with
  | false =>
    refine ⟨[], false, by simp, fun k hk => ?_⟩
    unfold spec_BrokenOf.f impl_BrokenOf.f
    rw [reGood_eq s k (by omega), isYard_eq, h]
    exact ⟨rfl, rfl⟩
  | true =>
    have hs := yard_size h
    have hl := brokens_length s hs.2
    refine ⟨brokens s, true, by omega, fun k hk => ?_⟩
    unfold spec_BrokenOf.f impl_BrokenOf.f
    rw [reGood_eq s k (by omega), isYard_eq, h, reBroken_eq s hs.2 k (by omega), broken_eq s hs.2 k (by omega)]
    exact ⟨rfl, rfl⟩
theorem FnExactBrokenOf : laws_FnExactBrokenOf.Pure := by
  intro s _
  by_cases e : (s.size : Int) > 1048576
  · exact ⟨0, by unfold laws_FnExactBrokenOf.f; rw [if_pos e]⟩
  · obtain ⟨w, o, hw, hk⟩ := brokenOf_both s
    have hs := fun k h => (hk k h).1
    have hi := fun k h => (hk k h).2
    refine ⟨300, ?_⟩
    unfold laws_FnExactBrokenOf.f
    rw [if_neg e]
    simp (disch := omega) only [hs, hi, eqIntS_refl, Option.bind_some, bne_self_eq_false, Bool.false_eq_true, if_false, if_true]
    simp only [laws_FnExactBrokenOf.j0]
    simp (disch := omega) only [hi, eqIntS_refl, markIntS_eq, heldIntS_eq, mark_lt, Option.bind_some, bne_self_eq_false, Bool.false_eq_true, if_false, if_true]
    simp only [laws_FnExactBrokenOf.j1]
    simp (disch := omega) only [heldIntS_eq, mark_lt, Option.bind_some, bne_self_eq_false, Bool.false_eq_true, if_false, if_true]
end Go.Proofs.YteflfjbnddieeaaDoor.Pure
