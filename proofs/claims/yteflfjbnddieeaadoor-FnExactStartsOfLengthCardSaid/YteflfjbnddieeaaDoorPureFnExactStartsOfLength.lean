/- The program's StartsOfLength answers as the reference's, for all arguments; its result is new memory and a second call answers the same. -/
import Derived.Test.YteflfjbnddieeaaDoorPuStarts
import Derived.Test.YteflfjbnddieeaaDoorPuMarks
import Derived.Test.YteflfjbnddieeaaDoorPrint19
import Derived.Test.YteflfjbnddieeaaDoorPrint18
namespace Go.Proofs.YteflfjbnddieeaaDoor.Pure
open Go.RowKit Go.Proofs.YteflfjbnddieeaaDoor.Print Go.Proofs.YteflfjbnddieeaaDoorW.PrintWords Go.Proofs.YteflfjbnddieeaaDoorW.PrintLast Go.Proofs.YteflfjbnddieeaaDoor.Pu
set_option linter.unusedSimpArgs false
set_option linter.unusedVariables false
theorem startsOf_both (s : ByteArray) (L : Int) : ∃ (w : List Int) (o : Bool), w.length ≤ 100 ∧ ∀ k, 80 < k → spec_StartsOfLength.f k s L = some (w, o) ∧ impl_StartsOfLength.f k s L = some (w, o) := by
  by_cases h : yardOk s = true ∧ 1 ≤ L ∧ L ≤ 30
  · have hs := yard_size h.1
    have hl := brokens_length s hs.2
    have hl2 := starts_length L (brokens s) 0
    refine ⟨starts L 0 (brokens s), true, by omega, fun k hk => ?_⟩
    unfold spec_StartsOfLength.f
    rw [startsOf_eq s L k (by omega), if_pos h, reGood_eq s k (by omega), h.1, l1In_eq, decide_eq_true h.2, reStarts_eq s hs.2 L h.2 k (by omega)]
    exact ⟨rfl, rfl⟩
  · refine ⟨[], false, by simp, fun k hk => ?_⟩
    unfold spec_StartsOfLength.f
    rw [startsOf_eq s L k (by omega), if_neg h, reGood_eq s k (by omega), l1In_eq]
    refine ⟨?_, rfl⟩
    cases hy : yardOk s with
    | false => rfl
    | true =>
      rw [hy] at h
      rw [decide_eq_false (fun z => h ⟨rfl, z⟩)]; rfl
theorem FnExactStartsOfLength : laws_FnExactStartsOfLength.Pure := by
  intro s L _ _
  by_cases e : (s.size : Int) > 1048576
  · exact ⟨0, by unfold laws_FnExactStartsOfLength.f; rw [if_pos e]⟩
  · obtain ⟨w, o, hw, hk⟩ := startsOf_both s L
    have hs := fun k h => (hk k h).1
    have hi := fun k h => (hk k h).2
    refine ⟨300, ?_⟩
    unfold laws_FnExactStartsOfLength.f
    rw [if_neg e]
    simp (disch := omega) only [hs, hi, eqIntS_refl, Option.bind_some, bne_self_eq_false, Bool.false_eq_true, if_false, if_true]
    simp only [laws_FnExactStartsOfLength.j0]
    simp (disch := omega) only [hi, eqIntS_refl, markIntS_eq, heldIntS_eq, mark_lt, Option.bind_some, bne_self_eq_false, Bool.false_eq_true, if_false, if_true]
    simp only [laws_FnExactStartsOfLength.j1]
    simp (disch := omega) only [heldIntS_eq, mark_lt, Option.bind_some, bne_self_eq_false, Bool.false_eq_true, if_false, if_true]
end Go.Proofs.YteflfjbnddieeaaDoor.Pure
