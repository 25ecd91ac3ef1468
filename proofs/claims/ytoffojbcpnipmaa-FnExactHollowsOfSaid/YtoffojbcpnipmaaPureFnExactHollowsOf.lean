/- The program's HollowsOf answers as the reference's, for every list; its result is new memory and a second call answers the same (lists of more than 2^20 numbers answer true at once). -/
import Derived.Test.YtoffojbcpnipmaaPuPeaks
import Derived.Test.YtoffojbcpnipmaaPuMarks
import Derived.Test.YtoffojbcpnipmaaPrint8
namespace Go.Proofs.Ytoffojbcpnipmaa.Pure
open Go.RowKit Go.Proofs.Ytoffojbcpnipmaa.Print Go.Proofs.YtoffojbcpnipmaaW.PrintWords Go.Proofs.YtoffojbcpnipmaaW.PrintLast Go.Proofs.Ytoffojbcpnipmaa.Pu
set_option linter.unusedSimpArgs false
set_option linter.unusedVariables false
theorem Hollows_both (l : List Int) (hl : l.length ≤ 1048576) : ∃ (w : List Int) (o : Bool), w.length ≤ l.length ∧ ∀ k, 4 * l.length + 2 < k → spec_HollowsOf.f k l = some (w, o) ∧ impl_HollowsOf.f k l = some (w, o) := by
  cases hh : heightsOk l with
  | false =>
    refine ⟨[], false, by simp, fun k hk => ?_⟩
    unfold spec_HollowsOf.f impl_HollowsOf.f
    rw [caGood_eq l (by omega) k (by omega), areHeights_eq l (by omega) k (by omega), hh]
    exact ⟨rfl, rfl⟩
  | true =>
    refine ⟨coll (besideP (more (-1)) l) 0 l.length, true, coll_length _ _ _, fun k hk => ?_⟩
    unfold spec_HollowsOf.f impl_HollowsOf.f
    rw [caGood_eq l (by omega) k (by omega), areHeights_eq l (by omega) k (by omega), hh]
    simp only [Option.bind_some, if_true]
    rw [peaks_eq l hh (-1) (by omega) k (by omega), beside_eq l hl _ (more (-1)) (fun x y => by unfold impl_HollowsOf_1.p impl_HollowsOf_1.f more; congr 1; rw [decide_eq_decide]; omega) k (by omega)]
    exact ⟨rfl, rfl⟩
theorem FnExactHollowsOf : laws_FnExactHollowsOf.Pure := by
  intro l hl _ _
  unfold maxLen at hl
  by_cases h : (l.length : Int) > 1048576
  · exact ⟨0, by unfold laws_FnExactHollowsOf.f; rw [if_pos h]⟩
  · obtain ⟨w, o, hw, hk⟩ := Hollows_both l (by omega)
    have hs := fun k h => (hk k h).1
    have hi := fun k h => (hk k h).2
    refine ⟨4 * l.length + 10, ?_⟩
    unfold laws_FnExactHollowsOf.f
    rw [if_neg h]
    simp (disch := omega) only [toIntS_eq, hs, hi, eqIntS_refl, Option.bind_some, bne_self_eq_false, Bool.false_eq_true, if_false, if_true]
    simp only [laws_FnExactHollowsOf.j0]
    simp (disch := omega) only [toIntS_eq, eqIntS_refl, markIntS_eq, mark_lt, Option.bind_some, bne_self_eq_false, Bool.false_eq_true, if_false, if_true]
    simp only [laws_FnExactHollowsOf.j1]
    simp (disch := omega) only [toIntS_eq, hi, eqIntS_refl, markIntS_eq, heldIntS_eq, mark_lt, Option.bind_some, bne_self_eq_false, Bool.false_eq_true, if_false, if_true]
    simp only [laws_FnExactHollowsOf.j2]
    simp (disch := omega) only [heldIntS_eq, mark_lt, Option.bind_some, bne_self_eq_false, Bool.false_eq_true, if_false, if_true]
end Go.Proofs.Ytoffojbcpnipmaa.Pure
