/- The program's FirstLeastClimb answers as the reference's, for all arguments; its result is new memory and a second call answers the same. -/
import Derived.Test.YtmppchecbcflgaaPuFirst
import Derived.Test.YtmppchecbcflgaaPuMarks
import Derived.Test.YtmppchecbcflgaaPrint33
namespace Go.Proofs.Ytmppchecbcflgaa.Pure
open Go.RowKit Go.Proofs.Ytmppchecbcflgaa.Print Go.Proofs.YtmppchecbcflgaaW.PrintWords Go.Proofs.YtmppchecbcflgaaW.PrintLast Go.Proofs.Ytmppchecbcflgaa.Pu
set_option linter.unusedSimpArgs false
set_option linter.unusedVariables false
theorem firstClimb_both (h : List Int) (r : Int) (hl : h.length ≤ 1048576) : ∃ (w : List Int) (o : Bool), w.length ≤ 100 ∧ ∀ k, h.length + 1400 < k → spec_FirstLeastClimb.f k h r = some (w, o) ∧ impl_FirstLeastClimb.f k h r = some (w, o) := by
  cases ha : (heightsOk h && decide (1 ≤ r ∧ r ≤ 20)) with
  | false =>
    refine ⟨[], false, by simp, fun k hk => ?_⟩
    unfold spec_FirstLeastClimb.f impl_FirstLeastClimb.f
    rw [caReach_eq h r (by omega) k (by omega), areJumped_eq h r (by omega) k (by omega), ha]
    exact ⟨rfl, rfl⟩
  | true =>
    rw [Bool.and_eq_true, decide_eq_true_eq] at ha
    have hh := ha.1
    have hn := ((heightsOk_iff h).1 hh).1
    obtain ⟨v, hv⟩ := left_exists false h r 50
    have h0 := left_easy hh ha.2.1 hv (h.length - 1) 0 (by omega)
    have hw := walk_length false h r 50 v 20 0
    refine ⟨0 :: walk false h r 50 v 20 0, true, by simp; omega, fun k hk => ?_⟩
    unfold spec_FirstLeastClimb.f impl_FirstLeastClimb.f impl_climber.f
    rw [caReach_eq h r (by omega) k (by omega), areJumped_eq h r (by omega) k (by omega), hh, decide_eq_true ha.2]
    simp only [Option.bind_some, if_true, Bool.and_self]
    rw [least_eq hh false r 50 _ (costs_climber hh) v hv k (by omega), caFirst_eq hh false r 50 v hv h0 k (by omega), if_pos h0]
    first | exact ⟨rfl, rfl⟩ | simp
theorem FnExactFirstLeastClimb : laws_FnExactFirstLeastClimb.Pure := by
  intro l r hl _ _ _
  unfold maxLen at hl
  by_cases h : (l.length : Int) > 1048576
  · exact ⟨0, by unfold laws_FnExactFirstLeastClimb.f; rw [if_pos h]⟩
  · obtain ⟨w, o, hw, hk⟩ := firstClimb_both l r (by omega)
    have hs := fun k h => (hk k h).1
    have hi := fun k h => (hk k h).2
    refine ⟨l.length + 1600, ?_⟩
    unfold laws_FnExactFirstLeastClimb.f
    rw [if_neg h]
    simp (disch := omega) only [toIntS_eq, hs, hi, eqIntS_refl, Option.bind_some, bne_self_eq_false, Bool.false_eq_true, if_false, if_true]
    simp only [laws_FnExactFirstLeastClimb.j0]
    simp (disch := omega) only [toIntS_eq, eqIntS_refl, markIntS_eq, mark_lt, Option.bind_some, bne_self_eq_false, Bool.false_eq_true, if_false, if_true]
    simp only [laws_FnExactFirstLeastClimb.j1]
    simp (disch := omega) only [toIntS_eq, hi, eqIntS_refl, markIntS_eq, heldIntS_eq, mark_lt, Option.bind_some, bne_self_eq_false, Bool.false_eq_true, if_false, if_true]
    simp only [laws_FnExactFirstLeastClimb.j2]
    simp (disch := omega) only [heldIntS_eq, mark_lt, Option.bind_some, bne_self_eq_false, Bool.false_eq_true, if_false, if_true]
end Go.Proofs.Ytmppchecbcflgaa.Pure
