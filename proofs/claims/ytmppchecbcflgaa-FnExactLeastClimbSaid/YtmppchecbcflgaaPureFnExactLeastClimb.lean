/- The program's LeastClimb answers as the reference's, for all arguments, and leaves its list as it was. -/
import Derived.Test.YtmppchecbcflgaaPuLeft
import Derived.Test.YtmppchecbcflgaaPrint18
namespace Go.Proofs.Ytmppchecbcflgaa.Pure
open Go.RowKit Go.Proofs.Ytmppchecbcflgaa.Print Go.Proofs.YtmppchecbcflgaaW.PrintWords Go.Proofs.YtmppchecbcflgaaW.PrintLast Go.Proofs.Ytmppchecbcflgaa.Pu
set_option linter.unusedSimpArgs false
set_option linter.unusedVariables false
theorem leastClimb_both (h : List Int) (r : Int) (hl : h.length ≤ 1048576) : ∃ p : Int × Bool, ∀ k, h.length + 1300 < k → spec_LeastClimb.f k h r = some p ∧ impl_LeastClimb.f k h r = some p := by
  cases ha : (heightsOk h && decide (1 ≤ r ∧ r ≤ 20)) with
  | false =>
    refine ⟨(0, false), fun k hk => ?_⟩
    unfold spec_LeastClimb.f impl_LeastClimb.f
    rw [caReach_eq h r (by omega) k (by omega), areJumped_eq h r (by omega) k (by omega), ha]
    first | exact ⟨rfl, rfl⟩ | simp
  | true =>
    rw [Bool.and_eq_true, decide_eq_true_eq] at ha
    have hh := ha.1
    have hn := ((heightsOk_iff h).1 hh).1
    obtain ⟨v, hv⟩ := left_exists false h r 50
    have h0 := left_easy hh ha.2.1 hv (h.length - 1) 0 (by omega)
    refine ⟨(v 0, true), fun k hk => ?_⟩
    unfold spec_LeastClimb.f impl_LeastClimb.f impl_climber.f
    rw [caReach_eq h r (by omega) k (by omega), areJumped_eq h r (by omega) k (by omega), hh, decide_eq_true ha.2]
    simp only [Option.bind_some, if_true, Bool.and_self]
    rw [least_eq hh false r 50 _ (costs_climber hh) v hv k (by omega), caLeft_eq hh false r 50 v hv k (by omega), if_pos h0]
    simp only [Option.bind_some, tab_length]
    have hr := rd_tab v h.length 0 (by omega)
    simp only [Int.natCast_zero] at hr
    rw [if_pos (by omega), hr]
    first | exact ⟨rfl, rfl⟩ | simp
theorem FnExactLeastClimb : laws_FnExactLeastClimb.Pure := by
  intro h r hh _ _ _
  unfold maxLen at hh
  by_cases e : (h.length : Int) > 1048576
  · exact ⟨0, by unfold laws_FnExactLeastClimb.f; rw [if_pos e]⟩
  · obtain ⟨p, hp⟩ := leastClimb_both h r (by omega)
    have hs := fun k z => (hp k z).1
    have hi := fun k z => (hp k z).2
    refine ⟨h.length + 1305, ?_⟩
    unfold laws_FnExactLeastClimb.f
    rw [if_neg e]
    simp (disch := omega) only [toIntS_eq, hs, hi, Option.bind_some, bne_self_eq_false, Bool.false_eq_true, if_false, if_true]
    simp only [laws_FnExactLeastClimb.j0]
    simp (disch := omega) only [toIntS_eq, eqIntS_refl, Option.bind_some, Bool.false_eq_true, if_false, if_true]
end Go.Proofs.Ytmppchecbcflgaa.Pure
