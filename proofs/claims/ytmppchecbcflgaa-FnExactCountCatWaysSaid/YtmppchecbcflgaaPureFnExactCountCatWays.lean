/- The program's CountCatWays answers as the reference's, for all arguments, and leaves its list as it was. -/
import Derived.Test.YtmppchecbcflgaaPuWays
import Derived.Test.YtmppchecbcflgaaPrint12
namespace Go.Proofs.Ytmppchecbcflgaa.Pure
open Go.RowKit Go.Proofs.Ytmppchecbcflgaa.Print Go.Proofs.YtmppchecbcflgaaW.PrintWords Go.Proofs.YtmppchecbcflgaaW.PrintLast Go.Proofs.Ytmppchecbcflgaa.Pu
set_option linter.unusedSimpArgs false
set_option linter.unusedVariables false
theorem catWays_both (h : List Int) (r c : Int) (hl : h.length ≤ 1048576) : ∃ p : Int × Bool, ∀ k, h.length + 1300 < k → spec_CountCatWays.f k h r c = some p ∧ impl_CountCatWays.f k h r c = some p := by
  cases ha : (heightsOk h && decide (1 ≤ r ∧ r ≤ 20) && decide (0 ≤ c ∧ c ≤ 50)) with
  | false =>
    refine ⟨(0, false), fun k hk => ?_⟩
    unfold spec_CountCatWays.f impl_CountCatWays.f
    rw [caAsked_eq h r c (by omega) k (by omega), areClimbed_eq h r c (by omega) k (by omega), ha]
    exact ⟨rfl, rfl⟩
  | true =>
    have hh : heightsOk h = true := by
      rw [Bool.and_eq_true, Bool.and_eq_true] at ha; exact ha.1.1
    have hn := ((heightsOk_iff h).1 hh).1
    obtain ⟨v, hv⟩ := to_exists h r c
    obtain ⟨w, hw⟩ := from_exists h r c
    refine ⟨(rd (tab w h.length) 0, true), fun k hk => ?_⟩
    unfold spec_CountCatWays.f impl_CountCatWays.f impl_counter.f
    rw [caAsked_eq h r c (by omega) k (by omega), areClimbed_eq h r c (by omega) k (by omega), ha]
    simp only [Option.bind_some, if_true]
    rw [ways_eq hh r c _ v w hv hw k (by omega), caWays_eq hh r c w hw k (by omega)]
    simp only [Option.bind_some, tab_length]
    rw [if_pos (by omega)]
    exact ⟨rfl, rfl⟩
theorem FnExactCountCatWays : laws_FnExactCountCatWays.Pure := by
  intro h r c hh _ _ _ _
  unfold maxLen at hh
  by_cases e : (h.length : Int) > 1048576
  · exact ⟨0, by unfold laws_FnExactCountCatWays.f; rw [if_pos e]⟩
  · obtain ⟨p, hp⟩ := catWays_both h r c (by omega)
    have hs := fun k z => (hp k z).1
    have hi := fun k z => (hp k z).2
    refine ⟨h.length + 1305, ?_⟩
    unfold laws_FnExactCountCatWays.f
    rw [if_neg e]
    simp (disch := omega) only [toIntS_eq, hs, hi, Option.bind_some, bne_self_eq_false, Bool.false_eq_true, if_false, if_true]
    simp only [laws_FnExactCountCatWays.j0]
    simp (disch := omega) only [toIntS_eq, eqIntS_refl, Option.bind_some, Bool.false_eq_true, if_false, if_true]
end Go.Proofs.Ytmppchecbcflgaa.Pure
