/- The program's FewestJumps answers as the reference's, for all arguments, and leaves its list as it was. -/
import Derived.Test.YtmppchecbcflgaaPuFewest
import Derived.Test.YtmppchecbcflgaaPrint27
namespace Go.Proofs.Ytmppchecbcflgaa.Pure
open Go.RowKit Go.Proofs.Ytmppchecbcflgaa.Print Go.Proofs.YtmppchecbcflgaaW.PrintWords Go.Proofs.YtmppchecbcflgaaW.PrintLast Go.Proofs.Ytmppchecbcflgaa.Pu
set_option linter.unusedSimpArgs false
set_option linter.unusedVariables false
theorem fewestJumps_both (h : List Int) (r c : Int) (hl : h.length ≤ 1048576) : ∃ p : Int × Bool, ∀ k, h.length + 1300 < k → spec_FewestJumps.f k h r c = some p ∧ impl_FewestJumps.f k h r c = some p := by
  cases ha : (heightsOk h && decide (1 ≤ r ∧ r ≤ 20) && decide (0 ≤ c ∧ c ≤ 50)) with
  | false =>
    refine ⟨(0, false), fun k hk => ⟨specFewest_bad h r c hl ha k (by omega), ?_⟩⟩
    unfold impl_FewestJumps.f
    rw [areClimbed_eq h r c (by omega) k (by omega), ha]
    rfl
  | true =>
    have hh : heightsOk h = true := by
      rw [Bool.and_eq_true, Bool.and_eq_true] at ha; exact ha.1.1
    obtain ⟨v, hv⟩ := left_exists true h r c
    refine ⟨if 0 ≤ v 0 then (v 0, true) else (0, false), fun k hk => ⟨specFewest_eq h r c hl ha v hv k hk, ?_⟩⟩
    unfold impl_FewestJumps.f impl_counter.f
    rw [areClimbed_eq h r c (by omega) k (by omega), ha]
    simp only [Option.bind_some, if_true]
    rw [least_eq hh true r c _ (costs_counter h) v hv k (by omega)]
    by_cases e : 0 ≤ v 0
    · rw [if_pos e, if_pos e]; rfl
    · rw [if_neg e, if_neg e]; rfl
theorem FnExactFewestJumps : laws_FnExactFewestJumps.Pure := by
  intro h r c hh _ _ _ _
  unfold maxLen at hh
  by_cases e : (h.length : Int) > 1048576
  · exact ⟨0, by unfold laws_FnExactFewestJumps.f; rw [if_pos e]⟩
  · obtain ⟨p, hp⟩ := fewestJumps_both h r c (by omega)
    have hs := fun k z => (hp k z).1
    have hi := fun k z => (hp k z).2
    refine ⟨h.length + 1305, ?_⟩
    unfold laws_FnExactFewestJumps.f
    rw [if_neg e]
    simp (disch := omega) only [toIntS_eq, hs, hi, Option.bind_some, bne_self_eq_false, Bool.false_eq_true, if_false, if_true]
    simp only [laws_FnExactFewestJumps.j0]
    simp (disch := omega) only [toIntS_eq, eqIntS_refl, Option.bind_some, Bool.false_eq_true, if_false, if_true]
end Go.Proofs.Ytmppchecbcflgaa.Pure
