/- The program's FirstFewestJumps answers as the reference's, for all arguments; its result is new memory and a second call answers the same. -/
import Derived.Test.YtmppchecbcflgaaPuFirst
import Derived.Test.YtmppchecbcflgaaPuFewest
import Derived.Test.YtmppchecbcflgaaPuMarks
import Derived.Test.YtmppchecbcflgaaPrint35
namespace Go.Proofs.Ytmppchecbcflgaa.Pure
open Go.RowKit Go.Proofs.Ytmppchecbcflgaa.Print Go.Proofs.YtmppchecbcflgaaW.PrintWords Go.Proofs.YtmppchecbcflgaaW.PrintLast Go.Proofs.Ytmppchecbcflgaa.Pu
set_option linter.unusedSimpArgs false
set_option linter.unusedVariables false
theorem firstJumps_both (h : List Int) (r c : Int) (hl : h.length ≤ 1048576) : ∃ (w : List Int) (o : Bool), w.length ≤ 100 ∧ ∀ k, h.length + 1400 < k → spec_FirstFewestJumps.f k h r c = some (w, o) ∧ impl_FirstFewestJumps.f k h r c = some (w, o) := by
  cases ha : (heightsOk h && decide (1 ≤ r ∧ r ≤ 20) && decide (0 ≤ c ∧ c ≤ 50)) with
  | false =>
    refine ⟨[], false, by simp, fun k hk => ?_⟩
    unfold spec_FirstFewestJumps.f impl_FirstFewestJumps.f
    rw [specFewest_bad h r c hl ha k (by omega), areClimbed_eq h r c (by omega) k (by omega), ha]
    exact ⟨rfl, rfl⟩
  | true =>
    have hh : heightsOk h = true := by
      rw [Bool.and_eq_true, Bool.and_eq_true] at ha; exact ha.1.1
    obtain ⟨v, hv⟩ := left_exists true h r c
    by_cases h0 : 0 ≤ v 0
    · have hw := walk_length true h r c v 20 0
      refine ⟨0 :: walk true h r c v 20 0, true, by simp; omega, fun k hk => ?_⟩
      unfold spec_FirstFewestJumps.f impl_FirstFewestJumps.f impl_counter.f
      rw [specFewest_eq h r c hl ha v hv k (by omega), areClimbed_eq h r c (by omega) k (by omega), ha, if_pos h0]
      simp only [Option.bind_some, if_true]
      rw [least_eq hh true r c _ (costs_counter h) v hv k (by omega), caFirst_eq hh true r c v hv h0 k (by omega), if_pos h0]
      first | exact ⟨rfl, rfl⟩ | simp
    · refine ⟨[], false, by simp, fun k hk => ?_⟩
      unfold spec_FirstFewestJumps.f impl_FirstFewestJumps.f impl_counter.f
      rw [specFewest_eq h r c hl ha v hv k (by omega), areClimbed_eq h r c (by omega) k (by omega), ha, if_neg h0]
      simp only [Option.bind_some, if_true]
      rw [least_eq hh true r c _ (costs_counter h) v hv k (by omega), if_neg h0]
      first | exact ⟨rfl, rfl⟩ | simp
theorem FnExactFirstFewestJumps : laws_FnExactFirstFewestJumps.Pure := by
  intro l r c hl _ _ _ _
  unfold maxLen at hl
  by_cases h : (l.length : Int) > 1048576
  · exact ⟨0, by unfold laws_FnExactFirstFewestJumps.f; rw [if_pos h]⟩
  · obtain ⟨w, o, hw, hk⟩ := firstJumps_both l r c (by omega)
    have hs := fun k h => (hk k h).1
    have hi := fun k h => (hk k h).2
    refine ⟨l.length + 1600, ?_⟩
    unfold laws_FnExactFirstFewestJumps.f
    rw [if_neg h]
    simp (disch := omega) only [toIntS_eq, hs, hi, eqIntS_refl, Option.bind_some, bne_self_eq_false, Bool.false_eq_true, if_false, if_true]
    simp only [laws_FnExactFirstFewestJumps.j0]
    simp (disch := omega) only [toIntS_eq, eqIntS_refl, markIntS_eq, mark_lt, Option.bind_some, bne_self_eq_false, Bool.false_eq_true, if_false, if_true]
    simp only [laws_FnExactFirstFewestJumps.j1]
    simp (disch := omega) only [toIntS_eq, hi, eqIntS_refl, markIntS_eq, heldIntS_eq, mark_lt, Option.bind_some, bne_self_eq_false, Bool.false_eq_true, if_false, if_true]
    simp only [laws_FnExactFirstFewestJumps.j2]
    simp (disch := omega) only [heldIntS_eq, mark_lt, Option.bind_some, bne_self_eq_false, Bool.false_eq_true, if_false, if_true]
end Go.Proofs.Ytmppchecbcflgaa.Pure
