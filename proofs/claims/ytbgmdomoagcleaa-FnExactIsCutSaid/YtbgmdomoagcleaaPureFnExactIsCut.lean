/- The program's IsCut answers as the reference's, for all arguments, and leaves its lists as they were (lists of more than 2^20 numbers answer true at once). -/
import Derived.Test.YtbgmdomoagcleaaPuRests
import Derived.Test.YtbgmdomoagcleaaPrint31
namespace Go.Proofs.Ytbgmdomoagcleaa.Pure
open Go.RowKit Go.Proofs.Ytbgmdomoagcleaa.Print Go.Proofs.YtbgmdomoagcleaaW.PrintWords Go.Proofs.YtbgmdomoagcleaaW.PrintLast Go.Proofs.Ytbgmdomoagcleaa.Pu
set_option linter.unusedSimpArgs false
set_option linter.unusedVariables false
theorem isCut_both (R : List Int) (b : Int) (C : List Int) (hl : R.length ≤ 1048576) (hc : C.length ≤ 1048576) : ∃ p : Bool × Bool, ∀ k, R.length + C.length + 400 < k → spec_IsCut.f k R b C = some p ∧ impl_IsCut.f k R b C = some p := by
  cases ha : barredOk R b with
  | false =>
    refine ⟨(false, false), fun k hk => ?_⟩
    unfold spec_IsCut.f impl_IsCut.f
    rw [areBarred_eq R b hl k (by omega), poGood_eq R hl k (by omega), poLong_eq, ha]
    refine ⟨?_, rfl⟩
    unfold barredOk at ha
    simp only [Option.bind_some]
    cases h1 : (decide (1 ≤ R.length ∧ R.length ≤ 8) && allIn R 1 500) with
    | false => rfl
    | true =>
      rw [h1, Bool.true_and] at ha
      rw [ha]; rfl
  | true =>
    have hb := ha
    unfold barredOk at hb
    rw [Bool.and_eq_true] at hb
    by_cases hs : C.length = R.length
    · refine ⟨((cutRests b R C).2, true), fun k hk => ?_⟩
      have hcut := barred_cutting ha hs
      unfold spec_IsCut.f impl_IsCut.f spec_poIs.f
      rw [areBarred_eq R b hl k (by omega), poGood_eq R hl k (by omega), poLong_eq, ha, hb.1, hb.2, if_pos (by omega), poRests_eq hcut k (by omega), rests_eq hcut k (by omega)]
      exact ⟨rfl, rfl⟩
    · refine ⟨(false, true), fun k hk => ?_⟩
      unfold spec_IsCut.f impl_IsCut.f spec_poIs.f impl_rests.f
      obtain ⟨k, rfl⟩ : ∃ m, k = m + 1 := ⟨k - 1, by omega⟩
      rw [areBarred_eq R b hl _ (by omega), poGood_eq R hl _ (by omega), poLong_eq, ha, hb.1, hb.2, if_neg (by omega), if_neg (by omega)]
      simp only [impl_rests.j0]
      exact ⟨rfl, rfl⟩
theorem FnExactIsCut : laws_FnExactIsCut.Pure := by
  intro h r w hh _ _ _ hw _ _
  unfold maxLen at hh hw
  by_cases e : (h.length : Int) > 1048576
  · exact ⟨0, by unfold laws_FnExactIsCut.f; rw [if_pos e]⟩
  · by_cases e2 : (w.length : Int) > 1048576
    · exact ⟨0, by unfold laws_FnExactIsCut.f; rw [if_neg e, if_pos e2]⟩
    · obtain ⟨p, hp⟩ := isCut_both h r w (by omega) (by omega)
      have hs := fun k z => (hp k z).1
      have hi := fun k z => (hp k z).2
      refine ⟨h.length + w.length + 405, ?_⟩
      unfold laws_FnExactIsCut.f
      rw [if_neg e, if_neg e2]
      simp (disch := omega) only [toIntS_eq, hs, hi, Option.bind_some, bne_self_eq_false, Bool.false_eq_true, if_false]
      simp only [laws_FnExactIsCut.j0]
      simp (disch := omega) only [toIntS_eq, eqIntS_refl, Option.bind_some, Bool.false_eq_true, if_false, if_true]
end Go.Proofs.Ytbgmdomoagcleaa.Pure
