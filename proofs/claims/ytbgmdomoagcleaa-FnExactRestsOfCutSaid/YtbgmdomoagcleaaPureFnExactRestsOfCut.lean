/- The program's RestsOfCut answers as the reference's, for all arguments; its result is new memory and a second call answers the same. -/
import Derived.Test.YtbgmdomoagcleaaPuRests
import Derived.Test.YtbgmdomoagcleaaPuMarks
import Derived.Test.YtbgmdomoagcleaaPrint35
namespace Go.Proofs.Ytbgmdomoagcleaa.Pure
open Go.RowKit Go.Proofs.Ytbgmdomoagcleaa.Print Go.Proofs.YtbgmdomoagcleaaW.PrintWords Go.Proofs.YtbgmdomoagcleaaW.PrintLast Go.Proofs.Ytbgmdomoagcleaa.Pu
set_option linter.unusedSimpArgs false
set_option linter.unusedVariables false
theorem restsOf_both (R : List Int) (b : Int) (C : List Int) (hl : R.length ≤ 1048576) (hc : C.length ≤ 1048576) : ∃ (w : List Int) (o : Bool), w.length ≤ 100 ∧ ∀ k, R.length + C.length + 400 < k → spec_RestsOfCut.f k R b C = some (w, o) ∧ impl_RestsOfCut.f k R b C = some (w, o) := by
  cases ha : barredOk R b with
  | false =>
    refine ⟨[], false, by simp, fun k hk => ?_⟩
    unfold spec_RestsOfCut.f impl_RestsOfCut.f
    rw [areBarred_eq R b hl k (by omega), poGood_eq R hl k (by omega), poLong_eq, ha]
    refine ⟨?_, rfl⟩
    unfold barredOk at ha
    simp only [Option.bind_some]
    cases h1 : (decide (1 ≤ R.length ∧ R.length ≤ 8) && allIn R 1 500) with
    | false => rfl
    | true =>
      rw [h1, Bool.true_and] at ha
      rw [ha]; rfl
  | true =>
    have hb := ha
    unfold barredOk at hb
    rw [Bool.and_eq_true] at hb
    by_cases hs : C.length = R.length
    · have hcut := barred_cutting ha hs
      have hlen := cutRests_length hcut
      refine ⟨(cutRests b R C).1, (cutRests b R C).2, by omega, fun k hk => ?_⟩
      unfold spec_RestsOfCut.f impl_RestsOfCut.f spec_poIs.f
      rw [areBarred_eq R b hl k (by omega), poGood_eq R hl k (by omega), poLong_eq, ha, hb.1, hb.2, if_pos (by omega), poRests_eq hcut k (by omega), rests_eq hcut k (by omega)]
      simp only [Option.bind_some, if_true]
      refine ⟨?_, trivial⟩
      unfold cutRests rested
      split
      · split <;> rfl
      · rfl
    · refine ⟨[], false, by simp, fun k hk => ?_⟩
      unfold spec_RestsOfCut.f impl_RestsOfCut.f spec_poIs.f impl_rests.f
      obtain ⟨k, rfl⟩ : ∃ m, k = m + 1 := ⟨k - 1, by omega⟩
      rw [areBarred_eq R b hl _ (by omega), poGood_eq R hl _ (by omega), poLong_eq, ha, hb.1, hb.2, if_neg (by omega), if_neg (by omega)]
      simp only [impl_rests.j0]
      exact ⟨rfl, rfl⟩
theorem FnExactRestsOfCut : laws_FnExactRestsOfCut.Pure := by
  intro h r c hh _ _ _ hw _ _
  unfold maxLen at hh hw
  by_cases e : (h.length : Int) > 1048576
  · exact ⟨0, by unfold laws_FnExactRestsOfCut.f; rw [if_pos e]⟩
  · by_cases e2 : (c.length : Int) > 1048576
    · exact ⟨0, by unfold laws_FnExactRestsOfCut.f; rw [if_neg e, if_pos e2]⟩
    · obtain ⟨w, o, hwl, hp⟩ := restsOf_both h r c (by omega) (by omega)
      have hs := fun k z => (hp k z).1
      have hi := fun k z => (hp k z).2
      refine ⟨h.length + c.length + 600, ?_⟩
      unfold laws_FnExactRestsOfCut.f
      rw [if_neg e, if_neg e2]
      simp (disch := omega) only [toIntS_eq, hs, hi, eqIntS_refl, Option.bind_some, bne_self_eq_false, Bool.false_eq_true, if_false, if_true]
      simp only [laws_FnExactRestsOfCut.j0]
      simp (disch := omega) only [toIntS_eq, eqIntS_refl, markIntS_eq, mark_lt2, Option.bind_some, bne_self_eq_false, Bool.false_eq_true, if_false, if_true]
      simp only [laws_FnExactRestsOfCut.j1]
      simp (disch := omega) only [toIntS_eq, hi, eqIntS_refl, markIntS_eq, heldIntS_eq, mark_lt, Option.bind_some, bne_self_eq_false, Bool.false_eq_true, if_false, if_true]
      simp only [laws_FnExactRestsOfCut.j2]
      simp (disch := omega) only [heldIntS_eq, mark_lt, Option.bind_some, bne_self_eq_false, Bool.false_eq_true, if_false, if_true]
end Go.Proofs.Ytbgmdomoagcleaa.Pure
