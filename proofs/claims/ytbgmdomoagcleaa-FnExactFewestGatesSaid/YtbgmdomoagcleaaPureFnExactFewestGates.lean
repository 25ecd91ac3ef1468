/- The program's FewestGates answers as the reference's, for every two numbers. -/
import Derived.Test.YtbgmdomoagcleaaPuGates
import Derived.Test.YtbgmdomoagcleaaPrint1
namespace Go.Proofs.Ytbgmdomoagcleaa.Pure
open Go.RowKit Go.Proofs.Ytbgmdomoagcleaa.Print Go.Proofs.YtbgmdomoagcleaaW.PrintWords Go.Proofs.YtbgmdomoagcleaaW.PrintLast Go.Proofs.Ytbgmdomoagcleaa.Pu
theorem FnExactFewestGates : laws_FnExactFewestGates.Pure := by
  intro b m _ _
  unfold laws_FnExactFewestGates.f spec_FewestGates.f impl_FewestGates.f impl_up.f
  simp only [isRow_eq, gaBoards_eq, within_eq, l1In_eq, Option.bind_some]
  by_cases h : 2 ≤ b ∧ b ≤ 40
  · by_cases h2 : 1 ≤ m ∧ m ≤ 40
    · simp only [decide_eq_true h, decide_eq_true h2, if_true, if_neg (show ¬ m = 0 by omega), Option.bind_some]
      have e1 : wrap64 (wrap64 (b + m) - 1) = (b - 1) + m := by rw [w64 (n := b + m) (by omega) (by omega), w64 (by omega) (by omega)]; omega
      have e2 : wrap64 (b - 1) = b - 1 := w64 (by omega) (by omega)
      rw [e1, e2, Int.tdiv_eq_ediv_of_nonneg (by omega), Int.tdiv_eq_ediv_of_nonneg (by omega), Int.add_ediv_of_dvd_right (Int.dvd_refl m), Int.ediv_self (by omega)]
      have b1 : 0 ≤ (b - 1) / m := Int.ediv_nonneg (by omega) (by omega)
      have b2 : (b - 1) / m ≤ b - 1 := Int.ediv_le_self _ (by omega)
      rw [w64 (n := (b - 1) / m + 1) (by omega) (by omega), w64 (n := (b - 1) / m) (by omega) (by omega), w64 (by omega) (by omega)]
      rw [if_pos (by omega)]; rfl
    · simp only [decide_eq_true h, decide_eq_false h2, if_true]; rfl
  · simp only [decide_eq_false h]; rfl
end Go.Proofs.Ytbgmdomoagcleaa.Pure
