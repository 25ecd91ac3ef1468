/- The program's CountWithLongest answers as the reference's, for every three numbers. -/
import Derived.Test.YtbgmdomoagcleaaPuCounts
import Derived.Test.YtbgmdomoagcleaaPrint3
namespace Go.Proofs.Ytbgmdomoagcleaa.Pure
open Go.RowKit Go.Proofs.Ytbgmdomoagcleaa.Print Go.Proofs.YtbgmdomoagcleaaW.PrintWords Go.Proofs.YtbgmdomoagcleaaW.PrintLast Go.Proofs.Ytbgmdomoagcleaa.Pu
set_option linter.unusedSimpArgs false
set_option linter.unusedVariables false
theorem longest_both (b m o : Int) : ∃ p : Int × Bool, ∀ k, 30000 < k → spec_CountWithLongest.f k b m o = some p ∧ impl_CountWithLongest.f k b m o = some p := by
  have bad : ∀ k, 0 < k → impl_CountWithLongest.j0 k b m o true = some (0, false) := by
    intro k hk
    obtain ⟨k, rfl⟩ : ∃ m, k = m + 1 := ⟨k - 1, by omega⟩
    simp only [impl_CountWithLongest.j0]; rfl
  by_cases h1 : (2 ≤ b ∧ b ≤ 40) ∧ (0 ≤ m ∧ m ≤ 10)
  · by_cases h2 : 1 ≤ o ∧ o ≤ 40
    · obtain ⟨many, rfl⟩ := Int.eq_ofNat_of_zero_le h1.2.1
      obtain ⟨mo, rfl⟩ := Int.eq_ofNat_of_zero_le (show 0 ≤ o by omega)
      obtain ⟨n, hn⟩ : ∃ n : Nat, b = (n : Int) - 1 := ⟨(b + 1).toNat, by omega⟩
      refine ⟨(rd (rowsAfter mo n (many + 1) (row0 n)) b, true), fun k hk => ?_⟩
      unfold spec_CountWithLongest.f impl_CountWithLongest.f
      rw [gaMany_eq, isMany_eq, decide_eq_true h1.1, decide_eq_true h1.2]
      obtain ⟨k, rfl⟩ : ∃ m, k = m + 1 := ⟨k - 1, by omega⟩
      have e1 : wrap64 (b + 1) = (n : Int) := by rw [w64 (by omega) (by omega)]; omega
      simp only [Bool.and_self, Option.bind_some, if_true, l1In_eq, within_eq, decide_eq_true h2, Bool.not_true, impl_CountWithLongest.j0, Bool.false_eq_true, if_false]
      rw [gaWays_eq b many mo n hn (by omega) (by omega) (by omega) (by omega) (k + 1) (by omega), e1, if_pos (by omega), if_pos (by omega), Int.toNat_natCast, if_pos (by simp; omega), w64 (n := (many : Int) + 1) (by omega) (by omega)]
      refine ⟨rfl, ?_⟩
      have := longest_l0 b many mo n hn (by omega) (by omega) (by omega) (by omega) (many + 1) 0 (row0 n) (row0_length n) (by omega) k (by omega)
      exact this
    · refine ⟨(0, false), fun k hk => ?_⟩
      unfold spec_CountWithLongest.f impl_CountWithLongest.f
      rw [gaMany_eq, isMany_eq, decide_eq_true h1.1, decide_eq_true h1.2]
      simp only [Bool.and_self, Option.bind_some, if_true, l1In_eq, within_eq, decide_eq_false h2, Bool.not_false, Bool.false_eq_true, if_false, bad k (by omega)]
      exact ⟨trivial, trivial⟩
  · refine ⟨(0, false), fun k hk => ?_⟩
    have hf : (decide (2 ≤ b ∧ b ≤ 40) && decide (0 ≤ m ∧ m ≤ 10)) = false := by
      rw [← Bool.not_eq_true, Bool.and_eq_true, decide_eq_true_eq, decide_eq_true_eq]; exact h1
    unfold spec_CountWithLongest.f impl_CountWithLongest.f
    rw [gaMany_eq, isMany_eq, hf]
    exact ⟨rfl, bad k (by omega)⟩
theorem FnExactCountWithLongest : laws_FnExactCountWithLongest.Pure := by
  intro b m o _ _ _
  obtain ⟨p, hk⟩ := longest_both b m o
  refine ⟨30001, ?_⟩
  unfold laws_FnExactCountWithLongest.f
  rw [(hk 30001 (by omega)).1, (hk 30001 (by omega)).2]
  simp only [Option.bind_some, bne_self_eq_false, Bool.false_eq_true, if_false, if_true]
end Go.Proofs.Ytbgmdomoagcleaa.Pure
