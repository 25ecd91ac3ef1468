/- What the printed AreHeights (of the program and of the reference) compute: one Bool, for both the same. -/
import Derived.Test.YtmppchecbcflgaaPuBase
import Derived.Test.YtmppchecbcflgaaPrint7
import Derived.Test.YtmppchecbcflgaaPrint3
namespace Go.Proofs.Ytmppchecbcflgaa.Pu
open Go.RowKit Go.Proofs.Ytmppchecbcflgaa.Print Go.Proofs.YtmppchecbcflgaaW.PrintWords Go.Proofs.YtmppchecbcflgaaW.PrintLast
set_option linter.unusedSimpArgs false
set_option linter.unusedVariables false

def heightsOk (l : List Int) : Bool := decide (1 ≤ l.length ∧ l.length ≤ 20) && allIn l 0 50
theorem areHeights_eq (l : List Int) (hl : l.length ≤ 4611686018427387904) (k : Nat) (hk : l.length < k) : impl_AreHeights.f k l = some (heightsOk l) := by
  unfold impl_AreHeights.f heightsOk
  rw [within_eq, Option.bind_some, allWithin_eq l 0 50 hl k hk]
  by_cases h : 1 ≤ l.length ∧ l.length ≤ 20
  · rw [if_pos (decide_eq_true (by omega))]; simp [h]
  · rw [if_neg (by rw [decide_eq_true_eq]; omega)]; simp [h]
theorem caGood_eq (l : List Int) (hl : l.length ≤ 4611686018427387904) (k : Nat) (hk : l.length < k) : spec_caGood.f k l = some (heightsOk l) := by
  unfold spec_caGood.f heightsOk
  rw [l1In_eq, Option.bind_some, l1All_eq l 0 50 hl k hk]
  by_cases h : 1 ≤ l.length ∧ l.length ≤ 20
  · rw [if_pos (decide_eq_true (by omega))]; simp [h]
  · rw [if_neg (by rw [decide_eq_true_eq]; omega)]; simp [h]
end Go.Proofs.Ytmppchecbcflgaa.Pu
