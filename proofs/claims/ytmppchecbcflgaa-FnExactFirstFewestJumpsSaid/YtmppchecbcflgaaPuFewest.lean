/- What the printed FewestJumps of the reference computes. -/
import Derived.Test.YtmppchecbcflgaaPuLeft
import Derived.Test.YtmppchecbcflgaaPrint26
namespace Go.Proofs.Ytmppchecbcflgaa.Pu
open Go.RowKit Go.Proofs.Ytmppchecbcflgaa.Print Go.Proofs.YtmppchecbcflgaaW.PrintWords Go.Proofs.YtmppchecbcflgaaW.PrintLast
set_option linter.unusedSimpArgs false
set_option linter.unusedVariables false
theorem specFewest_bad (h : List Int) (r c : Int) (hl : h.length ≤ 1048576) (ha : (heightsOk h && decide (1 ≤ r ∧ r ≤ 20) && decide (0 ≤ c ∧ c ≤ 50)) = false) (k : Nat) (hk : h.length < k) : spec_FewestJumps.f k h r c = some (0, false) := by
  unfold spec_FewestJumps.f
  rw [caAsked_eq h r c (by omega) k (by omega), ha]
  rfl
theorem specFewest_eq (h : List Int) (r c : Int) (hl : h.length ≤ 1048576) (ha : (heightsOk h && decide (1 ≤ r ∧ r ≤ 20) && decide (0 ≤ c ∧ c ≤ 50)) = true) (v : Nat → Int) (hv : IsLeft true h r c v) (k : Nat) (hk : h.length + 1300 < k) : spec_FewestJumps.f k h r c = some (if 0 ≤ v 0 then (v 0, true) else (0, false)) := by
  have hh : heightsOk h = true := by
    rw [Bool.and_eq_true, Bool.and_eq_true] at ha; exact ha.1.1
  have hn := ((heightsOk_iff h).1 hh).1
  unfold spec_FewestJumps.f
  rw [caAsked_eq h r c (by omega) k (by omega), ha]
  simp only [Option.bind_some, if_true]
  rw [caLeft_eq hh true r c v hv k (by omega)]
  simp only [Option.bind_some, tab_length]
  have hr := rd_tab v h.length 0 (by omega)
  simp only [Int.natCast_zero] at hr
  rw [if_pos (by omega), hr]
  by_cases e : 0 ≤ v 0
  · rw [if_pos e, if_neg (by omega)]
  · rw [if_neg e, if_pos (by omega)]
end Go.Proofs.Ytmppchecbcflgaa.Pu
