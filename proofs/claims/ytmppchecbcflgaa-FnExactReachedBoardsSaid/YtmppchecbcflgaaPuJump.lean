/- What jumps, climbs, areJumped and caReach, areClimbed and caAsked compute: for both the same. -/
import Derived.Test.YtmppchecbcflgaaPuHeights
import Derived.Test.YtmppchecbcflgaaPuColl
import Derived.Test.YtmppchecbcflgaaPrint7
import Derived.Test.YtmppchecbcflgaaPrint2
import Derived.Test.YtmppchecbcflgaaPrint8
import Derived.Test.YtmppchecbcflgaaPrint3
namespace Go.Proofs.Ytmppchecbcflgaa.Pu
open Go.RowKit Go.Proofs.Ytmppchecbcflgaa.Print Go.Proofs.YtmppchecbcflgaaW.PrintWords Go.Proofs.YtmppchecbcflgaaW.PrintLast Go.Proofs.YtmppchecbcflgaaW.PrintMore
set_option linter.unusedSimpArgs false
set_option linter.unusedVariables false

theorem heightsOk_iff (h : List Int) : heightsOk h = true ↔ (1 ≤ h.length ∧ h.length ≤ 20) ∧ allIn h 0 50 = true := by
  unfold heightsOk; rw [Bool.and_eq_true, decide_eq_true_eq]
/-- How much a jump climbs. -/
def dist (h : List Int) (a b : Int) : Int := if rd h a < rd h b then rd h b - rd h a else rd h a - rd h b
theorem dist_bounds {h : List Int} (hh : heightsOk h = true) (a b : Int) (a0 : 0 ≤ a) (a1 : a < (h.length : Int)) (b0 : 0 ≤ b) (b1 : b < (h.length : Int)) : 0 ≤ dist h a b ∧ dist h a b ≤ 50 := by
  have ha := allIn_rd ((heightsOk_iff h).1 hh).2 a a0 a1
  have hb := allIn_rd ((heightsOk_iff h).1 hh).2 b b0 b1
  unfold dist; split <;> omega
theorem climbs_eq {h : List Int} (hh : heightsOk h = true) (a b : Int) (a0 : 0 ≤ a) (a1 : a < (h.length : Int)) (b0 : 0 ≤ b) (b1 : b < (h.length : Int)) : impl_climbs.f h a b = some (dist h a b) := by
  have ha := allIn_rd ((heightsOk_iff h).1 hh).2 a a0 a1
  have hb := allIn_rd ((heightsOk_iff h).1 hh).2 b b0 b1
  unfold impl_climbs.f impl_size.f dist
  rw [if_pos a0, if_pos a1, if_pos b0, if_pos b1, w64 (n := rd h a - rd h b) (by omega) (by omega), w64 (by omega) (by omega)]
  simp only [Option.bind_some, Option.some.injEq]
  unfold mx
  split <;> split <;> omega
theorem caClimb_eq {h : List Int} (hh : heightsOk h = true) (a b : Int) (a0 : 0 ≤ a) (a1 : a < (h.length : Int)) (b0 : 0 ≤ b) (b1 : b < (h.length : Int)) : spec_caClimb.f h a b = some (dist h a b) := by
  have ha := allIn_rd ((heightsOk_iff h).1 hh).2 a a0 a1
  have hb := allIn_rd ((heightsOk_iff h).1 hh).2 b b0 b1
  unfold spec_caClimb.f spec_l1Abs.f spec_l1Most.f dist
  rw [if_pos a0, if_pos a1, if_pos b0, if_pos b1, w64 (n := rd h a - rd h b) (by omega) (by omega), w64 (by omega) (by omega)]
  split <;> split <;> simp only [Option.bind_some, Option.some.injEq] <;> omega
/-- Is a jump allowed? -/
def jumpOk (h : List Int) (r c a b : Int) : Bool := decide (1 ≤ b - a ∧ b - a ≤ r) && decide (dist h a b ≤ c)
theorem caJump_eq {h : List Int} (hh : heightsOk h = true) (r c a b : Int) (a0 : 0 ≤ a) (a1 : a < (h.length : Int)) (b0 : 0 ≤ b) (b1 : b < (h.length : Int)) : spec_caJump.f h r c a b = some (jumpOk h r c a b) := by
  have hl := ((heightsOk_iff h).1 hh).1
  unfold spec_caJump.f jumpOk
  rw [w64 (by omega) (by omega), caClimb_eq hh a b a0 a1 b0 b1]
  by_cases h1 : b > a
  · rw [if_pos h1]
    by_cases h2 : b - a ≤ r
    · rw [if_pos h2, decide_eq_true (show 1 ≤ b - a ∧ b - a ≤ r by omega)]; rfl
    · rw [if_neg h2, decide_eq_false (show ¬ (1 ≤ b - a ∧ b - a ≤ r) by omega)]; rfl
  · rw [if_neg h1, decide_eq_false (show ¬ (1 ≤ b - a ∧ b - a ≤ r) by omega)]; rfl
theorem areJumped_eq (h : List Int) (r : Int) (hl : h.length ≤ 4611686018427387904) (k : Nat) (hk : h.length < k) : impl_areJumped.f k h r = some (heightsOk h && decide (1 ≤ r ∧ r ≤ 20)) := by
  unfold impl_areJumped.f
  rw [areHeights_eq h hl k hk, within_eq]
  cases heightsOk h <;> rfl
theorem caReach_eq (h : List Int) (r : Int) (hl : h.length ≤ 4611686018427387904) (k : Nat) (hk : h.length < k) : spec_caReach.f k h r = some (heightsOk h && decide (1 ≤ r ∧ r ≤ 20)) := by
  unfold spec_caReach.f
  rw [caGood_eq h hl k hk, l1In_eq]
  cases heightsOk h <;> rfl
theorem areClimbed_eq (h : List Int) (r c : Int) (hl : h.length ≤ 4611686018427387904) (k : Nat) (hk : h.length < k) : impl_areClimbed.f k h r c = some (heightsOk h && decide (1 ≤ r ∧ r ≤ 20) && decide (0 ≤ c ∧ c ≤ 50)) := by
  unfold impl_areClimbed.f
  rw [areJumped_eq h r hl k hk, within_eq, Option.bind_some]
  cases (heightsOk h && decide (1 ≤ r ∧ r ≤ 20)) <;> rfl
theorem caAsked_eq (h : List Int) (r c : Int) (hl : h.length ≤ 4611686018427387904) (k : Nat) (hk : h.length < k) : spec_caAsked.f k h r c = some (heightsOk h && decide (1 ≤ r ∧ r ≤ 20) && decide (0 ≤ c ∧ c ≤ 50)) := by
  unfold spec_caAsked.f
  rw [caReach_eq h r hl k hk, l1In_eq, Option.bind_some]
  cases (heightsOk h && decide (1 ≤ r ∧ r ≤ 20)) <;> rfl
end Go.Proofs.Ytmppchecbcflgaa.Pu
