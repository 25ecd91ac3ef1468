/- The program's EasiestClimb answers as the reference's, for all arguments, and leaves its list as it was. -/
import Derived.Test.YtmppchecbcflgaaPuLeft
import Derived.Test.YtmppchecbcflgaaPrint25
namespace Go.Proofs.Ytmppchecbcflgaa.Pure
open Go.RowKit Go.Proofs.Ytmppchecbcflgaa.Print Go.Proofs.YtmppchecbcflgaaW.PrintWords Go.Proofs.YtmppchecbcflgaaW.PrintLast Go.Proofs.Ytmppchecbcflgaa.Pu
set_option linter.unusedSimpArgs false
set_option linter.unusedVariables false
theorem easiest_loop {h : List Int} (hh : heightsOk h = true) (r : Int) (hr : 1 ≤ r) : ∀ (d c : Nat), c + d = 50 → ∃ p : Int × Bool, ∀ k, 1300 + d < k → spec_EasiestClimb.l0 k h r (c : Int) = some p ∧ impl_EasiestClimb.l0 k h r (c : Int) = some p := by
  have hn := ((heightsOk_iff h).1 hh).1
  intro d
  induction d with
  | zero =>
    intro c hc
    have : c = 50 := by omega
    subst this
    obtain ⟨v, hv⟩ := left_exists true h r 50
    have h0 := left_easy hh hr hv (h.length - 1) 0 (by omega)
    refine ⟨(50, true), fun k hk => ?_⟩
    obtain ⟨k, rfl⟩ : ∃ m, k = m + 1 := ⟨k - 1, by omega⟩
    simp only [spec_EasiestClimb.l0, impl_EasiestClimb.l0, impl_counter.f, Option.bind_some]
    rw [show ((50 : Nat) : Int) = 50 from rfl, least_eq hh true r 50 _ (costs_counter h) v hv k (by omega), caLeft_eq hh true r 50 v hv k (by omega), if_pos h0]
    simp only [Option.bind_some, tab_length]
    have hr := rd_tab v h.length 0 (by omega)
    simp only [Int.natCast_zero] at hr
    rw [if_pos (by omega), hr, if_neg (by omega)]
    first | exact ⟨rfl, rfl⟩ | simp
  | succ d ih =>
    intro c hc
    obtain ⟨v, hv⟩ := left_exists true h r c
    have hr := rd_tab v h.length 0 (by omega)
    simp only [Int.natCast_zero] at hr
    by_cases h0 : 0 ≤ v 0
    · refine ⟨(c, true), fun k hk => ?_⟩
      obtain ⟨k, rfl⟩ : ∃ m, k = m + 1 := ⟨k - 1, by omega⟩
      simp only [spec_EasiestClimb.l0, impl_EasiestClimb.l0, impl_counter.f, Option.bind_some]
      rw [least_eq hh true r c _ (costs_counter h) v hv k (by omega), caLeft_eq hh true r c v hv k (by omega), if_pos h0]
      simp only [Option.bind_some, tab_length]
      rw [if_pos (by omega), hr, if_neg (by omega)]
      first | exact ⟨rfl, rfl⟩ | simp
    · obtain ⟨p, hp⟩ := ih (c + 1) (by omega)
      refine ⟨p, fun k hk => ?_⟩
      obtain ⟨k, rfl⟩ : ∃ m, k = m + 1 := ⟨k - 1, by omega⟩
      simp only [spec_EasiestClimb.l0, impl_EasiestClimb.l0, impl_counter.f, Option.bind_some]
      rw [least_eq hh true r c _ (costs_counter h) v hv k (by omega), caLeft_eq hh true r c v hv k (by omega), if_neg h0]
      simp only [Option.bind_some, tab_length]
      rw [if_pos (by omega), hr, if_pos (by omega), if_neg (by simp), w64 (by omega) (by omega), show (c : Int) + 1 = ((c + 1 : Nat) : Int) by omega]
      exact hp k (by omega)
theorem easiest_both (h : List Int) (r : Int) (hl : h.length ≤ 1048576) : ∃ p : Int × Bool, ∀ k, h.length + 1400 < k → spec_EasiestClimb.f k h r = some p ∧ impl_EasiestClimb.f k h r = some p := by
  cases ha : (heightsOk h && decide (1 ≤ r ∧ r ≤ 20)) with
  | false =>
    refine ⟨(0, false), fun k hk => ?_⟩
    unfold spec_EasiestClimb.f impl_EasiestClimb.f
    rw [caReach_eq h r (by omega) k (by omega), areJumped_eq h r (by omega) k (by omega), ha]
    first | exact ⟨rfl, rfl⟩ | simp
  | true =>
    have hb := ha
    rw [Bool.and_eq_true, decide_eq_true_eq] at hb
    obtain ⟨p, hp⟩ := easiest_loop hb.1 r hb.2.1 50 0 rfl
    refine ⟨p, fun k hk => ?_⟩
    unfold spec_EasiestClimb.f impl_EasiestClimb.f
    rw [caReach_eq h r (by omega) k (by omega), areJumped_eq h r (by omega) k (by omega), ha]
    simp only [Option.bind_some, if_true]
    exact hp k (by omega)
theorem FnExactEasiestClimb : laws_FnExactEasiestClimb.Pure := by
  intro h r hh _ _ _
  unfold maxLen at hh
  by_cases e : (h.length : Int) > 1048576
  · exact ⟨0, by unfold laws_FnExactEasiestClimb.f; rw [if_pos e]⟩
  · obtain ⟨p, hp⟩ := easiest_both h r (by omega)
    have hs := fun k z => (hp k z).1
    have hi := fun k z => (hp k z).2
    refine ⟨h.length + 1405, ?_⟩
    unfold laws_FnExactEasiestClimb.f
    rw [if_neg e]
    simp (disch := omega) only [toIntS_eq, hs, hi, Option.bind_some, bne_self_eq_false, Bool.false_eq_true, if_false, if_true]
    simp only [laws_FnExactEasiestClimb.j0]
    simp (disch := omega) only [toIntS_eq, eqIntS_refl, Option.bind_some, Bool.false_eq_true, if_false, if_true]
end Go.Proofs.Ytmppchecbcflgaa.Pure
