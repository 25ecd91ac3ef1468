/- The program's ClimbOf answers as the reference's, for all arguments, and leaves its lists as they were (lists of more than 2^20 numbers answer true at once). -/
import Derived.Test.YtoffojbcpnipmaaPuWay
import Derived.Test.YtoffojbcpnipmaaPrint12
namespace Go.Proofs.Ytoffojbcpnipmaa.Pure
open Go.RowKit Go.Proofs.Ytoffojbcpnipmaa.Print Go.Proofs.YtoffojbcpnipmaaW.PrintWords Go.Proofs.YtoffojbcpnipmaaW.PrintLast Go.Proofs.Ytoffojbcpnipmaa.Pu
set_option linter.unusedSimpArgs false
set_option linter.unusedVariables false
/-- How much the jump number j of a way climbs. -/
def stepDist (h w : List Int) (j : Nat) : Int := dist h (rd w (j : Int)) (rd w ((j : Int) + 1))
theorem stepDist_bounds {h w : List Int} (hh : heightsOk h = true) (ha : allIn w 0 ((h.length : Int) - 1) = true) (j : Nat) (hj : j + 1 < w.length) : 0 ≤ stepDist h w j ∧ stepDist h w j ≤ 50 := by
  have b0 := allIn_rd ha (j : Int) (by omega) (by omega)
  have b1 := allIn_rd ha ((j : Int) + 1) (by omega) (by omega)
  exact dist_bounds hh _ _ (by omega) (by omega) (by omega) (by omega)
theorem climb_impl {h : List Int} (hh : heightsOk h = true) (a : Int) (t : List Int) (hl : t.length ≤ 1048576) (ha : allIn (a :: t) 0 ((h.length : Int) - 1) = true) :
    ∀ (d j : Nat) (s : Int), j + d = t.length → 0 ≤ s → s ≤ 50 * j → ∀ k, d < k → impl_ClimbOf.l0 k h (a :: t) s t (t.length : Int) (j : Int) = some (s + sumP (stepDist h (a :: t)) j d, true) := by
  intro d
  induction d with
  | zero =>
    intro j s hj h0 h1 k hk
    obtain ⟨k, rfl⟩ : ∃ m, k = m + 1 := ⟨k - 1, by omega⟩
    simp only [impl_ClimbOf.l0]
    rw [if_neg (by omega), sumP, Int.add_zero]
  | succ d ih =>
    intro j s hj h0 h1 k hk
    obtain ⟨k, rfl⟩ : ∃ m, k = m + 1 := ⟨k - 1, by omega⟩
    have b0 := allIn_rd ha (j : Int) (by omega) (by simp; omega)
    have b1 := allIn_rd ha ((j : Int) + 1) (by omega) (by simp; omega)
    have hb := stepDist_bounds hh ha j (by simp; omega)
    have e1 : rd t (j : Int) = rd (a :: t) ((j : Int) + 1) := by
      rw [rd_get t j (by omega), show ((j : Int) + 1) = ((j + 1 : Nat) : Int) by omega, rd_get (a :: t) (j + 1) (by simp; omega)]; simp
    simp only [impl_ClimbOf.l0]
    rw [if_pos (by omega), if_pos (by omega), if_pos (by omega), if_pos (by simp; omega), e1, climbs_eq hh _ _ (by omega) (by omega) (by omega) (by omega)]
    simp only [Option.bind_some]
    have es : dist h (rd (a :: t) (j : Int)) (rd (a :: t) ((j : Int) + 1)) = stepDist h (a :: t) j := rfl
    rw [es, w64 (n := s + _) (by omega) (by omega), w64 (by omega) (by omega), show ((j : Int) + 1) = ((j + 1 : Nat) : Int) by omega, ih (j + 1) _ (by omega) (by omega) (by omega) k (by omega), sumP, Int.add_assoc]
theorem climb_spec {h : List Int} (hh : heightsOk h = true) (w : List Int) (hl : w.length ≤ 1048576) (ha : allIn w 0 ((h.length : Int) - 1) = true) :
    ∀ (d j : Nat) (s : Int), j + 1 + d = w.length → 0 ≤ s → s ≤ 50 * j → ∀ k, d < k → spec_ClimbOf.l0 k h w s ((j : Int) + 1) = some (s + sumP (stepDist h w) j d, true) := by
  intro d
  induction d with
  | zero =>
    intro j s hj h0 h1 k hk
    obtain ⟨k, rfl⟩ : ∃ m, k = m + 1 := ⟨k - 1, by omega⟩
    simp only [spec_ClimbOf.l0]
    rw [if_neg (by omega), sumP, Int.add_zero]
  | succ d ih =>
    intro j s hj h0 h1 k hk
    obtain ⟨k, rfl⟩ : ∃ m, k = m + 1 := ⟨k - 1, by omega⟩
    have b0 := allIn_rd ha (j : Int) (by omega) (by omega)
    have b1 := allIn_rd ha ((j : Int) + 1) (by omega) (by omega)
    have hb := stepDist_bounds hh ha j (by omega)
    simp only [spec_ClimbOf.l0]
    rw [if_pos (by omega), w64 (n := (j : Int) + 1 - 1) (by omega) (by omega), show ((j : Int) + 1 - 1) = (j : Int) by omega, if_pos (by omega), if_pos (by omega), if_pos (by omega), caClimb_eq hh _ _ (by omega) (by omega) (by omega) (by omega)]
    simp only [Option.bind_some]
    have es : dist h (rd w (j : Int)) (rd w ((j : Int) + 1)) = stepDist h w j := rfl
    rw [es, w64 (n := s + _) (by omega) (by omega), w64 (by omega) (by omega), show ((j : Int) + 1 + 1) = ((j + 1 : Nat) : Int) + 1 by omega, ih (j + 1) _ (by omega) (by omega) (by omega) k (by omega), sumP, Int.add_assoc]
theorem climb_both (h w : List Int) (hl : h.length ≤ 1048576) (hw : w.length ≤ 1048576) : ∃ p : Int × Bool, ∀ k, h.length + w.length + 4 < k → spec_ClimbOf.f k h w = some p ∧ impl_ClimbOf.f k h w = some p := by
  have bad : ∀ k, 0 < k → spec_ClimbOf.j0 k h w true = some (0, false) ∧ impl_ClimbOf.j0 k h w true = some (0, false) := by
    intro k hk
    obtain ⟨k, rfl⟩ : ∃ m, k = m + 1 := ⟨k - 1, by omega⟩
    simp only [spec_ClimbOf.j0, impl_ClimbOf.j0]; exact ⟨rfl, rfl⟩
  cases hh : heightsOk h with
  | false =>
    refine ⟨(0, false), fun k hk => ?_⟩
    unfold spec_ClimbOf.f impl_ClimbOf.f
    rw [caGood_eq h (by omega) k (by omega), areHeights_eq h (by omega) k (by omega), hh]
    exact bad k (by omega)
  | true =>
    cases hy : wayOk h 20 50 w with
    | false =>
      refine ⟨(0, false), fun k hk => ?_⟩
      unfold spec_ClimbOf.f impl_ClimbOf.f
      rw [caGood_eq h (by omega) k (by omega), areHeights_eq h (by omega) k (by omega), hh]
      simp only [Option.bind_some, if_true]
      rw [isWay_eq hh 20 50 w hw k (by omega), caWay_eq hh 20 50 w hw k (by omega), hy]
      exact bad k (by omega)
    | true =>
      cases w with
      | nil => cases hy
      | cons a t =>
        have ha : allIn (a :: t) 0 ((h.length : Int) - 1) = true := by
          unfold wayOk at hy; rw [Bool.and_eq_true] at hy; exact hy.1
        have hln : t.length + 1 ≤ 1048576 := by simpa using hw
        refine ⟨(0 + sumP (stepDist h (a :: t)) 0 t.length, true), fun k hk => ?_⟩
        have hkn : h.length + t.length + 5 < k := by simp at hk; omega
        unfold spec_ClimbOf.f impl_ClimbOf.f
        rw [caGood_eq h (by omega) k (by omega), areHeights_eq h (by omega) k (by omega), hh]
        simp only [Option.bind_some, if_true]
        rw [isWay_eq hh 20 50 (a :: t) hw k (by simp; omega), caWay_eq hh 20 50 (a :: t) hw k (by simp; omega), hy]
        obtain ⟨k, rfl⟩ : ∃ m, k = m + 1 := ⟨k - 1, by omega⟩
        simp only [Option.bind_some, Bool.not_true, spec_ClimbOf.j0, impl_ClimbOf.j0, Bool.false_eq_true, if_false]
        rw [if_pos (by simp; omega)]
        simp only [List.drop_succ_cons, List.drop_zero, Option.bind_some]
        have h1 := climb_spec hh (a :: t) hw ha t.length 0 0 (by simp; omega) (by omega) (by omega) k (by omega)
        have h2 := climb_impl hh a t (by omega) ha t.length 0 0 (by omega) (by omega) (by omega) k (by omega)
        exact ⟨by simpa using h1, by simpa using h2⟩
theorem FnExactClimbOf : laws_FnExactClimbOf.Pure := by
  intro h w hh _ _ hw _ _
  unfold maxLen at hh hw
  by_cases e : (h.length : Int) > 1048576
  · exact ⟨0, by unfold laws_FnExactClimbOf.f; rw [if_pos e]⟩
  · by_cases e2 : (w.length : Int) > 1048576
    · exact ⟨0, by unfold laws_FnExactClimbOf.f; rw [if_neg e, if_pos e2]⟩
    · obtain ⟨p, hp⟩ := climb_both h w (by omega) (by omega)
      have hs := fun k z => (hp k z).1
      have hi := fun k z => (hp k z).2
      refine ⟨h.length + w.length + 7, ?_⟩
      unfold laws_FnExactClimbOf.f
      rw [if_neg e, if_neg e2]
      simp (disch := omega) only [toIntS_eq, hs, hi, Option.bind_some, bne_self_eq_false, Bool.false_eq_true, if_false, if_true]
      simp only [laws_FnExactClimbOf.j0]
      simp (disch := omega) only [toIntS_eq, eqIntS_refl, Option.bind_some, Bool.false_eq_true, if_false, if_true]
end Go.Proofs.Ytoffojbcpnipmaa.Pure
