/- The program's SeenFromLeft answers as the reference's, for every list; its result is new memory and a second call answers the same (lists of more than 2^20 numbers answer true at once). -/
import Derived.Test.YtoffojbcpnipmaaPuHeights
import Derived.Test.YtoffojbcpnipmaaPuMarks
import Derived.Test.YtoffojbcpnipmaaPrint3
namespace Go.Proofs.Ytoffojbcpnipmaa.Pure
open Go.RowKit Go.Proofs.Ytoffojbcpnipmaa.Print Go.Proofs.YtoffojbcpnipmaaW.PrintWords Go.Proofs.YtoffojbcpnipmaaW.PrintLast Go.Proofs.Ytoffojbcpnipmaa.Pu
set_option linter.unusedSimpArgs false
set_option linter.unusedVariables false
theorem sfl_same : ∀ (k : Nat) (o : List Int) (m : Int) (l : List Int) (n j : Int), impl_SeenFromLeft.l0 k o m l n j = spec_SeenFromLeft.l0 k o m l n j
  | 0, _, _, _, _, _ => rfl
  | k + 1, o, m, l, n, j => by simp only [impl_SeenFromLeft.l0, spec_SeenFromLeft.l0, sfl_same k]
theorem sfl_ends (l : List Int) (hl : l.length ≤ 1048576) : ∀ (d j : Nat) (o : List Int) (m : Int), j + d = l.length → o.length ≤ j →
    ∃ w : List Int, w.length ≤ l.length ∧ ∀ k, d < k → spec_SeenFromLeft.l0 k o m l (l.length : Int) (j : Int) = some (w, true) := by
  intro d
  induction d with
  | zero =>
    intro j o m hj ho
    refine ⟨o, by omega, fun k hk => ?_⟩
    obtain ⟨k, rfl⟩ : ∃ m, k = m + 1 := ⟨k - 1, by omega⟩
    simp only [spec_SeenFromLeft.l0]
    rw [if_neg (by omega)]
  | succ d ih =>
    intro j o m hj ho
    have e : wrap64 ((j : Int) + 1) = ((j + 1 : Nat) : Int) := by rw [w64 (by omega) (by omega)]; omega
    by_cases h : rd l (j : Int) > m
    · obtain ⟨w, hw, hk⟩ := ih (j + 1) (o ++ [(j : Int)]) (rd l (j : Int)) (by omega) (by simp; omega)
      refine ⟨w, hw, fun k hk' => ?_⟩
      obtain ⟨k, rfl⟩ : ∃ m, k = m + 1 := ⟨k - 1, by omega⟩
      simp only [spec_SeenFromLeft.l0]
      rw [if_pos (by omega), if_pos (by omega), if_pos (by omega), if_pos h, if_pos (by omega), e]
      exact hk k (by omega)
    · obtain ⟨w, hw, hk⟩ := ih (j + 1) o m (by omega) (by omega)
      refine ⟨w, hw, fun k hk' => ?_⟩
      obtain ⟨k, rfl⟩ : ∃ m, k = m + 1 := ⟨k - 1, by omega⟩
      simp only [spec_SeenFromLeft.l0]
      rw [if_pos (by omega), if_pos (by omega), if_pos (by omega), if_neg h, e]
      exact hk k (by omega)
theorem sfl_both (l : List Int) (hl : l.length ≤ 1048576) : ∃ (w : List Int) (b : Bool), w.length ≤ l.length ∧ ∀ k, l.length < k → spec_SeenFromLeft.f k l = some (w, b) ∧ impl_SeenFromLeft.f k l = some (w, b) := by
  cases hg : heightsOk l with
  | false =>
    refine ⟨[], false, by simp, fun k hk => ?_⟩
    unfold spec_SeenFromLeft.f impl_SeenFromLeft.f
    rw [caGood_eq l (by omega) k hk, areHeights_eq l (by omega) k hk, hg]
    exact ⟨rfl, rfl⟩
  | true =>
    obtain ⟨w, hw, hk⟩ := sfl_ends l hl l.length 0 [] (-1) (by omega) (by simp)
    refine ⟨w, true, hw, fun k hk' => ?_⟩
    unfold spec_SeenFromLeft.f impl_SeenFromLeft.f
    rw [caGood_eq l (by omega) k hk', areHeights_eq l (by omega) k hk', hg]
    simp only [Option.bind_some, if_true, sfl_same]
    exact ⟨hk k hk', hk k hk'⟩
theorem FnExactSeenFromLeft : laws_FnExactSeenFromLeft.Pure := by
  intro l hl _ _
  unfold maxLen at hl
  by_cases h : (l.length : Int) > 1048576
  · exact ⟨0, by unfold laws_FnExactSeenFromLeft.f; rw [if_pos h]⟩
  · obtain ⟨w, b, hw, hk⟩ := sfl_both l (by omega)
    have hs := fun k h => (hk k h).1
    have hi := fun k h => (hk k h).2
    refine ⟨l.length + 10, ?_⟩
    unfold laws_FnExactSeenFromLeft.f
    rw [if_neg h]
    simp (disch := omega) only [toIntS_eq, hs, hi, eqIntS_refl, Option.bind_some, bne_self_eq_false, if_true]
    simp only [laws_FnExactSeenFromLeft.j0]
    simp (disch := omega) only [toIntS_eq, eqIntS_refl, markIntS_eq, mark_lt, Option.bind_some, bne_self_eq_false, Bool.false_eq_true, if_false, if_true]
    simp only [laws_FnExactSeenFromLeft.j1]
    simp (disch := omega) only [toIntS_eq, hi, eqIntS_refl, markIntS_eq, heldIntS_eq, mark_lt, Option.bind_some, bne_self_eq_false, Bool.false_eq_true, if_false, if_true]
    simp only [laws_FnExactSeenFromLeft.j2]
    simp (disch := omega) only [heldIntS_eq, mark_lt, Option.bind_some, Bool.false_eq_true, if_false, if_true]
end Go.Proofs.Ytoffojbcpnipmaa.Pure
