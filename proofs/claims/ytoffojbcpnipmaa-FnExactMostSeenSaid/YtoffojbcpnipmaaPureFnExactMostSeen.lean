/- The program's MostSeen answers as the reference's, for every list, and leaves it as it was (lists of more than 2^20 numbers answer true at once). -/
import Derived.Test.YtoffojbcpnipmaaPuSeen
import Derived.Test.YtoffojbcpnipmaaPrint40
namespace Go.Proofs.Ytoffojbcpnipmaa.Pure
open Go.RowKit Go.Proofs.Ytoffojbcpnipmaa.Print Go.Proofs.YtoffojbcpnipmaaW.PrintWords Go.Proofs.YtoffojbcpnipmaaW.PrintLast Go.Proofs.Ytoffojbcpnipmaa.Pu
set_option linter.unusedSimpArgs false
set_option linter.unusedVariables false
/-- The first index with the greatest count, and this count. -/
def mostF (c : Nat → Int) : Int → Int → Nat → Nat → Int × Int × Bool
  | b, m, _, 0 => (b, m, true)
  | b, m, j, d + 1 => if c j > m then mostF c (j : Int) (c j) (j + 1) d else mostF c b m (j + 1) d
theorem most_impl (h : List Int) (hl : h.length ≤ 20) : ∀ (d j : Nat) (b m : Int), j + d = h.length → ∀ k, d + 60 < k → impl_MostSeen.l0 k h b m (h.length : Int) (j : Int) = some (mostF (fun i => ((coll (seenP h i) 0 h.length).length : Int)) b m j d) := by
  intro d
  induction d with
  | zero =>
    intro j b m hj k hk
    obtain ⟨k, rfl⟩ : ∃ m, k = m + 1 := ⟨k - 1, by omega⟩
    simp only [impl_MostSeen.l0]
    rw [if_neg (by omega)]; rfl
  | succ d ih =>
    intro j b m hj k hk
    obtain ⟨k, rfl⟩ : ∃ m, k = m + 1 := ⟨k - 1, by omega⟩
    simp only [impl_MostSeen.l0]
    rw [if_pos (by omega), seenFrom_eq h hl j (by omega) k (by omega), w64 (by omega) (by omega), show ((j : Int) + 1) = ((j + 1 : Nat) : Int) by omega]
    simp only [Option.bind_some, ih (j + 1) _ _ (by omega) k (by omega), mostF]
    split <;> rfl
theorem most_spec (h : List Int) (hl : h.length ≤ 20) : ∀ (d j : Nat) (b m : Int), j + d = h.length → ∀ k, d + 700 < k → spec_MostSeen.l0 k h b m (h.length : Int) (j : Int) = some (mostF (fun i => ((coll (seenP h i) 0 h.length).length : Int)) b m j d) := by
  intro d
  induction d with
  | zero =>
    intro j b m hj k hk
    obtain ⟨k, rfl⟩ : ∃ m, k = m + 1 := ⟨k - 1, by omega⟩
    simp only [spec_MostSeen.l0]
    rw [if_neg (by omega)]; rfl
  | succ d ih =>
    intro j b m hj k hk
    obtain ⟨k, rfl⟩ : ∃ m, k = m + 1 := ⟨k - 1, by omega⟩
    simp only [spec_MostSeen.l0]
    rw [if_pos (by omega), caSeen_eq h hl j (by omega) k (by omega), w64 (by omega) (by omega), show ((j : Int) + 1) = ((j + 1 : Nat) : Int) by omega]
    simp only [Option.bind_some, ih (j + 1) _ _ (by omega) k (by omega), mostF]
    split <;> rfl
theorem most_both (l : List Int) (hl : l.length ≤ 1048576) : ∃ p : Int × Int × Bool, ∀ k, l.length + 800 < k → spec_MostSeen.f k l = some p ∧ impl_MostSeen.f k l = some p := by
  cases hh : heightsOk l with
  | false =>
    refine ⟨(0, 0, false), fun k hk => ?_⟩
    unfold spec_MostSeen.f impl_MostSeen.f
    rw [caGood_eq l (by omega) k (by omega), areHeights_eq l (by omega) k (by omega), hh]
    exact ⟨rfl, rfl⟩
  | true =>
    have hn : 1 ≤ l.length ∧ l.length ≤ 20 := by unfold heightsOk at hh; rw [Bool.and_eq_true, decide_eq_true_eq] at hh; exact hh.1
    refine ⟨mostF (fun i => ((coll (seenP l i) 0 l.length).length : Int)) 0 0 0 l.length, fun k hk => ?_⟩
    unfold spec_MostSeen.f impl_MostSeen.f
    rw [caGood_eq l (by omega) k (by omega), areHeights_eq l (by omega) k (by omega), hh]
    simp only [Option.bind_some, if_true]
    have h1 := most_spec l (by omega) l.length 0 0 (-1) (by omega) k (by omega)
    have h2 := most_impl l (by omega) l.length 0 0 0 (by omega) k (by omega)
    rw [show ((0 : Nat) : Int) = 0 from rfl] at h1 h2
    rw [h1, h2]
    refine ⟨?_, rfl⟩
    congr 1
    obtain ⟨n, hn2⟩ : ∃ n, l.length = n + 1 := ⟨l.length - 1, by omega⟩
    have hc : ∀ i, 0 ≤ (fun i => ((coll (seenP l i) 0 l.length).length : Int)) i := fun i => Int.natCast_nonneg _
    generalize (fun i => ((coll (seenP l i) 0 l.length).length : Int)) = c at hc ⊢
    rw [hn2, mostF, mostF]
    by_cases h0 : c 0 > 0
    · rw [if_pos h0, if_pos (by omega)]
    · rw [if_neg h0]
      have h3 := hc 0
      rw [if_pos (by omega), show c 0 = 0 by omega]; rfl
theorem FnExactMostSeen : laws_FnExactMostSeen.Pure := by
  intro l hl _ _
  unfold maxLen at hl
  by_cases h : (l.length : Int) > 1048576
  · exact ⟨0, by unfold laws_FnExactMostSeen.f; rw [if_pos h]⟩
  · obtain ⟨p, hk⟩ := most_both l (by omega)
    have hs := fun k h => (hk k h).1
    have hi := fun k h => (hk k h).2
    refine ⟨l.length + 810, ?_⟩
    unfold laws_FnExactMostSeen.f
    rw [if_neg h]
    simp (disch := omega) only [toIntS_eq, hs, hi, Option.bind_some, bne_self_eq_false, if_true]
    simp only [laws_FnExactMostSeen.j0]
    simp (disch := omega) only [toIntS_eq, eqIntS_refl, Option.bind_some, Bool.false_eq_true, if_false, if_true]
end Go.Proofs.Ytoffojbcpnipmaa.Pure
