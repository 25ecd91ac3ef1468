/- What the printed beside and caPeaks compute: the boards for which something holds with each one beside them. -/
import Derived.Test.YtoffojbcpnipmaaPuHeights
import Derived.Test.YtoffojbcpnipmaaPuColl
import Derived.Test.YtoffojbcpnipmaaPrint7
import Derived.Test.YtoffojbcpnipmaaPrint6
namespace Go.Proofs.Ytoffojbcpnipmaa.Pu
open Go.RowKit Go.Proofs.Ytoffojbcpnipmaa.Print Go.Proofs.YtoffojbcpnipmaaW.PrintWords Go.Proofs.YtoffojbcpnipmaaW.PrintLast
set_option linter.unusedSimpArgs false
set_option linter.unusedVariables false

def besideP (q : Int → Int → Bool) (h : List Int) (j : Nat) : Bool := (decide (j = 0) || q (rd h (j : Int)) (rd h ((j : Int) - 1))) && (decide (j + 1 = h.length) || q (rd h (j : Int)) (rd h ((j : Int) + 1)))
theorem beside_l0 (h : List Int) (hl : h.length ≤ 1048576) (p : Int → Int → Option Bool) (q : Int → Int → Bool) (hp : ∀ x y, p x y = some (q x y)) :
    ∀ (d j : Nat) (o : List Int), j + d = h.length → o.length ≤ j → ∀ k, d < k → impl_beside.l0 k h p o h (h.length : Int) (j : Int) = some (o ++ coll (besideP q h) j d) := by
  intro d
  induction d with
  | zero =>
    intro j o hj ho k hk
    obtain ⟨k, rfl⟩ : ∃ m, k = m + 1 := ⟨k - 1, by omega⟩
    simp only [impl_beside.l0]
    rw [if_neg (by omega)]; simp [coll]
  | succ d ih =>
    intro j o hj ho k hk
    obtain ⟨k, rfl⟩ : ∃ m, k = m + 1 := ⟨k - 1, by omega⟩
    have e1 : wrap64 ((j : Int) + 1) = (j : Int) + 1 := w64 (by omega) (by omega)
    have en : wrap64 ((h.length : Int) - 1) = (h.length : Int) - 1 := w64 (by omega) (by omega)
    have yes : besideP q h j = true → (if o.length < 17592186044416 then (impl_beside.l0 k h p (o ++ [(j : Int)]) h (h.length : Int) ((j : Int) + 1)) else (none)) = some (o ++ coll (besideP q h) j (d + 1)) := by
      intro hy
      rw [if_pos (by omega), coll_yes _ _ _ hy]
      have := ih (j + 1) (o ++ [(j : Int)]) (by omega) (by simp; omega) k (by omega)
      rw [show (((j + 1 : Nat) : Int)) = (j : Int) + 1 by omega] at this
      rw [this]; simp
    have no : besideP q h j = false → impl_beside.l0 k h p o h (h.length : Int) ((j : Int) + 1) = some (o ++ coll (besideP q h) j (d + 1)) := by
      intro hn
      rw [coll_no _ _ _ hn]
      have := ih (j + 1) o (by omega) (by omega) k (by omega)
      rw [show (((j + 1 : Nat) : Int)) = (j : Int) + 1 by omega] at this
      exact this
    have right : (decide (j = 0) || q (rd h (j : Int)) (rd h ((j : Int) - 1))) = true →
        (if (j : Int) = (h.length : Int) - 1 then (if o.length < 17592186044416 then (impl_beside.l0 k h p (o ++ [(j : Int)]) h (h.length : Int) ((j : Int) + 1)) else (none)) else (if 0 ≤ (j : Int) + 1 then (if (j : Int) + 1 < (h.length : Int) then ((p (rd h (j : Int)) (rd h ((j : Int) + 1))).bind fun t => (if t = true then (if o.length < 17592186044416 then (impl_beside.l0 k h p (o ++ [(j : Int)]) h (h.length : Int) ((j : Int) + 1)) else (none)) else (impl_beside.l0 k h p o h (h.length : Int) ((j : Int) + 1)))) else (none)) else (none))) = some (o ++ coll (besideP q h) j (d + 1)) := by
      intro hlft
      by_cases e : (j : Int) = (h.length : Int) - 1
      · rw [if_pos e]; exact yes (by unfold besideP; rw [hlft, decide_eq_true (show j + 1 = h.length by omega)]; rfl)
      · rw [if_neg e, if_pos (by omega), if_pos (by omega), hp]
        simp only [Option.bind_some]
        cases hq : q (rd h (j : Int)) (rd h ((j : Int) + 1)) with
        | true => rw [if_pos rfl]; exact yes (by unfold besideP; rw [hlft, hq]; simp)
        | false => rw [if_neg (by simp)]; exact no (by unfold besideP; rw [hlft, hq, decide_eq_false (show ¬ j + 1 = h.length by omega)]; rfl)
    simp only [impl_beside.l0]
    rw [if_pos (by omega), if_pos (by omega), if_pos (by omega), e1, en]
    by_cases hz : (j : Int) = 0
    · rw [if_pos hz]; exact right (by rw [decide_eq_true (show j = 0 by omega)]; rfl)
    · rw [if_neg hz, w64 (n := (j : Int) - 1) (by omega) (by omega), if_pos (by omega), if_pos (by omega), hp]
      simp only [Option.bind_some]
      cases hq : q (rd h (j : Int)) (rd h ((j : Int) - 1)) with
      | true => rw [if_pos rfl]; exact right (by rw [hq]; simp)
      | false => rw [if_neg (by simp)]; exact no (by unfold besideP; rw [hq, decide_eq_false (show ¬ j = 0 by omega)]; rfl)
theorem beside_eq (h : List Int) (hl : h.length ≤ 1048576) (p : Int → Int → Option Bool) (q : Int → Int → Bool) (hp : ∀ x y, p x y = some (q x y)) (k : Nat) (hk : h.length < k) :
    impl_beside.f k h p = some (coll (besideP q h) 0 h.length) := by
  unfold impl_beside.f
  have := beside_l0 h hl p q hp h.length 0 [] (by omega) (by simp) k hk
  simpa using this

/-- Beside of what is greater (s = 1) or smaller (s = -1). -/
def more (s : Int) (x y : Int) : Bool := decide (s * y < s * x)
theorem peaks_l0 (h : List Int) (hh : heightsOk h = true) (s : Int) (hs : s = 1 ∨ s = -1) :
    ∀ (d j : Nat) (o : List Int), j + d = h.length → o.length ≤ j → ∀ k, 4 * d < k → spec_caPeaks.l0 k h s o h (h.length : Int) (j : Int) = some (o ++ coll (besideP (more s) h) j d) := by
  have hn : (1 ≤ h.length ∧ h.length ≤ 20) ∧ allIn h 0 50 = true := by unfold heightsOk at hh; rw [Bool.and_eq_true, decide_eq_true_eq] at hh; exact hh
  obtain ⟨hn, ha⟩ := hn
  have hw : ∀ i : Int, 0 ≤ i → i < (h.length : Int) → wrap64 (s * rd h i) = s * rd h i := by
    intro i h0 h1
    have := allIn_rd ha i h0 h1
    rcases hs with rfl | rfl
    · rw [Int.one_mul]; exact w64 (by omega) (by omega)
    · rw [Int.neg_mul, Int.one_mul]; exact w64 (by omega) (by omega)
  intro d
  induction d with
  | zero =>
    intro j o hj ho k hk
    obtain ⟨k, rfl⟩ : ∃ m, k = m + 1 := ⟨k - 1, by omega⟩
    simp only [spec_caPeaks.l0]
    rw [if_neg (by omega)]; simp [coll]
  | succ d ih =>
    intro j o hj ho k hk
    obtain ⟨k, rfl⟩ : ∃ m, k = m + 4 := ⟨k - 4, by omega⟩
    have e1 : wrap64 ((j : Int) + 1) = (j : Int) + 1 := w64 (by omega) (by omega)
    have e2 : wrap64 ((j : Int) - 1) = (j : Int) - 1 := w64 (by omega) (by omega)
    have ends : ∀ b, b = besideP (more s) h j → spec_caPeaks.l1 (k + 1) h s o (j : Int) (rd h (j : Int)) b h (h.length : Int) (j : Int) [(j : Int) - 1, (j : Int) + 1] 2 2 = some (o ++ coll (besideP (more s) h) j (d + 1)) := by
      intro b hb
      simp only [spec_caPeaks.l1]
      rw [if_neg (by omega), e1]
      cases b with
      | true =>
        rw [if_pos rfl, if_pos (by omega), coll_yes _ _ _ hb.symm]
        have := ih (j + 1) (o ++ [(j : Int)]) (by omega) (by simp; omega) k (by omega)
        rw [show (((j + 1 : Nat) : Int)) = (j : Int) + 1 by omega] at this
        rw [this]; simp
      | false =>
        rw [if_neg (by simp), coll_no _ _ _ hb.symm]
        have := ih (j + 1) o (by omega) (by omega) k (by omega)
        rw [show (((j + 1 : Nat) : Int)) = (j : Int) + 1 by omega] at this
        exact this
    have second : ∀ b, b = (decide (j = 0) || more s (rd h (j : Int)) (rd h ((j : Int) - 1))) → spec_caPeaks.l1 (k + 2) h s o (j : Int) (rd h (j : Int)) b h (h.length : Int) (j : Int) [(j : Int) - 1, (j : Int) + 1] 2 1 = some (o ++ coll (besideP (more s) h) j (d + 1)) := by
      intro b hb
      rw [show k + 2 = (k + 1) + 1 from rfl]
      rw [spec_caPeaks.l1]
      have er : rd [(j : Int) - 1, (j : Int) + 1] 1 = (j : Int) + 1 := rfl
      rw [if_pos (by omega), if_pos (by omega), if_pos (by simp), er, if_pos (by omega), show wrap64 (1 + 1) = 2 by (rw [w64 (by omega) (by omega)]; omega)]
      by_cases hlt : (j : Int) + 1 < (h.length : Int)
      · rw [if_pos hlt, if_pos (by omega), hw _ (by omega) hlt, hw _ (by omega) (by omega)]
        by_cases hm : s * rd h ((j : Int) + 1) ≥ s * rd h (j : Int)
        · rw [if_pos hm]
          exact ends false (by unfold besideP; rw [show more s (rd h (j : Int)) (rd h ((j : Int) + 1)) = false from decide_eq_false (by omega), decide_eq_false (show ¬ j + 1 = h.length by omega)]; simp)
        · rw [if_neg hm]
          exact ends b (by unfold besideP; rw [show more s (rd h (j : Int)) (rd h ((j : Int) + 1)) = true from decide_eq_true (by omega), hb]; simp)
      · rw [if_neg hlt]
        exact ends b (by unfold besideP; rw [decide_eq_true (show j + 1 = h.length by omega), hb]; simp)
    rw [spec_caPeaks.l0, if_pos (by omega), if_pos (by omega), if_pos (by omega), e1, e2]
    simp only [Option.bind_some, List.length_cons, List.length_nil]
    rw [show (((0 + 1 + 1 : Nat) : Int)) = 2 from rfl, spec_caPeaks.l1]
    have er : rd [(j : Int) - 1, (j : Int) + 1] 0 = (j : Int) - 1 := rfl
    rw [if_pos (by omega), if_pos (by omega), if_pos (by simp), er, show wrap64 (0 + 1) = 1 by (rw [w64 (by omega) (by omega)]; omega)]
    by_cases hz : (j : Int) - 1 ≥ 0
    · rw [if_pos hz, if_pos (by omega), if_pos (by omega), hw _ (by omega) (by omega), hw _ (by omega) (by omega)]
      by_cases hm : s * rd h ((j : Int) - 1) ≥ s * rd h (j : Int)
      · rw [if_pos hm]
        exact second false (by rw [show more s (rd h (j : Int)) (rd h ((j : Int) - 1)) = false from decide_eq_false (by omega), decide_eq_false (show ¬ j = 0 by omega)]; rfl)
      · rw [if_neg hm]
        exact second true (by rw [show more s (rd h (j : Int)) (rd h ((j : Int) - 1)) = true from decide_eq_true (by omega)]; simp)
    · rw [if_neg hz]
      exact second true (by rw [decide_eq_true (show j = 0 by omega)]; rfl)
theorem peaks_eq (h : List Int) (hh : heightsOk h = true) (s : Int) (hs : s = 1 ∨ s = -1) (k : Nat) (hk : 4 * h.length < k) :
    spec_caPeaks.f k h s = some (coll (besideP (more s) h) 0 h.length) := by
  unfold spec_caPeaks.f
  have := peaks_l0 h hh s hs h.length 0 [] (by omega) (by simp) k hk
  simpa using this
end Go.Proofs.Ytoffojbcpnipmaa.Pu
