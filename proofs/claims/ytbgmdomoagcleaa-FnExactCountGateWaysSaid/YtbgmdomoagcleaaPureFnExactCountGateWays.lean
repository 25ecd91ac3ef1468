/- The program's CountGateWays answers as the reference's, for every two numbers. -/
import Derived.Test.YtbgmdomoagcleaaPuCounts
import Derived.Test.YtbgmdomoagcleaaPrint2
namespace Go.Proofs.Ytbgmdomoagcleaa.Pure
open Go.RowKit Go.Proofs.Ytbgmdomoagcleaa.Print Go.Proofs.YtbgmdomoagcleaaW.PrintWords Go.Proofs.YtbgmdomoagcleaaW.PrintLast Go.Proofs.Ytbgmdomoagcleaa.Pu
set_option linter.unusedSimpArgs false
set_option linter.unusedVariables false
/-- The sums of what stands before each entry. -/
def sums : Int → List Int → List Int
  | _, [] => []
  | a, x :: t => a :: sums (wrap64 (a + x)) t
theorem sums_length : ∀ (l : List Int) (a : Int), (sums a l).length = l.length
  | [], _ => rfl
  | x :: t, a => by simp [sums, sums_length t]
theorem sums_get : ∀ (l : List Int) (a : Int) (j : Nat) (hj : j < l.length), (sums (wrap64 a) l)[j]'(by rw [sums_length]; exact hj) = wrap64 (a + between (fun i => l.getD i 0) 0 j)
  | x :: t, a, 0, _ => by simp [sums, between]
  | x :: t, a, j + 1, hj => by
    have hs : ∀ j, between (fun i => (x :: t).getD i 0) 0 (j + 1) = x + between (fun i => t.getD i 0) 0 j := by
      intro j
      induction j with
      | zero => simp [between]
      | succ j ih => rw [between, ih, between]; simp; omega
    have := sums_get t (a + x) j (by simpa using hj)
    simp only [sums, List.getElem_cons_succ, wrap64_add]
    rw [this, hs, Int.add_assoc]
theorem nextRow_sums (mo n : Nat) (l : List Int) (hl : l.length = n) (hmo : n ≤ mo + 1) : nextRow mo n l = sums 0 l := by
  apply List.ext_getElem
  · rw [nextRow_length, sums_length, hl]
  · intro j h1 h2
    have hj : j < n := by rw [nextRow_length] at h1; exact h1
    have := sums_get l 0 j (by omega)
    simp only [wrap64_zero, Int.zero_add] at this
    rw [this]
    simp only [nextRow, List.getElem_map, List.getElem_range, entry]
    rw [show j - min mo j = 0 by omega]
def sumsAfter : Nat → List Int → List Int
  | 0, l => l
  | r + 1, l => sumsAfter r (sums 0 l)
theorem rowsAfter_sums (mo n : Nat) (hmo : n ≤ mo + 1) : ∀ (r : Nat) (l : List Int), l.length = n → rowsAfter mo n r l = sumsAfter r l
  | 0, _, _ => rfl
  | r + 1, l, h => by rw [rowsAfter, sumsAfter, nextRow_sums mo n l h hmo, rowsAfter_sums mo n hmo r _ (by rw [sums_length]; exact h)]
theorem table : ∀ (n : Nat), n < 42 → ∀ (m : Nat), m < 11 → 3 ≤ n → impl_choose.f 20 ((n : Int) - 2) (m : Int) = some ((sumsAfter (m + 1) (row0 n)).getD (n - 1) 0) := by decide +kernel
theorem choose_more (b m v : Int) (h : impl_choose.f 20 b m = some v) (k : Nat) (hk : 20 ≤ k) : impl_choose.f k b m = some v := at_rounds (impl_choose.mono b m) hk h
theorem ways_both (b m : Int) : ∃ p : Int × Bool, ∀ k, 30000 < k → spec_CountGateWays.f k b m = some p ∧ impl_CountGateWays.f k b m = some p := by
  by_cases h1 : (2 ≤ b ∧ b ≤ 40) ∧ (0 ≤ m ∧ m ≤ 10)
  · obtain ⟨many, rfl⟩ := Int.eq_ofNat_of_zero_le h1.2.1
    obtain ⟨n, hn⟩ : ∃ n : Nat, b = (n : Int) - 1 := ⟨(b + 1).toNat, by omega⟩
    obtain ⟨mo, hmo⟩ : ∃ mo : Nat, b = (mo : Int) := ⟨b.toNat, by omega⟩
    refine ⟨(rd (rowsAfter mo n (many + 1) (row0 n)) b, true), fun k hk => ?_⟩
    have hc := choose_more _ _ _ (table n (by omega) many (by omega) (by omega)) k (by omega)
    unfold spec_CountGateWays.f impl_CountGateWays.f
    rw [gaMany_eq, isMany_eq, decide_eq_true h1.1, decide_eq_true h1.2]
    simp only [Bool.and_self, Option.bind_some, if_true]
    have hg := gaWays_eq b many mo n hn (by omega) (by omega) (by omega) (by omega) k (by omega)
    rw [← hmo] at hg
    rw [hg, w64 (by omega) (by omega), show b - 1 = (n : Int) - 2 by omega, hc, rowsAfter_sums mo n (by omega) (many + 1) (row0 n) (row0_length n)]
    refine ⟨rfl, ?_⟩
    simp only [Option.bind_some, rd, show b.toNat = n - 1 by omega]
  · refine ⟨(0, false), fun k hk => ?_⟩
    have hf : (decide (2 ≤ b ∧ b ≤ 40) && decide (0 ≤ m ∧ m ≤ 10)) = false := by
      rw [← Bool.not_eq_true, Bool.and_eq_true, decide_eq_true_eq, decide_eq_true_eq]; exact h1
    unfold spec_CountGateWays.f impl_CountGateWays.f
    rw [gaMany_eq, isMany_eq, hf]
    exact ⟨rfl, rfl⟩
theorem FnExactCountGateWays : laws_FnExactCountGateWays.Pure := by
  intro b m _ _
  obtain ⟨p, hk⟩ := ways_both b m
  refine ⟨30001, ?_⟩
  unfold laws_FnExactCountGateWays.f
  rw [(hk 30001 (by omega)).1, (hk 30001 (by omega)).2]
  simp only [Option.bind_some, bne_self_eq_false, Bool.false_eq_true, if_false, if_true]
end Go.Proofs.Ytbgmdomoagcleaa.Pure
