/- Rising lists, and whether a number is in a list. -/
import Derived.Test.YteflfjbnddieeaaPuTab
import Derived.Test.YteflfjbnddieeaaPrint1
import Derived.Test.YteflfjbnddieeaaPrint2
namespace Go.Proofs.Yteflfjbnddieeaa.Pu
open Go.RowKit Go.Proofs.Yteflfjbnddieeaa.Print Go.Proofs.YteflfjbnddieeaaW.PrintWords Go.Proofs.YteflfjbnddieeaaW.PrintLast
set_option linter.unusedSimpArgs false
set_option linter.unusedVariables false

/-- Is each number greater than the one before it? -/
def rise : List Int → Bool
  | a :: b :: l => decide (a < b) && rise (b :: l)
  | _ => true
theorem rise_step (l : List Int) (j : Nat) (h : j + 1 < l.length) : rise (l.drop j) = (decide (l[j] < l[j + 1]) && rise (l.drop (j + 1))) := by
  rw [List.drop_eq_getElem_cons (show j < l.length by omega), List.drop_eq_getElem_cons h]; rfl
theorem rise_last (l : List Int) (j : Nat) (h : l.length ≤ j + 1) : rise (l.drop j) = true := by
  by_cases e : j < l.length
  · rw [List.drop_eq_getElem_cons e, List.drop_of_length_le h]; rfl
  · rw [List.drop_of_length_le (by omega)]; rfl

theorem l1Rising_l0 (l : List Int) (lo hi : Int) (hl : l.length ≤ 4611686018427387904) :
    ∀ (d j : Nat), 1 ≤ j → j + d = l.length → ∀ k, d < k → spec_l1Rising.l0 k l lo hi l (l.length : Int) (j : Int) = some (allIn (l.drop j) lo hi && rise (l.drop (j - 1))) := by
  intro d
  induction d with
  | zero =>
    intro j h1 hj k hk
    obtain ⟨k, rfl⟩ : ∃ m, k = m + 1 := ⟨k - 1, by omega⟩
    simp only [spec_l1Rising.l0]
    rw [if_neg (by omega), List.drop_of_length_le (show l.length ≤ j by omega), rise_last l (j - 1) (by omega)]; rfl
  | succ d ih =>
    intro j h1 hj k hk
    obtain ⟨k, rfl⟩ : ∃ m, k = m + 1 := ⟨k - 1, by omega⟩
    obtain ⟨i, rfl⟩ : ∃ i, j = i + 1 := ⟨j - 1, by omega⟩
    simp only [spec_l1Rising.l0]
    have hlt : i + 1 < l.length := by omega
    rw [if_pos (by omega), if_pos (by omega), if_pos (by omega), l1In_eq, rd_get l (i + 1) hlt]
    simp only [Option.bind_some]
    have e1 : allIn (l.drop (i + 1)) lo hi = (decide (lo ≤ l[i + 1] ∧ l[i + 1] ≤ hi) && allIn (l.drop (i + 2)) lo hi) := by
      rw [List.drop_eq_getElem_cons hlt]; rfl
    rw [e1, Nat.add_sub_cancel, rise_step l i hlt]
    by_cases h : lo ≤ l[i + 1] ∧ l[i + 1] ≤ hi
    · rw [if_pos (decide_eq_true h), if_pos (by omega), w64 (by omega) (by omega), if_pos (by omega), if_pos (by omega), show (((i + 1 : Nat) : Int) - 1) = (i : Int) by omega, rd_get l i (by omega)]
      by_cases h2 : l[i] ≥ l[i + 1]
      · rw [if_pos h2, show decide (l[i] < l[i + 1]) = false from decide_eq_false (by omega)]; simp
      · rw [if_neg h2, show decide (l[i] < l[i + 1]) = true from decide_eq_true (by omega), w64 (by omega) (by omega), show (((i + 1 : Nat) : Int) + 1) = ((i + 2 : Nat) : Int) by omega, ih (i + 2) (by omega) (by omega) k (by omega)]
        rw [decide_eq_true h]; rfl
    · rw [if_neg (by rw [decide_eq_true_eq]; exact h), decide_eq_false h]; rfl
theorem l1Rising_eq (l : List Int) (lo hi : Int) (hl : l.length ≤ 4611686018427387904) (k : Nat) (hk : l.length < k) :
    spec_l1Rising.f k l lo hi = some (allIn l lo hi && rise l) := by
  unfold spec_l1Rising.f
  obtain ⟨k, rfl⟩ : ∃ m, k = m + 1 := ⟨k - 1, by omega⟩
  simp only [spec_l1Rising.l0]
  cases l with
  | nil => simp [allIn, rise]
  | cons a t =>
    rw [if_pos (by simp), if_pos (by omega), if_pos (by simp), l1In_eq]
    simp only [Option.bind_some]
    have e0 : rd (a :: t) 0 = a := rfl
    rw [e0]
    by_cases h : lo ≤ a ∧ a ≤ hi
    · rw [if_pos (decide_eq_true h), if_neg (by omega), w64 (by omega) (by omega)]
      have := l1Rising_l0 (a :: t) lo hi hl t.length 1 (by omega) (by simp; omega) k (by simpa using hk)
      rw [show ((0 : Int) + 1) = ((1 : Nat) : Int) by omega, this]
      simp only [List.drop_succ_cons, List.drop_zero, Nat.sub_self]
      simp only [allIn, List.all_cons, decide_eq_true h, Bool.true_and]
    · rw [if_neg (by rw [decide_eq_true_eq]; exact h)]
      simp only [allIn, List.all_cons, decide_eq_false h, Bool.false_and]
theorem l1Has_l0 (L : List Int) (x : Int) (hL : L.length ≤ 1048576) : ∀ (d j : Nat), j + d = L.length → ∀ k, d < k → spec_l1Has.l0 k x L (L.length : Int) (j : Int) = some (decide (x ∈ L.drop j)) := by
  intro d
  induction d with
  | zero =>
    intro j hj k hk
    obtain ⟨k, rfl⟩ : ∃ m, k = m + 1 := ⟨k - 1, by omega⟩
    simp only [spec_l1Has.l0]
    rw [if_neg (by omega), List.drop_of_length_le (by omega)]; simp
  | succ d ih =>
    intro j hj k hk
    obtain ⟨k, rfl⟩ : ∃ m, k = m + 1 := ⟨k - 1, by omega⟩
    simp only [spec_l1Has.l0]
    rw [if_pos (by omega), if_pos (by omega), if_pos (by omega), rd_get L j (by omega), List.drop_eq_getElem_cons (by omega), w64 (by omega) (by omega), show ((j : Int) + 1) = ((j + 1 : Nat) : Int) by omega]
    by_cases e : L[j]'(by omega) = x
    · rw [if_pos e, e]; simp
    · rw [if_neg e, ih (j + 1) (by omega) k (by omega)]
      congr 1
      rw [decide_eq_decide, List.mem_cons]
      exact ⟨.inr, fun q => q.resolve_left fun z => e z.symm⟩
theorem l1Has_eq (L : List Int) (x : Int) (hL : L.length ≤ 1048576) (k : Nat) (hk : L.length < k) : spec_l1Has.f k L x = some (decide (x ∈ L)) := by
  unfold spec_l1Has.f
  have := l1Has_l0 L x hL L.length 0 (by omega) k hk
  simpa using this
end Go.Proofs.Yteflfjbnddieeaa.Pu
