/- What the printed AreGates, FewestGates and the counts of gates compute. -/
import Derived.Test.YtbgmdomoagcleaaPuBase
import Derived.Test.YtbgmdomoagcleaaPrint1
import Derived.Test.YtbgmdomoagcleaaPrint4
import Derived.Test.YtbgmdomoagcleaaPrint3
namespace Go.Proofs.Ytbgmdomoagcleaa.Pu
open Go.RowKit Go.Proofs.Ytbgmdomoagcleaa.Print Go.Proofs.YtbgmdomoagcleaaW.PrintWords Go.Proofs.YtbgmdomoagcleaaW.PrintLast
set_option linter.unusedSimpArgs false
set_option linter.unusedVariables false

theorem isRow_eq (b : Int) : impl_isRow.f b = some (decide (2 ≤ b ∧ b ≤ 40)) := by simp [impl_isRow.f, within_eq]
theorem gaBoards_eq (b : Int) : spec_gaBoards.f b = some (decide (2 ≤ b ∧ b ≤ 40)) := by simp [spec_gaBoards.f, l1In_eq]

/-- Is each number greater than the one before it? -/
def rise : List Int → Bool
  | a :: b :: l => decide (a < b) && rise (b :: l)
  | _ => true
theorem rise_step (l : List Int) (j : Nat) (h : j + 1 < l.length) : rise (l.drop j) = (decide (l[j] < l[j + 1]) && rise (l.drop (j + 1))) := by
  rw [List.drop_eq_getElem_cons (show j < l.length by omega), List.drop_eq_getElem_cons h]; rfl
theorem rise_last (l : List Int) (j : Nat) (h : l.length ≤ j + 1) : rise (l.drop j) = true := by
  by_cases e : j < l.length
  · rw [List.drop_eq_getElem_cons e, List.drop_of_length_le h]; rfl
  · rw [List.drop_of_length_le (by omega)]; rfl

theorem l1Rising_l0 (l : List Int) (lo hi : Int) (hl : l.length ≤ 4611686018427387904) :
    ∀ (d j : Nat), 1 ≤ j → j + d = l.length → ∀ k, d < k → spec_l1Rising.l0 k l lo hi l (l.length : Int) (j : Int) = some (allIn (l.drop j) lo hi && rise (l.drop (j - 1))) := by
  intro d
  induction d with
  | zero =>
    intro j h1 hj k hk
    obtain ⟨k, rfl⟩ : ∃ m, k = m + 1 := ⟨k - 1, by omega⟩
    simp only [spec_l1Rising.l0]
    rw [if_neg (by omega), List.drop_of_length_le (show l.length ≤ j by omega), rise_last l (j - 1) (by omega)]; rfl
  | succ d ih =>
    intro j h1 hj k hk
    obtain ⟨k, rfl⟩ : ∃ m, k = m + 1 := ⟨k - 1, by omega⟩
    obtain ⟨i, rfl⟩ : ∃ i, j = i + 1 := ⟨j - 1, by omega⟩
    simp only [spec_l1Rising.l0]
    have hlt : i + 1 < l.length := by omega
    rw [if_pos (by omega), if_pos (by omega), if_pos (by omega), l1In_eq, rd_get l (i + 1) hlt]
    simp only [Option.bind_some]
    have e1 : allIn (l.drop (i + 1)) lo hi = (decide (lo ≤ l[i + 1] ∧ l[i + 1] ≤ hi) && allIn (l.drop (i + 2)) lo hi) := by
      rw [List.drop_eq_getElem_cons hlt]; rfl
    rw [e1, Nat.add_sub_cancel, rise_step l i hlt]
    by_cases h : lo ≤ l[i + 1] ∧ l[i + 1] ≤ hi
    · rw [if_pos (decide_eq_true h), if_pos (by omega), w64 (by omega) (by omega), if_pos (by omega), if_pos (by omega), show (((i + 1 : Nat) : Int) - 1) = (i : Int) by omega, rd_get l i (by omega)]
      by_cases h2 : l[i] ≥ l[i + 1]
      · rw [if_pos h2, show decide (l[i] < l[i + 1]) = false from decide_eq_false (by omega)]; simp
      · rw [if_neg h2, show decide (l[i] < l[i + 1]) = true from decide_eq_true (by omega), w64 (by omega) (by omega), show (((i + 1 : Nat) : Int) + 1) = ((i + 2 : Nat) : Int) by omega, ih (i + 2) (by omega) (by omega) k (by omega)]
        rw [decide_eq_true h]; rfl
    · rw [if_neg (by rw [decide_eq_true_eq]; exact h), decide_eq_false h]; rfl
theorem l1Rising_eq (l : List Int) (lo hi : Int) (hl : l.length ≤ 4611686018427387904) (k : Nat) (hk : l.length < k) :
    spec_l1Rising.f k l lo hi = some (allIn l lo hi && rise l) := by
  unfold spec_l1Rising.f
  obtain ⟨k, rfl⟩ : ∃ m, k = m + 1 := ⟨k - 1, by omega⟩
  simp only [spec_l1Rising.l0]
  cases l with
  | nil => simp [allIn, rise]
  | cons a t =>
    rw [if_pos (by simp), if_pos (by omega), if_pos (by simp), l1In_eq]
    simp only [Option.bind_some]
    have e0 : rd (a :: t) 0 = a := rfl
    rw [e0]
    by_cases h : lo ≤ a ∧ a ≤ hi
    · rw [if_pos (decide_eq_true h), if_neg (by omega), w64 (by omega) (by omega)]
      have := l1Rising_l0 (a :: t) lo hi hl t.length 1 (by omega) (by simp; omega) k (by simpa using hk)
      rw [show ((0 : Int) + 1) = ((1 : Nat) : Int) by omega, this]
      simp only [List.drop_succ_cons, List.drop_zero, Nat.sub_self]
      simp only [allIn, List.all_cons, decide_eq_true h, Bool.true_and]
    · rw [if_neg (by rw [decide_eq_true_eq]; exact h)]
      simp only [allIn, List.all_cons, decide_eq_false h, Bool.false_and]

def gatesOk (b : Int) (l : List Int) : Bool := decide (2 ≤ b ∧ b ≤ 40) && (decide (l.length ≤ 10) && (allIn l 1 (b - 1) && rise l))
theorem gaAre_eq (b : Int) (l : List Int) (hl : l.length ≤ 4611686018427387904) (k : Nat) (hk : l.length < k) : spec_gaAre.f k b l = some (gatesOk b l) := by
  unfold spec_gaAre.f gatesOk
  rw [gaBoards_eq]
  simp only [Option.bind_some]
  by_cases h : 2 ≤ b ∧ b ≤ 40
  · rw [if_pos (decide_eq_true h), decide_eq_true h]
    by_cases h2 : (l.length : Int) ≤ 10
    · rw [if_pos h2, l1Rising_eq l _ _ hl k hk, w64 (by omega) (by omega), decide_eq_true (show l.length ≤ 10 by omega)]; rfl
    · rw [if_neg h2, decide_eq_false (show ¬ l.length ≤ 10 by omega)]; rfl
  · rw [if_neg (by rw [decide_eq_true_eq]; exact h), decide_eq_false h]; rfl
theorem areGates_tail (b : Int) (l : List Int) (hl : l.length ≤ 4611686018427387904) (k : Nat) (hk : l.length < k) :
    ((impl_isRow.f b).bind fun t => (if t = true then (if (l.length : Int) ≤ 10 then ((impl_allWithin.f k l 1 (wrap64 (b - 1))).bind fun t => (some t)) else (some false)) else (some false))) = some (decide (2 ≤ b ∧ b ≤ 40) && (decide (l.length ≤ 10) && allIn l 1 (b - 1))) := by
  rw [isRow_eq]
  simp only [Option.bind_some]
  by_cases h : 2 ≤ b ∧ b ≤ 40
  · rw [if_pos (decide_eq_true h), decide_eq_true h]
    by_cases h2 : (l.length : Int) ≤ 10
    · rw [if_pos h2, allWithin_eq l _ _ hl k hk, w64 (by omega) (by omega), decide_eq_true (show l.length ≤ 10 by omega)]; rfl
    · rw [if_neg h2, decide_eq_false (show ¬ l.length ≤ 10 by omega)]; rfl
  · rw [if_neg (by rw [decide_eq_true_eq]; exact h), decide_eq_false h]; rfl
theorem areGates_l0 (b : Int) (l : List Int) (hl : l.length ≤ 4611686018427387904) :
    ∀ (d j : Nat), 1 ≤ j → j + d = l.length → ∀ k, l.length + 1 + d < k → impl_AreGates.l0 k b l l (l.length : Int) (j : Int) = some (rise (l.drop (j - 1)) && (decide (2 ≤ b ∧ b ≤ 40) && (decide (l.length ≤ 10) && allIn l 1 (b - 1)))) := by
  intro d
  induction d with
  | zero =>
    intro j h1 hj k hk
    obtain ⟨k, rfl⟩ : ∃ m, k = m + 1 := ⟨k - 1, by omega⟩
    simp only [impl_AreGates.l0]
    rw [if_neg (by omega), areGates_tail b l hl k (by omega), rise_last l (j - 1) (by omega)]; rfl
  | succ d ih =>
    intro j h1 hj k hk
    obtain ⟨k, rfl⟩ : ∃ m, k = m + 1 := ⟨k - 1, by omega⟩
    obtain ⟨i, rfl⟩ : ∃ i, j = i + 1 := ⟨j - 1, by omega⟩
    simp only [impl_AreGates.l0]
    have hlt : i + 1 < l.length := by omega
    rw [if_pos (by omega), if_pos (by omega), if_pos (by omega), if_pos (by omega), w64 (by omega) (by omega), if_pos (by omega), if_pos (by omega), show (((i + 1 : Nat) : Int) - 1) = (i : Int) by omega, rd_get l i (by omega), rd_get l (i + 1) hlt, Nat.add_sub_cancel, rise_step l i hlt]
    by_cases h2 : l[i] ≥ l[i + 1]
    · rw [if_pos h2, show decide (l[i] < l[i + 1]) = false from decide_eq_false (by omega)]; rfl
    · rw [if_neg h2, show decide (l[i] < l[i + 1]) = true from decide_eq_true (by omega), w64 (by omega) (by omega), show (((i + 1 : Nat) : Int) + 1) = ((i + 2 : Nat) : Int) by omega, ih (i + 2) (by omega) (by omega) k (by omega)]; rfl
theorem areGates_eq (b : Int) (l : List Int) (hl : l.length ≤ 4611686018427387904) (k : Nat) (hk : 2 * l.length + 2 < k) : impl_AreGates.f k b l = some (gatesOk b l) := by
  unfold impl_AreGates.f
  have hcomm : ∀ p q r s : Bool, (s && (p && (q && r))) = (p && (q && (r && s))) := by decide
  obtain ⟨k, rfl⟩ : ∃ m, k = m + 1 := ⟨k - 1, by omega⟩
  cases l with
  | nil =>
    simp only [impl_AreGates.l0]
    rw [if_neg (by simp), areGates_tail b [] hl k (by simp at hk ⊢; omega)]
    simp only [gatesOk, rise, Bool.and_true]
  | cons a t =>
    simp only [impl_AreGates.l0]
    rw [if_pos (by simp), if_pos (by omega), if_pos (by simp), if_neg (by omega), w64 (by omega) (by omega)]
    have := areGates_l0 b (a :: t) hl t.length 1 (by omega) (by simp; omega) k (by simp at hk ⊢; omega)
    rw [show ((0 : Int) + 1) = ((1 : Nat) : Int) by omega, this]
    simp only [Nat.sub_self, List.drop_zero, gatesOk]
    rw [hcomm]
end Go.Proofs.Ytbgmdomoagcleaa.Pu
