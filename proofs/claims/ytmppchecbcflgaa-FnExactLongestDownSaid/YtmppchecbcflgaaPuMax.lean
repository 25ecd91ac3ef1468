/- What the printed slices.Max computes. -/
import Derived.Test.YtmppchecbcflgaaPuBase
import Derived.Test.YtmppchecbcflgaaPrint8
namespace Go.Proofs.Ytmppchecbcflgaa.Pu
open Go.RowKit Go.Proofs.Ytmppchecbcflgaa.Print Go.Proofs.YtmppchecbcflgaaW.PrintWords Go.Proofs.YtmppchecbcflgaaW.PrintLast Go.Proofs.YtmppchecbcflgaaW.PrintMore
set_option linter.unusedSimpArgs false
set_option linter.unusedVariables false
/-- The greatest of a number and a list. -/
def maxFrom : Int → List Int → Int
  | m, [] => m
  | m, x :: t => maxFrom (mx m x) t
theorem maxFrom_lt : ∀ (l : List Int) (m c : Int), maxFrom m l < c ↔ m < c ∧ ∀ x ∈ l, x < c
  | [], m, c => by simp [maxFrom]
  | x :: t, m, c => by
    rw [maxFrom, maxFrom_lt t]
    unfold mx
    constructor
    · rintro ⟨h1, h2⟩
      refine ⟨by split at h1 <;> omega, fun y hy => ?_⟩
      rcases List.mem_cons.1 hy with rfl | hy
      · split at h1 <;> omega
      · exact h2 y hy
    · rintro ⟨h1, h2⟩
      have := h2 x List.mem_cons_self
      exact ⟨by split <;> omega, fun y hy => h2 y (List.mem_cons_of_mem _ hy)⟩
theorem maxFrom_mem : ∀ (l : List Int) (m : Int), maxFrom m l = m ∨ maxFrom m l ∈ l
  | [], m => by simp [maxFrom]
  | x :: t, m => by
    rw [maxFrom]
    have := maxFrom_mem t (mx m x)
    unfold mx at *
    split at this <;> rename_i h
    · rw [if_pos h]
      rcases this with e | e
      · rw [e]; right; exact List.mem_cons_self
      · right; exact List.mem_cons_of_mem _ e
    · rw [if_neg h]
      rcases this with e | e
      · left; exact e
      · right; exact List.mem_cons_of_mem _ e
theorem max_l0 (l : List Int) (hl : l.length ≤ 1048576) : ∀ (d j : Nat) (m : Int), j + d = l.length → ∀ k, d < k → slices_Max_int_int.l0 k l m (j : Int) = some (maxFrom m (l.drop j)) := by
  intro d
  induction d with
  | zero =>
    intro j m hj k hk
    obtain ⟨k, rfl⟩ : ∃ m, k = m + 1 := ⟨k - 1, by omega⟩
    simp only [slices_Max_int_int.l0]
    rw [if_neg (by omega), List.drop_of_length_le (by omega)]; rfl
  | succ d ih =>
    intro j m hj k hk
    obtain ⟨k, rfl⟩ : ∃ m, k = m + 1 := ⟨k - 1, by omega⟩
    simp only [slices_Max_int_int.l0]
    have hlt : j < l.length := by omega
    rw [if_pos (by omega), if_pos (by omega), w64 (by omega) (by omega), show ((j : Int) + 1) = ((j + 1 : Nat) : Int) by omega, ih (j + 1) _ (by omega) k (by omega), List.drop_eq_getElem_cons hlt, rd_get l j hlt]; rfl
theorem max_eq (x : Int) (t : List Int) (hl : (x :: t).length ≤ 1048576) (k : Nat) (hk : t.length + 1 < k) : slices_Max_int_int.f k (x :: t) = some (maxFrom x t) := by
  unfold slices_Max_int_int.f
  rw [if_neg (by simp; omega), if_pos (by simp), show rd (x :: t) 0 = x from rfl]
  have := max_l0 (x :: t) hl t.length 1 x (by simp; omega) k (by omega)
  simpa using this
end Go.Proofs.Ytmppchecbcflgaa.Pu
