/- Plain words for loops: the indices of which something holds, a conjunction and a sum over indices. -/
import Derived.Test.YteflfjbnddieeaaDoorPuBase
namespace Go.Proofs.YteflfjbnddieeaaDoor.Pu
open Go.RowKit Go.Proofs.YteflfjbnddieeaaDoorW.PrintWords
set_option linter.unusedSimpArgs false
set_option linter.unusedVariables false

/-- The indices from j on, d of them, of which p holds. -/
def coll (p : Nat → Bool) : Nat → Nat → List Int
  | _, 0 => []
  | j, d + 1 => if p j = true then (j : Int) :: coll p (j + 1) d else coll p (j + 1) d
theorem coll_length (p : Nat → Bool) : ∀ (d j : Nat), (coll p j d).length ≤ d
  | 0, _ => Nat.le_refl _
  | d + 1, j => by
    have := coll_length p d (j + 1)
    unfold coll
    split
    · simp; omega
    · omega
theorem coll_congr (p q : Nat → Bool) : ∀ (d j : Nat), (∀ i, j ≤ i → i < j + d → p i = q i) → coll p j d = coll q j d
  | 0, _, _ => rfl
  | d + 1, j, h => by
    unfold coll
    rw [h j (Nat.le_refl _) (by omega), coll_congr p q d (j + 1) (fun i h1 h2 => h i (by omega) (by omega))]
theorem coll_yes (p : Nat → Bool) (j d : Nat) (h : p j = true) : coll p j (d + 1) = (j : Int) :: coll p (j + 1) d := by rw [coll, if_pos h]
theorem coll_no (p : Nat → Bool) (j d : Nat) (h : p j = false) : coll p j (d + 1) = coll p (j + 1) d := by rw [coll, if_neg (by simp [h])]
/-- Does p hold of the indices from j on, d of them? -/
def allP (p : Nat → Bool) : Nat → Nat → Bool
  | _, 0 => true
  | j, d + 1 => p j && allP p (j + 1) d
theorem allP_congr (p q : Nat → Bool) : ∀ (d j : Nat), (∀ i, j ≤ i → i < j + d → p i = q i) → allP p j d = allP q j d
  | 0, _, _ => rfl
  | d + 1, j, h => by
    unfold allP
    rw [h j (Nat.le_refl _) (by omega), allP_congr p q d (j + 1) (fun i h1 h2 => h i (by omega) (by omega))]
theorem allP_iff (p : Nat → Bool) : ∀ (d j : Nat), allP p j d = true ↔ ∀ i, j ≤ i → i < j + d → p i = true
  | 0, j => by simp [allP]; intro i h1 h2; omega
  | d + 1, j => by
    unfold allP
    rw [Bool.and_eq_true, allP_iff p d (j + 1)]
    constructor
    · rintro ⟨h0, h1⟩ i hi hi2
      by_cases e : i = j
      · subst e; exact h0
      · exact h1 i (by omega) (by omega)
    · intro h
      exact ⟨h j (Nat.le_refl _) (by omega), fun i h1 h2 => h i (by omega) (by omega)⟩
/-- The sum over the indices from j on, d of them. -/
def sumP (f : Nat → Int) : Nat → Nat → Int
  | _, 0 => 0
  | j, d + 1 => f j + sumP f (j + 1) d
theorem sumP_bounds (f : Nat → Int) (b : Int) : ∀ (d j : Nat), (∀ i, j ≤ i → i < j + d → 0 ≤ f i ∧ f i ≤ b) → 0 ≤ sumP f j d ∧ sumP f j d ≤ b * d
  | 0, _, _ => by simp [sumP]
  | d + 1, j, h => by
    have h1 := h j (Nat.le_refl _) (by omega)
    have h2 := sumP_bounds f b d (j + 1) (fun i h1 h2 => h i (by omega) (by omega))
    unfold sumP
    rw [Int.natCast_add, Int.mul_add]
    simp only [Int.cast_ofNat_Int, Int.mul_one]
    omega
theorem allIn_get {l : List Int} {lo hi : Int} (h : allIn l lo hi = true) (i : Nat) (hi' : i < l.length) : lo ≤ l[i] ∧ l[i] ≤ hi := by
  unfold allIn at h
  rw [List.all_eq_true] at h
  exact of_decide_eq_true (h l[i] (List.getElem_mem hi'))
theorem allIn_rd {l : List Int} {lo hi : Int} (h : allIn l lo hi = true) (i : Int) (h0 : 0 ≤ i) (h1 : i < (l.length : Int)) : lo ≤ rd l i ∧ rd l i ≤ hi := by
  obtain ⟨n, rfl⟩ := Int.eq_ofNat_of_zero_le h0
  have hn : n < l.length := by omega
  have := rd_get l n hn
  rw [this]
  exact allIn_get h n hn
end Go.Proofs.YteflfjbnddieeaaDoor.Pu
