/- Plain words for cuts of bars: what is left of each bar behind the first rails of a cut, and how many bars there are. -/
import Derived.Test.YtbgmdomoagcleaaPuTab
namespace Go.Proofs.Ytbgmdomoagcleaa.Pu
open Go.RowKit Go.Proofs.YtbgmdomoagcleaaW.PrintWords
set_option linter.unusedSimpArgs false
set_option linter.unusedVariables false

/-- What is left of bar q behind the first i rails. -/
def left (b : Int) (R C : List Int) : Nat → Nat → Int
  | 0, _ => b
  | i + 1, q => if rd C (i : Int) = (q : Int) then left b R C i q - rd R (i : Int) else left b R C i q
/-- How many bars the first i numbers of a cut name. -/
def bars (C : List Int) : Nat → Nat
  | 0 => 0
  | i + 1 => max (bars C i) ((rd C (i : Int)).toNat + 1)
theorem bars_lt (C : List Int) : ∀ (n i : Nat), i < n → (rd C (i : Int)).toNat < bars C n
  | 0, i, h => absurd h (by omega)
  | n + 1, i, h => by
    rw [bars]
    by_cases e : i = n
    · subst e; omega
    · have := bars_lt C n i (by omega); omega
theorem bars_le (C : List Int) (m : Nat) : ∀ n : Nat, (∀ i, i < n → (rd C (i : Int)).toNat < m) → bars C n ≤ m
  | 0, _ => Nat.zero_le _
  | n + 1, h => by
    rw [bars]
    have h1 := bars_le C m n (fun i hi => h i (by omega))
    have h2 := h n (by omega)
    omega
theorem left_out (b : Int) (R C : List Int) (q : Nat) : ∀ n : Nat, (∀ i, i < n → rd C (i : Int) ≠ (q : Int)) → left b R C n q = b
  | 0, _ => rfl
  | n + 1, h => by
    rw [left, if_neg (h n (by omega))]
    exact left_out b R C q n (fun i hi => h i (by omega))
theorem left_bounds (b : Int) (R C : List Int) (hb : 0 ≤ b ∧ b ≤ 1000) (q : Nat) : ∀ n : Nat, (∀ i, i < n → 0 ≤ rd R (i : Int) ∧ rd R (i : Int) ≤ 1000) → -1000 * (n : Int) ≤ left b R C n q ∧ left b R C n q ≤ 1000
  | 0, _ => by rw [left]; omega
  | n + 1, h => by
    have h1 := left_bounds b R C hb q n (fun i hi => h i (by omega))
    have h2 := h n (by omega)
    rw [left]
    split <;> omega
/-- Some number up to a list's length is not in it. -/
theorem some_out : ∀ (n : Nat) (C : List Int), C.length = n → ∃ q : Nat, q ≤ n ∧ (q : Int) ∉ C
  | 0, C, h => ⟨0, Nat.le_refl _, by rw [List.length_eq_zero_iff.1 h]; simp⟩
  | n + 1, C, h => by
    by_cases e : ((n + 1 : Nat) : Int) ∈ C
    · obtain ⟨q, h1, h2⟩ := some_out n (C.erase ((n + 1 : Nat) : Int)) (by rw [List.length_erase_of_mem e]; omega)
      exact ⟨q, by omega, fun h3 => h2 ((List.mem_erase_of_ne (by omega)).2 h3)⟩
    · exact ⟨n + 1, Nat.le_refl _, e⟩
/-- Are all rests of a cut as they should be? -/
def restsOk (b : Int) (l : List Int) : Bool := l.all fun r => decide (0 ≤ r ∧ r ≠ b)
theorem restsOk_cons (b x : Int) (t : List Int) : restsOk b (x :: t) = (decide (0 ≤ x ∧ x ≠ b) && restsOk b t) := rfl
theorem restsOk_out (b : Int) (R C : List Int) (n : Nat) (h : C.length = n) (hm : n < bars C n) : restsOk b (tab (left b R C n) (bars C n)) = false := by
  obtain ⟨q, h1, h2⟩ := some_out n C h
  have e : left b R C n q = b := left_out b R C q n (fun i hi e => h2 (by rw [← e, rd_get C i (by omega)]; exact List.getElem_mem _))
  unfold restsOk
  rw [List.all_eq_false]
  refine ⟨b, ?_, by simp⟩
  unfold tab
  rw [List.mem_map]
  exact ⟨q, List.mem_range.2 (by omega), e⟩
end Go.Proofs.Ytbgmdomoagcleaa.Pu
