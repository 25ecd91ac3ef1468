/- Tables of a function, and functions told by what stands behind (or ahead of) them. -/
import Derived.Test.YtmppchecbcflgaaPuColl
namespace Go.Proofs.Ytmppchecbcflgaa.Pu
open Go.RowKit Go.Proofs.YtmppchecbcflgaaW.PrintWords Go.Proofs.YtmppchecbcflgaaW.PrintLast
set_option linter.unusedSimpArgs false
set_option linter.unusedVariables false

/-- The table of the first n values of a function. -/
def tab (v : Nat → Int) (n : Nat) : List Int := (List.range n).map v
theorem tab_length (v : Nat → Int) (n : Nat) : (tab v n).length = n := by simp [tab]
theorem rd_tab (v : Nat → Int) (n i : Nat) (h : i < n) : rd (tab v n) (i : Int) = v i := by
  rw [rd_get _ i (by rw [tab_length]; exact h)]; simp [tab]
theorem eq_tab (v : Nat → Int) (n : Nat) (x : List Int) (hl : x.length = n) (h : ∀ i : Nat, i < n → rd x (i : Int) = v i) : x = tab v n := by
  apply List.ext_getElem
  · rw [hl, tab_length]
  · intro i h1 h2
    have := h i (by omega)
    rw [rd_get x i h1] at this
    rw [this]; simp [tab]
theorem rd_set_same (x : List Int) (a : Nat) (y : Int) (h : a < x.length) : rd (x.set a y) (a : Int) = y := by
  rw [rd_get _ a (by simpa using h)]; simp
theorem rd_set_other (x : List Int) (a i : Nat) (y : Int) (hi : i < x.length) (h : a ≠ i) : rd (x.set a y) (i : Int) = rd x (i : Int) := by
  rw [rd_get _ i (by simpa using hi), rd_get x i hi, List.getElem_set_ne h]
theorem rd_zeros (n i : Nat) : rd (List.replicate n (0 : Int)) (i : Int) = 0 := by
  rw [rd_nat]
  by_cases h : i < n <;> simp [List.getD, h]

/-- A function that tells each number by the later ones. -/
theorem backRec (n : Nat) (G : (Nat → Int) → Nat → Int) (last : Int) (hG : ∀ v w a, (∀ i, a < i → i < n → v i = w i) → G v a = G w a) :
    ∃ v : Nat → Int, v (n - 1) = last ∧ ∀ a, a + 1 < n → v a = G v a := by
  suffices H : ∀ d, ∃ v : Nat → Int, v (n - 1) = last ∧ ∀ a, a + 1 < n → n ≤ a + 1 + d → v a = G v a by
    obtain ⟨v, h1, h2⟩ := H n
    exact ⟨v, h1, fun a ha => h2 a ha (by omega)⟩
  intro d
  induction d with
  | zero => exact ⟨fun _ => last, rfl, fun a h1 h2 => absurd h1 (by omega)⟩
  | succ d ih =>
    obtain ⟨v, h1, h2⟩ := ih
    by_cases hd : n ≤ d + 1
    · exact ⟨v, h1, fun a ha _ => h2 a ha (by omega)⟩
    · refine ⟨fun i => if i = n - 2 - d then G v (n - 2 - d) else v i, ?_, ?_⟩
      · simp only []
        rw [if_neg (by omega)]; exact h1
      · intro a ha hb
        simp only []
        have e : G (fun i => if i = n - 2 - d then G v (n - 2 - d) else v i) a = G v a := by
          apply hG
          intro i hi hn
          rw [if_neg (by omega)]
        rw [e]
        by_cases ea : a = n - 2 - d
        · rw [if_pos ea, ea]
        · rw [if_neg ea]; exact h2 a ha (by omega)
/-- A function that tells each number by the earlier ones. -/
theorem foreRec (n : Nat) (G : (Nat → Int) → Nat → Int) (first : Int) (hG : ∀ v w a, (∀ i, i < a → v i = w i) → G v a = G w a) :
    ∃ v : Nat → Int, v 0 = first ∧ ∀ a, 0 < a → a < n → v a = G v a := by
  suffices H : ∀ d, ∃ v : Nat → Int, v 0 = first ∧ ∀ a, 0 < a → a < n → a ≤ d → v a = G v a by
    obtain ⟨v, h1, h2⟩ := H n
    exact ⟨v, h1, fun a h0 ha => h2 a h0 ha (by omega)⟩
  intro d
  induction d with
  | zero => exact ⟨fun _ => first, rfl, fun a h1 _ h2 => absurd h1 (by omega)⟩
  | succ d ih =>
    obtain ⟨v, h1, h2⟩ := ih
    refine ⟨fun i => if i = d + 1 then G v (d + 1) else v i, ?_, ?_⟩
    · simp only []
      rw [if_neg (by omega)]; exact h1
    · intro a h0 ha hb
      simp only []
      have e : G (fun i => if i = d + 1 then G v (d + 1) else v i) a = G v a := by
        apply hG
        intro i hi
        rw [if_neg (by omega)]
      rw [e]
      by_cases ea : a = d + 1
      · rw [if_pos ea, ea]
      · rw [if_neg ea]; exact h2 a h0 ha (by omega)
theorem sumP_congr (p q : Nat → Int) : ∀ (d j : Nat), (∀ i, j ≤ i → i < j + d → p i = q i) → sumP p j d = sumP q j d
  | 0, _, _ => rfl
  | d + 1, j, h => by
    unfold sumP
    rw [h j (Nat.le_refl _) (by omega), sumP_congr p q d (j + 1) (fun i h1 h2 => h i (by omega) (by omega))]
end Go.Proofs.Ytmppchecbcflgaa.Pu
