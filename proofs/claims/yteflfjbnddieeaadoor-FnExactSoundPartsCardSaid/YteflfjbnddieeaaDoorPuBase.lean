/- Plain lemmas over the printed functions that most laws share: bounds, toIntS, eqIntS, within, allWithin, l1In, l1All. -/
import Derived.Test.YteflfjbnddieeaaDoorPrint18
import Derived.Test.YteflfjbnddieeaaDoorPrint1
namespace Go.Proofs.YteflfjbnddieeaaDoor.Pu
open Go.RowKit Go.Proofs.YteflfjbnddieeaaDoor.Print Go.Proofs.YteflfjbnddieeaaDoorW.PrintWords Go.Proofs.YteflfjbnddieeaaDoorW.PrintLast
set_option linter.unusedSimpArgs false
set_option linter.unusedVariables false

theorem w64 {n : Int} (h1 : -9223372036854775808 ≤ n) (h2 : n ≤ 9223372036854775807) : wrap64 n = n := by unfold wrap64; omega
theorem rd_nat (l : List Int) (j : Nat) : rd l (j : Int) = l.getD j 0 := by simp [rd]
theorem rd_get (l : List Int) (j : Nat) (h : j < l.length) : rd l (j : Int) = l[j] := by simp [rd, List.getD, h]
theorem within_eq (n lo hi : Int) : impl_within.f n lo hi = some (decide (lo ≤ n ∧ n ≤ hi)) := by
  unfold impl_within.f; split <;> simp_all; omega
theorem l1In_eq (n lo hi : Int) : spec_l1In.f n lo hi = some (decide (lo ≤ n ∧ n ≤ hi)) := by
  unfold spec_l1In.f; split <;> simp_all; omega
/-- Do all numbers lie between two others? -/
def allIn (l : List Int) (lo hi : Int) : Bool := l.all fun n => decide (lo ≤ n ∧ n ≤ hi)

theorem eqIntS_l0 (a b : List Int) (hl : a.length ≤ 4611686018427387904) (hab : a.length = b.length) :
    ∀ (d j : Nat), j + d = a.length → ∀ k, d < k → laws_eqIntS.l0 k a b (j : Int) = some (decide (a.drop j = b.drop j)) := by
  intro d
  induction d with
  | zero =>
    intro j hj k hk
    obtain ⟨k, rfl⟩ : ∃ m, k = m + 1 := ⟨k - 1, by omega⟩
    simp only [laws_eqIntS.l0]
    rw [if_neg (by omega), List.drop_of_length_le (by omega), List.drop_of_length_le (by omega)]; simp
  | succ d ih =>
    intro j hj k hk
    obtain ⟨k, rfl⟩ : ∃ m, k = m + 1 := ⟨k - 1, by omega⟩
    simp only [laws_eqIntS.l0]
    have hlt : j < a.length := by omega
    have hlt2 : j < b.length := by omega
    rw [if_pos (by omega), if_pos (by omega), if_pos (by omega), rd_get a j hlt, rd_get b j hlt2, List.drop_eq_getElem_cons hlt, List.drop_eq_getElem_cons hlt2]
    by_cases h : a[j] = b[j]
    · rw [if_pos h, w64 (by omega) (by omega), show ((j : Int) + 1) = ((j + 1 : Nat) : Int) by omega, ih (j + 1) (by omega) k (by omega)]
      congr 1; rw [decide_eq_decide, List.cons.injEq]; exact ⟨fun z => ⟨h, z⟩, fun z => z.2⟩
    · rw [if_neg h]; congr 1; symm; rw [decide_eq_false_iff_not, List.cons.injEq]; exact fun z => h z.1
theorem eqIntS_eq (a b : List Int) (hl : a.length ≤ 4611686018427387904) (k : Nat) (hk : a.length < k) : laws_eqIntS.f k a b = some (decide (a = b)) := by
  unfold laws_eqIntS.f
  by_cases h : (a.length : Int) = (b.length : Int)
  · rw [if_pos h]
    have := eqIntS_l0 a b hl (by omega) a.length 0 (by omega) k hk
    simpa using this
  · rw [if_neg h]
    congr 1
    symm
    rw [decide_eq_false_iff_not]
    rintro rfl
    exact h rfl
theorem eqIntS_refl (a : List Int) (hl : a.length ≤ 4611686018427387904) (k : Nat) (hk : a.length < k) : laws_eqIntS.f k a a = some true := by
  rw [eqIntS_eq a a hl k hk]; simp

end Go.Proofs.YteflfjbnddieeaaDoor.Pu
