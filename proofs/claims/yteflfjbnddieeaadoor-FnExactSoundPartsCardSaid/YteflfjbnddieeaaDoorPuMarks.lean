/- What the printed markIntS and heldIntS compute. -/
import Derived.Test.YteflfjbnddieeaaDoorPuBase
import Derived.Test.YteflfjbnddieeaaDoorPrint19
namespace Go.Proofs.YteflfjbnddieeaaDoor.Pu
open Go.RowKit Go.Proofs.YteflfjbnddieeaaDoor.Print Go.Proofs.YteflfjbnddieeaaDoorW.PrintWords Go.Proofs.YteflfjbnddieeaaDoorW.PrintLast
set_option linter.unusedSimpArgs false
set_option linter.unusedVariables false

/-- The marks of a list of n cells, from k on. -/
def iota (k : Int) (n : Nat) : List Int := (List.range n).map fun (i : Nat) => k + (i : Int)
theorem iota_length (k : Int) (n : Nat) : (iota k n).length = n := by simp [iota]
theorem iota_get (k : Int) (n j : Nat) (h : j < (iota k n).length) : (iota k n)[j] = k + (j : Int) := by simp [iota]
theorem markIntS_l0 (a : List Int) (k0 : Int) (hk0 : 0 ≤ k0) (hb : k0 + a.length ≤ 4611686018427387904) :
    ∀ (d j : Nat), j + d = a.length → ∀ (x : List Int), x.length = a.length → x.take j = (iota k0 a.length).take j → ∀ k, d < k →
      laws_markIntS.l0 k x (k0 + j) (j : Int) = some (k0 + a.length, iota k0 a.length) := by
  intro d
  induction d with
  | zero =>
    intro j hj x hx hxl k hk
    obtain ⟨k, rfl⟩ : ∃ m, k = m + 1 := ⟨k - 1, by omega⟩
    simp only [laws_markIntS.l0]
    rw [if_neg (by omega)]
    rw [List.take_of_length_le (by omega), List.take_of_length_le (by simp [iota_length]; omega)] at hxl
    rw [hxl, show j = a.length by omega]
  | succ d ih =>
    intro j hj x hx hxl k hk
    obtain ⟨k, rfl⟩ : ∃ m, k = m + 1 := ⟨k - 1, by omega⟩
    simp only [laws_markIntS.l0]
    have hlt : j < a.length := by omega
    rw [if_pos (by omega), if_pos (by omega), w64 (by omega) (by omega), w64 (by omega) (by omega), show ((j : Int) + 1) = ((j + 1 : Nat) : Int) by omega, show (k0 + (j : Int) + 1) = k0 + ((j + 1 : Nat) : Int) by omega]
    refine ih (j + 1) (by omega) _ (by simpa using hx) ?_ k (by omega)
    have hlt2 : j < (iota k0 a.length).length := by rw [iota_length]; exact hlt
    rw [Int.toNat_natCast, List.take_add_one, List.take_add_one, List.take_set_of_le (Nat.le_refl j), hxl]
    congr 1
    rw [List.getElem?_set_self (by omega), List.getElem?_eq_getElem hlt2, iota_get]
theorem markIntS_eq (a : List Int) (k0 : Int) (hk0 : 0 ≤ k0) (hb : k0 + a.length ≤ 4611686018427387904) (k : Nat) (hk : a.length < k) :
    laws_markIntS.f k a k0 = some (k0 + a.length, iota k0 a.length) := by
  unfold laws_markIntS.f
  have := markIntS_l0 a k0 hk0 hb a.length 0 (by omega) a rfl (by simp) k hk
  simpa using this
theorem heldIntS_l0 (n : Nat) (k0 : Int) (hk0 : 0 ≤ k0) (hb : k0 + n ≤ 4611686018427387904) :
    ∀ (d j : Nat), j + d = n → ∀ k, d < k → laws_heldIntS.l0 k (iota k0 n) (k0 + j) (j : Int) = some (k0 + n) := by
  intro d
  induction d with
  | zero =>
    intro j hj k hk
    obtain ⟨k, rfl⟩ : ∃ m, k = m + 1 := ⟨k - 1, by omega⟩
    simp only [laws_heldIntS.l0]
    rw [if_neg (by rw [iota_length]; omega), show j = n by omega]
  | succ d ih =>
    intro j hj k hk
    obtain ⟨k, rfl⟩ : ∃ m, k = m + 1 := ⟨k - 1, by omega⟩
    simp only [laws_heldIntS.l0]
    have hlt2 : j < (iota k0 n).length := by rw [iota_length]; omega
    rw [if_pos (by rw [iota_length]; omega), if_pos (by omega), rd_get _ j hlt2, iota_get, if_pos rfl, w64 (by omega) (by omega), w64 (by omega) (by omega), show ((j : Int) + 1) = ((j + 1 : Nat) : Int) by omega, show (k0 + (j : Int) + 1) = k0 + ((j + 1 : Nat) : Int) by omega]
    exact ih (j + 1) (by omega) k (by omega)
theorem heldIntS_eq (n : Nat) (k0 : Int) (hk0 : 0 ≤ k0) (hb : k0 + n ≤ 4611686018427387904) (k : Nat) (hk : n < k) :
    laws_heldIntS.f k (iota k0 n) k0 = some (k0 + n) := by
  unfold laws_heldIntS.f
  have := heldIntS_l0 n k0 hk0 hb n 0 (by omega) k hk
  simpa using this

theorem mark_lt (n : Nat) : ((1 : Int) + (n : Int) < 0) = False := eq_false (by omega)
end Go.Proofs.YteflfjbnddieeaaDoor.Pu
