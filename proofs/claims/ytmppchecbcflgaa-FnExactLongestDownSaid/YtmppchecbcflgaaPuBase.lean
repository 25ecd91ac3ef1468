/- Plain lemmas over the printed functions that most laws share: bounds, toIntS, eqIntS, within, allWithin, l1In, l1All. -/
import Derived.Test.YtmppchecbcflgaaPrint1
import Derived.Test.YtmppchecbcflgaaPrint2
import Derived.Test.YtmppchecbcflgaaPrint7
import Derived.Test.YtmppchecbcflgaaPrint3
import Derived.Test.YtmppchecbcflgaaPrint6
namespace Go.Proofs.Ytmppchecbcflgaa.Pu
open Go.RowKit Go.Proofs.Ytmppchecbcflgaa.Print Go.Proofs.YtmppchecbcflgaaW.PrintWords Go.Proofs.YtmppchecbcflgaaW.PrintLast
set_option linter.unusedSimpArgs false
set_option linter.unusedVariables false

theorem w64 {n : Int} (h1 : -9223372036854775808 ≤ n) (h2 : n ≤ 9223372036854775807) : wrap64 n = n := by unfold wrap64; omega
theorem rd_nat (l : List Int) (j : Nat) : rd l (j : Int) = l.getD j 0 := by simp [rd]
theorem rd_get (l : List Int) (j : Nat) (h : j < l.length) : rd l (j : Int) = l[j] := by simp [rd, List.getD, h]
theorem within_eq (n lo hi : Int) : impl_within.f n lo hi = some (decide (lo ≤ n ∧ n ≤ hi)) := by
  unfold impl_within.f; split <;> simp_all; omega
theorem l1In_eq (n lo hi : Int) : spec_l1In.f n lo hi = some (decide (lo ≤ n ∧ n ≤ hi)) := by
  unfold spec_l1In.f; split <;> simp_all; omega
/-- Do all numbers lie between two others? -/
def allIn (l : List Int) (lo hi : Int) : Bool := l.all fun n => decide (lo ≤ n ∧ n ≤ hi)

theorem indexFunc_l0 (l : List Int) (p : Int → Option Bool) (q : Int → Bool) (hp : ∀ x, p x = some (q x)) (hl : l.length ≤ 4611686018427387904) :
    ∀ (d j : Nat), j + d = l.length → ∀ k, d < k →
      slices_IndexFunc_int_int.l0 k l p (l.length : Int) (j : Int) = some (match (l.drop j).findIdx? q with | some i => ((j + i : Nat) : Int) | none => -1) := by
  intro d
  induction d with
  | zero =>
    intro j hj k hk
    obtain ⟨k, rfl⟩ : ∃ m, k = m + 1 := ⟨k - 1, by omega⟩
    simp only [slices_IndexFunc_int_int.l0]
    rw [if_neg (by omega), List.drop_of_length_le (by omega)]; rfl
  | succ d ih =>
    intro j hj k hk
    obtain ⟨k, rfl⟩ : ∃ m, k = m + 1 := ⟨k - 1, by omega⟩
    simp only [slices_IndexFunc_int_int.l0]
    have hlt : j < l.length := by omega
    rw [if_pos (by omega), if_pos (by omega), if_pos (by omega), hp, rd_get l j hlt, List.drop_eq_getElem_cons hlt, List.findIdx?_cons]
    simp only [Option.bind_some]
    by_cases h : q l[j] = true
    · rw [if_pos h, if_pos h]; simp
    · rw [if_neg h, if_neg h, w64 (by omega) (by omega), show ((j : Int) + 1) = ((j + 1 : Nat) : Int) by omega, ih (j + 1) (by omega) k (by omega)]
      cases List.findIdx? q (List.drop (j + 1) l) with
      | none => rfl
      | some i => simp only [Option.map_some]; rw [show j + 1 + i = j + (i + 1) by omega]

theorem containsFunc_eq (l : List Int) (p : Int → Option Bool) (q : Int → Bool) (hp : ∀ x, p x = some (q x)) (hl : l.length ≤ 4611686018427387904) (k : Nat) (hk : l.length < k) :
    slices_ContainsFunc_int_int.f k l p = some (l.any q) := by
  unfold slices_ContainsFunc_int_int.f slices_IndexFunc_int_int.f
  have := indexFunc_l0 l p q hp hl l.length 0 (by omega) k hk
  simp only [Int.natCast_zero] at this
  rw [this]
  simp only [List.drop_zero, Option.bind_some]
  congr 1
  cases h : List.findIdx? q l with
  | none =>
    have := List.findIdx?_eq_none_iff.1 h
    simp only [ge_iff_le]
    rw [show decide ((0 : Int) ≤ -1) = false by decide]
    symm
    rw [List.any_eq_false]
    intro x hx; simp [this x hx]
  | some i =>
    have := List.findIdx?_eq_some_iff_getElem.1 h
    obtain ⟨h1, h2, _⟩ := this
    have : l.any q = true := List.any_eq_true.2 ⟨l[i], List.getElem_mem h1, h2⟩
    rw [this]; simp

theorem allWithin_eq (l : List Int) (lo hi : Int) (hl : l.length ≤ 4611686018427387904) (k : Nat) (hk : l.length < k) :
    impl_allWithin.f k l lo hi = some (allIn l lo hi) := by
  unfold impl_allWithin.f
  rw [containsFunc_eq l _ (fun x => !decide (lo ≤ x ∧ x ≤ hi)) (fun x => by simp [impl_allWithin_1.p, impl_allWithin_1.f, within_eq]) hl k hk]
  simp only [Option.bind_some, allIn]
  congr 1
  rw [← List.not_all_eq_any_not, Bool.not_not]

theorem l1All_l0 (l : List Int) (lo hi : Int) (hl : l.length ≤ 4611686018427387904) :
    ∀ (d j : Nat), j + d = l.length → ∀ k, d < k → spec_l1All.l0 k lo hi l (l.length : Int) (j : Int) = some (allIn (l.drop j) lo hi) := by
  intro d
  induction d with
  | zero =>
    intro j hj k hk
    obtain ⟨k, rfl⟩ : ∃ m, k = m + 1 := ⟨k - 1, by omega⟩
    simp only [spec_l1All.l0]
    rw [if_neg (by omega), List.drop_of_length_le (by omega)]; rfl
  | succ d ih =>
    intro j hj k hk
    obtain ⟨k, rfl⟩ : ∃ m, k = m + 1 := ⟨k - 1, by omega⟩
    simp only [spec_l1All.l0]
    have hlt : j < l.length := by omega
    rw [if_pos (by omega), if_pos (by omega), if_pos (by omega), l1In_eq, rd_get l j hlt, List.drop_eq_getElem_cons hlt]
    simp only [Option.bind_some]
    by_cases h : lo ≤ l[j] ∧ l[j] ≤ hi
    · rw [if_pos (by simp [h]), w64 (by omega) (by omega), show ((j : Int) + 1) = ((j + 1 : Nat) : Int) by omega, ih (j + 1) (by omega) k (by omega)]
      simp only [allIn, List.all_cons]
      rw [show decide (lo ≤ l[j] ∧ l[j] ≤ hi) = true by simpa using h, Bool.true_and]
    · rw [if_neg (by simpa using h)]
      simp only [allIn, List.all_cons]
      rw [show decide (lo ≤ l[j] ∧ l[j] ≤ hi) = false by simpa using h, Bool.false_and]
theorem l1All_eq (l : List Int) (lo hi : Int) (hl : l.length ≤ 4611686018427387904) (k : Nat) (hk : l.length < k) :
    spec_l1All.f k l lo hi = some (allIn l lo hi) := by
  unfold spec_l1All.f
  have := l1All_l0 l lo hi hl l.length 0 (by omega) k hk
  simpa using this

theorem toIntS_l0 (l : List Int) (hl : l.length ≤ 4611686018427387904) :
    ∀ (d j : Nat), j + d = l.length → ∀ (x : List Int), x.length = l.length → x.take j = l.take j → ∀ k, d < k → laws_toIntS.l0 k l x (j : Int) = some l := by
  intro d
  induction d with
  | zero =>
    intro j hj x hx hxl k hk
    obtain ⟨k, rfl⟩ : ∃ m, k = m + 1 := ⟨k - 1, by omega⟩
    simp only [laws_toIntS.l0]
    rw [if_neg (by omega)]
    rw [List.take_of_length_le (by omega), List.take_of_length_le (by omega)] at hxl
    rw [hxl]
  | succ d ih =>
    intro j hj x hx hxl k hk
    obtain ⟨k, rfl⟩ : ∃ m, k = m + 1 := ⟨k - 1, by omega⟩
    simp only [laws_toIntS.l0]
    have hlt : j < l.length := by omega
    rw [if_pos (by omega), if_pos (by omega), if_pos (by omega), w64 (by omega) (by omega), show ((j : Int) + 1) = ((j + 1 : Nat) : Int) by omega]
    refine ih (j + 1) (by omega) _ (by simpa using hx) ?_ k (by omega)
    rw [Int.toNat_natCast, List.take_add_one, List.take_add_one, List.take_set_of_le (Nat.le_refl j), hxl]
    congr 1
    rw [List.getElem?_set_self (by omega), List.getElem?_eq_getElem hlt, rd_get l j hlt]
theorem toIntS_eq (l : List Int) (hl : l.length ≤ 1048576) (k : Nat) (hk : l.length < k) : laws_toIntS.f k l = some l := by
  unfold laws_toIntS.f
  rw [if_pos (by omega), if_pos (by omega)]
  have := toIntS_l0 l (by omega) l.length 0 (by omega) (List.replicate ((l.length : Int)).toNat 0) (by simp) (by simp) k hk
  simpa using this

theorem eqIntS_l0 (a b : List Int) (hl : a.length ≤ 4611686018427387904) (hab : a.length = b.length) :
    ∀ (d j : Nat), j + d = a.length → ∀ k, d < k → laws_eqIntS.l0 k a b (j : Int) = some (decide (a.drop j = b.drop j)) := by
  intro d
  induction d with
  | zero =>
    intro j hj k hk
    obtain ⟨k, rfl⟩ : ∃ m, k = m + 1 := ⟨k - 1, by omega⟩
    simp only [laws_eqIntS.l0]
    rw [if_neg (by omega), List.drop_of_length_le (by omega), List.drop_of_length_le (by omega)]; simp
  | succ d ih =>
    intro j hj k hk
    obtain ⟨k, rfl⟩ : ∃ m, k = m + 1 := ⟨k - 1, by omega⟩
    simp only [laws_eqIntS.l0]
    have hlt : j < a.length := by omega
    have hlt2 : j < b.length := by omega
    rw [if_pos (by omega), if_pos (by omega), if_pos (by omega), rd_get a j hlt, rd_get b j hlt2, List.drop_eq_getElem_cons hlt, List.drop_eq_getElem_cons hlt2]
    by_cases h : a[j] = b[j]
    · rw [if_pos h, w64 (by omega) (by omega), show ((j : Int) + 1) = ((j + 1 : Nat) : Int) by omega, ih (j + 1) (by omega) k (by omega)]
      congr 1; rw [decide_eq_decide, List.cons.injEq]; exact ⟨fun z => ⟨h, z⟩, fun z => z.2⟩
    · rw [if_neg h]; congr 1; symm; rw [decide_eq_false_iff_not, List.cons.injEq]; exact fun z => h z.1
theorem eqIntS_eq (a b : List Int) (hl : a.length ≤ 4611686018427387904) (k : Nat) (hk : a.length < k) : laws_eqIntS.f k a b = some (decide (a = b)) := by
  unfold laws_eqIntS.f
  by_cases h : (a.length : Int) = (b.length : Int)
  · rw [if_pos h]
    have := eqIntS_l0 a b hl (by omega) a.length 0 (by omega) k hk
    simpa using this
  · rw [if_neg h]
    congr 1
    symm
    rw [decide_eq_false_iff_not]
    rintro rfl
    exact h rfl
theorem eqIntS_refl (a : List Int) (hl : a.length ≤ 4611686018427387904) (k : Nat) (hk : a.length < k) : laws_eqIntS.f k a a = some true := by
  rw [eqIntS_eq a a hl k hk]; simp

end Go.Proofs.Ytmppchecbcflgaa.Pu
