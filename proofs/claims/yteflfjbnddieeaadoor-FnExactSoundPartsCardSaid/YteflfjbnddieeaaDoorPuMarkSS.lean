/- What the printed eqIntSS, markIntSS and heldIntSS compute: marks over a list of rows. -/
import Derived.Test.YteflfjbnddieeaaDoorPuMarks
import Derived.Test.YteflfjbnddieeaaDoorPrint19
import Derived.Test.YteflfjbnddieeaaDoorPrint30
import Derived.Test.YteflfjbnddieeaaDoorPrint29
import Derived.Test.YteflfjbnddieeaaDoorPrintMSS
namespace Go.Proofs.YteflfjbnddieeaaDoor.Pu
open Go.RowKit Go.Proofs.YteflfjbnddieeaaDoor.Print Go.Proofs.YteflfjbnddieeaaDoorW.PrintWords Go.Proofs.YteflfjbnddieeaaDoorW.PrintLast
set_option linter.unusedSimpArgs false
set_option linter.unusedVariables false

/-- How many numbers stand in a list of rows. -/
def total : List (List Int) → Nat
  | [] => 0
  | r :: a => r.length + total a
theorem total_sum (a : List (List Int)) : (a.map List.length).sum = total a := by
  induction a with
  | nil => rfl
  | cons r a ih => simp [total, ih]
theorem total_row {a : List (List Int)} {r : List Int} (h : r ∈ a) : r.length ≤ total a := by
  induction a with
  | nil => simp at h
  | cons q a ih =>
    rcases List.mem_cons.1 h with rfl | h
    · simp [total]
    · have := ih h; simp only [total]; omega
/-- The marks of a list of rows, from k0 on. -/
def marksS : List (List Int) → Int → List (List Int)
  | [], _ => []
  | r :: a, k0 => iota k0 r.length :: marksS a (k0 + r.length)
theorem marksS_length (a : List (List Int)) (k0 : Int) : (marksS a k0).length = a.length := by
  induction a generalizing k0 with
  | nil => rfl
  | cons r a ih => simp [marksS, ih]
theorem rdL_mid (pre : List (List Int)) (r : List Int) (a : List (List Int)) : rd_L2 (pre ++ r :: a) (pre.length : Int) = r := by simp [rd_L2, List.getD]
theorem eqIntSS_l0 (M : Nat) (hM : M ≤ 4611686018427387904) : ∀ (a pre : List (List Int)), (∀ r ∈ a, r.length ≤ M) → pre.length + a.length ≤ 4611686018427387904 →
    ∀ k, a.length + M < k → laws_eqIntSS.l0 k (pre ++ a) (pre ++ a) (pre.length : Int) = some true := by
  intro a
  induction a with
  | nil =>
    intro pre _ _ k hk
    obtain ⟨k, rfl⟩ : ∃ m, k = m + 1 := ⟨k - 1, by omega⟩
    simp only [laws_eqIntSS.l0]
    rw [if_neg (by simp)]
  | cons r a ih =>
    intro pre hr hp k hk
    simp only [List.length_cons] at hp hk
    obtain ⟨k, rfl⟩ : ∃ m, k = m + 1 := ⟨k - 1, by omega⟩
    have h := ih (pre ++ [r]) (fun q hq => hr q (List.mem_cons_of_mem _ hq)) (by simp; omega) k (by omega)
    have hr0 := hr r (List.mem_cons_self)
    simp only [laws_eqIntSS.l0]
    rw [if_pos (by simp only [List.length_append, List.length_cons]; omega), if_pos (by omega), if_pos (by simp only [List.length_append, List.length_cons]; omega), rdL_mid, eqIntS_refl r (by omega) k (by omega), w64 (by omega) (by omega), show ((pre.length : Int) + 1) = ((pre ++ [r]).length : Int) by simp]
    simp only [Option.bind_some, if_true]
    simpa using h
theorem eqIntSS_refl (a : List (List Int)) (hl : a.length ≤ 4611686018427387904) (M : Nat) (hM : M ≤ 4611686018427387904) (hr : ∀ r ∈ a, r.length ≤ M) (k : Nat) (hk : a.length + M < k) : laws_eqIntSS.f k a a = some true := by
  unfold laws_eqIntSS.f
  rw [if_pos rfl]
  exact eqIntSS_l0 M hM a [] hr (by simpa using hl) k hk
theorem markIntSS_l0 : ∀ (a pre : List (List Int)) (k0 : Int), 0 ≤ k0 → k0 + total a ≤ 4611686018427387904 → ∀ k, total a + a.length < k →
    laws_markIntSS.l0 k (pre ++ a) k0 (pre.length : Int) = some (k0 + total a, pre ++ marksS a k0) := by
  intro a
  induction a with
  | nil =>
    intro pre k0 _ _ k hk
    obtain ⟨k, rfl⟩ : ∃ m, k = m + 1 := ⟨k - 1, by omega⟩
    simp only [laws_markIntSS.l0]
    rw [if_neg (by simp)]
    simp [total, marksS]
  | cons r a ih =>
    intro pre k0 h0 hb k hk
    simp only [total, List.length_cons] at hb hk
    obtain ⟨k, rfl⟩ : ∃ m, k = m + 1 := ⟨k - 1, by omega⟩
    have h := ih (pre ++ [iota k0 r.length]) (k0 + r.length) (by omega) (by omega) k (by omega)
    simp only [laws_markIntSS.l0]
    rw [if_pos (by simp only [List.length_append, List.length_cons]; omega), if_pos (by omega), rdL_mid, markIntS_eq r k0 h0 (by omega) k (by omega)]
    simp only [Option.bind_some]
    rw [show (pre ++ r :: a).set (pre.length : Int).toNat (iota k0 r.length) = (pre ++ [iota k0 r.length]) ++ a by simp, show ((pre.length : Int) + 1) = ((pre ++ [iota k0 r.length]).length : Int) by simp, h]
    simp only [total, marksS, List.append_assoc, List.cons_append, List.nil_append]
    congr 2
    omega
theorem markIntSS_eq (a : List (List Int)) (k0 : Int) (h0 : 0 ≤ k0) (hb : k0 + total a ≤ 4611686018427387904) : laws_markIntSS.f a k0 = some (k0 + total a, marksS a k0) := by
  unfold laws_markIntSS.f
  have := markIntSS_l0 a [] k0 h0 hb ((a.map List.length).sum + a.length + 5) (by rw [total_sum]; omega)
  simpa using this
theorem heldIntSS_l0 : ∀ (a pre : List (List Int)) (k0 : Int), 0 ≤ k0 → k0 + total a ≤ 4611686018427387904 → pre.length + a.length ≤ 4611686018427387904 → ∀ k, total a + a.length < k →
    laws_heldIntSS.l0 k (pre ++ marksS a k0) k0 (pre.length : Int) = some (k0 + total a) := by
  intro a
  induction a with
  | nil =>
    intro pre k0 _ _ _ k hk
    obtain ⟨k, rfl⟩ : ∃ m, k = m + 1 := ⟨k - 1, by omega⟩
    simp only [laws_heldIntSS.l0]
    rw [if_neg (by simp [marksS])]
    simp [total]
  | cons r a ih =>
    intro pre k0 h0 hb hp k hk
    simp only [total, List.length_cons] at hb hk hp
    obtain ⟨k, rfl⟩ : ∃ m, k = m + 1 := ⟨k - 1, by omega⟩
    have h := ih (pre ++ [iota k0 r.length]) (k0 + r.length) (by omega) (by omega) (by simp; omega) k (by omega)
    show laws_heldIntSS.l0 (k + 1) (pre ++ iota k0 r.length :: marksS a (k0 + r.length)) k0 (pre.length : Int) = _
    simp only [laws_heldIntSS.l0]
    rw [if_pos (by simp only [List.length_append, List.length_cons]; omega), if_pos (by omega), rdL_mid, heldIntS_eq r.length k0 h0 (by omega) k (by omega)]
    simp only [Option.bind_some]
    rw [if_neg (by omega), w64 (by omega) (by omega), show ((pre.length : Int) + 1) = ((pre ++ [iota k0 r.length]).length : Int) by simp]
    rw [show (pre ++ iota k0 r.length :: marksS a (k0 + r.length)) = (pre ++ [iota k0 r.length]) ++ marksS a (k0 + r.length) by simp, h]
    simp only [total]
    congr 1
    omega
theorem heldIntSS_eq (a : List (List Int)) (k0 : Int) (h0 : 0 ≤ k0) (hb : k0 + total a ≤ 4611686018427387904) (hl : a.length ≤ 4611686018427387904) (k : Nat) (hk : total a + a.length < k) : laws_heldIntSS.f k (marksS a k0) k0 = some (k0 + total a) := by
  unfold laws_heldIntSS.f
  have := heldIntSS_l0 a [] k0 h0 hb (by simpa using hl) k hk
  simpa using this
end Go.Proofs.YteflfjbnddieeaaDoor.Pu
