/- Yards: what the program and the reference call a yard, and its broken boards. -/
import Derived.Test.YteflfjbnddieeaaDoorPuColl
import Derived.Test.YteflfjbnddieeaaDoorPrint1
import Derived.Test.YteflfjbnddieeaaDoorPrint3
import Derived.Test.YteflfjbnddieeaaDoorPrint7
import Derived.Test.YteflfjbnddieeaaDoorPrint9
namespace Go.Proofs.YteflfjbnddieeaaDoor.Pu
open Go.RowKit Go.Proofs.YteflfjbnddieeaaDoor.Print Go.Proofs.YteflfjbnddieeaaDoorW.PrintWords Go.Proofs.YteflfjbnddieeaaDoorW.PrintLast
set_option linter.unusedSimpArgs false
set_option linter.unusedVariables false

/-- Is board j broken? -/
def broke (s : ByteArray) (j : Nat) : Bool := decide (bt s (j : Int) = 120)
/-- Is there a board at j, broken or sound? -/
def boardAt (s : ByteArray) (j : Nat) : Bool := decide (bt s (j : Int) = 120 ∨ bt s (j : Int) = 111)
def yardOk (s : ByteArray) : Bool := decide (1 ≤ s.size ∧ s.size ≤ 30) && allP (boardAt s) 0 s.size
theorem yard_size {s : ByteArray} (h : yardOk s = true) : 1 ≤ s.size ∧ s.size ≤ 30 := by
  unfold yardOk at h
  rw [Bool.and_eq_true, decide_eq_true_eq] at h
  exact h.1
theorem yard_sound {s : ByteArray} (h : yardOk s = true) (j : Nat) (hj : j < s.size) (hb : broke s j = false) : bt s (j : Int) = 111 := by
  unfold yardOk at h
  rw [Bool.and_eq_true, allP_iff] at h
  have h2 := h.2 j (by omega) (by omega)
  unfold boardAt at h2
  unfold broke at hb
  rw [decide_eq_true_eq] at h2
  rw [decide_eq_false_iff_not] at hb
  omega
theorem reGood_l0 (s : ByteArray) (hs : s.size ≤ 1000) : ∀ (d j : Nat), j + d = s.size → ∀ k, d < k → spec_reGood.l0 k s (j : Int) = some (allP (boardAt s) j d) := by
  intro d
  induction d with
  | zero =>
    intro j hj k hk
    obtain ⟨k, rfl⟩ : ∃ m, k = m + 1 := ⟨k - 1, by omega⟩
    simp only [spec_reGood.l0]
    rw [if_neg (by omega)]; rfl
  | succ d ih =>
    intro j hj k hk
    obtain ⟨k, rfl⟩ : ∃ m, k = m + 1 := ⟨k - 1, by omega⟩
    simp only [spec_reGood.l0]
    rw [if_pos (by omega), if_pos (by omega), w64 (by omega) (by omega), show ((j : Int) + 1) = ((j + 1 : Nat) : Int) by omega, ih (j + 1) (by omega) k (by omega), allP]
    by_cases h1 : bt s (j : Int) = 120
    · rw [if_pos h1, show boardAt s j = true from decide_eq_true (Or.inl h1), Bool.true_and]
    · rw [if_neg h1]
      by_cases h2 : bt s (j : Int) = 111
      · rw [if_pos h2, show boardAt s j = true from decide_eq_true (Or.inr h2), Bool.true_and]
      · rw [if_neg h2, show boardAt s j = false from decide_eq_false (by omega), Bool.false_and]
theorem reGood_eq (s : ByteArray) (k : Nat) (hk : 40 < k) : spec_reGood.f k s = some (yardOk s) := by
  unfold spec_reGood.f yardOk
  rw [l1In_eq, Option.bind_some]
  by_cases h : 1 ≤ s.size ∧ s.size ≤ 30
  · rw [if_pos (decide_eq_true (by omega)), decide_eq_true h, Bool.true_and]
    exact reGood_l0 s (by omega) s.size 0 (by omega) k (by omega)
  · rw [if_neg (by rw [decide_eq_true_eq]; omega), decide_eq_false h, Bool.false_and]

theorem dropWhile_nil (p : UInt8 → Bool) : ∀ l : List UInt8, l.all p = true → l.dropWhile p = []
  | [], _ => rfl
  | a :: r, h => by
    rw [List.all_cons, Bool.and_eq_true] at h
    rw [List.dropWhile_cons, if_pos h.1]
    exact dropWhile_nil p r h.2
theorem dropWhile_all (p : UInt8 → Bool) : ∀ l : List UInt8, (l.dropWhile p).all p = true → l.all p = true
  | [], _ => rfl
  | a :: r, h => by
    by_cases e : p a = true
    · rw [List.dropWhile_cons, if_pos e] at h
      rw [List.all_cons, e, Bool.true_and]
      exact dropWhile_all p r h
    · rw [List.dropWhile_cons, if_neg e] at h
      exact h
theorem trimS_nil (l cs : List UInt8) : ((Lib.trimS l cs == ([] : List UInt8)) = true) ↔ (l.all (cs.contains ·)) = true := by
  unfold Lib.trimS Lib.trimLeftS Lib.trimRightS
  rw [beq_iff_eq]
  constructor
  · intro h
    have h1 := dropWhile_all (cs.contains ·) (l.reverse.dropWhile (cs.contains ·)).reverse (by rw [h]; rfl)
    rw [List.all_reverse] at h1
    have h2 := dropWhile_all (cs.contains ·) _ h1
    rwa [List.all_reverse] at h2
  · intro h
    rw [dropWhile_nil (cs.contains ·) l.reverse (by rwa [List.all_reverse])]
    rfl
theorem byte_xo (x : UInt8) : ([120, 111] : List UInt8).contains x = decide ((x.toNat : Int) = 120 ∨ (x.toNat : Int) = 111) := by
  by_cases h1 : x = 120
  · subst h1; decide
  · by_cases h2 : x = 111
    · subst h2; decide
    · have e1 : ¬ (x.toNat = 120) := fun e => h1 (UInt8.toNat_inj.1 (by simpa using e))
      have e2 : ¬ (x.toNat = 111) := fun e => h2 (UInt8.toNat_inj.1 (by simpa using e))
      rw [decide_eq_false (by omega)]
      simp [h1, h2]
theorem all_boards (s : ByteArray) : (s.data.toList.all (([120, 111] : List UInt8).contains ·)) = allP (boardAt s) 0 s.size := by
  rw [Bool.eq_iff_iff, allP_iff, List.all_eq_true]
  have hl : s.data.toList.length = s.size := Array.length_toList
  have e : ∀ (i : Nat) (h : i < s.data.toList.length), ((s.data.toList[i]'h).toNat : Int) = bt s (i : Int) := fun i h => by
    unfold bt
    rw [dif_pos (show (i : Int).toNat < s.size by rw [Int.toNat_natCast, ← hl]; exact h)]
    rfl
  constructor
  · intro h i _ hi
    have h1 := h (s.data.toList[i]'(by omega)) (List.getElem_mem _)
    rw [byte_xo, e i (by omega)] at h1
    exact h1
  · intro h x hx
    obtain ⟨i, hi, rfl⟩ := List.mem_iff_getElem.1 hx
    rw [byte_xo, e i hi]
    exact h i (by omega) (by omega)
theorem isYard_eq (s : ByteArray) : impl_IsYard.f s = some (yardOk s) := by
  unfold impl_IsYard.f yardOk
  rw [within_eq, Option.bind_some]
  by_cases h : 1 ≤ s.size ∧ s.size ≤ 30
  · rw [if_pos (decide_eq_true (by omega)), decide_eq_true h, Bool.true_and]
    unfold strings_Trim.f
    rw [if_pos ⟨by omega, by decide, by decide⟩, Option.bind_some, ByteArray.toList_eq]
    congr 1
    rw [Bool.eq_iff_iff, ← all_boards, ← trimS_nil]
  · rw [if_neg (by rw [decide_eq_true_eq]; omega), decide_eq_false h, Bool.false_and]
/-- All broken boards. -/
def brokens (s : ByteArray) : List Int := coll (broke s) 0 s.size
theorem coll_step (p : Nat → Bool) (acc : List Int) (j d : Nat) : acc ++ coll p j (d + 1) = (if p j = true then acc ++ [(j : Int)] else acc) ++ coll p (j + 1) d := by
  cases h : p j with
  | true => rw [coll_yes p j d h, if_pos rfl]; simp
  | false => rw [coll_no p j d h, if_neg (by simp)]
theorem reBroken_l0 (s : ByteArray) (hs : s.size ≤ 1000) : ∀ (d j : Nat) (acc : List Int), j + d = s.size → acc.length + d ≤ 1000 → ∀ k, d < k → spec_reBroken.l0 k s acc (j : Int) = some (acc ++ coll (broke s) j d) := by
  intro d
  induction d with
  | zero =>
    intro j acc hj ha k hk
    obtain ⟨k, rfl⟩ : ∃ m, k = m + 1 := ⟨k - 1, by omega⟩
    simp only [spec_reBroken.l0]
    rw [if_neg (by omega)]; simp [coll]
  | succ d ih =>
    intro j acc hj ha k hk
    obtain ⟨k, rfl⟩ : ∃ m, k = m + 1 := ⟨k - 1, by omega⟩
    simp only [spec_reBroken.l0]
    rw [if_pos (by omega), if_pos (by omega), w64 (by omega) (by omega), show ((j : Int) + 1) = ((j + 1 : Nat) : Int) by omega, coll_step]
    by_cases h1 : bt s (j : Int) = 120
    · rw [if_pos h1, if_pos (by omega), show broke s j = true from decide_eq_true h1, if_pos rfl]
      exact ih (j + 1) _ (by omega) (by simp; omega) k (by omega)
    · rw [if_neg h1, show broke s j = false from decide_eq_false h1, if_neg (by simp)]
      exact ih (j + 1) _ (by omega) (by omega) k (by omega)
theorem reBroken_eq (s : ByteArray) (hs : s.size ≤ 30) (k : Nat) (hk : 40 < k) : spec_reBroken.f k s = some (brokens s) := by
  unfold spec_reBroken.f
  exact reBroken_l0 s (by omega) s.size 0 [] (by omega) (by simp; omega) k (by omega)
theorem broken_l0 (s : ByteArray) (hs : s.size ≤ 1000) : ∀ (d j : Nat) (acc : List Int), j + d = s.size → acc.length + d ≤ 1000 → ∀ k, d < k → impl_broken.l0 k s acc (s.size : Int) (j : Int) = some (acc ++ coll (broke s) j d) := by
  intro d
  induction d with
  | zero =>
    intro j acc hj ha k hk
    obtain ⟨k, rfl⟩ : ∃ m, k = m + 1 := ⟨k - 1, by omega⟩
    simp only [impl_broken.l0]
    rw [if_neg (by omega)]; simp [coll]
  | succ d ih =>
    intro j acc hj ha k hk
    obtain ⟨k, rfl⟩ : ∃ m, k = m + 1 := ⟨k - 1, by omega⟩
    simp only [impl_broken.l0]
    rw [if_pos (by omega), if_pos (by omega), if_pos (by omega), w64 (by omega) (by omega), show ((j : Int) + 1) = ((j + 1 : Nat) : Int) by omega, coll_step]
    by_cases h1 : bt s (j : Int) = 120
    · rw [if_pos h1, if_pos (by omega), show broke s j = true from decide_eq_true h1, if_pos rfl]
      exact ih (j + 1) _ (by omega) (by simp; omega) k (by omega)
    · rw [if_neg h1, show broke s j = false from decide_eq_false h1, if_neg (by simp)]
      exact ih (j + 1) _ (by omega) (by omega) k (by omega)
theorem broken_eq (s : ByteArray) (hs : s.size ≤ 30) (k : Nat) (hk : 40 < k) : impl_broken.f k s = some (brokens s) := by
  unfold impl_broken.f
  exact broken_l0 s (by omega) s.size 0 [] (by omega) (by simp; omega) k (by omega)
theorem brokens_length (s : ByteArray) (hs : s.size ≤ 30) : (brokens s).length ≤ 30 := Nat.le_trans (coll_length _ _ _) hs
theorem coll_range (p : Nat → Bool) : ∀ (d j : Nat), ∀ x ∈ coll p j d, (j : Int) ≤ x ∧ x < ((j + d : Nat) : Int)
  | 0, j, x, h => by simp [coll] at h
  | d + 1, j, x, h => by
    unfold coll at h
    split at h
    · rcases List.mem_cons.1 h with rfl | h
      · omega
      · have := coll_range p d (j + 1) x h; omega
    · have := coll_range p d (j + 1) x h; omega
/-- Each number of a list is greater than the one before it. -/
def rising : Int → List Int → Prop
  | _, [] => True
  | a, b :: t => a < b ∧ rising b t
theorem coll_rising (p : Nat → Bool) : ∀ (d j : Nat) (a : Int), a < (j : Int) → rising a (coll p j d)
  | 0, _, _, _ => trivial
  | d + 1, j, a, h => by
    unfold coll
    split
    · exact ⟨h, coll_rising p d (j + 1) _ (by omega)⟩
    · exact coll_rising p d (j + 1) a (by omega)
theorem brokens_rd (s : ByteArray) (hs : s.size ≤ 30) (i : Nat) (hi : i < (brokens s).length) : 0 ≤ rd (brokens s) (i : Int) ∧ rd (brokens s) (i : Int) < 30 := by
  rw [rd_get _ i hi]
  have := coll_range (broke s) s.size 0 _ (List.getElem_mem hi)
  have e : (brokens s)[i] = (coll (broke s) 0 s.size)[i] := rfl
  rw [e]
  omega
end Go.Proofs.YteflfjbnddieeaaDoor.Pu
