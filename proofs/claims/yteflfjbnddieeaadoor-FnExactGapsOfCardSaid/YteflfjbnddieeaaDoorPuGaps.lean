/- The gaps between broken boards. -/
import Derived.Test.YteflfjbnddieeaaDoorPuYard
import Derived.Test.YteflfjbnddieeaaDoorPrint22
import Derived.Test.YteflfjbnddieeaaDoorPrint20
import Derived.Test.YteflfjbnddieeaaDoorPrint12
namespace Go.Proofs.YteflfjbnddieeaaDoor.Pu
open Go.RowKit Go.Proofs.YteflfjbnddieeaaDoor.Print Go.Proofs.YteflfjbnddieeaaDoorW.PrintWords Go.Proofs.YteflfjbnddieeaaDoorW.PrintLast
set_option linter.unusedSimpArgs false
set_option linter.unusedVariables false

/-- The gaps behind a broken board, for those behind it. -/
def gapsFrom : Int → List Int → List S52
  | _, [] => []
  | a, b :: t => if b > a + 1 then ⟨a + 1, b - 1⟩ :: gapsFrom b t else gapsFrom b t
/-- How many boards lie between broken ones. -/
def diffs : Int → List Int → List Int
  | _, [] => []
  | a, b :: t => (b - a - 1) :: diffs b t
def gapSize (g : S52) : Int := g.f1 - g.f0 + 1
/-- The gaps of a list of broken boards. -/
def gapsOf : List Int → List S52
  | [] => []
  | a :: t => gapsFrom a t
def diffsOf : List Int → List Int
  | [] => []
  | a :: t => diffs a t
theorem gapsFrom_length : ∀ (l : List Int) (a : Int), (gapsFrom a l).length ≤ l.length
  | [], _ => Nat.le_refl _
  | b :: t, a => by
    have := gapsFrom_length t b
    unfold gapsFrom
    split
    · simp; omega
    · simp; omega
theorem diffs_length : ∀ (l : List Int) (a : Int), (diffs a l).length = l.length
  | [], _ => rfl
  | b :: t, a => by rw [diffs, List.length_cons, diffs_length t b, List.length_cons]
theorem gaps_diffs : ∀ (l : List Int) (a : Int), (gapsFrom a l).map gapSize = (diffs a l).filter (fun x => decide (x > 0))
  | [], _ => rfl
  | b :: t, a => by
    rw [gapsFrom, diffs, List.filter_cons, ← gaps_diffs t b]
    by_cases h : b > a + 1
    · rw [if_pos h, if_pos (by simp; omega), List.map_cons]
      congr 1
      unfold gapSize; simp only []; omega
    · rw [if_neg h, if_neg (by simp; omega)]
theorem gaps_ok : ∀ (l : List Int) (a : Int), 0 ≤ a → (∀ x ∈ l, 0 ≤ x ∧ x < 30) → a < 30 → ∀ g ∈ gapsFrom a l, 0 ≤ g.f0 ∧ g.f0 ≤ g.f1 ∧ g.f1 < 30
  | [], _, _, _, _, g, hg => by simp [gapsFrom] at hg
  | b :: t, a, ha, h, ha2, g, hg => by
    have hb := h b List.mem_cons_self
    have ht := gaps_ok t b hb.1 (fun x hx => h x (List.mem_cons_of_mem _ hx)) hb.2
    unfold gapsFrom at hg
    split at hg
    · rcases List.mem_cons.1 hg with rfl | hg
      · simp only []; omega
      · exact ht g hg
    · exact ht g hg
theorem gaps_l0 (B : List Int) (hB : ∀ i : Nat, i < B.length → 0 ≤ rd B (i : Int) ∧ rd B (i : Int) ≤ 1000) (hl : B.length ≤ 1000) :
    ∀ (d j : Nat) (acc : List S52), (j + 1) + d = B.length → acc.length + d ≤ 1000 → ∀ k, d < k → impl_gaps.l0 k acc ((j + 1 : Nat) : Int) B = some (acc ++ gapsFrom (rd B (j : Int)) (B.drop (j + 1))) := by
  intro d
  induction d with
  | zero =>
    intro j acc hj ha k hk
    obtain ⟨k, rfl⟩ : ∃ m, k = m + 1 := ⟨k - 1, by omega⟩
    simp only [impl_gaps.l0]
    rw [if_neg (by omega), List.drop_of_length_le (by omega)]; simp [gapsFrom]
  | succ d ih =>
    intro j acc hj ha k hk
    obtain ⟨k, rfl⟩ : ∃ m, k = m + 1 := ⟨k - 1, by omega⟩
    have h1 := hB j (by omega)
    have h2 := hB (j + 1) (by omega)
    simp only [impl_gaps.l0]
    rw [if_pos (by omega), if_pos (by omega), w64 (n := ((j + 1 : Nat) : Int) - 1) (by omega) (by omega), show ((j + 1 : Nat) : Int) - 1 = (j : Int) by omega, if_pos (by omega), if_pos (by omega), w64 (n := rd B (j : Int) + 1) (by omega) (by omega), w64 (n := rd B ((j + 1 : Nat) : Int) - 1) (by omega) (by omega), w64 (n := ((j + 1 : Nat) : Int) + 1) (by omega) (by omega), show ((j + 1 : Nat) : Int) + 1 = ((j + 1 + 1 : Nat) : Int) by omega, List.drop_eq_getElem_cons (by omega : j + 1 < B.length), ← rd_get B (j + 1) (by omega), gapsFrom]
    by_cases h : rd B ((j + 1 : Nat) : Int) > rd B (j : Int) + 1
    · rw [if_pos h, if_pos h, if_pos (by omega), ih (j + 1) _ (by omega) (by simp; omega) k (by omega)]; simp
    · rw [if_neg h, if_neg h, ih (j + 1) _ (by omega) (by omega) k (by omega)]
theorem reGaps_l0 (B : List Int) (hB : ∀ i : Nat, i < B.length → 0 ≤ rd B (i : Int) ∧ rd B (i : Int) ≤ 1000) (hl : B.length ≤ 1000) :
    ∀ (d j : Nat) (acc : List Int), (j + 1) + d = B.length → acc.length + d ≤ 1000 → ∀ k, d < k → spec_reGaps.l0 k B acc ((j + 1 : Nat) : Int) = some (acc ++ diffs (rd B (j : Int)) (B.drop (j + 1))) := by
  intro d
  induction d with
  | zero =>
    intro j acc hj ha k hk
    obtain ⟨k, rfl⟩ : ∃ m, k = m + 1 := ⟨k - 1, by omega⟩
    simp only [spec_reGaps.l0]
    rw [if_neg (by omega), List.drop_of_length_le (by omega)]; simp [diffs]
  | succ d ih =>
    intro j acc hj ha k hk
    obtain ⟨k, rfl⟩ : ∃ m, k = m + 1 := ⟨k - 1, by omega⟩
    have h1 := hB j (by omega)
    have h2 := hB (j + 1) (by omega)
    simp only [spec_reGaps.l0]
    rw [if_pos (by omega), if_pos (by omega), w64 (n := ((j + 1 : Nat) : Int) - 1) (by omega) (by omega), show ((j + 1 : Nat) : Int) - 1 = (j : Int) by omega, if_pos (by omega), if_pos (by omega), if_pos (by omega), w64 (n := rd B ((j + 1 : Nat) : Int) - rd B (j : Int)) (by omega) (by omega), w64 (n := rd B ((j + 1 : Nat) : Int) - rd B (j : Int) - 1) (by omega) (by omega), w64 (n := ((j + 1 : Nat) : Int) + 1) (by omega) (by omega), show ((j + 1 : Nat) : Int) + 1 = ((j + 1 + 1 : Nat) : Int) by omega, List.drop_eq_getElem_cons (by omega : j + 1 < B.length), ← rd_get B (j + 1) (by omega), diffs, ih (j + 1) _ (by omega) (by simp; omega) k (by omega)]
    simp
theorem gaps_eq (s : ByteArray) (hs : s.size ≤ 30) (k : Nat) (hk : 60 < k) : impl_gaps.f k s = some (gapsOf (brokens s)) := by
  have hbl := brokens_length s hs
  unfold impl_gaps.f
  rw [broken_eq s hs k (by omega), Option.bind_some]
  have hrd := fun i hi => brokens_rd s hs i hi
  generalize hB : brokens s = B at hbl hrd ⊢
  cases B with
  | nil =>
    obtain ⟨k, rfl⟩ : ∃ m, k = m + 1 := ⟨k - 1, by omega⟩
    simp only [impl_gaps.l0]; rfl
  | cons a t =>
    have := gaps_l0 (a :: t) (fun i hi => by have := hrd i hi; omega) (by omega) t.length 0 [] (by simp; omega) (by simp at hbl ⊢; omega) k (by simp at hbl; omega)
    simpa [gapsOf, rd] using this
theorem reGaps_eq (s : ByteArray) (hs : s.size ≤ 30) (k : Nat) (hk : 60 < k) : spec_reGaps.f k (brokens s) = some (diffsOf (brokens s)) := by
  have hbl := brokens_length s hs
  unfold spec_reGaps.f
  have hrd := fun i hi => brokens_rd s hs i hi
  generalize hB : brokens s = B at hbl hrd ⊢
  cases B with
  | nil =>
    obtain ⟨k, rfl⟩ : ∃ m, k = m + 1 := ⟨k - 1, by omega⟩
    simp only [spec_reGaps.l0]; rfl
  | cons a t =>
    have := reGaps_l0 (a :: t) (fun i hi => by have := hrd i hi; omega) (by omega) t.length 0 [] (by simp; omega) (by simp at hbl ⊢; omega) k (by simp at hbl; omega)
    simpa [diffsOf, rd] using this
theorem gapSize_eq (g : S52) (h : 0 ≤ g.f0 ∧ g.f0 ≤ g.f1 ∧ g.f1 < 30) : impl_gap_size.f g.f0 g.f1 = some (gapSize g) := by
  unfold impl_gap_size.f gapSize
  rw [w64 (n := g.f1 - g.f0) (by omega) (by omega), w64 (by omega) (by omega)]
theorem gapsOf_ok (s : ByteArray) (hs : s.size ≤ 30) : ∀ g ∈ gapsOf (brokens s), 0 ≤ g.f0 ∧ g.f0 ≤ g.f1 ∧ g.f1 < 30 := by
  have hr : ∀ x ∈ brokens s, 0 ≤ x ∧ x < 30 := fun x hx => by
    have := coll_range (broke s) s.size 0 x hx; omega
  generalize brokens s = B at hr ⊢
  cases B with
  | nil => intro g hg; simp [gapsOf] at hg
  | cons a t =>
    have ha := hr a List.mem_cons_self
    exact gaps_ok t a ha.1 (fun x hx => hr x (List.mem_cons_of_mem _ hx)) ha.2
theorem gapsOf_length (l : List Int) : (gapsOf l).length ≤ l.length := by
  cases l with
  | nil => exact Nat.le_refl _
  | cons a t => have := gapsFrom_length t a; simp [gapsOf]; omega
theorem diffsOf_length (l : List Int) : (diffsOf l).length ≤ l.length := by
  cases l with
  | nil => exact Nat.le_refl _
  | cons a t => rw [diffsOf, diffs_length]; simp
theorem gapsOf_diffs (l : List Int) : (gapsOf l).map gapSize = (diffsOf l).filter (fun x => decide (x > 0)) := by
  cases l with
  | nil => rfl
  | cons a t => exact gaps_diffs t a
end Go.Proofs.YteflfjbnddieeaaDoor.Pu
