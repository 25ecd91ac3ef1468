/- The first boards of patches of one length: what the program and the reference make of the broken boards. -/
import Derived.Test.YteflfjbnddieeaaDoorPuYard
import Derived.Test.YteflfjbnddieeaaDoorPrint9
import Derived.Test.YteflfjbnddieeaaDoorPrint7
namespace Go.Proofs.YteflfjbnddieeaaDoor.Pu
open Go.RowKit Go.Proofs.YteflfjbnddieeaaDoor.Print Go.Proofs.YteflfjbnddieeaaDoorW.PrintWords Go.Proofs.YteflfjbnddieeaaDoorW.PrintLast
set_option linter.unusedSimpArgs false
set_option linter.unusedVariables false

/-- The first boards of patches of L boards for broken boards, none before the board next. -/
def starts (L : Int) : Int → List Int → List Int
  | _, [] => []
  | next, b :: t => if b ≥ next then b :: starts L (b + L) t else starts L next t
theorem starts_length (L : Int) : ∀ (l : List Int) (next : Int), (starts L next l).length ≤ l.length
  | [], _ => Nat.le_refl _
  | b :: t, next => by
    unfold starts
    split
    · have := starts_length L t (b + L); simp; omega
    · have := starts_length L t next; simp; omega
theorem startsOf_l0 (L : Int) (hL : 0 ≤ L ∧ L ≤ 1000) (B : List Int) (hB : ∀ i : Nat, i < B.length → 0 ≤ rd B (i : Int) ∧ rd B (i : Int) ≤ 1000) (hl : B.length ≤ 1000) :
    ∀ (d j : Nat) (out : List Int) (next : Int), j + d = B.length → out.length + d ≤ 1000 → ∀ k, d < k → impl_StartsOfLength.l0 k L out next B (B.length : Int) (j : Int) = some (out ++ starts L next (B.drop j), true) := by
  intro d
  induction d with
  | zero =>
    intro j out next hj ho k hk
    obtain ⟨k, rfl⟩ : ∃ m, k = m + 1 := ⟨k - 1, by omega⟩
    simp only [impl_StartsOfLength.l0]
    rw [if_neg (by omega), List.drop_of_length_le (by omega)]; simp [starts]
  | succ d ih =>
    intro j out next hj ho k hk
    obtain ⟨k, rfl⟩ : ∃ m, k = m + 1 := ⟨k - 1, by omega⟩
    have hlt : j < B.length := by omega
    have hb := hB j hlt
    simp only [impl_StartsOfLength.l0]
    rw [if_pos (by omega), if_pos (by omega), if_pos (by omega), if_pos (by omega : out.length < 17592186044416), w64 (n := (j : Int) + 1) (by omega) (by omega), w64 (n := rd B (j : Int) + L) (by omega) (by omega), show ((j : Int) + 1) = ((j + 1 : Nat) : Int) by omega, List.drop_eq_getElem_cons hlt, ← rd_get B j hlt, starts]
    by_cases h : rd B (j : Int) ≥ next
    · rw [if_pos h, if_pos h, ih (j + 1) _ _ (by omega) (by simp; omega) k (by omega)]; simp
    · rw [if_neg h, if_neg h, ih (j + 1) _ _ (by omega) (by omega) k (by omega)]
theorem rd_last (a : List Int) (x : Int) : rd (a ++ [x]) (a.length : Int) = x := by
  rw [rd_get _ a.length (by simp)]; simp
theorem reStarts_l0 (L : Int) (hL : 0 ≤ L ∧ L ≤ 1000) (B : List Int) (hB : ∀ i : Nat, i < B.length → 0 ≤ rd B (i : Int) ∧ rd B (i : Int) ≤ 1000) (hl : B.length ≤ 1000) :
    ∀ (d j : Nat) (out : List Int) (next : Int), j + d = B.length → out.length + d ≤ 1000 → (out = [] ∧ next = 0 ∨ ∃ a x, out = a ++ [x] ∧ 0 ≤ x ∧ x ≤ 1000 ∧ next = x + L) → ∀ k, d < k → spec_reStarts.l0 k L out B (B.length : Int) (j : Int) = some (out ++ starts L next (B.drop j)) := by
  intro d
  induction d with
  | zero =>
    intro j out next hj ho hn k hk
    obtain ⟨k, rfl⟩ : ∃ m, k = m + 1 := ⟨k - 1, by omega⟩
    simp only [spec_reStarts.l0]
    rw [if_neg (by omega), List.drop_of_length_le (by omega)]; simp [starts]
  | succ d ih =>
    intro j out next hj ho hn k hk
    obtain ⟨k, rfl⟩ : ∃ m, k = m + 1 := ⟨k - 1, by omega⟩
    have hlt : j < B.length := by omega
    have hb := hB j hlt
    simp only [spec_reStarts.l0]
    rw [if_pos (by omega), if_pos (by omega), if_pos (by omega), if_pos (by omega : out.length < 17592186044416), w64 (n := (j : Int) + 1) (by omega) (by omega), show ((j : Int) + 1) = ((j + 1 : Nat) : Int) by omega, List.drop_eq_getElem_cons hlt, ← rd_get B j hlt, starts, w64 (n := (out.length : Int) - 1) (by omega) (by omega)]
    rcases hn with ⟨rfl, rfl⟩ | ⟨a, x, rfl, hx0, hx1, rfl⟩
    · rw [if_pos (by simp), if_pos (by omega), ih (j + 1) _ (rd B (j : Int) + L) (by omega) (by simp; omega) (Or.inr ⟨[], _, rfl, by omega, by omega, rfl⟩) k (by omega)]; simp
    · have hlen : ((a ++ [x]).length : Int) - 1 = (a.length : Int) := by simp
      rw [hlen, if_neg (by omega), if_pos (by omega), if_pos (by omega), rd_last, w64 (n := x + L) (by omega) (by omega)]
      by_cases h : rd B (j : Int) ≥ x + L
      · rw [if_pos h, if_pos h, ih (j + 1) _ (rd B (j : Int) + L) (by omega) (by simp at ho ⊢; omega) (Or.inr ⟨a ++ [x], _, rfl, by omega, by omega, rfl⟩) k (by omega)]; simp
      · rw [if_neg h, if_neg h, ih (j + 1) _ (x + L) (by omega) (by omega) (Or.inr ⟨a, x, rfl, hx0, hx1, rfl⟩) k (by omega)]
theorem startsOf_eq (s : ByteArray) (L : Int) (k : Nat) (hk : 60 < k) : impl_StartsOfLength.f k s L = some (if yardOk s = true ∧ 1 ≤ L ∧ L ≤ 30 then (starts L 0 (brokens s), true) else ([], false)) := by
  obtain ⟨k, rfl⟩ : ∃ m, k = m + 1 := ⟨k - 1, by omega⟩
  unfold impl_StartsOfLength.f
  rw [isYard_eq, Option.bind_some]
  cases h : yardOk s with
  | false =>
    rw [if_neg (by simp), if_neg (by simp)]
    simp only [impl_StartsOfLength.j0, if_true]
  | true =>
    have hs := yard_size h
    have hbl := brokens_length s hs.2
    rw [if_pos rfl, within_eq, Option.bind_some]
    simp only [impl_StartsOfLength.j0]
    by_cases hL : 1 ≤ L ∧ L ≤ 30
    · rw [decide_eq_true hL, if_neg (by simp), broken_eq s hs.2 k (by omega), Option.bind_some, if_pos ⟨trivial, hL⟩]
      have := startsOf_l0 L (by omega) (brokens s) (fun i hi => by have := brokens_rd s hs.2 i hi; omega) (by omega) (brokens s).length 0 [] 0 (by omega) (by simp; omega) k (by omega)
      simpa using this
    · rw [decide_eq_false hL, if_pos (by simp), if_neg (fun z => hL z.2)]
theorem reStarts_eq (s : ByteArray) (hs : s.size ≤ 30) (L : Int) (hL : 1 ≤ L ∧ L ≤ 30) (k : Nat) (hk : 60 < k) : spec_reStarts.f k s L = some (starts L 0 (brokens s)) := by
  have hbl := brokens_length s hs
  unfold spec_reStarts.f
  rw [reBroken_eq s hs k (by omega), Option.bind_some]
  have := reStarts_l0 L (by omega) (brokens s) (fun i hi => by have := brokens_rd s hs i hi; omega) (by omega) (brokens s).length 0 [] 0 (by omega) (by simp; omega) (Or.inl ⟨rfl, rfl⟩) k (by omega)
  simpa using this
end Go.Proofs.YteflfjbnddieeaaDoor.Pu
