/- The program's LongestSound answers as the reference's, for all texts. -/
import Derived.Test.YteflfjbnddieeaaDoorPuSound
import Derived.Test.YteflfjbnddieeaaDoorPrint16
import Derived.Test.YteflfjbnddieeaaDoorPrint15
import Derived.Test.YteflfjbnddieeaaDoorPrint12
namespace Go.Proofs.YteflfjbnddieeaaDoor.Pure
open Go.RowKit Go.Proofs.YteflfjbnddieeaaDoor.Print Go.Proofs.YteflfjbnddieeaaDoorW.PrintWords Go.Proofs.YteflfjbnddieeaaDoorW.PrintLast Go.Proofs.YteflfjbnddieeaaDoor.Pu
set_option linter.unusedSimpArgs false
set_option linter.unusedVariables false
/-- How many boards a part has. -/
def sizeOf_ (g : S52) : Int := g.f1 - g.f0 + 1
/-- The first of the longest parts, and how long it is. -/
def longest : Int → Int → List S52 → Int × Int
  | a, m, [] => (a, m)
  | a, m, g :: t => if sizeOf_ g > m then longest g.f0 (sizeOf_ g) t else longest a m t
theorem size_eq (g : S52) (h : 0 ≤ g.f0 ∧ g.f0 ≤ g.f1 ∧ g.f1 < 100) : impl_gap_size.f g.f0 g.f1 = some (sizeOf_ g) := by
  unfold impl_gap_size.f sizeOf_
  rw [w64 (n := g.f1 - g.f0) (by omega) (by omega), w64 (by omega) (by omega)]
theorem impl_l0 (G : List S52) (hG : ∀ g ∈ G, 0 ≤ g.f0 ∧ g.f0 ≤ g.f1 ∧ g.f1 < 100) (hl : G.length ≤ 1000) :
    ∀ (d j : Nat) (a m : Int), j + d = G.length → ∀ k, d < k → impl_LongestSound.l0 k a m G (G.length : Int) (j : Int) = some ((longest a m (G.drop j)).1, (longest a m (G.drop j)).2, decide ((longest a m (G.drop j)).2 > 0)) := by
  intro d
  induction d with
  | zero =>
    intro j a m hj k hk
    obtain ⟨k, rfl⟩ : ∃ m, k = m + 1 := ⟨k - 1, by omega⟩
    simp only [impl_LongestSound.l0]
    rw [if_neg (by omega), List.drop_of_length_le (by omega)]; rfl
  | succ d ih =>
    intro j a m hj k hk
    obtain ⟨k, rfl⟩ : ∃ m, k = m + 1 := ⟨k - 1, by omega⟩
    have hlt : j < G.length := by omega
    simp only [impl_LongestSound.l0]
    rw [if_pos (by omega), if_pos (by omega), if_pos (by omega), rdT_get G j hlt, size_eq _ (hG _ (List.getElem_mem hlt)), w64 (by omega) (by omega), show ((j : Int) + 1) = ((j + 1 : Nat) : Int) by omega, List.drop_eq_getElem_cons hlt, longest]
    simp only [Option.bind_some]
    by_cases h : sizeOf_ G[j] > m
    · rw [if_pos h, if_pos h, ih (j + 1) _ _ (by omega) k (by omega)]
    · rw [if_neg h, if_neg h, ih (j + 1) _ _ (by omega) k (by omega)]
theorem spec_l0 (G : List S52) (hG : ∀ g ∈ G, 0 ≤ g.f0 ∧ g.f0 ≤ g.f1 ∧ g.f1 < 100) (hl : G.length ≤ 1000) :
    ∀ (d j : Nat) (a m : Int), j + d = G.length → ∀ k, d < k → spec_LongestSound.l0 k a m (G.map partL) (G.length : Int) (j : Int) = some (if (longest a m (G.drop j)).2 = 0 then (0, 0, false) else ((longest a m (G.drop j)).1, (longest a m (G.drop j)).2, true)) := by
  intro d
  induction d with
  | zero =>
    intro j a m hj k hk
    obtain ⟨k, rfl⟩ : ∃ m, k = m + 1 := ⟨k - 1, by omega⟩
    simp only [spec_LongestSound.l0]
    rw [if_neg (by omega), List.drop_of_length_le (by omega), longest]
    split <;> rfl
  | succ d ih =>
    intro j a m hj k hk
    obtain ⟨k, rfl⟩ : ∃ m, k = m + 1 := ⟨k - 1, by omega⟩
    have hlt : j < G.length := by omega
    have hg := hG _ (List.getElem_mem hlt)
    have e1 : rd (partL G[j]) 1 = G[j].f1 := rfl
    have e0 : rd (partL G[j]) 0 = G[j].f0 := rfl
    have el : ((partL G[j]).length : Int) = 2 := rfl
    simp only [spec_LongestSound.l0]
    rw [rdL_map G j hlt, e1, e0, el, List.length_map, if_pos (by omega), if_pos (by omega), if_pos (by omega), if_pos (by omega), if_pos (by omega), w64 (n := G[j].f1 - G[j].f0) (by omega) (by omega), w64 (n := G[j].f1 - G[j].f0 + 1) (by omega) (by omega), w64 (n := (j : Int) + 1) (by omega) (by omega), show ((j : Int) + 1) = ((j + 1 : Nat) : Int) by omega, List.drop_eq_getElem_cons hlt, longest]
    by_cases h : sizeOf_ G[j] > m
    · rw [if_pos h, if_pos (show G[j].f1 - G[j].f0 + 1 > m from h), ih (j + 1) _ _ (by omega) k (by omega)]; rfl
    · rw [if_neg h, if_neg (show ¬ (G[j].f1 - G[j].f0 + 1 > m) from h), ih (j + 1) _ _ (by omega) k (by omega)]
theorem longest_zero : ∀ (G : List S52) (a m : Int), 0 ≤ m → (m = 0 → a = 0) → 0 ≤ (longest a m G).2 ∧ ((longest a m G).2 = 0 → (longest a m G).1 = 0)
  | [], _, _, hm, ha => ⟨hm, ha⟩
  | g :: t, a, m, hm, ha => by
    unfold longest
    split
    · exact longest_zero t _ _ (by omega) (fun e => by omega)
    · exact longest_zero t a m hm ha
theorem longest_both (s : ByteArray) : ∃ p : Int × Int × Bool, spec_LongestSound.f 100 s = some p ∧ impl_LongestSound.f 100 s = some p := by
  unfold spec_LongestSound.f impl_LongestSound.f
  rw [reGood_eq s 100 (by omega), isYard_eq]
  cases h : yardOk s with
  | false => exact ⟨(0, 0, false), rfl, rfl⟩
  | true =>
    have hs := yard_size h
    have hp := parts_ok h
    have hl := hp.len
    have hG : ∀ g ∈ parts s, 0 ≤ g.f0 ∧ g.f0 ≤ g.f1 ∧ g.f1 < 100 := fun g hg => by have := hp.ok g hg; omega
    simp only [Option.bind_some, if_true]
    rw [soundParts_eq h 100 (by omega), reSound_eq h 100 (by omega)]
    simp only [Option.bind_some]
    have h1 := impl_l0 (parts s) hG (by omega) (parts s).length 0 0 0 (by omega) 100 (by omega)
    have h2 := spec_l0 (parts s) hG (by omega) (parts s).length 0 0 0 (by omega) 100 (by omega)
    rw [List.drop_zero] at h1 h2
    have hz := longest_zero (parts s) 0 0 (by omega) (fun _ => rfl)
    rw [List.length_map]
    refine ⟨_, h2, ?_⟩
    refine Eq.trans h1 ?_
    by_cases e : (longest 0 0 (parts s)).2 = 0
    · rw [if_pos e, e, hz.2 e]; rfl
    · rw [if_neg e, decide_eq_true (by omega)]
theorem FnExactLongestSound : laws_FnExactLongestSound.Pure := by
  intro s _
  refine ⟨100, ?_⟩
  unfold laws_FnExactLongestSound.f
  by_cases e : (s.size : Int) > 1048576
  · rw [if_pos e]
  · obtain ⟨p, h1, h2⟩ := longest_both s
    rw [if_neg e, h1, h2]
    simp
end Go.Proofs.YteflfjbnddieeaaDoor.Pure
