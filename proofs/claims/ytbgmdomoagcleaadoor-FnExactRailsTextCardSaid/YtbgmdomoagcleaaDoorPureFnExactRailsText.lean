/- The program's RailsText answers as the reference's, for all arguments, and leaves its list as it was (lists of more than 2^20 numbers answer true at once). -/
import Derived.Test.YtbgmdomoagcleaaDoorPuText
import Derived.Test.YtbgmdomoagcleaaDoorPrint19
import Derived.Test.YtbgmdomoagcleaaDoorPrint18
import Derived.Test.YtbgmdomoagcleaaDoorPrint16
namespace Go.Proofs.YtbgmdomoagcleaaDoor.Pure
open Go.RowKit Go.Proofs.YtbgmdomoagcleaaDoor.Print Go.Proofs.YtbgmdomoagcleaaDoorW.PrintWords Go.Proofs.YtbgmdomoagcleaaDoorW.PrintLast Go.Proofs.YtbgmdomoagcleaaDoor.Pu
set_option linter.unusedSimpArgs false
set_option linter.unusedVariables false
def good (l : List Int) : Bool := decide (1 ≤ l.length ∧ l.length ≤ 8) && allIn l 1 500
theorem impl_good (l : List Int) (hl : l.length ≤ 1048576) (k : Nat) (hk : l.length < k) : impl_AreRails.f k l = some (good l) := by
  unfold impl_AreRails.f impl_areLong.f good
  rw [within_eq, Option.bind_some, allWithin_eq l 1 500 (by omega) k hk]
  by_cases h : 1 ≤ l.length ∧ l.length ≤ 8
  · rw [if_pos (decide_eq_true (by omega))]; simp [h]
  · rw [if_neg (by rw [decide_eq_true_eq]; omega)]; simp [h]
theorem spec_good (l : List Int) (hl : l.length ≤ 1048576) (k : Nat) (hk : l.length < k) : spec_poGood.f k l = some (good l) := by
  unfold spec_poGood.f good
  rw [l1In_eq, Option.bind_some, l1All_eq l 1 500 (by omega) k hk]
  by_cases h : 1 ≤ l.length ∧ l.length ≤ 8
  · rw [if_pos (decide_eq_true (by omega))]; simp [h]
  · rw [if_neg (by rw [decide_eq_true_eq]; omega)]; simp [h]
theorem text_both (l : List Int) (hl : l.length ≤ 1048576) : ∃ p : ByteArray × Bool, ∀ k, l.length + 60 < k → spec_RailsText.f k l = some p ∧ impl_RailsText.f k l = some p := by
  cases h : good l with
  | false =>
    refine ⟨(⟨#[]⟩, false), fun k hk => ?_⟩
    unfold spec_RailsText.f impl_RailsText.f
    rw [spec_good l hl k (by omega), impl_good l hl k (by omega), h]
    exact ⟨rfl, rfl⟩
  | true =>
    have hg := h
    unfold good at hg
    rw [Bool.and_eq_true, decide_eq_true_eq] at hg
    refine ⟨(txt (numText l), true), fun k hk => ?_⟩
    have hr : ∀ i : Nat, i < l.length → 0 ≤ rd l (i : Int) ∧ rd l (i : Int) < 1000000 := fun i hi => by
      have := allIn_rd hg.2 (i : Int) (by omega) (by omega); omega
    unfold spec_RailsText.f impl_RailsText.f impl_numbersText.f
    rw [spec_good l hl k (by omega), impl_good l hl k (by omega), h]
    have h1 := numbersText_l0 l hr hg.1.1 (by omega) l.length 0 (by omega) k (by omega)
    rw [List.take_zero] at h1
    obtain ⟨x, t, rfl⟩ : ∃ x t, l = x :: t := by
      cases l with
      | nil => simp at hg
      | cons x t => exact ⟨x, t, rfl⟩
    have h2 := shText_eq x t (fun i hi => by have := hr i hi; omega) (by omega) k (by simp at hk; omega)
    simp only [Option.bind_some, if_true]
    rw [h2]
    refine ⟨rfl, ?_⟩
    have h3 : impl_numbersText.l0 k (⟨#[45]⟩ : ByteArray) ([] : List ByteArray) (x :: t) ((x :: t).length : Int) 0 = some (txt (numText (x :: t))) := h1
    rw [h3]; rfl
theorem FnExactRailsText : laws_FnExactRailsText.Pure := by
  intro l hl _ _
  unfold maxLen at hl
  by_cases e : (l.length : Int) > 1048576
  · exact ⟨0, by unfold laws_FnExactRailsText.f; rw [if_pos e]⟩
  · obtain ⟨p, hp⟩ := text_both l (by omega)
    have hs := fun k z => (hp k z).1
    have hi := fun k z => (hp k z).2
    refine ⟨l.length + 70, ?_⟩
    unfold laws_FnExactRailsText.f
    rw [if_neg e]
    simp (disch := omega) only [toIntS_eq, hs, hi, Option.bind_some, bne_self_eq_false, Bool.false_eq_true, if_false, if_true]
    simp only [laws_FnExactRailsText.j0]
    simp (disch := omega) only [toIntS_eq, eqIntS_refl, Option.bind_some, Bool.false_eq_true, if_false, if_true]
end Go.Proofs.YtbgmdomoagcleaaDoor.Pure
