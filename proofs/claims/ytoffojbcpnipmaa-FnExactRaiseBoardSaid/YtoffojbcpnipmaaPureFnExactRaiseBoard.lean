/- The program's RaiseBoard answers as the reference's, for all arguments; its result is new memory and a second call answers the same (lists of more than 2^20 numbers answer true at once). -/
import Derived.Test.YtoffojbcpnipmaaPuHeights
import Derived.Test.YtoffojbcpnipmaaPuColl
import Derived.Test.YtoffojbcpnipmaaPuMarks
import Derived.Test.YtoffojbcpnipmaaPrint4
namespace Go.Proofs.Ytoffojbcpnipmaa.Pure
open Go.RowKit Go.Proofs.Ytoffojbcpnipmaa.Print Go.Proofs.YtoffojbcpnipmaaW.PrintWords Go.Proofs.YtoffojbcpnipmaaW.PrintLast Go.Proofs.Ytoffojbcpnipmaa.Pu
set_option linter.unusedSimpArgs false
set_option linter.unusedVariables false
theorem clone_eq (l : List Int) (h : l.length ≤ 1048576) : slices_Clone_int_int.f l = some l := by
  unfold slices_Clone_int_int.f; rw [if_pos (by omega)]
theorem own_eq (l : List Int) (h : l.length ≤ 1048576) : spec_l1Own.f l = some l := by
  unfold spec_l1Own.f; simp only [Option.bind_some, List.length_nil, List.nil_append]; rw [if_pos (by omega)]
theorem allIn_set {l : List Int} {lo hi : Int} (h : allIn l lo hi = true) (i : Nat) (hi' : i < l.length) (v : Int) : allIn (l.set i v) lo hi = decide (lo ≤ v ∧ v ≤ hi) := by
  unfold allIn at *
  rw [List.all_eq_true] at h
  rw [Bool.eq_iff_iff, List.all_eq_true, decide_eq_true_eq]
  constructor
  · intro hv
    have := hv v (by rw [List.mem_iff_getElem]; exact ⟨i, by simpa using hi', by simp⟩)
    exact of_decide_eq_true this
  · intro hv x hx
    rcases List.mem_or_eq_of_mem_set hx with h1 | h1
    · exact h x h1
    · subst h1; exact decide_eq_true hv
theorem raise_both (l : List Int) (b y : Int) (hl : l.length ≤ 1048576) : ∃ (w : List Int) (o : Bool), w.length ≤ l.length ∧ ∀ k, l.length + 2 < k → spec_RaiseBoard.f k l b y = some (w, o) ∧ impl_RaiseBoard.f k l b y = some (w, o) := by
  have bad : ∀ k, 0 < k → impl_RaiseBoard.j0 k l b y true = some ([], false) := by
    intro k hk
    obtain ⟨k, rfl⟩ : ∃ m, k = m + 1 := ⟨k - 1, by omega⟩
    simp only [impl_RaiseBoard.j0]; rfl
  cases hh : heightsOk l with
  | false =>
    refine ⟨[], false, by simp, fun k hk => ?_⟩
    unfold spec_RaiseBoard.f impl_RaiseBoard.f
    rw [caGood_eq l (by omega) k (by omega), areHeights_eq l (by omega) k (by omega), hh]
    exact ⟨rfl, bad k (by omega)⟩
  | true =>
    have hh2 := hh
    unfold heightsOk at hh2
    rw [Bool.and_eq_true, decide_eq_true_eq] at hh2
    obtain ⟨hn, ha⟩ := hh2
    by_cases h1 : 0 ≤ b ∧ b ≤ (l.length : Int) - 1
    · by_cases h2 : -50 ≤ y ∧ y ≤ 50
      · have hb := allIn_rd ha b h1.1 (by omega)
        have hset := allIn_set ha b.toNat (by omega) (rd l b + y)
        by_cases h3 : 0 ≤ rd l b + y ∧ rd l b + y ≤ 50
        · refine ⟨l.set b.toNat (rd l b + y), true, by simp, fun k hk => ?_⟩
          unfold spec_RaiseBoard.f impl_RaiseBoard.f
          rw [caGood_eq l (by omega) k (by omega), areHeights_eq l (by omega) k (by omega), hh, w64 (n := (l.length : Int) - 1) (by omega) (by omega)]
          obtain ⟨k, rfl⟩ : ∃ m, k = m + 1 := ⟨k - 1, by omega⟩
          simp only [l1In_eq, within_eq, decide_eq_true h1, decide_eq_true h2, Option.bind_some, if_true, Bool.not_true, impl_RaiseBoard.j0, Bool.false_eq_true, if_false, clone_eq l hl, own_eq l hl, if_pos h1.1, if_pos (show b < (l.length : Int) by omega), w64 (n := rd l b + y) (by omega) (by omega), decide_eq_true h3]
          have hok : heightsOk (l.set b.toNat (rd l b + y)) = true := by
            unfold heightsOk; rw [List.length_set, decide_eq_true hn, hset, decide_eq_true h3]; rfl
          rw [areHeights_eq _ (by simp; omega) k (by simp; omega), hok]
          exact ⟨trivial, rfl⟩
        · refine ⟨[], false, by simp, fun k hk => ?_⟩
          unfold spec_RaiseBoard.f impl_RaiseBoard.f
          rw [caGood_eq l (by omega) k (by omega), areHeights_eq l (by omega) k (by omega), hh, w64 (n := (l.length : Int) - 1) (by omega) (by omega)]
          obtain ⟨k, rfl⟩ : ∃ m, k = m + 1 := ⟨k - 1, by omega⟩
          simp only [l1In_eq, within_eq, decide_eq_true h1, decide_eq_true h2, Option.bind_some, if_true, Bool.not_true, impl_RaiseBoard.j0, Bool.false_eq_true, if_false, clone_eq l hl, if_pos h1.1, if_pos (show b < (l.length : Int) by omega), w64 (n := rd l b + y) (by omega) (by omega), decide_eq_false h3]
          have hok : heightsOk (l.set b.toNat (rd l b + y)) = false := by
            unfold heightsOk; rw [List.length_set, decide_eq_true hn, hset, decide_eq_false h3]; rfl
          rw [areHeights_eq _ (by simp; omega) k (by simp; omega), hok]
          exact ⟨trivial, rfl⟩
      · refine ⟨[], false, by simp, fun k hk => ?_⟩
        unfold spec_RaiseBoard.f impl_RaiseBoard.f
        rw [caGood_eq l (by omega) k (by omega), areHeights_eq l (by omega) k (by omega), hh, w64 (n := (l.length : Int) - 1) (by omega) (by omega)]
        simp only [l1In_eq, within_eq, decide_eq_true h1, decide_eq_false h2, Option.bind_some, if_true, Bool.not_false, bad k (by omega)]
        exact ⟨rfl, trivial⟩
    · refine ⟨[], false, by simp, fun k hk => ?_⟩
      unfold spec_RaiseBoard.f impl_RaiseBoard.f
      rw [caGood_eq l (by omega) k (by omega), areHeights_eq l (by omega) k (by omega), hh, w64 (n := (l.length : Int) - 1) (by omega) (by omega)]
      simp only [l1In_eq, within_eq, decide_eq_false h1, Option.bind_some, if_true, Bool.false_eq_true, if_false, bad k (by omega)]
      exact ⟨trivial, trivial⟩
theorem FnExactRaiseBoard : laws_FnExactRaiseBoard.Pure := by
  intro l b y hl _ _ _ _
  unfold maxLen at hl
  by_cases h : (l.length : Int) > 1048576
  · exact ⟨0, by unfold laws_FnExactRaiseBoard.f; rw [if_pos h]⟩
  · obtain ⟨w, o, hw, hk⟩ := raise_both l b y (by omega)
    have hs := fun k h => (hk k h).1
    have hi := fun k h => (hk k h).2
    refine ⟨l.length + 10, ?_⟩
    unfold laws_FnExactRaiseBoard.f
    rw [if_neg h]
    simp (disch := omega) only [toIntS_eq, hs, hi, eqIntS_refl, Option.bind_some, bne_self_eq_false, Bool.false_eq_true, if_false, if_true]
    simp only [laws_FnExactRaiseBoard.j0]
    simp (disch := omega) only [toIntS_eq, eqIntS_refl, markIntS_eq, mark_lt, Option.bind_some, bne_self_eq_false, Bool.false_eq_true, if_false, if_true]
    simp only [laws_FnExactRaiseBoard.j1]
    simp (disch := omega) only [toIntS_eq, hi, eqIntS_refl, markIntS_eq, heldIntS_eq, mark_lt, Option.bind_some, bne_self_eq_false, Bool.false_eq_true, if_false, if_true]
    simp only [laws_FnExactRaiseBoard.j2]
    simp (disch := omega) only [heldIntS_eq, mark_lt, Option.bind_some, bne_self_eq_false, Bool.false_eq_true, if_false, if_true]
end Go.Proofs.Ytoffojbcpnipmaa.Pure
