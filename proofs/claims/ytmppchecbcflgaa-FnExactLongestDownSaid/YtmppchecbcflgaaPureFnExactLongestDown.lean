/- The program's LongestDown answers as the reference's, for all arguments; its result is new memory and a second call answers the same. -/
import Derived.Test.YtmppchecbcflgaaPuLong
import Derived.Test.YtmppchecbcflgaaPuMarks
import Derived.Test.YtmppchecbcflgaaPrint12
namespace Go.Proofs.Ytmppchecbcflgaa.Pure
open Go.RowKit Go.Proofs.Ytmppchecbcflgaa.Print Go.Proofs.YtmppchecbcflgaaW.PrintWords Go.Proofs.YtmppchecbcflgaaW.PrintLast Go.Proofs.Ytmppchecbcflgaa.Pu
set_option linter.unusedSimpArgs false
set_option linter.unusedVariables false
theorem down_both (H : List Int) (r : Int) (hl : H.length ≤ 1048576) : ∃ (w : List Int) (o : Bool), w.length ≤ 100 ∧ ∀ k, H.length + 2000 < k → spec_LongestDown.f k H r = some (w, o) ∧ impl_LongestDown.f k H r = some (w, o) := by
  cases hg : (heightsOk H && decide (1 ≤ r ∧ r ≤ 20)) with
  | false =>
    refine ⟨[], false, by simp, fun k hk => ?_⟩
    unfold spec_LongestDown.f impl_LongestDown.f
    rw [areJumped_eq H r (by omega) k (by omega), caReach_eq H r (by omega) k (by omega), hg]
    exact ⟨rfl, rfl⟩
  | true =>
    have hh := hg
    unfold heightsOk at hh
    rw [Bool.and_eq_true, Bool.and_eq_true, decide_eq_true_eq] at hh
    have hn := hh.1.1
    obtain ⟨v, hv⟩ := lens_exist H r hn.1
    obtain ⟨M, a, hf, hend⟩ := impl_end hn.1 hn.2 r hv
    have haL := hf.lt
    have hva := hv.bd a hf.lt
    rw [hf.at_] at hva
    have hbst : bst v H.length H.length = M + 1 := by
      have h1 := bst_le v H.length (M + 1) (by omega) (fun q hq => by have := hf.most q hq; omega) H.length (Nat.le_refl _)
      have h2 := bst_ge v H.length H.length (Nat.le_refl _) a (by omega) hf.lt
      rw [hf.at_] at h2
      omega
    refine ⟨down H r v a, true, ?_, fun k hk => ?_⟩
    · have := pick_length H r v (H.length - 1 - a) a (a + 1)
      unfold down; simp; omega
    · unfold spec_LongestDown.f impl_LongestDown.f
      rw [areJumped_eq H r (by omega) k (by omega), caReach_eq H r (by omega) k (by omega), hg]
      simp only [Option.bind_some, if_true]
      rw [if_pos (by omega), if_pos (by omega), if_pos (by omega), if_pos (by omega), w64 (by omega) (by omega), Int.toNat_natCast]
      constructor
      · have := spec_l0 hn.2 r hv (down H r v a, true) 200 (fun k hk => by
          obtain ⟨k, rfl⟩ : ∃ m, k = m + 1 := ⟨k - 1, by omega⟩
          simp only [spec_LongestDown.l0]
          rw [if_neg (by omega), hbst]
          exact spec_first hn.2 r hv hf (by omega) a 0 (by omega) k (by omega)) H.length (List.replicate H.length 0) (Nat.le_refl _) (by simp) (fun q h1 h2 => absurd h1 (by omega)) k (by omega)
        rw [Nat.sub_self] at this
        exact this
      · exact impl_l0 hn.2 r hv (down H r v a, true) 200 (fun k hk => hend k (by omega)) H.length (List.replicate H.length 0) (Nat.le_refl _) (by simp) (fun q h1 h2 => absurd h1 (by omega)) (fun q _ => rd_zeros _ _) k (by omega)
theorem FnExactLongestDown : laws_FnExactLongestDown.Pure := by
  intro l s hl _ _ _
  unfold maxLen at hl
  by_cases h : (l.length : Int) > 1048576
  · exact ⟨0, by unfold laws_FnExactLongestDown.f; rw [if_pos h]⟩
  · obtain ⟨w, o, hw, hk⟩ := down_both l s (by omega)
    have hs := fun k h => (hk k h).1
    have hi := fun k h => (hk k h).2
    refine ⟨l.length + 2600, ?_⟩
    unfold laws_FnExactLongestDown.f
    rw [if_neg h]
    simp (disch := omega) only [toIntS_eq, hs, hi, eqIntS_refl, Option.bind_some, bne_self_eq_false, Bool.false_eq_true, if_false, if_true]
    simp only [laws_FnExactLongestDown.j0]
    simp (disch := omega) only [toIntS_eq, eqIntS_refl, markIntS_eq, mark_lt, Option.bind_some, bne_self_eq_false, Bool.false_eq_true, if_false, if_true]
    simp only [laws_FnExactLongestDown.j1]
    simp (disch := omega) only [toIntS_eq, hi, eqIntS_refl, markIntS_eq, heldIntS_eq, mark_lt, Option.bind_some, bne_self_eq_false, Bool.false_eq_true, if_false, if_true]
    simp only [laws_FnExactLongestDown.j2]
    simp (disch := omega) only [heldIntS_eq, mark_lt, Option.bind_some, bne_self_eq_false, Bool.false_eq_true, if_false, if_true]
end Go.Proofs.Ytmppchecbcflgaa.Pure
