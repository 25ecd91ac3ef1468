/- The program's ReachedBoards answers as the reference's, for all arguments; its result is new memory and a second call answers the same. -/
import Derived.Test.YtmppchecbcflgaaPuReached
import Derived.Test.YtmppchecbcflgaaPuMarks
import Derived.Test.YtmppchecbcflgaaPrint30
namespace Go.Proofs.Ytmppchecbcflgaa.Pure
open Go.RowKit Go.Proofs.Ytmppchecbcflgaa.Print Go.Proofs.YtmppchecbcflgaaW.PrintWords Go.Proofs.YtmppchecbcflgaaW.PrintLast Go.Proofs.Ytmppchecbcflgaa.Pu
set_option linter.unusedSimpArgs false
set_option linter.unusedVariables false
theorem reached_l0 (n : Nat) (hn : n ≤ 100) (v : Nat → Int) : ∀ (d j : Nat) (acc : List Int), j + d = n → acc.length ≤ j → ∀ k, d < k → impl_ReachedBoards.l0 k acc (tab v n) (n : Int) (j : Int) = some (acc ++ coll (reachP v) j d, true) := by
  intro d
  induction d with
  | zero =>
    intro j acc hj ha k hk
    obtain ⟨k, rfl⟩ : ∃ m, k = m + 1 := ⟨k - 1, by omega⟩
    simp only [impl_ReachedBoards.l0]
    rw [if_neg (by omega), coll, List.append_nil]
  | succ d ih =>
    intro j acc hj ha k hk
    obtain ⟨k, rfl⟩ : ∃ m, k = m + 1 := ⟨k - 1, by omega⟩
    simp only [impl_ReachedBoards.l0, tab_length]
    rw [if_pos (by omega), if_pos (by omega), if_pos (by omega), rd_tab v n j (by omega), w64 (by omega) (by omega), show ((j : Int) + 1) = ((j + 1 : Nat) : Int) by omega]
    by_cases h : v j > 0
    · rw [if_pos h, if_pos (by omega), ih (j + 1) _ (by omega) (by simp; omega) k (by omega), coll_yes _ _ _ (show reachP v j = true from decide_eq_true h)]; simp
    · rw [if_neg h, ih (j + 1) _ (by omega) (by omega) k (by omega), coll_no _ _ _ (show reachP v j = false from decide_eq_false h)]
theorem reached_both (h : List Int) (r c : Int) (hl : h.length ≤ 1048576) : ∃ (w : List Int) (o : Bool), w.length ≤ 100 ∧ ∀ k, h.length + 1400 < k → spec_ReachedBoards.f k h r c = some (w, o) ∧ impl_ReachedBoards.f k h r c = some (w, o) := by
  cases ha : (heightsOk h && decide (1 ≤ r ∧ r ≤ 20) && decide (0 ≤ c ∧ c ≤ 50)) with
  | false =>
    refine ⟨[], false, by simp, fun k hk => ?_⟩
    unfold spec_ReachedBoards.f impl_ReachedBoards.f
    rw [caAsked_eq h r c (by omega) k (by omega), areClimbed_eq h r c (by omega) k (by omega), ha]
    exact ⟨rfl, rfl⟩
  | true =>
    have hh : heightsOk h = true := by
      rw [Bool.and_eq_true, Bool.and_eq_true] at ha; exact ha.1.1
    have hn := ((heightsOk_iff h).1 hh).1
    obtain ⟨v, hv⟩ := to_exists h r c
    obtain ⟨w, hw⟩ := from_exists h r c
    have hlen := coll_length (reachP v) h.length 0
    refine ⟨coll (reachP v) 0 h.length, true, by omega, fun k hk => ?_⟩
    unfold spec_ReachedBoards.f impl_ReachedBoards.f impl_counter.f
    rw [caAsked_eq h r c (by omega) k (by omega), areClimbed_eq h r c (by omega) k (by omega), ha]
    simp only [Option.bind_some, if_true]
    rw [ways_eq hh r c _ v w hv hw k (by omega), caReached_eq hh r c v hv k (by omega)]
    simp only [Option.bind_some, tab_length]
    have := reached_l0 h.length (by omega) v h.length 0 [] (by omega) (by simp) k (by omega)
    simp only [Int.natCast_zero, List.nil_append] at this
    rw [this]
    first | exact ⟨rfl, rfl⟩ | simp
theorem FnExactReachedBoards : laws_FnExactReachedBoards.Pure := by
  intro l r c hl _ _ _ _
  unfold maxLen at hl
  by_cases h : (l.length : Int) > 1048576
  · exact ⟨0, by unfold laws_FnExactReachedBoards.f; rw [if_pos h]⟩
  · obtain ⟨w, o, hw, hk⟩ := reached_both l r c (by omega)
    have hs := fun k h => (hk k h).1
    have hi := fun k h => (hk k h).2
    refine ⟨l.length + 1600, ?_⟩
    unfold laws_FnExactReachedBoards.f
    rw [if_neg h]
    simp (disch := omega) only [toIntS_eq, hs, hi, eqIntS_refl, Option.bind_some, bne_self_eq_false, Bool.false_eq_true, if_false, if_true]
    simp only [laws_FnExactReachedBoards.j0]
    simp (disch := omega) only [toIntS_eq, eqIntS_refl, markIntS_eq, mark_lt, Option.bind_some, bne_self_eq_false, Bool.false_eq_true, if_false, if_true]
    simp only [laws_FnExactReachedBoards.j1]
    simp (disch := omega) only [toIntS_eq, hi, eqIntS_refl, markIntS_eq, heldIntS_eq, mark_lt, Option.bind_some, bne_self_eq_false, Bool.false_eq_true, if_false, if_true]
    simp only [laws_FnExactReachedBoards.j2]
    simp (disch := omega) only [heldIntS_eq, mark_lt, Option.bind_some, bne_self_eq_false, Bool.false_eq_true, if_false, if_true]
end Go.Proofs.Ytmppchecbcflgaa.Pure
