/- The program's NeededBoards answers as the reference's, for all arguments; its result is new memory and a second call answers the same. -/
import Derived.Test.YtmppchecbcflgaaPuNeededAll
import Derived.Test.YtmppchecbcflgaaPuMarks
import Derived.Test.YtmppchecbcflgaaPrint39
namespace Go.Proofs.Ytmppchecbcflgaa.Pure
open Go.RowKit Go.Proofs.Ytmppchecbcflgaa.Print Go.Proofs.YtmppchecbcflgaaW.PrintWords Go.Proofs.YtmppchecbcflgaaW.PrintLast Go.Proofs.Ytmppchecbcflgaa.Pu
set_option linter.unusedSimpArgs false
set_option linter.unusedVariables false
theorem needed_both (h : List Int) (r c : Int) (hl : h.length ≤ 1048576) : ∃ (w : List Int) (o : Bool), w.length ≤ 100 ∧ ∀ k, h.length + 30000 < k → spec_NeededBoards.f k h r c = some (w, o) ∧ impl_NeededBoards.f k h r c = some (w, o) := by
  cases ha : (heightsOk h && decide (1 ≤ r ∧ r ≤ 20) && decide (0 ≤ c ∧ c ≤ 50)) with
  | false =>
    refine ⟨[], false, by simp, fun k hk => ?_⟩
    unfold spec_NeededBoards.f impl_NeededBoards.f
    rw [specFewest_bad h r c hl ha k (by omega), areClimbed_eq h r c (by omega) k (by omega), ha]
    exact ⟨rfl, rfl⟩
  | true =>
    have hh : heightsOk h = true := by
      rw [Bool.and_eq_true, Bool.and_eq_true] at ha; exact ha.1.1
    have hn := ((heightsOk_iff h).1 hh).1
    obtain ⟨t, ht⟩ := to_exists h r c
    obtain ⟨w, hw⟩ := from_exists h r c
    obtain ⟨v, hv⟩ := left_exists true h r c
    have hlf := left_from hh hv hw (h.length - 1) 0 (by omega)
    have hw0 := from_nonneg hw 0 (by omega)
    have hr := rd_tab w h.length 0 (by omega)
    simp only [Int.natCast_zero] at hr
    by_cases h0 : 0 ≤ v 0
    · have hlen := coll_length (needP t w) h.length 0
      have hlen2 := coll_length (reachP t) h.length 0
      have hp := hlf.1 h0
      refine ⟨coll (needP t w) 0 h.length, true, by omega, fun k hk => ?_⟩
      unfold spec_NeededBoards.f impl_NeededBoards.f impl_counter.f
      rw [specFewest_eq h r c hl ha v hv k (by omega), areClimbed_eq h r c (by omega) k (by omega), ha, if_pos h0]
      simp only [Option.bind_some, if_true]
      rw [ways_eq hh r c _ t w ht hw k (by omega), caReached_eq hh r c t ht k (by omega), caLeft_eq hh true r c v hv k (by omega)]
      simp only [Option.bind_some, tab_length]
      have h1 := implNeeded_l0 h hn.2 r c t w ht hw h.length 0 [] (by omega) (by simp) k (by omega)
      have h2 := needed_l0 hh r c v (coll (reachP t) 0 h.length) (by omega) (fun x hx => by
        obtain ⟨i, h1, h2, h3, h4⟩ := (coll_mem _ _ _ _).1 hx
        omega) h.length 0 [] (by omega) (by simp) k (by omega)
      rw [coll_congr (specNeed h r c v (coll (reachP t) 0 h.length)) (needP t w) _ _ (fun i _ h2 => specNeed_eq hh ht hw hv hp i (by omega))] at h2
      simp only [Int.natCast_zero, List.nil_append] at h1 h2
      rw [if_pos (by omega), hr, if_neg (by omega), h1, h2]
      first | exact ⟨rfl, rfl⟩ | simp
    · refine ⟨[], false, by simp, fun k hk => ?_⟩
      unfold spec_NeededBoards.f impl_NeededBoards.f impl_counter.f
      rw [specFewest_eq h r c hl ha v hv k (by omega), areClimbed_eq h r c (by omega) k (by omega), ha, if_neg h0]
      simp only [Option.bind_some, if_true]
      rw [ways_eq hh r c _ t w ht hw k (by omega)]
      simp only [Option.bind_some, tab_length, Bool.false_eq_true, if_false]
      rw [if_pos (by omega), hr, if_pos (by omega)]
      first | exact ⟨rfl, rfl⟩ | simp
theorem FnExactNeededBoards : laws_FnExactNeededBoards.Pure := by
  intro l r c hl _ _ _ _
  unfold maxLen at hl
  by_cases h : (l.length : Int) > 1048576
  · exact ⟨0, by unfold laws_FnExactNeededBoards.f; rw [if_pos h]⟩
  · obtain ⟨w, o, hw, hk⟩ := needed_both l r c (by omega)
    have hs := fun k h => (hk k h).1
    have hi := fun k h => (hk k h).2
    refine ⟨l.length + 30100, ?_⟩
    unfold laws_FnExactNeededBoards.f
    rw [if_neg h]
    simp (disch := omega) only [toIntS_eq, hs, hi, eqIntS_refl, Option.bind_some, bne_self_eq_false, Bool.false_eq_true, if_false, if_true]
    simp only [laws_FnExactNeededBoards.j0]
    simp (disch := omega) only [toIntS_eq, eqIntS_refl, markIntS_eq, mark_lt, Option.bind_some, bne_self_eq_false, Bool.false_eq_true, if_false, if_true]
    simp only [laws_FnExactNeededBoards.j1]
    simp (disch := omega) only [toIntS_eq, hi, eqIntS_refl, markIntS_eq, heldIntS_eq, mark_lt, Option.bind_some, bne_self_eq_false, Bool.false_eq_true, if_false, if_true]
    simp only [laws_FnExactNeededBoards.j2]
    simp (disch := omega) only [heldIntS_eq, mark_lt, Option.bind_some, bne_self_eq_false, Bool.false_eq_true, if_false, if_true]
end Go.Proofs.Ytmppchecbcflgaa.Pure
