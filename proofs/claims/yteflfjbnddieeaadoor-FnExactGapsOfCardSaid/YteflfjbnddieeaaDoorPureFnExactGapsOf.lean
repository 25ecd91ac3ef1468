/- The program's GapsOf answers as the reference's, for all texts; its result is new memory and a second call answers the same. -/
import Derived.Test.YteflfjbnddieeaaDoorPuGaps
import Derived.Test.YteflfjbnddieeaaDoorPuMarks
import Derived.Test.YteflfjbnddieeaaDoorPrint24
import Derived.Test.YteflfjbnddieeaaDoorPrint21
import Derived.Test.YteflfjbnddieeaaDoorPrint23
namespace Go.Proofs.YteflfjbnddieeaaDoor.Pure
open Go.RowKit Go.Proofs.YteflfjbnddieeaaDoor.Print Go.Proofs.YteflfjbnddieeaaDoorW.PrintWords Go.Proofs.YteflfjbnddieeaaDoorW.PrintLast Go.Proofs.YteflfjbnddieeaaDoor.Pu
set_option linter.unusedSimpArgs false
set_option linter.unusedVariables false
theorem impl_l0 (G : List S52) (hG : ∀ g ∈ G, 0 ≤ g.f0 ∧ g.f0 ≤ g.f1 ∧ g.f1 < 30) (hl : G.length ≤ 1000) :
    ∀ (d j : Nat) (acc : List Int), j + d = G.length → acc.length + d ≤ 1000 → ∀ k, d < k → impl_GapsOf.l0 k acc G (G.length : Int) (j : Int) = some (acc ++ (G.drop j).map gapSize, true) := by
  intro d
  induction d with
  | zero =>
    intro j acc hj ha k hk
    obtain ⟨k, rfl⟩ : ∃ m, k = m + 1 := ⟨k - 1, by omega⟩
    simp only [impl_GapsOf.l0]
    rw [if_neg (by omega), List.drop_of_length_le (by omega)]; simp
  | succ d ih =>
    intro j acc hj ha k hk
    obtain ⟨k, rfl⟩ : ∃ m, k = m + 1 := ⟨k - 1, by omega⟩
    have hlt : j < G.length := by omega
    have e : rd_T52 G (j : Int) = G[j] := by simp [rd_T52, List.getD, hlt]
    simp only [impl_GapsOf.l0]
    rw [if_pos (by omega), if_pos (by omega), if_pos (by omega), e, gapSize_eq _ (hG _ (List.getElem_mem hlt)), Option.bind_some, if_pos (by omega), w64 (by omega) (by omega), show ((j : Int) + 1) = ((j + 1 : Nat) : Int) by omega, ih (j + 1) _ (by omega) (by simp; omega) k (by omega), List.drop_eq_getElem_cons hlt, List.map_cons, List.append_assoc]
    rfl
theorem spec_l0 (D : List Int) (hl : D.length ≤ 1000) :
    ∀ (d j : Nat) (acc : List Int), j + d = D.length → acc.length + d ≤ 1000 → ∀ k, d < k → spec_GapsOf.l0 k acc D (D.length : Int) (j : Int) = some (acc ++ (D.drop j).filter (fun x => decide (x > 0)), true) := by
  intro d
  induction d with
  | zero =>
    intro j acc hj ha k hk
    obtain ⟨k, rfl⟩ : ∃ m, k = m + 1 := ⟨k - 1, by omega⟩
    simp only [spec_GapsOf.l0]
    rw [if_neg (by omega), List.drop_of_length_le (by omega)]; simp
  | succ d ih =>
    intro j acc hj ha k hk
    obtain ⟨k, rfl⟩ : ∃ m, k = m + 1 := ⟨k - 1, by omega⟩
    have hlt : j < D.length := by omega
    simp only [spec_GapsOf.l0]
    rw [if_pos (by omega), if_pos (by omega), if_pos (by omega), w64 (by omega) (by omega), show ((j : Int) + 1) = ((j + 1 : Nat) : Int) by omega, rd_get D j hlt, List.drop_eq_getElem_cons hlt, List.filter_cons]
    by_cases h : D[j] > 0
    · rw [if_pos h, if_pos (by omega), if_pos (decide_eq_true h), ih (j + 1) _ (by omega) (by simp; omega) k (by omega)]; simp
    · rw [if_neg h, if_neg (by simpa using h), ih (j + 1) _ (by omega) (by omega) k (by omega)]
theorem gapsOf_both (s : ByteArray) : ∃ (w : List Int) (o : Bool), w.length ≤ 100 ∧ ∀ k, 80 < k → spec_GapsOf.f k s = some (w, o) ∧ impl_GapsOf.f k s = some (w, o) := by
  cases h : yardOk s with
  | false =>
    refine ⟨[], false, by simp, fun k hk => ?_⟩
    unfold spec_GapsOf.f impl_GapsOf.f
    rw [reGood_eq s k (by omega), isYard_eq, h]
    exact ⟨rfl, rfl⟩
  | true =>
    have hs := yard_size h
    have hl := brokens_length s hs.2
    have hg := gapsOf_length (brokens s)
    have hd := diffsOf_length (brokens s)
    refine ⟨(gapsOf (brokens s)).map gapSize, true, by simp; omega, fun k hk => ?_⟩
    unfold spec_GapsOf.f impl_GapsOf.f
    rw [reGood_eq s k (by omega), isYard_eq, h, reBroken_eq s hs.2 k (by omega), gaps_eq s hs.2 k (by omega)]
    simp only [Option.bind_some, if_true]
    rw [reGaps_eq s hs.2 k (by omega), Option.bind_some]
    have h1 := impl_l0 (gapsOf (brokens s)) (gapsOf_ok s hs.2) (by omega) _ 0 [] (Nat.zero_add _) (by simp; omega) k (by omega)
    have h2 := spec_l0 (diffsOf (brokens s)) (by omega) _ 0 [] (Nat.zero_add _) (by simp; omega) k (by omega)
    rw [List.drop_zero, List.nil_append, ← gapsOf_diffs] at h2
    rw [List.drop_zero, List.nil_append] at h1
    exact ⟨h2, h1⟩
theorem FnExactGapsOf : laws_FnExactGapsOf.Pure := by
  intro s _
  by_cases e : (s.size : Int) > 1048576
  · exact ⟨0, by unfold laws_FnExactGapsOf.f; rw [if_pos e]⟩
  · obtain ⟨w, o, hw, hk⟩ := gapsOf_both s
    have hs := fun k h => (hk k h).1
    have hi := fun k h => (hk k h).2
    refine ⟨300, ?_⟩
    unfold laws_FnExactGapsOf.f
    rw [if_neg e]
    simp (disch := omega) only [hs, hi, eqIntS_refl, Option.bind_some, bne_self_eq_false, Bool.false_eq_true, if_false, if_true]
    simp only [laws_FnExactGapsOf.j0]
    simp (disch := omega) only [hi, eqIntS_refl, markIntS_eq, heldIntS_eq, mark_lt, Option.bind_some, bne_self_eq_false, Bool.false_eq_true, if_false, if_true]
    simp only [laws_FnExactGapsOf.j1]
    simp (disch := omega) only [heldIntS_eq, mark_lt, Option.bind_some, bne_self_eq_false, Bool.false_eq_true, if_false, if_true]
end Go.Proofs.YteflfjbnddieeaaDoor.Pure
