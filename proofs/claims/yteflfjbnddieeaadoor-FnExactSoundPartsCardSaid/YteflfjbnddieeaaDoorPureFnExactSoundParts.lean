/- The program's SoundParts answers as the reference's, for all texts; its result is new memory and a second call answers the same. -/
import Derived.Test.YteflfjbnddieeaaDoorPuSound
import Derived.Test.YteflfjbnddieeaaDoorPuMarkSS
import Derived.Test.YteflfjbnddieeaaDoorPrint28
import Derived.Test.YteflfjbnddieeaaDoorPrintSSSoundParts
namespace Go.Proofs.YteflfjbnddieeaaDoor.Pure
open Go.RowKit Go.Proofs.YteflfjbnddieeaaDoor.Print Go.Proofs.YteflfjbnddieeaaDoorW.PrintWords Go.Proofs.YteflfjbnddieeaaDoorW.PrintLast Go.Proofs.YteflfjbnddieeaaDoor.Pu
set_option linter.unusedSimpArgs false
set_option linter.unusedVariables false
theorem partL_total (G : List S52) : total (G.map partL) = 2 * G.length := by
  induction G with
  | nil => rfl
  | cons g G ih => simp only [List.map_cons, total, ih, partL, List.length_cons, List.length_nil]; omega
theorem soundParts_l0c (G : List S52) (hl : G.length ≤ 1000) : ∀ (d j : Nat), j + d = G.length → ∀ k, d < k →
    impl_SoundParts.l0 k ((G.take j).map partL) G (G.length : Int) (j : Int) = some (G.map partL, true) := by
  intro d
  induction d with
  | zero =>
    intro j hj k hk
    obtain ⟨k, rfl⟩ : ∃ m, k = m + 1 := ⟨k - 1, by omega⟩
    simp only [impl_SoundParts.l0]
    rw [if_neg (by omega), List.take_of_length_le (by omega)]
  | succ d ih =>
    intro j hj k hk
    obtain ⟨k, rfl⟩ : ∃ m, k = m + 1 := ⟨k - 1, by omega⟩
    have hlt : j < G.length := by omega
    simp only [impl_SoundParts.l0]
    rw [if_pos (by omega), if_pos (by omega), if_pos (by omega), if_pos (by simp; omega), w64 (by omega) (by omega), show ((j : Int) + 1) = ((j + 1 : Nat) : Int) by omega]
    have e : (G.take j).map partL ++ [[(rd_T52 G (j : Int)).f0, (rd_T52 G (j : Int)).f1]] = (G.take (j + 1)).map partL := by
      rw [rdT_get G j hlt, List.take_add_one, List.getElem?_eq_getElem hlt, List.map_append]; rfl
    rw [e]
    exact ih (j + 1) (by omega) k (by omega)
theorem soundParts_both (s : ByteArray) : ∃ (w : List (List Int)) (o : Bool), w.length ≤ 100 ∧ total w ≤ 200 ∧ ∀ k, 150 < k → spec_SoundParts.f k s = some (w, o) ∧ impl_SoundParts.f k s = some (w, o) := by
  cases h : yardOk s with
  | false =>
    refine ⟨[], false, by simp, by simp [total], fun k hk => ?_⟩
    unfold spec_SoundParts.f impl_SoundParts.f
    rw [reGood_eq s k (by omega), isYard_eq, h]
    exact ⟨rfl, rfl⟩
  | true =>
    have hs := yard_size h
    have hl := (parts_ok h).len
    refine ⟨(parts s).map partL, true, by simp; omega, by rw [partL_total]; omega, fun k hk => ?_⟩
    unfold spec_SoundParts.f impl_SoundParts.f
    rw [reGood_eq s k (by omega), isYard_eq, h, reSound_eq h k (by omega), soundParts_eq h k (by omega)]
    have := soundParts_l0c (parts s) (by omega) (parts s).length 0 (by omega) k (by omega)
    exact ⟨rfl, this⟩
theorem FnExactSoundParts : laws_FnExactSoundParts.Pure := by
  intro s _
  by_cases e : (s.size : Int) > 1048576
  · exact ⟨0, by unfold laws_FnExactSoundParts.f; rw [if_pos e]⟩
  · obtain ⟨w, o, hw, ht, hk⟩ := soundParts_both s
    have hs := fun k h => (hk k h).1
    have hi := fun k h => (hk k h).2
    have he := fun k (h : 400 < k) => eqIntSS_refl w (by omega) (total w) (by omega) (fun r hr => total_row hr) k (by omega)
    refine ⟨900, ?_⟩
    unfold laws_FnExactSoundParts.f
    rw [if_neg e]
    simp (disch := omega) only [hs, hi, he, Option.bind_some, bne_self_eq_false, Bool.false_eq_true, if_false, if_true]
    simp only [laws_FnExactSoundParts.j0]
    simp (disch := omega) only [hi, he, markIntSS_eq, heldIntSS_eq, mark_lt, Option.bind_some, bne_self_eq_false, Bool.false_eq_true, if_false, if_true]
    simp only [laws_FnExactSoundParts.j1]
    simp (disch := omega) only [heldIntSS_eq, mark_lt, Option.bind_some, bne_self_eq_false, Bool.false_eq_true, if_false, if_true]
end Go.Proofs.YteflfjbnddieeaaDoor.Pure
