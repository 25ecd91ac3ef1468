/- The program's MirrorHeights answers as the reference's, for every list; its result is new memory and a second call answers the same (lists of more than 2^20 numbers answer true at once). -/
import Derived.Test.YtoffojbcpnipmaaPuHeights
import Derived.Test.YtoffojbcpnipmaaPuColl
import Derived.Test.YtoffojbcpnipmaaPuMarks
import Derived.Test.YtoffojbcpnipmaaPrint6
namespace Go.Proofs.Ytoffojbcpnipmaa.Pure
open Go.RowKit Go.Proofs.Ytoffojbcpnipmaa.Print Go.Proofs.YtoffojbcpnipmaaW.PrintWords Go.Proofs.YtoffojbcpnipmaaW.PrintLast Go.Proofs.Ytoffojbcpnipmaa.Pu
set_option linter.unusedSimpArgs false
set_option linter.unusedVariables false
/-- The row while it is turned: what lies outside of [i, n - i) is turned already. -/
def half (l : List Int) (i j : Nat) : Int := if j < i ∨ l.length - i ≤ j then l.getD (l.length - 1 - j) 0 else l.getD j 0
theorem reverse_l0 (l : List Int) (hl : l.length ≤ 1048576) : ∀ (d i : Nat) (x : List Int), l.length ≤ 2 * i + d → i ≤ l.length → x.length = l.length → (∀ j, j < l.length → x.getD j 0 = half l i j) →
    ∀ k, d < k → slices_Reverse_int_int.l0 k x (i : Int) ((l.length : Int) - 1 - i) = some l.reverse := by
  intro d
  induction d using Nat.strongRecOn with
  | _ d ih =>
    intro i x hd hi hx hxj k hk
    obtain ⟨k, rfl⟩ : ∃ m, k = m + 1 := ⟨k - 1, by omega⟩
    simp only [slices_Reverse_int_int.l0]
    by_cases h : (i : Int) < (l.length : Int) - 1 - i
    · obtain ⟨e, he⟩ : ∃ e : Nat, (l.length : Int) - 1 - i = (e : Int) := ⟨l.length - 1 - i, by omega⟩
      have hel : e < l.length := by omega
      have hie : i < e := by omega
      rw [if_pos h, he, if_pos (by omega), if_pos (by omega), if_pos (by omega), if_pos (by omega), w64 (by omega) (by omega), w64 (by omega) (by omega), rd_nat, rd_nat, Int.toNat_natCast, Int.toNat_natCast]
      rw [show ((i : Int) + 1) = ((i + 1 : Nat) : Int) by omega, show ((e : Int) - 1) = (l.length : Int) - 1 - ((i + 1 : Nat) : Int) by omega]
      refine ih (d - 2) (by omega) (i + 1) _ (by omega) (by omega) (by simp [hx]) ?_ k (by omega)
      intro j hj
      have h1 := hxj i (by omega)
      have h2 := hxj e hel
      have h3 := hxj j hj
      simp only [List.getD_eq_getElem?_getD, List.getElem?_set, List.length_set] at *
      rw [h1, h2]
      unfold half at *
      rw [if_neg (show ¬ (i < i ∨ l.length - i ≤ i) by omega), if_neg (show ¬ (e < i ∨ l.length - i ≤ e) by omega)] at *
      by_cases e1 : e = j
      · subst e1
        rw [if_pos rfl, if_pos (by omega), if_pos (by omega), show l.length - 1 - e = i by omega]; rfl
      · rw [if_neg e1]
        by_cases e2 : i = j
        · subst e2
          rw [if_pos rfl, if_pos (by omega), if_pos (by omega), show l.length - 1 - i = e by omega]; rfl
        · rw [if_neg e2, h3]
          by_cases e3 : j < i ∨ l.length - i ≤ j
          · rw [if_pos e3, if_pos (by omega)]
          · rw [if_neg e3, if_neg (by omega)]
    · rw [if_neg h]
      congr 1
      apply List.ext_getElem
      · simp [hx]
      · intro j h1 h2
        have hj : j < l.length := by simpa using h2
        have := hxj j hj
        rw [List.getD_eq_getElem?_getD, List.getElem?_eq_getElem h1, Option.getD_some] at this
        rw [this, List.getElem_reverse]
        unfold half
        by_cases e3 : j < i ∨ l.length - i ≤ j
        · rw [if_pos e3, List.getD_eq_getElem?_getD, List.getElem?_eq_getElem (by omega), Option.getD_some]
        · rw [if_neg e3, List.getD_eq_getElem?_getD, List.getElem?_eq_getElem (by omega), Option.getD_some]
          congr 1; omega
theorem reverse_eq (l : List Int) (hl : l.length ≤ 1048576) (k : Nat) (hk : l.length < k) : slices_Reverse_int_int.f k l = some l.reverse := by
  unfold slices_Reverse_int_int.f
  rw [w64 (by omega) (by omega)]
  have := reverse_l0 l hl l.length 0 l (by omega) (by omega) rfl (fun j hj => by unfold half; rw [if_neg (by omega)]) k hk
  simpa using this
theorem mirror_l0 (l : List Int) (hl : l.length ≤ 1048576) : ∀ (d : Nat) (o : List Int), d ≤ l.length → o.length + d = l.length → ∀ k, d < k →
    spec_MirrorHeights.l0 k l o ((d : Int) - 1) = some (o ++ (l.take d).reverse, true) := by
  intro d
  induction d with
  | zero =>
    intro o h1 h2 k hk
    obtain ⟨k, rfl⟩ : ∃ m, k = m + 1 := ⟨k - 1, by omega⟩
    simp only [spec_MirrorHeights.l0]
    rw [if_neg (by omega)]; simp
  | succ d ih =>
    intro o h1 h2 k hk
    obtain ⟨k, rfl⟩ : ∃ m, k = m + 1 := ⟨k - 1, by omega⟩
    simp only [spec_MirrorHeights.l0]
    rw [show (((d + 1 : Nat) : Int) - 1) = (d : Int) by omega, if_pos (by omega), if_pos (by omega), if_pos (by omega), if_pos (by omega), w64 (by omega) (by omega), ih _ (by omega) (by simp; omega) k (by omega), rd_get l d (by omega), List.take_add_one, List.getElem?_eq_getElem (by omega)]
    simp only [Option.toList_some, List.reverse_append, List.reverse_cons, List.reverse_nil, List.nil_append, List.append_assoc]
theorem mirror_both (l : List Int) (hl : l.length ≤ 1048576) : ∃ (w : List Int) (o : Bool), w.length ≤ l.length ∧ ∀ k, l.length + 2 < k → spec_MirrorHeights.f k l = some (w, o) ∧ impl_MirrorHeights.f k l = some (w, o) := by
  cases hh : heightsOk l with
  | false =>
    refine ⟨[], false, by simp, fun k hk => ?_⟩
    unfold spec_MirrorHeights.f impl_MirrorHeights.f
    rw [caGood_eq l (by omega) k (by omega), areHeights_eq l (by omega) k (by omega), hh]
    exact ⟨rfl, rfl⟩
  | true =>
    refine ⟨l.reverse, true, by simp, fun k hk => ?_⟩
    unfold spec_MirrorHeights.f impl_MirrorHeights.f slices_Clone_int_int.f
    rw [caGood_eq l (by omega) k (by omega), areHeights_eq l (by omega) k (by omega), hh, if_pos (show l.length < 17592186044416 by omega)]
    simp only [Option.bind_some, if_true]
    rw [reverse_eq l hl k (by omega), w64 (by omega) (by omega), mirror_l0 l hl l.length [] (by omega) (by simp) k (by omega)]
    simp
theorem FnExactMirrorHeights : laws_FnExactMirrorHeights.Pure := by
  intro l hl _ _
  unfold maxLen at hl
  by_cases h : (l.length : Int) > 1048576
  · exact ⟨0, by unfold laws_FnExactMirrorHeights.f; rw [if_pos h]⟩
  · obtain ⟨w, o, hw, hk⟩ := mirror_both l (by omega)
    have hs := fun k h => (hk k h).1
    have hi := fun k h => (hk k h).2
    refine ⟨l.length + 10, ?_⟩
    unfold laws_FnExactMirrorHeights.f
    rw [if_neg h]
    simp (disch := omega) only [toIntS_eq, hs, hi, eqIntS_refl, Option.bind_some, bne_self_eq_false, Bool.false_eq_true, if_false, if_true]
    simp only [laws_FnExactMirrorHeights.j0]
    simp (disch := omega) only [toIntS_eq, eqIntS_refl, markIntS_eq, mark_lt, Option.bind_some, bne_self_eq_false, Bool.false_eq_true, if_false, if_true]
    simp only [laws_FnExactMirrorHeights.j1]
    simp (disch := omega) only [toIntS_eq, hi, eqIntS_refl, markIntS_eq, heldIntS_eq, mark_lt, Option.bind_some, bne_self_eq_false, Bool.false_eq_true, if_false, if_true]
    simp only [laws_FnExactMirrorHeights.j2]
    simp (disch := omega) only [heldIntS_eq, mark_lt, Option.bind_some, bne_self_eq_false, Bool.false_eq_true, if_false, if_true]
end Go.Proofs.Ytoffojbcpnipmaa.Pure
