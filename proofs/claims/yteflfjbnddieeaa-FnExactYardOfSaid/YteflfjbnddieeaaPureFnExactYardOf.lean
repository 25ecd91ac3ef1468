/- The program's YardOf answers as the reference's, for all arguments, and leaves its list as it was (lists of more than 2^20 numbers answer true at once). -/
import Derived.Test.YteflfjbnddieeaaPuRising
import Derived.Test.YteflfjbnddieeaaPrint9
import Derived.Test.YteflfjbnddieeaaPrint7
import Derived.Test.YteflfjbnddieeaaPrint3
import Derived.Test.YteflfjbnddieeaaPrint6
namespace Go.Proofs.Yteflfjbnddieeaa.Pure
open Go.RowKit Go.Proofs.Yteflfjbnddieeaa.Print Go.Proofs.YteflfjbnddieeaaW.PrintWords Go.Proofs.YteflfjbnddieeaaW.PrintLast Go.Proofs.Yteflfjbnddieeaa.Pu
set_option linter.unusedSimpArgs false
set_option linter.unusedVariables false
/-- The byte of board q where the boards of a list are broken. -/
def mark (M : List Int) (q : Nat) : Int := if (q : Int) ∈ M then 120 else 111
theorem take_snoc (L : List Int) (j : Nat) (h : j < L.length) : L.take (j + 1) = L.take j ++ [L[j]] := by
  rw [List.take_add_one, List.getElem?_eq_getElem h]; rfl
theorem impl_l0 (N : Nat) (hN : N ≤ 30) (L : List Int) (hL : allIn L 0 ((N : Int) - 1) = true) :
    ∀ (d j : Nat) (out : List Int), j + d = L.length → out.length = N → (∀ q : Nat, q < N → rd out (q : Int) = mark (L.take j) q) → ∀ k, d < k → impl_YardOf.l0 k L out (j : Int) = some (if rise (L.drop (j - 1)) = true then (strOfNums (tab (mark L) N), true) else ((⟨#[]⟩ : ByteArray), false)) := by
  intro d
  induction d with
  | zero =>
    intro j out hj ho hr k hk
    obtain ⟨k, rfl⟩ : ∃ m, k = m + 1 := ⟨k - 1, by omega⟩
    simp only [impl_YardOf.l0]
    rw [if_neg (by omega), rise_last L (j - 1) (by omega), if_pos rfl]
    rw [List.take_of_length_le (by omega)] at hr
    rw [eq_tab (mark L) N out ho hr]
  | succ d ih =>
    intro j out hj ho hr k hk
    obtain ⟨k, rfl⟩ : ∃ m, k = m + 1 := ⟨k - 1, by omega⟩
    have hlt : j < L.length := by omega
    have hb := allIn_get hL j hlt
    obtain ⟨c, hc⟩ := Int.eq_ofNat_of_zero_le hb.1
    have hstep := fun k hk => ih (j + 1) (out.set c 120) (by omega) (by rw [List.length_set]; exact ho) (fun q hq => by
      rw [take_snoc L j hlt]
      by_cases e : c = q
      · subst e
        rw [rd_set_same _ _ _ (by omega)]
        unfold mark
        rw [if_pos (by rw [hc]; simp)]
      · rw [rd_set_other _ _ _ _ (by omega) e, hr q hq]
        unfold mark
        congr 1
        rw [List.mem_append]
        simp only [List.mem_cons, List.not_mem_nil, or_false, hc]
        apply propext
        constructor
        · exact Or.inl
        · rintro (h | h)
          · exact h
          · omega) k hk
    simp only [impl_YardOf.l0]
    rw [if_pos (by omega), rd_get L j hlt, hc]
    rw [show ((j : Int) + 1) = ((j + 1 : Nat) : Int) by omega, Int.toNat_natCast, hstep k (by omega), show j + 1 - 1 = j by omega]
    cases j with
    | zero =>
      rw [if_neg (fun z => absurd z.1 (by omega)), if_pos (by omega)]
    | succ p =>
      have hlt2 : p < L.length := by omega
      rw [show ((p + 1 : Nat) : Int) - 1 = (p : Int) by omega, rd_get L p hlt2, show p + 1 - 1 = p by omega, rise_step L p hlt, hc]
      by_cases cc : L[p] ≥ (c : Int)
      · rw [if_pos ⟨by omega, cc⟩, decide_eq_false (by omega), Bool.false_and, if_neg (by simp)]
      · rw [if_neg (fun z => cc z.2), if_pos (by omega), decide_eq_true (by omega), Bool.true_and]
theorem strs_append (a b : List Int) : strOfNums a ++ strOfNums b = strOfNums (a ++ b) := by
  apply ByteArray.ext
  rw [ByteArray.data_append]
  apply Array.ext'
  simp [strOfNums]
theorem tab_snoc (v : Nat → Int) (n : Nat) : tab v (n + 1) = tab v n ++ [v n] := by unfold tab; rw [List.range_succ, List.map_append]; rfl
theorem spec_l0 (N : Nat) (hN : N ≤ 30) (L : List Int) (hL : L.length ≤ 1048576) :
    ∀ (d i : Nat), i + d = N → ∀ k, L.length + d + 1 < k → spec_YardOf.l0 k (N : Int) L (strOfNums (tab (mark L) i)) (i : Int) = some (strOfNums (tab (mark L) N), true) := by
  intro d
  induction d with
  | zero =>
    intro i hi k hk
    obtain ⟨k, rfl⟩ : ∃ m, k = m + 1 := ⟨k - 1, by omega⟩
    simp only [spec_YardOf.l0]
    rw [if_neg (by omega), show i = N by omega]
  | succ d ih =>
    intro i hi k hk
    obtain ⟨k, rfl⟩ : ∃ m, k = m + 1 := ⟨k - 1, by omega⟩
    have hsz : (strOfNums (tab (mark L) i)).size = i := by rw [strOfNums_size, tab_length]
    have h1 := ih (i + 1) (by omega) k (by omega)
    rw [tab_snoc, ← strs_append] at h1
    simp only [spec_YardOf.l0]
    rw [if_pos (by omega), l1Has_eq L (i : Int) hL k (by omega), Option.bind_some, hsz, w64 (by omega) (by omega), show ((i : Int) + 1) = ((i + 1 : Nat) : Int) by omega]
    by_cases hm : (i : Int) ∈ L
    · rw [show mark L i = 120 from if_pos hm] at h1
      rw [if_pos (decide_eq_true hm), if_pos (by omega)]
      exact h1
    · rw [show mark L i = 111 from if_neg hm] at h1
      rw [if_neg (by simpa using hm), if_pos (by omega)]
      exact h1
theorem repeatL_one (n : Nat) : Lib.repeatL [111] n = List.replicate n (111 : UInt8) := by
  induction n with
  | zero => rfl
  | succ n ih => rw [Lib.repeatL, ih]; rfl
theorem repeat_bytes (N : Nat) (h : N ≤ 30) : ∃ s : ByteArray, strings_Repeat.f (⟨#[111]⟩ : ByteArray) (N : Int) = some s ∧ s.size = N ∧ bytesOf s = List.replicate N 111 := by
  refine ⟨⟨(List.replicate N (111 : UInt8)).toArray⟩, ?_, by simp [ByteArray.size], ?_⟩
  · unfold strings_Repeat.f
    rw [if_pos ⟨by omega, by omega, by rw [show (⟨#[111]⟩ : ByteArray).size = 1 from rfl]; omega⟩, Int.toNat_natCast, show (⟨#[111]⟩ : ByteArray).data.toList = [111] from rfl, repeatL_one]
  · unfold bytesOf
    simp
theorem yardOf_both (b : Int) (L : List Int) (hl : L.length ≤ 1048576) : ∃ p : ByteArray × Bool, impl_YardOf.f b L = some p ∧ ∀ k, L.length + 60 < k → spec_YardOf.f k b L = some p := by
  have bad : ∀ k, 0 < k → spec_YardOf.j0 k b L true = some ((⟨#[]⟩ : ByteArray), false) := fun k hk => by
    obtain ⟨k, rfl⟩ : ∃ m, k = m + 1 := ⟨k - 1, by omega⟩
    simp only [spec_YardOf.j0]; rfl
  unfold impl_YardOf.f
  rw [within_eq, Option.bind_some]
  by_cases hb : 1 ≤ b ∧ b ≤ 30
  · rw [if_pos (decide_eq_true hb), w64 (by omega) (by omega), allWithin_eq L _ _ (by omega) _ (by omega), Option.bind_some]
    obtain ⟨N, rfl⟩ := Int.eq_ofNat_of_zero_le (show 0 ≤ b by omega)
    cases ha : allIn L 0 ((N : Int) - 1) with
    | false =>
      refine ⟨((⟨#[]⟩ : ByteArray), false), by rw [if_neg (by simp)], fun k hk => ?_⟩
      unfold spec_YardOf.f
      rw [l1In_eq, Option.bind_some, if_pos (decide_eq_true hb), w64 (by omega) (by omega), l1Rising_eq L _ _ (by omega) k (by omega), ha, Bool.false_and]
      exact bad k (by omega)
    | true =>
      obtain ⟨s, h1, h2, h3⟩ := repeat_bytes N (by omega)
      have hi := impl_l0 N (by omega) L ha L.length 0 (List.replicate N 111) (by omega) (by simp) (fun q hq => by
        rw [rd_get _ q (by simpa using hq), List.getElem_replicate]
        unfold mark
        rw [if_neg (by simp)]) (L.length + 2) (by omega)
      rw [if_pos rfl, h1, Option.bind_some, if_pos (by omega), h3]
      refine ⟨_, hi, fun k hk => ?_⟩
      unfold spec_YardOf.f
      rw [l1In_eq, Option.bind_some, if_pos (decide_eq_true hb), w64 (by omega) (by omega), l1Rising_eq L _ _ (by omega) k (by omega), ha, Bool.true_and, Option.bind_some]
      cases hr : rise L with
      | false =>
        rw [show L.drop (0 - 1) = L from rfl, hr, if_neg (by simp)]
        exact bad k (by omega)
      | true =>
        rw [show L.drop (0 - 1) = L from rfl, hr, if_pos rfl]
        obtain ⟨k, rfl⟩ : ∃ m, k = m + 1 := ⟨k - 1, by omega⟩
        simp only [spec_YardOf.j0, Bool.not_true, Bool.false_eq_true, if_false]
        exact spec_l0 N (by omega) L hl N 0 (by omega) k (by omega)
  · refine ⟨((⟨#[]⟩ : ByteArray), false), by rw [if_neg (by simpa using hb)], fun k hk => ?_⟩
    unfold spec_YardOf.f
    rw [l1In_eq, Option.bind_some, if_neg (by simpa using hb)]
    exact bad k (by omega)
theorem FnExactYardOf : laws_FnExactYardOf.Pure := by
  intro b L _ hl _ _
  unfold maxLen at hl
  by_cases e : (L.length : Int) > 1048576
  · exact ⟨0, by unfold laws_FnExactYardOf.f; rw [if_pos e]⟩
  · obtain ⟨p, hi, hs⟩ := yardOf_both b L (by omega)
    refine ⟨L.length + 70, ?_⟩
    unfold laws_FnExactYardOf.f
    rw [if_neg e]
    simp (disch := omega) only [toIntS_eq, hs, hi, Option.bind_some, bne_self_eq_false, Bool.false_eq_true, if_false, if_true]
    simp only [laws_FnExactYardOf.j0]
    simp (disch := omega) only [toIntS_eq, eqIntS_refl, Option.bind_some, Bool.false_eq_true, if_false, if_true]
end Go.Proofs.Yteflfjbnddieeaa.Pure
