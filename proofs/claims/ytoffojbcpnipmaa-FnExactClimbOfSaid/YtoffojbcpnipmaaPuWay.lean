/- What the printed isWay and caWay, areJumped and caReach, areClimbed and caAsked compute: for both the same. -/
import Derived.Test.YtoffojbcpnipmaaPuHeights
import Derived.Test.YtoffojbcpnipmaaPuColl
import Derived.Test.YtoffojbcpnipmaaPrint11
import Derived.Test.YtoffojbcpnipmaaPrint10
import Derived.Test.YtoffojbcpnipmaaPrint12
import Derived.Test.YtoffojbcpnipmaaPrint9
namespace Go.Proofs.Ytoffojbcpnipmaa.Pu
open Go.RowKit Go.Proofs.Ytoffojbcpnipmaa.Print Go.Proofs.YtoffojbcpnipmaaW.PrintWords Go.Proofs.YtoffojbcpnipmaaW.PrintLast Go.Proofs.YtoffojbcpnipmaaW.PrintMore
set_option linter.unusedSimpArgs false
set_option linter.unusedVariables false

theorem heightsOk_iff (h : List Int) : heightsOk h = true ↔ (1 ≤ h.length ∧ h.length ≤ 20) ∧ allIn h 0 50 = true := by
  unfold heightsOk; rw [Bool.and_eq_true, decide_eq_true_eq]
/-- How much a jump climbs. -/
def dist (h : List Int) (a b : Int) : Int := if rd h a < rd h b then rd h b - rd h a else rd h a - rd h b
theorem dist_bounds {h : List Int} (hh : heightsOk h = true) (a b : Int) (a0 : 0 ≤ a) (a1 : a < (h.length : Int)) (b0 : 0 ≤ b) (b1 : b < (h.length : Int)) : 0 ≤ dist h a b ∧ dist h a b ≤ 50 := by
  have ha := allIn_rd ((heightsOk_iff h).1 hh).2 a a0 a1
  have hb := allIn_rd ((heightsOk_iff h).1 hh).2 b b0 b1
  unfold dist; split <;> omega
theorem climbs_eq {h : List Int} (hh : heightsOk h = true) (a b : Int) (a0 : 0 ≤ a) (a1 : a < (h.length : Int)) (b0 : 0 ≤ b) (b1 : b < (h.length : Int)) : impl_climbs.f h a b = some (dist h a b) := by
  have ha := allIn_rd ((heightsOk_iff h).1 hh).2 a a0 a1
  have hb := allIn_rd ((heightsOk_iff h).1 hh).2 b b0 b1
  unfold impl_climbs.f impl_size.f dist
  rw [if_pos a0, if_pos a1, if_pos b0, if_pos b1, w64 (n := rd h a - rd h b) (by omega) (by omega), w64 (by omega) (by omega)]
  simp only [Option.bind_some, Option.some.injEq]
  unfold mx
  split <;> split <;> omega
theorem caClimb_eq {h : List Int} (hh : heightsOk h = true) (a b : Int) (a0 : 0 ≤ a) (a1 : a < (h.length : Int)) (b0 : 0 ≤ b) (b1 : b < (h.length : Int)) : spec_caClimb.f h a b = some (dist h a b) := by
  have ha := allIn_rd ((heightsOk_iff h).1 hh).2 a a0 a1
  have hb := allIn_rd ((heightsOk_iff h).1 hh).2 b b0 b1
  unfold spec_caClimb.f spec_l1Abs.f spec_l1Most.f dist
  rw [if_pos a0, if_pos a1, if_pos b0, if_pos b1, w64 (n := rd h a - rd h b) (by omega) (by omega), w64 (by omega) (by omega)]
  split <;> split <;> simp only [Option.bind_some, Option.some.injEq] <;> omega
/-- Is a jump allowed? -/
def jumpOk (h : List Int) (r c a b : Int) : Bool := decide (1 ≤ b - a ∧ b - a ≤ r) && decide (dist h a b ≤ c)
theorem caJump_eq {h : List Int} (hh : heightsOk h = true) (r c a b : Int) (a0 : 0 ≤ a) (a1 : a < (h.length : Int)) (b0 : 0 ≤ b) (b1 : b < (h.length : Int)) : spec_caJump.f h r c a b = some (jumpOk h r c a b) := by
  have hl := ((heightsOk_iff h).1 hh).1
  unfold spec_caJump.f jumpOk
  rw [w64 (by omega) (by omega), caClimb_eq hh a b a0 a1 b0 b1]
  by_cases h1 : b > a
  · rw [if_pos h1]
    by_cases h2 : b - a ≤ r
    · rw [if_pos h2, decide_eq_true (show 1 ≤ b - a ∧ b - a ≤ r by omega)]; rfl
    · rw [if_neg h2, decide_eq_false (show ¬ (1 ≤ b - a ∧ b - a ≤ r) by omega)]; rfl
  · rw [if_neg h1, decide_eq_false (show ¬ (1 ≤ b - a ∧ b - a ≤ r) by omega)]; rfl
theorem areJumped_eq (h : List Int) (r : Int) (hl : h.length ≤ 4611686018427387904) (k : Nat) (hk : h.length < k) : impl_areJumped.f k h r = some (heightsOk h && decide (1 ≤ r ∧ r ≤ 20)) := by
  unfold impl_areJumped.f
  rw [areHeights_eq h hl k hk, within_eq]
  cases heightsOk h <;> rfl
theorem caReach_eq (h : List Int) (r : Int) (hl : h.length ≤ 4611686018427387904) (k : Nat) (hk : h.length < k) : spec_caReach.f k h r = some (heightsOk h && decide (1 ≤ r ∧ r ≤ 20)) := by
  unfold spec_caReach.f
  rw [caGood_eq h hl k hk, l1In_eq]
  cases heightsOk h <;> rfl
theorem areClimbed_eq (h : List Int) (r c : Int) (hl : h.length ≤ 4611686018427387904) (k : Nat) (hk : h.length < k) : impl_areClimbed.f k h r c = some (heightsOk h && decide (1 ≤ r ∧ r ≤ 20) && decide (0 ≤ c ∧ c ≤ 50)) := by
  unfold impl_areClimbed.f
  rw [areJumped_eq h r hl k hk, within_eq, Option.bind_some]
  cases (heightsOk h && decide (1 ≤ r ∧ r ≤ 20)) <;> rfl
theorem caAsked_eq (h : List Int) (r c : Int) (hl : h.length ≤ 4611686018427387904) (k : Nat) (hk : h.length < k) : spec_caAsked.f k h r c = some (heightsOk h && decide (1 ≤ r ∧ r ≤ 20) && decide (0 ≤ c ∧ c ≤ 50)) := by
  unfold spec_caAsked.f
  rw [caReach_eq h r hl k hk, l1In_eq, Option.bind_some]
  cases (heightsOk h && decide (1 ≤ r ∧ r ≤ 20)) <;> rfl

/-- Is the step number j of a way allowed? -/
def stepOk (h : List Int) (r c : Int) (way : List Int) (j : Nat) : Bool := jumpOk h r c (rd way (j : Int)) (rd way ((j : Int) + 1))
theorem isWay_l0 {h : List Int} (hh : heightsOk h = true) (r c : Int) (a : Int) (t : List Int) (hl : t.length ≤ 1048576) (ha : allIn (a :: t) 0 ((h.length : Int) - 1) = true) :
    ∀ (d j : Nat), j + d = t.length → ∀ k, d < k → impl_isWay.l0 k h r c (a :: t) t (t.length : Int) (j : Int) = some (allP (stepOk h r c (a :: t)) j d) := by
  intro d
  induction d with
  | zero =>
    intro j hj k hk
    obtain ⟨k, rfl⟩ : ∃ m, k = m + 1 := ⟨k - 1, by omega⟩
    simp only [impl_isWay.l0]
    rw [if_neg (by omega)]; rfl
  | succ d ih =>
    intro j hj k hk
    obtain ⟨k, rfl⟩ : ∃ m, k = m + 1 := ⟨k - 1, by omega⟩
    simp only [impl_isWay.l0]
    have b0 := allIn_get ha j (by simp; omega)
    have b1 := allIn_get ha (j + 1) (by simp; omega)
    have hl2 := ((heightsOk_iff h).1 hh).1
    have e0 : rd (a :: t) (j : Int) = (a :: t)[j]'(by simp; omega) := rd_get _ j (by simp; omega)
    have e1 : rd t (j : Int) = (a :: t)[j + 1]'(by simp; omega) := by rw [rd_get t j (by omega)]; simp
    have es : stepOk h r c (a :: t) j = jumpOk h r c ((a :: t)[j]'(by simp; omega)) ((a :: t)[j + 1]'(by simp; omega)) := by
      unfold stepOk
      rw [e0, show ((j : Int) + 1) = ((j + 1 : Nat) : Int) by omega, rd_get _ (j + 1) (by simp; omega)]
    generalize (a :: t)[j]'(by simp; omega) = x at *
    generalize (a :: t)[j + 1]'(by simp; omega) = y at *
    rw [if_pos (by omega), if_pos (by omega), if_pos (by omega), if_pos (by simp; omega), e0, e1, within_eq, w64 (n := y - x) (by omega) (by omega)]
    simp only [Option.bind_some, allP, es]
    unfold jumpOk
    by_cases h1 : 1 ≤ y - x ∧ y - x ≤ r
    · rw [if_pos (decide_eq_true h1), climbs_eq hh x y (by omega) (by omega) (by omega) (by omega), decide_eq_true h1]
      simp only [Option.bind_some]
      by_cases h2 : dist h x y > c
      · rw [if_pos h2, decide_eq_false (show ¬ dist h x y ≤ c by omega)]; rfl
      · rw [if_neg h2, decide_eq_true (show dist h x y ≤ c by omega), w64 (by omega) (by omega), show ((j : Int) + 1) = ((j + 1 : Nat) : Int) by omega, ih (j + 1) (by omega) k (by omega)]; rfl
    · rw [if_neg (by rw [decide_eq_true_eq]; exact h1), decide_eq_false h1]; rfl
theorem caWay_l0 {h : List Int} (hh : heightsOk h = true) (r c : Int) (w : List Int) (hl : w.length ≤ 1048576) (ha : allIn w 0 ((h.length : Int) - 1) = true) :
    ∀ (d j : Nat), j + 1 + d = w.length → ∀ k, d < k → spec_caWay.l0 k h r c w ((j : Int) + 1) = some (allP (stepOk h r c w) j d) := by
  intro d
  induction d with
  | zero =>
    intro j hj k hk
    obtain ⟨k, rfl⟩ : ∃ m, k = m + 1 := ⟨k - 1, by omega⟩
    simp only [spec_caWay.l0]
    rw [if_neg (by omega)]; rfl
  | succ d ih =>
    intro j hj k hk
    obtain ⟨k, rfl⟩ : ∃ m, k = m + 1 := ⟨k - 1, by omega⟩
    simp only [spec_caWay.l0]
    have b0 := allIn_get ha j (by omega)
    have b1 := allIn_get ha (j + 1) (by omega)
    have hl2 := ((heightsOk_iff h).1 hh).1
    have e0 : rd w (j : Int) = w[j]'(by omega) := rd_get _ j (by omega)
    have e1 : rd w ((j : Int) + 1) = w[j + 1]'(by omega) := by rw [show ((j : Int) + 1) = ((j + 1 : Nat) : Int) by omega, rd_get w (j + 1) (by omega)]
    have es : stepOk h r c w j = jumpOk h r c (w[j]'(by omega)) (w[j + 1]'(by omega)) := by
      unfold stepOk
      rw [e0, e1]
    rw [w64 (n := (j : Int) + 1 - 1) (by omega) (by omega), show ((j : Int) + 1 - 1) = (j : Int) by omega, if_pos (by omega), if_pos (by omega), if_pos (by omega), if_pos (by omega), e0, e1]
    rw [caJump_eq hh r c _ _ (by omega) (by omega) (by omega) (by omega)]
    simp only [Option.bind_some, allP, es]
    cases jumpOk h r c (w[j]'(by omega)) (w[j + 1]'(by omega)) with
    | true =>
      rw [if_pos rfl, w64 (by omega) (by omega), show ((j : Int) + 1 + 1) = ((j + 1 : Nat) : Int) + 1 by omega, ih (j + 1) (by omega) k (by omega)]; rfl
    | false => rw [if_neg (by simp)]; rfl
/-- Is a list a way? -/
def wayOk (h : List Int) (r c : Int) (w : List Int) : Bool :=
  match w with
  | [] => false
  | a :: t => allIn (a :: t) 0 ((h.length : Int) - 1) && (decide (a = 0) && (decide (rd (a :: t) (t.length : Int) = (h.length : Int) - 1) && allP (stepOk h r c (a :: t)) 0 t.length))
theorem isWay_eq {h : List Int} (hh : heightsOk h = true) (r c : Int) (w : List Int) (hl : w.length ≤ 1048576) (k : Nat) (hk : w.length + 2 < k) : impl_isWay.f k h r c w = some (wayOk h r c w) := by
  have hl2 := ((heightsOk_iff h).1 hh).1
  unfold impl_isWay.f
  cases w with
  | nil =>
    obtain ⟨k, rfl⟩ : ∃ m, k = m + 1 := ⟨k - 1, by omega⟩
    rw [if_pos (by simp)]; simp only [impl_isWay.j0]; rfl
  | cons a t =>
    rw [if_neg (by simp; omega), allWithin_eq _ _ _ (by omega) k (by omega), w64 (n := (h.length : Int) - 1) (by omega) (by omega)]
    simp only [Option.bind_some, wayOk]
    have el : ((a :: t).length : Int) = (t.length : Int) + 1 := by simp
    obtain ⟨k, rfl⟩ : ∃ m, k = m + 1 := ⟨k - 1, by omega⟩
    have hln : t.length + 1 ≤ 1048576 := by simpa using hl
    have hkn : t.length + 2 < k := by simp at hk; omega
    rw [el, w64 (n := (t.length : Int) + 1 - 1) (by omega) (by omega), show ((t.length : Int) + 1 - 1) = (t.length : Int) by omega]
    cases ha : allIn (a :: t) 0 ((h.length : Int) - 1) with
    | false => rw [if_neg (by simp)]; simp only [impl_isWay.j0]; rfl
    | true =>
      rw [if_pos rfl, if_pos (by omega)]
      have e0 : rd (a :: t) 0 = a := rfl
      rw [e0]
      by_cases h0 : a = 0
      · rw [if_pos h0, if_pos (by omega), if_pos (by omega), decide_eq_true h0]
        simp only [impl_isWay.j0]
        by_cases h1 : rd (a :: t) (t.length : Int) = (h.length : Int) - 1
        · rw [h1, bne_self_eq_false, if_neg (by simp), if_pos (by simp; omega), decide_eq_true rfl]
          simp only [List.drop_succ_cons, List.drop_zero, Option.bind_some, Bool.true_and]
          have := isWay_l0 hh r c a t (by omega) ha t.length 0 (by omega) k (by omega)
          simpa using this
        · rw [if_pos (by simpa using h1), decide_eq_false h1]; rfl
      · rw [if_neg h0, decide_eq_false h0]; simp only [impl_isWay.j0]; rfl
theorem caWay_eq {h : List Int} (hh : heightsOk h = true) (r c : Int) (w : List Int) (hl : w.length ≤ 1048576) (k : Nat) (hk : w.length + 2 < k) : spec_caWay.f k h r c w = some (wayOk h r c w) := by
  have hl2 := ((heightsOk_iff h).1 hh).1
  unfold spec_caWay.f
  cases w with
  | nil =>
    obtain ⟨k, rfl⟩ : ∃ m, k = m + 1 := ⟨k - 1, by omega⟩
    rw [if_pos (by simp)]; simp only [spec_caWay.j0]; rfl
  | cons a t =>
    rw [if_neg (by simp; omega), l1All_eq _ _ _ (by omega) k (by omega), w64 (n := (h.length : Int) - 1) (by omega) (by omega)]
    simp only [Option.bind_some, wayOk]
    have el : ((a :: t).length : Int) = (t.length : Int) + 1 := by simp
    obtain ⟨k, rfl⟩ : ∃ m, k = m + 1 := ⟨k - 1, by omega⟩
    have hln : t.length + 1 ≤ 1048576 := by simpa using hl
    have hkn : t.length + 2 < k := by simp at hk; omega
    rw [el, w64 (n := (t.length : Int) + 1 - 1) (by omega) (by omega), show ((t.length : Int) + 1 - 1) = (t.length : Int) by omega]
    cases ha : allIn (a :: t) 0 ((h.length : Int) - 1) with
    | false => rw [if_neg (by simp)]; simp only [spec_caWay.j0]; rfl
    | true =>
      rw [if_pos rfl, if_pos (by omega)]
      have e0 : rd (a :: t) 0 = a := rfl
      rw [e0]
      by_cases h0 : a = 0
      · rw [if_pos h0, if_pos (by omega), if_pos (by omega), decide_eq_true h0]
        simp only [spec_caWay.j0]
        by_cases h1 : rd (a :: t) (t.length : Int) = (h.length : Int) - 1
        · rw [h1, bne_self_eq_false, if_neg (by simp), decide_eq_true rfl]
          simp only [Bool.true_and]
          have := caWay_l0 hh r c (a :: t) hl ha t.length 0 (by simp; omega) k (by omega)
          simpa using this
        · rw [if_pos (by simpa using h1), decide_eq_false h1]; rfl
      · rw [if_neg h0, decide_eq_false h0]; simp only [spec_caWay.j0]; rfl
end Go.Proofs.Ytoffojbcpnipmaa.Pu
