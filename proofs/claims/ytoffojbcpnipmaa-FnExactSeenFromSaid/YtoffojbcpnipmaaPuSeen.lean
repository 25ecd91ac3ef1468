/- What the printed seenFrom and caSeen compute: all boards that are seen from one; for both the same. -/
import Derived.Test.YtoffojbcpnipmaaPuHeights
import Derived.Test.YtoffojbcpnipmaaPuColl
import Derived.Test.YtoffojbcpnipmaaPuMax
import Derived.Test.YtoffojbcpnipmaaPrint38
import Derived.Test.YtoffojbcpnipmaaPrint35
namespace Go.Proofs.Ytoffojbcpnipmaa.Pu
open Go.RowKit Go.Proofs.Ytoffojbcpnipmaa.Print Go.Proofs.YtoffojbcpnipmaaW.PrintWords Go.Proofs.YtoffojbcpnipmaaW.PrintLast Go.Proofs.YtoffojbcpnipmaaW.PrintMore
set_option linter.unusedSimpArgs false
set_option linter.unusedVariables false

theorem least_eq (a b : Int) : spec_l1Least.f a b = some (if a < b then a else b) := by unfold spec_l1Least.f; split <;> rfl
theorem most_eq (a b : Int) : spec_l1Most.f a b = some (if a > b then a else b) := by unfold spec_l1Most.f; split <;> rfl
def low (h : List Int) (a b : Nat) : Int := min (rd h (a : Int)) (rd h (b : Int))
def lower (h : List Int) (b i m : Nat) : Bool := decide (rd h (m : Int) < low h i b)
/-- Is board i seen from board b? -/
def seenP (h : List Int) (b i : Nat) : Bool := decide (i ≠ b) && allP (lower h b i) (min i b + 1) (max i b - (min i b + 1))

theorem caSeen_l1 (h : List Int) (hl : h.length ≤ 1048576) (b i : Nat) (hi : i < h.length) (hb : b < h.length) (o : List Int) (ho : o.length ≤ i) (k : Nat) (r : Option (List Int))
    (yes : seenP h b i = true → spec_caSeen.l0 k h (b : Int) (o ++ [(i : Int)]) (h.length : Int) ((i : Int) + 1) = r) (no : seenP h b i = false → spec_caSeen.l0 k h (b : Int) o (h.length : Int) ((i : Int) + 1) = r) :
    ∀ (d p : Nat) (f : Bool), (p + d = max i b ∨ d = 0 ∧ max i b ≤ p) → (f && allP (lower h b i) p d) = seenP h b i → p ≤ h.length →
      spec_caSeen.l1 (k + d + 1) h (b : Int) o (i : Int) (low h i b) f (p : Int) (h.length : Int) (i : Int) = r := by
  intro d
  have em : (if (i : Int) > (b : Int) then (i : Int) else (b : Int)) = ((max i b : Nat) : Int) := by split <;> omega
  have e1 : wrap64 ((i : Int) + 1) = (i : Int) + 1 := w64 (by omega) (by omega)
  induction d with
  | zero =>
    intro p f hp hf hpl
    rw [spec_caSeen.l1, most_eq, Option.bind_some, em, if_neg (by omega), e1]
    rw [allP, Bool.and_true] at hf
    cases f with
    | true => rw [if_pos rfl, if_pos (by omega)]; exact yes hf.symm
    | false => rw [if_neg (by simp)]; exact no hf.symm
  | succ d ih =>
    intro p f hp hf hpl
    have hpm : p < max i b := by omega
    have e2 : wrap64 ((p : Int) + 1) = ((p + 1 : Nat) : Int) := by rw [w64 (by omega) (by omega)]; omega
    rw [spec_caSeen.l1, most_eq, Option.bind_some, em, if_pos (by omega), e2]
    cases f with
    | true =>
      rw [if_pos rfl, if_pos (by omega), if_pos (by omega)]
      exact ih (p + 1) _ (by omega) (by rw [← hf, Bool.true_and]; rfl) (by omega)
    | false =>
      rw [if_neg (by simp)]
      exact ih (p + 1) _ (by omega) (by rw [← hf]; rfl) (by omega)
theorem caSeen_l0 (h : List Int) (hl : h.length ≤ 20) (b : Nat) (hb : b < h.length) :
    ∀ (d j : Nat) (o : List Int), j + d = h.length → o.length ≤ j → ∀ k, 30 * d < k → spec_caSeen.l0 k h (b : Int) o (h.length : Int) (j : Int) = some (o ++ coll (seenP h b) j d) := by
  intro d
  induction d with
  | zero =>
    intro j o hj ho k hk
    obtain ⟨k, rfl⟩ : ∃ m, k = m + 1 := ⟨k - 1, by omega⟩
    simp only [spec_caSeen.l0]
    rw [if_neg (by omega)]; simp [coll]
  | succ d ih =>
    intro j o hj ho k hk
    obtain ⟨k, rfl⟩ : ∃ m, k = m + (max j b - (min j b + 1)) + 1 + 1 := ⟨k - (max j b - (min j b + 1)) - 2, by omega⟩
    rw [spec_caSeen.l0, if_pos (by omega), if_pos (by omega), if_pos (by omega), if_pos (by omega), if_pos (by omega), least_eq, least_eq]
    simp only [Option.bind_some]
    have elow : (if rd h (j : Int) < rd h (b : Int) then rd h (j : Int) else rd h (b : Int)) = low h j b := by unfold low; split <;> omega
    have emn : wrap64 ((if (j : Int) < (b : Int) then (j : Int) else (b : Int)) + 1) = ((min j b + 1 : Nat) : Int) := by
      rw [w64 (by split <;> omega) (by split <;> omega)]; split <;> omega
    have ebn : ((j : Int) != (b : Int)) = decide (j ≠ b) := by rw [Bool.eq_iff_iff]; simp; omega
    rw [elow, emn, ebn]
    refine caSeen_l1 h (by omega) b j (by omega) hb o ho k _ (fun hy => ?_) (fun hn => ?_) (max j b - (min j b + 1)) (min j b + 1) _ (by omega) rfl (by omega)
    · rw [coll_yes _ _ _ hy]
      have := ih (j + 1) (o ++ [(j : Int)]) (by omega) (by simp; omega) k (by omega)
      rw [show (((j + 1 : Nat) : Int)) = (j : Int) + 1 by omega] at this
      rw [this]; simp
    · rw [coll_no _ _ _ hn]
      have := ih (j + 1) o (by omega) (by omega) k (by omega)
      rw [show (((j + 1 : Nat) : Int)) = (j : Int) + 1 by omega] at this
      exact this
theorem caSeen_eq (h : List Int) (hl : h.length ≤ 20) (b : Nat) (hb : b < h.length) (k : Nat) (hk : 30 * h.length < k) : spec_caSeen.f k h (b : Int) = some (coll (seenP h b) 0 h.length) := by
  unfold spec_caSeen.f
  have := caSeen_l0 h hl b hb h.length 0 [] (by omega) (by simp) k hk
  simpa using this
theorem cut_all (h : List Int) (m M : Nat) (hM : M ≤ h.length) (c : Int) : (∀ x ∈ (h.take M).drop m, x < c) ↔ ∀ i, m ≤ i → i < M → rd h (i : Int) < c := by
  constructor
  · intro hx i h1 h2
    have : rd h (i : Int) = ((h.take M).drop m)[i - m]'(by simp; omega) := by
      rw [rd_get h i (by omega), List.getElem_drop, List.getElem_take]; congr 1; omega
    rw [this]; exact hx _ (List.getElem_mem _)
  · intro hx x hm
    obtain ⟨i, hi, rfl⟩ := List.mem_iff_getElem.1 hm
    have h1 : m + i < M := by simp at hi; omega
    have := hx (m + i) (by omega) h1
    rw [rd_get h (m + i) (by omega)] at this
    rw [List.getElem_drop, List.getElem_take]; exact this
theorem seenFrom_l0 (h : List Int) (hl : h.length ≤ 20) (b : Nat) (hb : b < h.length) :
    ∀ (d j : Nat) (o : List Int), j + d = h.length → o.length ≤ j → ∀ k, d + 30 < k → impl_seenFrom.l0 k h (b : Int) o (h.length : Int) (j : Int) = some (o ++ coll (seenP h b) j d) := by
  intro d
  induction d with
  | zero =>
    intro j o hj ho k hk
    obtain ⟨k, rfl⟩ : ∃ m, k = m + 1 := ⟨k - 1, by omega⟩
    simp only [impl_seenFrom.l0]
    rw [if_neg (by omega)]; simp [coll]
  | succ d ih =>
    intro j o hj ho k hk
    obtain ⟨k, rfl⟩ : ∃ m, k = m + 1 := ⟨k - 1, by omega⟩
    have e1 : wrap64 ((j : Int) + 1) = (j : Int) + 1 := w64 (by omega) (by omega)
    have emx : mx (j : Int) (b : Int) = ((max j b : Nat) : Int) := by unfold mx; split <;> omega
    have emn : wrap64 (mn (j : Int) (b : Int) + 1) = ((min j b + 1 : Nat) : Int) := by
      unfold mn; rw [w64 (by split <;> omega) (by split <;> omega)]; split <;> omega
    have elow : mn (rd h (j : Int)) (rd h (b : Int)) = low h j b := by unfold low mn; split <;> omega
    have yes : seenP h b j = true → (if o.length < 17592186044416 then (impl_seenFrom.l0 k h (b : Int) (o ++ [(j : Int)]) (h.length : Int) ((j : Int) + 1)) else (none)) = some (o ++ coll (seenP h b) j (d + 1)) := by
      intro hy
      rw [if_pos (by omega), coll_yes _ _ _ hy]
      have := ih (j + 1) (o ++ [(j : Int)]) (by omega) (by simp; omega) k (by omega)
      rw [show (((j + 1 : Nat) : Int)) = (j : Int) + 1 by omega] at this
      rw [this]; simp
    have no : seenP h b j = false → impl_seenFrom.l0 k h (b : Int) o (h.length : Int) ((j : Int) + 1) = some (o ++ coll (seenP h b) j (d + 1)) := by
      intro hn
      rw [coll_no _ _ _ hn]
      have := ih (j + 1) o (by omega) (by omega) k (by omega)
      rw [show (((j + 1 : Nat) : Int)) = (j : Int) + 1 by omega] at this
      exact this
    simp only [impl_seenFrom.l0]
    rw [if_pos (by omega), e1, emx, emn, elow]
    by_cases hjb : (j : Int) = (b : Int)
    · rw [if_pos hjb]; exact no (by unfold seenP; rw [decide_eq_false (by omega)]; rfl)
    · rw [if_neg hjb]
      by_cases hn : ((max j b : Nat) : Int) = ((min j b + 1 : Nat) : Int)
      · rw [if_pos hn]; exact yes (by unfold seenP; rw [decide_eq_true (by omega), show max j b - (min j b + 1) = 0 by omega]; rfl)
      · rw [if_neg hn, if_pos (by omega), if_pos (by omega), if_pos (by omega), Int.toNat_natCast, Int.toNat_natCast]
        have hlen : ((h.take (max j b)).drop (min j b + 1)).length = max j b - (min j b + 1) := by simp; omega
        have hall := cut_all h (min j b + 1) (max j b) (by omega) (low h j b)
        cases hc : (h.take (max j b)).drop (min j b + 1) with
        | nil => rw [hc] at hlen; simp at hlen; omega
        | cons x t =>
          rw [hc] at hlen hall
          rw [max_eq x t (by omega) k (by simp at hlen; omega)]
          simp only [Option.bind_some]
          rw [if_pos (by omega), if_pos (by omega), if_pos (by omega), if_pos (by omega)]
          have hP : maxFrom x t < low h j b ↔ seenP h b j = true := by
            rw [maxFrom_lt]
            unfold seenP
            rw [decide_eq_true (show j ≠ b by omega), Bool.true_and, allP_iff]
            rw [List.forall_mem_cons] at hall
            rw [hall]
            constructor
            · intro hx i h1 h2; exact decide_eq_true (hx i h1 (by omega))
            · intro hx i h1 h2; exact of_decide_eq_true (hx i h1 (by omega))
          by_cases hlt : maxFrom x t < low h j b
          · rw [if_pos hlt]; exact yes (hP.1 hlt)
          · rw [if_neg hlt]; exact no (by cases hq : seenP h b j with
              | false => rfl
              | true => exact absurd (hP.2 hq) hlt)
theorem seenFrom_eq (h : List Int) (hl : h.length ≤ 20) (b : Nat) (hb : b < h.length) (k : Nat) (hk : h.length + 30 < k) : impl_seenFrom.f k h (b : Int) = some (coll (seenP h b) 0 h.length) := by
  unfold impl_seenFrom.f
  have := seenFrom_l0 h hl b hb h.length 0 [] (by omega) (by simp) k hk
  simpa using this
end Go.Proofs.Ytoffojbcpnipmaa.Pu
