/- What the printed caFirst computes: the first least way, as the program's least. -/
import Derived.Test.YtmppchecbcflgaaPuLeft
import Derived.Test.YtmppchecbcflgaaPrint31
namespace Go.Proofs.Ytmppchecbcflgaa.Pu
open Go.RowKit Go.Proofs.Ytmppchecbcflgaa.Print Go.Proofs.YtmppchecbcflgaaW.PrintWords Go.Proofs.YtmppchecbcflgaaW.PrintLast Go.Proofs.YtmppchecbcflgaaW.PrintMore
set_option linter.unusedSimpArgs false
set_option linter.unusedVariables false
theorem caFirst_l1 {h : List Int} (hh : heightsOk h = true) (one : Bool) (r c : Int) (v : Nat → Int) (hv : IsLeft one h r c v) (acc : List Int) (hacc : acc.length ≤ 100) (a : Nat) (ha : a + 1 < h.length) (h0 : 0 ≤ v a) (res : List Int) (K : Nat)
    (hc : ∀ k, K < k → spec_caFirst.l0 k h r c one (acc ++ [(nextOf one h r c v a : Int)]) (nextOf one h r c v a : Int) (tab v h.length) = some res) :
    ∀ (e j d : Nat) (best : Int), j = a + e → j + 1 + d = h.length → (firstP (isNext one h r c v a) (j + 1) d = h.length ∨ best = (firstP (isNext one h r c v a) (j + 1) d : Int)) → ∀ k, K + 2 * e + 1 < k → spec_caFirst.l1 k h r c one acc (a : Int) best (j : Int) (tab v h.length) = some res := by
  have hn := ((heightsOk_iff h).1 hh).1
  have hs := nextOf_spec hv a ha h0
  have hva := left_small hh hv a (by omega)
  intro e
  induction e with
  | zero =>
    intro j d best hj hd hb k hk
    obtain ⟨k, rfl⟩ : ∃ m, k = m + 1 := ⟨k - 1, by omega⟩
    have : j = a := by omega
    subst this
    have hd2 : d = h.length - 1 - j := by omega
    subst hd2
    have hb2 : best = (nextOf one h r c v j : Int) := by
      rcases hb with hb | hb
      · have : nextOf one h r c v j = h.length := hb
        omega
      · exact hb
    simp only [spec_caFirst.l1]
    rw [if_neg (by omega), if_pos (by omega), hb2]
    exact hc k (by omega)
  | succ e ih =>
    intro j d best hj hd hb k hk
    obtain ⟨k, rfl⟩ : ∃ m, k = m + 1 + 1 := ⟨k - 2, by omega⟩
    have hvj := left_small hh hv j (by omega)
    have hk2 := cst_bounds hh one a j (by omega) (by omega)
    obtain ⟨i, rfl⟩ : ∃ i, j = i + 1 := ⟨j - 1, by omega⟩
    have hlen : (tab v h.length).length = h.length := tab_length _ _
    have hno : isNext one h r c v a (i + 1) = false → spec_caFirst.l1 k h r c one acc (a : Int) best (wrap64 (((i + 1 : Nat) : Int) - 1)) (tab v h.length) = some res := by
      intro hx
      rw [w64 (by omega) (by omega), show ((i + 1 : Nat) : Int) - 1 = (i : Int) by omega]
      refine ih i (d + 1) best (by omega) (by omega) ?_ k (by omega)
      rw [firstP, if_neg (by rw [hx]; simp)]
      exact hb
    have hyes : isNext one h r c v a (i + 1) = true → spec_caFirst.l1 k h r c one acc (a : Int) ((i + 1 : Nat) : Int) (wrap64 (((i + 1 : Nat) : Int) - 1)) (tab v h.length) = some res := by
      intro hx
      rw [w64 (by omega) (by omega), show ((i + 1 : Nat) : Int) - 1 = (i : Int) by omega]
      refine ih i (d + 1) _ (by omega) (by omega) ?_ k (by omega)
      rw [firstP, if_pos hx]
      exact .inr rfl
    have hskip : isNext one h r c v a (i + 1) = false → spec_caFirst.j2 (k + 1) h r c one (tab v h.length) acc (a : Int) best ((i + 1 : Nat) : Int) (tab v h.length) true = some res := by
      intro hx
      simp only [spec_caFirst.j2, if_true]
      exact hno hx
    simp only [spec_caFirst.l1]
    rw [if_pos (by omega), if_pos (by omega), if_pos (by omega), rd_tab v _ (i + 1) (by omega)]
    by_cases h1 : v (i + 1) < 0
    · rw [if_pos h1]
      exact hskip (by unfold isNext; rw [decide_eq_false (by omega)]; rfl)
    · rw [if_neg h1, caJump_eq hh r c _ _ (by omega) (by omega) (by omega) (by omega), Option.bind_some]
      cases hjump : jumpOk h r c (a : Int) ((i + 1 : Nat) : Int) with
      | false => exact hskip (by unfold isNext; rw [hjump]; simp)
      | true =>
        have hfin : ∀ q : Int, q = cst one h a ((i + 1 : Nat) : Int) → (if wrap64 (v (i + 1) + q) = v a then spec_caFirst.l1 k h r c one acc (a : Int) ((i + 1 : Nat) : Int) (wrap64 (((i + 1 : Nat) : Int) - 1)) (tab v h.length) else spec_caFirst.l1 k h r c one acc (a : Int) best (wrap64 (((i + 1 : Nat) : Int) - 1)) (tab v h.length)) = some res := by
          intro q hq
          subst hq
          rw [w64 (n := v (i + 1) + _) (by omega) (by omega)]
          by_cases h3 : v (i + 1) + cst one h a ((i + 1 : Nat) : Int) = v a
          · rw [if_pos h3]
            exact hyes (by unfold isNext; rw [decide_eq_true (show 0 ≤ v (i + 1) by omega), hjump, decide_eq_true h3]; rfl)
          · rw [if_neg h3]
            exact hno (by unfold isNext; rw [decide_eq_false h3]; simp)
        simp only [spec_caFirst.j2, Bool.not_true, Bool.false_eq_true, if_false]
        rw [if_pos (by omega), if_pos (by omega)]
        cases one with
        | true =>
          rw [if_pos rfl, if_pos (by omega), if_pos (by omega), rd_tab v _ (i + 1) (by omega), rd_tab v _ a (by omega)]
          exact hfin 1 rfl
        | false =>
          rw [if_neg (by simp), caClimb_eq hh _ _ (by omega) (by omega) (by omega) (by omega), Option.bind_some, if_pos (by omega), if_pos (by omega), rd_tab v _ (i + 1) (by omega), rd_tab v _ a (by omega)]
          exact hfin _ rfl
theorem firstP_none (p : Nat → Bool) (j : Nat) : firstP p j 0 = j := rfl
theorem caFirst_l0 {h : List Int} (hh : heightsOk h = true) (one : Bool) (r c : Int) (v : Nat → Int) (hv : IsLeft one h r c v) :
    ∀ (m a : Nat) (acc : List Int), h.length ≤ a + 1 + m → a < h.length → m ≤ 50 → acc.length + m ≤ 100 → 0 ≤ v a → ∀ k, 60 * m < k → spec_caFirst.l0 k h r c one acc (a : Int) (tab v h.length) = some (acc ++ walk one h r c v m a) := by
  have hn := ((heightsOk_iff h).1 hh).1
  intro m
  induction m with
  | zero =>
    intro a acc hm ha _ hacc h0 k hk
    obtain ⟨k, rfl⟩ : ∃ m, k = m + 1 := ⟨k - 1, by omega⟩
    simp only [spec_caFirst.l0]
    rw [w64 (by omega) (by omega), if_neg (by omega), walk, List.append_nil]
  | succ m ih =>
    intro a acc hm ha hm5 hacc h0 k hk
    obtain ⟨k, rfl⟩ : ∃ m, k = m + 1 := ⟨k - 1, by omega⟩
    simp only [spec_caFirst.l0]
    rw [w64 (n := (h.length : Int) - 1) (by omega) (by omega), walk]
    by_cases e : a + 1 < h.length
    · have hs := nextOf_spec hv a e h0
      rw [if_pos (by omega), if_pos e, show (h.length : Int) - 1 = ((h.length - 1 : Nat) : Int) by omega]
      refine caFirst_l1 hh one r c v hv acc (by omega) a e h0 _ (60 * m) (fun k hk => ?_) (h.length - 1 - a) (h.length - 1) 0 _ (by omega) (by omega) (.inl (by rw [firstP_none]; omega)) k (by omega)
      have := ih (nextOf one h r c v a) (acc ++ [(nextOf one h r c v a : Int)]) (by omega) hs.2.1 (by omega) (by simp; omega) (isNext_left hs.2.2) k hk
      rw [this]; simp
    · rw [if_neg (by omega), if_neg e, List.append_nil]
theorem caFirst_eq {h : List Int} (hh : heightsOk h = true) (one : Bool) (r c : Int) (v : Nat → Int) (hv : IsLeft one h r c v) (h0 : 0 ≤ v 0) (k : Nat) (hk : 1300 < k) : spec_caFirst.f k h r c one = some (0 :: walk one h r c v 20 0) := by
  have hn := ((heightsOk_iff h).1 hh).1
  unfold spec_caFirst.f
  rw [caLeft_eq hh one r c v hv k (by omega), Option.bind_some]
  exact caFirst_l0 hh one r c v hv 20 0 [0] (by omega) (by omega) (by omega) (by simp) h0 k (by omega)
end Go.Proofs.Ytmppchecbcflgaa.Pu
