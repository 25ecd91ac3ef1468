/- What the printed ahead and least of the jumper, caLeft and caFirst compute: the least sum still to come, and the first least way. -/
import Derived.Test.YtmppchecbcflgaaPuTab
import Derived.Test.YtmppchecbcflgaaPuJump
import Derived.Test.YtmppchecbcflgaaPrint15
import Derived.Test.YtmppchecbcflgaaPrint16
import Derived.Test.YtmppchecbcflgaaPrint13
import Derived.Test.YtmppchecbcflgaaPrint9
import Derived.Test.YtmppchecbcflgaaPrint14
import Derived.Test.YtmppchecbcflgaaPrint7
namespace Go.Proofs.Ytmppchecbcflgaa.Pu
open Go.RowKit Go.Proofs.Ytmppchecbcflgaa.Print Go.Proofs.YtmppchecbcflgaaW.PrintWords Go.Proofs.YtmppchecbcflgaaW.PrintLast Go.Proofs.YtmppchecbcflgaaW.PrintMore
set_option linter.unusedSimpArgs false
set_option linter.unusedVariables false

theorem isJump_eq2 {h : List Int} (hh : heightsOk h = true) (r c : Int) (f : Int → Int → Option Int) (a b : Int) (a0 : 0 ≤ a) (a1 : a < (h.length : Int)) (b0 : 0 ≤ b) (b1 : b < (h.length : Int)) : impl_jumper_isJump.f h r c f a b = some (jumpOk h r c a b) := by
  have hl := ((heightsOk_iff h).1 hh).1
  unfold impl_jumper_isJump.f jumpOk
  rw [w64 (by omega) (by omega), within_eq, Option.bind_some]
  by_cases h1 : 1 ≤ b - a ∧ b - a ≤ r
  · rw [if_pos (decide_eq_true h1), if_pos b1, climbs_eq hh a b a0 a1 b0 b1, decide_eq_true h1]; rfl
  · rw [if_neg (by rw [decide_eq_true_eq]; exact h1), decide_eq_false h1]; rfl
/-- What a jump costs. -/
def cst (one : Bool) (h : List Int) (a b : Int) : Int := if one = true then 1 else dist h a b
theorem cst_bounds {h : List Int} (hh : heightsOk h = true) (one : Bool) (a b : Nat) (a1 : a < h.length) (b1 : b < h.length) : 0 ≤ cst one h a b ∧ cst one h a b ≤ 50 := by
  have := dist_bounds hh (a : Int) (b : Int) (by omega) (by omega) (by omega) (by omega)
  unfold cst
  split <;> omega
/-- f tells what a jump costs. -/
def Costs (h : List Int) (one : Bool) (f : Int → Int → Option Int) : Prop := ∀ a b : Nat, a < h.length → b < h.length → f (a : Int) (b : Int) = some (cst one h a b)
theorem costs_climber {h : List Int} (hh : heightsOk h = true) : Costs h false (impl_climber_1.p h) := by
  intro a b ha hb
  unfold impl_climber_1.p impl_climber_1.f
  rw [climbs_eq hh _ _ (by omega) (by omega) (by omega) (by omega)]; rfl
theorem costs_counter (h : List Int) : Costs h true impl_counter_1.p := fun _ _ _ _ => rfl
/-- One step of the search for the least: board b is looked at. -/
def leftStep (one : Bool) (h : List Int) (r c : Int) (v : Nat → Int) (a : Nat) (cur : Int) (b : Nat) : Int :=
  if v b < 0 ∨ jumpOk h r c a b = false then cur else if cur < 0 ∨ v b + cst one h a b < cur then v b + cst one h a b else cur
def leftIn (one : Bool) (h : List Int) (r c : Int) (v : Nat → Int) (a : Nat) : Int → Nat → Nat → Int
  | cur, _, 0 => cur
  | cur, j, d + 1 => leftIn one h r c v a (leftStep one h r c v a cur j) (j + 1) d
theorem leftIn_congr (one : Bool) (h : List Int) (r c : Int) (v w : Nat → Int) (a : Nat) : ∀ (d j : Nat) (cur : Int), (∀ i, j ≤ i → i < j + d → v i = w i) → leftIn one h r c v a cur j d = leftIn one h r c w a cur j d
  | 0, _, _, _ => rfl
  | d + 1, j, cur, hvw => by
    unfold leftIn leftStep
    rw [hvw j (Nat.le_refl _) (by omega), leftIn_congr one h r c v w a d (j + 1) _ (fun i h1 h2 => hvw i (by omega) (by omega))]
/-- v tells the least sum from each board to the last (-1: none). -/
def IsLeft (one : Bool) (h : List Int) (r c : Int) (v : Nat → Int) : Prop := v (h.length - 1) = 0 ∧ ∀ a, a + 1 < h.length → v a = leftIn one h r c v a (-1) (a + 1) (h.length - 1 - a)
theorem left_exists (one : Bool) (h : List Int) (r c : Int) : ∃ v, IsLeft one h r c v :=
  backRec h.length (fun v a => leftIn one h r c v a (-1) (a + 1) (h.length - 1 - a)) 0 fun v w a hvw => leftIn_congr _ _ _ _ _ _ _ _ _ _ fun i h1 h2 => hvw i (by omega) (by omega)
theorem leftIn_bounds {h : List Int} (hh : heightsOk h = true) (one : Bool) (r c : Int) (v : Nat → Int) (a : Nat) (ha : a < h.length) (m : Int) : ∀ (d j : Nat) (cur : Int), j + d = h.length → (∀ i, j ≤ i → i < h.length → v i + 50 ≤ m) → -1 ≤ cur → cur ≤ m → -1 ≤ leftIn one h r c v a cur j d ∧ leftIn one h r c v a cur j d ≤ m
  | 0, _, _, _, _, h1, h2 => ⟨h1, h2⟩
  | d + 1, j, cur, hj, hv, h1, h2 => by
    have hc := cst_bounds hh one a j ha (by omega)
    have hvj := hv j (Nat.le_refl _) (by omega)
    unfold leftIn
    refine leftIn_bounds hh one r c v a ha m d (j + 1) _ (by omega) (fun i a b => hv i (by omega) b) ?_ ?_
    · unfold leftStep; split
      · exact h1
      · split <;> omega
    · unfold leftStep; split
      · exact h2
      · split <;> omega
theorem left_bounds {h : List Int} (hh : heightsOk h = true) {one : Bool} {r c : Int} {v : Nat → Int} (hv : IsLeft one h r c v) : ∀ d a, a + 1 + d = h.length → -1 ≤ v a ∧ v a ≤ 50 * d := by
  intro d
  induction d using Nat.strongRecOn with
  | ind d ih =>
    intro a ha
    by_cases h0 : d = 0
    · subst h0
      have : a = h.length - 1 := by omega
      rw [this, hv.1]; omega
    · rw [hv.2 a (by omega)]
      exact leftIn_bounds hh one r c v a (by omega) (50 * d) _ _ _ (by omega) (fun i h1 h2 => by
        have := ih (h.length - 1 - i) (by omega) i (by omega)
        omega) (by omega) (by omega)
theorem left_small {h : List Int} (hh : heightsOk h = true) {one : Bool} {r c : Int} {v : Nat → Int} (hv : IsLeft one h r c v) (a : Nat) (ha : a < h.length) : -1 ≤ v a ∧ v a ≤ 1000 := by
  have hn := ((heightsOk_iff h).1 hh).1
  have := left_bounds hh hv (h.length - 1 - a) a (by omega)
  omega
theorem leftIn_next (one : Bool) (h : List Int) (r c : Int) (v : Nat → Int) (a : Nat) : ∀ (d j : Nat) (cur : Int), leftIn one h r c v a cur j d = cur ∨ ∃ b, j ≤ b ∧ b < j + d ∧ 0 ≤ v b ∧ jumpOk h r c a b = true ∧ leftIn one h r c v a cur j d = v b + cst one h a b
  | 0, _, _ => .inl rfl
  | d + 1, j, cur => by
    unfold leftIn
    rcases leftIn_next one h r c v a d (j + 1) (leftStep one h r c v a cur j) with e | ⟨b, h1, h2, h3, h4, h5⟩
    · rw [e]
      unfold leftStep
      split
      · exact .inl rfl
      · rename_i hx
        split
        · refine .inr ⟨j, Nat.le_refl _, by omega, by omega, ?_, rfl⟩
          cases hj : jumpOk h r c a j with
          | true => rfl
          | false => exact absurd (.inr hj) hx
        · exact .inl rfl
    · exact .inr ⟨b, by omega, by omega, h3, h4, h5⟩
theorem leftIn_low {h : List Int} (hh : heightsOk h = true) (one : Bool) (r c : Int) (v : Nat → Int) (a : Nat) (ha : a < h.length) : ∀ (d j : Nat) (cur : Int), j + d = h.length →
    (0 ≤ cur → 0 ≤ leftIn one h r c v a cur j d ∧ leftIn one h r c v a cur j d ≤ cur) ∧ (∀ b, j ≤ b → b < h.length → 0 ≤ v b → jumpOk h r c a b = true → 0 ≤ leftIn one h r c v a cur j d ∧ leftIn one h r c v a cur j d ≤ v b + cst one h a b)
  | 0, j, cur, hj => ⟨fun h0 => ⟨h0, Int.le_refl _⟩, fun b h1 h2 => absurd h1 (by omega)⟩
  | d + 1, j, cur, hj => by
    have ih := leftIn_low hh one r c v a ha d (j + 1) (leftStep one h r c v a cur j) (by omega)
    have hc := cst_bounds hh one a j ha (by omega)
    unfold leftIn
    have hs : 0 ≤ cur → 0 ≤ leftStep one h r c v a cur j ∧ leftStep one h r c v a cur j ≤ cur := by
      intro h0
      unfold leftStep; split
      · omega
      · split <;> omega
    refine ⟨fun h0 => ?_, fun b h1 h2 h3 h4 => ?_⟩
    · have h1 := hs h0
      have h2 := ih.1 h1.1
      omega
    · by_cases e : b = j
      · subst e
        have hq : 0 ≤ leftStep one h r c v a cur b ∧ leftStep one h r c v a cur b ≤ v b + cst one h a b := by
          unfold leftStep
          rw [if_neg (by rw [h4]; simp; omega)]
          split <;> omega
        have := ih.1 hq.1
        omega
      · exact ih.2 b (by omega) h2 h3 h4
theorem left_next {h : List Int} {one : Bool} {r c : Int} {v : Nat → Int} (hv : IsLeft one h r c v) (a : Nat) (ha : a + 1 < h.length) (h0 : 0 ≤ v a) : ∃ b, a < b ∧ b < h.length ∧ 0 ≤ v b ∧ jumpOk h r c a b = true ∧ v b + cst one h a b = v a := by
  have e := hv.2 a ha
  rcases leftIn_next one h r c v a (h.length - 1 - a) (a + 1) (-1) with h1 | ⟨b, h1, h2, h3, h4, h5⟩
  · omega
  · exact ⟨b, by omega, by omega, h3, h4, by omega⟩
theorem left_low {h : List Int} (hh : heightsOk h = true) {one : Bool} {r c : Int} {v : Nat → Int} (hv : IsLeft one h r c v) (a b : Nat) (hab : a < b) (hb : b < h.length) (h0 : 0 ≤ v b) (hj : jumpOk h r c a b = true) : 0 ≤ v a ∧ v a ≤ v b + cst one h a b := by
  rw [hv.2 a (by omega)]
  exact (leftIn_low hh one r c v a (by omega) (h.length - 1 - a) (a + 1) (-1) (by omega)).2 b (by omega) hb h0 hj
/-- With the highest climb every board is reached from every board before. -/
theorem left_easy {h : List Int} (hh : heightsOk h = true) {one : Bool} {r : Int} (hr : 1 ≤ r) {v : Nat → Int} (hv : IsLeft one h r 50 v) : ∀ d a, a + 1 + d = h.length → 0 ≤ v a := by
  intro d
  induction d with
  | zero =>
    intro a ha
    have : a = h.length - 1 := by omega
    rw [this, hv.1]; omega
  | succ d ih =>
    intro a ha
    have := dist_bounds hh (a : Int) ((a + 1 : Nat) : Int) (by omega) (by omega) (by omega) (by omega)
    refine (left_low hh hv a (a + 1) (by omega) (by omega) (ih (a + 1) (by omega)) ?_).1
    unfold jumpOk
    rw [decide_eq_true (by omega), decide_eq_true (by omega)]; rfl
/-- How the program writes a least sum. -/
def big (x : Int) : Int := if x < 0 then 1099511627776 else x
theorem big_step {h : List Int} (hh : heightsOk h = true) (one : Bool) (r c : Int) (v : Nat → Int) (a b : Nat) (ha : a < h.length) (hb : b < h.length) (cur : Int) (hc : cur ≤ 1100) (hvb : v b ≤ 1000) :
    big (leftStep one h r c v a cur b) = if jumpOk h r c a b = true then mn (big cur) (wrap64 (big (v b) + cst one h a b)) else big cur := by
  have hk := cst_bounds hh one a b ha hb
  generalize hq : cst one h a b = q at *
  unfold leftStep big
  rw [hq]
  cases hj : jumpOk h r c a b with
  | false => simp
  | true =>
    simp only [if_true, Bool.true_eq_false, or_false]
    by_cases h0 : v b < 0
    · rw [if_pos h0, if_pos h0, w64 (by omega) (by omega)]
      unfold mn
      split <;> split <;> omega
    · rw [if_neg h0, if_neg h0, w64 (by omega) (by omega)]
      unfold mn
      split <;> (try split) <;> (try split) <;> omega
theorem step_small {h : List Int} (hh : heightsOk h = true) (one : Bool) (r c : Int) (v : Nat → Int) (a b : Nat) (ha : a < h.length) (hb : b < h.length) (cur : Int) (hc : cur ≤ 1050) (hvb : v b ≤ 1000) : leftStep one h r c v a cur b ≤ 1050 := by
  have hk := cst_bounds hh one a b ha hb
  unfold leftStep
  split
  · omega
  · split <;> omega
theorem ahead_l1 {h : List Int} (hh : heightsOk h = true) (one : Bool) (r c : Int) (f : Int → Int → Option Int) (hf : Costs h one f) (v : Nat → Int) (hv : IsLeft one h r c v) (res : List Int) (K : Nat) (a : Nat) (ha : a + 1 < h.length)
    (hc : ∀ x : List Int, x.length = h.length → (∀ i, a ≤ i → i < h.length → rd x (i : Int) = big (v i)) → ∀ k, K < k → impl_jumper_ahead.l0 k (h.length : Int) x ((a : Int) - 1) h r c f = some res) :
    ∀ (d j : Nat) (cur : Int) (x : List Int), j + d = h.length → a < j → x.length = h.length → (∀ i, a < i → i < h.length → rd x (i : Int) = big (v i)) → rd x (a : Int) = big cur → cur ≤ 1050 → leftIn one h r c v a cur j d = v a → ∀ k, K + d + 1 < k → impl_jumper_ahead.l1 k (h.length : Int) x (a : Int) (j : Int) h r c f = some res := by
  have hn := ((heightsOk_iff h).1 hh).1
  intro d
  induction d with
  | zero =>
    intro j cur x hj haj hx hl hs h0 hq k hk
    obtain ⟨k, rfl⟩ : ∃ m, k = m + 1 := ⟨k - 1, by omega⟩
    simp only [impl_jumper_ahead.l1]
    rw [if_neg (by omega), w64 (by omega) (by omega)]
    refine hc x hx (fun i h1 h2 => ?_) k (by omega)
    by_cases e : i = a
    · subst e; rw [hs, ← hq]; rfl
    · exact hl i (by omega) h2
  | succ d ih =>
    intro j cur x hj haj hx hl hs h0 hq k hk
    obtain ⟨k, rfl⟩ : ∃ m, k = m + 1 := ⟨k - 1, by omega⟩
    have hvj := left_small hh hv j (by omega)
    have hbs := big_step hh one r c v a j (by omega) (by omega) cur (by omega) (by omega)
    have hss := step_small hh one r c v a j (by omega) (by omega) cur h0 (by omega)
    simp only [impl_jumper_ahead.l1]
    rw [if_pos (by omega), isJump_eq2 hh r c f _ _ (by omega) (by omega) (by omega) (by omega), Option.bind_some]
    rw [w64 (n := (j : Int) + 1) (by omega) (by omega), show ((j : Int) + 1) = ((j + 1 : Nat) : Int) by omega]
    rw [leftIn] at hq
    by_cases hjump : jumpOk h r c (a : Int) (j : Int) = true
    · rw [if_pos hjump] at hbs
      rw [if_pos hjump, if_pos (by omega), if_pos (by omega), if_pos (by omega), if_pos (by omega), hf a j (by omega) (by omega), Option.bind_some, hl j haj (by omega), hs, ← hbs, Int.toNat_natCast]
      refine ih (j + 1) _ _ (by omega) (by omega) (by simpa using hx) (fun i h1 h2 => ?_) ?_ hss hq k (by omega)
      · rw [rd_set_other _ _ _ _ (by omega) (by omega)]; exact hl i h1 h2
      · rw [rd_set_same _ _ _ (by omega)]
    · rw [if_neg hjump] at hbs
      rw [if_neg hjump]
      exact ih (j + 1) _ x (by omega) (by omega) hx hl (hs.trans hbs.symm) hss hq k (by omega)
theorem ahead_l0 {h : List Int} (hh : heightsOk h = true) (one : Bool) (r c : Int) (f : Int → Int → Option Int) (hf : Costs h one f) (v : Nat → Int) (hv : IsLeft one h r c v) :
    ∀ (m : Nat) (x : List Int), m < h.length → x.length = h.length → (∀ i, m ≤ i → i < h.length → rd x (i : Int) = big (v i)) → ∀ k, 30 * m < k → impl_jumper_ahead.l0 k (h.length : Int) x ((m : Int) - 1) h r c f = some (tab (fun i => big (v i)) h.length) := by
  have hn := ((heightsOk_iff h).1 hh).1
  intro m
  induction m with
  | zero =>
    intro x hm hx hl k hk
    obtain ⟨k, rfl⟩ : ∃ m, k = m + 1 := ⟨k - 1, by omega⟩
    simp only [impl_jumper_ahead.l0]
    rw [if_neg (by omega), eq_tab (fun i => big (v i)) h.length x hx (fun i hi => hl i (by omega) hi)]
  | succ a ih =>
    intro x hm hx hl k hk
    obtain ⟨k, rfl⟩ : ∃ m, k = m + 1 := ⟨k - 1, by omega⟩
    simp only [impl_jumper_ahead.l0]
    rw [show ((a + 1 : Nat) : Int) - 1 = (a : Int) by omega, if_pos (by omega), if_pos (by omega), if_pos (by omega), w64 (by omega) (by omega), show (a : Int) + 1 = ((a + 1 : Nat) : Int) by omega, Int.toNat_natCast]
    refine ahead_l1 hh one r c f hf v hv _ (30 * a) a hm (fun x h1 h2 k hk => ih x (by omega) h1 h2 k hk) (h.length - 1 - a) (a + 1) (-1) _ (by omega) (by omega) (by simpa using hx) (fun i h1 h2 => ?_) ?_ (by omega) (hv.2 a hm).symm k (by omega)
    · rw [rd_set_other _ _ _ _ (by omega) (by omega)]; exact hl i (by omega) h2
    · rw [rd_set_same _ _ _ (by omega)]; rfl
theorem ahead_eq {h : List Int} (hh : heightsOk h = true) (one : Bool) (r c : Int) (f : Int → Int → Option Int) (hf : Costs h one f) (v : Nat → Int) (hv : IsLeft one h r c v) (k : Nat) (hk : 600 < k) : impl_jumper_ahead.f k h r c f = some (tab (fun i => big (v i)) h.length) := by
  have hn := ((heightsOk_iff h).1 hh).1
  unfold impl_jumper_ahead.f
  rw [if_pos (by omega), if_pos (by omega), w64 (by omega) (by omega), show (h.length : Int) - 2 = ((h.length - 1 : Nat) : Int) - 1 by omega]
  refine ahead_l0 hh one r c f hf v hv (h.length - 1) _ (by omega) (by simp) (fun i h1 h2 => ?_) k (by omega)
  have : i = h.length - 1 := by omega
  subst this
  rw [rd_zeros, hv.1]; rfl
theorem caLeft_l1 {h : List Int} (hh : heightsOk h = true) (one : Bool) (r c : Int) (v : Nat → Int) (hv : IsLeft one h r c v) (res : List Int) (K : Nat) (a : Nat) (ha : a + 1 < h.length)
    (hc : ∀ x : List Int, x.length = h.length → (∀ i, a ≤ i → i < h.length → rd x (i : Int) = v i) → ∀ k, K < k → spec_caLeft.l0 k h r c one x ((a : Int) - 1) = some res) :
    ∀ (d j : Nat) (cur : Int) (x : List Int), j + d = h.length → a < j → x.length = h.length → (∀ i, a < i → i < h.length → rd x (i : Int) = v i) → rd x (a : Int) = cur → cur ≤ 1050 → leftIn one h r c v a cur j d = v a → ∀ k, K + 2 * d + 1 < k → spec_caLeft.l1 k h r c one x (a : Int) (j : Int) = some res := by
  have hn := ((heightsOk_iff h).1 hh).1
  intro d
  induction d with
  | zero =>
    intro j cur x hj haj hx hl hs h0 hq k hk
    obtain ⟨k, rfl⟩ : ∃ m, k = m + 1 := ⟨k - 1, by omega⟩
    simp only [spec_caLeft.l1]
    rw [if_neg (by omega), w64 (by omega) (by omega)]
    refine hc x hx (fun i h1 h2 => ?_) k (by omega)
    by_cases e : i = a
    · subst e; rw [hs, ← hq]; rfl
    · exact hl i (by omega) h2
  | succ d ih =>
    intro j cur x hj haj hx hl hs h0 hq k hk
    obtain ⟨k, rfl⟩ : ∃ m, k = m + 1 + 1 := ⟨k - 2, by omega⟩
    have hvj := left_small hh hv j (by omega)
    have hss := step_small hh one r c v a j (by omega) (by omega) cur h0 (by omega)
    have hk2 := cst_bounds hh one a j (by omega) (by omega)
    rw [leftIn] at hq
    have hyes : v j < 0 ∨ jumpOk h r c a j = false → spec_caLeft.j2 (k + 1) h r c one x (a : Int) (j : Int) true = some res := by
      intro hx2
      have e : leftStep one h r c v a cur j = cur := by unfold leftStep; rw [if_pos hx2]
      rw [e] at hq
      simp only [spec_caLeft.j2, if_true]
      rw [w64 (n := (j : Int) + 1) (by omega) (by omega), show ((j : Int) + 1) = ((j + 1 : Nat) : Int) by omega]
      exact ih (j + 1) cur x (by omega) (by omega) hx hl hs h0 hq k (by omega)
    have hno : 0 ≤ v j → jumpOk h r c a j = true → spec_caLeft.j2 (k + 1) h r c one x (a : Int) (j : Int) false = some res := by
      intro h1 h2
      have e : leftStep one h r c v a cur j = if cur < 0 ∨ v j + cst one h a j < cur then v j + cst one h a j else cur := by
        unfold leftStep
        rw [if_neg (by rw [h2]; simp; omega)]
      rw [e] at hq hss
      have hset : ∀ q : Int, q = cst one h a j → (if rd x (a : Int) < 0 then spec_caLeft.l1 k h r c one (x.set (a : Int).toNat (wrap64 (rd x (j : Int) + q))) (a : Int) (wrap64 ((j : Int) + 1)) else if wrap64 (rd x (j : Int) + q) < rd x (a : Int) then spec_caLeft.l1 k h r c one (x.set (a : Int).toNat (wrap64 (rd x (j : Int) + q))) (a : Int) (wrap64 ((j : Int) + 1)) else spec_caLeft.l1 k h r c one x (a : Int) (wrap64 ((j : Int) + 1))) = some res := by
        intro q hqq
        subst hqq
        rw [hl j haj (by omega), hs, w64 (n := v j + _) (by omega) (by omega), w64 (n := (j : Int) + 1) (by omega) (by omega), show ((j : Int) + 1) = ((j + 1 : Nat) : Int) by omega, Int.toNat_natCast]
        have go : (cur < 0 ∨ v j + cst one h a j < cur) → spec_caLeft.l1 k h r c one (x.set a (v j + cst one h a j)) (a : Int) ((j + 1 : Nat) : Int) = some res := by
          intro hx3
          rw [if_pos hx3] at hq hss
          refine ih (j + 1) _ _ (by omega) (by omega) (by simpa using hx) (fun i h1 h2 => ?_) ?_ hss hq k (by omega)
          · rw [rd_set_other _ _ _ _ (by omega) (by omega)]; exact hl i h1 h2
          · rw [rd_set_same _ _ _ (by omega)]
        by_cases h3 : cur < 0
        · rw [if_pos h3]; exact go (.inl h3)
        · rw [if_neg h3]
          by_cases h4 : v j + cst one h a j < cur
          · rw [if_pos h4]; exact go (.inr h4)
          · rw [if_neg h4]
            rw [if_neg (by omega)] at hq
            exact ih (j + 1) cur x (by omega) (by omega) hx hl hs h0 hq k (by omega)
      simp only [spec_caLeft.j2, Bool.false_eq_true, if_false]
      rw [if_pos (by omega), if_pos (by omega)]
      cases one with
      | true =>
        rw [if_pos rfl, if_pos (by omega), if_pos (by omega)]
        exact hset 1 rfl
      | false =>
        rw [if_neg (by simp), caClimb_eq hh _ _ (by omega) (by omega) (by omega) (by omega), Option.bind_some, if_pos (by omega), if_pos (by omega)]
        exact hset _ rfl
    simp only [spec_caLeft.l1]
    rw [if_pos (by omega), if_pos (by omega), if_pos (by omega), hl j haj (by omega)]
    by_cases h1 : v j < 0
    · rw [if_pos h1]; exact hyes (.inl h1)
    · rw [if_neg h1, caJump_eq hh r c _ _ (by omega) (by omega) (by omega) (by omega), Option.bind_some]
      cases hjump : jumpOk h r c (a : Int) (j : Int) with
      | true => exact hno (by omega) hjump
      | false => exact hyes (.inr hjump)
theorem caLeft_l0 {h : List Int} (hh : heightsOk h = true) (one : Bool) (r c : Int) (v : Nat → Int) (hv : IsLeft one h r c v) :
    ∀ (m : Nat) (x : List Int), m < h.length → x.length = h.length → (∀ i, m ≤ i → i < h.length → rd x (i : Int) = v i) → ∀ k, 60 * m < k → spec_caLeft.l0 k h r c one x ((m : Int) - 1) = some (tab v h.length) := by
  have hn := ((heightsOk_iff h).1 hh).1
  intro m
  induction m with
  | zero =>
    intro x hm hx hl k hk
    obtain ⟨k, rfl⟩ : ∃ m, k = m + 1 := ⟨k - 1, by omega⟩
    simp only [spec_caLeft.l0]
    rw [if_neg (by omega), eq_tab v h.length x hx (fun i hi => hl i (by omega) hi)]
  | succ a ih =>
    intro x hm hx hl k hk
    obtain ⟨k, rfl⟩ : ∃ m, k = m + 1 := ⟨k - 1, by omega⟩
    simp only [spec_caLeft.l0]
    rw [show ((a + 1 : Nat) : Int) - 1 = (a : Int) by omega, if_pos (by omega), if_pos (by omega), if_pos (by omega), w64 (by omega) (by omega), show (a : Int) + 1 = ((a + 1 : Nat) : Int) by omega, Int.toNat_natCast]
    refine caLeft_l1 hh one r c v hv _ (60 * a) a hm (fun x h1 h2 k hk => ih x (by omega) h1 h2 k hk) (h.length - 1 - a) (a + 1) (-1) _ (by omega) (by omega) (by simpa using hx) (fun i h1 h2 => ?_) ?_ (by omega) (hv.2 a hm).symm k (by omega)
    · rw [rd_set_other _ _ _ _ (by omega) (by omega)]; exact hl i (by omega) h2
    · rw [rd_set_same _ _ _ (by omega)]
theorem caLeft_eq {h : List Int} (hh : heightsOk h = true) (one : Bool) (r c : Int) (v : Nat → Int) (hv : IsLeft one h r c v) (k : Nat) (hk : 1200 < k) : spec_caLeft.f k h r c one = some (tab v h.length) := by
  have hn := ((heightsOk_iff h).1 hh).1
  unfold spec_caLeft.f
  rw [if_pos (by omega), if_pos (by omega), w64 (by omega) (by omega), show (h.length : Int) - 2 = ((h.length - 1 : Nat) : Int) - 1 by omega]
  refine caLeft_l0 hh one r c v hv (h.length - 1) _ (by omega) (by simp) (fun i h1 h2 => ?_) k (by omega)
  have : i = h.length - 1 := by omega
  subst this
  rw [rd_zeros, hv.1]
/-- The first of d indices from j on of which p holds (j + d: none). -/
def firstP (p : Nat → Bool) : Nat → Nat → Nat
  | j, 0 => j
  | j, d + 1 => if p j = true then j else firstP p (j + 1) d
theorem firstP_spec (p : Nat → Bool) : ∀ (d j : Nat), (∃ i, j ≤ i ∧ i < j + d ∧ p i = true) → j ≤ firstP p j d ∧ firstP p j d < j + d ∧ p (firstP p j d) = true
  | 0, j, ⟨i, h1, h2, _⟩ => absurd h1 (by omega)
  | d + 1, j, ⟨i, h1, h2, h3⟩ => by
    unfold firstP
    by_cases h : p j = true
    · rw [if_pos h]; exact ⟨Nat.le_refl _, by omega, h⟩
    · rw [if_neg h]
      have hij : i ≠ j := by intro e; subst e; exact h h3
      have := firstP_spec p d (j + 1) ⟨i, by omega, by omega, h3⟩
      exact ⟨by omega, by omega, this.2.2⟩
/-- Does the least way go on from board a to board b? -/
def isNext (one : Bool) (h : List Int) (r c : Int) (v : Nat → Int) (a b : Nat) : Bool := decide (0 ≤ v b) && (jumpOk h r c a b && decide (v b + cst one h a b = v a))
def nextOf (one : Bool) (h : List Int) (r c : Int) (v : Nat → Int) (a : Nat) : Nat := firstP (isNext one h r c v a) (a + 1) (h.length - 1 - a)
/-- The first least way from board a on, without a. -/
def walk (one : Bool) (h : List Int) (r c : Int) (v : Nat → Int) : Nat → Nat → List Int
  | 0, _ => []
  | m + 1, a => if a + 1 < h.length then (nextOf one h r c v a : Int) :: walk one h r c v m (nextOf one h r c v a) else []
theorem walk_length (one : Bool) (h : List Int) (r c : Int) (v : Nat → Int) : ∀ m a, (walk one h r c v m a).length ≤ m
  | 0, _ => Nat.le_refl _
  | m + 1, a => by
    have := walk_length one h r c v m (nextOf one h r c v a)
    unfold walk
    split
    · simp; omega
    · simp
theorem nextOf_spec {one : Bool} {h : List Int} {r c : Int} {v : Nat → Int} (hv : IsLeft one h r c v) (a : Nat) (ha : a + 1 < h.length) (h0 : 0 ≤ v a) : a < nextOf one h r c v a ∧ nextOf one h r c v a < h.length ∧ isNext one h r c v a (nextOf one h r c v a) = true := by
  obtain ⟨b, h1, h2, h3, h4, h5⟩ := left_next hv a ha h0
  have := firstP_spec (isNext one h r c v a) (h.length - 1 - a) (a + 1) ⟨b, by omega, by omega, by unfold isNext; rw [decide_eq_true h3, h4, decide_eq_true h5]; rfl⟩
  unfold nextOf
  exact ⟨by omega, by omega, this.2.2⟩
theorem isNext_left {one : Bool} {h : List Int} {r c : Int} {v : Nat → Int} {a b : Nat} (hb : isNext one h r c v a b = true) : 0 ≤ v b := by
  unfold isNext at hb
  rw [Bool.and_eq_true] at hb
  exact of_decide_eq_true hb.1
/- The search of the program for the next board. -/
theorem least_l1 {h : List Int} (hh : heightsOk h = true) (one : Bool) (r c : Int) (f : Int → Int → Option Int) (hf : Costs h one f) (v : Nat → Int) (hv : IsLeft one h r c v) (acc : List Int) (hacc : acc.length ≤ 100) (a : Nat) (ha : a + 1 < h.length) (h0 : 0 ≤ v a) (res : Int × List Int × Bool) (K : Nat)
    (hc : ∀ k, K < k → impl_jumper_least.l0 k (acc ++ [(nextOf one h r c v a : Int)]) (nextOf one h r c v a : Int) (tab (fun i => big (v i)) h.length) h r c f = some res) :
    ∀ (d j : Nat), j + d = h.length → a < j → firstP (isNext one h r c v a) j d = nextOf one h r c v a → ∀ k, K + d + 1 < k → impl_jumper_least.l1 k acc (a : Int) (j : Int) (tab (fun i => big (v i)) h.length) h r c f = some res := by
  have hn := ((heightsOk_iff h).1 hh).1
  have hs := nextOf_spec hv a ha h0
  have hva := left_small hh hv a (by omega)
  intro d
  induction d with
  | zero =>
    intro j hj haj he k hk
    rw [firstP] at he; omega
  | succ d ih =>
    intro j hj haj he k hk
    obtain ⟨k, rfl⟩ : ∃ m, k = m + 1 := ⟨k - 1, by omega⟩
    have hvj := left_small hh hv j (by omega)
    have hk2 := cst_bounds hh one a j (by omega) (by omega)
    have hlen : (tab (fun i => big (v i)) h.length).length = h.length := tab_length _ _
    have hbj : big (v j) = if v j < 0 then 1099511627776 else v j := rfl
    have hba : big (v a) = v a := by unfold big; rw [if_neg (by omega)]
    have hno : isNext one h r c v a j = false → impl_jumper_least.l1 k acc (a : Int) (wrap64 ((j : Int) + 1)) (tab (fun i => big (v i)) h.length) h r c f = some res := by
      intro hx
      rw [firstP, if_neg (by rw [hx]; simp)] at he
      rw [w64 (n := (j : Int) + 1) (by omega) (by omega), show ((j : Int) + 1) = ((j + 1 : Nat) : Int) by omega]
      exact ih (j + 1) (by omega) (by omega) he k (by omega)
    simp only [impl_jumper_least.l1]
    rw [isJump_eq2 hh r c f _ _ (by omega) (by omega) (by omega) (by omega), Option.bind_some]
    cases hjump : jumpOk h r c (a : Int) (j : Int) with
    | false =>
      rw [if_neg (by simp)]
      exact hno (by unfold isNext; rw [hjump]; simp)
    | true =>
      rw [if_pos rfl, if_pos (by omega), if_pos (by omega), hf a j (by omega) (by omega), Option.bind_some, if_pos (by omega), if_pos (by omega), rd_tab _ _ j (by omega), rd_tab _ _ a (by omega), hba]
      cases hx : isNext one h r c v a j with
      | true =>
        rw [firstP, if_pos hx] at he
        have hx2 := hx
        unfold isNext at hx2
        rw [Bool.and_eq_true, Bool.and_eq_true, decide_eq_true_eq, decide_eq_true_eq] at hx2
        have hbj2 : big (v j) = v j := by rw [hbj, if_neg (by omega)]
        rw [hbj2, w64 (by omega) (by omega), if_pos hx2.2.2, if_pos (by omega), he]
        exact hc k (by omega)
      | false =>
        have hx2 : ¬ wrap64 (big (v j) + cst one h a j) = v a := by
          intro hy
          by_cases h1 : v j < 0
          · rw [hbj, if_pos h1, w64 (by omega) (by omega)] at hy; omega
          · rw [hbj, if_neg h1, w64 (by omega) (by omega)] at hy
            unfold isNext at hx
            rw [hjump, decide_eq_true hy, decide_eq_true (show 0 ≤ v j by omega)] at hx
            cases hx
        rw [if_neg hx2]
        exact hno hx
theorem least_l0 {h : List Int} (hh : heightsOk h = true) (one : Bool) (r c : Int) (f : Int → Int → Option Int) (hf : Costs h one f) (v : Nat → Int) (hv : IsLeft one h r c v) :
    ∀ (m a : Nat) (acc : List Int), h.length ≤ a + 1 + m → a < h.length → m ≤ 50 → acc.length + m ≤ 100 → 0 ≤ v a → ∀ k, 30 * m < k → impl_jumper_least.l0 k acc (a : Int) (tab (fun i => big (v i)) h.length) h r c f = some (big (v 0), acc ++ walk one h r c v m a, true) := by
  have hn := ((heightsOk_iff h).1 hh).1
  intro m
  induction m with
  | zero =>
    intro a acc hm ha _ hacc h0 k hk
    obtain ⟨k, rfl⟩ : ∃ m, k = m + 1 := ⟨k - 1, by omega⟩
    simp only [impl_jumper_least.l0, tab_length]
    rw [w64 (by omega) (by omega), if_neg (by omega), if_pos (by omega), walk, List.append_nil]
    have := rd_tab (fun i => big (v i)) h.length 0 (by omega)
    simp only [Int.natCast_zero] at this
    rw [this]
  | succ m ih =>
    intro a acc hm ha hm5 hacc h0 k hk
    obtain ⟨k, rfl⟩ : ∃ m, k = m + 1 := ⟨k - 1, by omega⟩
    simp only [impl_jumper_least.l0, tab_length]
    rw [w64 (n := (h.length : Int) - 1) (by omega) (by omega), w64 (n := (a : Int) + 1) (by omega) (by omega), walk]
    by_cases e : a + 1 < h.length
    · have hs := nextOf_spec hv a e h0
      rw [if_pos (by omega), if_pos e, show (a : Int) + 1 = ((a + 1 : Nat) : Int) by omega]
      refine least_l1 hh one r c f hf v hv acc (by omega) a e h0 _ (30 * m) (fun k hk => ?_) (h.length - 1 - a) (a + 1) (by omega) (by omega) rfl k (by omega)
      have := ih (nextOf one h r c v a) (acc ++ [(nextOf one h r c v a : Int)]) (by omega) hs.2.1 (by omega) (by simp; omega) (isNext_left hs.2.2) k hk
      rw [this]; simp
    · rw [if_neg (by omega), if_neg e, if_pos (by omega), List.append_nil]
      have := rd_tab (fun i => big (v i)) h.length 0 (by omega)
      simp only [Int.natCast_zero] at this
      rw [this]
theorem least_eq {h : List Int} (hh : heightsOk h = true) (one : Bool) (r c : Int) (f : Int → Int → Option Int) (hf : Costs h one f) (v : Nat → Int) (hv : IsLeft one h r c v) (k : Nat) (hk : 700 < k) : impl_jumper_least.f k h r c f = some (if 0 ≤ v 0 then (v 0, 0 :: walk one h r c v 20 0, true) else (0, [], false)) := by
  have hn := ((heightsOk_iff h).1 hh).1
  have h0 := left_small hh hv 0 (by omega)
  unfold impl_jumper_least.f
  rw [ahead_eq hh one r c f hf v hv k (by omega), Option.bind_some, tab_length, if_pos (by omega)]
  have hr := rd_tab (fun i => big (v i)) h.length 0 (by omega)
  simp only [Int.natCast_zero] at hr
  rw [hr]
  by_cases e : 0 ≤ v 0
  · have eb : big (v 0) = v 0 := by unfold big; rw [if_neg (by omega)]
    rw [if_pos e, eb, if_neg (by omega)]
    have := least_l0 hh one r c f hf v hv 20 0 [0] (by omega) (by omega) (by omega) (by simp) e k (by omega)
    rw [eb] at this
    exact this
  · have eb : big (v 0) = 1099511627776 := by unfold big; rw [if_pos (by omega)]
    rw [if_neg e, eb, if_pos (by omega)]
end Go.Proofs.Ytmppchecbcflgaa.Pu
