/- What the printed ways of the jumper, and caWays, compute: the tables of the numbers of ways to and from each board. -/
import Derived.Test.YtmppchecbcflgaaPuTab
import Derived.Test.YtmppchecbcflgaaPuJump
import Derived.Test.YtmppchecbcflgaaPrint10
import Derived.Test.YtmppchecbcflgaaPrint4
import Derived.Test.YtmppchecbcflgaaPrint9
namespace Go.Proofs.Ytmppchecbcflgaa.Pu
open Go.RowKit Go.Proofs.Ytmppchecbcflgaa.Print Go.Proofs.YtmppchecbcflgaaW.PrintWords Go.Proofs.YtmppchecbcflgaaW.PrintLast Go.Proofs.YtmppchecbcflgaaW.PrintMore
set_option linter.unusedSimpArgs false
set_option linter.unusedVariables false

theorem isJump_eq {h : List Int} (hh : heightsOk h = true) (r c : Int) (f : Int → Int → Option Int) (a b : Int) (a0 : 0 ≤ a) (a1 : a < (h.length : Int)) (b0 : 0 ≤ b) (b1 : b < (h.length : Int)) : impl_jumper_isJump.f h r c f a b = some (jumpOk h r c a b) := by
  have hl := ((heightsOk_iff h).1 hh).1
  unfold impl_jumper_isJump.f jumpOk
  rw [w64 (by omega) (by omega), within_eq, Option.bind_some]
  by_cases h1 : 1 ≤ b - a ∧ b - a ≤ r
  · rw [if_pos (decide_eq_true h1), if_pos b1, climbs_eq hh a b a0 a1 b0 b1, decide_eq_true h1]; rfl
  · rw [if_neg (by rw [decide_eq_true_eq]; exact h1), decide_eq_false h1]; rfl
/-- What a board adds to the ways from board a. -/
def fromAdd (h : List Int) (r c : Int) (v : Nat → Int) (a b : Nat) : Int := if jumpOk h r c a b = true then v b else 0
/-- What a board adds to the ways to board a. -/
def toAdd (h : List Int) (r c : Int) (v : Nat → Int) (a b : Nat) : Int := if jumpOk h r c b a = true then v b else 0
/-- v tells the number of ways from each board to the last. -/
def IsFrom (h : List Int) (r c : Int) (v : Nat → Int) : Prop := v (h.length - 1) = 1 ∧ ∀ a, a + 1 < h.length → v a = sumP (fromAdd h r c v a) (a + 1) (h.length - 1 - a)
/-- v tells the number of ways from the first board to each. -/
def IsTo (h : List Int) (r c : Int) (v : Nat → Int) : Prop := v 0 = 1 ∧ ∀ a, 0 < a → a < h.length → v a = sumP (toAdd h r c v a) 0 a
theorem from_exists (h : List Int) (r c : Int) : ∃ v, IsFrom h r c v :=
  backRec h.length (fun v a => sumP (fromAdd h r c v a) (a + 1) (h.length - 1 - a)) 1 fun v w a hvw => sumP_congr _ _ _ _ fun i h1 h2 => by
    unfold fromAdd; rw [hvw i (by omega) (by omega)]
theorem to_exists (h : List Int) (r c : Int) : ∃ v, IsTo h r c v :=
  foreRec h.length (fun v a => sumP (toAdd h r c v a) 0 a) 1 fun v w a hvw => sumP_congr _ _ _ _ fun i h1 h2 => by
    unfold toAdd; rw [hvw i (by omega)]
theorem sumP_pow_back (f : Nat → Int) (n : Nat) : ∀ (d j : Nat), j + d = n → (∀ i, j ≤ i → i < n → 0 ≤ f i ∧ f i ≤ ((2 ^ (n - 1 - i) : Nat) : Int)) → 0 ≤ sumP f j d ∧ sumP f j d ≤ ((2 ^ d : Nat) : Int) - 1
  | 0, _, _, _ => by simp [sumP]
  | d + 1, j, hj, h => by
    have h1 := h j (Nat.le_refl _) (by omega)
    have h2 := sumP_pow_back f n d (j + 1) (by omega) (fun i a b => h i (by omega) b)
    rw [show n - 1 - j = d by omega] at h1
    unfold sumP
    rw [Nat.pow_succ]
    omega
theorem sumP_pow_fore (f : Nat → Int) : ∀ (d j : Nat), (∀ i, j ≤ i → i < j + d → 0 ≤ f i ∧ f i ≤ ((2 ^ i : Nat) : Int)) → 0 ≤ sumP f j d ∧ sumP f j d ≤ ((2 ^ (j + d) : Nat) : Int) - ((2 ^ j : Nat) : Int)
  | 0, _, _ => by simp [sumP]
  | d + 1, j, h => by
    have h1 := h j (Nat.le_refl _) (by omega)
    have h2 := sumP_pow_fore f d (j + 1) (fun i a b => h i (by omega) (by omega))
    unfold sumP
    rw [show j + (d + 1) = j + 1 + d by omega]
    rw [Nat.pow_succ 2 j] at h2
    omega
theorem pow20 (i : Nat) (h : i ≤ 20) : ((2 ^ i : Nat) : Int) ≤ 1048576 := by
  have := Nat.pow_le_pow_right (show 2 > 0 by omega) h
  omega
theorem from_bounds {h : List Int} {r c : Int} {v : Nat → Int} (hv : IsFrom h r c v) : ∀ d a, a + 1 + d = h.length → 0 ≤ v a ∧ v a ≤ ((2 ^ d : Nat) : Int) := by
  intro d
  induction d using Nat.strongRecOn with
  | ind d ih =>
    intro a ha
    by_cases h0 : d = 0
    · subst h0
      have : a = h.length - 1 := by omega
      rw [this, hv.1]; simp
    · rw [hv.2 a (by omega), show h.length - 1 - a = d by omega]
      have := sumP_pow_back (fromAdd h r c v a) h.length d (a + 1) (by omega) (fun i h1 h2 => by
        have := ih (h.length - 1 - i) (by omega) i (by omega)
        unfold fromAdd
        split <;> omega)
      omega
theorem from_small {h : List Int} {r c : Int} {v : Nat → Int} (hv : IsFrom h r c v) (hn : h.length ≤ 20) (a : Nat) (ha : a < h.length) : 0 ≤ v a ∧ v a ≤ 1048576 := by
  have := from_bounds hv (h.length - 1 - a) a (by omega)
  have := pow20 (h.length - 1 - a) (by omega)
  omega
theorem to_bounds {h : List Int} {r c : Int} {v : Nat → Int} (hv : IsTo h r c v) : ∀ a, a < h.length → 0 ≤ v a ∧ v a ≤ ((2 ^ a : Nat) : Int) := by
  intro a
  induction a using Nat.strongRecOn with
  | ind a ih =>
    intro ha
    by_cases h0 : a = 0
    · subst h0
      rw [hv.1]; simp
    · rw [hv.2 a (by omega) ha]
      have := sumP_pow_fore (toAdd h r c v a) a 0 (fun i h1 h2 => by
        have := ih i (by omega) (by omega)
        unfold toAdd
        split <;> omega)
      simp only [Nat.zero_add] at this
      omega
theorem to_small {h : List Int} {r c : Int} {v : Nat → Int} (hv : IsTo h r c v) (hn : h.length ≤ 20) (a : Nat) (ha : a < h.length) : 0 ≤ v a ∧ v a ≤ 1048576 := by
  have := to_bounds hv a ha
  have := pow20 a (by omega)
  omega
/-- The first b steps of a sum of small numbers. -/
theorem add_small {h : List Int} {r c : Int} {v : Nat → Int} {m : Int} (hv : ∀ i, i < h.length → 0 ≤ v i ∧ v i ≤ m) (hm : 0 ≤ m) (a b : Nat) (hb : b < h.length) : 0 ≤ fromAdd h r c v a b ∧ fromAdd h r c v a b ≤ m := by
  have := hv b hb
  unfold fromAdd; split <;> omega
theorem addTo_small {h : List Int} {r c : Int} {v : Nat → Int} {m : Int} (hv : ∀ i, i < h.length → 0 ≤ v i ∧ v i ≤ m) (hm : 0 ≤ m) (a b : Nat) (hb : b < h.length) : 0 ≤ toAdd h r c v a b ∧ toAdd h r c v a b ≤ m := by
  have := hv b hb
  unfold toAdd; split <;> omega

/- The inner loop of the way back, for both sides; R is what comes after it. -/
theorem ways_l3 {h : List Int} (hh : heightsOk h = true) (r c : Int) (f : Int → Int → Option Int) (v : Nat → Int) (hv : IsFrom h r c v) (x5 : List Int) (res : List Int × List Int) (K : Nat) (a : Nat) (ha : a + 1 < h.length)
    (hc : ∀ x : List Int, x.length = h.length → (∀ i, a ≤ i → i < h.length → rd x (i : Int) = v i) → (∀ i, i < a → rd x (i : Int) = 0) → ∀ k, K < k → impl_jumper_ways.l2 k (h.length : Int) x5 x ((a : Int) - 1) h r c f = some res) :
    ∀ (d j : Nat) (x : List Int), j + d = h.length → a < j → x.length = h.length → (∀ i, a < i → i < h.length → rd x (i : Int) = v i) → (∀ i, i < a → rd x (i : Int) = 0) → rd x (a : Int) + sumP (fromAdd h r c v a) j d = v a → 0 ≤ rd x (a : Int) → ∀ k, K + d + 1 < k → impl_jumper_ways.l3 k (h.length : Int) x5 x (a : Int) (j : Int) h r c f = some res := by
  have hn := ((heightsOk_iff h).1 hh).1
  have hva := from_small hv hn.2 a (by omega)
  intro d
  induction d with
  | zero =>
    intro j x hj haj hx hl hz hs h0 k hk
    obtain ⟨k, rfl⟩ : ∃ m, k = m + 1 := ⟨k - 1, by omega⟩
    simp only [impl_jumper_ways.l3]
    rw [if_neg (by omega), w64 (by omega) (by omega)]
    refine hc x hx (fun i h1 h2 => ?_) hz k (by omega)
    by_cases e : i = a
    · subst e; simpa [sumP] using hs
    · exact hl i (by omega) h2
  | succ d ih =>
    intro j x hj haj hx hl hz hs h0 k hk
    obtain ⟨k, rfl⟩ : ∃ m, k = m + 1 := ⟨k - 1, by omega⟩
    have hb := sumP_bounds (fromAdd h r c v a) 1048576 d (j + 1) (fun i h1 h2 => add_small (fun i hi => from_small hv hn.2 i hi) (by omega) a i (by omega))
    have hj1 := add_small (r := r) (c := c) (fun i hi => from_small hv hn.2 i hi) (by omega) a j (by omega)
    simp only [impl_jumper_ways.l3]
    rw [if_pos (by omega), isJump_eq hh r c f _ _ (by omega) (by omega) (by omega) (by omega), Option.bind_some]
    rw [sumP] at hs
    rw [w64 (n := (j : Int) + 1) (by omega) (by omega), show ((j : Int) + 1) = ((j + 1 : Nat) : Int) by omega]
    by_cases hjump : jumpOk h r c (a : Int) (j : Int) = true
    · have e : fromAdd h r c v a j = v j := by unfold fromAdd; rw [if_pos hjump]
      rw [e] at hs hj1
      rw [if_pos hjump, if_pos (by omega), if_pos (by omega), if_pos (by omega), if_pos (by omega), hl j haj (by omega), w64 (by omega) (by omega), Int.toNat_natCast]
      refine ih (j + 1) _ (by omega) (by omega) (by simpa using hx) (fun i h1 h2 => ?_) (fun i h1 => ?_) ?_ ?_ k (by omega)
      · rw [rd_set_other _ _ _ _ (by omega) (by omega)]; exact hl i h1 h2
      · rw [rd_set_other _ _ _ _ (by omega) (by omega)]; exact hz i h1
      · rw [rd_set_same _ _ _ (by omega)]; omega
      · rw [rd_set_same _ _ _ (by omega)]; omega
    · have e : fromAdd h r c v a j = 0 := by unfold fromAdd; rw [if_neg hjump]
      rw [e] at hs
      rw [if_neg hjump]
      exact ih (j + 1) x (by omega) (by omega) hx hl hz (by omega) h0 k (by omega)
theorem ways_l2 {h : List Int} (hh : heightsOk h = true) (r c : Int) (f : Int → Int → Option Int) (v : Nat → Int) (hv : IsFrom h r c v) (x5 : List Int) :
    ∀ (m : Nat) (x : List Int), m < h.length → x.length = h.length → (∀ i, m ≤ i → i < h.length → rd x (i : Int) = v i) → (∀ i, i < m → rd x (i : Int) = 0) → ∀ k, 30 * m < k → impl_jumper_ways.l2 k (h.length : Int) x5 x ((m : Int) - 1) h r c f = some (x5, tab v h.length) := by
  have hn := ((heightsOk_iff h).1 hh).1
  intro m
  induction m with
  | zero =>
    intro x hm hx hl hz k hk
    obtain ⟨k, rfl⟩ : ∃ m, k = m + 1 := ⟨k - 1, by omega⟩
    simp only [impl_jumper_ways.l2]
    rw [if_neg (by omega), eq_tab v h.length x hx (fun i hi => hl i (by omega) hi)]
  | succ a ih =>
    intro x hm hx hl hz k hk
    obtain ⟨k, rfl⟩ : ∃ m, k = m + 1 := ⟨k - 1, by omega⟩
    simp only [impl_jumper_ways.l2]
    rw [show ((a + 1 : Nat) : Int) - 1 = (a : Int) by omega, if_pos (by omega), w64 (by omega) (by omega), show (a : Int) + 1 = ((a + 1 : Nat) : Int) by omega]
    have hz0 := hz a (by omega)
    exact ways_l3 hh r c f v hv x5 _ (30 * a) a hm (fun x h1 h2 h3 k hk => ih x (by omega) h1 h2 h3 k hk) (h.length - 1 - a) (a + 1) x (by omega) (by omega) hx (fun i h1 h2 => hl i (by omega) h2) (fun i h1 => hz i (by omega)) (by rw [hz0, hv.2 a hm]; omega) (by omega) k (by omega)
/- The inner loop of the way forth. -/
theorem ways_l1 {h : List Int} (hh : heightsOk h = true) (r c : Int) (f : Int → Int → Option Int) (v : Nat → Int) (hv : IsTo h r c v) (x6 : List Int) (res : List Int × List Int) (K : Nat) (a : Nat) (h0a : 0 < a) (ha : a < h.length)
    (hc : ∀ x : List Int, x.length = h.length → (∀ i, i ≤ a → rd x (i : Int) = v i) → (∀ i, a < i → i < h.length → rd x (i : Int) = 0) → ∀ k, K < k → impl_jumper_ways.l0 k (h.length : Int) x ((a : Int) + 1) x6 h r c f = some res) :
    ∀ (d j : Nat) (x : List Int), j + d = a → x.length = h.length → (∀ i, i < a → rd x (i : Int) = v i) → (∀ i, a < i → i < h.length → rd x (i : Int) = 0) → rd x (a : Int) + sumP (toAdd h r c v a) j d = v a → 0 ≤ rd x (a : Int) → ∀ k, K + d + 1 < k → impl_jumper_ways.l1 k (h.length : Int) x (a : Int) x6 (a : Int) (j : Int) h r c f = some res := by
  have hn := ((heightsOk_iff h).1 hh).1
  have hva := to_small hv hn.2 a (by omega)
  intro d
  induction d with
  | zero =>
    intro j x hj hx hl hz hs h0 k hk
    obtain ⟨k, rfl⟩ : ∃ m, k = m + 1 := ⟨k - 1, by omega⟩
    simp only [impl_jumper_ways.l1]
    rw [if_neg (by omega), w64 (by omega) (by omega)]
    refine hc x hx (fun i h1 => ?_) hz k (by omega)
    by_cases e : i = a
    · subst e; simpa [sumP] using hs
    · exact hl i (by omega)
  | succ d ih =>
    intro j x hj hx hl hz hs h0 k hk
    obtain ⟨k, rfl⟩ : ∃ m, k = m + 1 := ⟨k - 1, by omega⟩
    have hb := sumP_bounds (toAdd h r c v a) 1048576 d (j + 1) (fun i h1 h2 => addTo_small (fun i hi => to_small hv hn.2 i hi) (by omega) a i (by omega))
    have hj1 := addTo_small (r := r) (c := c) (fun i hi => to_small hv hn.2 i hi) (by omega) a j (by omega)
    simp only [impl_jumper_ways.l1]
    rw [if_pos (by omega), isJump_eq hh r c f _ _ (by omega) (by omega) (by omega) (by omega), Option.bind_some]
    rw [sumP] at hs
    rw [w64 (n := (j : Int) + 1) (by omega) (by omega), show ((j : Int) + 1) = ((j + 1 : Nat) : Int) by omega]
    by_cases hjump : jumpOk h r c (j : Int) (a : Int) = true
    · have e : toAdd h r c v a j = v j := by unfold toAdd; rw [if_pos hjump]
      rw [e] at hs hj1
      rw [if_pos hjump, if_pos (by omega), if_pos (by omega), if_pos (by omega), if_pos (by omega), hl j (by omega), w64 (by omega) (by omega), Int.toNat_natCast]
      refine ih (j + 1) _ (by omega) (by simpa using hx) (fun i h1 => ?_) (fun i h1 h2 => ?_) ?_ ?_ k (by omega)
      · rw [rd_set_other _ _ _ _ (by omega) (by omega)]; exact hl i h1
      · rw [rd_set_other _ _ _ _ (by omega) (by omega)]; exact hz i h1 h2
      · rw [rd_set_same _ _ _ (by omega)]; omega
      · rw [rd_set_same _ _ _ (by omega)]; omega
    · have e : toAdd h r c v a j = 0 := by unfold toAdd; rw [if_neg hjump]
      rw [e] at hs
      rw [if_neg hjump]
      exact ih (j + 1) x (by omega) hx hl hz (by omega) h0 k (by omega)
theorem ways_l0 {h : List Int} (hh : heightsOk h = true) (r c : Int) (f : Int → Int → Option Int) (v w : Nat → Int) (hv : IsTo h r c v) (hw : IsFrom h r c w) (x6 : List Int) (h6 : x6.length = h.length) (hl6 : rd x6 ((h.length - 1 : Nat) : Int) = 1) (hz6 : ∀ i, i < h.length - 1 → rd x6 (i : Int) = 0) :
    ∀ (d a : Nat) (x : List Int), a + d = h.length → 0 < a → x.length = h.length → (∀ i, i < a → rd x (i : Int) = v i) → (∀ i, a ≤ i → i < h.length → rd x (i : Int) = 0) → ∀ k, 30 * d + 600 < k → impl_jumper_ways.l0 k (h.length : Int) x (a : Int) x6 h r c f = some (tab v h.length, tab w h.length) := by
  have hn := ((heightsOk_iff h).1 hh).1
  intro d
  induction d with
  | zero =>
    intro a x ha h0 hx hl hz k hk
    obtain ⟨k, rfl⟩ : ∃ m, k = m + 1 := ⟨k - 1, by omega⟩
    simp only [impl_jumper_ways.l0]
    rw [if_neg (by omega), w64 (by omega) (by omega), eq_tab v h.length x hx (fun i hi => hl i (by omega)), show (h.length : Int) - 2 = ((h.length - 1 : Nat) : Int) - 1 by omega]
    refine ways_l2 hh r c f w hw _ (h.length - 1) x6 (by omega) h6 (fun i h1 h2 => ?_) hz6 k (by omega)
    have : i = h.length - 1 := by omega
    subst this; rw [hl6, hw.1]
  | succ d ih =>
    intro a x ha h0 hx hl hz k hk
    obtain ⟨k, rfl⟩ : ∃ m, k = m + 1 := ⟨k - 1, by omega⟩
    simp only [impl_jumper_ways.l0]
    rw [if_pos (by omega)]
    have hz0 := hz a (Nat.le_refl _) (by omega)
    have := ways_l1 hh r c f v hv x6 (tab v h.length, tab w h.length) (30 * d + 600) a h0 (by omega) (fun x h1 h2 h3 k hk => by
      rw [show (a : Int) + 1 = ((a + 1 : Nat) : Int) by omega]
      exact ih (a + 1) x (by omega) (by omega) h1 (fun i hi => h2 i (by omega)) (fun i hi hi2 => h3 i (by omega) hi2) k hk) a 0 x (by omega) hx hl (fun i h1 h2 => hz i (by omega) h2) (by rw [hz0, hv.2 a h0 (by omega)]; omega) (by omega) k (by omega)
    exact this
theorem ways_eq {h : List Int} (hh : heightsOk h = true) (r c : Int) (f : Int → Int → Option Int) (v w : Nat → Int) (hv : IsTo h r c v) (hw : IsFrom h r c w) (k : Nat) (hk : 1300 < k) : impl_jumper_ways.f k h r c f = some (tab v h.length, tab w h.length) := by
  have hn := ((heightsOk_iff h).1 hh).1
  unfold impl_jumper_ways.f
  rw [if_pos (by omega), if_pos (by omega), w64 (by omega) (by omega)]
  simp only [Option.bind_some, List.length_replicate, Int.toNat_natCast]
  rw [if_pos (by omega), if_pos (by omega), if_pos (by omega), show (h.length : Int) - 1 = ((h.length - 1 : Nat) : Int) by omega, Int.toNat_natCast]
  have := ways_l0 hh r c f v w hv hw ((List.replicate h.length 0).set (h.length - 1) 1) (by simp) (rd_set_same _ _ _ (by simp; omega)) (fun i hi => by rw [rd_set_other _ _ _ _ (by simp; omega) (by omega)]; exact rd_zeros _ _) (h.length - 1) 1 ((List.replicate h.length 0).set 0 1) (by omega) (by omega) (by simp) (fun i hi => by
    have : i = 0 := by omega
    subst this
    rw [rd_set_same _ _ _ (by simp; omega), hv.1]) (fun i h1 h2 => by rw [rd_set_other _ _ _ _ (by simp; omega) (by omega)]; exact rd_zeros _ _) k (by omega)
  exact this
theorem caWays_l1 {h : List Int} (hh : heightsOk h = true) (r c : Int) (v : Nat → Int) (hv : IsFrom h r c v) (res : List Int) (K : Nat) (a : Nat) (ha : a + 1 < h.length)
    (hc : ∀ x : List Int, x.length = h.length → (∀ i, a ≤ i → i < h.length → rd x (i : Int) = v i) → (∀ i, i < a → rd x (i : Int) = 0) → ∀ k, K < k → spec_caWays.l0 k h r c x ((a : Int) - 1) = some res) :
    ∀ (d j : Nat) (x : List Int), j + d = h.length → a < j → x.length = h.length → (∀ i, a < i → i < h.length → rd x (i : Int) = v i) → (∀ i, i < a → rd x (i : Int) = 0) → rd x (a : Int) + sumP (fromAdd h r c v a) j d = v a → 0 ≤ rd x (a : Int) → ∀ k, K + d + 1 < k → spec_caWays.l1 k h r c x (a : Int) (j : Int) = some res := by
  have hn := ((heightsOk_iff h).1 hh).1
  have hva := from_small hv hn.2 a (by omega)
  intro d
  induction d with
  | zero =>
    intro j x hj haj hx hl hz hs h0 k hk
    obtain ⟨k, rfl⟩ : ∃ m, k = m + 1 := ⟨k - 1, by omega⟩
    simp only [spec_caWays.l1]
    rw [if_neg (by omega), w64 (by omega) (by omega)]
    refine hc x hx (fun i h1 h2 => ?_) hz k (by omega)
    by_cases e : i = a
    · subst e; simpa [sumP] using hs
    · exact hl i (by omega) h2
  | succ d ih =>
    intro j x hj haj hx hl hz hs h0 k hk
    obtain ⟨k, rfl⟩ : ∃ m, k = m + 1 := ⟨k - 1, by omega⟩
    have hb := sumP_bounds (fromAdd h r c v a) 1048576 d (j + 1) (fun i h1 h2 => add_small (fun i hi => from_small hv hn.2 i hi) (by omega) a i (by omega))
    have hj1 := add_small (r := r) (c := c) (fun i hi => from_small hv hn.2 i hi) (by omega) a j (by omega)
    simp only [spec_caWays.l1]
    rw [if_pos (by omega), caJump_eq hh r c _ _ (by omega) (by omega) (by omega) (by omega), Option.bind_some]
    rw [sumP] at hs
    rw [w64 (n := (j : Int) + 1) (by omega) (by omega), show ((j : Int) + 1) = ((j + 1 : Nat) : Int) by omega]
    by_cases hjump : jumpOk h r c (a : Int) (j : Int) = true
    · have e : fromAdd h r c v a j = v j := by unfold fromAdd; rw [if_pos hjump]
      rw [e] at hs hj1
      rw [if_pos hjump, if_pos (by omega), if_pos (by omega), if_pos (by omega), if_pos (by omega), hl j haj (by omega), w64 (by omega) (by omega), Int.toNat_natCast]
      refine ih (j + 1) _ (by omega) (by omega) (by simpa using hx) (fun i h1 h2 => ?_) (fun i h1 => ?_) ?_ ?_ k (by omega)
      · rw [rd_set_other _ _ _ _ (by omega) (by omega)]; exact hl i h1 h2
      · rw [rd_set_other _ _ _ _ (by omega) (by omega)]; exact hz i h1
      · rw [rd_set_same _ _ _ (by omega)]; omega
      · rw [rd_set_same _ _ _ (by omega)]; omega
    · have e : fromAdd h r c v a j = 0 := by unfold fromAdd; rw [if_neg hjump]
      rw [e] at hs
      rw [if_neg hjump]
      exact ih (j + 1) x (by omega) (by omega) hx hl hz (by omega) h0 k (by omega)
theorem caWays_l0 {h : List Int} (hh : heightsOk h = true) (r c : Int) (v : Nat → Int) (hv : IsFrom h r c v) :
    ∀ (m : Nat) (x : List Int), m < h.length → x.length = h.length → (∀ i, m ≤ i → i < h.length → rd x (i : Int) = v i) → (∀ i, i < m → rd x (i : Int) = 0) → ∀ k, 30 * m < k → spec_caWays.l0 k h r c x ((m : Int) - 1) = some (tab v h.length) := by
  have hn := ((heightsOk_iff h).1 hh).1
  intro m
  induction m with
  | zero =>
    intro x hm hx hl hz k hk
    obtain ⟨k, rfl⟩ : ∃ m, k = m + 1 := ⟨k - 1, by omega⟩
    simp only [spec_caWays.l0]
    rw [if_neg (by omega), eq_tab v h.length x hx (fun i hi => hl i (by omega) hi)]
  | succ a ih =>
    intro x hm hx hl hz k hk
    obtain ⟨k, rfl⟩ : ∃ m, k = m + 1 := ⟨k - 1, by omega⟩
    simp only [spec_caWays.l0]
    rw [show ((a + 1 : Nat) : Int) - 1 = (a : Int) by omega, if_pos (by omega), w64 (by omega) (by omega), show (a : Int) + 1 = ((a + 1 : Nat) : Int) by omega]
    have hz0 := hz a (by omega)
    exact caWays_l1 hh r c v hv _ (30 * a) a hm (fun x h1 h2 h3 k hk => ih x (by omega) h1 h2 h3 k hk) (h.length - 1 - a) (a + 1) x (by omega) (by omega) hx (fun i h1 h2 => hl i (by omega) h2) (fun i h1 => hz i (by omega)) (by rw [hz0, hv.2 a hm]; omega) (by omega) k (by omega)
theorem caWays_eq {h : List Int} (hh : heightsOk h = true) (r c : Int) (w : Nat → Int) (hw : IsFrom h r c w) (k : Nat) (hk : 1300 < k) : spec_caWays.f k h r c = some (tab w h.length) := by
  have hn := ((heightsOk_iff h).1 hh).1
  unfold spec_caWays.f
  rw [if_pos (by omega), if_pos (by omega), w64 (n := (h.length : Int) - 1) (by omega) (by omega), w64 (n := (h.length : Int) - 2) (by omega) (by omega)]
  simp only [Option.bind_some, List.length_replicate, Int.toNat_natCast]
  rw [if_pos (by omega), if_pos (by omega), show (h.length : Int) - 2 = ((h.length - 1 : Nat) : Int) - 1 by omega, show (h.length : Int) - 1 = ((h.length - 1 : Nat) : Int) by omega, Int.toNat_natCast]
  refine caWays_l0 hh r c w hw (h.length - 1) _ (by omega) (by simp) (fun i h1 h2 => ?_) (fun i hi => by rw [rd_set_other _ _ _ _ (by simp; omega) (by omega)]; exact rd_zeros _ _) k (by omega)
  have : i = h.length - 1 := by omega
  subst this
  rw [rd_set_same _ _ _ (by simp; omega), hw.1]
end Go.Proofs.Ytmppchecbcflgaa.Pu
