/- Tables of a function, and functions told by what stands behind (or ahead of) them.
   What jumps, climbs, areJumped and caReach, areClimbed and caAsked compute: for both the same.
   What the printed ways of the jumper, and caWays, compute: the tables of the numbers of ways to and from each board.
   What the printed caReached computes: the boards to which some way leads.
   What the printed caLeft computes: the least sum still to come.
   What the printed FewestJumps of the reference computes.
   What the printed NeededBoards computes, for both sides, and why they answer the same: the numbers of ways over every cut are the same. -/
import Derived.Test.YtmppchecbcflgaaPuColl
import Derived.Test.YtmppchecbcflgaaPuHeights
import Derived.Test.YtmppchecbcflgaaPrint7
import Derived.Test.YtmppchecbcflgaaPrint2
import Derived.Test.YtmppchecbcflgaaPrint8
import Derived.Test.YtmppchecbcflgaaPrint3
import Derived.Test.YtmppchecbcflgaaPrint10
import Derived.Test.YtmppchecbcflgaaPrint4
import Derived.Test.YtmppchecbcflgaaPrint9
import Derived.Test.YtmppchecbcflgaaPrint28
import Derived.Test.YtmppchecbcflgaaPrint13
import Derived.Test.YtmppchecbcflgaaPrint26
import Derived.Test.YtmppchecbcflgaaPrint37
import Derived.Test.YtmppchecbcflgaaPrint38
import Derived.Test.YtmppchecbcflgaaPrint36
namespace Go.Proofs.Ytmppchecbcflgaa.Pu
open Go.RowKit Go.Proofs.YtmppchecbcflgaaW.PrintWords Go.Proofs.YtmppchecbcflgaaW.PrintLast
set_option linter.unusedSimpArgs false
set_option linter.unusedVariables false

/-- The table of the first n values of a function. -/
def tab (v : Nat → Int) (n : Nat) : List Int := (List.range n).map v
theorem tab_length (v : Nat → Int) (n : Nat) : (tab v n).length = n := by simp [tab]
theorem rd_tab (v : Nat → Int) (n i : Nat) (h : i < n) : rd (tab v n) (i : Int) = v i := by
  rw [rd_get _ i (by rw [tab_length]; exact h)]; simp [tab]
theorem eq_tab (v : Nat → Int) (n : Nat) (x : List Int) (hl : x.length = n) (h : ∀ i : Nat, i < n → rd x (i : Int) = v i) : x = tab v n := by
  apply List.ext_getElem
  · rw [hl, tab_length]
  · intro i h1 h2
    have := h i (by omega)
    rw [rd_get x i h1] at this
    rw [this]; simp [tab]
theorem rd_set_same (x : List Int) (a : Nat) (y : Int) (h : a < x.length) : rd (x.set a y) (a : Int) = y := by
  rw [rd_get _ a (by simpa using h)]; simp
theorem rd_set_other (x : List Int) (a i : Nat) (y : Int) (hi : i < x.length) (h : a ≠ i) : rd (x.set a y) (i : Int) = rd x (i : Int) := by
  rw [rd_get _ i (by simpa using hi), rd_get x i hi, List.getElem_set_ne h]
theorem rd_zeros (n i : Nat) : rd (List.replicate n (0 : Int)) (i : Int) = 0 := by
  rw [rd_nat]
  by_cases h : i < n <;> simp [List.getD, h]

/-- A function that tells each number by the later ones. -/
theorem backRec (n : Nat) (G : (Nat → Int) → Nat → Int) (last : Int) (hG : ∀ v w a, (∀ i, a < i → i < n → v i = w i) → G v a = G w a) :
    ∃ v : Nat → Int, v (n - 1) = last ∧ ∀ a, a + 1 < n → v a = G v a := by
  suffices H : ∀ d, ∃ v : Nat → Int, v (n - 1) = last ∧ ∀ a, a + 1 < n → n ≤ a + 1 + d → v a = G v a by
    obtain ⟨v, h1, h2⟩ := H n
    exact ⟨v, h1, fun a ha => h2 a ha (by omega)⟩
  intro d
  induction d with
  | zero => exact ⟨fun _ => last, rfl, fun a h1 h2 => absurd h1 (by omega)⟩
  | succ d ih =>
    obtain ⟨v, h1, h2⟩ := ih
    by_cases hd : n ≤ d + 1
    · exact ⟨v, h1, fun a ha _ => h2 a ha (by omega)⟩
    · refine ⟨fun i => if i = n - 2 - d then G v (n - 2 - d) else v i, ?_, ?_⟩
      · simp only []
        rw [if_neg (by omega)]; exact h1
      · intro a ha hb
        simp only []
        have e : G (fun i => if i = n - 2 - d then G v (n - 2 - d) else v i) a = G v a := by
          apply hG
          intro i hi hn
          rw [if_neg (by omega)]
        rw [e]
        by_cases ea : a = n - 2 - d
        · rw [if_pos ea, ea]
        · rw [if_neg ea]; exact h2 a ha (by omega)
/-- A function that tells each number by the earlier ones. -/
theorem foreRec (n : Nat) (G : (Nat → Int) → Nat → Int) (first : Int) (hG : ∀ v w a, (∀ i, i < a → v i = w i) → G v a = G w a) :
    ∃ v : Nat → Int, v 0 = first ∧ ∀ a, 0 < a → a < n → v a = G v a := by
  suffices H : ∀ d, ∃ v : Nat → Int, v 0 = first ∧ ∀ a, 0 < a → a < n → a ≤ d → v a = G v a by
    obtain ⟨v, h1, h2⟩ := H n
    exact ⟨v, h1, fun a h0 ha => h2 a h0 ha (by omega)⟩
  intro d
  induction d with
  | zero => exact ⟨fun _ => first, rfl, fun a h1 _ h2 => absurd h1 (by omega)⟩
  | succ d ih =>
    obtain ⟨v, h1, h2⟩ := ih
    refine ⟨fun i => if i = d + 1 then G v (d + 1) else v i, ?_, ?_⟩
    · simp only []
      rw [if_neg (by omega)]; exact h1
    · intro a h0 ha hb
      simp only []
      have e : G (fun i => if i = d + 1 then G v (d + 1) else v i) a = G v a := by
        apply hG
        intro i hi
        rw [if_neg (by omega)]
      rw [e]
      by_cases ea : a = d + 1
      · rw [if_pos ea, ea]
      · rw [if_neg ea]; exact h2 a h0 ha (by omega)
theorem sumP_congr (p q : Nat → Int) : ∀ (d j : Nat), (∀ i, j ≤ i → i < j + d → p i = q i) → sumP p j d = sumP q j d
  | 0, _, _ => rfl
  | d + 1, j, h => by
    unfold sumP
    rw [h j (Nat.le_refl _) (by omega), sumP_congr p q d (j + 1) (fun i h1 h2 => h i (by omega) (by omega))]
end Go.Proofs.Ytmppchecbcflgaa.Pu
namespace Go.Proofs.Ytmppchecbcflgaa.Pu
open Go.RowKit Go.Proofs.Ytmppchecbcflgaa.Print Go.Proofs.YtmppchecbcflgaaW.PrintWords Go.Proofs.YtmppchecbcflgaaW.PrintLast Go.Proofs.YtmppchecbcflgaaW.PrintMore
set_option linter.unusedSimpArgs false
set_option linter.unusedVariables false

theorem heightsOk_iff (h : List Int) : heightsOk h = true ↔ (1 ≤ h.length ∧ h.length ≤ 20) ∧ allIn h 0 50 = true := by
  unfold heightsOk; rw [Bool.and_eq_true, decide_eq_true_eq]
/-- How much a jump climbs. -/
def dist (h : List Int) (a b : Int) : Int := if rd h a < rd h b then rd h b - rd h a else rd h a - rd h b
theorem dist_bounds {h : List Int} (hh : heightsOk h = true) (a b : Int) (a0 : 0 ≤ a) (a1 : a < (h.length : Int)) (b0 : 0 ≤ b) (b1 : b < (h.length : Int)) : 0 ≤ dist h a b ∧ dist h a b ≤ 50 := by
  have ha := allIn_rd ((heightsOk_iff h).1 hh).2 a a0 a1
  have hb := allIn_rd ((heightsOk_iff h).1 hh).2 b b0 b1
  unfold dist; split <;> omega
theorem climbs_eq {h : List Int} (hh : heightsOk h = true) (a b : Int) (a0 : 0 ≤ a) (a1 : a < (h.length : Int)) (b0 : 0 ≤ b) (b1 : b < (h.length : Int)) : impl_climbs.f h a b = some (dist h a b) := by
  have ha := allIn_rd ((heightsOk_iff h).1 hh).2 a a0 a1
  have hb := allIn_rd ((heightsOk_iff h).1 hh).2 b b0 b1
  unfold impl_climbs.f impl_size.f dist
  rw [if_pos a0, if_pos a1, if_pos b0, if_pos b1, w64 (n := rd h a - rd h b) (by omega) (by omega), w64 (by omega) (by omega)]
  simp only [Option.bind_some, Option.some.injEq]
  unfold mx
  split <;> split <;> omega
theorem caClimb_eq {h : List Int} (hh : heightsOk h = true) (a b : Int) (a0 : 0 ≤ a) (a1 : a < (h.length : Int)) (b0 : 0 ≤ b) (b1 : b < (h.length : Int)) : spec_caClimb.f h a b = some (dist h a b) := by
  have ha := allIn_rd ((heightsOk_iff h).1 hh).2 a a0 a1
  have hb := allIn_rd ((heightsOk_iff h).1 hh).2 b b0 b1
  unfold spec_caClimb.f spec_l1Abs.f spec_l1Most.f dist
  rw [if_pos a0, if_pos a1, if_pos b0, if_pos b1, w64 (n := rd h a - rd h b) (by omega) (by omega), w64 (by omega) (by omega)]
  split <;> split <;> simp only [Option.bind_some, Option.some.injEq] <;> omega
/-- Is a jump allowed? -/
def jumpOk (h : List Int) (r c a b : Int) : Bool := decide (1 ≤ b - a ∧ b - a ≤ r) && decide (dist h a b ≤ c)
theorem caJump_eq {h : List Int} (hh : heightsOk h = true) (r c a b : Int) (a0 : 0 ≤ a) (a1 : a < (h.length : Int)) (b0 : 0 ≤ b) (b1 : b < (h.length : Int)) : spec_caJump.f h r c a b = some (jumpOk h r c a b) := by
  have hl := ((heightsOk_iff h).1 hh).1
  unfold spec_caJump.f jumpOk
  rw [w64 (by omega) (by omega), caClimb_eq hh a b a0 a1 b0 b1]
  by_cases h1 : b > a
  · rw [if_pos h1]
    by_cases h2 : b - a ≤ r
    · rw [if_pos h2, decide_eq_true (show 1 ≤ b - a ∧ b - a ≤ r by omega)]; rfl
    · rw [if_neg h2, decide_eq_false (show ¬ (1 ≤ b - a ∧ b - a ≤ r) by omega)]; rfl
  · rw [if_neg h1, decide_eq_false (show ¬ (1 ≤ b - a ∧ b - a ≤ r) by omega)]; rfl
theorem areJumped_eq (h : List Int) (r : Int) (hl : h.length ≤ 4611686018427387904) (k : Nat) (hk : h.length < k) : impl_areJumped.f k h r = some (heightsOk h && decide (1 ≤ r ∧ r ≤ 20)) := by
  unfold impl_areJumped.f
  rw [areHeights_eq h hl k hk, within_eq]
  cases heightsOk h <;> rfl
theorem caReach_eq (h : List Int) (r : Int) (hl : h.length ≤ 4611686018427387904) (k : Nat) (hk : h.length < k) : spec_caReach.f k h r = some (heightsOk h && decide (1 ≤ r ∧ r ≤ 20)) := by
  unfold spec_caReach.f
  rw [caGood_eq h hl k hk, l1In_eq]
  cases heightsOk h <;> rfl
theorem areClimbed_eq (h : List Int) (r c : Int) (hl : h.length ≤ 4611686018427387904) (k : Nat) (hk : h.length < k) : impl_areClimbed.f k h r c = some (heightsOk h && decide (1 ≤ r ∧ r ≤ 20) && decide (0 ≤ c ∧ c ≤ 50)) := by
  unfold impl_areClimbed.f
  rw [areJumped_eq h r hl k hk, within_eq, Option.bind_some]
  cases (heightsOk h && decide (1 ≤ r ∧ r ≤ 20)) <;> rfl
theorem caAsked_eq (h : List Int) (r c : Int) (hl : h.length ≤ 4611686018427387904) (k : Nat) (hk : h.length < k) : spec_caAsked.f k h r c = some (heightsOk h && decide (1 ≤ r ∧ r ≤ 20) && decide (0 ≤ c ∧ c ≤ 50)) := by
  unfold spec_caAsked.f
  rw [caReach_eq h r hl k hk, l1In_eq, Option.bind_some]
  cases (heightsOk h && decide (1 ≤ r ∧ r ≤ 20)) <;> rfl
end Go.Proofs.Ytmppchecbcflgaa.Pu
namespace Go.Proofs.Ytmppchecbcflgaa.Pu
open Go.RowKit Go.Proofs.Ytmppchecbcflgaa.Print Go.Proofs.YtmppchecbcflgaaW.PrintWords Go.Proofs.YtmppchecbcflgaaW.PrintLast Go.Proofs.YtmppchecbcflgaaW.PrintMore
set_option linter.unusedSimpArgs false
set_option linter.unusedVariables false

theorem isJump_eq {h : List Int} (hh : heightsOk h = true) (r c : Int) (f : Int → Int → Option Int) (a b : Int) (a0 : 0 ≤ a) (a1 : a < (h.length : Int)) (b0 : 0 ≤ b) (b1 : b < (h.length : Int)) : impl_jumper_isJump.f h r c f a b = some (jumpOk h r c a b) := by
  have hl := ((heightsOk_iff h).1 hh).1
  unfold impl_jumper_isJump.f jumpOk
  rw [w64 (by omega) (by omega), within_eq, Option.bind_some]
  by_cases h1 : 1 ≤ b - a ∧ b - a ≤ r
  · rw [if_pos (decide_eq_true h1), if_pos b1, climbs_eq hh a b a0 a1 b0 b1, decide_eq_true h1]; rfl
  · rw [if_neg (by rw [decide_eq_true_eq]; exact h1), decide_eq_false h1]; rfl
/-- What a board adds to the ways from board a. -/
def fromAdd (h : List Int) (r c : Int) (v : Nat → Int) (a b : Nat) : Int := if jumpOk h r c a b = true then v b else 0
/-- What a board adds to the ways to board a. -/
def toAdd (h : List Int) (r c : Int) (v : Nat → Int) (a b : Nat) : Int := if jumpOk h r c b a = true then v b else 0
/-- v tells the number of ways from each board to the last. -/
def IsFrom (h : List Int) (r c : Int) (v : Nat → Int) : Prop := v (h.length - 1) = 1 ∧ ∀ a, a + 1 < h.length → v a = sumP (fromAdd h r c v a) (a + 1) (h.length - 1 - a)
/-- v tells the number of ways from the first board to each. -/
def IsTo (h : List Int) (r c : Int) (v : Nat → Int) : Prop := v 0 = 1 ∧ ∀ a, 0 < a → a < h.length → v a = sumP (toAdd h r c v a) 0 a
theorem from_exists (h : List Int) (r c : Int) : ∃ v, IsFrom h r c v :=
  backRec h.length (fun v a => sumP (fromAdd h r c v a) (a + 1) (h.length - 1 - a)) 1 fun v w a hvw => sumP_congr _ _ _ _ fun i h1 h2 => by
    unfold fromAdd; rw [hvw i (by omega) (by omega)]
theorem to_exists (h : List Int) (r c : Int) : ∃ v, IsTo h r c v :=
  foreRec h.length (fun v a => sumP (toAdd h r c v a) 0 a) 1 fun v w a hvw => sumP_congr _ _ _ _ fun i h1 h2 => by
    unfold toAdd; rw [hvw i (by omega)]
theorem sumP_pow_back (f : Nat → Int) (n : Nat) : ∀ (d j : Nat), j + d = n → (∀ i, j ≤ i → i < n → 0 ≤ f i ∧ f i ≤ ((2 ^ (n - 1 - i) : Nat) : Int)) → 0 ≤ sumP f j d ∧ sumP f j d ≤ ((2 ^ d : Nat) : Int) - 1
  | 0, _, _, _ => by simp [sumP]
  | d + 1, j, hj, h => by
    have h1 := h j (Nat.le_refl _) (by omega)
    have h2 := sumP_pow_back f n d (j + 1) (by omega) (fun i a b => h i (by omega) b)
    rw [show n - 1 - j = d by omega] at h1
    unfold sumP
    rw [Nat.pow_succ]
    omega
theorem sumP_pow_fore (f : Nat → Int) : ∀ (d j : Nat), (∀ i, j ≤ i → i < j + d → 0 ≤ f i ∧ f i ≤ ((2 ^ i : Nat) : Int)) → 0 ≤ sumP f j d ∧ sumP f j d ≤ ((2 ^ (j + d) : Nat) : Int) - ((2 ^ j : Nat) : Int)
  | 0, _, _ => by simp [sumP]
  | d + 1, j, h => by
    have h1 := h j (Nat.le_refl _) (by omega)
    have h2 := sumP_pow_fore f d (j + 1) (fun i a b => h i (by omega) (by omega))
    unfold sumP
    rw [show j + (d + 1) = j + 1 + d by omega]
    rw [Nat.pow_succ 2 j] at h2
    omega
theorem pow20 (i : Nat) (h : i ≤ 20) : ((2 ^ i : Nat) : Int) ≤ 1048576 := by
  have := Nat.pow_le_pow_right (show 2 > 0 by omega) h
  omega
theorem from_bounds {h : List Int} {r c : Int} {v : Nat → Int} (hv : IsFrom h r c v) : ∀ d a, a + 1 + d = h.length → 0 ≤ v a ∧ v a ≤ ((2 ^ d : Nat) : Int) := by
  intro d
  induction d using Nat.strongRecOn with
  | ind d ih =>
    intro a ha
    by_cases h0 : d = 0
    · subst h0
      have : a = h.length - 1 := by omega
      rw [this, hv.1]; simp
    · rw [hv.2 a (by omega), show h.length - 1 - a = d by omega]
      have := sumP_pow_back (fromAdd h r c v a) h.length d (a + 1) (by omega) (fun i h1 h2 => by
        have := ih (h.length - 1 - i) (by omega) i (by omega)
        unfold fromAdd
        split <;> omega)
      omega
theorem from_small {h : List Int} {r c : Int} {v : Nat → Int} (hv : IsFrom h r c v) (hn : h.length ≤ 20) (a : Nat) (ha : a < h.length) : 0 ≤ v a ∧ v a ≤ 1048576 := by
  have := from_bounds hv (h.length - 1 - a) a (by omega)
  have := pow20 (h.length - 1 - a) (by omega)
  omega
theorem to_bounds {h : List Int} {r c : Int} {v : Nat → Int} (hv : IsTo h r c v) : ∀ a, a < h.length → 0 ≤ v a ∧ v a ≤ ((2 ^ a : Nat) : Int) := by
  intro a
  induction a using Nat.strongRecOn with
  | ind a ih =>
    intro ha
    by_cases h0 : a = 0
    · subst h0
      rw [hv.1]; simp
    · rw [hv.2 a (by omega) ha]
      have := sumP_pow_fore (toAdd h r c v a) a 0 (fun i h1 h2 => by
        have := ih i (by omega) (by omega)
        unfold toAdd
        split <;> omega)
      simp only [Nat.zero_add] at this
      omega
theorem to_small {h : List Int} {r c : Int} {v : Nat → Int} (hv : IsTo h r c v) (hn : h.length ≤ 20) (a : Nat) (ha : a < h.length) : 0 ≤ v a ∧ v a ≤ 1048576 := by
  have := to_bounds hv a ha
  have := pow20 a (by omega)
  omega
/-- The first b steps of a sum of small numbers. -/
theorem add_small {h : List Int} {r c : Int} {v : Nat → Int} {m : Int} (hv : ∀ i, i < h.length → 0 ≤ v i ∧ v i ≤ m) (hm : 0 ≤ m) (a b : Nat) (hb : b < h.length) : 0 ≤ fromAdd h r c v a b ∧ fromAdd h r c v a b ≤ m := by
  have := hv b hb
  unfold fromAdd; split <;> omega
theorem addTo_small {h : List Int} {r c : Int} {v : Nat → Int} {m : Int} (hv : ∀ i, i < h.length → 0 ≤ v i ∧ v i ≤ m) (hm : 0 ≤ m) (a b : Nat) (hb : b < h.length) : 0 ≤ toAdd h r c v a b ∧ toAdd h r c v a b ≤ m := by
  have := hv b hb
  unfold toAdd; split <;> omega

/- The inner loop of the way back, for both sides; R is what comes after it. -/
theorem ways_l3 {h : List Int} (hh : heightsOk h = true) (r c : Int) (f : Int → Int → Option Int) (v : Nat → Int) (hv : IsFrom h r c v) (x5 : List Int) (res : List Int × List Int) (K : Nat) (a : Nat) (ha : a + 1 < h.length)
    (hc : ∀ x : List Int, x.length = h.length → (∀ i, a ≤ i → i < h.length → rd x (i : Int) = v i) → (∀ i, i < a → rd x (i : Int) = 0) → ∀ k, K < k → impl_jumper_ways.l2 k (h.length : Int) x5 x ((a : Int) - 1) h r c f = some res) :
    ∀ (d j : Nat) (x : List Int), j + d = h.length → a < j → x.length = h.length → (∀ i, a < i → i < h.length → rd x (i : Int) = v i) → (∀ i, i < a → rd x (i : Int) = 0) → rd x (a : Int) + sumP (fromAdd h r c v a) j d = v a → 0 ≤ rd x (a : Int) → ∀ k, K + d + 1 < k → impl_jumper_ways.l3 k (h.length : Int) x5 x (a : Int) (j : Int) h r c f = some res := by
  have hn := ((heightsOk_iff h).1 hh).1
  have hva := from_small hv hn.2 a (by omega)
  intro d
  induction d with
  | zero =>
    intro j x hj haj hx hl hz hs h0 k hk
    obtain ⟨k, rfl⟩ : ∃ m, k = m + 1 := ⟨k - 1, by omega⟩
    simp only [impl_jumper_ways.l3]
    rw [if_neg (by omega), w64 (by omega) (by omega)]
    refine hc x hx (fun i h1 h2 => ?_) hz k (by omega)
    by_cases e : i = a
    · subst e; simpa [sumP] using hs
    · exact hl i (by omega) h2
  | succ d ih =>
    intro j x hj haj hx hl hz hs h0 k hk
    obtain ⟨k, rfl⟩ : ∃ m, k = m + 1 := ⟨k - 1, by omega⟩
    have hb := sumP_bounds (fromAdd h r c v a) 1048576 d (j + 1) (fun i h1 h2 => add_small (fun i hi => from_small hv hn.2 i hi) (by omega) a i (by omega))
    have hj1 := add_small (r := r) (c := c) (fun i hi => from_small hv hn.2 i hi) (by omega) a j (by omega)
    simp only [impl_jumper_ways.l3]
    rw [if_pos (by omega), isJump_eq hh r c f _ _ (by omega) (by omega) (by omega) (by omega), Option.bind_some]
    rw [sumP] at hs
    rw [w64 (n := (j : Int) + 1) (by omega) (by omega), show ((j : Int) + 1) = ((j + 1 : Nat) : Int) by omega]
    by_cases hjump : jumpOk h r c (a : Int) (j : Int) = true
    · have e : fromAdd h r c v a j = v j := by unfold fromAdd; rw [if_pos hjump]
      rw [e] at hs hj1
      rw [if_pos hjump, if_pos (by omega), if_pos (by omega), if_pos (by omega), if_pos (by omega), hl j haj (by omega), w64 (by omega) (by omega), Int.toNat_natCast]
      refine ih (j + 1) _ (by omega) (by omega) (by simpa using hx) (fun i h1 h2 => ?_) (fun i h1 => ?_) ?_ ?_ k (by omega)
      · rw [rd_set_other _ _ _ _ (by omega) (by omega)]; exact hl i h1 h2
      · rw [rd_set_other _ _ _ _ (by omega) (by omega)]; exact hz i h1
      · rw [rd_set_same _ _ _ (by omega)]; omega
      · rw [rd_set_same _ _ _ (by omega)]; omega
    · have e : fromAdd h r c v a j = 0 := by unfold fromAdd; rw [if_neg hjump]
      rw [e] at hs
      rw [if_neg hjump]
      exact ih (j + 1) x (by omega) (by omega) hx hl hz (by omega) h0 k (by omega)
theorem ways_l2 {h : List Int} (hh : heightsOk h = true) (r c : Int) (f : Int → Int → Option Int) (v : Nat → Int) (hv : IsFrom h r c v) (x5 : List Int) :
    ∀ (m : Nat) (x : List Int), m < h.length → x.length = h.length → (∀ i, m ≤ i → i < h.length → rd x (i : Int) = v i) → (∀ i, i < m → rd x (i : Int) = 0) → ∀ k, 30 * m < k → impl_jumper_ways.l2 k (h.length : Int) x5 x ((m : Int) - 1) h r c f = some (x5, tab v h.length) := by
  have hn := ((heightsOk_iff h).1 hh).1
  intro m
  induction m with
  | zero =>
    intro x hm hx hl hz k hk
    obtain ⟨k, rfl⟩ : ∃ m, k = m + 1 := ⟨k - 1, by omega⟩
    simp only [impl_jumper_ways.l2]
    rw [if_neg (by omega), eq_tab v h.length x hx (fun i hi => hl i (by omega) hi)]
  | succ a ih =>
    intro x hm hx hl hz k hk
    obtain ⟨k, rfl⟩ : ∃ m, k = m + 1 := ⟨k - 1, by omega⟩
    simp only [impl_jumper_ways.l2]
    rw [show ((a + 1 : Nat) : Int) - 1 = (a : Int) by omega, if_pos (by omega), w64 (by omega) (by omega), show (a : Int) + 1 = ((a + 1 : Nat) : Int) by omega]
    have hz0 := hz a (by omega)
    exact ways_l3 hh r c f v hv x5 _ (30 * a) a hm (fun x h1 h2 h3 k hk => ih x (by omega) h1 h2 h3 k hk) (h.length - 1 - a) (a + 1) x (by omega) (by omega) hx (fun i h1 h2 => hl i (by omega) h2) (fun i h1 => hz i (by omega)) (by rw [hz0, hv.2 a hm]; omega) (by omega) k (by omega)
/- The inner loop of the way forth. -/
theorem ways_l1 {h : List Int} (hh : heightsOk h = true) (r c : Int) (f : Int → Int → Option Int) (v : Nat → Int) (hv : IsTo h r c v) (x6 : List Int) (res : List Int × List Int) (K : Nat) (a : Nat) (h0a : 0 < a) (ha : a < h.length)
    (hc : ∀ x : List Int, x.length = h.length → (∀ i, i ≤ a → rd x (i : Int) = v i) → (∀ i, a < i → i < h.length → rd x (i : Int) = 0) → ∀ k, K < k → impl_jumper_ways.l0 k (h.length : Int) x ((a : Int) + 1) x6 h r c f = some res) :
    ∀ (d j : Nat) (x : List Int), j + d = a → x.length = h.length → (∀ i, i < a → rd x (i : Int) = v i) → (∀ i, a < i → i < h.length → rd x (i : Int) = 0) → rd x (a : Int) + sumP (toAdd h r c v a) j d = v a → 0 ≤ rd x (a : Int) → ∀ k, K + d + 1 < k → impl_jumper_ways.l1 k (h.length : Int) x (a : Int) x6 (a : Int) (j : Int) h r c f = some res := by
  have hn := ((heightsOk_iff h).1 hh).1
  have hva := to_small hv hn.2 a (by omega)
  intro d
  induction d with
  | zero =>
    intro j x hj hx hl hz hs h0 k hk
    obtain ⟨k, rfl⟩ : ∃ m, k = m + 1 := ⟨k - 1, by omega⟩
    simp only [impl_jumper_ways.l1]
    rw [if_neg (by omega), w64 (by omega) (by omega)]
    refine hc x hx (fun i h1 => ?_) hz k (by omega)
    by_cases e : i = a
    · subst e; simpa [sumP] using hs
    · exact hl i (by omega)
  | succ d ih =>
    intro j x hj hx hl hz hs h0 k hk
    obtain ⟨k, rfl⟩ : ∃ m, k = m + 1 := ⟨k - 1, by omega⟩
    have hb := sumP_bounds (toAdd h r c v a) 1048576 d (j + 1) (fun i h1 h2 => addTo_small (fun i hi => to_small hv hn.2 i hi) (by omega) a i (by omega))
    have hj1 := addTo_small (r := r) (c := c) (fun i hi => to_small hv hn.2 i hi) (by omega) a j (by omega)
    simp only [impl_jumper_ways.l1]
    rw [if_pos (by omega), isJump_eq hh r c f _ _ (by omega) (by omega) (by omega) (by omega), Option.bind_some]
    rw [sumP] at hs
    rw [w64 (n := (j : Int) + 1) (by omega) (by omega), show ((j : Int) + 1) = ((j + 1 : Nat) : Int) by omega]
    by_cases hjump : jumpOk h r c (j : Int) (a : Int) = true
    · have e : toAdd h r c v a j = v j := by unfold toAdd; rw [if_pos hjump]
      rw [e] at hs hj1
      rw [if_pos hjump, if_pos (by omega), if_pos (by omega), if_pos (by omega), if_pos (by omega), hl j (by omega), w64 (by omega) (by omega), Int.toNat_natCast]
      refine ih (j + 1) _ (by omega) (by simpa using hx) (fun i h1 => ?_) (fun i h1 h2 => ?_) ?_ ?_ k (by omega)
      · rw [rd_set_other _ _ _ _ (by omega) (by omega)]; exact hl i h1
      · rw [rd_set_other _ _ _ _ (by omega) (by omega)]; exact hz i h1 h2
      · rw [rd_set_same _ _ _ (by omega)]; omega
      · rw [rd_set_same _ _ _ (by omega)]; omega
    · have e : toAdd h r c v a j = 0 := by unfold toAdd; rw [if_neg hjump]
      rw [e] at hs
      rw [if_neg hjump]
      exact ih (j + 1) x (by omega) hx hl hz (by omega) h0 k (by omega)
theorem ways_l0 {h : List Int} (hh : heightsOk h = true) (r c : Int) (f : Int → Int → Option Int) (v w : Nat → Int) (hv : IsTo h r c v) (hw : IsFrom h r c w) (x6 : List Int) (h6 : x6.length = h.length) (hl6 : rd x6 ((h.length - 1 : Nat) : Int) = 1) (hz6 : ∀ i, i < h.length - 1 → rd x6 (i : Int) = 0) :
    ∀ (d a : Nat) (x : List Int), a + d = h.length → 0 < a → x.length = h.length → (∀ i, i < a → rd x (i : Int) = v i) → (∀ i, a ≤ i → i < h.length → rd x (i : Int) = 0) → ∀ k, 30 * d + 600 < k → impl_jumper_ways.l0 k (h.length : Int) x (a : Int) x6 h r c f = some (tab v h.length, tab w h.length) := by
  have hn := ((heightsOk_iff h).1 hh).1
  intro d
  induction d with
  | zero =>
    intro a x ha h0 hx hl hz k hk
    obtain ⟨k, rfl⟩ : ∃ m, k = m + 1 := ⟨k - 1, by omega⟩
    simp only [impl_jumper_ways.l0]
    rw [if_neg (by omega), w64 (by omega) (by omega), eq_tab v h.length x hx (fun i hi => hl i (by omega)), show (h.length : Int) - 2 = ((h.length - 1 : Nat) : Int) - 1 by omega]
    refine ways_l2 hh r c f w hw _ (h.length - 1) x6 (by omega) h6 (fun i h1 h2 => ?_) hz6 k (by omega)
    have : i = h.length - 1 := by omega
    subst this; rw [hl6, hw.1]
  | succ d ih =>
    intro a x ha h0 hx hl hz k hk
    obtain ⟨k, rfl⟩ : ∃ m, k = m + 1 := ⟨k - 1, by omega⟩
    simp only [impl_jumper_ways.l0]
    rw [if_pos (by omega)]
    have hz0 := hz a (Nat.le_refl _) (by omega)
    have := ways_l1 hh r c f v hv x6 (tab v h.length, tab w h.length) (30 * d + 600) a h0 (by omega) (fun x h1 h2 h3 k hk => by
      rw [show (a : Int) + 1 = ((a + 1 : Nat) : Int) by omega]
      exact ih (a + 1) x (by omega) (by omega) h1 (fun i hi => h2 i (by omega)) (fun i hi hi2 => h3 i (by omega) hi2) k hk) a 0 x (by omega) hx hl (fun i h1 h2 => hz i (by omega) h2) (by rw [hz0, hv.2 a h0 (by omega)]; omega) (by omega) k (by omega)
    exact this
theorem ways_eq {h : List Int} (hh : heightsOk h = true) (r c : Int) (f : Int → Int → Option Int) (v w : Nat → Int) (hv : IsTo h r c v) (hw : IsFrom h r c w) (k : Nat) (hk : 1300 < k) : impl_jumper_ways.f k h r c f = some (tab v h.length, tab w h.length) := by
  have hn := ((heightsOk_iff h).1 hh).1
  unfold impl_jumper_ways.f
  rw [if_pos (by omega), if_pos (by omega), w64 (by omega) (by omega)]
  simp only [Option.bind_some, List.length_replicate, Int.toNat_natCast]
  rw [if_pos (by omega), if_pos (by omega), if_pos (by omega), show (h.length : Int) - 1 = ((h.length - 1 : Nat) : Int) by omega, Int.toNat_natCast]
  have := ways_l0 hh r c f v w hv hw ((List.replicate h.length 0).set (h.length - 1) 1) (by simp) (rd_set_same _ _ _ (by simp; omega)) (fun i hi => by rw [rd_set_other _ _ _ _ (by simp; omega) (by omega)]; exact rd_zeros _ _) (h.length - 1) 1 ((List.replicate h.length 0).set 0 1) (by omega) (by omega) (by simp) (fun i hi => by
    have : i = 0 := by omega
    subst this
    rw [rd_set_same _ _ _ (by simp; omega), hv.1]) (fun i h1 h2 => by rw [rd_set_other _ _ _ _ (by simp; omega) (by omega)]; exact rd_zeros _ _) k (by omega)
  exact this
theorem caWays_l1 {h : List Int} (hh : heightsOk h = true) (r c : Int) (v : Nat → Int) (hv : IsFrom h r c v) (res : List Int) (K : Nat) (a : Nat) (ha : a + 1 < h.length)
    (hc : ∀ x : List Int, x.length = h.length → (∀ i, a ≤ i → i < h.length → rd x (i : Int) = v i) → (∀ i, i < a → rd x (i : Int) = 0) → ∀ k, K < k → spec_caWays.l0 k h r c x ((a : Int) - 1) = some res) :
    ∀ (d j : Nat) (x : List Int), j + d = h.length → a < j → x.length = h.length → (∀ i, a < i → i < h.length → rd x (i : Int) = v i) → (∀ i, i < a → rd x (i : Int) = 0) → rd x (a : Int) + sumP (fromAdd h r c v a) j d = v a → 0 ≤ rd x (a : Int) → ∀ k, K + d + 1 < k → spec_caWays.l1 k h r c x (a : Int) (j : Int) = some res := by
  have hn := ((heightsOk_iff h).1 hh).1
  have hva := from_small hv hn.2 a (by omega)
  intro d
  induction d with
  | zero =>
    intro j x hj haj hx hl hz hs h0 k hk
    obtain ⟨k, rfl⟩ : ∃ m, k = m + 1 := ⟨k - 1, by omega⟩
    simp only [spec_caWays.l1]
    rw [if_neg (by omega), w64 (by omega) (by omega)]
    refine hc x hx (fun i h1 h2 => ?_) hz k (by omega)
    by_cases e : i = a
    · subst e; simpa [sumP] using hs
    · exact hl i (by omega) h2
  | succ d ih =>
    intro j x hj haj hx hl hz hs h0 k hk
    obtain ⟨k, rfl⟩ : ∃ m, k = m + 1 := ⟨k - 1, by omega⟩
    have hb := sumP_bounds (fromAdd h r c v a) 1048576 d (j + 1) (fun i h1 h2 => add_small (fun i hi => from_small hv hn.2 i hi) (by omega) a i (by omega))
    have hj1 := add_small (r := r) (c := c) (fun i hi => from_small hv hn.2 i hi) (by omega) a j (by omega)
    simp only [spec_caWays.l1]
    rw [if_pos (by omega), caJump_eq hh r c _ _ (by omega) (by omega) (by omega) (by omega), Option.bind_some]
    rw [sumP] at hs
    rw [w64 (n := (j : Int) + 1) (by omega) (by omega), show ((j : Int) + 1) = ((j + 1 : Nat) : Int) by omega]
    by_cases hjump : jumpOk h r c (a : Int) (j : Int) = true
    · have e : fromAdd h r c v a j = v j := by unfold fromAdd; rw [if_pos hjump]
      rw [e] at hs hj1
      rw [if_pos hjump, if_pos (by omega), if_pos (by omega), if_pos (by omega), if_pos (by omega), hl j haj (by omega), w64 (by omega) (by omega), Int.toNat_natCast]
      refine ih (j + 1) _ (by omega) (by omega) (by simpa using hx) (fun i h1 h2 => ?_) (fun i h1 => ?_) ?_ ?_ k (by omega)
      · rw [rd_set_other _ _ _ _ (by omega) (by omega)]; exact hl i h1 h2
      · rw [rd_set_other _ _ _ _ (by omega) (by omega)]; exact hz i h1
      · rw [rd_set_same _ _ _ (by omega)]; omega
      · rw [rd_set_same _ _ _ (by omega)]; omega
    · have e : fromAdd h r c v a j = 0 := by unfold fromAdd; rw [if_neg hjump]
      rw [e] at hs
      rw [if_neg hjump]
      exact ih (j + 1) x (by omega) (by omega) hx hl hz (by omega) h0 k (by omega)
theorem caWays_l0 {h : List Int} (hh : heightsOk h = true) (r c : Int) (v : Nat → Int) (hv : IsFrom h r c v) :
    ∀ (m : Nat) (x : List Int), m < h.length → x.length = h.length → (∀ i, m ≤ i → i < h.length → rd x (i : Int) = v i) → (∀ i, i < m → rd x (i : Int) = 0) → ∀ k, 30 * m < k → spec_caWays.l0 k h r c x ((m : Int) - 1) = some (tab v h.length) := by
  have hn := ((heightsOk_iff h).1 hh).1
  intro m
  induction m with
  | zero =>
    intro x hm hx hl hz k hk
    obtain ⟨k, rfl⟩ : ∃ m, k = m + 1 := ⟨k - 1, by omega⟩
    simp only [spec_caWays.l0]
    rw [if_neg (by omega), eq_tab v h.length x hx (fun i hi => hl i (by omega) hi)]
  | succ a ih =>
    intro x hm hx hl hz k hk
    obtain ⟨k, rfl⟩ : ∃ m, k = m + 1 := ⟨k - 1, by omega⟩
    simp only [spec_caWays.l0]
    rw [show ((a + 1 : Nat) : Int) - 1 = (a : Int) by omega, if_pos (by omega), w64 (by omega) (by omega), show (a : Int) + 1 = ((a + 1 : Nat) : Int) by omega]
    have hz0 := hz a (by omega)
    exact caWays_l1 hh r c v hv _ (30 * a) a hm (fun x h1 h2 h3 k hk => ih x (by omega) h1 h2 h3 k hk) (h.length - 1 - a) (a + 1) x (by omega) (by omega) hx (fun i h1 h2 => hl i (by omega) h2) (fun i h1 => hz i (by omega)) (by rw [hz0, hv.2 a hm]; omega) (by omega) k (by omega)
theorem caWays_eq {h : List Int} (hh : heightsOk h = true) (r c : Int) (w : Nat → Int) (hw : IsFrom h r c w) (k : Nat) (hk : 1300 < k) : spec_caWays.f k h r c = some (tab w h.length) := by
  have hn := ((heightsOk_iff h).1 hh).1
  unfold spec_caWays.f
  rw [if_pos (by omega), if_pos (by omega), w64 (n := (h.length : Int) - 1) (by omega) (by omega), w64 (n := (h.length : Int) - 2) (by omega) (by omega)]
  simp only [Option.bind_some, List.length_replicate, Int.toNat_natCast]
  rw [if_pos (by omega), if_pos (by omega), show (h.length : Int) - 2 = ((h.length - 1 : Nat) : Int) - 1 by omega, show (h.length : Int) - 1 = ((h.length - 1 : Nat) : Int) by omega, Int.toNat_natCast]
  refine caWays_l0 hh r c w hw (h.length - 1) _ (by omega) (by simp) (fun i h1 h2 => ?_) (fun i hi => by rw [rd_set_other _ _ _ _ (by simp; omega) (by omega)]; exact rd_zeros _ _) k (by omega)
  have : i = h.length - 1 := by omega
  subst this
  rw [rd_set_same _ _ _ (by simp; omega), hw.1]
end Go.Proofs.Ytmppchecbcflgaa.Pu
namespace Go.Proofs.Ytmppchecbcflgaa.Pu
open Go.RowKit Go.Proofs.Ytmppchecbcflgaa.Print Go.Proofs.YtmppchecbcflgaaW.PrintWords Go.Proofs.YtmppchecbcflgaaW.PrintLast Go.Proofs.YtmppchecbcflgaaW.PrintMore
set_option linter.unusedSimpArgs false
set_option linter.unusedVariables false
theorem coll_snoc (p : Nat → Bool) : ∀ (d j : Nat), coll p j (d + 1) = coll p j d ++ (if p (j + d) = true then [((j + d : Nat) : Int)] else [])
  | 0, j => by
    by_cases h : p j = true <;> simp [coll, h]
  | d + 1, j => by
    have := coll_snoc p d (j + 1)
    rw [show j + 1 + d = j + (d + 1) by omega] at this
    by_cases h : p j = true
    · rw [coll_yes p j (d + 1) h, coll_yes p j d h, this]; rfl
    · have h2 : p j = false := by simpa using h
      rw [coll_no p j (d + 1) h2, coll_no p j d h2, this]
theorem coll_mem (p : Nat → Bool) (x : Int) : ∀ (d j : Nat), x ∈ coll p j d ↔ ∃ i, j ≤ i ∧ i < j + d ∧ p i = true ∧ x = (i : Int)
  | 0, j => by simp [coll]; intro i h1 h2; omega
  | d + 1, j => by
    have ih := coll_mem p x d (j + 1)
    by_cases h : p j = true
    · rw [coll_yes p j d h, List.mem_cons, ih]
      constructor
      · rintro (e | ⟨i, h1, h2, h3, h4⟩)
        · exact ⟨j, Nat.le_refl _, by omega, h, e⟩
        · exact ⟨i, by omega, by omega, h3, h4⟩
      · rintro ⟨i, h1, h2, h3, h4⟩
        by_cases e : i = j
        · subst e; exact .inl h4
        · exact .inr ⟨i, by omega, by omega, h3, h4⟩
    · have h2 : p j = false := by simpa using h
      rw [coll_no p j d h2, ih]
      constructor
      · rintro ⟨i, h1, h2, h3, h4⟩
        exact ⟨i, by omega, by omega, h3, h4⟩
      · rintro ⟨i, h1, h2, h3, h4⟩
        have e : i ≠ j := by intro e; subst e; exact h h3
        exact ⟨i, by omega, by omega, h3, h4⟩
theorem sumP_pos (f : Nat → Int) : ∀ (d j : Nat), (∀ i, j ≤ i → i < j + d → 0 ≤ f i) → (0 < sumP f j d ↔ ∃ i, j ≤ i ∧ i < j + d ∧ 0 < f i)
  | 0, j, _ => by simp [sumP]; intro i h1 h2; omega
  | d + 1, j, h => by
    have ih := sumP_pos f d (j + 1) (fun i h1 h2 => h i (by omega) (by omega))
    have h0 := h j (Nat.le_refl _) (by omega)
    have hn : 0 ≤ sumP f (j + 1) d := by
      by_cases e : ∃ b : Int, ∀ i, j + 1 ≤ i → i < j + 1 + d → 0 ≤ f i ∧ f i ≤ b
      · obtain ⟨b, hb⟩ := e; exact (sumP_bounds f b d (j + 1) hb).1
      · exfalso; apply e
        clear ih e h0
        have : ∀ (d j : Nat), ∃ b : Int, ∀ i, j ≤ i → i < j + d → f i ≤ b := by
          intro d
          induction d with
          | zero => intro j; exact ⟨0, fun i h1 h2 => absurd h1 (by omega)⟩
          | succ d ih =>
            intro j
            obtain ⟨b, hb⟩ := ih (j + 1)
            refine ⟨if f j ≤ b then b else f j, fun i h1 h2 => ?_⟩
            by_cases e : i = j
            · subst e; split <;> omega
            · have := hb i (by omega) (by omega)
              split <;> omega
        obtain ⟨b, hb⟩ := this d (j + 1)
        exact ⟨b, fun i h1 h2 => ⟨h i (by omega) (by omega), hb i h1 h2⟩⟩
    unfold sumP
    constructor
    · intro hp
      by_cases e : 0 < f j
      · exact ⟨j, Nat.le_refl _, by omega, e⟩
      · obtain ⟨i, h1, h2, h3⟩ := ih.1 (by omega)
        exact ⟨i, by omega, by omega, h3⟩
    · rintro ⟨i, h1, h2, h3⟩
      by_cases e : i = j
      · subst e; omega
      · have := ih.2 ⟨i, by omega, by omega, h3⟩
        omega
theorem to_pos {h : List Int} {r c : Int} {v : Nat → Int} (hv : IsTo h r c v) (a : Nat) (h0 : 0 < a) (ha : a < h.length) : 0 < v a ↔ ∃ b, b < a ∧ 0 < v b ∧ jumpOk h r c b a = true := by
  rw [hv.2 a h0 ha, sumP_pos _ _ _ (fun i h1 h2 => by have := to_bounds hv i (by omega); unfold toAdd; split <;> omega)]
  constructor
  · rintro ⟨i, h1, h2, h3⟩
    unfold toAdd at h3
    by_cases hj : jumpOk h r c i a = true
    · rw [if_pos hj] at h3; exact ⟨i, by omega, h3, hj⟩
    · rw [if_neg hj] at h3; omega
  · rintro ⟨i, h1, h2, h3⟩
    refine ⟨i, by omega, by omega, ?_⟩
    unfold toAdd; rw [if_pos h3]; exact h2
/-- Is board i reached? -/
def reachP (v : Nat → Int) (i : Nat) : Bool := decide (0 < v i)
theorem caReached_l1 {h : List Int} (hh : heightsOk h = true) (r c : Int) (L : List Int) (hL : L.length ≤ 100) (hL2 : ∀ x ∈ L, 0 ≤ x ∧ x < (h.length : Int)) (a : Nat) (ha : a < h.length) (res : List Int) (K : Nat) (q : Bool)
    (hc : ∀ k, K < k → spec_caReached.l0 k h r c (if q = true then L ++ [(a : Int)] else L) ((a : Int) + 1) = some res) :
    ∀ (d j : Nat) (b : Bool), j + d = L.length → (b || (L.drop j).any fun x => jumpOk h r c x a) = q → ∀ k, K + d + 1 < k → spec_caReached.l1 k h r c L (a : Int) b (L.length : Int) (j : Int) = some res := by
  have hn := ((heightsOk_iff h).1 hh).1
  intro d
  induction d with
  | zero =>
    intro j b hj hb k hk
    obtain ⟨k, rfl⟩ : ∃ m, k = m + 1 := ⟨k - 1, by omega⟩
    rw [List.drop_of_length_le (by omega)] at hb
    have hbq : b = q := by simpa using hb
    subst hbq
    have := hc k (by omega)
    simp only [spec_caReached.l1]
    rw [if_neg (by omega), w64 (by omega) (by omega)]
    cases b with
    | true => rw [if_pos rfl, if_pos (by omega)]; simpa using this
    | false => rw [if_neg (by simp)]; simpa using this
  | succ d ih =>
    intro j b hj hb k hk
    obtain ⟨k, rfl⟩ : ∃ m, k = m + 1 := ⟨k - 1, by omega⟩
    have hm := hL2 (L[j]'(by omega)) (List.getElem_mem _)
    rw [List.drop_eq_getElem_cons (by omega), List.any_cons] at hb
    simp only [spec_caReached.l1]
    rw [if_pos (by omega), if_pos (by omega), if_pos (by omega), w64 (n := (j : Int) + 1) (by omega) (by omega), show ((j : Int) + 1) = ((j + 1 : Nat) : Int) by omega, rd_get L j (by omega)]
    cases b with
    | true =>
      rw [if_pos rfl]
      exact ih (j + 1) true (by omega) (by simpa using hb) k (by omega)
    | false =>
      rw [if_neg (by simp), caJump_eq hh r c _ _ (by omega) (by omega) (by omega) (by omega), Option.bind_some]
      exact ih (j + 1) _ (by omega) (by simpa using hb) k (by omega)
theorem caReached_l0 {h : List Int} (hh : heightsOk h = true) (r c : Int) (v : Nat → Int) (hv : IsTo h r c v) :
    ∀ (d a : Nat), a + d = h.length → 0 < a → ∀ k, 40 * d < k → spec_caReached.l0 k h r c (coll (reachP v) 0 a) (a : Int) = some (coll (reachP v) 0 h.length) := by
  have hn := ((heightsOk_iff h).1 hh).1
  intro d
  induction d with
  | zero =>
    intro a ha h0 k hk
    obtain ⟨k, rfl⟩ : ∃ m, k = m + 1 := ⟨k - 1, by omega⟩
    have : a = h.length := by omega
    subst this
    simp only [spec_caReached.l0]
    rw [if_neg (by omega)]
  | succ d ih =>
    intro a ha h0 k hk
    obtain ⟨k, rfl⟩ : ∃ m, k = m + 1 := ⟨k - 1, by omega⟩
    have hlen := coll_length (reachP v) a 0
    simp only [spec_caReached.l0]
    rw [if_pos (by omega)]
    have := caReached_l1 hh r c (coll (reachP v) 0 a) (by omega) (fun x hx => by
      obtain ⟨i, h1, h2, h3, h4⟩ := (coll_mem _ _ _ _).1 hx
      omega) a (by omega) (coll (reachP v) 0 h.length) (40 * d) (reachP v a) (fun k hk => by
        have := ih (a + 1) (by omega) (by omega) k hk
        rw [coll_snoc, Nat.zero_add] at this
        rw [show ((a : Int) + 1) = ((a + 1 : Nat) : Int) by omega, ← this]
        congr 1
        split <;> simp) (coll (reachP v) 0 a).length 0 false (by omega) (by
          rw [List.drop_zero, Bool.false_or, Bool.eq_iff_iff, List.any_eq_true]
          unfold reachP
          rw [decide_eq_true_eq, to_pos hv a h0 (by omega)]
          constructor
          · rintro ⟨x, hx, hj⟩
            obtain ⟨i, h1, h2, h3, h4⟩ := (coll_mem _ _ _ _).1 hx
            subst h4
            exact ⟨i, by omega, of_decide_eq_true h3, hj⟩
          · rintro ⟨i, h1, h2, h3⟩
            exact ⟨(i : Int), (coll_mem _ _ _ _).2 ⟨i, by omega, by omega, decide_eq_true h2, rfl⟩, h3⟩) k (by omega)
    exact this
theorem caReached_eq {h : List Int} (hh : heightsOk h = true) (r c : Int) (v : Nat → Int) (hv : IsTo h r c v) (k : Nat) (hk : 900 < k) : spec_caReached.f k h r c = some (coll (reachP v) 0 h.length) := by
  have hn := ((heightsOk_iff h).1 hh).1
  unfold spec_caReached.f
  have := caReached_l0 hh r c v hv (h.length - 1) 1 (by omega) (by omega) k (by omega)
  rw [coll_yes _ _ _ (show reachP v 0 = true by unfold reachP; rw [hv.1]; rfl)] at this
  exact this
end Go.Proofs.Ytmppchecbcflgaa.Pu
namespace Go.Proofs.Ytmppchecbcflgaa.Pu
open Go.RowKit Go.Proofs.Ytmppchecbcflgaa.Print Go.Proofs.YtmppchecbcflgaaW.PrintWords Go.Proofs.YtmppchecbcflgaaW.PrintLast Go.Proofs.YtmppchecbcflgaaW.PrintMore
set_option linter.unusedSimpArgs false
set_option linter.unusedVariables false

/-- What a jump costs. -/
def cst (one : Bool) (h : List Int) (a b : Int) : Int := if one = true then 1 else dist h a b
theorem cst_bounds {h : List Int} (hh : heightsOk h = true) (one : Bool) (a b : Nat) (a1 : a < h.length) (b1 : b < h.length) : 0 ≤ cst one h a b ∧ cst one h a b ≤ 50 := by
  have := dist_bounds hh (a : Int) (b : Int) (by omega) (by omega) (by omega) (by omega)
  unfold cst
  split <;> omega
/-- One step of the search for the least: board b is looked at. -/
def leftStep (one : Bool) (h : List Int) (r c : Int) (v : Nat → Int) (a : Nat) (cur : Int) (b : Nat) : Int :=
  if v b < 0 ∨ jumpOk h r c a b = false then cur else if cur < 0 ∨ v b + cst one h a b < cur then v b + cst one h a b else cur
def leftIn (one : Bool) (h : List Int) (r c : Int) (v : Nat → Int) (a : Nat) : Int → Nat → Nat → Int
  | cur, _, 0 => cur
  | cur, j, d + 1 => leftIn one h r c v a (leftStep one h r c v a cur j) (j + 1) d
theorem leftIn_congr (one : Bool) (h : List Int) (r c : Int) (v w : Nat → Int) (a : Nat) : ∀ (d j : Nat) (cur : Int), (∀ i, j ≤ i → i < j + d → v i = w i) → leftIn one h r c v a cur j d = leftIn one h r c w a cur j d
  | 0, _, _, _ => rfl
  | d + 1, j, cur, hvw => by
    unfold leftIn leftStep
    rw [hvw j (Nat.le_refl _) (by omega), leftIn_congr one h r c v w a d (j + 1) _ (fun i h1 h2 => hvw i (by omega) (by omega))]
/-- v tells the least sum from each board to the last (-1: none). -/
def IsLeft (one : Bool) (h : List Int) (r c : Int) (v : Nat → Int) : Prop := v (h.length - 1) = 0 ∧ ∀ a, a + 1 < h.length → v a = leftIn one h r c v a (-1) (a + 1) (h.length - 1 - a)
theorem left_exists (one : Bool) (h : List Int) (r c : Int) : ∃ v, IsLeft one h r c v :=
  backRec h.length (fun v a => leftIn one h r c v a (-1) (a + 1) (h.length - 1 - a)) 0 fun v w a hvw => leftIn_congr _ _ _ _ _ _ _ _ _ _ fun i h1 h2 => hvw i (by omega) (by omega)
theorem leftIn_bounds {h : List Int} (hh : heightsOk h = true) (one : Bool) (r c : Int) (v : Nat → Int) (a : Nat) (ha : a < h.length) (m : Int) : ∀ (d j : Nat) (cur : Int), j + d = h.length → (∀ i, j ≤ i → i < h.length → v i + 50 ≤ m) → -1 ≤ cur → cur ≤ m → -1 ≤ leftIn one h r c v a cur j d ∧ leftIn one h r c v a cur j d ≤ m
  | 0, _, _, _, _, h1, h2 => ⟨h1, h2⟩
  | d + 1, j, cur, hj, hv, h1, h2 => by
    have hc := cst_bounds hh one a j ha (by omega)
    have hvj := hv j (Nat.le_refl _) (by omega)
    unfold leftIn
    refine leftIn_bounds hh one r c v a ha m d (j + 1) _ (by omega) (fun i a b => hv i (by omega) b) ?_ ?_
    · unfold leftStep; split
      · exact h1
      · split <;> omega
    · unfold leftStep; split
      · exact h2
      · split <;> omega
theorem left_bounds {h : List Int} (hh : heightsOk h = true) {one : Bool} {r c : Int} {v : Nat → Int} (hv : IsLeft one h r c v) : ∀ d a, a + 1 + d = h.length → -1 ≤ v a ∧ v a ≤ 50 * d := by
  intro d
  induction d using Nat.strongRecOn with
  | ind d ih =>
    intro a ha
    by_cases h0 : d = 0
    · subst h0
      have : a = h.length - 1 := by omega
      rw [this, hv.1]; omega
    · rw [hv.2 a (by omega)]
      exact leftIn_bounds hh one r c v a (by omega) (50 * d) _ _ _ (by omega) (fun i h1 h2 => by
        have := ih (h.length - 1 - i) (by omega) i (by omega)
        omega) (by omega) (by omega)
theorem left_small {h : List Int} (hh : heightsOk h = true) {one : Bool} {r c : Int} {v : Nat → Int} (hv : IsLeft one h r c v) (a : Nat) (ha : a < h.length) : -1 ≤ v a ∧ v a ≤ 1000 := by
  have hn := ((heightsOk_iff h).1 hh).1
  have := left_bounds hh hv (h.length - 1 - a) a (by omega)
  omega
theorem leftIn_next (one : Bool) (h : List Int) (r c : Int) (v : Nat → Int) (a : Nat) : ∀ (d j : Nat) (cur : Int), leftIn one h r c v a cur j d = cur ∨ ∃ b, j ≤ b ∧ b < j + d ∧ 0 ≤ v b ∧ jumpOk h r c a b = true ∧ leftIn one h r c v a cur j d = v b + cst one h a b
  | 0, _, _ => .inl rfl
  | d + 1, j, cur => by
    unfold leftIn
    rcases leftIn_next one h r c v a d (j + 1) (leftStep one h r c v a cur j) with e | ⟨b, h1, h2, h3, h4, h5⟩
    · rw [e]
      unfold leftStep
      split
      · exact .inl rfl
      · rename_i hx
        split
        · refine .inr ⟨j, Nat.le_refl _, by omega, by omega, ?_, rfl⟩
          cases hj : jumpOk h r c a j with
          | true => rfl
          | false => exact absurd (.inr hj) hx
        · exact .inl rfl
    · exact .inr ⟨b, by omega, by omega, h3, h4, h5⟩
theorem leftIn_low {h : List Int} (hh : heightsOk h = true) (one : Bool) (r c : Int) (v : Nat → Int) (a : Nat) (ha : a < h.length) : ∀ (d j : Nat) (cur : Int), j + d = h.length →
    (0 ≤ cur → 0 ≤ leftIn one h r c v a cur j d ∧ leftIn one h r c v a cur j d ≤ cur) ∧ (∀ b, j ≤ b → b < h.length → 0 ≤ v b → jumpOk h r c a b = true → 0 ≤ leftIn one h r c v a cur j d ∧ leftIn one h r c v a cur j d ≤ v b + cst one h a b)
  | 0, j, cur, hj => ⟨fun h0 => ⟨h0, Int.le_refl _⟩, fun b h1 h2 => absurd h1 (by omega)⟩
  | d + 1, j, cur, hj => by
    have ih := leftIn_low hh one r c v a ha d (j + 1) (leftStep one h r c v a cur j) (by omega)
    have hc := cst_bounds hh one a j ha (by omega)
    unfold leftIn
    have hs : 0 ≤ cur → 0 ≤ leftStep one h r c v a cur j ∧ leftStep one h r c v a cur j ≤ cur := by
      intro h0
      unfold leftStep; split
      · omega
      · split <;> omega
    refine ⟨fun h0 => ?_, fun b h1 h2 h3 h4 => ?_⟩
    · have h1 := hs h0
      have h2 := ih.1 h1.1
      omega
    · by_cases e : b = j
      · subst e
        have hq : 0 ≤ leftStep one h r c v a cur b ∧ leftStep one h r c v a cur b ≤ v b + cst one h a b := by
          unfold leftStep
          rw [if_neg (by rw [h4]; simp; omega)]
          split <;> omega
        have := ih.1 hq.1
        omega
      · exact ih.2 b (by omega) h2 h3 h4
theorem left_next {h : List Int} {one : Bool} {r c : Int} {v : Nat → Int} (hv : IsLeft one h r c v) (a : Nat) (ha : a + 1 < h.length) (h0 : 0 ≤ v a) : ∃ b, a < b ∧ b < h.length ∧ 0 ≤ v b ∧ jumpOk h r c a b = true ∧ v b + cst one h a b = v a := by
  have e := hv.2 a ha
  rcases leftIn_next one h r c v a (h.length - 1 - a) (a + 1) (-1) with h1 | ⟨b, h1, h2, h3, h4, h5⟩
  · omega
  · exact ⟨b, by omega, by omega, h3, h4, by omega⟩
theorem left_low {h : List Int} (hh : heightsOk h = true) {one : Bool} {r c : Int} {v : Nat → Int} (hv : IsLeft one h r c v) (a b : Nat) (hab : a < b) (hb : b < h.length) (h0 : 0 ≤ v b) (hj : jumpOk h r c a b = true) : 0 ≤ v a ∧ v a ≤ v b + cst one h a b := by
  rw [hv.2 a (by omega)]
  exact (leftIn_low hh one r c v a (by omega) (h.length - 1 - a) (a + 1) (-1) (by omega)).2 b (by omega) hb h0 hj
/-- With the highest climb every board is reached from every board before. -/
theorem left_easy {h : List Int} (hh : heightsOk h = true) {one : Bool} {r : Int} (hr : 1 ≤ r) {v : Nat → Int} (hv : IsLeft one h r 50 v) : ∀ d a, a + 1 + d = h.length → 0 ≤ v a := by
  intro d
  induction d with
  | zero =>
    intro a ha
    have : a = h.length - 1 := by omega
    rw [this, hv.1]; omega
  | succ d ih =>
    intro a ha
    have := dist_bounds hh (a : Int) ((a + 1 : Nat) : Int) (by omega) (by omega) (by omega) (by omega)
    refine (left_low hh hv a (a + 1) (by omega) (by omega) (ih (a + 1) (by omega)) ?_).1
    unfold jumpOk
    rw [decide_eq_true (by omega), decide_eq_true (by omega)]; rfl
theorem step_small {h : List Int} (hh : heightsOk h = true) (one : Bool) (r c : Int) (v : Nat → Int) (a b : Nat) (ha : a < h.length) (hb : b < h.length) (cur : Int) (hc : cur ≤ 1050) (hvb : v b ≤ 1000) : leftStep one h r c v a cur b ≤ 1050 := by
  have hk := cst_bounds hh one a b ha hb
  unfold leftStep
  split
  · omega
  · split <;> omega
theorem caLeft_l1 {h : List Int} (hh : heightsOk h = true) (one : Bool) (r c : Int) (v : Nat → Int) (hv : IsLeft one h r c v) (res : List Int) (K : Nat) (a : Nat) (ha : a + 1 < h.length)
    (hc : ∀ x : List Int, x.length = h.length → (∀ i, a ≤ i → i < h.length → rd x (i : Int) = v i) → ∀ k, K < k → spec_caLeft.l0 k h r c one x ((a : Int) - 1) = some res) :
    ∀ (d j : Nat) (cur : Int) (x : List Int), j + d = h.length → a < j → x.length = h.length → (∀ i, a < i → i < h.length → rd x (i : Int) = v i) → rd x (a : Int) = cur → cur ≤ 1050 → leftIn one h r c v a cur j d = v a → ∀ k, K + 2 * d + 1 < k → spec_caLeft.l1 k h r c one x (a : Int) (j : Int) = some res := by
  have hn := ((heightsOk_iff h).1 hh).1
  intro d
  induction d with
  | zero =>
    intro j cur x hj haj hx hl hs h0 hq k hk
    obtain ⟨k, rfl⟩ : ∃ m, k = m + 1 := ⟨k - 1, by omega⟩
    simp only [spec_caLeft.l1]
    rw [if_neg (by omega), w64 (by omega) (by omega)]
    refine hc x hx (fun i h1 h2 => ?_) k (by omega)
    by_cases e : i = a
    · subst e; rw [hs, ← hq]; rfl
    · exact hl i (by omega) h2
  | succ d ih =>
    intro j cur x hj haj hx hl hs h0 hq k hk
    obtain ⟨k, rfl⟩ : ∃ m, k = m + 1 + 1 := ⟨k - 2, by omega⟩
    have hvj := left_small hh hv j (by omega)
    have hss := step_small hh one r c v a j (by omega) (by omega) cur h0 (by omega)
    have hk2 := cst_bounds hh one a j (by omega) (by omega)
    rw [leftIn] at hq
    have hyes : v j < 0 ∨ jumpOk h r c a j = false → spec_caLeft.j2 (k + 1) h r c one x (a : Int) (j : Int) true = some res := by
      intro hx2
      have e : leftStep one h r c v a cur j = cur := by unfold leftStep; rw [if_pos hx2]
      rw [e] at hq
      simp only [spec_caLeft.j2, if_true]
      rw [w64 (n := (j : Int) + 1) (by omega) (by omega), show ((j : Int) + 1) = ((j + 1 : Nat) : Int) by omega]
      exact ih (j + 1) cur x (by omega) (by omega) hx hl hs h0 hq k (by omega)
    have hno : 0 ≤ v j → jumpOk h r c a j = true → spec_caLeft.j2 (k + 1) h r c one x (a : Int) (j : Int) false = some res := by
      intro h1 h2
      have e : leftStep one h r c v a cur j = if cur < 0 ∨ v j + cst one h a j < cur then v j + cst one h a j else cur := by
        unfold leftStep
        rw [if_neg (by rw [h2]; simp; omega)]
      rw [e] at hq hss
      have hset : ∀ q : Int, q = cst one h a j → (if rd x (a : Int) < 0 then spec_caLeft.l1 k h r c one (x.set (a : Int).toNat (wrap64 (rd x (j : Int) + q))) (a : Int) (wrap64 ((j : Int) + 1)) else if wrap64 (rd x (j : Int) + q) < rd x (a : Int) then spec_caLeft.l1 k h r c one (x.set (a : Int).toNat (wrap64 (rd x (j : Int) + q))) (a : Int) (wrap64 ((j : Int) + 1)) else spec_caLeft.l1 k h r c one x (a : Int) (wrap64 ((j : Int) + 1))) = some res := by
        intro q hqq
        subst hqq
        rw [hl j haj (by omega), hs, w64 (n := v j + _) (by omega) (by omega), w64 (n := (j : Int) + 1) (by omega) (by omega), show ((j : Int) + 1) = ((j + 1 : Nat) : Int) by omega, Int.toNat_natCast]
        have go : (cur < 0 ∨ v j + cst one h a j < cur) → spec_caLeft.l1 k h r c one (x.set a (v j + cst one h a j)) (a : Int) ((j + 1 : Nat) : Int) = some res := by
          intro hx3
          rw [if_pos hx3] at hq hss
          refine ih (j + 1) _ _ (by omega) (by omega) (by simpa using hx) (fun i h1 h2 => ?_) ?_ hss hq k (by omega)
          · rw [rd_set_other _ _ _ _ (by omega) (by omega)]; exact hl i h1 h2
          · rw [rd_set_same _ _ _ (by omega)]
        by_cases h3 : cur < 0
        · rw [if_pos h3]; exact go (.inl h3)
        · rw [if_neg h3]
          by_cases h4 : v j + cst one h a j < cur
          · rw [if_pos h4]; exact go (.inr h4)
          · rw [if_neg h4]
            rw [if_neg (by omega)] at hq
            exact ih (j + 1) cur x (by omega) (by omega) hx hl hs h0 hq k (by omega)
      simp only [spec_caLeft.j2, Bool.false_eq_true, if_false]
      rw [if_pos (by omega), if_pos (by omega)]
      cases one with
      | true =>
        rw [if_pos rfl, if_pos (by omega), if_pos (by omega)]
        exact hset 1 rfl
      | false =>
        rw [if_neg (by simp), caClimb_eq hh _ _ (by omega) (by omega) (by omega) (by omega), Option.bind_some, if_pos (by omega), if_pos (by omega)]
        exact hset _ rfl
    simp only [spec_caLeft.l1]
    rw [if_pos (by omega), if_pos (by omega), if_pos (by omega), hl j haj (by omega)]
    by_cases h1 : v j < 0
    · rw [if_pos h1]; exact hyes (.inl h1)
    · rw [if_neg h1, caJump_eq hh r c _ _ (by omega) (by omega) (by omega) (by omega), Option.bind_some]
      cases hjump : jumpOk h r c (a : Int) (j : Int) with
      | true => exact hno (by omega) hjump
      | false => exact hyes (.inr hjump)
theorem caLeft_l0 {h : List Int} (hh : heightsOk h = true) (one : Bool) (r c : Int) (v : Nat → Int) (hv : IsLeft one h r c v) :
    ∀ (m : Nat) (x : List Int), m < h.length → x.length = h.length → (∀ i, m ≤ i → i < h.length → rd x (i : Int) = v i) → ∀ k, 60 * m < k → spec_caLeft.l0 k h r c one x ((m : Int) - 1) = some (tab v h.length) := by
  have hn := ((heightsOk_iff h).1 hh).1
  intro m
  induction m with
  | zero =>
    intro x hm hx hl k hk
    obtain ⟨k, rfl⟩ : ∃ m, k = m + 1 := ⟨k - 1, by omega⟩
    simp only [spec_caLeft.l0]
    rw [if_neg (by omega), eq_tab v h.length x hx (fun i hi => hl i (by omega) hi)]
  | succ a ih =>
    intro x hm hx hl k hk
    obtain ⟨k, rfl⟩ : ∃ m, k = m + 1 := ⟨k - 1, by omega⟩
    simp only [spec_caLeft.l0]
    rw [show ((a + 1 : Nat) : Int) - 1 = (a : Int) by omega, if_pos (by omega), if_pos (by omega), if_pos (by omega), w64 (by omega) (by omega), show (a : Int) + 1 = ((a + 1 : Nat) : Int) by omega, Int.toNat_natCast]
    refine caLeft_l1 hh one r c v hv _ (60 * a) a hm (fun x h1 h2 k hk => ih x (by omega) h1 h2 k hk) (h.length - 1 - a) (a + 1) (-1) _ (by omega) (by omega) (by simpa using hx) (fun i h1 h2 => ?_) ?_ (by omega) (hv.2 a hm).symm k (by omega)
    · rw [rd_set_other _ _ _ _ (by omega) (by omega)]; exact hl i (by omega) h2
    · rw [rd_set_same _ _ _ (by omega)]
theorem caLeft_eq {h : List Int} (hh : heightsOk h = true) (one : Bool) (r c : Int) (v : Nat → Int) (hv : IsLeft one h r c v) (k : Nat) (hk : 1200 < k) : spec_caLeft.f k h r c one = some (tab v h.length) := by
  have hn := ((heightsOk_iff h).1 hh).1
  unfold spec_caLeft.f
  rw [if_pos (by omega), if_pos (by omega), w64 (by omega) (by omega), show (h.length : Int) - 2 = ((h.length - 1 : Nat) : Int) - 1 by omega]
  refine caLeft_l0 hh one r c v hv (h.length - 1) _ (by omega) (by simp) (fun i h1 h2 => ?_) k (by omega)
  have : i = h.length - 1 := by omega
  subst this
  rw [rd_zeros, hv.1]
end Go.Proofs.Ytmppchecbcflgaa.Pu
namespace Go.Proofs.Ytmppchecbcflgaa.Pu
open Go.RowKit Go.Proofs.Ytmppchecbcflgaa.Print Go.Proofs.YtmppchecbcflgaaW.PrintWords Go.Proofs.YtmppchecbcflgaaW.PrintLast
set_option linter.unusedSimpArgs false
set_option linter.unusedVariables false
theorem specFewest_bad (h : List Int) (r c : Int) (hl : h.length ≤ 1048576) (ha : (heightsOk h && decide (1 ≤ r ∧ r ≤ 20) && decide (0 ≤ c ∧ c ≤ 50)) = false) (k : Nat) (hk : h.length < k) : spec_FewestJumps.f k h r c = some (0, false) := by
  unfold spec_FewestJumps.f
  rw [caAsked_eq h r c (by omega) k (by omega), ha]
  rfl
theorem specFewest_eq (h : List Int) (r c : Int) (hl : h.length ≤ 1048576) (ha : (heightsOk h && decide (1 ≤ r ∧ r ≤ 20) && decide (0 ≤ c ∧ c ≤ 50)) = true) (v : Nat → Int) (hv : IsLeft true h r c v) (k : Nat) (hk : h.length + 1300 < k) : spec_FewestJumps.f k h r c = some (if 0 ≤ v 0 then (v 0, true) else (0, false)) := by
  have hh : heightsOk h = true := by
    rw [Bool.and_eq_true, Bool.and_eq_true] at ha; exact ha.1.1
  have hn := ((heightsOk_iff h).1 hh).1
  unfold spec_FewestJumps.f
  rw [caAsked_eq h r c (by omega) k (by omega), ha]
  simp only [Option.bind_some, if_true]
  rw [caLeft_eq hh true r c v hv k (by omega)]
  simp only [Option.bind_some, tab_length]
  have hr := rd_tab v h.length 0 (by omega)
  simp only [Int.natCast_zero] at hr
  rw [if_pos (by omega), hr]
  by_cases e : 0 ≤ v 0
  · rw [if_pos e, if_neg (by omega)]
  · rw [if_neg e, if_pos (by omega)]
end Go.Proofs.Ytmppchecbcflgaa.Pu
namespace Go.Proofs.Ytmppchecbcflgaa.Pu
open Go.RowKit Go.Proofs.Ytmppchecbcflgaa.Print Go.Proofs.YtmppchecbcflgaaW.PrintWords Go.Proofs.YtmppchecbcflgaaW.PrintLast Go.Proofs.YtmppchecbcflgaaW.PrintMore
set_option linter.unusedSimpArgs false
set_option linter.unusedVariables false
theorem sumP_snoc (f : Nat → Int) : ∀ (d j : Nat), sumP f j (d + 1) = sumP f j d + f (j + d)
  | 0, j => by simp [sumP]
  | d + 1, j => by
    have := sumP_snoc f d (j + 1)
    rw [sumP, this, sumP, show j + 1 + d = j + (d + 1) by omega, Int.add_assoc]
theorem sumP_add (f g : Nat → Int) : ∀ (d j : Nat), sumP (fun i => f i + g i) j d = sumP f j d + sumP g j d
  | 0, j => by simp [sumP]
  | d + 1, j => by
    rw [sumP, sumP, sumP, sumP_add f g d (j + 1)]; omega
theorem sumP_mul (f : Nat → Int) (m : Int) : ∀ (d j : Nat), sumP (fun i => f i * m) j d = sumP f j d * m
  | 0, j => by simp [sumP]
  | d + 1, j => by
    rw [sumP, sumP, sumP_mul f m d (j + 1), Int.add_mul]
/-- The ways that jump over board i. -/
def overs (h : List Int) (r c : Int) (t w : Nat → Int) (i : Nat) : Int := sumP (fun a => t a * sumP (fromAdd h r c w a) (i + 1) (h.length - 1 - i)) 0 i
theorem cut {h : List Int} {r c : Int} {t w : Nat → Int} (ht : IsTo h r c t) (hw : IsFrom h r c w) : ∀ i, i < h.length → overs h r c t w i + t i * w i = w 0 := by
  intro i
  induction i with
  | zero => intro _; simp [overs, sumP, ht.1]
  | succ i ih =>
    intro hi
    rw [← ih (by omega)]
    have e1 : overs h r c t w i + t i * w i = sumP (fun a => t a * sumP (fromAdd h r c w a) (i + 1) (h.length - 1 - i)) 0 (i + 1) := by
      rw [sumP_snoc, Nat.zero_add, ← hw.2 i hi]; rfl
    have e2 : (fun a => t a * sumP (fromAdd h r c w a) (i + 1) (h.length - 1 - i)) = (fun a => toAdd h r c t (i + 1) a * w (i + 1) + t a * sumP (fromAdd h r c w a) (i + 1 + 1) (h.length - 1 - (i + 1))) := by
      funext a
      rw [show h.length - 1 - i = (h.length - 1 - (i + 1)) + 1 by omega, sumP, Int.mul_add]
      congr 1
      unfold fromAdd toAdd
      split <;> simp
    rw [e1, e2, sumP_add, sumP_mul, ← ht.2 (i + 1) (by omega) hi]
    unfold overs
    omega
/-- Does an allowed jump that some way takes pass over board i? -/
def Crossed (h : List Int) (r c : Int) (t w : Nat → Int) (i : Nat) : Prop := ∃ a b, a < i ∧ i < b ∧ b < h.length ∧ 0 < t a ∧ 0 < w b ∧ jumpOk h r c a b = true
theorem from_nonneg {h : List Int} {r c : Int} {w : Nat → Int} (hw : IsFrom h r c w) (a : Nat) (ha : a < h.length) : 0 ≤ w a := (from_bounds hw (h.length - 1 - a) a (by omega)).1
theorem inner_nonneg {h : List Int} {r c : Int} {w : Nat → Int} (hw : IsFrom h r c w) (hn : h.length ≤ 20) (a j d : Nat) (hj : j + d = h.length) : 0 ≤ sumP (fromAdd h r c w a) j d :=
  (sumP_bounds _ 1048576 d j (fun i h1 h2 => add_small (fun i hi => from_small hw hn i hi) (by omega) a i (by omega))).1
theorem overs_pos {h : List Int} (hn : h.length ≤ 20) {r c : Int} {t w : Nat → Int} (ht : IsTo h r c t) (hw : IsFrom h r c w) (i : Nat) (hi : i < h.length) : 0 < overs h r c t w i ↔ Crossed h r c t w i := by
  unfold overs
  rw [sumP_pos _ _ _ (fun a h1 h2 => Int.mul_nonneg (to_bounds ht a (by omega)).1 (inner_nonneg hw hn a _ _ (by omega)))]
  constructor
  · rintro ⟨a, h1, h2, h3⟩
    have t0 := (to_bounds ht a (by omega)).1
    have s0 := inner_nonneg hw hn (r := r) (c := c) a (i + 1) (h.length - 1 - i) (by omega)
    have tp : 0 < t a := by
      rcases Int.lt_or_eq_of_le t0 with e | e
      · exact e
      · rw [← e, Int.zero_mul] at h3; omega
    have sp : 0 < sumP (fromAdd h r c w a) (i + 1) (h.length - 1 - i) := by
      rcases Int.lt_or_eq_of_le s0 with e | e
      · exact e
      · rw [← e, Int.mul_zero] at h3; omega
    rw [sumP_pos _ _ _ (fun b h1 h2 => by have := from_nonneg hw b (by omega); unfold fromAdd; split <;> omega)] at sp
    obtain ⟨b, h4, h5, h6⟩ := sp
    unfold fromAdd at h6
    by_cases hj : jumpOk h r c a b = true
    · rw [if_pos hj] at h6; exact ⟨a, b, by omega, by omega, by omega, tp, h6, hj⟩
    · rw [if_neg hj] at h6; omega
  · rintro ⟨a, b, h1, h2, h3, h4, h5, h6⟩
    refine ⟨a, by omega, by omega, Int.mul_pos h4 ?_⟩
    rw [sumP_pos _ _ _ (fun b h1 h2 => by have := from_nonneg hw b (by omega); unfold fromAdd; split <;> omega)]
    refine ⟨b, by omega, by omega, ?_⟩
    unfold fromAdd; rw [if_pos h6]; exact h5
theorem overs_nonneg {h : List Int} (hn : h.length ≤ 20) {r c : Int} {t w : Nat → Int} (ht : IsTo h r c t) (hw : IsFrom h r c w) (i : Nat) (hi : i < h.length) : 0 ≤ overs h r c t w i := by
  unfold overs
  have : ∀ (d j : Nat), j + d ≤ h.length → 0 ≤ sumP (fun a => t a * sumP (fromAdd h r c w a) (i + 1) (h.length - 1 - i)) j d := by
    intro d
    induction d with
    | zero => intro j _; simp [sumP]
    | succ d ih =>
      intro j hj
      have := ih (j + 1) (by omega)
      have := Int.mul_nonneg (to_bounds ht j (by omega)).1 (inner_nonneg hw hn (r := r) (c := c) j (i + 1) (h.length - 1 - i) (by omega))
      rw [sumP]; omega
  exact this i 0 (by omega)
theorem from_pos {h : List Int} {r c : Int} {w : Nat → Int} (hw : IsFrom h r c w) (a : Nat) (ha : a + 1 < h.length) : 0 < w a ↔ ∃ b, a < b ∧ b < h.length ∧ 0 < w b ∧ jumpOk h r c a b = true := by
  rw [hw.2 a ha, sumP_pos _ _ _ (fun b h1 h2 => by have := from_nonneg hw b (by omega); unfold fromAdd; split <;> omega)]
  constructor
  · rintro ⟨i, h1, h2, h3⟩
    unfold fromAdd at h3
    by_cases hj : jumpOk h r c a i = true
    · rw [if_pos hj] at h3; exact ⟨i, by omega, by omega, h3, hj⟩
    · rw [if_neg hj] at h3; omega
  · rintro ⟨i, h1, h2, h3, h4⟩
    refine ⟨i, by omega, by omega, ?_⟩
    unfold fromAdd; rw [if_pos h4]; exact h3
/-- A board from which a way leads on has a least sum to come. -/
theorem left_from {h : List Int} (hh : heightsOk h = true) {one : Bool} {r c : Int} {v w : Nat → Int} (hv : IsLeft one h r c v) (hw : IsFrom h r c w) : ∀ d a, a + 1 + d = h.length → (0 ≤ v a ↔ 0 < w a) := by
  intro d
  induction d using Nat.strongRecOn with
  | ind d ih =>
    intro a ha
    by_cases h0 : d = 0
    · have : a = h.length - 1 := by omega
      rw [this, hv.1, hw.1]; omega
    · rw [from_pos hw a (by omega)]
      constructor
      · intro h1
        obtain ⟨b, h2, h3, h4, h5, _⟩ := left_next hv a (by omega) h1
        exact ⟨b, h2, h3, (ih (h.length - 1 - b) (by omega) b (by omega)).1 h4, h5⟩
      · rintro ⟨b, h2, h3, h4, h5⟩
        exact (left_low hh hv a b h2 h3 ((ih (h.length - 1 - b) (by omega) b (by omega)).2 h4) h5).1
/-- Is board i needed? -/
def needP (t w : Nat → Int) (i : Nat) : Bool := decide (t i * w i = w 0)
theorem need_small {h : List Int} (hn : h.length ≤ 20) {r c : Int} {t w : Nat → Int} (ht : IsTo h r c t) (hw : IsFrom h r c w) (i : Nat) (hi : i < h.length) : 0 ≤ t i * w i ∧ t i * w i ≤ 1048576 := by
  have h1 := cut ht hw i hi
  have h2 := overs_nonneg hn ht hw i hi
  have h3 := from_small hw hn 0 (by omega)
  have h4 := Int.mul_nonneg (to_bounds ht i hi).1 (from_nonneg hw i hi)
  omega
theorem need_iff {h : List Int} (hn : h.length ≤ 20) {r c : Int} {t w : Nat → Int} (ht : IsTo h r c t) (hw : IsFrom h r c w) (hp : 0 < w 0) (i : Nat) (hi : i < h.length) : needP t w i = true ↔ (¬ Crossed h r c t w i ∧ 0 < w i ∧ 0 < t i) := by
  have h1 := cut ht hw i hi
  have h2 := overs_nonneg hn ht hw i hi
  unfold needP
  rw [decide_eq_true_eq, ← overs_pos hn ht hw i hi]
  constructor
  · intro e
    have t0 := (to_bounds ht i hi).1
    have w0 := from_nonneg hw i hi
    refine ⟨by omega, ?_, ?_⟩
    · rcases Int.lt_or_eq_of_le w0 with q | q
      · exact q
      · rw [← q, Int.mul_zero] at e; omega
    · rcases Int.lt_or_eq_of_le t0 with q | q
      · exact q
      · rw [← q, Int.zero_mul] at e; omega
  · rintro ⟨e, _, _⟩; omega
/- The program's side. -/
theorem implNeeded_l0 (h : List Int) (hn : h.length ≤ 20) (r c : Int) (t w : Nat → Int) (ht : IsTo h r c t) (hw : IsFrom h r c w) : ∀ (d j : Nat) (acc : List Int), j + d = h.length → acc.length ≤ j → ∀ k, d < k → impl_NeededBoards.l0 k acc (tab t h.length) (tab w h.length) (h.length : Int) (j : Int) = some (acc ++ coll (needP t w) j d, true) := by
  intro d
  induction d with
  | zero =>
    intro j acc hj ha k hk
    obtain ⟨k, rfl⟩ : ∃ m, k = m + 1 := ⟨k - 1, by omega⟩
    simp only [impl_NeededBoards.l0]
    rw [if_neg (by omega), coll, List.append_nil]
  | succ d ih =>
    intro j acc hj ha k hk
    obtain ⟨k, rfl⟩ : ∃ m, k = m + 1 := ⟨k - 1, by omega⟩
    have hs := need_small hn ht hw j (by omega)
    have hr := rd_tab w h.length 0 (by omega)
    simp only [Int.natCast_zero] at hr
    simp only [impl_NeededBoards.l0, tab_length]
    rw [if_pos (by omega), if_pos (by omega), if_pos (by omega), if_pos (by omega), if_pos (by omega), rd_tab t _ j (by omega), rd_tab w _ j (by omega), hr, w64 (n := t j * w j) (by omega) (by omega), w64 (by omega) (by omega), show ((j : Int) + 1) = ((j + 1 : Nat) : Int) by omega]
    by_cases e : t j * w j = w 0
    · rw [if_pos e, if_pos (by omega), ih (j + 1) _ (by omega) (by simp; omega) k (by omega), coll_yes _ _ _ (show needP t w j = true from decide_eq_true e)]; simp
    · rw [if_neg e, ih (j + 1) _ (by omega) (by omega) k (by omega), coll_no _ _ _ (show needP t w j = false from decide_eq_false e)]
/- The reference's side. -/
theorem l1Has_l0 (L : List Int) (x : Int) (hL : L.length ≤ 1000) : ∀ (d j : Nat), j + d = L.length → ∀ k, d < k → spec_l1Has.l0 k x L (L.length : Int) (j : Int) = some (decide (x ∈ L.drop j)) := by
  intro d
  induction d with
  | zero =>
    intro j hj k hk
    obtain ⟨k, rfl⟩ : ∃ m, k = m + 1 := ⟨k - 1, by omega⟩
    simp only [spec_l1Has.l0]
    rw [if_neg (by omega), List.drop_of_length_le (by omega)]; simp
  | succ d ih =>
    intro j hj k hk
    obtain ⟨k, rfl⟩ : ∃ m, k = m + 1 := ⟨k - 1, by omega⟩
    simp only [spec_l1Has.l0]
    rw [if_pos (by omega), if_pos (by omega), if_pos (by omega), rd_get L j (by omega), List.drop_eq_getElem_cons (by omega), w64 (by omega) (by omega), show ((j : Int) + 1) = ((j + 1 : Nat) : Int) by omega]
    by_cases e : L[j]'(by omega) = x
    · rw [if_pos e, e]; simp
    · rw [if_neg e, ih (j + 1) (by omega) k (by omega)]
      congr 1
      rw [decide_eq_decide, List.mem_cons]
      exact ⟨.inr, fun q => q.resolve_left fun z => e z.symm⟩
theorem l1Has_eq (L : List Int) (x : Int) (hL : L.length ≤ 1000) (k : Nat) (hk : L.length < k) : spec_l1Has.f k L x = some (decide (x ∈ L)) := by
  unfold spec_l1Has.f
  have := l1Has_l0 L x hL L.length 0 (by omega) k hk
  simpa using this
/-- Does the jump from a to b, that some way takes, pass over board i? (b stands behind i.) -/
def crossP (h : List Int) (r c : Int) (v : Nat → Int) (i a b : Nat) : Bool := decide (a < i) && (decide (0 ≤ v b) && (decide (0 ≤ v a) && jumpOk h r c a b))
theorem needed_l2 {h : List Int} (hh : heightsOk h = true) (r c : Int) (v : Nat → Int) (acc L : List Int) (i a : Nat) (hi : i < h.length) (ha : a < h.length) (x41 x42 : Int) (res : List Int × Bool) (K : Nat) (q : Bool)
    (hc : ∀ k, K < k → spec_NeededBoards.l1 k h r c acc (i : Int) q L (tab v h.length) (h.length : Int) (i : Int) x41 (wrap64 (x42 + 1)) = some res) :
    ∀ (d j : Nat) (fl : Bool), j + d = h.length → (fl && allP (fun b => !crossP h r c v i a b) j d) = q → ∀ k, K + 2 * d + 2 < k → spec_NeededBoards.l2 k h r c acc (i : Int) fl (a : Int) (j : Int) L (tab v h.length) (h.length : Int) (i : Int) x41 x42 = some res := by
  have hn := ((heightsOk_iff h).1 hh).1
  intro d
  induction d with
  | zero =>
    intro j fl hj hq k hk
    obtain ⟨k, rfl⟩ : ∃ m, k = m + 2 := ⟨k - 2, by omega⟩
    rw [allP, Bool.and_true] at hq
    simp only [spec_NeededBoards.l2]
    rw [if_neg (by omega)]
    simp only [spec_NeededBoards.j3, Bool.false_eq_true, if_false]
    rw [hq]; exact hc k (by omega)
  | succ d ih =>
    intro j fl hj hq k hk
    obtain ⟨k, rfl⟩ : ∃ m, k = m + 2 := ⟨k - 2, by omega⟩
    have hvj : rd (tab v h.length) (j : Int) = v j := rd_tab v _ j (by omega)
    have hva : rd (tab v h.length) (a : Int) = v a := rd_tab v _ a ha
    have hlen : (tab v h.length).length = h.length := tab_length _ _
    rw [allP] at hq
    simp only [spec_NeededBoards.l2]
    rw [if_pos (by omega)]
    by_cases hai : a < i
    · have hgo : ∀ fl' : Bool, (fl' && allP (fun b => !crossP h r c v i a b) (j + 1) d) = q → spec_NeededBoards.l2 k h r c acc (i : Int) fl' (a : Int) (wrap64 ((j : Int) + 1)) L (tab v h.length) (h.length : Int) (i : Int) x41 x42 = some res := by
        intro fl' hq'
        rw [w64 (n := (j : Int) + 1) (by omega) (by omega), show ((j : Int) + 1) = ((j + 1 : Nat) : Int) by omega]
        exact ih (j + 1) fl' (by omega) hq' k (by omega)
      simp only [spec_NeededBoards.j3]
      rw [if_pos (decide_eq_true (show (a : Int) < (i : Int) by omega)), if_pos (by omega), if_pos (by omega), hvj]
      by_cases h1 : v j ≥ 0
      · rw [if_pos h1, if_pos (by omega), if_pos (by omega), hva]
        by_cases h2 : v a ≥ 0
        · rw [if_pos h2, caJump_eq hh r c _ _ (by omega) (by omega) (by omega) (by omega), Option.bind_some]
          have hx : crossP h r c v i a j = jumpOk h r c a j := by unfold crossP; rw [decide_eq_true hai, decide_eq_true h1, decide_eq_true h2]; rfl
          rw [hx] at hq
          cases hjump : jumpOk h r c (a : Int) (j : Int) with
          | true =>
            rw [hjump] at hq
            rw [if_pos rfl]
            exact hgo false (by simpa using hq)
          | false =>
            rw [hjump] at hq
            rw [if_neg (by simp)]
            exact hgo fl (by simpa using hq)
        · rw [if_neg h2]
          have hx : crossP h r c v i a j = false := by unfold crossP; rw [decide_eq_false h2]; simp
          rw [hx] at hq
          exact hgo fl (by simpa using hq)
      · rw [if_neg h1]
        have hx : crossP h r c v i a j = false := by unfold crossP; rw [decide_eq_false h1]; simp
        rw [hx] at hq
        exact hgo fl (by simpa using hq)
    · have hall : allP (fun b => !crossP h r c v i a b) j (d + 1) = true := (allP_iff _ _ _).2 fun b h1 h2 => by
        unfold crossP; rw [decide_eq_false hai]; rfl
      rw [allP] at hall
      rw [hall, Bool.and_true] at hq
      simp only [spec_NeededBoards.j3]
      rw [if_neg (by rw [decide_eq_true_eq]; omega), hq]
      exact hc k (by omega)
/-- No jump from a passes over board i. -/
def clearP (h : List Int) (r c : Int) (v : Nat → Int) (i : Nat) (a : Nat) : Bool := allP (fun b => !crossP h r c v i a b) (i + 1) (h.length - 1 - i)
theorem needed_l1 {h : List Int} (hh : heightsOk h = true) (r c : Int) (v : Nat → Int) (acc L : List Int) (hacc : acc.length ≤ 100) (hL : L.length ≤ 50) (hL2 : ∀ x ∈ L, 0 ≤ x ∧ x < (h.length : Int)) (i : Nat) (hi : i < h.length) (res : List Int × Bool) (K : Nat) (q : Bool)
    (hc : ∀ k, K < k → spec_NeededBoards.l0 k h r c (if (q && (decide (0 ≤ v i) && decide ((i : Int) ∈ L))) = true then acc ++ [(i : Int)] else acc) L (tab v h.length) (h.length : Int) ((i : Int) + 1) = some res) :
    ∀ (d j : Nat) (fl : Bool), j + d = L.length → (fl && (L.drop j).all fun x => clearP h r c v i x.toNat) = q → ∀ k, K + 100 + 50 * d < k → spec_NeededBoards.l1 k h r c acc (i : Int) fl L (tab v h.length) (h.length : Int) (i : Int) (L.length : Int) (j : Int) = some res := by
  have hn := ((heightsOk_iff h).1 hh).1
  intro d
  induction d with
  | zero =>
    intro j fl hj hq k hk
    obtain ⟨k, rfl⟩ : ∃ m, k = m + 1 := ⟨k - 1, by omega⟩
    have hvi : rd (tab v h.length) (i : Int) = v i := rd_tab v _ i hi
    have hlen : (tab v h.length).length = h.length := tab_length _ _
    rw [List.drop_of_length_le (by omega)] at hq
    have hfl : fl = q := by simpa using hq
    subst hfl
    have hcc := hc k (by omega)
    simp only [spec_NeededBoards.l1]
    rw [if_neg (by omega), w64 (n := (i : Int) + 1) (by omega) (by omega)]
    cases fl with
    | false => rw [if_neg (by simp)]; simpa using hcc
    | true =>
      rw [if_pos rfl, if_pos (by omega), if_pos (by omega), hvi]
      by_cases h1 : v i ≥ 0
      · rw [if_pos h1, l1Has_eq L _ (by omega) k (by omega), Option.bind_some]
        rw [decide_eq_true h1, Bool.true_and, Bool.true_and] at hcc
        by_cases h2 : (i : Int) ∈ L
        · rw [decide_eq_true h2, if_pos rfl] at hcc
          rw [decide_eq_true h2, if_pos rfl, if_pos (by omega)]
          exact hcc
        · rw [decide_eq_false h2, if_neg (by simp)] at hcc
          rw [decide_eq_false h2, if_neg (by simp)]
          exact hcc
      · rw [if_neg h1]
        rw [decide_eq_false h1] at hcc
        simpa using hcc
  | succ d ih =>
    intro j fl hj hq k hk
    obtain ⟨k, rfl⟩ : ∃ m, k = m + 1 := ⟨k - 1, by omega⟩
    have hm := hL2 (L[j]'(by omega)) (List.getElem_mem _)
    rw [List.drop_eq_getElem_cons (by omega), List.all_cons] at hq
    obtain ⟨a, hae⟩ := Int.eq_ofNat_of_zero_le hm.1
    simp only [spec_NeededBoards.l1]
    rw [if_pos (by omega), if_pos (by omega), if_pos (by omega), rd_get L j (by omega), hae, w64 (n := (i : Int) + 1) (by omega) (by omega), show ((i : Int) + 1) = ((i + 1 : Nat) : Int) by omega]
    rw [hae, Int.toNat_natCast] at hq
    refine needed_l2 hh r c v acc L i a hi (by omega) _ _ res (K + 100 + 50 * d) (fl && clearP h r c v i a) (fun k hk => ?_) (h.length - 1 - i) (i + 1) fl (by omega) rfl k (by omega)
    rw [w64 (n := (j : Int) + 1) (by omega) (by omega), show ((j : Int) + 1) = ((j + 1 : Nat) : Int) by omega]
    exact ih (j + 1) _ (by omega) (by rw [← hq, Bool.and_assoc]) k (by omega)
/-- The reference's word for a needed board. -/
def specNeed (h : List Int) (r c : Int) (v : Nat → Int) (L : List Int) (i : Nat) : Bool := (L.all fun x => clearP h r c v i x.toNat) && (decide (0 ≤ v i) && decide ((i : Int) ∈ L))
theorem needed_l0 {h : List Int} (hh : heightsOk h = true) (r c : Int) (v : Nat → Int) (L : List Int) (hL : L.length ≤ 20) (hL2 : ∀ x ∈ L, 0 ≤ x ∧ x < (h.length : Int)) :
    ∀ (d i : Nat) (acc : List Int), i + d = h.length → acc.length ≤ i → ∀ k, 1200 * d < k → spec_NeededBoards.l0 k h r c acc L (tab v h.length) (h.length : Int) (i : Int) = some (acc ++ coll (specNeed h r c v L) i d, true) := by
  have hn := ((heightsOk_iff h).1 hh).1
  intro d
  induction d with
  | zero =>
    intro i acc hi ha k hk
    obtain ⟨k, rfl⟩ : ∃ m, k = m + 1 := ⟨k - 1, by omega⟩
    simp only [spec_NeededBoards.l0]
    rw [if_neg (by omega), coll, List.append_nil]
  | succ d ih =>
    intro i acc hi ha k hk
    obtain ⟨k, rfl⟩ : ∃ m, k = m + 1 := ⟨k - 1, by omega⟩
    simp only [spec_NeededBoards.l0]
    rw [if_pos (by omega)]
    have := needed_l1 hh r c v acc L (by omega) (by omega) hL2 i (by omega) (acc ++ coll (specNeed h r c v L) i (d + 1), true) (1200 * d) (L.all fun x => clearP h r c v i x.toNat) (fun k hk => by
      rw [show ((i : Int) + 1) = ((i + 1 : Nat) : Int) by omega]
      change spec_NeededBoards.l0 k h r c (if specNeed h r c v L i = true then acc ++ [(i : Int)] else acc) L (tab v h.length) (h.length : Int) ((i + 1 : Nat) : Int) = _
      by_cases e : specNeed h r c v L i = true
      · rw [if_pos e, ih (i + 1) _ (by omega) (by simp; omega) k hk, coll_yes _ _ _ e]; simp
      · rw [if_neg e, ih (i + 1) _ (by omega) (by omega) k hk, coll_no _ _ _ (by simpa using e)]) L.length 0 true (by omega) (by simp) k (by omega)
    exact this
theorem specNeed_eq {h : List Int} (hh : heightsOk h = true) {r c : Int} {t w v : Nat → Int} (ht : IsTo h r c t) (hw : IsFrom h r c w) (hv : IsLeft true h r c v) (hp : 0 < w 0) (i : Nat) (hi : i < h.length) : specNeed h r c v (coll (reachP t) 0 h.length) i = needP t w i := by
  have hn := ((heightsOk_iff h).1 hh).1
  have hlf : ∀ a, a < h.length → (0 ≤ v a ↔ 0 < w a) := fun a ha => left_from hh hv hw (h.length - 1 - a) a (by omega)
  rw [Bool.eq_iff_iff, need_iff hn.2 ht hw hp i hi]
  unfold specNeed
  rw [Bool.and_eq_true, Bool.and_eq_true, decide_eq_true_eq, decide_eq_true_eq, List.all_eq_true, hlf i hi, coll_mem]
  have hm : (∃ q, 0 ≤ q ∧ q < 0 + h.length ∧ reachP t q = true ∧ (i : Int) = (q : Int)) ↔ 0 < t i := by
    constructor
    · rintro ⟨q, h1, h2, h3, h4⟩
      have : q = i := by omega
      subst this
      exact of_decide_eq_true h3
    · intro h1
      exact ⟨i, by omega, by omega, decide_eq_true h1, rfl⟩
  rw [hm]
  have hcr : (∀ x ∈ coll (reachP t) 0 h.length, clearP h r c v i x.toNat = true) ↔ ¬ Crossed h r c t w i := by
    constructor
    · rintro hx ⟨a, b, h1, h2, h3, h4, h5, h6⟩
      have h7 := hx (a : Int) ((coll_mem _ _ _ _).2 ⟨a, by omega, by omega, decide_eq_true h4, rfl⟩)
      rw [Int.toNat_natCast] at h7
      have h8 := (allP_iff _ _ _).1 h7 b (by omega) (by omega)
      have h9 : 0 ≤ v b := (hlf b h3).2 h5
      have h10 := left_low hh hv a b (by omega) h3 h9 h6
      unfold crossP at h8
      rw [decide_eq_true h1, decide_eq_true h9, decide_eq_true h10.1, h6] at h8
      cases h8
    · intro hx x hxm
      obtain ⟨a, h1, h2, h3, h4⟩ := (coll_mem _ _ _ _).1 hxm
      subst h4
      rw [Int.toNat_natCast]
      refine (allP_iff _ _ _).2 fun b h5 h6 => ?_
      cases hy : crossP h r c v i a b with
      | false => rfl
      | true =>
        exfalso
        unfold crossP at hy
        rw [Bool.and_eq_true, Bool.and_eq_true, Bool.and_eq_true, decide_eq_true_eq, decide_eq_true_eq, decide_eq_true_eq] at hy
        exact hx ⟨a, b, hy.1, by omega, by omega, of_decide_eq_true h3, (hlf b (by omega)).1 hy.2.1, hy.2.2.2⟩
  rw [hcr]
end Go.Proofs.Ytmppchecbcflgaa.Pu
