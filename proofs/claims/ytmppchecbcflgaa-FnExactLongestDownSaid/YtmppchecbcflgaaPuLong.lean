/- The longest lists of ever lower boards: a table of lengths, and the boards that are taken one by one; what the program and the reference make of them. -/
import Derived.Test.YtmppchecbcflgaaPuTab
import Derived.Test.YtmppchecbcflgaaPuMax
import Derived.Test.YtmppchecbcflgaaPuHeights
import Derived.Test.YtmppchecbcflgaaPrint10
import Derived.Test.YtmppchecbcflgaaPrint9
import Derived.Test.YtmppchecbcflgaaPrint5
import Derived.Test.YtmppchecbcflgaaPrint7
import Derived.Test.YtmppchecbcflgaaPrint3
import Derived.Test.YtmppchecbcflgaaPrint8
import Derived.Test.YtmppchecbcflgaaPrint4
namespace Go.Proofs.Ytmppchecbcflgaa.Pu
open Go.RowKit Go.Proofs.Ytmppchecbcflgaa.Print Go.Proofs.YtmppchecbcflgaaW.PrintWords Go.Proofs.YtmppchecbcflgaaW.PrintLast Go.Proofs.YtmppchecbcflgaaW.PrintMore
set_option linter.unusedSimpArgs false
set_option linter.unusedVariables false

theorem areJumped_eq (h : List Int) (r : Int) (hl : h.length ≤ 4611686018427387904) (k : Nat) (hk : h.length < k) : impl_areJumped.f k h r = some (heightsOk h && decide (1 ≤ r ∧ r ≤ 20)) := by
  unfold impl_areJumped.f
  rw [areHeights_eq h hl k hk, within_eq]
  cases heightsOk h <;> rfl
theorem caReach_eq (h : List Int) (r : Int) (hl : h.length ≤ 4611686018427387904) (k : Nat) (hk : h.length < k) : spec_caReach.f k h r = some (heightsOk h && decide (1 ≤ r ∧ r ≤ 20)) := by
  unfold spec_caReach.f
  rw [caGood_eq h hl k hk, l1In_eq]
  cases heightsOk h <;> rfl
theorem mx_lt (a b : Int) (h : a < b) : mx a b = b := by unfold mx; split <;> omega
theorem mx_ge (a b : Int) (h : b ≤ a) : mx a b = a := by unfold mx; split <;> omega
theorem mx_le (a b m : Int) : mx a b ≤ m ↔ a ≤ m ∧ b ≤ m := by unfold mx; split <;> omega
theorem le_mx (a b : Int) : a ≤ mx a b ∧ b ≤ mx a b := by unfold mx; split <;> omega
theorem l1Most_eq (a b : Int) : spec_l1Most.f a b = some (mx a b) := by
  unfold spec_l1Most.f
  by_cases h : a > b
  · rw [if_pos h, mx_ge a b (by omega)]
  · rw [if_neg h]
    by_cases e : a < b
    · rw [mx_lt a b e]
    · rw [mx_ge a b (by omega), show a = b by omega]
/-- May board b come next behind board a? -/
def stepOk (H : List Int) (r : Int) (a b : Nat) : Bool := decide ((b : Int) - (a : Int) ≤ r) && decide (rd H (b : Int) < rd H (a : Int))
/-- The greatest of a number and one more than the lengths at the next boards from b on, d of them. -/
def bestNext (H : List Int) (r : Int) (v : Nat → Int) (a : Nat) : Int → Nat → Nat → Int
  | cur, _, 0 => cur
  | cur, b, d + 1 => bestNext H r v a (if stepOk H r a b = true then mx cur (v b + 1) else cur) (b + 1) d
theorem bestNext_congr (H : List Int) (r : Int) (v w : Nat → Int) (a : Nat) : ∀ (d b : Nat) (cur : Int), (∀ i, b ≤ i → i < b + d → v i = w i) → bestNext H r v a cur b d = bestNext H r w a cur b d
  | 0, _, _, _ => rfl
  | d + 1, b, cur, h => by
    rw [bestNext, bestNext, h b (Nat.le_refl _) (by omega)]
    exact bestNext_congr H r v w a d (b + 1) _ (fun i h1 h2 => h i (by omega) (by omega))
theorem bestNext_bounds (H : List Int) (r : Int) (v : Nat → Int) (a : Nat) : ∀ (d b : Nat) (cur m : Int), cur ≤ m → (∀ i, b ≤ i → i < b + d → v i + 1 ≤ m) → cur ≤ bestNext H r v a cur b d ∧ bestNext H r v a cur b d ≤ m
  | 0, _, _, _, h, _ => ⟨Int.le_refl _, h⟩
  | d + 1, b, cur, m, h, hv => by
    rw [bestNext]
    have h1 := hv b (Nat.le_refl _) (by omega)
    have hle : cur ≤ (if stepOk H r a b = true then mx cur (v b + 1) else cur) := by
      split
      · exact (le_mx _ _).1
      · exact Int.le_refl _
    have hm : (if stepOk H r a b = true then mx cur (v b + 1) else cur) ≤ m := by
      split
      · exact (mx_le _ _ _).2 ⟨h, h1⟩
      · exact h
    have h2 := bestNext_bounds H r v a d (b + 1) _ m hm (fun i h1 h2 => hv i (by omega) (by omega))
    exact ⟨Int.le_trans hle h2.1, h2.2⟩
theorem bestNext_stop (H : List Int) (r : Int) (v : Nat → Int) (a : Nat) : ∀ (d b : Nat) (cur : Int), (b : Int) - (a : Int) > r → bestNext H r v a cur b d = cur
  | 0, _, _, _ => rfl
  | d + 1, b, cur, h => by
    have e : stepOk H r a b = false := by
      unfold stepOk
      rw [decide_eq_false (by omega), Bool.false_and]
    rw [bestNext, e, if_neg (by simp)]
    exact bestNext_stop H r v a d (b + 1) cur (by omega)
/-- The table of lengths. -/
structure Lens (H : List Int) (r : Int) (v : Nat → Int) : Prop where
  eq : ∀ a, a < H.length → v a = bestNext H r v a 0 (a + 1) (H.length - 1 - a)
  bd : ∀ a, a < H.length → 0 ≤ v a ∧ v a ≤ ((H.length - 1 - a : Nat) : Int)
theorem lens_exist (H : List Int) (r : Int) (hn : 1 ≤ H.length) : ∃ v, Lens H r v := by
  obtain ⟨v, h1, h2⟩ := backRec H.length (fun v a => bestNext H r v a 0 (a + 1) (H.length - 1 - a)) 0 (fun v w a h => bestNext_congr H r v w a _ _ _ (fun i hi hj => h i (by omega) (by omega)))
  have he : ∀ a, a < H.length → v a = bestNext H r v a 0 (a + 1) (H.length - 1 - a) := by
    intro a ha
    by_cases e : a + 1 < H.length
    · exact h2 a e
    · rw [show a = H.length - 1 by omega, h1, show H.length - 1 - (H.length - 1) = 0 by omega]; rfl
  refine ⟨v, he, ?_⟩
  have hd : ∀ d a, a + d + 1 = H.length → 0 ≤ v a ∧ v a ≤ (d : Int) := by
    intro d
    induction d using Nat.strongRecOn with
    | ind d ih =>
      intro a ha
      rw [he a (by omega)]
      exact bestNext_bounds H r v a _ _ 0 (d : Int) (by omega) (fun i h1 h2 => by
        have := ih (H.length - 1 - i) (by omega) i (by omega)
        omega)
  intro a ha
  exact hd _ a (by omega)
theorem next_eq {H : List Int} (hn : H.length ≤ 20) (r : Int) (a b : Nat) (ha : a < H.length) (hb : b < H.length) : impl_LongestDown_1.p r H (a : Int) (b : Int) = some (stepOk H r a b) := by
  unfold impl_LongestDown_1.p impl_LongestDown_1.f stepOk
  rw [w64 (by omega) (by omega)]
  by_cases h : (b : Int) - (a : Int) ≤ r
  · rw [if_pos h, if_pos (by omega), if_pos (by omega), if_pos (by omega), if_pos (by omega), decide_eq_true h, Bool.true_and]
  · rw [if_neg h, decide_eq_false h, Bool.false_and]
theorem impl_l1 {H : List Int} (hn : H.length ≤ 20) (r : Int) {v : Nat → Int} (hv : Lens H r v) (a : Nat) (ha : a < H.length) (res : List Int × Bool) (K : Nat)
    (hc : ∀ x : List Int, x.length = H.length → (∀ q : Nat, a ≤ q → q < H.length → rd x (q : Int) = v q) → (∀ q : Nat, q < a → rd x (q : Int) = 0) → ∀ k, K < k → impl_LongestDown.l0 k (H.length : Int) x (impl_LongestDown_1.p r H) ((a : Int) - 1) = some res) :
    ∀ (d b : Nat) (x : List Int) (cur : Int), b + d = H.length → a < b → x.length = H.length → (∀ q : Nat, a < q → q < H.length → rd x (q : Int) = v q) → (∀ q : Nat, q < a → rd x (q : Int) = 0) → rd x (a : Int) = cur → 0 ≤ cur → cur ≤ 20 → bestNext H r v a cur b d = v a → ∀ k, K + d + 1 < k → impl_LongestDown.l1 k (H.length : Int) x (impl_LongestDown_1.p r H) (a : Int) (b : Int) = some res := by
  intro d
  induction d with
  | zero =>
    intro b x cur hb hab hx h1 h2 h3 h4 h5 h6 k hk
    obtain ⟨k, rfl⟩ : ∃ m, k = m + 1 := ⟨k - 1, by omega⟩
    simp only [impl_LongestDown.l1]
    rw [if_neg (by omega), w64 (by omega) (by omega)]
    refine hc x hx (fun q hq1 hq2 => ?_) h2 k (by omega)
    by_cases e : q = a
    · subst e; rw [h3]; exact h6
    · exact h1 q (by omega) hq2
  | succ d ih =>
    intro b x cur hb hab hx h1 h2 h3 h4 h5 h6 k hk
    obtain ⟨k, rfl⟩ : ∃ m, k = m + 1 := ⟨k - 1, by omega⟩
    have hbv := hv.bd b (by omega)
    simp only [impl_LongestDown.l1]
    rw [if_pos (by omega), next_eq hn r a b ha (by omega), Option.bind_some, w64 (n := (b : Int) + 1) (by omega) (by omega), show ((b : Int) + 1) = ((b + 1 : Nat) : Int) by omega]
    rw [bestNext] at h6
    by_cases e : stepOk H r a b = true
    · rw [if_pos e] at h6
      rw [if_pos e, if_pos (by omega), if_pos (by omega), if_pos (by omega), if_pos (by omega), h3, h1 b hab (by omega), w64 (n := v b + 1) (by omega) (by omega), Int.toNat_natCast]
      refine ih (b + 1) _ (mx cur (v b + 1)) (by omega) (by omega) (by rw [List.length_set]; exact hx) (fun q hq1 hq2 => ?_) (fun q hq => ?_) ?_ ?_ ?_ h6 k (by omega)
      · rw [rd_set_other _ _ _ _ (by omega) (by omega)]; exact h1 q hq1 hq2
      · rw [rd_set_other _ _ _ _ (by omega) (by omega)]; exact h2 q hq
      · rw [rd_set_same _ _ _ (by omega)]
      · exact Int.le_trans h4 (le_mx _ _).1
      · exact (mx_le _ _ _).2 ⟨h5, by omega⟩
    · rw [if_neg e] at h6
      rw [if_neg e]
      exact ih (b + 1) x cur (by omega) (by omega) hx h1 h2 h3 h4 h5 h6 k (by omega)
theorem impl_l0 {H : List Int} (hn : H.length ≤ 20) (r : Int) {v : Nat → Int} (hv : Lens H r v) (res : List Int × Bool) (K : Nat)
    (hc : ∀ k, K < k → impl_LongestDown.l0 k (H.length : Int) (tab v H.length) (impl_LongestDown_1.p r H) (-1) = some res) :
    ∀ (m : Nat) (x : List Int), m ≤ H.length → x.length = H.length → (∀ q : Nat, m ≤ q → q < H.length → rd x (q : Int) = v q) → (∀ q : Nat, q < m → rd x (q : Int) = 0) → ∀ k, K + 40 * m < k → impl_LongestDown.l0 k (H.length : Int) x (impl_LongestDown_1.p r H) ((m : Int) - 1) = some res := by
  intro m
  induction m with
  | zero =>
    intro x _ hx h1 _ k hk
    rw [eq_tab v H.length x hx (fun q hq => h1 q (by omega) hq)]
    exact hc k (by omega)
  | succ m ih =>
    intro x hm hx h1 h2 k hk
    obtain ⟨k, rfl⟩ : ∃ z, k = z + 1 := ⟨k - 1, by omega⟩
    simp only [impl_LongestDown.l0]
    rw [show ((m + 1 : Nat) : Int) - 1 = (m : Int) by omega, if_pos (by omega), w64 (by omega) (by omega), show ((m : Int) + 1) = ((m + 1 : Nat) : Int) by omega]
    exact impl_l1 hn r hv m (by omega) res (K + 40 * m) (fun x hx h1 h2 k hk => ih x (by omega) hx h1 h2 k hk) (H.length - 1 - m) (m + 1) x 0 (by omega) (by omega) hx (fun q hq1 hq2 => h1 q (by omega) hq2) (fun q hq => h2 q (by omega)) (h2 m (by omega)) (by omega) (by omega) (hv.eq m (by omega)).symm k (by omega)
/-- The boards that are taken behind board a, from board b on, d boards of them looked at. -/
def pick (H : List Int) (r : Int) (v : Nat → Int) : Nat → Nat → Nat → List Int
  | _, _, 0 => []
  | a, b, d + 1 => if stepOk H r a b = true ∧ v b = v a - 1 then (b : Int) :: pick H r v b (b + 1) d else pick H r v a (b + 1) d
theorem pick_length (H : List Int) (r : Int) (v : Nat → Int) : ∀ (d a b : Nat), (pick H r v a b d).length ≤ d
  | 0, _, _ => Nat.le_refl _
  | d + 1, a, b => by
    unfold pick
    split
    · have := pick_length H r v d b (b + 1); simp; omega
    · have := pick_length H r v d a (b + 1); omega
theorem impl_l2 {H : List Int} (hn : H.length ≤ 20) (r : Int) {v : Nat → Int} (hv : Lens H r v) :
    ∀ (d a b : Nat) (out : List Int), b + d = H.length → a < b → a < H.length → out.length + d ≤ 100 → ∀ k, d < k → impl_LongestDown.l2 k (H.length : Int) (tab v H.length) (impl_LongestDown_1.p r H) (a : Int) out (b : Int) = some (out ++ pick H r v a b d, true) := by
  intro d
  induction d with
  | zero =>
    intro a b out hb hab ha ho k hk
    obtain ⟨k, rfl⟩ : ∃ m, k = m + 1 := ⟨k - 1, by omega⟩
    simp only [impl_LongestDown.l2]
    rw [if_neg (by omega)]; simp [pick]
  | succ d ih =>
    intro a b out hb hab ha ho k hk
    obtain ⟨k, rfl⟩ : ∃ m, k = m + 1 := ⟨k - 1, by omega⟩
    have hva := hv.bd a ha
    have htl := tab_length v H.length
    simp only [impl_LongestDown.l2]
    rw [if_pos (by omega), next_eq hn r a b ha (by omega), Option.bind_some, pick, rd_tab v H.length b (by omega), rd_tab v H.length a ha, w64 (n := v a - 1) (by omega) (by omega), w64 (n := (b : Int) + 1) (by omega) (by omega), show ((b : Int) + 1) = ((b + 1 : Nat) : Int) by omega, htl]
    by_cases e : stepOk H r a b = true
    · rw [if_pos e, if_pos (by omega), if_pos (by omega), if_pos (by omega), if_pos (by omega)]
      by_cases e2 : v b = v a - 1
      · rw [if_pos e2, if_pos (by omega), if_pos ⟨e, e2⟩, ih b (b + 1) _ (by omega) (by omega) (by omega) (by simp; omega) k (by omega)]; simp
      · rw [if_neg e2, if_neg (fun z => e2 z.2), ih a (b + 1) _ (by omega) (by omega) ha (by omega) k (by omega)]
    · rw [if_neg e, if_neg (fun z => e z.1), ih a (b + 1) _ (by omega) (by omega) ha (by omega) k (by omega)]
/-- The first board with the greatest length. -/
structure First (H : List Int) (v : Nat → Int) (M : Int) (a : Nat) : Prop where
  lt : a < H.length
  at_ : v a = M
  before : ∀ q, q < a → v q ≠ M
  most : ∀ q, q < H.length → v q ≤ M
theorem first_exist (H : List Int) (v : Nat → Int) (M : Int) (h : ∃ q, q < H.length ∧ v q = M) (hm : ∀ q, q < H.length → v q ≤ M) : ∃ a, First H v M a := by
  have hP : ∃ q, q < H.length ∧ v q = M := h
  have : ∀ n, (∃ q, q < n ∧ q < H.length ∧ v q = M) → ∃ a, a < H.length ∧ v a = M ∧ ∀ q, q < a → v q ≠ M := by
    intro n
    induction n with
    | zero => rintro ⟨q, hq, _⟩; exact absurd hq (by omega)
    | succ n ih =>
      rintro ⟨q, hq, h1, h2⟩
      by_cases e : ∃ q, q < n ∧ q < H.length ∧ v q = M
      · exact ih e
      · refine ⟨q, h1, h2, fun p hp hz => e ⟨p, by omega, by omega, hz⟩⟩
  obtain ⟨q, h1, h2⟩ := hP
  obtain ⟨a, h3, h4, h5⟩ := this (q + 1) ⟨q, by omega, h1, h2⟩
  exact ⟨a, h3, h4, h5, hm⟩
theorem index_l0 {H : List Int} (hn : H.length ≤ 20) {v : Nat → Int} {M : Int} {a : Nat} (h : First H v M a) : ∀ (d j : Nat), j + d = a → ∀ k, d < k → slices_Index_int_int.l0 k (tab v H.length) M (H.length : Int) (j : Int) = some (a : Int) := by
  have ha := h.lt
  have htl := tab_length v H.length
  intro d
  induction d with
  | zero =>
    intro j hj k hk
    obtain ⟨k, rfl⟩ : ∃ m, k = m + 1 := ⟨k - 1, by omega⟩
    simp only [slices_Index_int_int.l0]
    rw [htl, if_pos (by omega), if_pos (by omega), if_pos (by omega), rd_tab v H.length j (by omega), show j = a by omega, h.at_, if_pos rfl]
  | succ d ih =>
    intro j hj k hk
    obtain ⟨k, rfl⟩ : ∃ m, k = m + 1 := ⟨k - 1, by omega⟩
    simp only [slices_Index_int_int.l0]
    rw [htl, if_pos (by omega), if_pos (by omega), if_pos (by omega), rd_tab v H.length j (by omega), if_neg (fun z => h.before j (by omega) z.symm), w64 (by omega) (by omega), show ((j : Int) + 1) = ((j + 1 : Nat) : Int) by omega]
    exact ih (j + 1) (by omega) k (by omega)
/-- What both answer. -/
def down (H : List Int) (r : Int) (v : Nat → Int) (a : Nat) : List Int := (a : Int) :: pick H r v a (a + 1) (H.length - 1 - a)
theorem impl_end {H : List Int} (h1 : 1 ≤ H.length) (hn : H.length ≤ 20) (r : Int) {v : Nat → Int} (hv : Lens H r v) : ∃ (M : Int) (a : Nat), First H v M a ∧ ∀ k, 100 < k → impl_LongestDown.l0 k (H.length : Int) (tab v H.length) (impl_LongestDown_1.p r H) (-1) = some (down H r v a, true) := by
  have htl := tab_length v H.length
  obtain ⟨x, t, hxt⟩ : ∃ x t, tab v H.length = x :: t := by
    cases e : tab v H.length with
    | nil => rw [e] at htl; simp at htl; omega
    | cons x t => exact ⟨x, t, rfl⟩
  have hmem : ∀ y, y ∈ x :: t ↔ ∃ q, q < H.length ∧ v q = y := by
    intro y
    rw [← hxt]
    unfold tab
    rw [List.mem_map]
    constructor
    · rintro ⟨q, h, e⟩; exact ⟨q, List.mem_range.1 h, e⟩
    · rintro ⟨q, h, e⟩; exact ⟨q, List.mem_range.2 h, e⟩
  have hM : maxFrom x t ∈ x :: t := by
    rcases maxFrom_mem t x with e | e
    · rw [e]; exact List.mem_cons_self
    · exact List.mem_cons_of_mem _ e
  have hall := (maxFrom_lt t x (maxFrom x t + 1)).1 (by omega)
  obtain ⟨a, hf⟩ := first_exist H v (maxFrom x t) ((hmem _).1 hM) (fun q hq => by
    have := (hmem (v q)).2 ⟨q, hq, rfl⟩
    rcases List.mem_cons.1 this with e | e
    · rw [e]; have := hall.1; omega
    · have := hall.2 _ e; omega)
  refine ⟨maxFrom x t, a, hf, fun k hk => ?_⟩
  have ha := hf.lt
  obtain ⟨k, rfl⟩ : ∃ m, k = m + 1 := ⟨k - 1, by omega⟩
  have hlen : t.length + 1 = H.length := by rw [← htl, hxt]; rfl
  have e1 : slices_Max_int_int.f k (tab v H.length) = some (maxFrom x t) := by
    rw [hxt]
    exact max_eq x t (by simp; omega) k (by omega)
  have e2 : slices_Index_int_int.f k (tab v H.length) (maxFrom x t) = some (a : Int) := by
    unfold slices_Index_int_int.f
    rw [htl]
    exact index_l0 hn hf a 0 (by omega) k (by omega)
  simp only [impl_LongestDown.l0]
  rw [if_neg (by omega), e1, Option.bind_some, e2, Option.bind_some, w64 (by omega) (by omega), show ((a : Int) + 1) = ((a + 1 : Nat) : Int) by omega, impl_l2 hn r hv (H.length - 1 - a) a (a + 1) [(a : Int)] (by omega) (by omega) ha (by simp; omega) k (by omega)]
  rfl
/-- The greatest length, one more, over the last d boards. -/
def bst (v : Nat → Int) (n : Nat) : Nat → Int
  | 0 => 0
  | d + 1 => mx (bst v n d) (v (n - 1 - d) + 1)
theorem bst_le (v : Nat → Int) (n : Nat) (M : Int) (h0 : 0 ≤ M) (hm : ∀ q, q < n → v q + 1 ≤ M) : ∀ d, d ≤ n → bst v n d ≤ M
  | 0, _ => h0
  | d + 1, h => (mx_le _ _ _).2 ⟨bst_le v n M h0 hm d (by omega), hm _ (by omega)⟩
theorem bst_ge (v : Nat → Int) (n : Nat) : ∀ d, d ≤ n → ∀ q, n - d ≤ q → q < n → v q + 1 ≤ bst v n d
  | 0, _, q, h1, h2 => absurd h1 (by omega)
  | d + 1, h, q, h1, h2 => by
    rw [bst]
    by_cases e : q = n - 1 - d
    · rw [e]; exact (le_mx _ _).2
    · exact Int.le_trans (bst_ge v n d (by omega) q (by omega) h2) (le_mx _ _).1
theorem bst_nonneg (v : Nat → Int) (n : Nat) : ∀ d, 0 ≤ bst v n d
  | 0 => Int.le_refl _
  | d + 1 => Int.le_trans (bst_nonneg v n d) (le_mx _ _).1
theorem spec_l1 {H : List Int} (hn : H.length ≤ 20) (r : Int) {v : Nat → Int} (hv : Lens H r v) (a : Nat) (ha : a < H.length) (B : Int) (res : List Int × Bool) (K : Nat)
    (hc : ∀ x : List Int, x.length = H.length → (∀ q : Nat, a ≤ q → q < H.length → rd x (q : Int) = v q + 1) → ∀ k, K < k → spec_LongestDown.l0 k H r x (mx B (v a + 1)) ((a : Int) - 1) = some res) :
    ∀ (d b : Nat) (x : List Int) (cur : Int), b + d = H.length → a < b → x.length = H.length → (∀ q : Nat, a < q → q < H.length → rd x (q : Int) = v q + 1) → rd x (a : Int) = cur + 1 → 0 ≤ cur → cur ≤ 20 → bestNext H r v a cur b d = v a → ∀ k, K + 2 * d + 2 < k → spec_LongestDown.l1 k H r x B (a : Int) (b : Int) = some res := by
  have fin : ∀ (x : List Int) (b : Nat), x.length = H.length → (∀ q : Nat, a < q → q < H.length → rd x (q : Int) = v q + 1) → rd x (a : Int) = v a + 1 → ∀ k, K + 1 < k → spec_LongestDown.j2 k H r x B (a : Int) (b : Int) false = some res := by
    intro x b hx h1 h3 k hk
    obtain ⟨k, rfl⟩ : ∃ m, k = m + 1 := ⟨k - 1, by omega⟩
    simp only [spec_LongestDown.j2, Bool.false_eq_true, if_false]
    rw [if_pos (by omega), if_pos (by omega), l1Most_eq, Option.bind_some, h3, w64 (by omega) (by omega)]
    refine hc x hx (fun q hq1 hq2 => ?_) k (by omega)
    by_cases e : q = a
    · subst e; exact h3
    · exact h1 q (by omega) hq2
  intro d
  induction d with
  | zero =>
    intro b x cur hb hab hx h1 h3 h4 h5 h6 k hk
    obtain ⟨k, rfl⟩ : ∃ m, k = m + 1 := ⟨k - 1, by omega⟩
    simp only [spec_LongestDown.l1]
    rw [if_neg (by omega)]
    rw [bestNext] at h6
    exact fin x b hx h1 (by omega) k (by omega)
  | succ d ih =>
    intro b x cur hb hab hx h1 h3 h4 h5 h6 k hk
    obtain ⟨k, rfl⟩ : ∃ m, k = m + 2 := ⟨k - 2, by omega⟩
    have hbv := hv.bd b (by omega)
    simp only [spec_LongestDown.l1]
    rw [if_pos (by omega), w64 (n := (b : Int) - a) (by omega) (by omega)]
    by_cases hr : (b : Int) - (a : Int) ≤ r
    · rw [decide_eq_true hr]
      simp only [spec_LongestDown.j2, if_true]
      rw [bestNext] at h6
      rw [if_pos (by omega), if_pos (by omega), if_pos (by omega), if_pos (by omega), w64 (n := (b : Int) + 1) (by omega) (by omega), show ((b : Int) + 1) = ((b + 1 : Nat) : Int) by omega]
      by_cases hh : rd H (b : Int) < rd H (a : Int)
      · have e : stepOk H r a b = true := by unfold stepOk; rw [decide_eq_true hr, decide_eq_true hh]; rfl
        rw [if_pos e] at h6
        rw [if_pos hh, if_pos (by omega), if_pos (by omega), h3, h1 b hab (by omega), w64 (n := v b + 1 + 1) (by omega) (by omega), l1Most_eq, Option.bind_some, Int.toNat_natCast]
        have e2 : mx (cur + 1) (v b + 1 + 1) = mx cur (v b + 1) + 1 := by
          by_cases z : cur < v b + 1
          · rw [mx_lt _ _ z, mx_lt _ _ (by omega)]
          · rw [mx_ge _ _ (by omega), mx_ge _ _ (by omega)]
        refine ih (b + 1) _ (mx cur (v b + 1)) (by omega) (by omega) (by rw [List.length_set]; exact hx) (fun q hq1 hq2 => ?_) ?_ ?_ ?_ h6 k (by omega)
        · rw [rd_set_other _ _ _ _ (by omega) (by omega)]; exact h1 q hq1 hq2
        · rw [rd_set_same _ _ _ (by omega), e2]
        · exact Int.le_trans h4 (le_mx _ _).1
        · exact (mx_le _ _ _).2 ⟨h5, by omega⟩
      · have e : stepOk H r a b = false := by unfold stepOk; rw [decide_eq_false hh, Bool.and_false]
        rw [e, if_neg (by simp)] at h6
        rw [if_neg hh]
        exact ih (b + 1) x cur (by omega) (by omega) hx h1 h3 h4 h5 h6 k (by omega)
    · rw [decide_eq_false hr]
      rw [bestNext_stop H r v a (d + 1) b cur (by omega)] at h6
      exact fin x b hx h1 (by omega) (k + 1) (by omega)
theorem spec_l0 {H : List Int} (hn : H.length ≤ 20) (r : Int) {v : Nat → Int} (hv : Lens H r v) (res : List Int × Bool) (K : Nat)
    (hc : ∀ k, K < k → spec_LongestDown.l0 k H r (tab (fun q => v q + 1) H.length) (bst v H.length H.length) (-1) = some res) :
    ∀ (m : Nat) (x : List Int), m ≤ H.length → x.length = H.length → (∀ q : Nat, m ≤ q → q < H.length → rd x (q : Int) = v q + 1) → ∀ k, K + 60 * m < k → spec_LongestDown.l0 k H r x (bst v H.length (H.length - m)) ((m : Int) - 1) = some res := by
  intro m
  induction m with
  | zero =>
    intro x _ hx h1 k hk
    rw [eq_tab (fun q => v q + 1) H.length x hx (fun q hq => h1 q (by omega) hq)]
    exact hc k (by omega)
  | succ m ih =>
    intro x hm hx h1 k hk
    obtain ⟨k, rfl⟩ : ∃ z, k = z + 1 := ⟨k - 1, by omega⟩
    have hb : bst v H.length (H.length - m) = mx (bst v H.length (H.length - (m + 1))) (v m + 1) := by
      rw [show H.length - m = (H.length - (m + 1)) + 1 by omega, bst, show H.length - 1 - (H.length - (m + 1)) = m by omega]
    simp only [spec_LongestDown.l0]
    rw [show ((m + 1 : Nat) : Int) - 1 = (m : Int) by omega, if_pos (by omega), if_pos (by omega), if_pos (by omega), w64 (by omega) (by omega), show ((m : Int) + 1) = ((m + 1 : Nat) : Int) by omega, Int.toNat_natCast]
    refine spec_l1 hn r hv m (by omega) _ res (K + 60 * m) (fun x hx h1 k hk => by rw [← hb]; exact ih x (by omega) hx h1 k hk) (H.length - 1 - m) (m + 1) _ 0 (by omega) (by omega) (by rw [List.length_set]; exact hx) (fun q hq1 hq2 => ?_) ?_ (by omega) (by omega) (hv.eq m (by omega)).symm k (by omega)
    · rw [rd_set_other _ _ _ _ (by omega) (by omega)]; exact h1 q (by omega) hq2
    · rw [rd_set_same _ _ _ (by omega)]; rfl
theorem rd_end (o : List Int) (y : Int) : rd (o ++ [y]) (o.length : Int) = y := by
  rw [rd_get _ o.length (by simp)]; simp
/-- The reference's boards, behind the first. -/
theorem spec_l2 {H : List Int} (hn : H.length ≤ 20) (r : Int) {v : Nat → Int} (hv : Lens H r v) (M : Int) (hM : M ≤ 20) :
    ∀ (d a b : Nat) (o : List Int), b + d = H.length → a < b → a < H.length → o.length + d ≤ 100 → v a = M - (o.length : Int) → ∀ k, d < k → spec_LongestDown.l2 k H r (tab (fun q => v q + 1) H.length) (M + 1) (o ++ [(a : Int)]) (H.length : Int) (b : Int) = some ((o ++ [(a : Int)]) ++ pick H r v a b d, true) := by
  intro d
  induction d with
  | zero =>
    intro a b o hb hab ha ho hva k hk
    obtain ⟨k, rfl⟩ : ∃ m, k = m + 1 := ⟨k - 1, by omega⟩
    simp only [spec_LongestDown.l2]
    rw [if_neg (by omega)]; simp [pick]
  | succ d ih =>
    intro a b o hb hab ha ho hva k hk
    obtain ⟨k, rfl⟩ : ∃ m, k = m + 1 := ⟨k - 1, by omega⟩
    have hba := hv.bd a ha
    have hbb := hv.bd b (by omega)
    have htl := tab_length (fun q => v q + 1) H.length
    have hol : ((o ++ [(a : Int)]).length : Int) = (o.length : Int) + 1 := by simp
    simp only [spec_LongestDown.l2]
    rw [if_pos (by omega), hol, pick, w64 (n := (b : Int) + 1) (by omega) (by omega), show ((b : Int) + 1) = ((b + 1 : Nat) : Int) by omega]
    have hno := ih a (b + 1) o (by omega) (by omega) ha (by omega) hva k (by omega)
    by_cases hlt : (o.length : Int) + 1 < M + 1
    · rw [if_pos hlt, if_pos (by omega), if_pos (by rw [htl]; omega), rd_tab (fun q => v q + 1) H.length b (by omega), w64 (n := M + 1 - ((o.length : Int) + 1)) (by omega) (by omega)]
      by_cases e2 : v b = v a - 1
      · rw [if_pos (show v b + 1 = M + 1 - ((o.length : Int) + 1) by omega), if_neg (by omega), if_pos (by omega), w64 (n := (o.length : Int) + 1 - 1) (by omega) (by omega), show (o.length : Int) + 1 - 1 = (o.length : Int) by omega, if_pos (by omega), if_pos (by omega), rd_end, if_pos (by omega), if_pos (by omega), w64 (n := (b : Int) - a) (by omega) (by omega)]
        by_cases hh : rd H (b : Int) < rd H (a : Int)
        · rw [if_pos hh]
          by_cases hr : (b : Int) - (a : Int) ≤ r
          · have e : stepOk H r a b = true := by unfold stepOk; rw [decide_eq_true hr, decide_eq_true hh]; rfl
            have hyes := ih b (b + 1) (o ++ [(a : Int)]) (by omega) (by omega) (by omega) (by simp; omega) (by rw [hol]; omega) k (by omega)
            rw [if_pos hr, if_pos (by simp; omega), if_pos ⟨e, e2⟩, hyes]
            simp
          · have e : stepOk H r a b = false := by unfold stepOk; rw [decide_eq_false hr, Bool.false_and]
            rw [if_neg hr, if_neg (fun z => by rw [e] at z; simp at z)]; exact hno
        · have e : stepOk H r a b = false := by unfold stepOk; rw [decide_eq_false hh, Bool.and_false]
          rw [if_neg hh, if_neg (fun z => by rw [e] at z; simp at z)]; exact hno
      · rw [if_neg (show ¬ (v b + 1 = M + 1 - ((o.length : Int) + 1)) by omega), if_neg (fun z => e2 z.2)]; exact hno
    · rw [if_neg hlt, if_neg (fun z => by have := z.2; omega)]; exact hno
theorem spec_first {H : List Int} (hn : H.length ≤ 20) (r : Int) {v : Nat → Int} (hv : Lens H r v) {M : Int} {a : Nat} (hf : First H v M a) (hM : 0 ≤ M ∧ M ≤ 20) :
    ∀ (d b : Nat), b + d = a → ∀ k, 40 + d < k → spec_LongestDown.l2 k H r (tab (fun q => v q + 1) H.length) (M + 1) [] (H.length : Int) (b : Int) = some (down H r v a, true) := by
  have ha := hf.lt
  have htl := tab_length (fun q => v q + 1) H.length
  intro d
  induction d with
  | zero =>
    intro b hb k hk
    obtain rfl : b = a := by omega
    obtain ⟨k, rfl⟩ : ∃ m, k = m + 1 := ⟨k - 1, by omega⟩
    simp only [spec_LongestDown.l2, List.length_nil]
    rw [if_pos (by omega), if_pos (by omega), if_pos (by omega), if_pos (by rw [htl]; omega), rd_tab (fun q => v q + 1) H.length b ha, hf.at_, w64 (by omega) (by omega), if_pos (by omega), if_pos (by omega), if_pos (by omega), w64 (by omega) (by omega), show ((b : Int) + 1) = ((b + 1 : Nat) : Int) by omega]
    have := spec_l2 hn r hv M hM.2 (H.length - 1 - b) b (b + 1) [] (by omega) (by omega) ha (by simp; omega) (by rw [hf.at_]; simp) k (by omega)
    rw [List.nil_append] at this ⊢
    rw [this]; rfl
  | succ d ih =>
    intro b hb k hk
    obtain ⟨k, rfl⟩ : ∃ m, k = m + 1 := ⟨k - 1, by omega⟩
    have hne := hf.before b (by omega)
    simp only [spec_LongestDown.l2, List.length_nil]
    rw [if_pos (by omega), if_pos (by omega), if_pos (by omega), if_pos (by rw [htl]; omega), rd_tab (fun q => v q + 1) H.length b (by omega), w64 (n := M + 1 - ((0 : Nat) : Int)) (by omega) (by omega), if_neg (by omega), w64 (by omega) (by omega), show ((b : Int) + 1) = ((b + 1 : Nat) : Int) by omega]
    exact ih (b + 1) (by omega) k (by omega)
end Go.Proofs.Ytmppchecbcflgaa.Pu
