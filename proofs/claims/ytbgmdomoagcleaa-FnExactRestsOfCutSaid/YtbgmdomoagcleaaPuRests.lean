/- What the program and the reference tell of a cut: the same rests, or none. -/
import Derived.Test.YtbgmdomoagcleaaPuCutBase
import Derived.Test.YtbgmdomoagcleaaPuMax
import Derived.Test.YtbgmdomoagcleaaPrint29
import Derived.Test.YtbgmdomoagcleaaPrint26
import Derived.Test.YtbgmdomoagcleaaPrint27
import Derived.Test.YtbgmdomoagcleaaPrint20
import Derived.Test.YtbgmdomoagcleaaPrint25
import Derived.Test.YtbgmdomoagcleaaPrint28
namespace Go.Proofs.Ytbgmdomoagcleaa.Pu
open Go.RowKit Go.Proofs.Ytbgmdomoagcleaa.Print Go.Proofs.YtbgmdomoagcleaaW.PrintWords Go.Proofs.YtbgmdomoagcleaaW.PrintLast
set_option linter.unusedSimpArgs false
set_option linter.unusedVariables false

/-- Rests, or none. -/
def rested (b : Int) (l : List Int) : List Int × Bool := if restsOk b l = true then (l, true) else ([], false)
theorem check_impl (b : Int) (x : List Int) (hx : x.length ≤ 1000) : ∀ (d j : Nat), j + d = x.length → ∀ k, d < k → impl_rests.l1 k b x (x.length : Int) (j : Int) = some (if restsOk b (x.drop j) = true then (x, true) else ([], false)) := by
  intro d
  induction d with
  | zero =>
    intro j hj k hk
    obtain ⟨k, rfl⟩ : ∃ m, k = m + 1 := ⟨k - 1, by omega⟩
    simp only [impl_rests.l1]
    rw [if_neg (by omega), List.drop_of_length_le (by omega)]; rfl
  | succ d ih =>
    intro j hj k hk
    obtain ⟨k, rfl⟩ : ∃ m, k = m + 1 := ⟨k - 1, by omega⟩
    have hlt : j < x.length := by omega
    simp only [impl_rests.l1]
    rw [if_pos (by omega), if_pos (by omega), if_pos (by omega), rd_get x j hlt, List.drop_eq_getElem_cons hlt, restsOk_cons, w64 (by omega) (by omega), show ((j : Int) + 1) = ((j + 1 : Nat) : Int) by omega, ih (j + 1) (by omega) k (by omega)]
    by_cases h1 : x[j] < 0
    · rw [if_pos h1, decide_eq_false (by omega)]; rfl
    · rw [if_neg h1]
      by_cases h2 : x[j] = b
      · rw [if_pos h2, decide_eq_false (by omega)]; rfl
      · rw [if_neg h2, decide_eq_true (by omega), Bool.true_and]
theorem check_spec (b : Int) (x : List Int) (hx : x.length ≤ 1000) : ∀ (d j : Nat), j + d = x.length → ∀ k, d < k → spec_poRests.l2 k b x (x.length : Int) (j : Int) = some (if restsOk b (x.drop j) = true then (x, true) else ([], false)) := by
  intro d
  induction d with
  | zero =>
    intro j hj k hk
    obtain ⟨k, rfl⟩ : ∃ m, k = m + 1 := ⟨k - 1, by omega⟩
    simp only [spec_poRests.l2]
    rw [if_neg (by omega), List.drop_of_length_le (by omega)]; rfl
  | succ d ih =>
    intro j hj k hk
    obtain ⟨k, rfl⟩ : ∃ m, k = m + 1 := ⟨k - 1, by omega⟩
    have hlt : j < x.length := by omega
    simp only [spec_poRests.l2]
    rw [if_pos (by omega), if_pos (by omega), if_pos (by omega), rd_get x j hlt, List.drop_eq_getElem_cons hlt, restsOk_cons, w64 (by omega) (by omega), show ((j : Int) + 1) = ((j + 1 : Nat) : Int) by omega, ih (j + 1) (by omega) k (by omega)]
    by_cases h1 : x[j] < 0
    · rw [if_pos h1, decide_eq_false (by omega)]; rfl
    · rw [if_neg h1]
      by_cases h2 : x[j] = b
      · rw [if_pos h2, decide_eq_false (by omega)]; rfl
      · rw [if_neg h2, decide_eq_true (by omega), Bool.true_and]
theorem set_left {b : Int} {R C : List Int} {i c : Nat} (hc : rd C (i : Int) = (c : Int)) (hi : i < 8) (hb : 0 ≤ b ∧ b ≤ 1000) (hR : ∀ j : Nat, j < 8 → 0 ≤ rd R (j : Int) ∧ rd R (j : Int) ≤ 1000) (x : List Int) (hcx : c < x.length) (hx : ∀ q : Nat, q < x.length → rd x (q : Int) = left b R C i q) :
    ∀ q : Nat, q < x.length → rd (x.set c (wrap64 (rd x (c : Int) - rd R (i : Int)))) (q : Int) = left b R C (i + 1) q := by
  intro q hq
  have h1 := left_bounds b R C hb c i (fun j hj => hR j (by omega))
  have h2 := hR i hi
  rw [left, hc]
  by_cases e : c = q
  · subst e
    rw [if_pos rfl, rd_set_same _ _ _ hq, hx c hq, w64 (by omega) (by omega)]
  · rw [if_neg (by omega), rd_set_other _ _ _ _ hq e, hx q hq]
/-- Rails, a bar and a cut of as many numbers. -/
structure Cutting (b : Int) (R C : List Int) : Prop where
  n1 : 1 ≤ R.length
  n8 : R.length ≤ 8
  rails : allIn R 1 500 = true
  b1 : 1 ≤ b
  b2 : b ≤ 500
  same : C.length = R.length
theorem Cutting.rdR {b : Int} {R C : List Int} (h : Cutting b R C) : ∀ j : Nat, j < 8 → 0 ≤ rd R (j : Int) ∧ rd R (j : Int) ≤ 1000 := by
  intro j hj
  by_cases e : j < R.length
  · have := allIn_rd h.rails (j : Int) (by omega) (by omega); omega
  · rw [rd_nat, List.getD_eq_getElem?_getD, List.getElem?_eq_none (by omega)]; simp
theorem impl_l0 {b : Int} {R C : List Int} (h : Cutting b R C) (hC : ∀ j : Nat, j < R.length → 0 ≤ rd C (j : Int) ∧ rd C (j : Int) ≤ 7) :
    ∀ (d i : Nat), i + d = R.length → ∀ x : List Int, x.length = bars C R.length → (∀ q : Nat, q < x.length → rd x (q : Int) = left b R C i q) → ∀ k, d + 20 < k → impl_rests.l0 k R b x C (C.length : Int) (i : Int) = some (rested b (tab (left b R C R.length) (bars C R.length))) := by
  have hn8 := h.n8
  have hs := h.same
  have hb1 := h.b1
  have hb2 := h.b2
  have hM : bars C R.length ≤ 8 := bars_le C 8 _ (fun i hi => by have := hC i hi; omega)
  intro d
  induction d with
  | zero =>
    intro i hi x hx hr k hk
    obtain ⟨k, rfl⟩ : ∃ m, k = m + 1 := ⟨k - 1, by omega⟩
    simp only [impl_rests.l0]
    rw [if_neg (by omega)]
    have := check_impl b x (by omega) x.length 0 (by omega) k (by omega)
    rw [show i = R.length by omega] at hr
    rw [← eq_tab _ _ x hx (fun q hq => hr q (by omega))]
    simpa [rested] using this
  | succ d ih =>
    intro i hi x hx hr k hk
    obtain ⟨k, rfl⟩ : ∃ m, k = m + 1 := ⟨k - 1, by omega⟩
    have hci := hC i (by omega)
    obtain ⟨c, hc⟩ := Int.eq_ofNat_of_zero_le hci.1
    have hlt : c < x.length := by
      have := bars_lt C R.length i (by omega)
      rw [hc] at this; rw [hx]; simpa using this
    simp only [impl_rests.l0]
    rw [if_pos (by omega), if_pos (by omega), if_pos (by omega), if_pos (by omega), if_pos (by omega), if_pos (by omega), hc, Int.toNat_natCast, w64 (n := (i : Int) + 1) (by omega) (by omega), show ((i : Int) + 1) = ((i + 1 : Nat) : Int) by omega]
    refine ih (i + 1) (by omega) _ (by simpa using hx) (fun q hq => ?_) k (by omega)
    exact set_left hc (by omega) (by omega) h.rdR x hlt hr q (by simpa using hq)
theorem spec_l1 {b : Int} {R C : List Int} (h : Cutting b R C) (i c : Nat) (hi : i < R.length) (hc : rd C (i : Int) = (c : Int)) (h7 : c ≤ 7) (hC : ∀ j : Nat, j < i → 0 ≤ rd C (j : Int) ∧ rd C (j : Int) ≤ 7) (res : List Int × Bool) (K : Nat)
    (hcont : ∀ y : List Int, y.length = bars C (i + 1) → (∀ q : Nat, q < y.length → rd y (q : Int) = left b R C (i + 1) q) → ∀ k, K < k → spec_poRests.l0 k R b y C (C.length : Int) ((i + 1 : Nat) : Int) = some res) :
    ∀ (d : Nat) (x : List Int), (c + 1) - x.length = d → bars C i ≤ x.length → x.length ≤ max (bars C i) (c + 1) → (∀ q : Nat, q < x.length → rd x (q : Int) = left b R C i q) → ∀ k, K + d + 1 < k → spec_poRests.l1 k R b x (i : Int) (c : Int) C (C.length : Int) (i : Int) = some res := by
  have hn8 := h.n8
  have hM : bars C i ≤ 8 := bars_le C 8 _ (fun i hi => by have := hC i hi; omega)
  have hb1 := h.b1
  have hb2 := h.b2
  intro d
  induction d with
  | zero =>
    intro x hd hx1 hx2 hr k hk
    obtain ⟨k, rfl⟩ : ∃ m, k = m + 1 := ⟨k - 1, by omega⟩
    simp only [spec_poRests.l1]
    rw [if_neg (by omega), if_pos (by omega), if_pos (by omega), if_pos (by omega), if_pos (by omega), Int.toNat_natCast, w64 (n := (i : Int) + 1) (by omega) (by omega), show ((i : Int) + 1) = ((i + 1 : Nat) : Int) by omega]
    have he : bars C (i + 1) = max (bars C i) (c + 1) := by rw [bars, hc]; rfl
    refine hcont _ (by rw [List.length_set, he]; omega) (fun q hq => ?_) k (by omega)
    exact set_left hc (by omega) (by omega) h.rdR x (by omega) hr q (by simpa using hq)
  | succ d ih =>
    intro x hd hx1 hx2 hr k hk
    obtain ⟨k, rfl⟩ : ∃ m, k = m + 1 := ⟨k - 1, by omega⟩
    simp only [spec_poRests.l1]
    rw [if_pos (by omega), if_pos (by omega)]
    refine ih (x ++ [b]) (by simp; omega) (by simp; omega) (by simp; omega) (fun q hq => ?_) k (by omega)
    rw [List.length_append] at hq
    simp only [List.length_cons, List.length_nil] at hq
    by_cases e : q < x.length
    · rw [rd_get _ q (by simp; omega), List.getElem_append_left e, ← rd_get x q e]
      exact hr q e
    · have e2 : q = x.length := by omega
      rw [rd_get _ q (by simp; omega), List.getElem_append_right (by omega)]
      simp only [e2, Nat.sub_self, List.getElem_cons_zero]
      symm
      refine left_out b R C _ i (fun j hj e3 => ?_)
      have := bars_lt C i j hj
      rw [e3] at this
      simp only [Int.toNat_natCast] at this
      omega
theorem spec_l0 {b : Int} {R C : List Int} (h : Cutting b R C) :
    ∀ (d i : Nat), i + d = R.length → (∀ j : Nat, j < i → 0 ≤ rd C (j : Int) ∧ rd C (j : Int) ≤ 7) → ∀ x : List Int, x.length = bars C i → (∀ q : Nat, q < x.length → rd x (q : Int) = left b R C i q) → ∀ k, 20 * d + 20 < k → spec_poRests.l0 k R b x C (C.length : Int) (i : Int) = some (if allIn C 0 7 = true then rested b (tab (left b R C R.length) (bars C R.length)) else ([], false)) := by
  have hn8 := h.n8
  have hs := h.same
  have hb1 := h.b1
  have hb2 := h.b2
  intro d
  induction d with
  | zero =>
    intro i hi hC x hx hr k hk
    obtain ⟨k, rfl⟩ : ∃ m, k = m + 1 := ⟨k - 1, by omega⟩
    have ha : allIn C 0 7 = true := by
      unfold allIn
      rw [List.all_eq_true]
      intro y hy
      obtain ⟨j, hj, rfl⟩ := List.mem_iff_getElem.1 hy
      rw [← rd_get C j hj]
      have := hC j (by omega)
      simpa using this
    have hM : bars C i ≤ 8 := bars_le C 8 _ (fun i hi => by have := hC i hi; omega)
    simp only [spec_poRests.l0]
    rw [if_neg (by omega), if_pos ha]
    have := check_spec b x (by omega) x.length 0 (by omega) k (by omega)
    rw [show i = R.length by omega] at hr hx
    rw [← eq_tab _ _ x hx (fun q hq => hr q (by omega))]
    simpa [rested] using this
  | succ d ih =>
    intro i hi hC x hx hr k hk
    obtain ⟨k, rfl⟩ : ∃ m, k = m + 1 := ⟨k - 1, by omega⟩
    simp only [spec_poRests.l0]
    rw [if_pos (by omega), if_pos (by omega), if_pos (by omega), l1In_eq, Option.bind_some]
    by_cases hci : 0 ≤ rd C (i : Int) ∧ rd C (i : Int) ≤ 7
    · rw [if_pos (decide_eq_true hci)]
      obtain ⟨c, hc⟩ := Int.eq_ofNat_of_zero_le hci.1
      have := spec_l1 h i c (by omega) hc (by omega) hC _ (20 * d + 20) (fun y h1 h2 k hk => ih (i + 1) (by omega) (fun j hj => by
        by_cases e : j = i
        · subst e; exact hci
        · exact hC j (by omega)) y h1 h2 k hk) ((c + 1) - x.length) x rfl (by omega) (by omega) hr k (by omega)
      rw [hc]
      exact this
    · rw [if_neg (by simpa using hci)]
      have ha : allIn C 0 7 = false := by
        unfold allIn
        rw [List.all_eq_false]
        refine ⟨C[i]'(by omega), List.getElem_mem _, ?_⟩
        rw [← rd_get C i (by omega)]
        simpa using hci
      rw [if_neg (by simp [ha])]
theorem bars_max (x : Int) (t : List Int) (h : ∀ y ∈ x :: t, 0 ≤ y) : ((bars (x :: t) (x :: t).length : Nat) : Int) = maxFrom x t + 1 := by
  have hm := (maxFrom_lt t x (maxFrom x t + 1)).1 (by omega)
  have hmem : maxFrom x t ∈ x :: t := by
    rcases maxFrom_mem t x with e | e
    · rw [e]; exact List.mem_cons_self
    · exact List.mem_cons_of_mem _ e
  have h0 := h _ hmem
  have h1 : bars (x :: t) (x :: t).length ≤ (maxFrom x t).toNat + 1 := bars_le _ _ _ (fun i hi => by
    rw [rd_get _ i hi]
    have hz : (x :: t)[i] < maxFrom x t + 1 := by
      rcases List.mem_cons.1 (List.getElem_mem hi) with e | e
      · rw [e]; exact hm.1
      · exact hm.2 _ e
    omega)
  obtain ⟨j, hj, ej⟩ := List.mem_iff_getElem.1 hmem
  have h2 := bars_lt (x :: t) (x :: t).length j hj
  rw [rd_get _ j hj, ej] at h2
  omega
/-- What the rests of a cut are. -/
def cutRests (b : Int) (R C : List Int) : List Int × Bool := if allIn C 0 7 = true then rested b (tab (left b R C R.length) (bars C R.length)) else ([], false)
theorem poRests_eq {b : Int} {R C : List Int} (h : Cutting b R C) (k : Nat) (hk : 300 < k) : spec_poRests.f k R b C = some (cutRests b R C) := by
  have hn8 := h.n8
  unfold spec_poRests.f
  have := spec_l0 h R.length 0 (by omega) (fun j hj => absurd hj (by omega)) [] rfl (fun q hq => absurd hq (by simp)) k (by omega)
  exact this
theorem rests_eq {b : Int} {R C : List Int} (h : Cutting b R C) (k : Nat) (hk : 300 < k) : impl_rests.f k R b C = some (cutRests b R C) := by
  have hn1 := h.n1
  have hn8 := h.n8
  have hs := h.same
  have hb1 := h.b1
  have hb2 := h.b2
  unfold impl_rests.f
  rw [if_pos (by omega), w64 (by omega) (by omega), allWithin_eq C _ _ (by omega) k (by omega), Option.bind_some]
  obtain ⟨k, rfl⟩ : ∃ m, k = m + 1 := ⟨k - 1, by omega⟩
  simp only [impl_rests.j0]
  cases ha : allIn C 0 ((R.length : Int) - 1) with
  | false =>
    rw [if_pos (by simp)]
    congr 1
    symm
    unfold cutRests
    by_cases h7 : allIn C 0 7 = true
    · rw [if_pos h7]
      unfold rested
      rw [restsOk_out b R C R.length hs, if_neg (by simp)]
      unfold allIn at ha
      rw [List.all_eq_false] at ha
      obtain ⟨y, hy, hy2⟩ := ha
      obtain ⟨j, hj, ej⟩ := List.mem_iff_getElem.1 hy
      have h1 := bars_lt C R.length j (by omega)
      have h2 := allIn_get h7 j hj
      rw [rd_get C j hj] at h1
      rw [ej] at h1 h2
      simp only [decide_eq_true_eq] at hy2
      omega
    · rw [if_neg h7]
  | true =>
    rw [if_neg (by simp)]
    have hC : ∀ j : Nat, j < R.length → 0 ≤ rd C (j : Int) ∧ rd C (j : Int) ≤ 7 := fun j hj => by
      have := allIn_rd ha (j : Int) (by omega) (by omega); omega
    have h7 : allIn C 0 7 = true := by
      unfold allIn
      rw [List.all_eq_true]
      intro y hy
      obtain ⟨j, hj, rfl⟩ := List.mem_iff_getElem.1 hy
      rw [← rd_get C j hj]
      have := hC j (by omega)
      simpa using this
    unfold cutRests
    rw [if_pos h7]
    have hM : bars C R.length ≤ 8 := bars_le C 8 _ (fun i hi => by have := hC i hi; omega)
    obtain ⟨x, t, ext⟩ : ∃ x t, C = x :: t := by
      cases C with
      | nil => simp at hs; omega
      | cons x t => exact ⟨x, t, rfl⟩
    have hmax := bars_max x t (fun y hy => by
      rw [← ext] at hy
      obtain ⟨j, hj, rfl⟩ := List.mem_iff_getElem.1 hy
      exact (allIn_get h7 j hj).1)
    rw [← ext, hs] at hmax
    have hpos : 0 < bars C R.length := by
      have := bars_lt C R.length 0 (by omega); omega
    have e1 : slices_Max_int_int.f k C = some (maxFrom x t) := by
      rw [ext]; rw [ext] at hs
      exact max_eq x t (by omega) k (by simp at hs; omega)
    rw [e1, Option.bind_some, w64 (by omega) (by omega), ← hmax]
    have e2 : slices_Repeat_int_int.f [b] ((bars C R.length : Nat) : Int) = some (List.replicate (bars C R.length) b) := by
      unfold slices_Repeat_int_int.f
      rw [if_pos ⟨rfl, by omega, by omega⟩]; simp [rd]
    rw [e2, Option.bind_some]
    refine impl_l0 h hC R.length 0 (by omega) _ (by simp) (fun q hq => ?_) k (by omega)
    simp only [List.length_replicate] at hq
    rw [rd_get _ q (by simpa using hq), List.getElem_replicate]; rfl
theorem cutRests_length {b : Int} {R C : List Int} (h : Cutting b R C) : (cutRests b R C).1.length ≤ 8 := by
  unfold cutRests
  by_cases h7 : allIn C 0 7 = true
  · rw [if_pos h7]
    unfold rested
    split
    · rw [tab_length]
      refine bars_le C 8 _ (fun i hi => ?_)
      have := allIn_rd h7 (i : Int) (by omega) (by have := h.same; omega)
      omega
    · simp
  · rw [if_neg h7]; simp
/-- Are there rails, and a bar? -/
def barredOk (R : List Int) (b : Int) : Bool := decide (1 ≤ R.length ∧ R.length ≤ 8) && allIn R 1 500 && decide (1 ≤ b ∧ b ≤ 500)
theorem areBarred_eq (R : List Int) (b : Int) (hl : R.length ≤ 1048576) (k : Nat) (hk : R.length + 2 < k) : impl_areBarred.f k R b = some (barredOk R b) := by
  unfold impl_areBarred.f impl_AreRails.f impl_areLong.f barredOk
  rw [within_eq, Option.bind_some, allWithin_eq R 1 500 (by omega) k (by omega), allWithin_eq [b] 1 500 (by simp) k (by simp; omega)]
  by_cases h : 1 ≤ R.length ∧ R.length ≤ 8
  · rw [if_pos (decide_eq_true (by omega)), decide_eq_true h]
    simp only [Option.bind_some, Bool.true_and]
    cases allIn R 1 500 with
    | true => simp [allIn]
    | false => simp
  · rw [if_neg (by rw [decide_eq_true_eq]; omega), decide_eq_false h]; simp
theorem poGood_eq (R : List Int) (hl : R.length ≤ 1048576) (k : Nat) (hk : R.length < k) : spec_poGood.f k R = some (decide (1 ≤ R.length ∧ R.length ≤ 8) && allIn R 1 500) := by
  unfold spec_poGood.f
  rw [l1In_eq, Option.bind_some, l1All_eq R 1 500 (by omega) k hk]
  by_cases h : 1 ≤ R.length ∧ R.length ≤ 8
  · rw [if_pos (decide_eq_true (by omega)), decide_eq_true h]; simp
  · rw [if_neg (by rw [decide_eq_true_eq]; omega), decide_eq_false h]; simp
theorem poLong_eq (b : Int) : spec_poLong.f b = some (decide (1 ≤ b ∧ b ≤ 500)) := by
  unfold spec_poLong.f
  rw [l1In_eq]; rfl
theorem barred_cutting {R : List Int} {b : Int} (h : barredOk R b = true) {C : List Int} (hs : C.length = R.length) : Cutting b R C := by
  unfold barredOk at h
  rw [Bool.and_eq_true, Bool.and_eq_true, decide_eq_true_eq, decide_eq_true_eq] at h
  exact ⟨h.1.1.1, h.1.1.2, h.1.2, h.2.1, h.2.2, hs⟩
theorem mark_lt2 (n m : Nat) : ((1 : Int) + (n : Int) + (m : Int) < 0) = False := eq_false (by omega)
end Go.Proofs.Ytbgmdomoagcleaa.Pu
