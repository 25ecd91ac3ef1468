/- What the printed caReached computes: the boards to which some way leads. -/
import Derived.Test.YtmppchecbcflgaaPuWays
import Derived.Test.YtmppchecbcflgaaPrint28
namespace Go.Proofs.Ytmppchecbcflgaa.Pu
open Go.RowKit Go.Proofs.Ytmppchecbcflgaa.Print Go.Proofs.YtmppchecbcflgaaW.PrintWords Go.Proofs.YtmppchecbcflgaaW.PrintLast Go.Proofs.YtmppchecbcflgaaW.PrintMore
set_option linter.unusedSimpArgs false
set_option linter.unusedVariables false
theorem coll_snoc (p : Nat → Bool) : ∀ (d j : Nat), coll p j (d + 1) = coll p j d ++ (if p (j + d) = true then [((j + d : Nat) : Int)] else [])
  | 0, j => by
    by_cases h : p j = true <;> simp [coll, h]
  | d + 1, j => by
    have := coll_snoc p d (j + 1)
    rw [show j + 1 + d = j + (d + 1) by omega] at this
    by_cases h : p j = true
    · rw [coll_yes p j (d + 1) h, coll_yes p j d h, this]; rfl
    · have h2 : p j = false := by simpa using h
      rw [coll_no p j (d + 1) h2, coll_no p j d h2, this]
theorem coll_mem (p : Nat → Bool) (x : Int) : ∀ (d j : Nat), x ∈ coll p j d ↔ ∃ i, j ≤ i ∧ i < j + d ∧ p i = true ∧ x = (i : Int)
  | 0, j => by simp [coll]; intro i h1 h2; omega
  | d + 1, j => by
    have ih := coll_mem p x d (j + 1)
    by_cases h : p j = true
    · rw [coll_yes p j d h, List.mem_cons, ih]
      constructor
      · rintro (e | ⟨i, h1, h2, h3, h4⟩)
        · exact ⟨j, Nat.le_refl _, by omega, h, e⟩
        · exact ⟨i, by omega, by omega, h3, h4⟩
      · rintro ⟨i, h1, h2, h3, h4⟩
        by_cases e : i = j
        · subst e; exact .inl h4
        · exact .inr ⟨i, by omega, by omega, h3, h4⟩
    · have h2 : p j = false := by simpa using h
      rw [coll_no p j d h2, ih]
      constructor
      · rintro ⟨i, h1, h2, h3, h4⟩
        exact ⟨i, by omega, by omega, h3, h4⟩
      · rintro ⟨i, h1, h2, h3, h4⟩
        have e : i ≠ j := by intro e; subst e; exact h h3
        exact ⟨i, by omega, by omega, h3, h4⟩
theorem sumP_pos (f : Nat → Int) : ∀ (d j : Nat), (∀ i, j ≤ i → i < j + d → 0 ≤ f i) → (0 < sumP f j d ↔ ∃ i, j ≤ i ∧ i < j + d ∧ 0 < f i)
  | 0, j, _ => by simp [sumP]; intro i h1 h2; omega
  | d + 1, j, h => by
    have ih := sumP_pos f d (j + 1) (fun i h1 h2 => h i (by omega) (by omega))
    have h0 := h j (Nat.le_refl _) (by omega)
    have hn : 0 ≤ sumP f (j + 1) d := by
      by_cases e : ∃ b : Int, ∀ i, j + 1 ≤ i → i < j + 1 + d → 0 ≤ f i ∧ f i ≤ b
      · obtain ⟨b, hb⟩ := e; exact (sumP_bounds f b d (j + 1) hb).1
      · exfalso; apply e
        clear ih e h0
        have : ∀ (d j : Nat), ∃ b : Int, ∀ i, j ≤ i → i < j + d → f i ≤ b := by
          intro d
          induction d with
          | zero => intro j; exact ⟨0, fun i h1 h2 => absurd h1 (by omega)⟩
          | succ d ih =>
            intro j
            obtain ⟨b, hb⟩ := ih (j + 1)
            refine ⟨if f j ≤ b then b else f j, fun i h1 h2 => ?_⟩
            by_cases e : i = j
            · subst e; split <;> omega
            · have := hb i (by omega) (by omega)
              split <;> omega
        obtain ⟨b, hb⟩ := this d (j + 1)
        exact ⟨b, fun i h1 h2 => ⟨h i (by omega) (by omega), hb i h1 h2⟩⟩
    unfold sumP
    constructor
    · intro hp
      by_cases e : 0 < f j
      · exact ⟨j, Nat.le_refl _, by omega, e⟩
      · obtain ⟨i, h1, h2, h3⟩ := ih.1 (by omega)
        exact ⟨i, by omega, by omega, h3⟩
    · rintro ⟨i, h1, h2, h3⟩
      by_cases e : i = j
      · subst e; omega
      · have := ih.2 ⟨i, by omega, by omega, h3⟩
        omega
theorem to_pos {h : List Int} {r c : Int} {v : Nat → Int} (hv : IsTo h r c v) (a : Nat) (h0 : 0 < a) (ha : a < h.length) : 0 < v a ↔ ∃ b, b < a ∧ 0 < v b ∧ jumpOk h r c b a = true := by
  rw [hv.2 a h0 ha, sumP_pos _ _ _ (fun i h1 h2 => by have := to_bounds hv i (by omega); unfold toAdd; split <;> omega)]
  constructor
  · rintro ⟨i, h1, h2, h3⟩
    unfold toAdd at h3
    by_cases hj : jumpOk h r c i a = true
    · rw [if_pos hj] at h3; exact ⟨i, by omega, h3, hj⟩
    · rw [if_neg hj] at h3; omega
  · rintro ⟨i, h1, h2, h3⟩
    refine ⟨i, by omega, by omega, ?_⟩
    unfold toAdd; rw [if_pos h3]; exact h2
/-- Is board i reached? -/
def reachP (v : Nat → Int) (i : Nat) : Bool := decide (0 < v i)
theorem caReached_l1 {h : List Int} (hh : heightsOk h = true) (r c : Int) (L : List Int) (hL : L.length ≤ 100) (hL2 : ∀ x ∈ L, 0 ≤ x ∧ x < (h.length : Int)) (a : Nat) (ha : a < h.length) (res : List Int) (K : Nat) (q : Bool)
    (hc : ∀ k, K < k → spec_caReached.l0 k h r c (if q = true then L ++ [(a : Int)] else L) ((a : Int) + 1) = some res) :
    ∀ (d j : Nat) (b : Bool), j + d = L.length → (b || (L.drop j).any fun x => jumpOk h r c x a) = q → ∀ k, K + d + 1 < k → spec_caReached.l1 k h r c L (a : Int) b (L.length : Int) (j : Int) = some res := by
  have hn := ((heightsOk_iff h).1 hh).1
  intro d
  induction d with
  | zero =>
    intro j b hj hb k hk
    obtain ⟨k, rfl⟩ : ∃ m, k = m + 1 := ⟨k - 1, by omega⟩
    rw [List.drop_of_length_le (by omega)] at hb
    have hbq : b = q := by simpa using hb
    subst hbq
    have := hc k (by omega)
    simp only [spec_caReached.l1]
    rw [if_neg (by omega), w64 (by omega) (by omega)]
    cases b with
    | true => rw [if_pos rfl, if_pos (by omega)]; simpa using this
    | false => rw [if_neg (by simp)]; simpa using this
  | succ d ih =>
    intro j b hj hb k hk
    obtain ⟨k, rfl⟩ : ∃ m, k = m + 1 := ⟨k - 1, by omega⟩
    have hm := hL2 (L[j]'(by omega)) (List.getElem_mem _)
    rw [List.drop_eq_getElem_cons (by omega), List.any_cons] at hb
    simp only [spec_caReached.l1]
    rw [if_pos (by omega), if_pos (by omega), if_pos (by omega), w64 (n := (j : Int) + 1) (by omega) (by omega), show ((j : Int) + 1) = ((j + 1 : Nat) : Int) by omega, rd_get L j (by omega)]
    cases b with
    | true =>
      rw [if_pos rfl]
      exact ih (j + 1) true (by omega) (by simpa using hb) k (by omega)
    | false =>
      rw [if_neg (by simp), caJump_eq hh r c _ _ (by omega) (by omega) (by omega) (by omega), Option.bind_some]
      exact ih (j + 1) _ (by omega) (by simpa using hb) k (by omega)
theorem caReached_l0 {h : List Int} (hh : heightsOk h = true) (r c : Int) (v : Nat → Int) (hv : IsTo h r c v) :
    ∀ (d a : Nat), a + d = h.length → 0 < a → ∀ k, 40 * d < k → spec_caReached.l0 k h r c (coll (reachP v) 0 a) (a : Int) = some (coll (reachP v) 0 h.length) := by
  have hn := ((heightsOk_iff h).1 hh).1
  intro d
  induction d with
  | zero =>
    intro a ha h0 k hk
    obtain ⟨k, rfl⟩ : ∃ m, k = m + 1 := ⟨k - 1, by omega⟩
    have : a = h.length := by omega
    subst this
    simp only [spec_caReached.l0]
    rw [if_neg (by omega)]
  | succ d ih =>
    intro a ha h0 k hk
    obtain ⟨k, rfl⟩ : ∃ m, k = m + 1 := ⟨k - 1, by omega⟩
    have hlen := coll_length (reachP v) a 0
    simp only [spec_caReached.l0]
    rw [if_pos (by omega)]
    have := caReached_l1 hh r c (coll (reachP v) 0 a) (by omega) (fun x hx => by
      obtain ⟨i, h1, h2, h3, h4⟩ := (coll_mem _ _ _ _).1 hx
      omega) a (by omega) (coll (reachP v) 0 h.length) (40 * d) (reachP v a) (fun k hk => by
        have := ih (a + 1) (by omega) (by omega) k hk
        rw [coll_snoc, Nat.zero_add] at this
        rw [show ((a : Int) + 1) = ((a + 1 : Nat) : Int) by omega, ← this]
        congr 1
        split <;> simp) (coll (reachP v) 0 a).length 0 false (by omega) (by
          rw [List.drop_zero, Bool.false_or, Bool.eq_iff_iff, List.any_eq_true]
          unfold reachP
          rw [decide_eq_true_eq, to_pos hv a h0 (by omega)]
          constructor
          · rintro ⟨x, hx, hj⟩
            obtain ⟨i, h1, h2, h3, h4⟩ := (coll_mem _ _ _ _).1 hx
            subst h4
            exact ⟨i, by omega, of_decide_eq_true h3, hj⟩
          · rintro ⟨i, h1, h2, h3⟩
            exact ⟨(i : Int), (coll_mem _ _ _ _).2 ⟨i, by omega, by omega, decide_eq_true h2, rfl⟩, h3⟩) k (by omega)
    exact this
theorem caReached_eq {h : List Int} (hh : heightsOk h = true) (r c : Int) (v : Nat → Int) (hv : IsTo h r c v) (k : Nat) (hk : 900 < k) : spec_caReached.f k h r c = some (coll (reachP v) 0 h.length) := by
  have hn := ((heightsOk_iff h).1 hh).1
  unfold spec_caReached.f
  have := caReached_l0 hh r c v hv (h.length - 1) 1 (by omega) (by omega) k (by omega)
  rw [coll_yes _ _ _ (show reachP v 0 = true by unfold reachP; rw [hv.1]; rfl)] at this
  exact this
end Go.Proofs.Ytmppchecbcflgaa.Pu
