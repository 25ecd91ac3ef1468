/- The program's LevelSteps answers as the reference's, for all arguments; its result is new memory and a second call answers the same. -/
import Derived.Test.YtbgmdomoagcleaaPuTab
import Derived.Test.YtbgmdomoagcleaaPuMarks
import Derived.Test.YtbgmdomoagcleaaPrint19
namespace Go.Proofs.Ytbgmdomoagcleaa.Pure
open Go.RowKit Go.Proofs.Ytbgmdomoagcleaa.Print Go.Proofs.YtbgmdomoagcleaaW.PrintWords Go.Proofs.YtbgmdomoagcleaaW.PrintLast Go.Proofs.Ytbgmdomoagcleaa.Pu
set_option linter.unusedSimpArgs false
set_option linter.unusedVariables false
def groundOk (l : List Int) : Bool := decide (2 ≤ l.length ∧ l.length ≤ 12) && allIn l 0 50
theorem isGround_eq (l : List Int) (hl : l.length ≤ 4611686018427387904) (k : Nat) (hk : l.length < k) : impl_isGround.f k l = some (groundOk l) := by
  unfold impl_isGround.f groundOk
  rw [within_eq, Option.bind_some, allWithin_eq l 0 50 hl k hk]
  by_cases h : 2 ≤ l.length ∧ l.length ≤ 12
  · rw [if_pos (decide_eq_true (by omega))]; simp [h]
  · rw [if_neg (by rw [decide_eq_true_eq]; omega)]; simp [h]
theorem poGround_eq (l : List Int) (hl : l.length ≤ 4611686018427387904) (k : Nat) (hk : l.length < k) : spec_poGround.f k l = some (groundOk l) := by
  unfold spec_poGround.f groundOk
  rw [l1In_eq, Option.bind_some, l1All_eq l 0 50 hl k hk]
  by_cases h : 2 ≤ l.length ∧ l.length ≤ 12
  · rw [if_pos (decide_eq_true (by omega))]; simp [h]
  · rw [if_neg (by rw [decide_eq_true_eq]; omega)]; simp [h]
/-- How far apart two numbers are. -/
def apart (i j : Nat) : Int := if i < j then (j : Int) - i else (i : Int) - j
theorem size_eq (i j : Nat) (hi : i ≤ 100) (hj : j ≤ 100) : impl_size.f ((i : Int) - j) = some (apart i j) := by
  unfold impl_size.f apart
  rw [w64 (by omega) (by omega)]
  unfold mx
  congr 1
  split <;> split <;> omega
theorem l1Abs_eq (i j : Nat) (hi : i ≤ 100) (hj : j ≤ 100) : spec_l1Abs.f ((i : Int) - j) = some (apart i j) := by
  unfold spec_l1Abs.f spec_l1Most.f apart
  rw [w64 (by omega) (by omega)]
  split <;> split <;> simp only [Option.bind_some, Option.some.injEq] <;> omega
theorem l1Least_eq (a b : Int) : spec_l1Least.f a b = some (mn a b) := by
  unfold spec_l1Least.f mn
  by_cases h : a < b
  · rw [if_pos h]; congr 1; split <;> omega
  · rw [if_neg h]; congr 1; split <;> omega
/-- The height at board i that board j allows. -/
def from_ (g : List Int) (s : Int) (i j : Nat) : Int := rd g (j : Int) + s * apart i j
def lowest (g : List Int) (s : Int) (i : Nat) : Int → Nat → Nat → Int
  | cur, _, 0 => cur
  | cur, j, d + 1 => lowest g s i (mn cur (from_ g s i j)) (j + 1) d
theorem apart_bounds (i j : Nat) (hi : i < 12) (hj : j < 12) : 0 ≤ apart i j ∧ apart i j ≤ 12 := by unfold apart; split <;> omega
theorem prod_bounds (s : Int) (hs : 0 ≤ s ∧ s ≤ 50) (i j : Nat) (hi : i < 12) (hj : j < 12) : 0 ≤ s * apart i j ∧ s * apart i j ≤ 600 := by
  have h := apart_bounds i j hi hj
  have h1 := Int.mul_nonneg hs.1 h.1
  have h2 := Int.mul_le_mul hs.2 h.2 h.1 (by omega)
  omega
theorem impl_l1 {g : List Int} (hg : groundOk g = true) (s : Int) (hs : 0 ≤ s ∧ s ≤ 50) (i : Nat) (hi : i < g.length) (res : List Int × Bool) (K : Nat) (x21 : Int) (pre : Nat → Int)
    (hc : ∀ x : List Int, x.length = g.length → (∀ q : Nat, q < g.length → rd x (q : Int) = if q = i then lowest g s i (rd g (i : Int)) 0 g.length else pre q) → ∀ k, K < k → impl_LevelSteps.l0 k g s x x21 (wrap64 ((i : Int) + 1)) = some res) :
    ∀ (d j : Nat) (x : List Int) (cur : Int), j + d = g.length → x.length = g.length → (∀ q : Nat, q < g.length → rd x (q : Int) = if q = i then cur else pre q) → lowest g s i cur j d = lowest g s i (rd g (i : Int)) 0 g.length → ∀ k, K + d + 1 < k → impl_LevelSteps.l1 k g s x (i : Int) x21 (i : Int) g (g.length : Int) (j : Int) = some res := by
  unfold groundOk at hg
  rw [Bool.and_eq_true, decide_eq_true_eq] at hg
  have hn := hg.1
  intro d
  induction d with
  | zero =>
    intro j x cur hj hx hr hq k hk
    obtain ⟨k, rfl⟩ : ∃ m, k = m + 1 := ⟨k - 1, by omega⟩
    simp only [impl_LevelSteps.l1]
    rw [if_neg (by omega)]
    refine hc x hx (fun q h1 => ?_) k (by omega)
    rw [hr q h1]
    split
    · exact hq
    · rfl
  | succ d ih =>
    intro j x cur hj hx hr hq k hk
    obtain ⟨k, rfl⟩ : ∃ m, k = m + 1 := ⟨k - 1, by omega⟩
    have hb := prod_bounds s hs i j (by omega) (by omega)
    have hgj := allIn_rd hg.2 (j : Int) (by omega) (by omega)
    have hri := hr i hi
    rw [if_pos rfl] at hri
    simp only [impl_LevelSteps.l1]
    rw [if_pos (by omega), if_pos (by omega), if_pos (by omega), if_pos (by omega), if_pos (by omega), w64 (n := (i : Int) - j) (by omega) (by omega), size_eq i j (by omega) (by omega), Option.bind_some, w64 (n := s * _) (by omega) (by omega), w64 (n := rd g (j : Int) + _) (by omega) (by omega), w64 (n := (j : Int) + 1) (by omega) (by omega), hri, show ((j : Int) + 1) = ((j + 1 : Nat) : Int) by omega, Int.toNat_natCast]
    refine ih (j + 1) _ (mn cur (from_ g s i j)) (by omega) (by simpa using hx) (fun q h1 => ?_) hq k (by omega)
    by_cases e : q = i
    · subst e; rw [if_pos rfl, rd_set_same _ _ _ (by omega)]; rfl
    · rw [if_neg e, rd_set_other _ _ _ _ (by omega) (fun z => e z.symm), hr q h1, if_neg e]
theorem impl_l0 {g : List Int} (hg : groundOk g = true) (s : Int) (hs : 0 ≤ s ∧ s ≤ 50) :
    ∀ (d i : Nat) (x : List Int), i + d = g.length → x.length = g.length → (∀ q : Nat, q < g.length → rd x (q : Int) = if q < i then lowest g s q (rd g (q : Int)) 0 g.length else rd g (q : Int)) → ∀ k, 20 * d < k → impl_LevelSteps.l0 k g s x (g.length : Int) (i : Int) = some (tab (fun q => lowest g s q (rd g (q : Int)) 0 g.length) g.length, true) := by
  have hg2 := hg
  unfold groundOk at hg2
  rw [Bool.and_eq_true, decide_eq_true_eq] at hg2
  have hn := hg2.1
  intro d
  induction d with
  | zero =>
    intro i x hi hx hr k hk
    obtain ⟨k, rfl⟩ : ∃ m, k = m + 1 := ⟨k - 1, by omega⟩
    simp only [impl_LevelSteps.l0]
    rw [if_neg (by omega), eq_tab _ g.length x hx (fun q hq => by rw [hr q hq, if_pos (by omega)])]
  | succ d ih =>
    intro i x hi hx hr k hk
    obtain ⟨k, rfl⟩ : ∃ m, k = m + 1 := ⟨k - 1, by omega⟩
    simp only [impl_LevelSteps.l0]
    rw [if_pos (by omega)]
    have := impl_l1 hg s hs i (by omega) (tab (fun q => lowest g s q (rd g (q : Int)) 0 g.length) g.length, true) (20 * d) (g.length : Int) (fun q => if q < i then lowest g s q (rd g (q : Int)) 0 g.length else rd g (q : Int)) (fun x hx hr k hk => by
      rw [w64 (by omega) (by omega), show ((i : Int) + 1) = ((i + 1 : Nat) : Int) by omega]
      refine ih (i + 1) x (by omega) hx (fun q hq => ?_) k hk
      rw [hr q hq]
      by_cases e : q = i
      · subst e; rw [if_pos rfl, if_pos (by omega)]
      · rw [if_neg e]
        by_cases e2 : q < i
        · rw [if_pos e2, if_pos (by omega)]
        · rw [if_neg e2, if_neg (by omega)]) g.length 0 x (rd g (i : Int)) (by omega) hx (fun q hq => by
      rw [hr q hq]
      by_cases e : q = i
      · subst e; rw [if_pos rfl, if_neg (by omega)]
      · rw [if_neg e]) rfl k (by omega)
    exact this
theorem tab_snoc (v : Nat → Int) (n : Nat) : tab v (n + 1) = tab v n ++ [v n] := by unfold tab; rw [List.range_succ, List.map_append]; rfl
theorem spec_l1 {g : List Int} (hg : groundOk g = true) (s : Int) (hs : 0 ≤ s ∧ s ≤ 50) (i : Nat) (hi : i < g.length) (acc : List Int) (hacc : acc.length ≤ 100) (res : List Int × Bool) (K : Nat) (x20 : Int)
    (hc : ∀ k, K < k → spec_LevelSteps.l0 k g s (acc ++ [lowest g s i (rd g (i : Int)) 0 g.length]) x20 (wrap64 ((i : Int) + 1)) = some res) :
    ∀ (d j : Nat) (cur : Int), j + d = g.length → lowest g s i cur j d = lowest g s i (rd g (i : Int)) 0 g.length → ∀ k, K + d + 1 < k → spec_LevelSteps.l1 k g s acc (i : Int) cur x20 (i : Int) g (g.length : Int) (j : Int) = some res := by
  unfold groundOk at hg
  rw [Bool.and_eq_true, decide_eq_true_eq] at hg
  have hn := hg.1
  intro d
  induction d with
  | zero =>
    intro j cur hj hq k hk
    obtain ⟨k, rfl⟩ : ∃ m, k = m + 1 := ⟨k - 1, by omega⟩
    simp only [spec_LevelSteps.l1]
    rw [if_neg (by omega), if_pos (by omega)]
    rw [lowest] at hq
    rw [hq]
    exact hc k (by omega)
  | succ d ih =>
    intro j cur hj hq k hk
    obtain ⟨k, rfl⟩ : ∃ m, k = m + 1 := ⟨k - 1, by omega⟩
    have hb := prod_bounds s hs i j (by omega) (by omega)
    have hgj := allIn_rd hg.2 (j : Int) (by omega) (by omega)
    simp only [spec_LevelSteps.l1]
    rw [if_pos (by omega), if_pos (by omega), if_pos (by omega), w64 (n := (i : Int) - j) (by omega) (by omega), l1Abs_eq i j (by omega) (by omega), Option.bind_some, w64 (n := s * _) (by omega) (by omega), w64 (n := rd g (j : Int) + _) (by omega) (by omega), l1Least_eq, Option.bind_some, w64 (n := (j : Int) + 1) (by omega) (by omega), show ((j : Int) + 1) = ((j + 1 : Nat) : Int) by omega]
    exact ih (j + 1) (mn cur (from_ g s i j)) (by omega) hq k (by omega)
theorem spec_l0 {g : List Int} (hg : groundOk g = true) (s : Int) (hs : 0 ≤ s ∧ s ≤ 50) :
    ∀ (d i : Nat), i + d = g.length → ∀ k, 20 * d < k → spec_LevelSteps.l0 k g s (tab (fun q => lowest g s q (rd g (q : Int)) 0 g.length) i) (g.length : Int) (i : Int) = some (tab (fun q => lowest g s q (rd g (q : Int)) 0 g.length) g.length, true) := by
  have hg2 := hg
  unfold groundOk at hg2
  rw [Bool.and_eq_true, decide_eq_true_eq] at hg2
  have hn := hg2.1
  intro d
  induction d with
  | zero =>
    intro i hi k hk
    obtain ⟨k, rfl⟩ : ∃ m, k = m + 1 := ⟨k - 1, by omega⟩
    simp only [spec_LevelSteps.l0]
    rw [if_neg (by omega), show i = g.length by omega]
  | succ d ih =>
    intro i hi k hk
    obtain ⟨k, rfl⟩ : ∃ m, k = m + 1 := ⟨k - 1, by omega⟩
    simp only [spec_LevelSteps.l0]
    rw [if_pos (by omega), if_pos (by omega), if_pos (by omega)]
    have := spec_l1 hg s hs i (by omega) (tab (fun q => lowest g s q (rd g (q : Int)) 0 g.length) i) (by rw [tab_length]; omega) (tab (fun q => lowest g s q (rd g (q : Int)) 0 g.length) g.length, true) (20 * d) (g.length : Int) (fun k hk => by
      rw [w64 (by omega) (by omega), show ((i : Int) + 1) = ((i + 1 : Nat) : Int) by omega, ← tab_snoc (fun q => lowest g s q (rd g (q : Int)) 0 g.length) i]
      exact ih (i + 1) (by omega) k hk) g.length 0 (rd g (i : Int)) (by omega) rfl k (by omega)
    exact this
theorem level_both (g : List Int) (s : Int) (hl : g.length ≤ 1048576) : ∃ (w : List Int) (o : Bool), w.length ≤ 100 ∧ ∀ k, g.length + 400 < k → spec_LevelSteps.f k g s = some (w, o) ∧ impl_LevelSteps.f k g s = some (w, o) := by
  have bad : ∀ k, 0 < k → spec_LevelSteps.j0 k g s true = some ([], false) ∧ impl_LevelSteps.j0 k g s true = some ([], false) := by
    intro k hk
    obtain ⟨k, rfl⟩ : ∃ m, k = m + 1 := ⟨k - 1, by omega⟩
    simp only [spec_LevelSteps.j0, impl_LevelSteps.j0]; exact ⟨rfl, rfl⟩
  cases hg : groundOk g with
  | false =>
    refine ⟨[], false, by simp, fun k hk => ?_⟩
    unfold spec_LevelSteps.f impl_LevelSteps.f
    rw [poGround_eq g (by omega) k (by omega), isGround_eq g (by omega) k (by omega), hg]
    exact bad k (by omega)
  | true =>
    by_cases hs : 0 ≤ s ∧ s ≤ 50
    · refine ⟨tab (fun q => lowest g s q (rd g (q : Int)) 0 g.length) g.length, true, ?_, fun k hk => ?_⟩
      · have := hg
        unfold groundOk at this
        rw [Bool.and_eq_true, decide_eq_true_eq] at this
        rw [tab_length]; omega
      have hn := hg
      unfold groundOk at hn
      rw [Bool.and_eq_true, decide_eq_true_eq] at hn
      unfold spec_LevelSteps.f impl_LevelSteps.f
      rw [poGround_eq g (by omega) k (by omega), isGround_eq g (by omega) k (by omega), hg, within_eq, l1In_eq, decide_eq_true hs]
      obtain ⟨k, rfl⟩ : ∃ m, k = m + 1 := ⟨k - 1, by omega⟩
      simp only [Option.bind_some, if_true, Bool.not_true, spec_LevelSteps.j0, impl_LevelSteps.j0, Bool.false_eq_true, if_false]
      have h1 := spec_l0 hg s hs g.length 0 (by omega) k (by omega)
      have h2 := impl_l0 hg s hs g.length 0 g (by omega) rfl (fun q hq => by rw [if_neg (by omega)]) k (by omega)
      have hc : slices_Clone_int_int.f g = some g := by
        unfold slices_Clone_int_int.f; rw [if_pos (by omega)]
      rw [hc]
      exact ⟨by simpa [tab] using h1, by simpa using h2⟩
    · refine ⟨[], false, by simp, fun k hk => ?_⟩
      unfold spec_LevelSteps.f impl_LevelSteps.f
      rw [poGround_eq g (by omega) k (by omega), isGround_eq g (by omega) k (by omega), hg, within_eq, l1In_eq, decide_eq_false hs]
      exact bad k (by omega)
theorem FnExactLevelSteps : laws_FnExactLevelSteps.Pure := by
  intro l s hl _ _ _
  unfold maxLen at hl
  by_cases h : (l.length : Int) > 1048576
  · exact ⟨0, by unfold laws_FnExactLevelSteps.f; rw [if_pos h]⟩
  · obtain ⟨w, o, hw, hk⟩ := level_both l s (by omega)
    have hs := fun k h => (hk k h).1
    have hi := fun k h => (hk k h).2
    refine ⟨l.length + 600, ?_⟩
    unfold laws_FnExactLevelSteps.f
    rw [if_neg h]
    simp (disch := omega) only [toIntS_eq, hs, hi, eqIntS_refl, Option.bind_some, bne_self_eq_false, Bool.false_eq_true, if_false, if_true]
    simp only [laws_FnExactLevelSteps.j0]
    simp (disch := omega) only [toIntS_eq, eqIntS_refl, markIntS_eq, mark_lt, Option.bind_some, bne_self_eq_false, Bool.false_eq_true, if_false, if_true]
    simp only [laws_FnExactLevelSteps.j1]
    simp (disch := omega) only [toIntS_eq, hi, eqIntS_refl, markIntS_eq, heldIntS_eq, mark_lt, Option.bind_some, bne_self_eq_false, Bool.false_eq_true, if_false, if_true]
    simp only [laws_FnExactLevelSteps.j2]
    simp (disch := omega) only [heldIntS_eq, mark_lt, Option.bind_some, bne_self_eq_false, Bool.false_eq_true, if_false, if_true]
end Go.Proofs.Ytbgmdomoagcleaa.Pure
