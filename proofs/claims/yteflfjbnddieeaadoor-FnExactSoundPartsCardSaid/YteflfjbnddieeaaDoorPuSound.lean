/- The parts of sound boards: what the program and the reference make of a yard. -/
import Derived.Test.YteflfjbnddieeaaDoorPuYard
import Derived.Test.YteflfjbnddieeaaDoorPrint14
import Derived.Test.YteflfjbnddieeaaDoorPrint12
import Derived.Test.YteflfjbnddieeaaDoorPrint15
namespace Go.Proofs.YteflfjbnddieeaaDoor.Pu
open Go.RowKit Go.Proofs.YteflfjbnddieeaaDoor.Print Go.Proofs.YteflfjbnddieeaaDoorW.PrintWords Go.Proofs.YteflfjbnddieeaaDoorW.PrintLast
set_option linter.unusedSimpArgs false
set_option linter.unusedVariables false

/-- A part as a list of its first and its last board. -/
def partL (g : S52) : List Int := [g.f0, g.f1]
/-- The parts, with the last one led on to board i. -/
def leadOn (G : List S52) (i : Nat) : List S52 := G.set (G.length - 1) ⟨(rd_T52 G ((G.length - 1 : Nat) : Int)).f0, (i : Int)⟩
/-- The parts behind board i. -/
def partStep (s : ByteArray) (G : List S52) (i : Nat) : List S52 :=
  if bt s (i : Int) = 120 then G else if 0 < i ∧ bt s ((i : Int) - 1) = 111 then leadOn G i else G ++ [⟨(i : Int), (i : Int)⟩]
def partsFrom (s : ByteArray) : List S52 → Nat → Nat → List S52
  | G, _, 0 => G
  | G, j, d + 1 => partsFrom s (partStep s G j) (j + 1) d
/-- What holds of the parts ahead of board j. -/
structure Parts (s : ByteArray) (j : Nat) (G : List S52) : Prop where
  len : G.length ≤ j
  some_ : 0 < j → bt s ((j : Int) - 1) = 111 → G ≠ []
  ok : ∀ g ∈ G, 0 ≤ g.f0 ∧ g.f0 ≤ g.f1 ∧ g.f1 < (j : Int)
theorem parts_zero (s : ByteArray) : Parts s 0 [] := ⟨Nat.le_refl _, fun h => absurd h (by omega), fun g hg => by simp at hg⟩
theorem rdT_get (G : List S52) (i : Nat) (h : i < G.length) : rd_T52 G (i : Int) = G[i] := by simp [rd_T52, List.getD, h]
theorem parts_step {s : ByteArray} {j : Nat} {G : List S52} (h : Parts s j G) (h2 : bt s (j : Int) = 120 ∨ bt s (j : Int) = 111) : Parts s (j + 1) (partStep s G j) := by
  have hl := h.len
  unfold partStep
  by_cases h1 : bt s (j : Int) = 120
  · rw [if_pos h1]
    refine ⟨by omega, fun _ e => ?_, fun g hg => by have := h.ok g hg; omega⟩
    rw [show ((j + 1 : Nat) : Int) - 1 = (j : Int) by omega] at e
    omega
  · rw [if_neg h1]
    by_cases h3 : 0 < j ∧ bt s ((j : Int) - 1) = 111
    · rw [if_pos h3]
      have hne := h.some_ h3.1 h3.2
      have hp : 0 < G.length := List.length_pos_iff.2 hne
      unfold leadOn
      refine ⟨by simp; omega, fun _ _ => ?_, fun g hg => ?_⟩
      · intro e
        have := congrArg List.length e
        rw [List.length_set, List.length_nil] at this
        omega
      · rcases List.mem_or_eq_of_mem_set hg with hg | rfl
        · have := h.ok g hg; omega
        · have := h.ok _ (List.getElem_mem (show G.length - 1 < G.length by omega))
          rw [rdT_get G (G.length - 1) (by omega)]
          simp only []
          omega
    · rw [if_neg h3]
      refine ⟨by simp; omega, fun _ _ => by simp, fun g hg => ?_⟩
      rcases List.mem_append.1 hg with hg | hg
      · have := h.ok g hg; omega
      · simp only [List.mem_cons, List.not_mem_nil, or_false] at hg
        subst hg
        simp only []
        omega
theorem soundParts_l0 (s : ByteArray) (hs : s.size ≤ 1000) (hb : ∀ j : Nat, j < s.size → bt s (j : Int) = 120 ∨ bt s (j : Int) = 111) :
    ∀ (d j : Nat) (G : List S52), j + d = s.size → Parts s j G → ∀ k, d < k → impl_soundParts.l0 k s G (s.size : Int) (j : Int) = some (partsFrom s G j d) := by
  intro d
  induction d with
  | zero =>
    intro j G hj h k hk
    obtain ⟨k, rfl⟩ : ∃ m, k = m + 1 := ⟨k - 1, by omega⟩
    simp only [impl_soundParts.l0]
    rw [if_neg (by omega)]; rfl
  | succ d ih =>
    intro j G hj h k hk
    obtain ⟨k, rfl⟩ : ∃ m, k = m + 1 := ⟨k - 1, by omega⟩
    have hl := h.len
    have hr := ih (j + 1) (partStep s G j) (by omega) (parts_step h (hb j (by omega))) k (by omega)
    simp only [impl_soundParts.l0]
    rw [partsFrom, if_pos (by omega), if_pos (by omega), if_pos (by omega), w64 (n := (j : Int) + 1) (by omega) (by omega), show ((j : Int) + 1) = ((j + 1 : Nat) : Int) by omega]
    by_cases h1 : bt s (j : Int) = 120
    · have hst : partStep s G j = G := by unfold partStep; rw [if_pos h1]
      rw [hst] at hr ⊢
      rw [if_pos h1]; exact hr
    · rw [if_neg h1]
      by_cases h0 : 0 < j
      · rw [if_pos (show (j : Int) > 0 by omega), w64 (n := (j : Int) - 1) (by omega) (by omega), if_pos (show 0 ≤ (j : Int) - 1 by omega), if_pos (show (j : Int) - 1 < (s.size : Int) by omega)]
        by_cases h3 : bt s ((j : Int) - 1) = 111
        · have hst : partStep s G j = leadOn G j := by unfold partStep; rw [if_neg h1, if_pos ⟨h0, h3⟩]
          have hp : 0 < G.length := List.length_pos_iff.2 (h.some_ h0 h3)
          rw [hst] at hr ⊢
          rw [if_pos h3, w64 (n := (G.length : Int) - 1) (by omega) (by omega), show (G.length : Int) - 1 = ((G.length - 1 : Nat) : Int) by omega, if_pos (by omega), if_pos (by omega), Int.toNat_natCast]
          exact hr
        · have hst : partStep s G j = G ++ [⟨(j : Int), (j : Int)⟩] := by unfold partStep; rw [if_neg h1, if_neg (fun z => h3 z.2)]
          rw [hst] at hr ⊢
          rw [if_neg h3, if_pos (by omega)]
          exact hr
      · have hst : partStep s G j = G ++ [⟨(j : Int), (j : Int)⟩] := by unfold partStep; rw [if_neg h1, if_neg (fun z => h0 z.1)]
        rw [hst] at hr ⊢
        rw [if_neg (show ¬ ((j : Int) > 0) by omega), if_pos (by omega)]
        exact hr
theorem rdL_map (G : List S52) (i : Nat) (h : i < G.length) : rd_L2 (G.map partL) (i : Int) = partL G[i] := by simp [rd_L2, List.getD, h]
theorem reSound_l0 (s : ByteArray) (hs : s.size ≤ 1000) (hb : ∀ j : Nat, j < s.size → bt s (j : Int) = 120 ∨ bt s (j : Int) = 111) :
    ∀ (d j : Nat) (G : List S52), j + d = s.size → Parts s j G → ∀ k, d < k → spec_reSound.l0 k s (G.map partL) (j : Int) = some ((partsFrom s G j d).map partL) := by
  intro d
  induction d with
  | zero =>
    intro j G hj h k hk
    obtain ⟨k, rfl⟩ : ∃ m, k = m + 1 := ⟨k - 1, by omega⟩
    simp only [spec_reSound.l0]
    rw [if_neg (by omega)]; rfl
  | succ d ih =>
    intro j G hj h k hk
    obtain ⟨k, rfl⟩ : ∃ m, k = m + 1 := ⟨k - 1, by omega⟩
    have hl := h.len
    have hr := ih (j + 1) (partStep s G j) (by omega) (parts_step h (hb j (by omega))) k (by omega)
    simp only [spec_reSound.l0]
    rw [partsFrom, if_pos (by omega), if_pos (by omega), w64 (n := (j : Int) + 1) (by omega) (by omega), show ((j : Int) + 1) = ((j + 1 : Nat) : Int) by omega]
    by_cases h1 : bt s (j : Int) = 120
    · have hst : partStep s G j = G := by unfold partStep; rw [if_pos h1]
      rw [hst] at hr ⊢
      rw [if_pos h1]; exact hr
    · rw [if_neg h1]
      have happ : (G ++ [(⟨(j : Int), (j : Int)⟩ : S52)]).map partL = G.map partL ++ [[(j : Int), (j : Int)]] := by rw [List.map_append]; rfl
      by_cases h0 : 0 < j
      · rw [if_pos (show (j : Int) > 0 by omega), w64 (n := (j : Int) - 1) (by omega) (by omega), if_pos (show 0 ≤ (j : Int) - 1 by omega), if_pos (show (j : Int) - 1 < (s.size : Int) by omega)]
        by_cases h3 : bt s ((j : Int) - 1) = 111
        · have hst : partStep s G j = leadOn G j := by unfold partStep; rw [if_neg h1, if_pos ⟨h0, h3⟩]
          have hp : 0 < G.length := List.length_pos_iff.2 (h.some_ h0 h3)
          rw [hst] at hr ⊢
          rw [if_pos h3, List.length_map, w64 (n := (G.length : Int) - 1) (by omega) (by omega), show (G.length : Int) - 1 = ((G.length - 1 : Nat) : Int) by omega, if_pos (by omega), if_pos (by omega), rdL_map G _ (by omega), if_pos (by simp [partL]), Int.toNat_natCast]
          have e : (G.map partL).set (G.length - 1) [rd (partL (G[G.length - 1]'(by omega))) 0, (j : Int)] = (leadOn G j).map partL := by
            unfold leadOn
            rw [List.map_set, rdT_get G _ (by omega)]; rfl
          rw [e]
          exact hr
        · have hst : partStep s G j = G ++ [⟨(j : Int), (j : Int)⟩] := by unfold partStep; rw [if_neg h1, if_neg (fun z => h3 z.2)]
          rw [hst] at hr ⊢
          rw [if_neg h3, List.length_map, if_pos (by omega), ← happ]
          exact hr
      · have hst : partStep s G j = G ++ [⟨(j : Int), (j : Int)⟩] := by unfold partStep; rw [if_neg h1, if_neg (fun z => h0 z.1)]
        rw [hst] at hr ⊢
        rw [if_neg (show ¬ ((j : Int) > 0) by omega), List.length_map, if_pos (by omega), ← happ]
        exact hr
/-- All parts of sound boards. -/
def parts (s : ByteArray) : List S52 := partsFrom s [] 0 s.size
theorem parts_from (s : ByteArray) (hb : ∀ j : Nat, j < s.size → bt s (j : Int) = 120 ∨ bt s (j : Int) = 111) : ∀ (d j : Nat) (G : List S52), j + d = s.size → Parts s j G → Parts s s.size (partsFrom s G j d)
  | 0, j, G, hj, h => by rw [show s.size = j by omega]; exact h
  | d + 1, j, G, hj, h => parts_from s hb d (j + 1) _ (by omega) (parts_step h (hb j (by omega)))
theorem yard_boards {s : ByteArray} (h : yardOk s = true) : ∀ j : Nat, j < s.size → bt s (j : Int) = 120 ∨ bt s (j : Int) = 111 := by
  unfold yardOk at h
  rw [Bool.and_eq_true, allP_iff] at h
  intro j hj
  exact of_decide_eq_true (h.2 j (by omega) (by omega))
theorem soundParts_eq {s : ByteArray} (h : yardOk s = true) (k : Nat) (hk : 40 < k) : impl_soundParts.f k s = some (parts s) := by
  have hs := yard_size h
  unfold impl_soundParts.f
  exact soundParts_l0 s (by omega) (yard_boards h) s.size 0 [] (by omega) (parts_zero s) k (by omega)
theorem reSound_eq {s : ByteArray} (h : yardOk s = true) (k : Nat) (hk : 40 < k) : spec_reSound.f k s = some ((parts s).map partL) := by
  have hs := yard_size h
  unfold spec_reSound.f
  exact reSound_l0 s (by omega) (yard_boards h) s.size 0 [] (by omega) (parts_zero s) k (by omega)
theorem parts_ok {s : ByteArray} (h : yardOk s = true) : Parts s s.size (parts s) := parts_from s (yard_boards h) s.size 0 [] (by omega) (parts_zero s)
end Go.Proofs.YteflfjbnddieeaaDoor.Pu
