/- What the printed gaWays, CountWithLongest and choose compute: rows of numbers of ways, round by round. -/
import Derived.Test.YtbgmdomoagcleaaPuGates
import Derived.Test.YtbgmdomoagcleaaPrint1
import Derived.Test.YtbgmdomoagcleaaPrint3
import Derived.Test.YtbgmdomoagcleaaPrint2
namespace Go.Proofs.Ytbgmdomoagcleaa.Pu
open Go.RowKit Go.Proofs.Ytbgmdomoagcleaa.Print Go.Proofs.YtbgmdomoagcleaaW.PrintWords Go.Proofs.YtbgmdomoagcleaaW.PrintLast
set_option linter.unusedSimpArgs false
set_option linter.unusedVariables false

theorem isMany_eq (b m : Int) : impl_isMany.f b m = some (decide (2 ≤ b ∧ b ≤ 40) && decide (0 ≤ m ∧ m ≤ 10)) := by
  unfold impl_isMany.f; rw [isRow_eq, within_eq, Option.bind_some]; cases decide (2 ≤ b ∧ b ≤ 40) <;> rfl
theorem gaMany_eq (b m : Int) : spec_gaMany.f b m = some (decide (2 ≤ b ∧ b ≤ 40) && decide (0 ≤ m ∧ m ≤ 10)) := by
  unfold spec_gaMany.f; rw [gaBoards_eq, l1In_eq, Option.bind_some]; cases decide (2 ≤ b ∧ b ≤ 40) <;> rfl

/-- The sum of f over [lo, hi). -/
def between (f : Nat → Int) (lo : Nat) : Nat → Int
  | 0 => 0
  | n + 1 => between f lo n + if lo ≤ n then f n else 0
theorem between_none (f : Nat → Int) (lo : Nat) : ∀ n, n ≤ lo → between f lo n = 0
  | 0, _ => rfl
  | n + 1, h => by rw [between, between_none f lo n (by omega), if_neg (by omega)]; rfl
theorem between_low (f : Nat → Int) (lo : Nat) : ∀ n, lo < n → between f lo n = between f (lo + 1) n + f lo
  | 0, h => by omega
  | n + 1, h => by
    rw [between, between]
    by_cases e : lo = n
    · subst e; rw [between_none f lo lo (Nat.le_refl _), between_none f (lo + 1) lo (by omega), if_pos (Nat.le_refl _), if_neg (by omega)]; omega
    · rw [between_low f lo n (by omega), if_pos (by omega), if_pos (by omega)]; omega
/-- What one entry of the next row is: the sum of those before it, at most mo of them. -/
def entry (mo : Nat) (f : Nat → Int) (j : Nat) : Int := between f (j - min mo j) j
/-- The next row, of n entries. -/
def nextRow (mo n : Nat) (l : List Int) : List Int := (List.range n).map fun j => wrap64 (entry mo (fun i => l.getD i 0) j)
theorem nextRow_length (mo n : Nat) (l : List Int) : (nextRow mo n l).length = n := by simp [nextRow]
theorem wrap64_add (a b : Int) : wrap64 (wrap64 a + b) = wrap64 (a + b) := by unfold wrap64; omega
theorem wrap64_zero : wrap64 0 = 0 := by unfold wrap64; omega
/-- A row that is done up to entry p; the others are 0. -/
def partRow (mo n : Nat) (l : List Int) (p : Nat) : List Int := (List.range n).map fun j => if j < p then wrap64 (entry mo (fun i => l.getD i 0) j) else 0
theorem partRow_done (mo n : Nat) (l : List Int) : partRow mo n l n = nextRow mo n l := by
  unfold partRow nextRow
  apply List.map_congr_left
  intro j hj
  rw [if_pos (List.mem_range.1 hj)]
theorem partRow_zero (mo n : Nat) (l : List Int) : partRow mo n l 1 = List.replicate n 0 := by
  apply List.ext_getElem
  · simp [partRow]
  · intro j h1 h2
    simp only [partRow, List.getElem_map, List.getElem_range, List.getElem_replicate]
    split
    · rename_i h; rw [show j = 0 by omega]; simp only [entry, between]; exact wrap64_zero
    · rfl
theorem partRow_length (mo n : Nat) (l : List Int) (p : Nat) : (partRow mo n l p).length = n := by simp [partRow]
theorem partRow_set (mo n : Nat) (l : List Int) (p : Nat) (hp : p < n) : (partRow mo n l p).set p (wrap64 (entry mo (fun i => l.getD i 0) p)) = partRow mo n l (p + 1) := by
  apply List.ext_getElem
  · simp [partRow]
  · intro j h1 h2
    rw [List.getElem_set]
    simp only [partRow, List.getElem_map, List.getElem_range]
    by_cases e : p = j
    · subst e; rw [if_pos rfl, if_pos (by omega)]
    · rw [if_neg e]
      by_cases e2 : j < p
      · rw [if_pos e2, if_pos (by omega)]
      · rw [if_neg e2, if_neg (by omega)]
theorem partRow_set0 (mo n : Nat) (l : List Int) (p : Nat) (hp : p < n) : (partRow mo n l p).set p (wrap64 0) = partRow mo n l p := by
  rw [wrap64_zero]
  apply List.ext_getElem
  · simp [partRow]
  · intro j h1 h2
    rw [List.getElem_set]
    simp only [partRow, List.getElem_map, List.getElem_range]
    by_cases e : p = j
    · subst e; rw [if_pos rfl, if_neg (by omega)]
    · rw [if_neg e]
theorem rd_set (l : List Int) (i : Nat) (v : Int) (h : i < l.length) : rd (l.set i v) (i : Int) = v := by
  rw [rd_get _ i (by simpa using h)]; simp

theorem gaWays_l2 (b many : Int) (mo n : Nat) (hb : b = (n : Int) - 1) (hn : n ≤ 41) (hmo : mo ≤ 40) (now : List Int) (hnow : now.length = n) (kk : Int) (B : Nat) (v : Int) (p : Nat) (hp : p < n)
    (h : ∀ k, B < k → spec_gaWays.l1 k b many (mo : Int) now kk (partRow mo n now (p + 1)) ((p + 1 : Nat) : Int) = some v) :
    ∀ (d m : Nat), 1 ≤ m → m + d = min mo p + 1 → ∀ k, B + d + 1 < k →
      spec_gaWays.l2 k b many (mo : Int) now kk ((partRow mo n now p).set p (wrap64 (between (fun i => now.getD i 0) (p - (m - 1)) p))) (p : Int) (m : Int) = some v := by
  have e2 : wrap64 ((p : Int) + 1) = ((p + 1 : Nat) : Int) := by rw [w64 (by omega) (by omega)]; omega
  intro d
  induction d with
  | zero =>
    intro m hm1 hm k hk
    obtain ⟨k, rfl⟩ : ∃ m, k = m + 1 := ⟨k - 1, by omega⟩
    have hfin : (partRow mo n now p).set p (wrap64 (between (fun i => now.getD i 0) (p - (m - 1)) p)) = partRow mo n now (p + 1) := by
      rw [← partRow_set mo n now p hp, entry, show m - 1 = min mo p by omega]
    simp only [spec_gaWays.l2]
    by_cases c : (m : Int) ≤ (mo : Int)
    · rw [if_pos c, if_neg (by omega), e2, hfin]; exact h k (by omega)
    · rw [if_neg c, e2, hfin]; exact h k (by omega)
  | succ d ih =>
    intro m hm1 hm k hk
    obtain ⟨k, rfl⟩ : ∃ m, k = m + 1 := ⟨k - 1, by omega⟩
    have hpl : p < (partRow mo n now p).length := by rw [partRow_length]; exact hp
    simp only [spec_gaWays.l2]
    rw [if_pos (by omega), if_pos (by omega), if_pos (by omega), if_pos (by simp [partRow_length]; omega), w64 (n := (p : Int) - (m : Int)) (by omega) (by omega), if_pos (by omega), if_pos (by omega), rd_set _ _ _ hpl, Int.toNat_natCast, List.set_set]
    rw [wrap64_add, show (p : Int) - (m : Int) = ((p - m : Nat) : Int) by omega, rd_nat, w64 (n := (m : Int) + 1) (by omega) (by omega), show (m : Int) + 1 = ((m + 1 : Nat) : Int) by omega]
    have := ih (m + 1) (by omega) (by omega) k (by omega)
    rw [show m + 1 - 1 = m by omega, between_low _ (p - m) p (by omega), show p - m + 1 = p - (m - 1) by omega] at this
    exact this
theorem gaWays_l1 (b many : Int) (mo n : Nat) (hb : b = (n : Int) - 1) (hn : n ≤ 41) (hmo : mo ≤ 40) (now : List Int) (hnow : now.length = n) (kk : Int) (B : Nat) (v : Int)
    (h : ∀ k, B < k → spec_gaWays.l0 k b many (mo : Int) (nextRow mo n now) (wrap64 (kk + 1)) = some v) :
    ∀ (d p : Nat), 1 ≤ p → p + d = n → ∀ k, B + 50 * d + 1 < k → spec_gaWays.l1 k b many (mo : Int) now kk (partRow mo n now p) (p : Int) = some v := by
  intro d
  induction d with
  | zero =>
    intro p hp1 hp k hk
    obtain ⟨k, rfl⟩ : ∃ m, k = m + 1 := ⟨k - 1, by omega⟩
    simp only [spec_gaWays.l1]
    rw [if_neg (by omega), show p = n by omega, partRow_done]
    exact h k (by omega)
  | succ d ih =>
    intro p hp1 hp k hk
    obtain ⟨k, rfl⟩ : ∃ m, k = m + 1 := ⟨k - 1, by omega⟩
    simp only [spec_gaWays.l1]
    rw [if_pos (by omega)]
    have := gaWays_l2 b many mo n hb hn hmo now hnow kk (B + 50 * d + 1) v p (by omega) (fun k hk => ih (p + 1) (by omega) (by omega) k hk) (min mo p) 1 (by omega) (by omega) k (by omega)
    rw [show 1 - 1 = 0 from rfl, Nat.sub_zero, between_none _ p p (Nat.le_refl _), partRow_set0 mo n now p (by omega)] at this
    exact this
/-- The rows, round by round. -/
def rowsAfter (mo n : Nat) : Nat → List Int → List Int
  | 0, l => l
  | r + 1, l => rowsAfter mo n r (nextRow mo n l)
theorem rowsAfter_length (mo n : Nat) : ∀ (r : Nat) (l : List Int), l.length = n → (rowsAfter mo n r l).length = n
  | 0, _, h => h
  | r + 1, l, _ => rowsAfter_length mo n r _ (nextRow_length mo n l)
theorem gaWays_l0 (b : Int) (many mo n : Nat) (hb : b = (n : Int) - 1) (hn1 : 1 ≤ n) (hn : n ≤ 41) (hmo : mo ≤ 40) (hmany : many ≤ 10) :
    ∀ (d r : Nat) (now : List Int), now.length = n → r + d = many + 1 → ∀ k, 2100 * d < k → spec_gaWays.l0 k b (many : Int) (mo : Int) now (r : Int) = some (rd (rowsAfter mo n d now) b) := by
  intro d
  induction d with
  | zero =>
    intro r now hnow hr k hk
    obtain ⟨k, rfl⟩ : ∃ m, k = m + 1 := ⟨k - 1, by omega⟩
    simp only [spec_gaWays.l0]
    rw [if_neg (by omega), if_pos (by omega), if_pos (by omega)]; rfl
  | succ d ih =>
    intro r now hnow hr k hk
    obtain ⟨k, rfl⟩ : ∃ m, k = m + 1 := ⟨k - 1, by omega⟩
    have e1 : wrap64 (b + 1) = (n : Int) := by rw [w64 (by omega) (by omega)]; omega
    simp only [spec_gaWays.l0]
    rw [if_pos (by omega), e1, if_pos (by omega), if_pos (by omega), Int.toNat_natCast, ← partRow_zero mo n now]
    refine gaWays_l1 b many mo n hb hn hmo now hnow (r : Int) (2100 * d) _ (fun k hk => ?_) (n - 1) 1 (by omega) (by omega) k (by omega)
    rw [w64 (by omega) (by omega), show (r : Int) + 1 = ((r + 1 : Nat) : Int) by omega]
    exact ih (r + 1) _ (nextRow_length mo n now) (by omega) k hk
def row0 (n : Nat) : List Int := (List.replicate n 0).set 0 1
theorem row0_length (n : Nat) : (row0 n).length = n := by simp [row0]
theorem gaWays_eq (b : Int) (many mo n : Nat) (hb : b = (n : Int) - 1) (hn1 : 1 ≤ n) (hn : n ≤ 41) (hmo : mo ≤ 40) (hmany : many ≤ 10) (k : Nat) (hk : 2100 * (many + 1) < k) :
    spec_gaWays.f k b (many : Int) (mo : Int) = some (rd (rowsAfter mo n (many + 1) (row0 n)) b) := by
  have e1 : wrap64 (b + 1) = (n : Int) := by rw [w64 (by omega) (by omega)]; omega
  unfold spec_gaWays.f
  rw [e1, if_pos (by omega), if_pos (by omega), Int.toNat_natCast]
  simp only [Option.bind_some]
  rw [if_pos (by simp; omega)]
  exact gaWays_l0 b many mo n hb hn1 hn hmo hmany (many + 1) 0 (row0 n) (row0_length n) (by omega) k hk

/-- What the program has in entry j when it has pushed the entries below N, and p - 1 steps of entry N. -/
def pushed (mo : Nat) (f : Nat → Int) : Nat → Nat → Int
  | 0, _ => 0
  | N + 1, j => pushed mo f N j + if N < j ∧ j ≤ N + mo then f N else 0
theorem pushed_between (mo : Nat) (f : Nat → Int) (j : Nat) : ∀ N, pushed mo f N j = between f (j - min mo j) (min N j)
  | 0 => by simp [pushed, between]
  | N + 1 => by
    rw [pushed, pushed_between mo f j N]
    by_cases h : N < j
    · rw [show min (N + 1) j = N + 1 by omega, show min N j = N by omega, between]
      by_cases h2 : j ≤ N + mo
      · rw [if_pos ⟨h, h2⟩, if_pos (by omega)]
      · rw [if_neg (by omega), if_neg (by omega)]
    · rw [if_neg (by omega), show min (N + 1) j = j by omega, show min N j = j by omega]; omega
def pushRow (mo n : Nat) (l : List Int) (N p : Nat) : List Int := (List.range n).map fun j => wrap64 (pushed mo (fun i => l.getD i 0) N j + if N < j ∧ j < N + p then l.getD N 0 else 0)
theorem pushRow_length (mo n : Nat) (l : List Int) (N p : Nat) : (pushRow mo n l N p).length = n := by simp [pushRow]
theorem pushRow_start (mo n : Nat) (l : List Int) : pushRow mo n l 0 1 = List.replicate n 0 := by
  apply List.ext_getElem
  · simp [pushRow]
  · intro j h1 h2
    simp only [pushRow, List.getElem_map, List.getElem_range, List.getElem_replicate, pushed]
    rw [if_neg (by omega)]; exact wrap64_zero
theorem pushRow_next (mo n : Nat) (l : List Int) (N p : Nat) (h1 : p ≤ mo + 1) (h2 : N + p ≤ n) (h3 : p = mo + 1 ∨ N + p = n) : pushRow mo n l N p = pushRow mo n l (N + 1) 1 := by
  unfold pushRow
  apply List.map_congr_left
  intro j hj
  have hj := List.mem_range.1 hj
  rw [pushed, if_neg (show ¬ (N + 1 < j ∧ j < N + 1 + 1) by omega), Int.add_zero]
  by_cases h : N < j ∧ j < N + p
  · rw [if_pos h, if_pos (by omega)]
  · rw [if_neg h, if_neg (by omega)]
theorem pushRow_set (mo n : Nat) (l : List Int) (N p : Nat) (hp : 1 ≤ p) (h : N + p < n) : (pushRow mo n l N p).set (N + p) (wrap64 (rd (pushRow mo n l N p) ((N + p : Nat) : Int) + l.getD N 0)) = pushRow mo n l N (p + 1) := by
  rw [rd_get _ (N + p) (by rw [pushRow_length]; exact h)]
  apply List.ext_getElem
  · simp [pushRow]
  · intro j h1 h2
    rw [List.getElem_set]
    simp only [pushRow, List.getElem_map, List.getElem_range]
    by_cases e : N + p = j
    · subst e; rw [if_pos rfl, wrap64_add, if_neg (by omega), if_pos (by omega)]; congr 1; omega
    · rw [if_neg e]
      by_cases e2 : N < j ∧ j < N + p
      · rw [if_pos e2, if_pos (by omega)]
      · rw [if_neg e2, if_neg (by omega)]
theorem pushRow_done (mo n : Nat) (l : List Int) : pushRow mo n l n 1 = nextRow mo n l := by
  unfold pushRow nextRow
  apply List.map_congr_left
  intro j hj
  have hj := List.mem_range.1 hj
  rw [if_neg (by omega), Int.add_zero, pushed_between, show min n j = j by omega]; rfl
theorem longest_l2 (b : Int) (mo n : Nat) (hb : b = (n : Int) - 1) (hn : n ≤ 41) (hmo : mo ≤ 40) (now : List Int) (hnow : now.length = n) (a28 a29 : Int) (B : Nat) (v : Int × Bool) (N e : Nat) (hN : N < n) (he1 : e ≤ mo + 1) (he2 : N + e ≤ n) (he3 : e = mo + 1 ∨ N + e = n)
    (h : ∀ k, B < k → impl_CountWithLongest.l1 k b (mo : Int) now (pushRow mo n now (N + 1) 1) a28 a29 (n : Int) ((N + 1 : Nat) : Int) = some v) :
    ∀ (d p : Nat), 1 ≤ p → p + d = e → ∀ k, B + d + 1 < k →
      impl_CountWithLongest.l2 k b (mo : Int) now (pushRow mo n now N p) (N : Int) (rd now (N : Int)) (p : Int) a28 a29 (n : Int) (N : Int) = some v := by
  have e2 : ∀ _ : Unit, wrap64 ((N : Int) + 1) = ((N + 1 : Nat) : Int) := fun _ => by rw [w64 (by omega) (by omega)]; omega
  intro d
  induction d with
  | zero =>
    intro p hp1 hp k hk
    obtain ⟨k, rfl⟩ : ∃ m, k = m + 1 := ⟨k - 1, by omega⟩
    have e3 : ∀ _ : Unit, wrap64 ((N : Int) + (p : Int)) = (N : Int) + (p : Int) := fun _ => w64 (by omega) (by omega)
    simp only [impl_CountWithLongest.l2]
    have hpe : p = e := by omega
    subst hpe
    rw [pushRow_next mo n now N p he1 he2 he3, e2 (), e3 ()]
    by_cases c : (p : Int) ≤ (mo : Int)
    · have hbig : ¬ ((N : Int) + (p : Int) ≤ b) := by
        rcases he3 with he3 | he3
        · omega
        · omega
      rw [if_pos c, if_neg hbig]; exact h k (by omega)
    · rw [if_neg c]; exact h k (by omega)
  | succ d ih =>
    intro p hp1 hp k hk
    obtain ⟨k, rfl⟩ : ∃ m, k = m + 1 := ⟨k - 1, by omega⟩
    have e3 : ∀ _ : Unit, wrap64 ((N : Int) + (p : Int)) = ((N + p : Nat) : Int) := fun _ => by rw [w64 (by omega) (by omega)]; omega
    simp only [impl_CountWithLongest.l2]
    have hle : p ≤ mo ∧ N + p < n := by omega
    rw [e3 (), if_pos (show (p : Int) ≤ (mo : Int) by omega), if_pos (show ((N + p : Nat) : Int) ≤ b by omega), if_pos (by omega), if_pos (by rw [pushRow_length]; omega), Int.toNat_natCast, rd_nat now N, pushRow_set mo n now N p hp1 (by omega), w64 (n := (p : Int) + 1) (by omega) (by omega), show (p : Int) + 1 = ((p + 1 : Nat) : Int) by omega]
    have := ih (p + 1) (by omega) (by omega) k (by omega)
    rw [rd_nat] at this
    exact this
theorem longest_l1 (b : Int) (mo n : Nat) (hb : b = (n : Int) - 1) (hn : n ≤ 41) (hmo : mo ≤ 40) (now : List Int) (hnow : now.length = n) (a28 a29 : Int) (B : Nat) (v : Int × Bool)
    (h : ∀ k, B < k → impl_CountWithLongest.l0 k b (mo : Int) (nextRow mo n now) a28 (wrap64 (a29 + 1)) = some v) :
    ∀ (d N : Nat), N + d = n → ∀ k, B + 50 * d + 1 < k → impl_CountWithLongest.l1 k b (mo : Int) now (pushRow mo n now N 1) a28 a29 (n : Int) (N : Int) = some v := by
  intro d
  induction d with
  | zero =>
    intro N hN k hk
    obtain ⟨k, rfl⟩ : ∃ m, k = m + 1 := ⟨k - 1, by omega⟩
    simp only [impl_CountWithLongest.l1]
    rw [if_neg (by omega), show N = n by omega, pushRow_done]
    exact h k (by omega)
  | succ d ih =>
    intro N hN k hk
    obtain ⟨k, rfl⟩ : ∃ m, k = m + 1 := ⟨k - 1, by omega⟩
    simp only [impl_CountWithLongest.l1]
    rw [if_pos (by omega), if_pos (by omega), if_pos (by omega)]
    by_cases c : N + (mo + 1) ≤ n
    · exact longest_l2 b mo n hb hn hmo now hnow a28 a29 (B + 50 * d + 1) v N (mo + 1) (by omega) (Nat.le_refl _) c (Or.inl rfl) (fun k hk => ih (N + 1) (by omega) k hk) mo 1 (by omega) (by omega) k (by omega)
    · exact longest_l2 b mo n hb hn hmo now hnow a28 a29 (B + 50 * d + 1) v N (d + 1) (by omega) (by omega) (by omega) (Or.inr hN) (fun k hk => ih (N + 1) (by omega) k hk) d 1 (by omega) (by omega) k (by omega)
theorem longest_l0 (b : Int) (many mo n : Nat) (hb : b = (n : Int) - 1) (hn1 : 1 ≤ n) (hn : n ≤ 41) (hmo : mo ≤ 40) (hmany : many ≤ 10) :
    ∀ (d r : Nat) (now : List Int), now.length = n → r + d = many + 1 → ∀ k, 2200 * d < k → impl_CountWithLongest.l0 k b (mo : Int) now ((many + 1 : Nat) : Int) (r : Int) = some (rd (rowsAfter mo n d now) b, true) := by
  intro d
  induction d with
  | zero =>
    intro r now hnow hr k hk
    obtain ⟨k, rfl⟩ : ∃ m, k = m + 1 := ⟨k - 1, by omega⟩
    simp only [impl_CountWithLongest.l0]
    rw [if_neg (by omega), if_pos (by omega), if_pos (by omega)]; rfl
  | succ d ih =>
    intro r now hnow hr k hk
    obtain ⟨k, rfl⟩ : ∃ m, k = m + 1 := ⟨k - 1, by omega⟩
    have e1 : wrap64 (b + 1) = (n : Int) := by rw [w64 (by omega) (by omega)]; omega
    simp only [impl_CountWithLongest.l0]
    rw [if_pos (by omega), e1, if_pos (by omega), if_pos (by omega), Int.toNat_natCast, ← pushRow_start mo n now, hnow]
    refine longest_l1 b mo n hb hn hmo now hnow _ (r : Int) (2200 * d) _ (fun k hk => ?_) n 0 (by omega) k (by omega)
    rw [w64 (by omega) (by omega), show (r : Int) + 1 = ((r + 1 : Nat) : Int) by omega]
    exact ih (r + 1) _ (nextRow_length mo n now) (by omega) k hk
end Go.Proofs.Ytbgmdomoagcleaa.Pu
