/- Numbers as texts, with a sign between: what the program and the reference write. -/
import Derived.Test.YtbgmdomoagcleaaDoorPuColl
import Derived.Test.YtbgmdomoagcleaaDoorPrint18
import Derived.Test.YtbgmdomoagcleaaDoorPrint16
import Derived.Test.YtbgmdomoagcleaaDoorPrint15
import Derived.Test.YtbgmdomoagcleaaDoorPrint11
import Derived.Test.YtbgmdomoagcleaaDoorPrint17
namespace Go.Proofs.YtbgmdomoagcleaaDoor.Pu
open Go.RowKit Go.Proofs.YtbgmdomoagcleaaDoor.Print Go.Proofs.YtbgmdomoagcleaaDoorW.PrintWords Go.Proofs.YtbgmdomoagcleaaDoorW.PrintLast
set_option linter.unusedSimpArgs false
set_option linter.unusedVariables false

/-- A text of bytes. -/
def txt (l : List UInt8) : ByteArray := ⟨l.toArray⟩
theorem txt_append (a b : List UInt8) : txt a ++ txt b = txt (a ++ b) := by
  apply ByteArray.ext
  rw [ByteArray.data_append]
  apply Array.ext'
  simp [txt]
theorem txt_size (a : List UInt8) : (txt a).size = a.length := by
  unfold txt ByteArray.size
  simp
theorem txt_list (a : List UInt8) : (txt a).data.toList = a := by simp [txt]
/-- A number's digits. -/
def dec (x : Int) : List UInt8 := Lib.decDigits x.toNat
theorem decDigits_len : ∀ (k n : Nat), n < 10 ^ (k + 1) → (Lib.decDigits n).length ≤ k + 1
  | 0, n, h => by
    rw [Lib.decDigits, dif_pos (by omega)]; simp
  | k + 1, n, h => by
    rw [Lib.decDigits]
    split
    · simp
    · rw [List.length_append]
      have := decDigits_len k (n / 10) (by rw [Nat.div_lt_iff_lt_mul (by omega)]; rw [Nat.pow_succ] at h; exact h)
      simp; omega
theorem digit_text (d : Nat) (h : d < 10) : strOfNums [(wrap64 (48 + (d : Int))) % 256] = txt [UInt8.ofNat (48 + d)] := by
  rw [w64 (by omega) (by omega)]
  have e : (48 + (d : Int)) % 256 = ((48 + d : Nat) : Int) := by omega
  rw [e]
  rfl
theorem l1Num_eq : ∀ (k n : Nat), k ≤ 8 → n < 10 ^ (k + 1) → ∀ f, k < f → spec_l1Num.f f (n : Int) = some (txt (Lib.decDigits n)) := by
  intro k
  induction k with
  | zero =>
    intro n _ h f hf
    obtain ⟨f, rfl⟩ : ∃ m, f = m + 1 := ⟨f - 1, by omega⟩
    rw [spec_l1Num.f, if_pos (by omega), digit_text n (by omega), Lib.decDigits, dif_pos (by omega)]
  | succ k ih =>
    intro n hk h f hf
    obtain ⟨f, rfl⟩ : ∃ m, f = m + 1 := ⟨f - 1, by omega⟩
    by_cases h10 : n < 10
    · rw [spec_l1Num.f, if_pos (by omega), digit_text n (by omega), Lib.decDigits, dif_pos h10]
    · have hn : n < 10 ^ 10 := Nat.lt_of_lt_of_le h (Nat.pow_le_pow_right (by omega) (by omega))
      have e1 : Int.tdiv (n : Int) 10 = ((n / 10 : Nat) : Int) := by rw [Int.tdiv_eq_ediv_of_nonneg (by omega)]; omega
      have e2 : Int.tmod (n : Int) 10 = ((n % 10 : Nat) : Int) := by rw [Int.tmod_eq_emod_of_nonneg (by omega)]; omega
      have hlt : n / 10 < 10 ^ (k + 1) := by rw [Nat.div_lt_iff_lt_mul (by omega)]; rw [Nat.pow_succ] at h; exact h
      have hlen := decDigits_len k (n / 10) hlt
      rw [spec_l1Num.f, if_neg (by omega), e1, e2, w64 (n := ((n / 10 : Nat) : Int)) (by omega) (by omega), ih (n / 10) (by omega) hlt f (by omega)]
      simp only [Option.bind_some]
      rw [digit_text (n % 10) (by omega), if_pos (by rw [txt_size, txt_size]; simp; omega), txt_append, Lib.decDigits.eq_def n, dif_neg h10]
theorem tail_cons (x : List UInt8) (r : List (List UInt8)) : Lib.joinTail [45] (x :: r) = ([45] ++ x) ++ Lib.joinTail [45] r := by simp [Lib.joinTail]
theorem dec_len (x : Int) (h : 0 ≤ x ∧ x < 1000000) : (dec x).length ≤ 6 := decDigits_len 5 x.toNat (by omega)
theorem l1Num_dec (x : Int) (h : 0 ≤ x ∧ x < 1000000) (f : Nat) (hf : 10 < f) : spec_l1Num.f f x = some (txt (dec x)) := by
  obtain ⟨n, rfl⟩ := Int.eq_ofNat_of_zero_le h.1
  have := l1Num_eq 5 n (by omega) (by omega) f (by omega)
  rw [this]; rfl
theorem shText_l0 (H : List Int) (hH : ∀ i : Nat, i < H.length → 0 ≤ rd H (i : Int) ∧ rd H (i : Int) < 1000000) (hl : H.length ≤ 1000) :
    ∀ (d j : Nat) (acc : List UInt8), (j + 1) + d = H.length → acc.length + 7 * d ≤ 100000 → ∀ k, d + 20 < k → spec_shText.l0 k (txt acc) H (H.length : Int) ((j + 1 : Nat) : Int) = some (txt (acc ++ Lib.joinTail [45] ((H.drop (j + 1)).map dec))) := by
  intro d
  induction d with
  | zero =>
    intro j acc hj ha k hk
    obtain ⟨k, rfl⟩ : ∃ m, k = m + 1 := ⟨k - 1, by omega⟩
    simp only [spec_shText.l0]
    rw [if_neg (by omega), List.drop_of_length_le (by omega)]; simp [Lib.joinTail]
  | succ d ih =>
    intro j acc hj ha k hk
    obtain ⟨k, rfl⟩ : ∃ m, k = m + 1 := ⟨k - 1, by omega⟩
    have h1 := hH (j + 1) (by omega)
    have hlen := dec_len _ h1
    have e45 : (⟨#[45]⟩ : ByteArray) = txt [45] := rfl
    simp only [spec_shText.l0]
    rw [if_pos (by omega), if_pos (by omega), if_pos (by omega), if_pos (by omega), if_pos (by rw [txt_size]; omega), l1Num_dec _ h1 k (by omega), Option.bind_some, e45, txt_append, if_pos (by rw [txt_size, txt_size]; simp only [List.length_append, List.length_cons, List.length_nil]; omega), txt_append, w64 (n := ((j + 1 : Nat) : Int) + 1) (by omega) (by omega), show ((j + 1 : Nat) : Int) + 1 = ((j + 1 + 1 : Nat) : Int) by omega, ih (j + 1) _ (by omega) (by simp only [List.length_append, List.length_cons, List.length_nil]; omega) k (by omega), List.drop_eq_getElem_cons (by omega : j + 1 < H.length), List.map_cons, tail_cons, ← rd_get H (j + 1) (by omega)]
    simp only [List.append_assoc]
/-- The text of numbers. -/
def numText (H : List Int) : List UInt8 := Lib.join (H.map dec) [45]
theorem shText_eq (x : Int) (t : List Int) (hH : ∀ i : Nat, i < (x :: t).length → 0 ≤ rd (x :: t) (i : Int) ∧ rd (x :: t) (i : Int) < 1000000) (hl : (x :: t).length ≤ 1000) (k : Nat) (hk : t.length + 30 < k) : spec_shText.f k (x :: t) = some (txt (numText (x :: t))) := by
  obtain ⟨k, rfl⟩ : ∃ m, k = m + 1 := ⟨k - 1, by omega⟩
  have h0 := hH 0 (by simp)
  have e0 : rd (x :: t) 0 = x := rfl
  rw [show ((0 : Nat) : Int) = 0 from rfl, e0] at h0
  have hlen := dec_len _ h0
  unfold spec_shText.f numText
  simp only [spec_shText.l0]
  rw [if_pos (by simp only [List.length_cons]; omega), if_pos (by omega), if_pos (by simp only [List.length_cons]; omega), if_neg (by omega), e0, l1Num_dec _ h0 k (by omega), Option.bind_some, if_pos (by rw [txt_size, show (⟨#[]⟩ : ByteArray).size = 0 from rfl]; omega), show (⟨#[]⟩ : ByteArray) = txt [] from rfl, txt_append, w64 (by omega) (by omega)]
  have := shText_l0 (x :: t) hH hl t.length 0 ([] ++ dec x) (by simp; omega) (by simp at hl ⊢; omega) k (by omega)
  rw [show (0 : Int) + 1 = ((0 + 1 : Nat) : Int) from rfl, this, List.map_cons, Lib.join_cons]
  simp
theorem numbersText_l0 (H : List Int) (hH : ∀ i : Nat, i < H.length → 0 ≤ rd H (i : Int) ∧ rd H (i : Int) < 1000000) (h1 : 1 ≤ H.length) (hl : H.length ≤ 1000) :
    ∀ (d j : Nat), j + d = H.length → ∀ k, d < k → impl_numbersText.l0 k (⟨#[45]⟩ : ByteArray) ((H.take j).map fun x => txt (dec x)) H (H.length : Int) (j : Int) = some (txt (numText H)) := by
  intro d
  induction d with
  | zero =>
    intro j hj k hk
    obtain ⟨k, rfl⟩ : ∃ m, k = m + 1 := ⟨k - 1, by omega⟩
    simp only [impl_numbersText.l0]
    rw [if_neg (by omega), List.take_of_length_le (by omega)]
    have e : ((H.map fun x => txt (dec x)).map (·.data.toList)) = H.map dec := by
      rw [List.map_map]
      apply List.map_congr_left
      intro x _
      exact txt_list _
    have hb : (numText H).length ≤ 100000 := by
      unfold numText
      obtain ⟨x, t, rfl⟩ : ∃ x t, H = x :: t := by
        cases H with
        | nil => simp at h1
        | cons x t => exact ⟨x, t, rfl⟩
      rw [List.map_cons, Lib.join_length]
      have hz : ∀ l : List Int, (∀ y ∈ l, 0 ≤ y ∧ y < 1000000) → Lib.lens (l.map dec) ≤ 6 * l.length := by
        intro l
        induction l with
        | nil => intro _; simp [Lib.lens]
        | cons y l ih =>
          intro hy
          have a := dec_len y (hy y List.mem_cons_self)
          have b := ih (fun z hz => hy z (List.mem_cons_of_mem _ hz))
          simp only [List.map_cons, Lib.lens, List.length_cons] at b ⊢
          simp only [List.sum_cons, List.map_cons, List.foldr_cons] at b ⊢
          omega
      have hh := hz (x :: t) (fun y hy => by
        obtain ⟨i, hi, rfl⟩ := List.mem_iff_getElem.1 hy
        have := hH i hi
        rw [rd_get _ i hi] at this; omega)
      rw [List.map_cons] at hh
      simp at hl hh ⊢
      omega
    have hj2 : strings_Join.f (H.map fun x => txt (dec x)) (⟨#[45]⟩ : ByteArray) = some (txt (numText H)) := by
      unfold strings_Join.f
      rw [e]
      rw [if_pos ⟨by simpa using h1, by simp; omega, by
        have : (Lib.join (H.map dec) [45]).length ≤ 100000 := hb
        exact Nat.le_trans this (by omega)⟩]
      rfl
    rw [hj2]; rfl
  | succ d ih =>
    intro j hj k hk
    obtain ⟨k, rfl⟩ : ∃ m, k = m + 1 := ⟨k - 1, by omega⟩
    have hlt : j < H.length := by omega
    have h2 := hH j hlt
    simp only [impl_numbersText.l0]
    have hi : strconv_Itoa_23.f (rd H (j : Int)) = some (txt (dec (rd H (j : Int)))) := by
      unfold strconv_Itoa_23.f
      first
        | (rw [if_pos h2]; rfl)
        | (rw [if_pos ⟨by omega, by omega⟩]; unfold dec txt Lib.itoa; rw [if_neg (by omega)])
    rw [if_pos (by omega), if_pos (by omega), if_pos (by omega), hi, Option.bind_some, if_pos (by simp; omega), w64 (by omega) (by omega), show ((j : Int) + 1) = ((j + 1 : Nat) : Int) by omega]
    have := ih (j + 1) (by omega) k (by omega)
    rw [List.take_add_one, List.getElem?_eq_getElem hlt, ← rd_get H j hlt] at this
    simpa using this
end Go.Proofs.YtbgmdomoagcleaaDoor.Pu
