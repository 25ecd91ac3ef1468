/- The program's MirrorYard answers as the reference's, for all texts. -/
import Derived.Test.YteflfjbnddieeaaDoorPuYard
import Derived.Test.YteflfjbnddieeaaDoorPrint6
import Derived.Test.YteflfjbnddieeaaDoorPrint4
namespace Go.Proofs.YteflfjbnddieeaaDoor.Pure
open Go.RowKit Go.Proofs.YteflfjbnddieeaaDoor.Print Go.Proofs.YteflfjbnddieeaaDoorW.PrintWords Go.Proofs.YteflfjbnddieeaaDoorW.PrintLast Go.Proofs.YteflfjbnddieeaaDoor.Pu
set_option linter.unusedSimpArgs false
set_option linter.unusedVariables false
/-- A text of bytes. -/
def txt (l : List UInt8) : ByteArray := ⟨l.toArray⟩
theorem txt_append (a b : List UInt8) : txt a ++ txt b = txt (a ++ b) := by
  apply ByteArray.ext
  rw [ByteArray.data_append]
  apply Array.ext'
  simp [txt]
theorem txt_size (a : List UInt8) : (txt a).size = a.length := by
  unfold txt ByteArray.size
  simp
theorem list_len (s : ByteArray) : s.data.toList.length = s.size := Array.length_toList
theorem extract_one (s : ByteArray) (i : Nat) (h : i < s.data.toList.length) : s.extract i (i + 1) = txt [s.data.toList[i]] := by
  apply ByteArray.ext
  rw [ByteArray.data_extract]
  apply Array.ext'
  rw [Array.toList_extract]
  unfold txt
  simp only [List.extract_eq_take_drop]
  rw [show i + 1 - i = 1 by omega, List.drop_eq_getElem_cons h]
  rfl
theorem mirror_l0 (s : ByteArray) (hs : s.size ≤ 1000) : ∀ (i : Nat), i ≤ s.size → ∀ k, i < k → spec_MirrorYard.l0 k s (txt ((s.data.toList.drop i).reverse)) ((i : Int) - 1) = some (txt s.data.toList.reverse, true) := by
  have hl := list_len s
  intro i
  induction i with
  | zero =>
    intro _ k hk
    obtain ⟨k, rfl⟩ : ∃ m, k = m + 1 := ⟨k - 1, by omega⟩
    simp only [spec_MirrorYard.l0]
    rw [if_neg (by omega), List.drop_zero]
  | succ i ih =>
    intro hi k hk
    obtain ⟨k, rfl⟩ : ∃ m, k = m + 1 := ⟨k - 1, by omega⟩
    have hlt : i < s.data.toList.length := by omega
    have e : (s.data.toList.drop (i + 1)).reverse ++ [s.data.toList[i]] = (s.data.toList.drop i).reverse := by
      rw [List.drop_eq_getElem_cons hlt, List.reverse_cons]
    simp only [spec_MirrorYard.l0]
    rw [show ((i + 1 : Nat) : Int) - 1 = (i : Int) by omega, w64 (n := (i : Int) + 1) (by omega) (by omega), w64 (n := (i : Int) - 1) (by omega) (by omega), show ((i : Int) + 1).toNat = i + 1 by omega, Int.toNat_natCast, extract_one s i hlt, txt_append, e, if_pos (by omega), if_pos (by omega), if_pos (by omega), if_pos (by omega), if_pos (by rw [txt_size, txt_size]; simp; omega)]
    exact ih (by omega) k (by omega)
theorem mirrored_eq (s : ByteArray) (hs : 1 ≤ s.size ∧ s.size ≤ 30) : impl_mirrored.f s = some (txt s.data.toList.reverse) := by
  unfold impl_mirrored.f
  rw [if_pos ⟨hs.1, by omega⟩]
  congr 1
  unfold strOfNums bytesOf txt
  rw [← List.map_reverse, List.map_map]
  congr 2
  have : ∀ l : List UInt8, l.map (fun b => UInt8.ofNat ((b.toNat : Int)).toNat) = l := by
    intro l
    induction l with
    | nil => rfl
    | cons b t ih => rw [List.map_cons, ih]; simp
  first
    | exact this _
    | (conv => rhs; rw [← this s.data.toList.reverse]
       apply List.map_congr_left; intro b _; simp)
theorem mirrorYard_both (s : ByteArray) : ∃ p : ByteArray × Bool, spec_MirrorYard.f 200 s = some p ∧ impl_MirrorYard.f s = some p := by
  unfold spec_MirrorYard.f impl_MirrorYard.f
  rw [reGood_eq s 200 (by omega), isYard_eq]
  cases h : yardOk s with
  | false => exact ⟨(⟨#[]⟩, false), rfl, rfl⟩
  | true =>
    have hs := yard_size h
    have hl := list_len s
    refine ⟨(txt s.data.toList.reverse, true), ?_, ?_⟩
    · simp only [Option.bind_some, if_true]
      rw [w64 (by omega) (by omega)]
      have := mirror_l0 s (by omega) s.size (Nat.le_refl _) 200 (by omega)
      rw [List.drop_of_length_le (by omega)] at this
      exact this
    · simp only [Option.bind_some, if_true]
      rw [mirrored_eq s hs]; rfl
theorem FnExactMirrorYard : laws_FnExactMirrorYard.Pure := by
  intro s _
  refine ⟨200, ?_⟩
  unfold laws_FnExactMirrorYard.f
  by_cases e : (s.size : Int) > 1048576
  · rw [if_pos e]
  · obtain ⟨p, h1, h2⟩ := mirrorYard_both s
    rw [if_neg e, h1, h2]
    simp
end Go.Proofs.YteflfjbnddieeaaDoor.Pure
