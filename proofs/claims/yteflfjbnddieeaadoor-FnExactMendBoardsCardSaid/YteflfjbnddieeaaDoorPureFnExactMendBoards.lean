/- The program's MendBoards answers as the reference's, for all arguments. -/
import Derived.Test.YteflfjbnddieeaaDoorPuYard
import Derived.Test.YteflfjbnddieeaaDoorPrint32
import Derived.Test.YteflfjbnddieeaaDoorPrint31
import Derived.Test.YteflfjbnddieeaaDoorPrint27
import Derived.Test.YteflfjbnddieeaaDoorPrint29
import Derived.Test.YteflfjbnddieeaaDoorPrint28
namespace Go.Proofs.YteflfjbnddieeaaDoor.Pure
open Go.RowKit Go.Proofs.YteflfjbnddieeaaDoor.Print Go.Proofs.YteflfjbnddieeaaDoorW.PrintWords Go.Proofs.YteflfjbnddieeaaDoorW.PrintLast Go.Proofs.YteflfjbnddieeaaDoor.Pu
set_option linter.unusedSimpArgs false
set_option linter.unusedVariables false
/-- So many sound boards. -/
def sounds (n : Nat) : ByteArray := ⟨(List.replicate n (111 : UInt8)).toArray⟩
theorem sounds_size (n : Nat) : (sounds n).size = n := by simp [sounds, ByteArray.size]
theorem repeatL_one (n : Nat) : Lib.repeatL [111] n = List.replicate n (111 : UInt8) := by
  induction n with
  | zero => rfl
  | succ n ih => rw [Lib.repeatL, ih]; rfl
theorem repeat_sounds (n : Nat) (h : n ≤ 100) : strings_Repeat.f (⟨#[111]⟩ : ByteArray) (n : Int) = some (sounds n) := by
  unfold strings_Repeat.f
  rw [if_pos ⟨by omega, by omega, by rw [show (⟨#[111]⟩ : ByteArray).size = 1 from rfl]; omega⟩, Int.toNat_natCast]
  congr 1
  unfold sounds
  rw [show (⟨#[111]⟩ : ByteArray).data.toList = [111] from rfl, repeatL_one]
theorem sounds_cons (a : ByteArray) (n : Nat) : (a ++ (⟨#[111]⟩ : ByteArray)) ++ sounds n = a ++ sounds (n + 1) := by
  rw [ByteArray.append_assoc]
  congr 1
theorem mend_l0 (s : ByteArray) (hs : s.size ≤ 30) (t : Nat) (ht : t < s.size) : ∀ (d i : Nat) (a : ByteArray), i + d = t + 1 → a.size + d ≤ 100 → ∀ k, d < k → spec_MendBoards.l0 k s (t : Int) a (i : Int) = some ((a ++ sounds d) ++ s.extract (t + 1) s.size, true) := by
  intro d
  induction d with
  | zero =>
    intro i a hi ha k hk
    obtain ⟨k, rfl⟩ : ∃ m, k = m + 1 := ⟨k - 1, by omega⟩
    have e2 : (s.extract (t + 1) s.size).size ≤ 30 := by rw [ByteArray.size_extract]; omega
    simp only [spec_MendBoards.l0]
    rw [if_neg (by omega), w64 (by omega) (by omega), show ((t : Int) + 1).toNat = t + 1 by omega, if_pos (by omega), if_pos (by omega), if_pos (by omega)]
    have e : a ++ sounds 0 = a := by apply ByteArray.ext; rw [ByteArray.data_append]; apply Array.ext'; simp [sounds]
    rw [e]
  | succ d ih =>
    intro i a hi ha k hk
    obtain ⟨k, rfl⟩ : ∃ m, k = m + 1 := ⟨k - 1, by omega⟩
    simp only [spec_MendBoards.l0]
    rw [if_pos (by omega), if_pos (by omega), w64 (by omega) (by omega), show ((i : Int) + 1) = ((i + 1 : Nat) : Int) by omega, ih (i + 1) _ (by omega) (by rw [ByteArray.size_append, show (⟨#[111]⟩ : ByteArray).size = 1 from rfl]; omega) k (by omega), sounds_cons]
theorem mendBoards_both (s : ByteArray) (f t : Int) : ∃ p : ByteArray × Bool, spec_MendBoards.f 200 s f t = some p ∧ impl_MendBoards.f s f t = some p := by
  unfold spec_MendBoards.f impl_MendBoards.f spec_reBoard.f
  rw [reGood_eq s 200 (by omega), isYard_eq]
  cases h : yardOk s with
  | false => exact ⟨(⟨#[]⟩, false), by simp [spec_MendBoards.j0], rfl⟩
  | true =>
    have hs := yard_size h
    rw [w64 (by omega) (by omega), within_eq, l1In_eq]
    by_cases hb : 0 ≤ t ∧ t ≤ (s.size : Int) - 1
    · rw [decide_eq_true hb]
      simp only [Option.bind_some, if_true, l1In_eq, within_eq]
      by_cases hf : 0 ≤ f ∧ f ≤ t
      · rw [decide_eq_true hf]
        obtain ⟨t, rfl⟩ := Int.eq_ofNat_of_zero_le hb.1
        obtain ⟨f, rfl⟩ := Int.eq_ofNat_of_zero_le hf.1
        have e1 : (s.extract 0 f).size = f := by rw [ByteArray.size_extract]; omega
        have e2 : (s.extract (t + 1) s.size).size ≤ 30 := by rw [ByteArray.size_extract]; omega
        have e3 : ((s.extract 0 f) ++ sounds (t + 1 - f)).size = t + 1 := by rw [ByteArray.size_append, e1, sounds_size]; omega
        simp only [spec_MendBoards.j0, Bool.not_true, Bool.false_eq_true, if_false, if_true]
        unfold impl_withBoards.f
        rw [if_pos (by omega), if_pos (by omega), if_pos (by omega), if_pos (by omega), w64 (n := (t : Int) - f) (by omega) (by omega), w64 (n := (t : Int) - f + 1) (by omega) (by omega), show (t : Int) - f + 1 = ((t + 1 - f : Nat) : Int) by omega, repeat_sounds _ (by omega), w64 (n := (t : Int) + 1) (by omega) (by omega), show ((t : Int) + 1).toNat = t + 1 by omega, Int.toNat_natCast]
        simp only [Option.bind_some]
        rw [if_pos (by rw [e1, sounds_size]; omega), if_pos (by omega), if_pos (by omega), if_pos (by rw [e3]; omega)]
        exact ⟨_, mend_l0 s hs.2 t (by omega) (t + 1 - f) f _ (by omega) (by rw [e1]; omega) 199 (by omega), rfl⟩
      · rw [decide_eq_false hf]
        exact ⟨(⟨#[]⟩, false), by simp [spec_MendBoards.j0], rfl⟩
    · rw [decide_eq_false hb]
      exact ⟨(⟨#[]⟩, false), by simp [spec_MendBoards.j0], rfl⟩
theorem FnExactMendBoards : laws_FnExactMendBoards.Pure := by
  intro s f t _ _ _
  refine ⟨200, ?_⟩
  unfold laws_FnExactMendBoards.f
  by_cases e : (s.size : Int) > 1048576
  · rw [if_pos e]
  · obtain ⟨p, h1, h2⟩ := mendBoards_both s f t
    rw [if_neg e, h1, h2]
    simp
end Go.Proofs.YteflfjbnddieeaaDoor.Pure
