/- The program's BreakBoard answers as the reference's, for all arguments. -/
import Derived.Test.YteflfjbnddieeaaDoorPuYard
import Derived.Test.YteflfjbnddieeaaDoorPrint30
import Derived.Test.YteflfjbnddieeaaDoorPrint28
import Derived.Test.YteflfjbnddieeaaDoorPrint27
import Derived.Test.YteflfjbnddieeaaDoorPrint29
namespace Go.Proofs.YteflfjbnddieeaaDoor.Pure
open Go.RowKit Go.Proofs.YteflfjbnddieeaaDoor.Print Go.Proofs.YteflfjbnddieeaaDoorW.PrintWords Go.Proofs.YteflfjbnddieeaaDoorW.PrintLast Go.Proofs.YteflfjbnddieeaaDoor.Pu
set_option linter.unusedSimpArgs false
set_option linter.unusedVariables false
theorem repeat_one : strings_Repeat.f (⟨#[120]⟩ : ByteArray) 1 = some ⟨#[120]⟩ := by
  unfold strings_Repeat.f
  rw [if_pos ⟨by decide, by decide, by decide⟩]; rfl
/-- A yard with a board broken. -/
def broken1 (s : ByteArray) (b : Nat) : ByteArray := ((s.extract 0 b) ++ (⟨#[120]⟩ : ByteArray)) ++ (s.extract (b + 1) s.size)
theorem sizes (s : ByteArray) (b : Nat) (hs : s.size ≤ 30) (hb : b < s.size) : (s.extract 0 b).size = b ∧ (s.extract (b + 1) s.size).size ≤ 30 ∧ ((s.extract 0 b) ++ (⟨#[120]⟩ : ByteArray)).size = b + 1 := by
  have e1 : (s.extract 0 b).size = b := by rw [ByteArray.size_extract]; omega
  refine ⟨e1, by rw [ByteArray.size_extract]; omega, by rw [ByteArray.size_append, e1]; rfl⟩
theorem reBreak_eq (s : ByteArray) (b : Nat) (hs : s.size ≤ 30) (hb : b < s.size) : spec_reBreak.f s (b : Int) = some (broken1 s b) := by
  obtain ⟨e1, e2, e3⟩ := sizes s b hs hb
  unfold spec_reBreak.f
  rw [w64 (n := (b : Int) + 1) (by omega) (by omega), show ((b : Int) + 1).toNat = b + 1 by omega, Int.toNat_natCast, if_pos (by omega), if_pos (by omega), if_pos (by rw [e1]; omega), if_pos (by omega), if_pos (by omega), if_pos (by rw [e3]; omega)]
  rfl
theorem withBoards_eq (s : ByteArray) (b : Nat) (hs : s.size ≤ 30) (hb : b < s.size) : impl_withBoards.f s (b : Int) (b : Int) (⟨#[120]⟩ : ByteArray) = some (broken1 s b) := by
  obtain ⟨e1, e2, e3⟩ := sizes s b hs hb
  unfold impl_withBoards.f
  rw [w64 (n := (b : Int) + 1) (by omega) (by omega), w64 (n := (b : Int) - b) (by omega) (by omega), w64 (n := (b : Int) - b + 1) (by omega) (by omega), show (b : Int) - b + 1 = 1 by omega, show ((b : Int) + 1).toNat = b + 1 by omega, Int.toNat_natCast, if_pos (by omega), if_pos (by omega), repeat_one, Option.bind_some, if_pos (by rw [e1, show (⟨#[120]⟩ : ByteArray).size = 1 from rfl]; omega), if_pos (by omega), if_pos (by omega), if_pos (by rw [e3]; omega)]
  rfl
theorem breakBoard_both (s : ByteArray) (b : Int) : ∃ p : ByteArray × Bool, spec_BreakBoard.f 100 s b = some p ∧ impl_BreakBoard.f s b = some p := by
  unfold spec_BreakBoard.f impl_BreakBoard.f spec_reBoard.f
  rw [reGood_eq s 100 (by omega), isYard_eq]
  cases h : yardOk s with
  | false => exact ⟨(⟨#[]⟩, false), rfl, rfl⟩
  | true =>
    have hs := yard_size h
    rw [w64 (by omega) (by omega), within_eq, l1In_eq]
    by_cases hb : 0 ≤ b ∧ b ≤ (s.size : Int) - 1
    · obtain ⟨b, rfl⟩ := Int.eq_ofNat_of_zero_le hb.1
      have hlt : (b : Int) < (s.size : Int) := by omega
      have hlt2 : b < s.size := by omega
      rw [decide_eq_true hb]
      simp only [Option.bind_some, if_true]
      rw [if_pos hb.1, if_pos hlt, if_pos hb.1, if_pos hlt, reBreak_eq s b hs.2 hlt2, withBoards_eq s b hs.2 hlt2]
      by_cases hx : bt s (b : Int) = 120
      · rw [if_pos hx]; exact ⟨_, rfl, rfl⟩
      · rw [if_neg hx]; exact ⟨_, rfl, rfl⟩
    · rw [decide_eq_false hb]; exact ⟨(⟨#[]⟩, false), rfl, rfl⟩
theorem FnExactBreakBoard : laws_FnExactBreakBoard.Pure := by
  intro s b _ _
  refine ⟨100, ?_⟩
  unfold laws_FnExactBreakBoard.f
  by_cases e : (s.size : Int) > 1048576
  · rw [if_pos e]
  · obtain ⟨p, h1, h2⟩ := breakBoard_both s b
    rw [if_neg e, h1, h2]
    simp
end Go.Proofs.YteflfjbnddieeaaDoor.Pure
