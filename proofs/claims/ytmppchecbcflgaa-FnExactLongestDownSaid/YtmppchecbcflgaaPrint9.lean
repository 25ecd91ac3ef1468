-- PRINTED by print.py (a twelfth state) out of the translation. Not trusted: Lean checks it.
import Derived.Test.YtmppchecbcflgaaPrint0
namespace Go.Proofs.Ytmppchecbcflgaa.Print
open Go.RowKit Go.Proofs.YtmppchecbcflgaaW.PrintWords Go.Proofs.YtmppchecbcflgaaW.PrintLast Go.Proofs.YtmppchecbcflgaaW.PrintMore
attribute [local go_sem] max2_int min2_int max_two min_two max_three min_three max_four min_four   -- for this text's walks alone
set_option linter.unusedVariables false
set_option linter.unusedSimpArgs false

/-! ### impl_LongestDown_1: function 45 -/
def impl_LongestDown_1.f (a0 : Int) (a1 : Int) (a2 : Int) (l3 : List Int) : Option (Bool) := if (wrap64 (a1 - a0)) ≤ a2 then (if 0 ≤ a1 then (if a1 < (l3.length : Int) then (if 0 ≤ a0 then (if a0 < (l3.length : Int) then (some (decide ((rd l3 a1) < (rd l3 a0)))) else (none)) else (none)) else (none)) else (none)) else (some false)
set_option maxHeartbeats 8000000 in
set_option maxRecDepth 100000 in
theorem impl_LongestDown_1.calls (a0 : Int) (a1 : Int) (a2 : Int) (A3 : Option Addr) (c3 : Nat) (l3 : List Int) (r : Bool) (w : World) (B2 : Nat) (B3 : Nat) (hb2 : w.heap[B2]? = some (.cells #[.int .i64 a2] 3 (0, 0))) (hb3 : w.heap[B3]? = some (.cells #[.slice A3 l3.length c3] 22 (0, 0))) (hr3 : Kd.C (Kd.int .i64) w A3 l3.length l3) (hc3 : l3.length ≤ c3) (h : impl_LongestDown_1.f a0 a1 a2 l3 = some r) :
    Calls Try.prog 45 #[.int .i64 a0, .int .i64 a1, .pointer (some ⟨B2, 0, none⟩), .pointer (some ⟨B3, 0, none⟩)] w fun e w' => e = .returned (.bool r) ∧ Drawn0 w w' := by
  have HR3 := Aside0.mk hr3
  have HC3 := Aside0.mk hc3
  clear hr3 hc3
  have BK62 := Aside0.mk hb2
  clear hb2
  have BK63 := Aside0.mk hb3
  clear hb3
  have H : (if (wrap64 (a1 - a0)) ≤ a2 then (if 0 ≤ a1 then (if a1 < (l3.length : Int) then (if 0 ≤ a0 then (if a0 < (l3.length : Int) then (some (decide ((rd l3 a1) < (rd l3 a0)))) else (none)) else (none)) else (none)) else (none)) else (some false)) = some r := h
  clear h
  by_cases c5 : (wrap64 (a1 - a0)) ≤ a2
  · rw [if_pos c5] at H
    have c5b0 : decide ((wrap64 (a1 - a0)) ≤ a2) = true := decide_eq_true c5
    clear c5
    by_cases c6 : 0 ≤ a1
    · rw [if_pos c6] at H
      have c6b0 : decide (0 ≤ a1) = true := decide_eq_true c6
      clear c6
      by_cases c7 : a1 < (l3.length : Int)
      · rw [if_pos c7] at H
        have c7b0 : decide (a1 < (l3.length : Int)) = true := decide_eq_true c7
        clear c7
        by_cases c8 : 0 ≤ a0
        · rw [if_pos c8] at H
          have c8b0 : decide (0 ≤ a0) = true := decide_eq_true c8
          clear c8
          by_cases c9 : a0 < (l3.length : Int)
          · rw [if_pos c9] at H
            have c9b0 : decide (a0 < (l3.length : Int)) = true := decide_eq_true c9
            clear c9
            obtain rfl := Option.some.inj H
            have hcz10_0 : w.cell? ⟨B2, 0, none⟩ = some (.int .i64 a2) := (blk_cell BK62.out 0).trans rfl
            have hfz10_0 := blk_frozen BK62.out 0
            have hcz11_0 : w.cell? ⟨B3, 0, none⟩ = some (.slice A3 l3.length c3) := (blk_cell BK63.out 0).trans rfl
            have hfz11_0 := blk_frozen BK63.out 0
            have p152 : 0 ≤ (a1 : Int) := of_decide_eq_true (by first | (with_reducible assumption) | assumption)
            have q152 : a1 < (l3.length : Int) := of_decide_eq_true (by first | (with_reducible assumption) | assumption)
            obtain ⟨ad152, e152, hx152_0⟩ := Kd.at_int HR3.out a1 p152 q152
            cases e152
            replace p152 := eq_true p152
            replace q152 := eq_true q152
            have p153 : 0 ≤ (a0 : Int) := of_decide_eq_true (by first | (with_reducible assumption) | assumption)
            have q153 : a0 < (l3.length : Int) := of_decide_eq_true (by first | (with_reducible assumption) | assumption)
            obtain ⟨ad153, e153, hx153_0⟩ := Kd.at_int HR3.out a0 p153 q153
            obtain rfl : ad152 = ad153 := (by injection e153)
            replace p153 := eq_true p153
            replace q153 := eq_true q153
            go_enter Try.func45, Try.ntmps45
            go_wp2
            repeat (go_quiet (fail); try go_wp2)
            go_ret
            exact ⟨by first | rfl | (simp; done) | (simp [*]; done), by repeat (first | exact Drawn0.refl _ | apply Drawn0.step)⟩
          · rw [if_neg c9] at H
            exact absurd H (by simp)
        · rw [if_neg c8] at H
          exact absurd H (by simp)
      · rw [if_neg c7] at H
        exact absurd H (by simp)
    · rw [if_neg c6] at H
      exact absurd H (by simp)
  · rw [if_neg c5] at H
    have c5b0 : decide ((wrap64 (a1 - a0)) ≤ a2) = false := decide_eq_false c5
    clear c5
    obtain rfl := Option.some.inj H
    have hcz12_0 : w.cell? ⟨B2, 0, none⟩ = some (.int .i64 a2) := (blk_cell BK62.out 0).trans rfl
    have hfz12_0 := blk_frozen BK62.out 0
    go_enter Try.func45, Try.ntmps45
    go_wp2
    repeat (go_quiet (fail); try go_wp2)
    go_ret
    exact ⟨by first | rfl | (simp; done) | (simp [*]; done), by repeat (first | exact Drawn0.refl _ | apply Drawn0.step)⟩
def impl_LongestDown_1.p (a2 : Int) (l3 : List Int) : (Int → Int → Option Bool) := fun x0 x1 => impl_LongestDown_1.f x0 x1 a2 l3
theorem impl_LongestDown_1.ok (w : World) (B2 : Nat) (B3 : Nat) (a2 : Int) (A3 : Option Addr) (c3 : Nat) (l3 : List Int) (hb2 : w.heap[B2]? = some (.cells #[.int .i64 a2] 3 (0, 0))) (hb3 : w.heap[B3]? = some (.cells #[.slice A3 l3.length c3] 22 (0, 0))) (hr3 : Kd.C (Kd.int .i64) w A3 l3.length l3) (hc3 : l3.length ≤ c3) : FnOk45 45 #[.pointer (some ⟨B2, 0, none⟩), .pointer (some ⟨B3, 0, none⟩)] (impl_LongestDown_1.p a2 l3) w :=
  ⟨enters_of Try.func45 (by kernel_rfl) rfl, fun W x0 x1 r hb_ hr_ => (impl_LongestDown_1.calls x0 x1 a2 A3 c3 l3 r W B2 B3 (blk_below hb2 hb_) (blk_below hb3 hb_) (Kd.C_below hr3 hb_) hc3 hr_).mono fun e w' ⟨he_, hd_⟩ => ⟨he_, hd_.below⟩⟩
theorem impl_LongestDown_1.callB (a0 : Int) (a1 : Int) (a2 : Int) (A3 : Option Addr) (c3 : Nat) (l3 : List Int) (r : Bool) (w : World) (B2 : Nat) (B3 : Nat) (hb2 : w.heap[B2]? = some (.cells #[.int .i64 a2] 3 (0, 0))) (hb3 : w.heap[B3]? = some (.cells #[.slice A3 l3.length c3] 22 (0, 0))) (hr3 : Kd.C (Kd.int .i64) w A3 l3.length l3) (hc3 : l3.length ≤ c3) (h : (impl_LongestDown_1.p a2 l3) a0 a1 = some r) : Calls Try.prog 45 #[.int .i64 a0, .int .i64 a1, .pointer (some ⟨B2, 0, none⟩), .pointer (some ⟨B3, 0, none⟩)] w fun e w' => e = .returned (.bool r) ∧ Below w.heap.size w w' :=
  (impl_LongestDown_1.calls a0 a1 a2 A3 c3 l3 r w B2 B3 hb2 hb3 hr3 hc3 h).mono fun e w' ⟨he_, hd_⟩ => ⟨he_, hd_.below⟩

end Go.Proofs.Ytmppchecbcflgaa.Print
