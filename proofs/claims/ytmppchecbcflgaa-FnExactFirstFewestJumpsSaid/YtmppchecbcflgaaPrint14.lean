-- PRINTED by print.py (a twelfth state) out of the translation. Not trusted: Lean checks it.
import Derived.Test.YtmppchecbcflgaaPrint0
import Derived.Test.YtmppchecbcflgaaPrint2
import Derived.Test.YtmppchecbcflgaaPrint8
import Derived.Test.YtmppchecbcflgaaPrint13
namespace Go.Proofs.Ytmppchecbcflgaa.Print
open Go.RowKit Go.Proofs.YtmppchecbcflgaaW.PrintWords Go.Proofs.YtmppchecbcflgaaW.PrintLast Go.Proofs.YtmppchecbcflgaaW.PrintMore
attribute [local go_sem] max2_int min2_int max_two min_two max_three min_three max_four min_four   -- for this text's walks alone
set_option linter.unusedVariables false
set_option linter.unusedSimpArgs false

/-! ### spec_LeastClimb: function 16 -/
def spec_LeastClimb.f (k : Nat) (l0 : List Int) (a1 : Int) : Option (Int × Bool) := (spec_caReach.f k l0 a1).bind fun t209 => (if t209 = true then ((spec_caLeft.f k l0 a1 50 false).bind fun t210 => (if 0 < (t210.length : Int) then (some (rd t210 0, true)) else (none))) else (some (0, false)))
theorem spec_LeastClimb.mono : ∀ a0 a1 k, LeO (spec_LeastClimb.f k a0 a1) (spec_LeastClimb.f (k + 1) a0 a1) := by
  intro a0 a1 k
  unfold spec_LeastClimb.f
  repeat' first
      | (with_reducible exact spec_caLeft.mono _ _ _ _ _)
      | (with_reducible exact spec_caReach.mono _ _ _)
      | (with_reducible exact LeO.refl _)
      | (with_reducible exact LeO.none _)
      | (with_reducible refine LeO.ite ?_ ?_)
      | (with_reducible refine LeO.bind ?_ (fun _ => ?_))
      | exact spec_caLeft.mono _ _ _ _ _
      | exact spec_caReach.mono _ _ _
      | exact LeO.none _
      | refine LeO.ite ?_ ?_
      | refine LeO.bind ?_ (fun _ => ?_)
set_option maxHeartbeats 8000000 in
set_option maxRecDepth 100000 in
theorem spec_LeastClimb.calls (k : Nat) (A0 : Option Addr) (c0 : Nat) (l0 : List Int) (a1 : Int) (r1 : Int) (r2 : Bool) (w : World) (hr0 : Kd.C (Kd.int .i64) w A0 l0.length l0) (hc0 : l0.length ≤ c0) (h : spec_LeastClimb.f k l0 a1 = some (r1, r2)) :
    Calls Try.prog 16 #[.slice A0 l0.length c0, .int .i64 a1] w fun e w' => e = .returned (.tuple #[.int .i64 r1, .bool r2]) ∧ Below w.heap.size w w' := by
  have HR0 := Aside0.mk hr0
  have HC0 := Aside0.mk hc0
  clear hr0 hc0
  have HB := Aside0.mk (Below.refl w.heap.size w)
  have H : ((spec_caReach.f k l0 a1).bind fun t209 => (if t209 = true then ((spec_caLeft.f k l0 a1 50 false).bind fun t210 => (if 0 < (t210.length : Int) then (some (rd t210 0, true)) else (none))) else (some (0, false)))) = some (r1, r2) := h
  clear h
  replace H := Option.bind_eq_some_iff.mp H
  obtain ⟨t209, A30, H⟩ := H
  replace H : (if t209 = true then ((spec_caLeft.f k l0 a1 50 false).bind fun t210 => (if 0 < (t210.length : Int) then (some (rd t210 0, true)) else (none))) else (some (0, false))) = some (r1, r2) := H
  have A3 := Aside0.mk A30
  clear A30
  by_cases c4 : t209 = true
  · subst c4
    have H1 : ((spec_caLeft.f k l0 a1 50 false).bind fun t210 => (if 0 < (t210.length : Int) then (some (rd t210 0, true)) else (none))) = some (r1, r2) := by rw [if_pos rfl] at H; exact H
    clear H
    have H := H1
    clear H1
    replace H := Option.bind_eq_some_iff.mp H
    obtain ⟨t210, A50, H⟩ := H
    replace H : (if 0 < (t210.length : Int) then (some (rd t210 0, true)) else (none)) = some (r1, r2) := H
    have A5 := Aside0.mk A50
    clear A50
    by_cases c6 : 0 < (t210.length : Int)
    · rw [if_pos c6] at H
      have c6b0 : decide (0 < (t210.length : Int)) = true := decide_eq_true c6
      have c6b1 : decide (0 < t210.length) = true := decide_eq_true (by omega)
      clear c6
      simp only [Option.some.injEq, Prod.mk.injEq] at H
      obtain ⟨rfl, rfl⟩ := H
      go_enter Try.func16, Try.ntmps16
      go_wp2_with (first | ((with_reducible refine gate_callee (f := 39) rfl ?_); refine goesL_ (some 8) rfl rfl Try.func39 (by kernel_rfl) rfl #[.slice A0 l0.length c0, .int .i64 a1] rfl (by (try simp only [List.map_toArray, List.map_cons, List.map_nil]); first | done | rfl | (simp only [List.length_drop, List.length_take]; rfl)) ?_; (with_reducible refine (spec_caReach.calls k _ _ l0 a1 true _ ?side1 ?side2 A3.out).mono ?_); (case side1 => repeat (first | exact HR0.out | (with_reducible refine Kd.C_alloc ?_ _) | (with_reducible refine Kd.C_drewN ?_ _) | (with_reducible refine Kd.C_drew ?_))); (case side2 => exact HC0.out); rintro e w' ⟨rfl, ⟨nd, rfl⟩⟩; refine ⟨_, rfl, ?_⟩) | ((with_reducible refine gate_callee (f := 40) rfl ?_); refine goesL_ (some 12) rfl rfl Try.func40 (by kernel_rfl) rfl #[.slice A0 l0.length c0, .int .i64 a1, .int .i64 50, .bool false] rfl (by (try simp only [List.map_toArray, List.map_cons, List.map_nil]); first | done | rfl | (simp only [List.length_drop, List.length_take]; rfl)) ?_; (with_reducible refine (spec_caLeft.calls k _ _ l0 a1 50 false t210 _ ?side1 ?side2 A5.out).mono ?_); (case side1 => repeat (first | exact HR0.out | (with_reducible refine Kd.C_alloc ?_ _) | (with_reducible refine Kd.C_drewN ?_ _) | (with_reducible refine Kd.C_drew ?_))); (case side2 => exact HC0.out); rintro e w7 ⟨v211, rfl, ho0, hb⟩; refine ⟨_, rfl, ?_⟩; have n0_ := Aside0.mk (Kd.R_lower ho0 (below_size (by repeat (first | (with_reducible first | exact HB.out | apply below_alloc | apply pw_below_drewN | apply below_drew1) | exact HB.out)))); have n1_ := Aside0.mk (below_step (by repeat (first | (with_reducible first | exact HB.out | apply below_alloc | apply pw_below_drewN | apply below_drew1) | exact HB.out)) hb); clear HB; have HO212 := n0_; have HB := n1_; clear n0_ n1_; (try clear hb); (try clear hb2); (try clear hk); (try clear hi); (try clear hftr); (try clear ho0); obtain ⟨Ao8, co8, eo8⟩ := Kd.R_slice HO212.out; subst eo8; have p213 : 0 ≤ (0 : Int) := (by omega); have q213 : 0 < (t210.length : Int) := of_decide_eq_true (by first | (with_reducible assumption) | assumption); obtain ⟨ad213, e213, hx213_0⟩ := Kd.at_int (Kd.R_reads' HO212.out).2.2 0 p213 q213; cases e213; have qi213 : (0 < t210.length) = True := eq_true (by omega); (try rw [show ((0 : Int)).toNat = 0 from rfl] at hx213_0); (try rw [Addr.add_zero'] at hx213_0); replace p213 := eq_true p213; replace q213 := eq_true q213))
      go_ret2
      exact ⟨by first | rfl | (simp [errW_none, errW_some] <;> rfl) | (simp [*, errW_none, errW_some] <;> rfl), by repeat (first | (with_reducible first | exact HB.out | apply below_alloc | apply pw_below_drewN | apply below_drew1) | exact HB.out)⟩
    · rw [if_neg c6] at H
      exact absurd H (by simp)
  · replace c4 := Bool.eq_false_iff.mpr c4
    subst c4
    have H1 : (some (0, false)) = some (r1, r2) := by rw [if_neg (show ¬ (false = true) by decide)] at H; exact H
    clear H
    have H := H1
    clear H1
    simp only [Option.some.injEq, Prod.mk.injEq] at H
    obtain ⟨rfl, rfl⟩ := H
    go_enter Try.func16, Try.ntmps16
    go_wp2_with (first | ((with_reducible refine gate_callee (f := 39) rfl ?_); refine goesL_ (some 8) rfl rfl Try.func39 (by kernel_rfl) rfl #[.slice A0 l0.length c0, .int .i64 a1] rfl (by (try simp only [List.map_toArray, List.map_cons, List.map_nil]); first | done | rfl | (simp only [List.length_drop, List.length_take]; rfl)) ?_; (with_reducible refine (spec_caReach.calls k _ _ l0 a1 false _ ?side1 ?side2 A3.out).mono ?_); (case side1 => repeat (first | exact HR0.out | (with_reducible refine Kd.C_alloc ?_ _) | (with_reducible refine Kd.C_drewN ?_ _) | (with_reducible refine Kd.C_drew ?_))); (case side2 => exact HC0.out); rintro e w' ⟨rfl, ⟨nd, rfl⟩⟩; refine ⟨_, rfl, ?_⟩))
    go_ret2
    exact ⟨by first | rfl | (simp [errW_none, errW_some] <;> rfl) | (simp [*, errW_none, errW_some] <;> rfl), by repeat (first | (with_reducible first | exact HB.out | apply below_alloc | apply pw_below_drewN | apply below_drew1) | exact HB.out)⟩

-- NOT PRINTED: function 59 (impl_climber_1)

/-! ### impl_climber_1: function 59 -/
def impl_climber_1.f (a0 : Int) (a1 : Int) (l2 : List Int) : Option (Int) := (impl_climbs.f l2 a0 a1).bind fun t214 => (some t214)
set_option maxHeartbeats 8000000 in
set_option maxRecDepth 100000 in
theorem impl_climber_1.calls (a0 : Int) (a1 : Int) (A2 : Option Addr) (c2 : Nat) (l2 : List Int) (r : Int) (w : World) (B2 : Nat) (hb2 : w.heap[B2]? = some (.cells #[.slice A2 l2.length c2] 22 (0, 0))) (hr2 : Kd.C (Kd.int .i64) w A2 l2.length l2) (hc2 : l2.length ≤ c2) (h : impl_climber_1.f a0 a1 l2 = some r) :
    Calls Try.prog 59 #[.int .i64 a0, .int .i64 a1, .pointer (some ⟨B2, 0, none⟩)] w fun e w' => e = .returned (.int .i64 r) ∧ Below w.heap.size w w' := by
  have HR2 := Aside0.mk hr2
  have HC2 := Aside0.mk hc2
  clear hr2 hc2
  have BK62 := Aside0.mk hb2
  clear hb2
  have HB := Aside0.mk (Below.refl w.heap.size w)
  have H : ((impl_climbs.f l2 a0 a1).bind fun t214 => (some t214)) = some r := h
  clear h
  replace H := Option.bind_eq_some_iff.mp H
  obtain ⟨t214, A40, H⟩ := H
  replace H : (some t214) = some r := H
  have A4 := Aside0.mk A40
  clear A40
  obtain rfl := Option.some.inj H
  have hcz5_0 : w.cell? ⟨B2, 0, none⟩ = some (.slice A2 l2.length c2) := (blk_cell BK62.out 0).trans rfl
  have hfz5_0 := blk_frozen BK62.out 0
  go_enter Try.func59, Try.ntmps59
  go_wp2_with (first | ((with_reducible refine gate_callee (f := 60) rfl ?_); refine goesL_ (some 9) rfl rfl Try.func60 (by kernel_rfl) rfl #[.slice A2 l2.length c2, .int .i64 a0, .int .i64 a1] rfl (by (try simp only [List.map_toArray, List.map_cons, List.map_nil]); first | done | rfl | (simp only [List.length_drop, List.length_take]; rfl)) ?_; (with_reducible refine (impl_climbs.calls _ _ l2 a0 a1 t214 _ ?side1 ?side2 A4.out).mono ?_); (case side1 => repeat (first | exact HR2.out | (with_reducible refine Kd.C_alloc ?_ _) | (with_reducible refine Kd.C_drewN ?_ _) | (with_reducible refine Kd.C_drew ?_))); (case side2 => exact HC2.out); rintro e w6 ⟨rfl, hb⟩; refine ⟨_, rfl, ?_⟩; have n0_ := Aside0.mk (blk_below (g := B2) (o := .cells #[.slice A2 l2.length c2] 22 (0, 0)) (by (with_reducible repeat (first | refine blk_drewN ?_ _ | refine blk_drew ?_ | refine blk_alloc ?_ _)); exact BK62.out) hb); have n1_ := Aside0.mk (below_step (by repeat (first | (with_reducible first | exact HB.out | apply below_alloc | apply pw_below_drewN | apply below_drew1 | refine below_set ?_ GE62.out) | exact HB.out)) hb); clear BK62; clear HB; have BK62 := n0_; have HB := n1_; clear n0_ n1_; (try clear hb); (try clear hb2); (try clear hk); (try clear hi); (try clear hftr)))
  go_ret
  exact ⟨by first | rfl | (simp [errW_none, errW_some] <;> rfl) | (simp [*, errW_none, errW_some] <;> rfl), by repeat (first | (with_reducible first | exact HB.out | apply below_alloc | apply pw_below_drewN | apply below_drew1 | refine below_set ?_ GE62.out) | exact HB.out)⟩
def impl_climber_1.p (l2 : List Int) : (Int → Int → Option Int) := fun x0 x1 => impl_climber_1.f x0 x1 l2
theorem impl_climber_1.ok (w : World) (B2 : Nat) (A2 : Option Addr) (c2 : Nat) (l2 : List Int) (hb2 : w.heap[B2]? = some (.cells #[.slice A2 l2.length c2] 22 (0, 0))) (hr2 : Kd.C (Kd.int .i64) w A2 l2.length l2) (hc2 : l2.length ≤ c2) : FnOk36 59 #[.pointer (some ⟨B2, 0, none⟩)] (impl_climber_1.p l2) w :=
  ⟨enters_of Try.func59 (by kernel_rfl) rfl, fun W x0 x1 r hb_ hr_ => (impl_climber_1.calls x0 x1 A2 c2 l2 r W B2 (blk_below hb2 hb_) (Kd.C_below hr2 hb_) hc2 hr_).mono fun e w' ⟨he_, hd_⟩ => ⟨he_, hd_⟩⟩
theorem impl_climber_1.callB (a0 : Int) (a1 : Int) (A2 : Option Addr) (c2 : Nat) (l2 : List Int) (r : Int) (w : World) (B2 : Nat) (hb2 : w.heap[B2]? = some (.cells #[.slice A2 l2.length c2] 22 (0, 0))) (hr2 : Kd.C (Kd.int .i64) w A2 l2.length l2) (hc2 : l2.length ≤ c2) (h : impl_climber_1.f a0 a1 l2 = some r) : Calls Try.prog 59 #[.int .i64 a0, .int .i64 a1, .pointer (some ⟨B2, 0, none⟩)] w fun e w' => e = .returned (.int .i64 r) ∧ Below w.heap.size w w' :=
  (impl_climber_1.calls a0 a1 A2 c2 l2 r w B2 hb2 hr2 hc2 h).mono fun e w' ⟨he_, hd_⟩ => ⟨he_, hd_⟩

/-! ### impl_climber: function 42 -/
def impl_climber.f (l0 : List Int) (a1 : Int) : Option Unit := some ()
set_option maxHeartbeats 8000000 in
set_option maxRecDepth 100000 in
theorem impl_climber.calls (A0 : Option Addr) (c0 : Nat) (l0 : List Int) (a1 : Int) (w : World) (hr0 : Kd.C (Kd.int .i64) w A0 l0.length l0) (hc0 : l0.length ≤ c0) (h : impl_climber.f l0 a1 = some ()) :
    Calls Try.prog 42 #[.slice A0 l0.length c0, .int .i64 a1] w fun e w' => ∃ (G : Nat) (L : Array Value), e = .returned (.agg #[.slice A0 l0.length c0, .int .i64 a1, .int .i64 50, .func (.func G) #[] L]) ∧ FnOk36 G L (impl_climber_1.p l0) w' ∧ Below w.heap.size w w' := by
  have HR0 := Aside0.mk hr0
  have HC0 := Aside0.mk hc0
  clear hr0 hc0 h
  have hu38 := Try.underlying38
  go_enter Try.func42, Try.ntmps42
  go_wp2
  refine bodyPost_ret (results_cell_row rfl _ _ (w.heap.size + 1) 38 #[.slice A0 l0.length c0, .int .i64 a1, .int .i64 50, .func (.func 59) #[] #[.pointer (some ⟨w.heap.size, 0, none⟩)]] (0, 0) _ rfl (by have h_ := heap_alloc_new (w.alloc (.cells #[.slice A0 l0.length c0] 22)) (.cells #[.slice A0 l0.length c0, .int .i64 a1, .int .i64 50, .func (.func 59) #[] #[.pointer (some ⟨w.heap.size, 0, none⟩)]] 38); rw [show (w.alloc (.cells #[.slice A0 l0.length c0] 22)).heap.size = w.heap.size + 1 by simp] at h_; exact h_) Try.underlying38 rfl (by kernel_rfl)) rfl ?_
  exact ⟨59, #[.pointer (some ⟨w.heap.size, 0, none⟩)], rfl, impl_climber_1.ok _ w.heap.size A0 c0 l0 (blk_below (heap_alloc_new _ _) ((Below.refl _ _).alloc (Nat.le_refl _) _)) (Kd.C_below HR0.out (((Below.refl _ _).alloc (Nat.le_refl _) _).alloc (by simp) _)) HC0.out, ((Below.refl _ _).alloc (Nat.le_refl _) _).alloc (by simp) _⟩


end Go.Proofs.Ytmppchecbcflgaa.Print
