-- PRINTED by print.py (a twelfth state) out of the translation. Not trusted: Lean checks it.
import Derived.Test.YtmppchecbcflgaaPrint0
import Derived.Test.YtmppchecbcflgaaPrint3
import Derived.Test.YtmppchecbcflgaaPrint13
import Derived.Test.YtmppchecbcflgaaPrint26
import Derived.Test.YtmppchecbcflgaaPrint28
import Derived.Test.YtmppchecbcflgaaPrint36
namespace Go.Proofs.Ytmppchecbcflgaa.Print
open Go.RowKit Go.Proofs.YtmppchecbcflgaaW.PrintWords Go.Proofs.YtmppchecbcflgaaW.PrintLast Go.Proofs.YtmppchecbcflgaaW.PrintMore
attribute [local go_sem] max2_int min2_int max_two min_two max_three min_three max_four min_four   -- for this text's walks alone
set_option linter.unusedVariables false
set_option linter.unusedSimpArgs false

/-! ### spec_NeededBoards: function 32 -/
mutual
def spec_NeededBoards.l0 : Nat → List Int → Int → Int → List Int → List Int → List Int → Int → Int → Option (List Int × Bool)
  | 0, _, _, _, _, _, _, _, _ => none
  | k + 1, x0, x1, x2, x12, x30, x34, x36, x37 => if x37 < x36 then (spec_NeededBoards.l1 k x0 x1 x2 x12 x37 true x30 x34 x36 x37 (x30.length : Int) 0) else (some (x12, true))
def spec_NeededBoards.l1 : Nat → List Int → Int → Int → List Int → Int → Bool → List Int → List Int → Int → Int → Int → Int → Option (List Int × Bool)
  | 0, _, _, _, _, _, _, _, _, _, _, _, _ => none
  | k + 1, x0, x1, x2, x12, x13, x14, x30, x34, x36, x37, x41, x42 => if x42 < x41 then (if 0 ≤ x42 then (if x42 < (x30.length : Int) then (spec_NeededBoards.l2 k x0 x1 x2 x12 x13 x14 (rd x30 x42) (wrap64 (x13 + 1)) x30 x34 x36 x37 x41 x42) else (none)) else (none)) else (if x14 = true then (if 0 ≤ x13 then (if x13 < (x34.length : Int) then (if (rd x34 x13) ≥ 0 then ((spec_l1Has.f k x30 x13).bind fun t541 => (if t541 = true then (if x12.length < 17592186044416 then (spec_NeededBoards.l0 k x0 x1 x2 (x12 ++ [x13]) x30 x34 x36 (wrap64 (x37 + 1))) else (none)) else (spec_NeededBoards.l0 k x0 x1 x2 x12 x30 x34 x36 (wrap64 (x37 + 1))))) else (spec_NeededBoards.l0 k x0 x1 x2 x12 x30 x34 x36 (wrap64 (x37 + 1)))) else (none)) else (none)) else (spec_NeededBoards.l0 k x0 x1 x2 x12 x30 x34 x36 (wrap64 (x37 + 1))))
def spec_NeededBoards.l2 : Nat → List Int → Int → Int → List Int → Int → Bool → Int → Int → List Int → List Int → Int → Int → Int → Int → Option (List Int × Bool)
  | 0, _, _, _, _, _, _, _, _, _, _, _, _, _, _ => none
  | k + 1, x0, x1, x2, x12, x13, x14, x16, x17, x30, x34, x36, x37, x41, x42 => if x17 < (x0.length : Int) then (spec_NeededBoards.j3 k x0 x1 x2 x34 x12 x13 x14 x16 x17 x30 x34 x36 x37 x41 x42 (decide (x16 < x13))) else (spec_NeededBoards.j3 k x0 x1 x2 x34 x12 x13 x14 x16 x17 x30 x34 x36 x37 x41 x42 false)
def spec_NeededBoards.j3 : Nat → List Int → Int → Int → List Int → List Int → Int → Bool → Int → Int → List Int → List Int → Int → Int → Int → Int → Bool → Option (List Int × Bool)
  | 0, _, _, _, _, _, _, _, _, _, _, _, _, _, _, _, _ => none
  | k + 1, x0, x1, x2, x11, x12, x13, x14, x16, x17, x30, x34, x36, x37, x41, x42, x56 => if x56 = true then (if 0 ≤ x17 then (if x17 < (x11.length : Int) then (if (rd x11 x17) ≥ 0 then (if 0 ≤ x16 then (if x16 < (x11.length : Int) then (if (rd x11 x16) ≥ 0 then ((spec_caJump.f x0 x1 x2 x16 x17).bind fun t548 => (if t548 = true then (spec_NeededBoards.l2 k x0 x1 x2 x12 x13 false x16 (wrap64 (x17 + 1)) x30 x34 x36 x37 x41 x42) else (spec_NeededBoards.l2 k x0 x1 x2 x12 x13 x14 x16 (wrap64 (x17 + 1)) x30 x34 x36 x37 x41 x42))) else (spec_NeededBoards.l2 k x0 x1 x2 x12 x13 x14 x16 (wrap64 (x17 + 1)) x30 x34 x36 x37 x41 x42)) else (none)) else (none)) else (spec_NeededBoards.l2 k x0 x1 x2 x12 x13 x14 x16 (wrap64 (x17 + 1)) x30 x34 x36 x37 x41 x42)) else (none)) else (none)) else (spec_NeededBoards.l1 k x0 x1 x2 x12 x13 x14 x30 x34 x36 x37 x41 (wrap64 (x42 + 1)))
end
def spec_NeededBoards.f (k : Nat) (l0 : List Int) (a1 : Int) (a2 : Int) : Option (List Int × Bool) := (spec_FewestJumps.f k l0 a1 a2).bind fun bt532 => (if bt532.2 = true then ((spec_caReached.f k l0 a1 a2).bind fun t534 => ((spec_caLeft.f k l0 a1 a2 true).bind fun t537 => (spec_NeededBoards.l0 k l0 a1 a2 ([] : List Int) t534 t537 (l0.length : Int) 0))) else (some (([] : List Int), false)))
theorem spec_NeededBoards.mono_l : ∀ k, (∀ y0 y1 y2 y3 y4 y5 y6 y7, LeO (spec_NeededBoards.l0 k y0 y1 y2 y3 y4 y5 y6 y7) (spec_NeededBoards.l0 (k + 1) y0 y1 y2 y3 y4 y5 y6 y7)) ∧ (∀ y0 y1 y2 y3 y4 y5 y6 y7 y8 y9 y10 y11, LeO (spec_NeededBoards.l1 k y0 y1 y2 y3 y4 y5 y6 y7 y8 y9 y10 y11) (spec_NeededBoards.l1 (k + 1) y0 y1 y2 y3 y4 y5 y6 y7 y8 y9 y10 y11)) ∧ (∀ y0 y1 y2 y3 y4 y5 y6 y7 y8 y9 y10 y11 y12 y13, LeO (spec_NeededBoards.l2 k y0 y1 y2 y3 y4 y5 y6 y7 y8 y9 y10 y11 y12 y13) (spec_NeededBoards.l2 (k + 1) y0 y1 y2 y3 y4 y5 y6 y7 y8 y9 y10 y11 y12 y13)) ∧ (∀ y0 y1 y2 y3 y4 y5 y6 y7 y8 y9 y10 y11 y12 y13 y14 y15, LeO (spec_NeededBoards.j3 k y0 y1 y2 y3 y4 y5 y6 y7 y8 y9 y10 y11 y12 y13 y14 y15) (spec_NeededBoards.j3 (k + 1) y0 y1 y2 y3 y4 y5 y6 y7 y8 y9 y10 y11 y12 y13 y14 y15))
  | 0 => ⟨fun _ _ _ _ _ _ _ _ r h => by simp [spec_NeededBoards.l0] at h, fun _ _ _ _ _ _ _ _ _ _ _ _ r h => by simp [spec_NeededBoards.l1] at h, fun _ _ _ _ _ _ _ _ _ _ _ _ _ _ r h => by simp [spec_NeededBoards.l2] at h, fun _ _ _ _ _ _ _ _ _ _ _ _ _ _ _ _ r h => by simp [spec_NeededBoards.j3] at h⟩
  | k + 1 => by
    obtain ⟨ih0, ih1, ih2, ih3⟩ := spec_NeededBoards.mono_l k
    refine ⟨?_, ?_, ?_, ?_⟩
    · intro y0 y1 y2 y3 y4 y5 y6 y7
      unfold spec_NeededBoards.l0
      repeat' first
      | (with_reducible exact ih0 _ _ _ _ _ _ _ _)
      | (with_reducible exact ih1 _ _ _ _ _ _ _ _ _ _ _ _)
      | (with_reducible exact ih2 _ _ _ _ _ _ _ _ _ _ _ _ _ _)
      | (with_reducible exact ih3 _ _ _ _ _ _ _ _ _ _ _ _ _ _ _ _)
      | (with_reducible exact spec_FewestJumps.mono _ _ _ _)
      | (with_reducible exact spec_caLeft.mono _ _ _ _ _)
      | (with_reducible exact spec_caReached.mono _ _ _ _)
      | (with_reducible exact spec_l1Has.mono _ _ _)
      | (with_reducible exact LeO.refl _)
      | (with_reducible exact LeO.none _)
      | (with_reducible refine LeO.ite ?_ ?_)
      | (with_reducible refine LeO.bind ?_ (fun _ => ?_))
      | exact ih0 _ _ _ _ _ _ _ _
      | exact ih1 _ _ _ _ _ _ _ _ _ _ _ _
      | exact ih2 _ _ _ _ _ _ _ _ _ _ _ _ _ _
      | exact ih3 _ _ _ _ _ _ _ _ _ _ _ _ _ _ _ _
      | exact spec_FewestJumps.mono _ _ _ _
      | exact spec_caLeft.mono _ _ _ _ _
      | exact spec_caReached.mono _ _ _ _
      | exact spec_l1Has.mono _ _ _
      | exact LeO.none _
      | refine LeO.ite ?_ ?_
      | refine LeO.bind ?_ (fun _ => ?_)
    · intro y0 y1 y2 y3 y4 y5 y6 y7 y8 y9 y10 y11
      unfold spec_NeededBoards.l1
      repeat' first
      | (with_reducible exact ih0 _ _ _ _ _ _ _ _)
      | (with_reducible exact ih1 _ _ _ _ _ _ _ _ _ _ _ _)
      | (with_reducible exact ih2 _ _ _ _ _ _ _ _ _ _ _ _ _ _)
      | (with_reducible exact ih3 _ _ _ _ _ _ _ _ _ _ _ _ _ _ _ _)
      | (with_reducible exact spec_FewestJumps.mono _ _ _ _)
      | (with_reducible exact spec_caLeft.mono _ _ _ _ _)
      | (with_reducible exact spec_caReached.mono _ _ _ _)
      | (with_reducible exact spec_l1Has.mono _ _ _)
      | (with_reducible exact LeO.refl _)
      | (with_reducible exact LeO.none _)
      | (with_reducible refine LeO.ite ?_ ?_)
      | (with_reducible refine LeO.bind ?_ (fun _ => ?_))
      | exact ih0 _ _ _ _ _ _ _ _
      | exact ih1 _ _ _ _ _ _ _ _ _ _ _ _
      | exact ih2 _ _ _ _ _ _ _ _ _ _ _ _ _ _
      | exact ih3 _ _ _ _ _ _ _ _ _ _ _ _ _ _ _ _
      | exact spec_FewestJumps.mono _ _ _ _
      | exact spec_caLeft.mono _ _ _ _ _
      | exact spec_caReached.mono _ _ _ _
      | exact spec_l1Has.mono _ _ _
      | exact LeO.none _
      | refine LeO.ite ?_ ?_
      | refine LeO.bind ?_ (fun _ => ?_)
    · intro y0 y1 y2 y3 y4 y5 y6 y7 y8 y9 y10 y11 y12 y13
      unfold spec_NeededBoards.l2
      repeat' first
      | (with_reducible exact ih0 _ _ _ _ _ _ _ _)
      | (with_reducible exact ih1 _ _ _ _ _ _ _ _ _ _ _ _)
      | (with_reducible exact ih2 _ _ _ _ _ _ _ _ _ _ _ _ _ _)
      | (with_reducible exact ih3 _ _ _ _ _ _ _ _ _ _ _ _ _ _ _ _)
      | (with_reducible exact spec_FewestJumps.mono _ _ _ _)
      | (with_reducible exact spec_caLeft.mono _ _ _ _ _)
      | (with_reducible exact spec_caReached.mono _ _ _ _)
      | (with_reducible exact spec_l1Has.mono _ _ _)
      | (with_reducible exact LeO.refl _)
      | (with_reducible exact LeO.none _)
      | (with_reducible refine LeO.ite ?_ ?_)
      | (with_reducible refine LeO.bind ?_ (fun _ => ?_))
      | exact ih0 _ _ _ _ _ _ _ _
      | exact ih1 _ _ _ _ _ _ _ _ _ _ _ _
      | exact ih2 _ _ _ _ _ _ _ _ _ _ _ _ _ _
      | exact ih3 _ _ _ _ _ _ _ _ _ _ _ _ _ _ _ _
      | exact spec_FewestJumps.mono _ _ _ _
      | exact spec_caLeft.mono _ _ _ _ _
      | exact spec_caReached.mono _ _ _ _
      | exact spec_l1Has.mono _ _ _
      | exact LeO.none _
      | refine LeO.ite ?_ ?_
      | refine LeO.bind ?_ (fun _ => ?_)
    · intro y0 y1 y2 y3 y4 y5 y6 y7 y8 y9 y10 y11 y12 y13 y14 y15
      unfold spec_NeededBoards.j3
      repeat' first
      | (with_reducible exact ih0 _ _ _ _ _ _ _ _)
      | (with_reducible exact ih1 _ _ _ _ _ _ _ _ _ _ _ _)
      | (with_reducible exact ih2 _ _ _ _ _ _ _ _ _ _ _ _ _ _)
      | (with_reducible exact ih3 _ _ _ _ _ _ _ _ _ _ _ _ _ _ _ _)
      | (with_reducible exact spec_FewestJumps.mono _ _ _ _)
      | (with_reducible exact spec_caLeft.mono _ _ _ _ _)
      | (with_reducible exact spec_caReached.mono _ _ _ _)
      | (with_reducible exact spec_l1Has.mono _ _ _)
      | (with_reducible exact LeO.refl _)
      | (with_reducible exact LeO.none _)
      | (with_reducible refine LeO.ite ?_ ?_)
      | (with_reducible refine LeO.bind ?_ (fun _ => ?_))
      | exact ih0 _ _ _ _ _ _ _ _
      | exact ih1 _ _ _ _ _ _ _ _ _ _ _ _
      | exact ih2 _ _ _ _ _ _ _ _ _ _ _ _ _ _
      | exact ih3 _ _ _ _ _ _ _ _ _ _ _ _ _ _ _ _
      | exact spec_FewestJumps.mono _ _ _ _
      | exact spec_caLeft.mono _ _ _ _ _
      | exact spec_caReached.mono _ _ _ _
      | exact spec_l1Has.mono _ _ _
      | exact LeO.none _
      | refine LeO.ite ?_ ?_
      | refine LeO.bind ?_ (fun _ => ?_)
theorem spec_NeededBoards.mono : ∀ a0 a1 a2 k, LeO (spec_NeededBoards.f k a0 a1 a2) (spec_NeededBoards.f (k + 1) a0 a1 a2) := by
  intro a0 a1 a2 k
  obtain ⟨ih0, ih1, ih2, ih3⟩ := spec_NeededBoards.mono_l k
  unfold spec_NeededBoards.f
  repeat' first
      | (with_reducible exact ih0 _ _ _ _ _ _ _ _)
      | (with_reducible exact ih1 _ _ _ _ _ _ _ _ _ _ _ _)
      | (with_reducible exact ih2 _ _ _ _ _ _ _ _ _ _ _ _ _ _)
      | (with_reducible exact ih3 _ _ _ _ _ _ _ _ _ _ _ _ _ _ _ _)
      | (with_reducible exact spec_FewestJumps.mono _ _ _ _)
      | (with_reducible exact spec_caLeft.mono _ _ _ _ _)
      | (with_reducible exact spec_caReached.mono _ _ _ _)
      | (with_reducible exact spec_l1Has.mono _ _ _)
      | (with_reducible exact LeO.refl _)
      | (with_reducible exact LeO.none _)
      | (with_reducible refine LeO.ite ?_ ?_)
      | (with_reducible refine LeO.bind ?_ (fun _ => ?_))
      | exact ih0 _ _ _ _ _ _ _ _
      | exact ih1 _ _ _ _ _ _ _ _ _ _ _ _
      | exact ih2 _ _ _ _ _ _ _ _ _ _ _ _ _ _
      | exact ih3 _ _ _ _ _ _ _ _ _ _ _ _ _ _ _ _
      | exact spec_FewestJumps.mono _ _ _ _
      | exact spec_caLeft.mono _ _ _ _ _
      | exact spec_caReached.mono _ _ _ _
      | exact spec_l1Has.mono _ _ _
      | exact LeO.none _
      | refine LeO.ite ?_ ?_
      | refine LeO.bind ?_ (fun _ => ?_)
set_option maxHeartbeats 8000000 in
set_option maxRecDepth 100000 in
theorem spec_NeededBoards.calls (k : Nat) (A0 : Option Addr) (c0 : Nat) (l0 : List Int) (a1 : Int) (a2 : Int) (r1 : List Int) (r2 : Bool) (w : World) (hr0 : Kd.C (Kd.int .i64) w A0 l0.length l0) (hc0 : l0.length ≤ c0) (h : spec_NeededBoards.f k l0 a1 a2 = some (r1, r2)) :
    Calls Try.prog 32 #[.slice A0 l0.length c0, .int .i64 a1, .int .i64 a2] w fun e w' => ∃ v0_ : Value, e = .returned (.tuple #[v0_, .bool r2]) ∧ Kd.R (Kd.int .i64) 3 w' w.heap.size (fun _ => True) v0_ r1 ∧ Below w.heap.size w w' := by
  have HR0 := Aside0.mk hr0
  have HC0 := Aside0.mk hc0
  clear hr0 hc0
  have HB := Aside0.mk (Below.refl w.heap.size w)
  have H : ((spec_FewestJumps.f k l0 a1 a2).bind fun bt532 => (if bt532.2 = true then ((spec_caReached.f k l0 a1 a2).bind fun t534 => ((spec_caLeft.f k l0 a1 a2 true).bind fun t537 => (spec_NeededBoards.l0 k l0 a1 a2 ([] : List Int) t534 t537 (l0.length : Int) 0))) else (some (([] : List Int), false)))) = some (r1, r2) := h
  clear h
  replace H := Option.bind_eq_some_iff.mp H
  obtain ⟨⟨t532, t533⟩, A40, H⟩ := H
  replace H : (if t533 = true then ((spec_caReached.f k l0 a1 a2).bind fun t534 => ((spec_caLeft.f k l0 a1 a2 true).bind fun t537 => (spec_NeededBoards.l0 k l0 a1 a2 ([] : List Int) t534 t537 (l0.length : Int) 0))) else (some (([] : List Int), false))) = some (r1, r2) := H
  have A4 := Aside0.mk A40
  clear A40
  by_cases c5 : t533 = true
  · subst c5
    have H1 : ((spec_caReached.f k l0 a1 a2).bind fun t534 => ((spec_caLeft.f k l0 a1 a2 true).bind fun t537 => (spec_NeededBoards.l0 k l0 a1 a2 ([] : List Int) t534 t537 (l0.length : Int) 0))) = some (r1, r2) := by rw [if_pos rfl] at H; exact H
    clear H
    have H := H1
    clear H1
    replace H := Option.bind_eq_some_iff.mp H
    obtain ⟨t534, A60, H⟩ := H
    replace H : ((spec_caLeft.f k l0 a1 a2 true).bind fun t537 => (spec_NeededBoards.l0 k l0 a1 a2 ([] : List Int) t534 t537 (l0.length : Int) 0)) = some (r1, r2) := H
    have A6 := Aside0.mk A60
    clear A60
    replace H := Option.bind_eq_some_iff.mp H
    obtain ⟨t537, A70, H⟩ := H
    replace H : (spec_NeededBoards.l0 k l0 a1 a2 ([] : List Int) t534 t537 (l0.length : Int) 0) = some (r1, r2) := H
    have A7 := Aside0.mk A70
    clear A70
    have H' := Aside0.mk H
    clear H
    go_enter Try.func32, Try.ntmps32
    go_wp2_with (first | ((with_reducible refine gate_callee (f := 24) rfl ?_); refine goesL_ (some 22) rfl rfl Try.func24 (by kernel_rfl) rfl #[.slice A0 l0.length c0, .int .i64 a1, .int .i64 a2] rfl (by (try simp only [List.map_toArray, List.map_cons, List.map_nil]); first | done | rfl | (simp only [List.length_drop, List.length_take]; rfl)) ?_; (with_reducible refine (spec_FewestJumps.calls k _ _ l0 a1 a2 t532 true _ ?side1 ?side2 A4.out).mono ?_); (case side1 => repeat (first | exact HR0.out | (with_reducible refine Kd.C_alloc ?_ _) | (with_reducible refine Kd.C_drewN ?_ _) | (with_reducible refine Kd.C_drew ?_))); (case side2 => exact HC0.out); rintro e w8 ⟨rfl, hb⟩; refine ⟨_, rfl, ?_⟩; have n0_ := Aside0.mk (below_step (by repeat (first | (with_reducible first | exact HB.out | apply below_alloc | apply pw_below_drewN | apply below_drew1) | exact HB.out)) hb); clear HB; have HB := n0_; clear n0_; (try clear hb); (try clear hb2); (try clear hk); (try clear hi); (try clear hftr)) | ((with_reducible refine gate_callee (f := 48) rfl ?_); refine goesL_ (some 30) rfl rfl Try.func48 (by kernel_rfl) rfl #[.slice A0 l0.length c0, .int .i64 a1, .int .i64 a2] rfl (by (try simp only [List.map_toArray, List.map_cons, List.map_nil]); first | done | rfl | (simp only [List.length_drop, List.length_take]; rfl)) ?_; (with_reducible refine (spec_caReached.calls k _ _ l0 a1 a2 t534 _ ?side1 ?side2 A6.out).mono ?_); (case side1 => repeat (first | exact (Kd.C_below HR0.out HB.out) | (with_reducible refine Kd.C_alloc ?_ _) | (with_reducible refine Kd.C_drewN ?_ _) | (with_reducible refine Kd.C_drew ?_))); (case side2 => exact HC0.out); rintro e w9 ⟨v535, rfl, ho0, hb⟩; refine ⟨_, rfl, ?_⟩; have n0_ := Aside0.mk (Kd.R_lower ho0 (below_size (by repeat (first | (with_reducible first | exact HB.out | apply below_alloc | apply pw_below_drewN | apply below_drew1) | exact HB.out)))); have n1_ := Aside0.mk (below_step (by repeat (first | (with_reducible first | exact HB.out | apply below_alloc | apply pw_below_drewN | apply below_drew1) | exact HB.out)) hb); clear HB; have HO536 := n0_; have HB := n1_; clear n0_ n1_; (try clear hb); (try clear hb2); (try clear hk); (try clear hi); (try clear hftr); (try clear ho0)) | ((with_reducible refine gate_callee (f := 40) rfl ?_); refine goesL_ (some 34) rfl rfl Try.func40 (by kernel_rfl) rfl #[.slice A0 l0.length c0, .int .i64 a1, .int .i64 a2, .bool true] rfl (by (try simp only [List.map_toArray, List.map_cons, List.map_nil]); first | done | rfl | (simp only [List.length_drop, List.length_take]; rfl)) ?_; (with_reducible refine (spec_caLeft.calls k _ _ l0 a1 a2 true t537 _ ?side1 ?side2 A7.out).mono ?_); (case side1 => repeat (first | exact (Kd.C_below HR0.out HB.out) | (with_reducible refine Kd.C_alloc ?_ _) | (with_reducible refine Kd.C_drewN ?_ _) | (with_reducible refine Kd.C_drew ?_))); (case side2 => exact HC0.out); rintro e w10 ⟨v538, rfl, ho0, hb⟩; refine ⟨_, rfl, ?_⟩; have n0_ := Aside0.mk (Kd.R_elder' (by (with_reducible repeat (first | apply Kd.R_alloc | apply Kd.R_drewN | apply Kd.R_drew)); exact HO536.out) (Kd.R_base ho0) hb); have n1_ := Aside0.mk (Kd.R_lower (Kd.R_new' ho0 (Kd.R_lt (by (with_reducible repeat (first | apply Kd.R_alloc | apply Kd.R_drewN | apply Kd.R_drew)); exact HO536.out))) (below_size (by repeat (first | (with_reducible first | exact HB.out | apply below_alloc | apply pw_below_drewN | apply below_drew1) | exact HB.out)))); have n2_ := Aside0.mk (below_step (by repeat (first | (with_reducible first | exact HB.out | apply below_alloc | apply pw_below_drewN | apply below_drew1) | exact HB.out)) hb); clear HO536; clear HB; have HO536 := n0_; have HO539 := n1_; have HB := n2_; clear n0_ n1_ n2_; (try clear hb); (try clear hb2); (try clear hk); (try clear hi); (try clear hftr); (try clear ho0)))
    go_loopg [12, 37] k (fun kq v12 v37 w' => ∃ (x12_1 : List Int) (x37_1 : Int), v37 = .int .i64 x37_1 ∧ Aside0 (spec_NeededBoards.l0 kq l0 a1 a2 x12_1 t534 t537 (l0.length : Int) x37_1 = some (r1, r2)) ∧ Aside0 (kq ≤ k) ∧ Aside0 (Kd.R (Kd.int .i64) 3 w' w.heap.size (fun k_ => some k_ ≠ (v535 : Value).ownBlock ∧ some k_ ≠ (v538 : Value).ownBlock) v12 x12_1) ∧ Aside0 (Kd.R (Kd.int .i64) 3 w' w.heap.size (fun k_ => some k_ ≠ (v12 : Value).ownBlock ∧ some k_ ≠ (v538 : Value).ownBlock) v535 t534) ∧ Aside0 (Kd.R (Kd.int .i64) 3 w' w.heap.size (fun k_ => some k_ ≠ (v12 : Value).ownBlock ∧ some k_ ≠ (v535 : Value).ownBlock) v538 t537) ∧ Aside0 (Below w.heap.size w w'))
    case atStart => exact ⟨(([] : List Int)), (0), (by first | rfl | (simp; done) | (simp [*]; done)), H', ⟨Nat.le_refl _⟩, ⟨by first | exact Kd.R_nil _ _ _ _ _ | exact Kd.N_nil _ _ _ _ _ | exact Kd.V_nil _ _ _ _ _ | exact Kd.Q_nil _ _ _ _ _ | exact Kd.S_nil _ _ _ _ _⟩, ⟨by (with_reducible repeat (first | apply Kd.R_alloc | apply Kd.R_drewN | apply Kd.R_drew)); exact Kd.R_mono HO536.out (fun _ hk => ⟨(by simp [Value.ownBlock]), hk.2⟩)⟩, ⟨by (with_reducible repeat (first | apply Kd.R_alloc | apply Kd.R_drewN | apply Kd.R_drew)); exact Kd.R_mono HO539.out (fun _ hk => ⟨(by simp [Value.ownBlock]), hk.2⟩)⟩, ⟨by repeat (first | (with_reducible first | exact HB.out | apply below_alloc | apply pw_below_drewN | apply below_drew1) | exact HB.out)⟩⟩
    case round =>
      clear H'
      try clear c2
      try clear p2
      try clear c3
      try clear c4
      try clear c5
      obtain ⟨x12_1, x37_1, rfl, HA, HK1, HO_12, HO_30, HO_34, HB⟩ := hrel
      cases gk with
      | zero => exact absurd HA.out (by simp [spec_NeededBoards.l0])
      | succ k1 =>
        have H := HA.out
        clear HA
        simp only [spec_NeededBoards.l0] at H
        by_cases c11 : x37_1 < (l0.length : Int)
        · rw [if_pos c11] at H
          have c11b0 : decide (x37_1 < (l0.length : Int)) = true := decide_eq_true c11
          clear c11
          have H' := Aside0.mk H
          clear H
          obtain ⟨Ao12, co12, eo12⟩ := Kd.R_slice HO_30.out
          subst eo12
          go_wp2
          go_loopg [14, 42] k1 (fun kq v14 v42 w' => ∃ (x14_2 : Bool) (x42_2 : Int), v14 = .bool x14_2 ∧ v42 = .int .i64 x42_2 ∧ Aside0 (spec_NeededBoards.l1 kq l0 a1 a2 x12_1 x37_1 x14_2 t534 t537 (l0.length : Int) x37_1 (t534.length : Int) x42_2 = some (r1, r2)) ∧ Aside0 (kq ≤ k1) ∧ Aside0 (Kd.R (Kd.int .i64) 3 w' w.heap.size (fun k_ => some k_ ≠ ((.slice Ao12 t534.length co12) : Value).ownBlock ∧ some k_ ≠ (v538 : Value).ownBlock) u12 x12_1) ∧ Aside0 (Kd.R (Kd.int .i64) 3 w' w.heap.size (fun k_ => some k_ ≠ (u12 : Value).ownBlock ∧ some k_ ≠ (v538 : Value).ownBlock) (.slice Ao12 t534.length co12) t534) ∧ Aside0 (Kd.R (Kd.int .i64) 3 w' w.heap.size (fun k_ => some k_ ≠ (u12 : Value).ownBlock ∧ some k_ ≠ ((.slice Ao12 t534.length co12) : Value).ownBlock) v538 t537) ∧ Aside0 (Below w.heap.size w w'))
          case atStart => exact ⟨(true), (0), (by first | rfl | (simp; done) | (simp [*]; done)), (by first | rfl | (simp; done) | (simp [*]; done)), H', ⟨Nat.le_refl _⟩, ⟨by (with_reducible repeat (first | apply Kd.R_alloc | apply Kd.R_drewN | apply Kd.R_drew)); exact HO_12.out⟩, ⟨by (with_reducible repeat (first | apply Kd.R_alloc | apply Kd.R_drewN | apply Kd.R_drew)); exact HO_30.out⟩, ⟨by (with_reducible repeat (first | apply Kd.R_alloc | apply Kd.R_drewN | apply Kd.R_drew)); exact HO_34.out⟩, ⟨by repeat (first | (with_reducible first | exact HB.out | apply below_alloc | apply pw_below_drewN | apply below_drew1) | exact HB.out)⟩⟩
          case round =>
            clear H'
            try clear c1
            try clear c2
            try clear p2
            try clear c3
            try clear c4
            try clear c5
            try clear c11
            try clear c11b0
            try clear p2
            obtain ⟨x14_2, x42_2, rfl, rfl, HA, HK2, HO_12, HO_30, HO_34, HB⟩ := hrel
            cases gk with
            | zero => exact absurd HA.out (by simp [spec_NeededBoards.l1])
            | succ k2 =>
              have H := HA.out
              clear HA
              simp only [spec_NeededBoards.l1] at H
              by_cases c13 : x42_2 < (t534.length : Int)
              · rw [if_pos c13] at H
                have c13b0 : decide (x42_2 < (t534.length : Int)) = true := decide_eq_true c13
                clear c13
                by_cases c14 : 0 ≤ x42_2
                · rw [if_pos c14] at H
                  have c14b0 : decide (0 ≤ x42_2) = true := decide_eq_true c14
                  clear c14
                  by_cases c15 : x42_2 < (t534.length : Int)
                  · rw [if_pos c15] at H
                    have c15b0 : decide (x42_2 < (t534.length : Int)) = true := decide_eq_true c15
                    clear c15
                    have H' := Aside0.mk H
                    clear H
                    have p545 : 0 ≤ (x42_2 : Int) := of_decide_eq_true (by first | (with_reducible assumption) | assumption)
                    have q545 : x42_2 < (t534.length : Int) := of_decide_eq_true (by first | (with_reducible assumption) | assumption)
                    obtain ⟨ad545, e545, hx545_0⟩ := Kd.at_int (Kd.R_reads' HO_30.out).2.2 x42_2 p545 q545
                    cases e545
                    replace p545 := eq_true p545
                    replace q545 := eq_true q545
                    go_wp2
                    go_loopg [14, 17] k2 (fun kq v14 v17 w' => ∃ (x14_3 : Bool) (x17_3 : Int), v14 = .bool x14_3 ∧ v17 = .int .i64 x17_3 ∧ Aside0 (spec_NeededBoards.l2 kq l0 a1 a2 x12_1 x37_1 x14_3 (rd t534 x42_2) x17_3 t534 t537 (l0.length : Int) x37_1 (t534.length : Int) x42_2 = some (r1, r2)) ∧ Aside0 (kq ≤ k2) ∧ Aside0 (Kd.R (Kd.int .i64) 3 w' w.heap.size (fun k_ => some k_ ≠ ((.slice (some ad545) t534.length co12) : Value).ownBlock ∧ some k_ ≠ (v538 : Value).ownBlock) u12 x12_1) ∧ Aside0 (Kd.R (Kd.int .i64) 3 w' w.heap.size (fun k_ => some k_ ≠ (u12 : Value).ownBlock ∧ some k_ ≠ (v538 : Value).ownBlock) (.slice (some ad545) t534.length co12) t534) ∧ Aside0 (Kd.R (Kd.int .i64) 3 w' w.heap.size (fun k_ => some k_ ≠ (u12 : Value).ownBlock ∧ some k_ ≠ ((.slice (some ad545) t534.length co12) : Value).ownBlock) v538 t537) ∧ Aside0 (Below w.heap.size w w'))
                    case atStart => exact ⟨(x14_2), (wrap64 (x37_1 + 1)), (by first | rfl | (simp; done) | (simp [*]; done)), (by first | rfl | (simp; done) | (simp [*]; done)), H', ⟨Nat.le_refl _⟩, ⟨by (with_reducible repeat (first | apply Kd.R_alloc | apply Kd.R_drewN | apply Kd.R_drew)); exact HO_12.out⟩, ⟨by (with_reducible repeat (first | apply Kd.R_alloc | apply Kd.R_drewN | apply Kd.R_drew)); exact HO_30.out⟩, ⟨by (with_reducible repeat (first | apply Kd.R_alloc | apply Kd.R_drewN | apply Kd.R_drew)); exact HO_34.out⟩, ⟨by repeat (first | (with_reducible first | exact HB.out | apply below_alloc | apply pw_below_drewN | apply below_drew1) | exact HB.out)⟩⟩
                    case round =>
                      clear H'
                      try clear c1
                      try clear c2
                      try clear p2
                      try clear c3
                      try clear c4
                      try clear c5
                      try clear p5
                      try clear q5
                      try clear hx5
                      try clear p6
                      try clear c11
                      try clear c11b0
                      try clear c13
                      try clear c13b0
                      try clear c14
                      try clear c14b0
                      try clear c15
                      try clear c15b0
                      try clear hx545_0
                      try clear p2
                      try clear p545
                      try clear q545
                      obtain ⟨x14_3, x17_3, rfl, rfl, HA, HK3, HO_12, HO_30, HO_34, HB⟩ := hrel
                      cases gk with
                      | zero => exact absurd HA.out (by simp [spec_NeededBoards.l2])
                      | succ k3 =>
                        have H := HA.out
                        clear HA
                        simp only [spec_NeededBoards.l2] at H
                        have HC16 := Aside0.mk H
                        clear H
                        go_upto_region 15 with (fail)
                        go_cut [56] (fun v56 wc => ∃ (kq : Nat) (x56_15 : Bool), v56 = .bool x56_15 ∧ Aside0 (spec_NeededBoards.j3 kq l0 a1 a2 t537 x12_1 x37_1 x14_3 (rd t534 x42_2) x17_3 t534 t537 (l0.length : Int) x37_1 (t534.length : Int) x42_2 x56_15 = some (r1, r2)) ∧ Aside0 (kq ≤ k3) ∧ Aside0 (Kd.R (Kd.int .i64) 3 wc w.heap.size (fun k_ => some k_ ≠ (u12 : Value).ownBlock ∧ some k_ ≠ ((.slice (some ad545) t534.length co12) : Value).ownBlock) v538 t537) ∧ Aside0 (Kd.R (Kd.int .i64) 3 wc w.heap.size (fun k_ => some k_ ≠ (v538 : Value).ownBlock ∧ some k_ ≠ ((.slice (some ad545) t534.length co12) : Value).ownBlock ∧ some k_ ≠ (v538 : Value).ownBlock) u12 x12_1) ∧ Aside0 (Kd.R (Kd.int .i64) 3 wc w.heap.size (fun k_ => some k_ ≠ (v538 : Value).ownBlock ∧ some k_ ≠ (u12 : Value).ownBlock ∧ some k_ ≠ (v538 : Value).ownBlock) (.slice (some ad545) t534.length co12) t534) ∧ Aside0 (Kd.R (Kd.int .i64) 3 wc w.heap.size (fun k_ => some k_ ≠ (u12 : Value).ownBlock ∧ some k_ ≠ ((.slice (some ad545) t534.length co12) : Value).ownBlock) v538 t537) ∧ Aside0 (Below w.heap.size w wc))
                        case first =>
                          have H := HC16.out
                          clear HC16
                          by_cases c17 : x17_3 < (l0.length : Int)
                          · rw [if_pos c17] at H
                            have c17b0 : decide (x17_3 < (l0.length : Int)) = true := decide_eq_true c17
                            clear c17
                            (first | rw [c17b0] | (simp only [i64_w, i32_w]; rw [c17b0]) | skip)
                            have H' := Aside0.mk H
                            clear H
                            go_wp2
                            go_meet
                            case rel => exact ⟨_, (decide ((rd t534 x42_2) < x37_1)), (by first | rfl | (simp; done) | (simp [*]; done)), H', ⟨by have := HK1.out; have := HK2.out; have := HK3.out; first | omega | exact Nat.le_refl _⟩, ⟨by (with_reducible repeat (first | apply Kd.R_alloc | apply Kd.R_drewN | apply Kd.R_drew)); exact HO_34.out⟩, ⟨by (with_reducible repeat (first | apply Kd.R_alloc | apply Kd.R_drewN | apply Kd.R_drew)); exact Kd.R_mono HO_12.out (fun _ hk => ⟨hk.2, ⟨hk.1, hk.2⟩⟩)⟩, ⟨by (with_reducible repeat (first | apply Kd.R_alloc | apply Kd.R_drewN | apply Kd.R_drew)); exact Kd.R_mono HO_30.out (fun _ hk => ⟨hk.2, ⟨hk.1, hk.2⟩⟩)⟩, ⟨by (with_reducible repeat (first | apply Kd.R_alloc | apply Kd.R_drewN | apply Kd.R_drew)); exact HO_34.out⟩, ⟨by repeat (first | (with_reducible first | exact HB.out | apply below_alloc | apply pw_below_drewN | apply below_drew1) | exact HB.out)⟩⟩
                          · rw [if_neg c17] at H
                            have c17b0 : decide (x17_3 < (l0.length : Int)) = false := decide_eq_false c17
                            clear c17
                            (first | rw [c17b0] | (simp only [i64_w, i32_w]; rw [c17b0]) | skip)
                            have H' := Aside0.mk H
                            clear H
                            go_wp2
                            go_meet
                            case rel => exact ⟨_, (false), (by first | rfl | (simp; done) | (simp [*]; done)), H', ⟨by have := HK1.out; have := HK2.out; have := HK3.out; first | omega | exact Nat.le_refl _⟩, ⟨by (with_reducible repeat (first | apply Kd.R_alloc | apply Kd.R_drewN | apply Kd.R_drew)); exact HO_34.out⟩, ⟨by (with_reducible repeat (first | apply Kd.R_alloc | apply Kd.R_drewN | apply Kd.R_drew)); exact Kd.R_mono HO_12.out (fun _ hk => ⟨hk.2, ⟨hk.1, hk.2⟩⟩)⟩, ⟨by (with_reducible repeat (first | apply Kd.R_alloc | apply Kd.R_drewN | apply Kd.R_drew)); exact Kd.R_mono HO_30.out (fun _ hk => ⟨hk.2, ⟨hk.1, hk.2⟩⟩)⟩, ⟨by (with_reducible repeat (first | apply Kd.R_alloc | apply Kd.R_drewN | apply Kd.R_drew)); exact HO_34.out⟩, ⟨by repeat (first | (with_reducible first | exact HB.out | apply below_alloc | apply pw_below_drewN | apply below_drew1) | exact HB.out)⟩⟩
                        case rest =>
                          clear HC16
                          try clear c1
                          try clear c2
                          try clear p2
                          try clear c3
                          try clear c4
                          try clear c5
                          try clear p5
                          try clear q5
                          try clear hx5
                          try clear p6
                          try clear c11
                          try clear c11b0
                          try clear c13
                          try clear c13b0
                          try clear c14
                          try clear c14b0
                          try clear c15
                          try clear c15b0
                          try clear c17
                          try clear c17b0
                          try clear hx545_0
                          try clear p2
                          try clear p5
                          try clear p545
                          try clear p6
                          try clear q5
                          try clear q545
                          obtain ⟨kq, x56_15, rfl, HA, HJ15, HO_11, HO_12, HO_30, HO_34, HB⟩ := hcut
                          cases kq with
                          | zero => exact absurd HA.out (by simp [spec_NeededBoards.j3])
                          | succ kj15 =>
                            have H := HA.out
                            clear HA
                            simp only [spec_NeededBoards.j3] at H
                            by_cases c18 : x56_15 = true
                            · subst c18
                              have H1 : (if 0 ≤ x17_3 then (if x17_3 < (t537.length : Int) then (if (rd t537 x17_3) ≥ 0 then (if 0 ≤ (rd t534 x42_2) then (if (rd t534 x42_2) < (t537.length : Int) then (if (rd t537 (rd t534 x42_2)) ≥ 0 then ((spec_caJump.f l0 a1 a2 (rd t534 x42_2) x17_3).bind fun t548 => (if t548 = true then (spec_NeededBoards.l2 kj15 l0 a1 a2 x12_1 x37_1 false (rd t534 x42_2) (wrap64 (x17_3 + 1)) t534 t537 (l0.length : Int) x37_1 (t534.length : Int) x42_2) else (spec_NeededBoards.l2 kj15 l0 a1 a2 x12_1 x37_1 x14_3 (rd t534 x42_2) (wrap64 (x17_3 + 1)) t534 t537 (l0.length : Int) x37_1 (t534.length : Int) x42_2))) else (spec_NeededBoards.l2 kj15 l0 a1 a2 x12_1 x37_1 x14_3 (rd t534 x42_2) (wrap64 (x17_3 + 1)) t534 t537 (l0.length : Int) x37_1 (t534.length : Int) x42_2)) else (none)) else (none)) else (spec_NeededBoards.l2 kj15 l0 a1 a2 x12_1 x37_1 x14_3 (rd t534 x42_2) (wrap64 (x17_3 + 1)) t534 t537 (l0.length : Int) x37_1 (t534.length : Int) x42_2)) else (none)) else (none)) = some (r1, r2) := by rw [if_pos rfl] at H; exact H
                              clear H
                              have H := H1
                              clear H1
                              by_cases c19 : 0 ≤ x17_3
                              · rw [if_pos c19] at H
                                have c19b0 : decide (0 ≤ x17_3) = true := decide_eq_true c19
                                clear c19
                                by_cases c20 : x17_3 < (t537.length : Int)
                                · rw [if_pos c20] at H
                                  have c20b0 : decide (x17_3 < (t537.length : Int)) = true := decide_eq_true c20
                                  clear c20
                                  by_cases c21 : (rd t537 x17_3) ≥ 0
                                  · rw [if_pos c21] at H
                                    have c21b0 : decide (0 ≤ (rd t537 x17_3)) = true := decide_eq_true c21
                                    clear c21
                                    by_cases c22 : 0 ≤ (rd t534 x42_2)
                                    · rw [if_pos c22] at H
                                      have c22b0 : decide (0 ≤ (rd t534 x42_2)) = true := decide_eq_true c22
                                      clear c22
                                      by_cases c23 : (rd t534 x42_2) < (t537.length : Int)
                                      · rw [if_pos c23] at H
                                        have c23b0 : decide ((rd t534 x42_2) < (t537.length : Int)) = true := decide_eq_true c23
                                        clear c23
                                        by_cases c24 : (rd t537 (rd t534 x42_2)) ≥ 0
                                        · rw [if_pos c24] at H
                                          have c24b0 : decide (0 ≤ (rd t537 (rd t534 x42_2))) = true := decide_eq_true c24
                                          clear c24
                                          replace H := Option.bind_eq_some_iff.mp H
                                          obtain ⟨t548, A250, H⟩ := H
                                          replace H : (if t548 = true then (spec_NeededBoards.l2 kj15 l0 a1 a2 x12_1 x37_1 false (rd t534 x42_2) (wrap64 (x17_3 + 1)) t534 t537 (l0.length : Int) x37_1 (t534.length : Int) x42_2) else (spec_NeededBoards.l2 kj15 l0 a1 a2 x12_1 x37_1 x14_3 (rd t534 x42_2) (wrap64 (x17_3 + 1)) t534 t537 (l0.length : Int) x37_1 (t534.length : Int) x42_2)) = some (r1, r2) := H
                                          have A25 := Aside0.mk A250
                                          clear A250
                                          by_cases c26 : t548 = true
                                          · subst c26
                                            have H1 : (spec_NeededBoards.l2 kj15 l0 a1 a2 x12_1 x37_1 false (rd t534 x42_2) (wrap64 (x17_3 + 1)) t534 t537 (l0.length : Int) x37_1 (t534.length : Int) x42_2) = some (r1, r2) := by rw [if_pos rfl] at H; exact H
                                            clear H
                                            have H := H1
                                            clear H1
                                            have H' := Aside0.mk H
                                            clear H
                                            obtain ⟨Ao27, co27, eo27⟩ := Kd.R_slice HO_11.out
                                            subst eo27
                                            have p546 : 0 ≤ (x17_3 : Int) := of_decide_eq_true (by first | (with_reducible assumption) | assumption)
                                            have q546 : x17_3 < (t537.length : Int) := of_decide_eq_true (by first | (with_reducible assumption) | assumption)
                                            obtain ⟨ad546, e546, hx546_0⟩ := Kd.at_int (Kd.R_reads' HO_11.out).2.2 x17_3 p546 q546
                                            cases e546
                                            replace p546 := eq_true p546
                                            replace q546 := eq_true q546
                                            have p547 : 0 ≤ ((rd t534 x42_2) : Int) := of_decide_eq_true (by first | (with_reducible assumption) | assumption)
                                            have q547 : (rd t534 x42_2) < (t537.length : Int) := of_decide_eq_true (by first | (with_reducible assumption) | assumption)
                                            obtain ⟨ad547, e547, hx547_0⟩ := Kd.at_int (Kd.R_reads' HO_11.out).2.2 (rd t534 x42_2) p547 q547
                                            obtain rfl : ad546 = ad547 := (by injection e547)
                                            replace p547 := eq_true p547
                                            replace q547 := eq_true q547
                                            go_wp2_with (first | (go_at_call 50; (with_reducible refine (spec_caJump.calls _ _ l0 a1 a2 (rd t534 x42_2) x17_3 true _ ?side1 ?side2 A25.out).mono ?_); (case side1 => repeat (first | exact (Kd.C_below HR0.out HB.out) | (with_reducible refine Kd.C_alloc ?_ _) | (with_reducible refine Kd.C_drewN ?_ _) | (with_reducible refine Kd.C_drew ?_))); (case side2 => exact HC0.out); rintro e w28 ⟨rfl, hb⟩; have n0_ := Aside0.mk (Kd.R_below (by (with_reducible repeat (first | apply Kd.R_alloc | apply Kd.R_drewN | apply Kd.R_drew)); exact HO_11.out) hb); have n1_ := Aside0.mk (Kd.R_below (by (with_reducible repeat (first | apply Kd.R_alloc | apply Kd.R_drewN | apply Kd.R_drew)); exact HO_12.out) hb); have n2_ := Aside0.mk (Kd.R_below (by (with_reducible repeat (first | apply Kd.R_alloc | apply Kd.R_drewN | apply Kd.R_drew)); exact HO_30.out) hb); have n3_ := Aside0.mk (Kd.R_below (by (with_reducible repeat (first | apply Kd.R_alloc | apply Kd.R_drewN | apply Kd.R_drew)); exact HO_34.out) hb); have n4_ := Aside0.mk (below_step (by repeat (first | (with_reducible first | exact HB.out | apply below_alloc | apply pw_below_drewN | apply below_drew1) | exact HB.out)) hb); clear HO_11; clear HO_12; clear HO_30; clear HO_34; clear HB; have HO_11 := n0_; have HO_12 := n1_; have HO_30 := n2_; have HO_34 := n3_; have HB := n4_; clear n0_ n1_ n2_ n3_ n4_; (try clear hb); (try clear hb2); (try clear hk); (try clear hi); (try clear hftr)))
                                            go_roundg kj15
                                            case measure => have := HK1.out; have := HK2.out; have := HK3.out; have := HJ15.out; omega
                                            case rel => exact ⟨(false), (wrap64 (x17_3 + 1)), (by first | rfl | (simp; done) | (simp [*]; done)), (by first | rfl | (simp; done) | (simp [*]; done)), H', ⟨by have := HK1.out; have := HK2.out; have := HK3.out; have := HJ15.out; omega⟩, ⟨by (with_reducible repeat (first | apply Kd.R_alloc | apply Kd.R_drewN | apply Kd.R_drew)); exact Kd.R_mono HO_12.out (fun _ hk => ⟨hk.2.1, hk.2.2⟩)⟩, ⟨by (with_reducible repeat (first | apply Kd.R_alloc | apply Kd.R_drewN | apply Kd.R_drew)); exact Kd.R_mono HO_30.out (fun _ hk => ⟨hk.2.1, hk.2.2⟩)⟩, ⟨by (with_reducible repeat (first | apply Kd.R_alloc | apply Kd.R_drewN | apply Kd.R_drew)); exact HO_34.out⟩, ⟨by repeat (first | (with_reducible first | exact HB.out | apply below_alloc | apply pw_below_drewN | apply below_drew1) | exact HB.out)⟩⟩
                                          · replace c26 := Bool.eq_false_iff.mpr c26
                                            subst c26
                                            have H1 : (spec_NeededBoards.l2 kj15 l0 a1 a2 x12_1 x37_1 x14_3 (rd t534 x42_2) (wrap64 (x17_3 + 1)) t534 t537 (l0.length : Int) x37_1 (t534.length : Int) x42_2) = some (r1, r2) := by rw [if_neg (show ¬ (false = true) by decide)] at H; exact H
                                            clear H
                                            have H := H1
                                            clear H1
                                            have H' := Aside0.mk H
                                            clear H
                                            obtain ⟨Ao29, co29, eo29⟩ := Kd.R_slice HO_11.out
                                            subst eo29
                                            have p546 : 0 ≤ (x17_3 : Int) := of_decide_eq_true (by first | (with_reducible assumption) | assumption)
                                            have q546 : x17_3 < (t537.length : Int) := of_decide_eq_true (by first | (with_reducible assumption) | assumption)
                                            obtain ⟨ad546, e546, hx546_0⟩ := Kd.at_int (Kd.R_reads' HO_11.out).2.2 x17_3 p546 q546
                                            cases e546
                                            replace p546 := eq_true p546
                                            replace q546 := eq_true q546
                                            have p547 : 0 ≤ ((rd t534 x42_2) : Int) := of_decide_eq_true (by first | (with_reducible assumption) | assumption)
                                            have q547 : (rd t534 x42_2) < (t537.length : Int) := of_decide_eq_true (by first | (with_reducible assumption) | assumption)
                                            obtain ⟨ad547, e547, hx547_0⟩ := Kd.at_int (Kd.R_reads' HO_11.out).2.2 (rd t534 x42_2) p547 q547
                                            obtain rfl : ad546 = ad547 := (by injection e547)
                                            replace p547 := eq_true p547
                                            replace q547 := eq_true q547
                                            go_wp2_with (first | (go_at_call 50; (with_reducible refine (spec_caJump.calls _ _ l0 a1 a2 (rd t534 x42_2) x17_3 false _ ?side1 ?side2 A25.out).mono ?_); (case side1 => repeat (first | exact (Kd.C_below HR0.out HB.out) | (with_reducible refine Kd.C_alloc ?_ _) | (with_reducible refine Kd.C_drewN ?_ _) | (with_reducible refine Kd.C_drew ?_))); (case side2 => exact HC0.out); rintro e w30 ⟨rfl, hb⟩; have n0_ := Aside0.mk (Kd.R_below (by (with_reducible repeat (first | apply Kd.R_alloc | apply Kd.R_drewN | apply Kd.R_drew)); exact HO_11.out) hb); have n1_ := Aside0.mk (Kd.R_below (by (with_reducible repeat (first | apply Kd.R_alloc | apply Kd.R_drewN | apply Kd.R_drew)); exact HO_12.out) hb); have n2_ := Aside0.mk (Kd.R_below (by (with_reducible repeat (first | apply Kd.R_alloc | apply Kd.R_drewN | apply Kd.R_drew)); exact HO_30.out) hb); have n3_ := Aside0.mk (Kd.R_below (by (with_reducible repeat (first | apply Kd.R_alloc | apply Kd.R_drewN | apply Kd.R_drew)); exact HO_34.out) hb); have n4_ := Aside0.mk (below_step (by repeat (first | (with_reducible first | exact HB.out | apply below_alloc | apply pw_below_drewN | apply below_drew1) | exact HB.out)) hb); clear HO_11; clear HO_12; clear HO_30; clear HO_34; clear HB; have HO_11 := n0_; have HO_12 := n1_; have HO_30 := n2_; have HO_34 := n3_; have HB := n4_; clear n0_ n1_ n2_ n3_ n4_; (try clear hb); (try clear hb2); (try clear hk); (try clear hi); (try clear hftr)))
                                            go_roundg kj15
                                            case measure => have := HK1.out; have := HK2.out; have := HK3.out; have := HJ15.out; omega
                                            case rel => exact ⟨(x14_3), (wrap64 (x17_3 + 1)), (by first | rfl | (simp; done) | (simp [*]; done)), (by first | rfl | (simp; done) | (simp [*]; done)), H', ⟨by have := HK1.out; have := HK2.out; have := HK3.out; have := HJ15.out; omega⟩, ⟨by (with_reducible repeat (first | apply Kd.R_alloc | apply Kd.R_drewN | apply Kd.R_drew)); exact Kd.R_mono HO_12.out (fun _ hk => ⟨hk.2.1, hk.2.2⟩)⟩, ⟨by (with_reducible repeat (first | apply Kd.R_alloc | apply Kd.R_drewN | apply Kd.R_drew)); exact Kd.R_mono HO_30.out (fun _ hk => ⟨hk.2.1, hk.2.2⟩)⟩, ⟨by (with_reducible repeat (first | apply Kd.R_alloc | apply Kd.R_drewN | apply Kd.R_drew)); exact HO_34.out⟩, ⟨by repeat (first | (with_reducible first | exact HB.out | apply below_alloc | apply pw_below_drewN | apply below_drew1) | exact HB.out)⟩⟩
                                        · rw [if_neg c24] at H
                                          have c24b0 : decide (0 ≤ (rd t537 (rd t534 x42_2))) = false := decide_eq_false c24
                                          clear c24
                                          have H' := Aside0.mk H
                                          clear H
                                          obtain ⟨Ao31, co31, eo31⟩ := Kd.R_slice HO_11.out
                                          subst eo31
                                          have p546 : 0 ≤ (x17_3 : Int) := of_decide_eq_true (by first | (with_reducible assumption) | assumption)
                                          have q546 : x17_3 < (t537.length : Int) := of_decide_eq_true (by first | (with_reducible assumption) | assumption)
                                          obtain ⟨ad546, e546, hx546_0⟩ := Kd.at_int (Kd.R_reads' HO_11.out).2.2 x17_3 p546 q546
                                          cases e546
                                          replace p546 := eq_true p546
                                          replace q546 := eq_true q546
                                          have p547 : 0 ≤ ((rd t534 x42_2) : Int) := of_decide_eq_true (by first | (with_reducible assumption) | assumption)
                                          have q547 : (rd t534 x42_2) < (t537.length : Int) := of_decide_eq_true (by first | (with_reducible assumption) | assumption)
                                          obtain ⟨ad547, e547, hx547_0⟩ := Kd.at_int (Kd.R_reads' HO_11.out).2.2 (rd t534 x42_2) p547 q547
                                          obtain rfl : ad546 = ad547 := (by injection e547)
                                          replace p547 := eq_true p547
                                          replace q547 := eq_true q547
                                          go_wp2
                                          go_roundg kj15
                                          case measure => have := HK1.out; have := HK2.out; have := HK3.out; have := HJ15.out; omega
                                          case rel => exact ⟨(x14_3), (wrap64 (x17_3 + 1)), (by first | rfl | (simp; done) | (simp [*]; done)), (by first | rfl | (simp; done) | (simp [*]; done)), H', ⟨by have := HK1.out; have := HK2.out; have := HK3.out; have := HJ15.out; omega⟩, ⟨by (with_reducible repeat (first | apply Kd.R_alloc | apply Kd.R_drewN | apply Kd.R_drew)); exact Kd.R_mono HO_12.out (fun _ hk => ⟨hk.2.1, hk.2.2⟩)⟩, ⟨by (with_reducible repeat (first | apply Kd.R_alloc | apply Kd.R_drewN | apply Kd.R_drew)); exact Kd.R_mono HO_30.out (fun _ hk => ⟨hk.2.1, hk.2.2⟩)⟩, ⟨by (with_reducible repeat (first | apply Kd.R_alloc | apply Kd.R_drewN | apply Kd.R_drew)); exact HO_34.out⟩, ⟨by repeat (first | (with_reducible first | exact HB.out | apply below_alloc | apply pw_below_drewN | apply below_drew1) | exact HB.out)⟩⟩
                                      · rw [if_neg c23] at H
                                        exact absurd H (by simp)
                                    · rw [if_neg c22] at H
                                      exact absurd H (by simp)
                                  · rw [if_neg c21] at H
                                    have c21b0 : decide (0 ≤ (rd t537 x17_3)) = false := decide_eq_false c21
                                    clear c21
                                    have H' := Aside0.mk H
                                    clear H
                                    obtain ⟨Ao32, co32, eo32⟩ := Kd.R_slice HO_11.out
                                    subst eo32
                                    have p546 : 0 ≤ (x17_3 : Int) := of_decide_eq_true (by first | (with_reducible assumption) | assumption)
                                    have q546 : x17_3 < (t537.length : Int) := of_decide_eq_true (by first | (with_reducible assumption) | assumption)
                                    obtain ⟨ad546, e546, hx546_0⟩ := Kd.at_int (Kd.R_reads' HO_11.out).2.2 x17_3 p546 q546
                                    cases e546
                                    replace p546 := eq_true p546
                                    replace q546 := eq_true q546
                                    go_wp2
                                    go_roundg kj15
                                    case measure => have := HK1.out; have := HK2.out; have := HK3.out; have := HJ15.out; omega
                                    case rel => exact ⟨(x14_3), (wrap64 (x17_3 + 1)), (by first | rfl | (simp; done) | (simp [*]; done)), (by first | rfl | (simp; done) | (simp [*]; done)), H', ⟨by have := HK1.out; have := HK2.out; have := HK3.out; have := HJ15.out; omega⟩, ⟨by (with_reducible repeat (first | apply Kd.R_alloc | apply Kd.R_drewN | apply Kd.R_drew)); exact Kd.R_mono HO_12.out (fun _ hk => ⟨hk.2.1, hk.2.2⟩)⟩, ⟨by (with_reducible repeat (first | apply Kd.R_alloc | apply Kd.R_drewN | apply Kd.R_drew)); exact Kd.R_mono HO_30.out (fun _ hk => ⟨hk.2.1, hk.2.2⟩)⟩, ⟨by (with_reducible repeat (first | apply Kd.R_alloc | apply Kd.R_drewN | apply Kd.R_drew)); exact HO_34.out⟩, ⟨by repeat (first | (with_reducible first | exact HB.out | apply below_alloc | apply pw_below_drewN | apply below_drew1) | exact HB.out)⟩⟩
                                · rw [if_neg c20] at H
                                  exact absurd H (by simp)
                              · rw [if_neg c19] at H
                                exact absurd H (by simp)
                            · replace c18 := Bool.eq_false_iff.mpr c18
                              subst c18
                              have H1 : (spec_NeededBoards.l1 kj15 l0 a1 a2 x12_1 x37_1 x14_3 t534 t537 (l0.length : Int) x37_1 (t534.length : Int) (wrap64 (x42_2 + 1))) = some (r1, r2) := by rw [if_neg (show ¬ (false = true) by decide)] at H; exact H
                              clear H
                              have H := H1
                              clear H1
                              have H' := Aside0.mk H
                              clear H
                              go_wp2
                              go_roundg kj15
                              case measure => have := HK1.out; have := HK2.out; have := HK3.out; have := HJ15.out; omega
                              case rel => exact ⟨(x14_3), (wrap64 (x42_2 + 1)), (by first | rfl | (simp; done) | (simp [*]; done)), (by first | rfl | (simp; done) | (simp [*]; done)), H', ⟨by have := HK1.out; have := HK2.out; have := HK3.out; have := HJ15.out; omega⟩, ⟨by (with_reducible repeat (first | apply Kd.R_alloc | apply Kd.R_drewN | apply Kd.R_drew)); exact Kd.R_mono HO_12.out (fun _ hk => ⟨hk.2.1, hk.2.2⟩)⟩, ⟨by (with_reducible repeat (first | apply Kd.R_alloc | apply Kd.R_drewN | apply Kd.R_drew)); exact Kd.R_mono HO_30.out (fun _ hk => ⟨hk.2.1, hk.2.2⟩)⟩, ⟨by (with_reducible repeat (first | apply Kd.R_alloc | apply Kd.R_drewN | apply Kd.R_drew)); exact HO_34.out⟩, ⟨by repeat (first | (with_reducible first | exact HB.out | apply below_alloc | apply pw_below_drewN | apply below_drew1) | exact HB.out)⟩⟩
                  · rw [if_neg c15] at H
                    exact absurd H (by simp)
                · rw [if_neg c14] at H
                  exact absurd H (by simp)
              · rw [if_neg c13] at H
                have c13b0 : decide (x42_2 < (t534.length : Int)) = false := decide_eq_false c13
                clear c13
                by_cases c33 : x14_2 = true
                · subst c33
                  have H1 : (if 0 ≤ x37_1 then (if x37_1 < (t537.length : Int) then (if (rd t537 x37_1) ≥ 0 then ((spec_l1Has.f k2 t534 x37_1).bind fun t541 => (if t541 = true then (if x12_1.length < 17592186044416 then (spec_NeededBoards.l0 k2 l0 a1 a2 (x12_1 ++ [x37_1]) t534 t537 (l0.length : Int) (wrap64 (x37_1 + 1))) else (none)) else (spec_NeededBoards.l0 k2 l0 a1 a2 x12_1 t534 t537 (l0.length : Int) (wrap64 (x37_1 + 1))))) else (spec_NeededBoards.l0 k2 l0 a1 a2 x12_1 t534 t537 (l0.length : Int) (wrap64 (x37_1 + 1)))) else (none)) else (none)) = some (r1, r2) := by rw [if_pos rfl] at H; exact H
                  clear H
                  have H := H1
                  clear H1
                  by_cases c34 : 0 ≤ x37_1
                  · rw [if_pos c34] at H
                    have c34b0 : decide (0 ≤ x37_1) = true := decide_eq_true c34
                    clear c34
                    by_cases c35 : x37_1 < (t537.length : Int)
                    · rw [if_pos c35] at H
                      have c35b0 : decide (x37_1 < (t537.length : Int)) = true := decide_eq_true c35
                      clear c35
                      by_cases c36 : (rd t537 x37_1) ≥ 0
                      · rw [if_pos c36] at H
                        have c36b0 : decide (0 ≤ (rd t537 x37_1)) = true := decide_eq_true c36
                        clear c36
                        replace H := Option.bind_eq_some_iff.mp H
                        obtain ⟨t541, A370, H⟩ := H
                        replace H : (if t541 = true then (if x12_1.length < 17592186044416 then (spec_NeededBoards.l0 k2 l0 a1 a2 (x12_1 ++ [x37_1]) t534 t537 (l0.length : Int) (wrap64 (x37_1 + 1))) else (none)) else (spec_NeededBoards.l0 k2 l0 a1 a2 x12_1 t534 t537 (l0.length : Int) (wrap64 (x37_1 + 1)))) = some (r1, r2) := H
                        have A37 := Aside0.mk A370
                        clear A370
                        by_cases c38 : t541 = true
                        · subst c38
                          have H1 : (if x12_1.length < 17592186044416 then (spec_NeededBoards.l0 k2 l0 a1 a2 (x12_1 ++ [x37_1]) t534 t537 (l0.length : Int) (wrap64 (x37_1 + 1))) else (none)) = some (r1, r2) := by rw [if_pos rfl] at H; exact H
                          clear H
                          have H := H1
                          clear H1
                          by_cases c39 : x12_1.length < 17592186044416
                          · rw [if_pos c39] at H
                            have LMc39 := Aside0.mk c39
                            clear c39
                            obtain ⟨y542, hy542⟩ : ∃ y_ : List Int, y_ = (x12_1 ++ [x37_1]) := ⟨_, rfl⟩
                            replace H : (spec_NeededBoards.l0 k2 l0 a1 a2 y542 t534 t537 (l0.length : Int) (wrap64 (x37_1 + 1))) = some (r1, r2) := by first | (rw [hy542]; with_reducible exact H) | (have H2_ := (Option.bind_some _ _).symm.trans H; rw [hy542]; with_reducible exact H2_) | (have H2_ := (Option.bind_some _ _).symm.trans H; with_reducible exact H2_) | with_reducible exact H | (rw [hy542]; exact H) | exact H
                            have Ny542 := Aside0.mk hy542
                            clear hy542
                            have H' := Aside0.mk H
                            clear H
                            obtain ⟨Ao40, co40, eo40⟩ := Kd.R_slice HO_34.out
                            subst eo40
                            have p540 : 0 ≤ (x37_1 : Int) := of_decide_eq_true (by first | (with_reducible assumption) | assumption)
                            have q540 : x37_1 < (t537.length : Int) := of_decide_eq_true (by first | (with_reducible assumption) | assumption)
                            obtain ⟨ad540, e540, hx540_0⟩ := Kd.at_int (Kd.R_reads' HO_34.out).2.2 x37_1 p540 q540
                            cases e540
                            replace p540 := eq_true p540
                            replace q540 := eq_true q540
                            go_wp2_with (first | (go_at_call 51; (with_reducible refine (spec_l1Has.calls k2 _ _ t534 x37_1 true _ ?side1 ?side2 A37.out).mono ?_); (case side1 => repeat (first | exact (Kd.R_reads' HO_30.out).2.2 | (with_reducible refine Kd.C_alloc ?_ _) | (with_reducible refine Kd.C_drewN ?_ _) | (with_reducible refine Kd.C_drew ?_))); (case side2 => exact (Kd.R_reads' HO_30.out).2.1); rintro e w' ⟨rfl, ⟨nd, rfl⟩⟩) | ((with_reducible refine gate_builtin (b := .append) (xs := #[.tmp 93, .tmp 95]) rfl ?_); at_builtin; refine Kd.R_append (Kd.int .i64) (w0 := w) w.heap.size rfl (.tmp 93) (.tmp 95) 22 3 (.int .i64 0) 8 rfl Try.underlying22 info3 rfl (by decide) (by omega) u12 x12_1 x37_1 [.int .i64 x37_1] (fun k_ => some k_ ≠ (.slice Ao12 t534.length co12 : Value).ownBlock ∧ some k_ ≠ (.slice (some ad540) t537.length co40 : Value).ownBlock) (fun _ => False) rfl rfl ?aP (fun _ hk => hk.elim) ?aF ?aO ?aB ?aS ?aL ?_; (case aP => exact rfl); (case aB => exact (by repeat (first | (with_reducible first | exact HB.out | apply below_alloc | apply pw_below_drewN | apply below_drew1) | exact HB.out))); (case aF => exact (fun k_ hk => ⟨Kd.fresh' (Kd.R_lt (by (with_reducible repeat (first | apply Kd.R_alloc | apply Kd.R_drewN | apply Kd.R_drew)); exact HO_30.out)) k_ hk, Kd.fresh' (Kd.R_lt (by (with_reducible repeat (first | apply Kd.R_alloc | apply Kd.R_drewN | apply Kd.R_drew)); exact HO_34.out)) k_ hk⟩)); (case aO => exact (by (with_reducible repeat (first | apply Kd.R_alloc | apply Kd.R_drewN | apply Kd.R_drew)); exact HO_12.out)); (case aS => exact (below_size (by repeat (first | (with_reducible first | exact HB.out | apply below_alloc | apply pw_below_drewN | apply below_drew1) | exact HB.out)))); (case aL => have := LMc39.out; omega); intro v543 w41 ho hb hg hat; rw [← Ny542.out] at ho; have n0_ := Aside0.mk (Kd.R_after (ok := (fun k_ => some k_ ≠ (.slice (some ad540) t537.length co40 : Value).ownBlock)) (by (with_reducible repeat (first | apply Kd.R_alloc | apply Kd.R_drewN | apply Kd.R_drew)); exact Kd.R_mono HO_30.out (fun _ hk => ⟨hk.2, hk.1⟩)) hg hat); have n1_ := Aside0.mk (Kd.R_after (ok := (fun k_ => some k_ ≠ (.slice Ao12 t534.length co12 : Value).ownBlock)) (by (with_reducible repeat (first | apply Kd.R_alloc | apply Kd.R_drewN | apply Kd.R_drew)); exact Kd.R_mono HO_34.out (fun _ hk => ⟨hk.2, hk.1⟩)) hg hat); have n2_ := Aside0.mk (hb); have n3_ := Aside0.mk (ho); clear HO_30; clear HO_34; clear HB; clear HO_12; have HO_30 := n0_; have HO_34 := n1_; have HB := n2_; have HO544 := n3_; clear n0_ n1_ n2_ n3_; clear ho hb hg hat))
                            go_roundg k2
                            case measure => have := HK1.out; have := HK2.out; omega
                            case rel => exact ⟨(y542), (wrap64 (x37_1 + 1)), (by first | rfl | (simp; done) | (simp [*]; done)), H', ⟨by have := HK1.out; have := HK2.out; omega⟩, ⟨by (with_reducible repeat (first | apply Kd.R_alloc | apply Kd.R_drewN | apply Kd.R_drew)); exact HO544.out⟩, ⟨by (with_reducible repeat (first | apply Kd.R_alloc | apply Kd.R_drewN | apply Kd.R_drew)); exact Kd.R_mono HO_30.out (fun _ hk => ⟨hk.2, hk.1⟩)⟩, ⟨by (with_reducible repeat (first | apply Kd.R_alloc | apply Kd.R_drewN | apply Kd.R_drew)); exact Kd.R_mono HO_34.out (fun _ hk => ⟨hk.2, hk.1⟩)⟩, ⟨by repeat (first | (with_reducible first | exact HB.out | apply below_alloc | apply pw_below_drewN | apply below_drew1) | exact HB.out)⟩⟩
                          · rw [if_neg c39] at H
                            exact absurd H (by simp)
                        · replace c38 := Bool.eq_false_iff.mpr c38
                          subst c38
                          have H1 : (spec_NeededBoards.l0 k2 l0 a1 a2 x12_1 t534 t537 (l0.length : Int) (wrap64 (x37_1 + 1))) = some (r1, r2) := by rw [if_neg (show ¬ (false = true) by decide)] at H; exact H
                          clear H
                          have H := H1
                          clear H1
                          have H' := Aside0.mk H
                          clear H
                          obtain ⟨Ao42, co42, eo42⟩ := Kd.R_slice HO_34.out
                          subst eo42
                          have p540 : 0 ≤ (x37_1 : Int) := of_decide_eq_true (by first | (with_reducible assumption) | assumption)
                          have q540 : x37_1 < (t537.length : Int) := of_decide_eq_true (by first | (with_reducible assumption) | assumption)
                          obtain ⟨ad540, e540, hx540_0⟩ := Kd.at_int (Kd.R_reads' HO_34.out).2.2 x37_1 p540 q540
                          cases e540
                          replace p540 := eq_true p540
                          replace q540 := eq_true q540
                          go_wp2_with (first | (go_at_call 51; (with_reducible refine (spec_l1Has.calls k2 _ _ t534 x37_1 false _ ?side1 ?side2 A37.out).mono ?_); (case side1 => repeat (first | exact (Kd.R_reads' HO_30.out).2.2 | (with_reducible refine Kd.C_alloc ?_ _) | (with_reducible refine Kd.C_drewN ?_ _) | (with_reducible refine Kd.C_drew ?_))); (case side2 => exact (Kd.R_reads' HO_30.out).2.1); rintro e w' ⟨rfl, ⟨nd, rfl⟩⟩))
                          go_roundg k2
                          case measure => have := HK1.out; have := HK2.out; omega
                          case rel => exact ⟨(x12_1), (wrap64 (x37_1 + 1)), (by first | rfl | (simp; done) | (simp [*]; done)), H', ⟨by have := HK1.out; have := HK2.out; omega⟩, ⟨by (with_reducible repeat (first | apply Kd.R_alloc | apply Kd.R_drewN | apply Kd.R_drew)); exact HO_12.out⟩, ⟨by (with_reducible repeat (first | apply Kd.R_alloc | apply Kd.R_drewN | apply Kd.R_drew)); exact HO_30.out⟩, ⟨by (with_reducible repeat (first | apply Kd.R_alloc | apply Kd.R_drewN | apply Kd.R_drew)); exact HO_34.out⟩, ⟨by repeat (first | (with_reducible first | exact HB.out | apply below_alloc | apply pw_below_drewN | apply below_drew1) | exact HB.out)⟩⟩
                      · rw [if_neg c36] at H
                        have c36b0 : decide (0 ≤ (rd t537 x37_1)) = false := decide_eq_false c36
                        clear c36
                        have H' := Aside0.mk H
                        clear H
                        obtain ⟨Ao43, co43, eo43⟩ := Kd.R_slice HO_34.out
                        subst eo43
                        have p540 : 0 ≤ (x37_1 : Int) := of_decide_eq_true (by first | (with_reducible assumption) | assumption)
                        have q540 : x37_1 < (t537.length : Int) := of_decide_eq_true (by first | (with_reducible assumption) | assumption)
                        obtain ⟨ad540, e540, hx540_0⟩ := Kd.at_int (Kd.R_reads' HO_34.out).2.2 x37_1 p540 q540
                        cases e540
                        replace p540 := eq_true p540
                        replace q540 := eq_true q540
                        go_wp2
                        go_roundg k2
                        case measure => have := HK1.out; have := HK2.out; omega
                        case rel => exact ⟨(x12_1), (wrap64 (x37_1 + 1)), (by first | rfl | (simp; done) | (simp [*]; done)), H', ⟨by have := HK1.out; have := HK2.out; omega⟩, ⟨by (with_reducible repeat (first | apply Kd.R_alloc | apply Kd.R_drewN | apply Kd.R_drew)); exact HO_12.out⟩, ⟨by (with_reducible repeat (first | apply Kd.R_alloc | apply Kd.R_drewN | apply Kd.R_drew)); exact HO_30.out⟩, ⟨by (with_reducible repeat (first | apply Kd.R_alloc | apply Kd.R_drewN | apply Kd.R_drew)); exact HO_34.out⟩, ⟨by repeat (first | (with_reducible first | exact HB.out | apply below_alloc | apply pw_below_drewN | apply below_drew1) | exact HB.out)⟩⟩
                    · rw [if_neg c35] at H
                      exact absurd H (by simp)
                  · rw [if_neg c34] at H
                    exact absurd H (by simp)
                · replace c33 := Bool.eq_false_iff.mpr c33
                  subst c33
                  have H1 : (spec_NeededBoards.l0 k2 l0 a1 a2 x12_1 t534 t537 (l0.length : Int) (wrap64 (x37_1 + 1))) = some (r1, r2) := by rw [if_neg (show ¬ (false = true) by decide)] at H; exact H
                  clear H
                  have H := H1
                  clear H1
                  have H' := Aside0.mk H
                  clear H
                  go_wp2
                  go_roundg k2
                  case measure => have := HK1.out; have := HK2.out; omega
                  case rel => exact ⟨(x12_1), (wrap64 (x37_1 + 1)), (by first | rfl | (simp; done) | (simp [*]; done)), H', ⟨by have := HK1.out; have := HK2.out; omega⟩, ⟨by (with_reducible repeat (first | apply Kd.R_alloc | apply Kd.R_drewN | apply Kd.R_drew)); exact HO_12.out⟩, ⟨by (with_reducible repeat (first | apply Kd.R_alloc | apply Kd.R_drewN | apply Kd.R_drew)); exact HO_30.out⟩, ⟨by (with_reducible repeat (first | apply Kd.R_alloc | apply Kd.R_drewN | apply Kd.R_drew)); exact HO_34.out⟩, ⟨by repeat (first | (with_reducible first | exact HB.out | apply below_alloc | apply pw_below_drewN | apply below_drew1) | exact HB.out)⟩⟩
        · rw [if_neg c11] at H
          have c11b0 : decide (x37_1 < (l0.length : Int)) = false := decide_eq_false c11
          clear c11
          simp only [Option.some.injEq, Prod.mk.injEq] at H
          obtain ⟨rfl, rfl⟩ := H
          go_wp2
          go_ret2
          exact ⟨_, by first | rfl | (simp [errW_none, errW_some] <;> rfl) | (simp [*, errW_none, errW_some] <;> rfl), by (with_reducible repeat (first | apply Kd.R_alloc | apply Kd.R_drewN | apply Kd.R_drew)); exact Kd.R_mono HO_12.out (fun _ hk => trivial), by repeat (first | (with_reducible first | exact HB.out | apply below_alloc | apply pw_below_drewN | apply below_drew1) | exact HB.out)⟩
  · replace c5 := Bool.eq_false_iff.mpr c5
    subst c5
    have H1 : (some (([] : List Int), false)) = some (r1, r2) := by rw [if_neg (show ¬ (false = true) by decide)] at H; exact H
    clear H
    have H := H1
    clear H1
    simp only [Option.some.injEq, Prod.mk.injEq] at H
    obtain ⟨rfl, rfl⟩ := H
    go_enter Try.func32, Try.ntmps32
    go_wp2_with (first | ((with_reducible refine gate_callee (f := 24) rfl ?_); refine goesL_ (some 22) rfl rfl Try.func24 (by kernel_rfl) rfl #[.slice A0 l0.length c0, .int .i64 a1, .int .i64 a2] rfl (by (try simp only [List.map_toArray, List.map_cons, List.map_nil]); first | done | rfl | (simp only [List.length_drop, List.length_take]; rfl)) ?_; (with_reducible refine (spec_FewestJumps.calls k _ _ l0 a1 a2 t532 false _ ?side1 ?side2 A4.out).mono ?_); (case side1 => repeat (first | exact HR0.out | (with_reducible refine Kd.C_alloc ?_ _) | (with_reducible refine Kd.C_drewN ?_ _) | (with_reducible refine Kd.C_drew ?_))); (case side2 => exact HC0.out); rintro e w44 ⟨rfl, hb⟩; refine ⟨_, rfl, ?_⟩; have n0_ := Aside0.mk (below_step (by repeat (first | (with_reducible first | exact HB.out | apply below_alloc | apply pw_below_drewN | apply below_drew1) | exact HB.out)) hb); clear HB; have HB := n0_; clear n0_; (try clear hb); (try clear hb2); (try clear hk); (try clear hi); (try clear hftr)))
    go_ret2
    exact ⟨_, by first | rfl | (simp [errW_none, errW_some] <;> rfl) | (simp [*, errW_none, errW_some] <;> rfl), by first | exact Kd.R_nil _ _ _ _ _ | exact Kd.N_nil _ _ _ _ _ | exact Kd.V_nil _ _ _ _ _ | exact Kd.Q_nil _ _ _ _ _ | exact Kd.S_nil _ _ _ _ _, by repeat (first | (with_reducible first | exact HB.out | apply below_alloc | apply pw_below_drewN | apply below_drew1) | exact HB.out)⟩

end Go.Proofs.Ytmppchecbcflgaa.Print
