-- PRINTED by print.py (a twelfth state) out of the translation. Not trusted: Lean checks it.
import Derived.Test.YteflfjbnddieeaaDoorPrint0
import Derived.Test.YteflfjbnddieeaaDoorPrint19
namespace Go.Proofs.YteflfjbnddieeaaDoor.Print
open Go.RowKit Go.Proofs.YteflfjbnddieeaaDoorW.PrintWords Go.Proofs.YteflfjbnddieeaaDoorW.PrintLast Go.Proofs.YteflfjbnddieeaaDoorW.PrintMore
attribute [local go_sem] max2_int min2_int max_two min_two max_three min_three max_four min_four   -- for this text's walks alone
set_option linter.unusedVariables false
set_option linter.unusedSimpArgs false

/-! ### laws_markIntSS: function 33 -/
def laws_markIntSS.l0 : Nat → List (List Int) → Int → Int → Option (Int × List (List Int))
  | 0, _, _, _ => none
  | k + 1, x0, x1, x5 => if x5 < (x0.length : Int) then (if 0 ≤ x5 then ((laws_markIntS.f k (rd_L2 x0 x5) x1).bind fun bt => laws_markIntSS.l0 k (x0.set x5.toNat bt.2) bt.1 (x5 + 1)) else none) else some (x1, x0)
def laws_markIntSS.f (l0 : List (List Int)) (a1 : Int) : Option (Int × List (List Int)) := laws_markIntSS.l0 ((l0.map List.length).sum + l0.length + 5) l0 a1 0
theorem laws_markIntSS.next_ (j n : Nat) (h : j < n) (hn : n ≤ 9223372036854775807) : wrap64 ((j : Int) + 1) = ((j + 1 : Nat) : Int) := by unfold wrap64; omega
set_option maxHeartbeats 8000000 in
set_option maxRecDepth 100000 in
theorem laws_markIntSS.calls (P0_ : Nat → Prop) (u9000_ : Value) (l0 : List (List Int)) (a1 : Int) (r1 : Int) (r2 : List (List Int)) (w0 w : World) (hB : Below w0.heap.size w0 w) (ho0 : Kd.S (Kd.slice 3 (Kd.int .i64)) 30 w w0.heap.size P0_ u9000_ l0) (h : laws_markIntSS.f l0 a1 = some (r1, r2)) :
    Calls Tryd.prog 33 #[u9000_, .int .i64 a1] w fun e w' => e = .returned (.int .i64 r1) ∧ Kd.S (Kd.slice 3 (Kd.int .i64)) 30 w' w0.heap.size (fun k_ => (P0_ k_ ∨ w.heap.size ≤ k_)) u9000_ r2 ∧ Below w0.heap.size w0 w' ∧ Kept w w' (fun k_ => P0_ k_) := by
  obtain ⟨A, c, rfl⟩ := Kd.S_slice ho0
  have HS0 := Aside0.mk (Kd.S_mono (ok' := fun k_ => (P0_ k_ ∨ w.heap.size ≤ k_)) ho0 (fun k hk => .inl hk))
  have HB0 := Aside0.mk hB
  have HK0 := Aside0.mk (Kept.refl w (fun k_ => P0_ k_))
  have HH := Aside0.mk h
  have hmx : l0.length ≤ 9223372036854775807 := by
    have := Kd.S_reads' ho0
    exact this.2.2.2.1
  clear ho0 hB h
  go_enter Tryd.func33, Tryd.ntmps33
  go_wp2
  go_loopg [5, 1] l0.length (fun kq v5 v1 wr => ∃ (j fu : Nat) (rows : List (List Int)) (kk : Int), v5 = .int .i64 (j : Int) ∧ v1 = .int .i64 kk ∧ Aside0 (j ≤ l0.length ∧ l0.length - j ≤ kq) ∧ Aside0 (laws_markIntSS.l0 fu rows kk (j : Int) = some (r1, r2)) ∧ Aside0 (rows.length = l0.length) ∧ Aside0 (Kd.S (Kd.slice 3 (Kd.int .i64)) 30 wr w0.heap.size (fun k_ => (P0_ k_ ∨ w.heap.size ≤ k_)) (.slice A l0.length c) rows) ∧ Aside0 (Below w0.heap.size w0 wr) ∧ Aside0 (Kept w wr (fun k_ => P0_ k_)))
  case atStart => exact ⟨0, _, l0, a1, rfl, rfl, ⟨by omega⟩, HH, ⟨rfl⟩, HS0, HB0, HK0⟩
  case round =>
    clear HS0 HB0 HK0 HH
    obtain ⟨j, fu, rows, kk, rfl, rfl, HJ, HF, HL, HS, HB, HK⟩ := hrel
    have hj := HJ.out
    have hl := HL.out
    cases fu with
    | zero => exact absurd HF.out (by simp [laws_markIntSS.l0])
    | succ fu =>
      have hF := HF.out
      clear HF
      simp only [laws_markIntSS.l0] at hF
      by_cases cj : (j : Int) < (rows.length : Int)
      · rw [if_pos cj, if_pos (by omega)] at hF
        obtain ⟨⟨t1, t2⟩, hc1, hF⟩ := Option.bind_eq_some_iff.1 hF
        obtain ⟨g, cap, eg, gb, gl, _⟩ := Kd.S_form HS.out (by omega)
        injection eg with ea en ec
        subst ea ec
        have hj2 : (j : Int) < (l0.length : Int) := by omega
        obtain ⟨oki, c1, hcl, hM, hcc, hfr, hoki, hH⟩ := Kd.S_elem HS.out [] (j : Int) (by omega) (by omega)
        obtain ⟨v, rfl, hR⟩ := hM
        obtain ⟨A2, c2, rfl⟩ := Kd.R_slice hR
        have hx : wr.cell? ⟨g, j, none⟩ = some (.slice A2 ((rows.getD (j : Int).toNat []).length) c2) := by
          have := hcc 0 _ rfl
          simpa [Kd.slice] using this
        have hj0 : (0 : Int) ≤ (j : Int) := by omega
        have hj7 : j < l0.length := Int.ofNat_lt.1 hj2
        have hjw := laws_markIntSS.next_ j l0.length hj7 hmx
        have HR := Aside0.mk hR
        have HC1 := Aside0.mk hc1
        have HF2 := Aside0.mk hF
        have HHole := Aside0.mk hH
        have HOK := Aside0.mk hoki
        clear hcc hfr hcl hR hc1 hF hH hoki en hl hj cj
        go_wp2_with (go_at_call 24; refine (laws_markIntS.calls fu oki _ _ kk t1 t2 w0 wr HB.out HR.out HC1.out).mono ?_; rintro e w2 ⟨rfl, hR2, hB2, hK2⟩; have HR2 := Aside0.mk hR2; have HB2 := Aside0.mk hB2; have HK2 := Aside0.mk hK2; clear hR2 hB2 hK2)
        go_roundg (l0.length - (j + 1))
        case measure => have := HJ.out; omega
        case rel =>
          have hle : w.heap.size ≤ wr.heap.size := HK.out.1
          have hH2 := Kd.H_step (Kd.H_widen HHole.out) (w1 := w2) (fun k hk hn hlt => HK2.out.2 k hlt (fun ho => hn (.inl ho)))
          refine ⟨j + 1, fu, rows.set j t2, t1, by first | rfl | (simp [hjw]) | (rw [← hjw]; rfl), rfl, ⟨by omega⟩, ⟨by simpa using HF2.out⟩, ⟨by rw [List.length_set]; exact HL.out⟩, ⟨?_⟩, HB2, ⟨Kept.then_ HK.out HK2.out (fun k hk => (HOK.out k hk).1)⟩⟩
          have := Kd.H_back hH2 (x' := t2) (okp := fun k => oki k ∨ wr.heap.size ≤ k) ⟨_, rfl, HR2.out⟩ (fun k hk => hk.elim .inl (fun h3 => .inr ⟨.inr (Nat.le_trans hle h3), h3⟩))
          simpa using this
      · rw [if_neg cj] at hF
        injection hF with hF
        injection hF with h1 h2
        subst h1 h2
        have cj2 : ¬ (j < l0.length) := by omega
        have cj3 : ¬ ((j : Int) < (l0.length : Int)) := by omega
        clear hl hj cj
        go_wp2
        go_ret
        exact ⟨rfl, HS.out, HB.out, HK.out⟩


/-! ### laws_heldIntSS: function 34 -/
def laws_heldIntSS.l0 : Nat → List (List Int) → Int → Int → Option (Int)
  | 0, _, _, _ => none
  | k + 1, x0, x1, x5 => if x5 < (x0.length : Int) then (if 0 ≤ x5 then ((laws_heldIntS.f k (rd_L2 x0 x5) x1).bind fun t351 => (if t351 < 0 then (some (-1)) else (laws_heldIntSS.l0 k x0 t351 (wrap64 (x5 + 1))))) else (none)) else (some x1)
def laws_heldIntSS.f (k : Nat) (l0 : List (List Int)) (a1 : Int) : Option (Int) := laws_heldIntSS.l0 k l0 a1 0
theorem laws_heldIntSS.mono_l : ∀ k, (∀ y0 y1 y2, LeO (laws_heldIntSS.l0 k y0 y1 y2) (laws_heldIntSS.l0 (k + 1) y0 y1 y2))
  | 0 => fun _ _ _ r h => by simp [laws_heldIntSS.l0] at h
  | k + 1 => by
    have ih0 := laws_heldIntSS.mono_l k
    · intro y0 y1 y2
      unfold laws_heldIntSS.l0
      repeat' first
      | (with_reducible exact ih0 _ _ _)
      | (with_reducible exact laws_heldIntS.mono _ _ _)
      | (with_reducible exact LeO.refl _)
      | (with_reducible exact LeO.none _)
      | (with_reducible refine LeO.ite ?_ ?_)
      | (with_reducible refine LeO.bind ?_ (fun _ => ?_))
      | exact ih0 _ _ _
      | exact laws_heldIntS.mono _ _ _
      | exact LeO.none _
      | refine LeO.ite ?_ ?_
      | refine LeO.bind ?_ (fun _ => ?_)
theorem laws_heldIntSS.mono : ∀ a0 a1 k, LeO (laws_heldIntSS.f k a0 a1) (laws_heldIntSS.f (k + 1) a0 a1) := by
  intro a0 a1 k
  have ih0 := laws_heldIntSS.mono_l k
  unfold laws_heldIntSS.f
  repeat' first
      | (with_reducible exact ih0 _ _ _)
      | (with_reducible exact laws_heldIntS.mono _ _ _)
      | (with_reducible exact LeO.refl _)
      | (with_reducible exact LeO.none _)
      | (with_reducible refine LeO.ite ?_ ?_)
      | (with_reducible refine LeO.bind ?_ (fun _ => ?_))
      | exact ih0 _ _ _
      | exact laws_heldIntS.mono _ _ _
      | exact LeO.none _
      | refine LeO.ite ?_ ?_
      | refine LeO.bind ?_ (fun _ => ?_)
set_option maxHeartbeats 8000000 in
set_option maxRecDepth 100000 in
theorem laws_heldIntSS.calls (k : Nat) (A0 : Option Addr) (c0 : Nat) (l0 : List (List Int)) (a1 : Int) (r : Int) (w : World) (hr0 : Kd.C (Kd.slice 3 (Kd.int .i64)) w A0 l0.length l0) (hc0 : l0.length ≤ c0) (h : laws_heldIntSS.f k l0 a1 = some r) :
    Calls Tryd.prog 34 #[.slice A0 l0.length c0, .int .i64 a1] w fun e w' => e = .returned (.int .i64 r) ∧ Drawn0 w w' := by
  have HR0 := Aside0.mk hr0
  have HC0 := Aside0.mk hc0
  clear hr0 hc0
  have H : (laws_heldIntSS.l0 k l0 a1 0) = some r := h
  clear h
  have H' := Aside0.mk H
  clear H
  go_enter Tryd.func34, Tryd.ntmps34
  go_wp2
  go_loopg [1, 5] k (fun kq v1 v5 w' => ∃ (x1_1 : Int) (x5_1 : Int), v1 = .int .i64 x1_1 ∧ v5 = .int .i64 x5_1 ∧ Aside0 (laws_heldIntSS.l0 kq l0 x1_1 x5_1 = some r) ∧ Aside0 (kq ≤ k) ∧ Drawn0 w w')
  case atStart => exact ⟨(a1), (0), (by first | rfl | (simp; done) | (simp [*]; done)), (by first | rfl | (simp; done) | (simp [*]; done)), H', ⟨Nat.le_refl _⟩, by repeat (first | exact Drawn0.refl _ | apply Drawn0.step)⟩
  case round =>
    clear H'
    try clear p2
    obtain ⟨x1_1, x5_1, rfl, rfl, HA, HK1, ⟨m1, rfl⟩⟩ := hrel
    cases gk with
    | zero => exact absurd HA.out (by simp [laws_heldIntSS.l0])
    | succ k1 =>
      have H := HA.out
      clear HA
      simp only [laws_heldIntSS.l0] at H
      by_cases c3 : x5_1 < (l0.length : Int)
      · rw [if_pos c3] at H
        have c3b0 : decide (x5_1 < (l0.length : Int)) = true := decide_eq_true c3
        clear c3
        by_cases c4 : 0 ≤ x5_1
        · rw [if_pos c4] at H
          have c4b0 : decide (0 ≤ x5_1) = true := decide_eq_true c4
          clear c4
          replace H := Option.bind_eq_some_iff.mp H
          obtain ⟨t351, A50, H⟩ := H
          replace H : (if t351 < 0 then (some (-1)) else (laws_heldIntSS.l0 k1 l0 t351 (wrap64 (x5_1 + 1)))) = some r := H
          have A5 := Aside0.mk A50
          clear A50
          by_cases c6 : t351 < 0
          · rw [if_pos c6] at H
            have c6b0 : decide (t351 < 0) = true := decide_eq_true c6
            clear c6
            obtain rfl := Option.some.inj H
            have p350 : 0 ≤ (x5_1 : Int) := of_decide_eq_true (by first | (with_reducible assumption) | assumption)
            have q350 : x5_1 < (l0.length : Int) := of_decide_eq_true (by first | (with_reducible assumption) | assumption)
            obtain ⟨ad350, A350_0, c350_0, e350, hx350_0, hl350_0, hi350_0⟩ := at_L2 HR0.out x5_1 p350 q350
            cases e350
            have HR350_0 := Aside0.mk hi350_0
            have HC350_0 := Aside0.mk hl350_0
            clear hi350_0 hl350_0
            replace p350 := eq_true p350
            replace q350 := eq_true q350
            go_wp2_with (first | ((with_reducible refine gate_callee (f := 25) rfl ?_); refine goesL_ (some 17) rfl rfl Tryd.func25 (by kernel_rfl) rfl #[.slice A350_0 (rd_L2 l0 x5_1).length c350_0, .int .i64 x1_1] rfl (by (try simp only [List.map_toArray, List.map_cons, List.map_nil]); first | done | rfl | (simp only [List.length_drop, List.length_take]; rfl)) ?_; (with_reducible refine (laws_heldIntS.calls k1 _ _ (rd_L2 l0 x5_1) x1_1 t351 _ ?side1 ?side2 A5.out).mono ?_); (case side1 => repeat (first | exact HR350_0.out | (with_reducible refine Kd.C_alloc ?_ _) | (with_reducible refine Kd.C_drewN ?_ _) | (with_reducible refine Kd.C_drew ?_))); (case side2 => exact HC350_0.out); rintro e w' ⟨rfl, ⟨nd, rfl⟩⟩; refine ⟨_, rfl, ?_⟩))
            go_ret
            exact ⟨by first | rfl | (simp; done) | (simp [*]; done), by repeat (first | exact Drawn0.refl _ | apply Drawn0.step)⟩
          · rw [if_neg c6] at H
            have c6b0 : decide (t351 < 0) = false := decide_eq_false c6
            clear c6
            have H' := Aside0.mk H
            clear H
            have p350 : 0 ≤ (x5_1 : Int) := of_decide_eq_true (by first | (with_reducible assumption) | assumption)
            have q350 : x5_1 < (l0.length : Int) := of_decide_eq_true (by first | (with_reducible assumption) | assumption)
            obtain ⟨ad350, A350_0, c350_0, e350, hx350_0, hl350_0, hi350_0⟩ := at_L2 HR0.out x5_1 p350 q350
            cases e350
            have HR350_0 := Aside0.mk hi350_0
            have HC350_0 := Aside0.mk hl350_0
            clear hi350_0 hl350_0
            replace p350 := eq_true p350
            replace q350 := eq_true q350
            go_wp2_with (first | ((with_reducible refine gate_callee (f := 25) rfl ?_); refine goesL_ (some 17) rfl rfl Tryd.func25 (by kernel_rfl) rfl #[.slice A350_0 (rd_L2 l0 x5_1).length c350_0, .int .i64 x1_1] rfl (by (try simp only [List.map_toArray, List.map_cons, List.map_nil]); first | done | rfl | (simp only [List.length_drop, List.length_take]; rfl)) ?_; (with_reducible refine (laws_heldIntS.calls k1 _ _ (rd_L2 l0 x5_1) x1_1 t351 _ ?side1 ?side2 A5.out).mono ?_); (case side1 => repeat (first | exact HR350_0.out | (with_reducible refine Kd.C_alloc ?_ _) | (with_reducible refine Kd.C_drewN ?_ _) | (with_reducible refine Kd.C_drew ?_))); (case side2 => exact HC350_0.out); rintro e w' ⟨rfl, ⟨nd, rfl⟩⟩; refine ⟨_, rfl, ?_⟩))
            go_roundg k1
            case measure => have := HK1.out; omega
            case rel => exact ⟨(t351), (wrap64 (x5_1 + 1)), (by first | rfl | (simp; done) | (simp [*]; done)), (by first | rfl | (simp; done) | (simp [*]; done)), H', ⟨by have := HK1.out; omega⟩, by repeat (first | exact Drawn0.refl _ | apply Drawn0.step)⟩
        · rw [if_neg c4] at H
          exact absurd H (by simp)
      · rw [if_neg c3] at H
        have c3b0 : decide (x5_1 < (l0.length : Int)) = false := decide_eq_false c3
        clear c3
        obtain rfl := Option.some.inj H
        go_wp2
        go_ret
        exact ⟨by first | rfl | (simp; done) | (simp [*]; done), by repeat (first | exact Drawn0.refl _ | apply Drawn0.step)⟩

-- NOT PRINTED: function 10 (laws_FnExactSoundParts)

end Go.Proofs.YteflfjbnddieeaaDoor.Print
