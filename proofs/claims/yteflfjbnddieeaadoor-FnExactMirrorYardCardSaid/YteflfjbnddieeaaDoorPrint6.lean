-- PRINTED by print.py (a twelfth state) out of the translation. Not trusted: Lean checks it.
import Derived.Test.YteflfjbnddieeaaDoorPrint0
import Derived.Test.YteflfjbnddieeaaDoorPrint3
import Derived.Test.YteflfjbnddieeaaDoorPrint4
namespace Go.Proofs.YteflfjbnddieeaaDoor.Print
open Go.RowKit Go.Proofs.YteflfjbnddieeaaDoorW.PrintWords Go.Proofs.YteflfjbnddieeaaDoorW.PrintLast Go.Proofs.YteflfjbnddieeaaDoorW.PrintMore
attribute [local go_sem] max2_int min2_int max_two min_two max_three min_three max_four min_four   -- for this text's walks alone
set_option linter.unusedVariables false
set_option linter.unusedSimpArgs false

/-! ### impl_mirrored: function 42 -/
def impl_mirrored.f (a0 : ByteArray) : Option ByteArray := if 1 ≤ a0.size ∧ a0.size ≤ 1000 then some (strOfNums (bytesOf a0).reverse) else none
set_option maxHeartbeats 8000000 in
set_option maxRecDepth 100000 in
theorem impl_mirrored.calls (a0 : ByteArray) (r : ByteArray) (w : World) (h : impl_mirrored.f a0 = some r) :
    Calls Tryd.prog 42 #[.string a0] w fun e w' => e = .returned (.string r) ∧ Below w.heap.size w w' := by
  unfold impl_mirrored.f at h
  by_cases c : 1 ≤ a0.size ∧ a0.size ≤ 1000
  · rw [if_pos c] at h
    obtain rfl := Option.some.inj h
    have hb := fun W : World => print_bytes (P := Tryd.prog) 9 65 5 Tryd.underlying9 Tryd.underlying65 Tryd.underlying5 a0 W
    have hlen := bytesOf_length a0
    have hone : OneCell (Value.int .u8) := fun _ => rfl
    have hH : Sort.Holds (Value.int .u8) (Lib.bytesWorld w 5 a0) w.heap.size 0 (bytesOf a0).toArray := by
      intro j hj
      have hj2 : j < a0.size := by rw [← hlen]; simpa using hj
      refine ⟨?_, ?_⟩
      · rw [Nat.zero_add, Lib.bytesWorld_cell w 5 a0 j hj2]
        have h' : j < a0.data.toList.length := by rw [data_length]; exact hj2
        simp [bytesOf, List.getD_eq_getElem?_getD, List.getElem?_eq_getElem h', getElem!_pos, hj2]
        try rfl
      · unfold World.frozen?
        rw [Lib.bytesWorld_at_new]
        have hsz : a0.size ≤ (Lib.bytesCells w 5 a0).size := by simp [Lib.bytesCells]
        simp only [Nat.zero_add]
        rw [Bool.and_eq_false_iff]
        left
        rw [decide_eq_false_iff_not]
        omega
    have hrev : ∀ cap, Calls Tryd.prog 62 #[.slice (some ⟨w.heap.size, 0, none⟩) a0.size cap] (Lib.bytesWorld w 5 a0) fun e w' => e = .returned (.tuple #[]) ∧ ∃ n, w' = Sort.putRow (Value.int .u8) (Sort.ahead (Lib.bytesWorld w 5 a0) n) w.heap.size 0 (bytesOf a0).reverse.toArray := by
      intro cap
      have h := AnyE.slices_Reverse Sh.Tryd.laysRev (Value.int .u8) hone w.heap.size 0 cap (bytesOf a0) (Lib.bytesWorld w 5 a0) hH (by omega)
      rw [hlen] at h
      exact h
    have hB1 := bytes_below (Below.refl w.heap.size w) (Nat.le_refl _) 5 a0
    generalize hW : Lib.bytesWorld w 5 a0 = W at hrev hH hB1
    have hput : ∀ n, (∀ i, i < a0.size → (Sort.putRow (Value.int .u8) (Sort.ahead W n) w.heap.size 0 (bytesOf a0).reverse.toArray).cell? ⟨w.heap.size, 0 + i, none⟩ = some (.int .u8 ((bytesOf a0).reverse.getD i 0))) ∧ Below w.heap.size w (Sort.putRow (Value.int .u8) (Sort.ahead W n) w.heap.size 0 (bytesOf a0).reverse.toArray) := by
      intro n
      refine ⟨fun i hi => ?_, Lib.below_putRow hB1 (Nat.le_refl _)⟩
      have := (Sort.holds_putRow (Value.int .u8) (Sort.ahead W n) w.heap.size 0 (bytesOf a0).toArray (bytesOf a0).reverse.toArray (Sort.holds_ahead (Value.int .u8) W n w.heap.size 0 _ hH) (by simp)) i (by simp [hlen, hi])
      rw [this.1]
      have hi2 : i < (bytesOf a0).reverse.length := by rw [List.length_reverse, hlen]; exact hi
      simp [List.getD_eq_getElem?_getD, List.getElem?_eq_getElem hi2, getElem!_pos, hlen, hi]
    have hcv := fun (V : World) (cap : Nat) (hc : ∀ i, i < a0.size → V.cell? ⟨w.heap.size, 0 + i, none⟩ = some (.int .u8 ((bytesOf a0).reverse.getD i 0))) => run_convert_bytes_arg (P := Tryd.prog) (w := V) 65 5 Tryd.underlying65 Tryd.underlying5 w.heap.size 0 a0.size cap (bytesOf a0).reverse (by rw [List.length_reverse, hlen]) hc 9 Tryd.underlying9
    have hb0 := hb w
    rw [hW] at hb0
    clear hH hb hone hB1
    go_enter Tryd.func42, Tryd.ntmps42
    go_wp2_with (go_at_call 62; refine (hrev _).mono ?_; rintro e w' ⟨rfl, nq, hw⟩; obtain ⟨h1, h2⟩ := hput nq; rw [← hw] at h1 h2; have hcv2 := fun cap => hcv w' cap h1; have HB2 := Aside0.mk h2; clear hw h1 h2 hcv hput hrev)
    go_ret
    exact ⟨rfl, HB2.out⟩
  · rw [if_neg c] at h
    exact absurd h (by simp)


/-! ### impl_MirrorYard: function 16 -/
def impl_MirrorYard.f (a0 : ByteArray) : Option (ByteArray × Bool) := (impl_IsYard.f a0).bind fun t113 => (if t113 = true then ((impl_mirrored.f a0).bind fun t114 => (some (t114, true))) else (some ((⟨#[]⟩ : ByteArray), false)))
set_option maxHeartbeats 8000000 in
set_option maxRecDepth 100000 in
theorem impl_MirrorYard.calls (a0 : ByteArray) (r1 : ByteArray) (r2 : Bool) (w : World) (h : impl_MirrorYard.f a0 = some (r1, r2)) :
    Calls Tryd.prog 16 #[.string a0] w fun e w' => e = .returned (.tuple #[.string r1, .bool r2]) ∧ Below w.heap.size w w' := by
  have HB := Aside0.mk (Below.refl w.heap.size w)
  have H : ((impl_IsYard.f a0).bind fun t113 => (if t113 = true then ((impl_mirrored.f a0).bind fun t114 => (some (t114, true))) else (some ((⟨#[]⟩ : ByteArray), false)))) = some (r1, r2) := h
  clear h
  replace H := Option.bind_eq_some_iff.mp H
  obtain ⟨t113, A20, H⟩ := H
  replace H : (if t113 = true then ((impl_mirrored.f a0).bind fun t114 => (some (t114, true))) else (some ((⟨#[]⟩ : ByteArray), false))) = some (r1, r2) := H
  have A2 := Aside0.mk A20
  clear A20
  by_cases c3 : t113 = true
  · subst c3
    have H1 : ((impl_mirrored.f a0).bind fun t114 => (some (t114, true))) = some (r1, r2) := by rw [if_pos rfl] at H; exact H
    clear H
    have H := H1
    clear H1
    replace H := Option.bind_eq_some_iff.mp H
    obtain ⟨t114, A40, H⟩ := H
    replace H : (some (t114, true)) = some (r1, r2) := H
    have A4 := Aside0.mk A40
    clear A40
    simp only [Option.some.injEq, Prod.mk.injEq] at H
    obtain ⟨rfl, rfl⟩ := H
    go_enter Tryd.func16, Tryd.ntmps16
    go_wp2_with (first | ((with_reducible refine gate_callee (f := 14) rfl ?_); refine goesL_ (some 5) rfl rfl Tryd.func14 (by kernel_rfl) rfl #[.string a0] rfl (by (try simp only [List.map_toArray, List.map_cons, List.map_nil]); first | done | rfl | (simp only [List.length_drop, List.length_take]; rfl)) ?_; (with_reducible refine (impl_IsYard.calls a0 true _ A2.out).mono ?_); rintro e w5 ⟨rfl, hb⟩; refine ⟨_, rfl, ?_⟩; have n0_ := Aside0.mk (below_step (by repeat (first | (with_reducible first | exact HB.out | apply below_alloc | apply pw_below_drewN | apply below_drew1) | exact HB.out)) hb); clear HB; have HB := n0_; clear n0_; (try clear hb); (try clear hb2); (try clear hk); (try clear hi); (try clear hftr)) | ((with_reducible refine gate_callee (f := 42) rfl ?_); refine goesL_ (some 8) rfl rfl Tryd.func42 (by kernel_rfl) rfl #[.string a0] rfl (by (try simp only [List.map_toArray, List.map_cons, List.map_nil]); first | done | rfl | (simp only [List.length_drop, List.length_take]; rfl)) ?_; (with_reducible refine (impl_mirrored.calls a0 t114 _ A4.out).mono ?_); rintro e w6 ⟨rfl, hb⟩; refine ⟨_, rfl, ?_⟩; have n0_ := Aside0.mk (below_step (by repeat (first | (with_reducible first | exact HB.out | apply below_alloc | apply pw_below_drewN | apply below_drew1) | exact HB.out)) hb); clear HB; have HB := n0_; clear n0_; (try clear hb); (try clear hb2); (try clear hk); (try clear hi); (try clear hftr)))
    go_ret2
    exact ⟨by first | rfl | (simp [errW_none, errW_some] <;> rfl) | (simp [*, errW_none, errW_some] <;> rfl), by repeat (first | (with_reducible first | exact HB.out | apply below_alloc | apply pw_below_drewN | apply below_drew1) | exact HB.out)⟩
  · replace c3 := Bool.eq_false_iff.mpr c3
    subst c3
    have H1 : (some ((⟨#[]⟩ : ByteArray), false)) = some (r1, r2) := by rw [if_neg (show ¬ (false = true) by decide)] at H; exact H
    clear H
    have H := H1
    clear H1
    simp only [Option.some.injEq, Prod.mk.injEq] at H
    obtain ⟨rfl, rfl⟩ := H
    go_enter Tryd.func16, Tryd.ntmps16
    go_wp2_with (first | ((with_reducible refine gate_callee (f := 14) rfl ?_); refine goesL_ (some 5) rfl rfl Tryd.func14 (by kernel_rfl) rfl #[.string a0] rfl (by (try simp only [List.map_toArray, List.map_cons, List.map_nil]); first | done | rfl | (simp only [List.length_drop, List.length_take]; rfl)) ?_; (with_reducible refine (impl_IsYard.calls a0 false _ A2.out).mono ?_); rintro e w7 ⟨rfl, hb⟩; refine ⟨_, rfl, ?_⟩; have n0_ := Aside0.mk (below_step (by repeat (first | (with_reducible first | exact HB.out | apply below_alloc | apply pw_below_drewN | apply below_drew1) | exact HB.out)) hb); clear HB; have HB := n0_; clear n0_; (try clear hb); (try clear hb2); (try clear hk); (try clear hi); (try clear hftr)))
    go_ret2
    exact ⟨by first | rfl | (simp [errW_none, errW_some] <;> rfl) | (simp [*, errW_none, errW_some] <;> rfl), by repeat (first | (with_reducible first | exact HB.out | apply below_alloc | apply pw_below_drewN | apply below_drew1) | exact HB.out)⟩

/-! ### laws_FnExactMirrorYard: function 4 -/
def laws_FnExactMirrorYard.f (k : Nat) (a0 : ByteArray) : Option (Bool) := if (a0.size : Int) > 1048576 then (some true) else ((spec_MirrorYard.f k a0).bind fun bt115 => ((impl_MirrorYard.f a0).bind fun bt117 => (if bt117.1.toList = bt115.1.toList then (if (bt117.2 != bt115.2) = true then (some false) else (some true)) else (some false))))
theorem laws_FnExactMirrorYard.mono : ∀ a0 k, LeO (laws_FnExactMirrorYard.f k a0) (laws_FnExactMirrorYard.f (k + 1) a0) := by
  intro a0 k
  unfold laws_FnExactMirrorYard.f
  repeat' first
      | (with_reducible exact spec_MirrorYard.mono _ _)
      | (with_reducible exact LeO.refl _)
      | (with_reducible exact LeO.none _)
      | (with_reducible refine LeO.ite ?_ ?_)
      | (with_reducible refine LeO.bind ?_ (fun _ => ?_))
      | exact spec_MirrorYard.mono _ _
      | exact LeO.none _
      | refine LeO.ite ?_ ?_
      | refine LeO.bind ?_ (fun _ => ?_)
set_option maxHeartbeats 8000000 in
set_option maxRecDepth 100000 in
theorem laws_FnExactMirrorYard.calls (k : Nat) (a0 : ByteArray) (r : Bool) (w : World) (h : laws_FnExactMirrorYard.f k a0 = some r) :
    Calls Tryd.prog 4 #[.string a0] w fun e w' => e = .returned (.bool r) ∧ Below w.heap.size w w' := by
  have HB := Aside0.mk (Below.refl w.heap.size w)
  have H : (if (a0.size : Int) > 1048576 then (some true) else ((spec_MirrorYard.f k a0).bind fun bt115 => ((impl_MirrorYard.f a0).bind fun bt117 => (if bt117.1.toList = bt115.1.toList then (if (bt117.2 != bt115.2) = true then (some false) else (some true)) else (some false))))) = some r := h
  clear h
  by_cases c2 : (a0.size : Int) > 1048576
  · rw [if_pos c2] at H
    have c2b0 : decide (1048576 < (a0.size : Int)) = true := decide_eq_true c2
    have c2b1 : decide (1048576 < a0.size) = true := decide_eq_true (by omega)
    clear c2
    obtain rfl := Option.some.inj H
    go_enter Tryd.func4, Tryd.ntmps4
    go_wp2
    go_ret
    exact ⟨by first | rfl | (simp [errW_none, errW_some] <;> rfl) | (simp [*, errW_none, errW_some] <;> rfl), by repeat (first | (with_reducible first | exact HB.out | apply below_alloc | apply pw_below_drewN | apply below_drew1) | exact HB.out)⟩
  · rw [if_neg c2] at H
    have c2b0 : decide (1048576 < (a0.size : Int)) = false := decide_eq_false c2
    have c2b1 : decide (1048576 < a0.size) = false := decide_eq_false (by omega)
    clear c2
    replace H := Option.bind_eq_some_iff.mp H
    obtain ⟨⟨t115, t116⟩, A30, H⟩ := H
    replace H : ((impl_MirrorYard.f a0).bind fun bt117 => (if bt117.1.toList = t115.toList then (if (bt117.2 != t116) = true then (some false) else (some true)) else (some false))) = some r := H
    have A3 := Aside0.mk A30
    clear A30
    replace H := Option.bind_eq_some_iff.mp H
    obtain ⟨⟨t117, t118⟩, A40, H⟩ := H
    replace H : (if t117.toList = t115.toList then (if (t118 != t116) = true then (some false) else (some true)) else (some false)) = some r := H
    have A4 := Aside0.mk A40
    clear A40
    by_cases c5 : t117.toList = t115.toList
    · rw [if_pos c5] at H
      have c5b0 : (t117.toList == t115.toList) = true := beq_iff_eq.mpr c5
      have c5b1 : (t117.toList != t115.toList) = false := bne_eq_false_iff_eq.mpr c5
      clear c5
      by_cases c6 : (t118 != t116) = true
      · rw [if_pos c6] at H
        have c6b0 : (t118 != t116) = true := c6
        (try (have c6b1 : decide (t118 = t116) = false := by simpa using c6))
        (try (have c6b2 : (t118 == t116) = false := by simpa using c6))
        (try (have c6b3 : ¬ (t118 = t116) := by simpa using c6))
        clear c6
        obtain rfl := Option.some.inj H
        go_enter Tryd.func4, Tryd.ntmps4
        go_wp2_with (first | ((with_reducible refine gate_callee (f := 15) rfl ?_); refine goesL_ (some 12) rfl rfl Tryd.func15 (by kernel_rfl) rfl #[.string a0] rfl (by (try simp only [List.map_toArray, List.map_cons, List.map_nil]); first | done | rfl | (simp only [List.length_drop, List.length_take]; rfl)) ?_; (with_reducible refine (spec_MirrorYard.calls k a0 t115 t116 _ A3.out).mono ?_); rintro e w' ⟨rfl, ⟨nd, rfl⟩⟩; refine ⟨_, rfl, ?_⟩) | ((with_reducible refine gate_callee (f := 16) rfl ?_); refine goesL_ (some 17) rfl rfl Tryd.func16 (by kernel_rfl) rfl #[.string a0] rfl (by (try simp only [List.map_toArray, List.map_cons, List.map_nil]); first | done | rfl | (simp only [List.length_drop, List.length_take]; rfl)) ?_; (with_reducible refine (impl_MirrorYard.calls a0 t117 t118 _ A4.out).mono ?_); rintro e w7 ⟨rfl, hb⟩; refine ⟨_, rfl, ?_⟩; have n0_ := Aside0.mk (below_step (by repeat (first | (with_reducible first | exact HB.out | apply below_alloc | apply pw_below_drewN | apply below_drew1) | exact HB.out)) hb); clear HB; have HB := n0_; clear n0_; (try clear hb); (try clear hb2); (try clear hk); (try clear hi); (try clear hftr)))
        go_ret
        exact ⟨by first | rfl | (simp [errW_none, errW_some] <;> rfl) | (simp [*, errW_none, errW_some] <;> rfl), by repeat (first | (with_reducible first | exact HB.out | apply below_alloc | apply pw_below_drewN | apply below_drew1) | exact HB.out)⟩
      · rw [if_neg c6] at H
        have c6b0 : (t118 != t116) = false := by simpa using c6
        (try (have c6b1 : decide (t118 = t116) = true := by simpa using c6))
        (try (have c6b2 : (t118 == t116) = true := by simpa using c6))
        clear c6
        obtain rfl := Option.some.inj H
        go_enter Tryd.func4, Tryd.ntmps4
        go_wp2_with (first | ((with_reducible refine gate_callee (f := 15) rfl ?_); refine goesL_ (some 12) rfl rfl Tryd.func15 (by kernel_rfl) rfl #[.string a0] rfl (by (try simp only [List.map_toArray, List.map_cons, List.map_nil]); first | done | rfl | (simp only [List.length_drop, List.length_take]; rfl)) ?_; (with_reducible refine (spec_MirrorYard.calls k a0 t115 t116 _ A3.out).mono ?_); rintro e w' ⟨rfl, ⟨nd, rfl⟩⟩; refine ⟨_, rfl, ?_⟩) | ((with_reducible refine gate_callee (f := 16) rfl ?_); refine goesL_ (some 17) rfl rfl Tryd.func16 (by kernel_rfl) rfl #[.string a0] rfl (by (try simp only [List.map_toArray, List.map_cons, List.map_nil]); first | done | rfl | (simp only [List.length_drop, List.length_take]; rfl)) ?_; (with_reducible refine (impl_MirrorYard.calls a0 t117 t118 _ A4.out).mono ?_); rintro e w8 ⟨rfl, hb⟩; refine ⟨_, rfl, ?_⟩; have n0_ := Aside0.mk (below_step (by repeat (first | (with_reducible first | exact HB.out | apply below_alloc | apply pw_below_drewN | apply below_drew1) | exact HB.out)) hb); clear HB; have HB := n0_; clear n0_; (try clear hb); (try clear hb2); (try clear hk); (try clear hi); (try clear hftr)))
        go_ret
        exact ⟨by first | rfl | (simp [errW_none, errW_some] <;> rfl) | (simp [*, errW_none, errW_some] <;> rfl), by repeat (first | (with_reducible first | exact HB.out | apply below_alloc | apply pw_below_drewN | apply below_drew1) | exact HB.out)⟩
    · rw [if_neg c5] at H
      have c5b0 : (t117.toList == t115.toList) = false := beq_eq_false_iff_ne.mpr c5
      have c5b1 : (t117.toList != t115.toList) = true := bne_iff_ne.mpr c5
      obtain rfl := Option.some.inj H
      go_enter Tryd.func4, Tryd.ntmps4
      go_wp2_with (first | ((with_reducible refine gate_callee (f := 15) rfl ?_); refine goesL_ (some 12) rfl rfl Tryd.func15 (by kernel_rfl) rfl #[.string a0] rfl (by (try simp only [List.map_toArray, List.map_cons, List.map_nil]); first | done | rfl | (simp only [List.length_drop, List.length_take]; rfl)) ?_; (with_reducible refine (spec_MirrorYard.calls k a0 t115 t116 _ A3.out).mono ?_); rintro e w' ⟨rfl, ⟨nd, rfl⟩⟩; refine ⟨_, rfl, ?_⟩) | ((with_reducible refine gate_callee (f := 16) rfl ?_); refine goesL_ (some 17) rfl rfl Tryd.func16 (by kernel_rfl) rfl #[.string a0] rfl (by (try simp only [List.map_toArray, List.map_cons, List.map_nil]); first | done | rfl | (simp only [List.length_drop, List.length_take]; rfl)) ?_; (with_reducible refine (impl_MirrorYard.calls a0 t117 t118 _ A4.out).mono ?_); rintro e w9 ⟨rfl, hb⟩; refine ⟨_, rfl, ?_⟩; have n0_ := Aside0.mk (below_step (by repeat (first | (with_reducible first | exact HB.out | apply below_alloc | apply pw_below_drewN | apply below_drew1) | exact HB.out)) hb); clear HB; have HB := n0_; clear n0_; (try clear hb); (try clear hb2); (try clear hk); (try clear hi); (try clear hftr)))
      go_ret
      exact ⟨by first | rfl | (simp [errW_none, errW_some] <;> rfl) | (simp [*, errW_none, errW_some] <;> rfl), by repeat (first | (with_reducible first | exact HB.out | apply below_alloc | apply pw_below_drewN | apply below_drew1) | exact HB.out)⟩

/-- THE ONE PURE STATEMENT of laws_FnExactMirrorYard: yours. -/
def laws_FnExactMirrorYard.Pure : Prop := ∀ (a0 : ByteArray), a0.size ≤ 140737488351232 → ∃ k, laws_FnExactMirrorYard.f k a0 = some true
theorem laws_FnExactMirrorYard.walk (P : laws_FnExactMirrorYard.Pure) (a0 : ByteArray) (w : World) (w0 : a0.size ≤ 140737488351232) :
    Calls Tryd.prog 4 #[.string a0] w fun e w' => e = .returned (.bool true) ∧ Below w.heap.size w w' := by
  obtain ⟨k, h⟩ := P a0 w0
  refine (laws_FnExactMirrorYard.calls k a0 true w h).mono ?_
  rintro e w' ⟨rfl, hd⟩
  exact ⟨rfl, hd⟩

end Go.Proofs.YteflfjbnddieeaaDoor.Print
