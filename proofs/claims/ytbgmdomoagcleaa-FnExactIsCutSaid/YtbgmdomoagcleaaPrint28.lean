-- PRINTED by print.py (a twelfth state) out of the translation. Not trusted: Lean checks it.
import Derived.Test.YtbgmdomoagcleaaPrint0
import Derived.Test.YtbgmdomoagcleaaPrint27
namespace Go.Proofs.Ytbgmdomoagcleaa.Print
open Go.RowKit Go.Proofs.YtbgmdomoagcleaaW.PrintWords Go.Proofs.YtbgmdomoagcleaaW.PrintLast Go.Proofs.YtbgmdomoagcleaaW.PrintMore
attribute [local go_sem] max2_int min2_int max_two min_two max_three min_three max_four min_four   -- for this text's walks alone
set_option linter.unusedVariables false
set_option linter.unusedSimpArgs false

/-! ### slices_Repeat_int_int: function 74 -/
def slices_Repeat_int_int.f (l0 : List Int) (a1 : Int) : Option (List Int) := if l0.length = 1 ∧ 1 ≤ a1 ∧ a1 ≤ 1000 then some (List.replicate a1.toNat (rd l0 0)) else none
theorem slices_Repeat_int_int.mul_one_ (n : Nat) (h2 : n ≤ 1000) : bits_Mul.f 1 (n : Int) = some (0, (n : Int)) := by
  have e : ∀ m : Nat, m ≤ 1000 → bits_Mul.f 1 (m : Int) = some (0, (m : Int)) := by
    unfold bits_Mul.f bits_Mul64.f
    decide +kernel
  exact e n h2
/-- The row in the making: m cells hold v, the others zero. -/
def slices_Repeat_int_int.half (v : Int) (m n : Nat) : List Value := List.replicate m (.int .i64 v) ++ List.replicate (n - m) (.int .i64 0)
theorem slices_Repeat_int_int.half_length (v : Int) (m n : Nat) (h : m ≤ n) : (slices_Repeat_int_int.half v m n).length = n := by simp [slices_Repeat_int_int.half]; omega
theorem slices_Repeat_int_int.half_splice (v : Int) (m n q : Nat) : splice (slices_Repeat_int_int.half v m n) m (List.replicate q (.int .i64 v)) = slices_Repeat_int_int.half v (m + q) n := by
  unfold splice slices_Repeat_int_int.half
  rw [List.take_left' (by simp), List.length_replicate, ← List.drop_drop, List.drop_left' (by simp), List.drop_replicate, ← List.append_assoc, List.replicate_append_replicate, show n - m - q = n - (m + q) by omega]
set_option maxHeartbeats 8000000 in
set_option maxRecDepth 100000 in
theorem slices_Repeat_int_int.calls (A0 : Option Addr) (c0 : Nat) (l0 : List Int) (a1 : Int) (r : List Int) (w : World) (hr0 : Kd.C (Kd.int .i64) w A0 l0.length l0) (hc0 : l0.length ≤ c0) (h : slices_Repeat_int_int.f l0 a1 = some r) :
    Calls Try.prog 74 #[.slice A0 l0.length c0, .int .i64 a1] w fun e w' => ∃ v0_ : Value, e = .returned (v0_) ∧ Kd.R (Kd.int .i64) 3 w' w.heap.size (fun _ => True) v0_ r ∧ Below w.heap.size w w' := by
  unfold slices_Repeat_int_int.f at h
  by_cases c : l0.length = 1 ∧ 1 ≤ a1 ∧ a1 ≤ 1000
  · rw [if_pos c] at h
    obtain rfl := Option.some.inj h
    obtain ⟨cl, c1, c2⟩ := c
    obtain ⟨v, rfl⟩ : ∃ v, l0 = [v] := by
      match l0, cl with
      | [v], _ => exact ⟨v, rfl⟩
    obtain ⟨n, rfl⟩ := Int.eq_ofNat_of_zero_le (show 0 ≤ a1 by omega)
    obtain ⟨ad, rfl, hcells⟩ := hr0.2.2 (by simp)
    obtain ⟨cs, hcl, hck, hcc⟩ := hcells 0 v rfl
    have hcell : w.cell? ad = some (.int .i64 v) := by
      have e : cs = [.int .i64 v] := hck
      subst e
      have := hcc 0 _ rfl
      have e0 : ad.add (0 * (Kd.int IntKind.i64).sz + 0) = ad := by simp [Addr.add]
      rw [e0] at this
      exact this
    clear hcc hck hcl hcells hr0 h
    have hn1 : ¬ ((n : Int) < 0) := by omega
    have hn2 : ¬ ((9223372036854775807 : Int) < (n : Int)) := by omega
    have hw1 : IntKind.u64.wrap (n : Int) = n := by
      have z : IntKind.u64.wrap (n : Int) = (n : Int) % 18446744073709551616 := by simp [IntKind.wrap, IntKind.bits, IntKind.signed]
      rw [z]; omega
    have hmk := fun (W : World) => run_make_row' (P := Try.prog) 27 3 (.int .i64 0) 8 Try.underlying27 (by kernel_rfl) rfl .i64 .i64 n (by omega) (by omega) W
    go_enter Try.func74, Try.ntmps74
    go_wp2_with (first
      | (go_at_call 77; refine (bits_Mul.calls _ _ _ _ _ (slices_Repeat_int_int.mul_one_ n (by omega))).mono ?_; rintro e w' ⟨rfl, hd⟩)
      | go_in)
    have hB1 := Aside0.mk hd.below
    have hBa := Aside0.mk (hB1.out.alloc hB1.out.size (.cells (madeCells #[Value.int .i64 0] n) 3))
    have hBg := Aside0.mk hB1.out.size
    have hmade : madeCells #[Value.int .i64 0] n = (slices_Repeat_int_int.half v 0 n).toArray := by
      apply Array.ext'
      rw [toList_madeCells_one]; simp [slices_Repeat_int_int.half]
    have hg1 := heap_alloc_new w' (.cells (madeCells #[Value.int .i64 0] n) 3)
    have hcell1 : (w'.alloc (.cells (madeCells #[Value.int .i64 0] n) 3)).cell? ad = some (.int .i64 v) := (hBa.out.cell (World.block_lt_of_cell? w _ hcell)).trans hcell
    have hrun := run_copy_row (P := Try.prog) (w'.alloc (.cells (madeCells #[Value.int .i64 0] n) 3)) 27 27 3 3 w'.heap.size 0 n n ad 1 c0 _ 3 [Value.int .i64 v] Try.underlying27 (by kernel_rfl) hg1 (by simp [Nat.min_def]; omega)
      (fun j u hj => by
        match j, hj with
        | 0, hj =>
          have e0 : ad.add 0 = ad := by simp [Addr.add]
          rw [e0, hcell1]; simpa using hj) (by rw [size_madeCells]; simp; omega) (by intro u hu; simp at hu; subst hu; rfl)
    have hrow := setRow_heap (w'.alloc (.cells (madeCells #[Value.int .i64 0] n) 3)) w'.heap.size _ ((madeCells #[Value.int .i64 0] n).toList.take 0 ++ [Value.int .i64 v] ++ (madeCells #[Value.int .i64 0] n).toList.drop (0 + [Value.int .i64 v].length)).toArray 3 (0, 0) hg1
    have hbel := below_setRow hBa.out hBg.out ((madeCells #[Value.int .i64 0] n).toList.take 0 ++ [Value.int .i64 v] ++ (madeCells #[Value.int .i64 0] n).toList.drop (0 + [Value.int .i64 v].length)).toArray
    have hsp : ((madeCells #[Value.int .i64 0] n).toList.take 0 ++ [Value.int .i64 v] ++ (madeCells #[Value.int .i64 0] n).toList.drop (0 + [Value.int .i64 v].length)) = slices_Repeat_int_int.half v 1 n := by
      rw [hmade, List.append_assoc]
      exact slices_Repeat_int_int.half_splice v 0 n 1
    rw [hsp] at hrow hbel hrun
    rw [hrun]
    clear hrun hmk hsp hcell1 hg1 hmade
    generalize (w'.alloc (.cells (madeCells #[Value.int .i64 0] n) 3)).setRow w'.heap.size (slices_Repeat_int_int.half v 1 n).toArray = w2 at hrow hbel ⊢
    have HR := Aside0.mk hrow
    have HB := Aside0.mk hbel
    clear hrow hbel hBa hB1 hd
    generalize w'.heap.size = g at HR hBg ⊢
    simp only [List.length_cons, List.length_nil, Nat.zero_add]
    go_wp2
    go_loopg [8] n (fun kq v8 w' => ∃ m : Nat, v8 = .int .i64 (m : Int) ∧ Aside0 (1 ≤ m ∧ m ≤ n ∧ n - m ≤ kq) ∧ Aside0 (w'.heap[g]? = some (.cells (slices_Repeat_int_int.half v m n).toArray 3 (0, 0))) ∧ Aside0 (Below w.heap.size w w'))
    case atStart => exact ⟨1, rfl, ⟨by omega⟩, HR, HB⟩
    case round =>
      clear HR HB
      obtain ⟨m, rfl, HM, HR, HB⟩ := hrel
      have hm := HM.out
      have hb1 : (0 : Int) ≤ (m : Int) := by omega
      have hb2 : (m : Int) ≤ (n : Int) := by omega
      have hb3 : ¬ ((m : Int) < 0) := by omega
      have hb4 : ¬ ((n : Int) < (m : Int)) := by omega
      by_cases cm : (m : Int) < (n : Int)
      · have hq : ¬ (n = m) := by omega
        have hq2 : ¬ (n - m = 0) := by omega
        have hq3 : (m : Int).toNat = m := Int.toNat_natCast m
        have mixed : Try.prog.follows Departure.mixedOrders = true := by kernel_rfl
        obtain ⟨q, hqe, hq4, hq5, hq6⟩ : ∃ q, q = Nat.min m (n - m) ∧ q ≤ m ∧ q ≤ n - m ∧ 1 ≤ q := ⟨_, rfl, Nat.min_le_left _ _, Nat.min_le_right _ _, Nat.le_min.2 ⟨by omega, by omega⟩⟩
        have hsrc : ∀ j u, (List.replicate q (Value.int .i64 v))[j]? = some u → wr.cell? ((⟨g, 0, none⟩ : Addr).add j) = some u := by
          intro j u hj
          obtain ⟨h1, h2⟩ := List.getElem?_eq_some_iff.1 hj
          rw [List.getElem_replicate] at h2
          rw [List.length_replicate] at h1
          have h3 : j < m := by omega
          have h4 : (⟨g, 0, none⟩ : Addr).add j = ⟨g, j, none⟩ := by
            simp only [Addr.add]
            split <;> simp_all
          rw [h4, blk_cell HR.out j, ← h2]
          simp [slices_Repeat_int_int.half, List.getElem?_append_left, h3]
        have hfit : m + (List.replicate q (Value.int .i64 v)).length ≤ (slices_Repeat_int_int.half v m n).length := by
          rw [slices_Repeat_int_int.half_length v m n (by omega), List.length_replicate]; omega
        have hspl := slices_Repeat_int_int.half_splice v m n q
        have hbw : IntKind.i64.wrap ((m : Int) + (q : Int)) = ((m + q : Nat) : Int) := by
          have z := IntKind.wrap_i64 ((m : Int) + (q : Int))
          rw [z]; omega
        go_wp2
        go_region_law_o (refine step_copy_splice rfl (.tmp 41) (.tmp 44) 27 27 rfl 3 Try.underlying27 (by kernel_rfl) (some ⟨g, m, none⟩) (some ⟨g, 0, none⟩) (n - m) (n - m) m n (by simp [Act.eval, Act.put]) (by simp [Act.eval, Act.put]) g m (slices_Repeat_int_int.half v m n) 3 HR.out (List.replicate q (Value.int .i64 v)) (by simp only [List.length_replicate]; exact hqe) (fun _ => ⟨rfl, _, rfl, hsrc⟩) hfit (by intro u hu; rw [List.eq_of_mem_replicate hu]; rfl) w.heap.size w (by repeat (first | (with_reducible first | exact HB.out | apply below_alloc | apply pw_below_drewN | apply below_drew1) | exact HB.out)) hBg.out ?_; intro w4 hg4 hb4)
        rw [hspl] at hg4
        have hg5 : w4.heap[g]? = some (.cells (slices_Repeat_int_int.half v (m + q) n).toArray 3 (0, 0)) := hg4
        try go_wp2
        go_roundg (n - (m + q))
        case measure => have := HM.out; omega
        case rel => exact ⟨m + q, by first | rfl | (simp only [List.length_replicate]; rw [← hbw]; rfl) | (simp only [← hqe, hbw]) | (simp [hbw]), ⟨by omega, by omega, by omega⟩, ⟨hg5⟩, ⟨hb4⟩⟩
      · obtain rfl : m = n := by omega
        go_wp2
        go_ret
        refine ⟨_, rfl, Kd.R_of_own (enc := Value.int .i64) (h1 := fun _ => rfl) (ok := fun _ => True) (xs := List.replicate m (rd [v] 0)) ⟨by simp [encs], .inr ⟨g, m, _, by simp, hBg.out, HR.out, by simp, by unfold maxLen; omega, by simp [slices_Repeat_int_int.half], by simp [slices_Repeat_int_int.half, encs, rd]⟩⟩ (fun _ _ => trivial), HB.out⟩
  · rw [if_neg c] at h; cases h


end Go.Proofs.Ytbgmdomoagcleaa.Print
