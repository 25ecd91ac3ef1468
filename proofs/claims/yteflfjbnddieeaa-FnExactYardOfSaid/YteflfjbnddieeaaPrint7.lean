-- PRINTED by print.py (a twelfth state) out of the translation. Not trusted: Lean checks it.
import Derived.Test.YteflfjbnddieeaaPrint0
import Derived.Test.YteflfjbnddieeaaPrint4
import Derived.Test.YteflfjbnddieeaaPrint5
import Derived.Test.YteflfjbnddieeaaPrint6
namespace Go.Proofs.Yteflfjbnddieeaa.Print
open Go.RowKit Go.Proofs.YteflfjbnddieeaaW.PrintWords Go.Proofs.YteflfjbnddieeaaW.PrintLast Go.Proofs.YteflfjbnddieeaaW.PrintMore
attribute [local go_sem] max2_int min2_int max_two min_two max_three min_three max_four min_four   -- for this text's walks alone
set_option linter.unusedVariables false
set_option linter.unusedSimpArgs false

/-! ### impl_YardOf: function 6 -/
def impl_YardOf.l0 : Nat → List Int → List Int → Int → Option (ByteArray × Bool)
  | 0, _, _, _ => none
  | k + 1, L, out, i => if i < (L.length : Int) then (if i > 0 ∧ rd L (i - 1) ≥ rd L i then some ((⟨#[]⟩ : ByteArray), false) else (if 0 ≤ rd L i ∧ rd L i < (out.length : Int) then impl_YardOf.l0 k L (out.set (rd L i).toNat 120) (i + 1) else none)) else some (strOfNums out, true)
def impl_YardOf.f (a0 : Int) (l1 : List Int) : Option (ByteArray × Bool) :=
  (impl_within.f a0 1 30).bind fun t => if t = true then (impl_allWithin.f (l1.length + 9) l1 0 (wrap64 (a0 - 1))).bind fun t2 => if t2 = true then (strings_Repeat.f (⟨#[111]⟩ : ByteArray) a0).bind fun s => (if 1 ≤ s.size ∧ s.size ≤ 1000 then impl_YardOf.l0 (l1.length + 2) l1 (bytesOf s) 0 else none) else some ((⟨#[]⟩ : ByteArray), false) else some ((⟨#[]⟩ : ByteArray), false)

set_option maxHeartbeats 8000000 in
set_option maxRecDepth 100000 in
theorem impl_YardOf.calls (a0 : Int) (A1 : Option Addr) (c1 : Nat) (l1 : List Int) (r1 : ByteArray) (r2 : Bool) (w : World) (hr1 : Kd.C (Kd.int .i64) w A1 l1.length l1) (hc1 : l1.length ≤ c1) (h : impl_YardOf.f a0 l1 = some (r1, r2)) :
    Calls Try.prog 6 #[.int .i64 a0, .slice A1 l1.length c1] w fun e w' => e = .returned (.tuple #[.string r1, .bool r2]) ∧ Below w.heap.size w w' := by
  have HR1 := Aside0.mk hr1
  have HC1 := Aside0.mk hc1
  have HB := Aside0.mk (Below.refl w.heap.size w)
  unfold impl_YardOf.f at h
  cases hw : impl_within.f a0 1 30 with
  | none => rw [hw] at h; cases h
  | some t =>
    rw [hw, Option.bind_some] at h
    cases t with
    | false =>
      rw [if_neg (by simp)] at h
      injection h with h
      injection h with h1 h2
      subst h1 h2
      have HW := Aside0.mk hw
      clear hw hr1 hc1
      go_enter Try.func6, Try.ntmps6
      go_wp2_with (go_at_call 11; refine (impl_within.calls _ _ _ _ _ HW.out).mono ?_; rintro e w' ⟨rfl, ⟨nd, rfl⟩⟩)
      go_ret2
      exact ⟨rfl, pw_below_drewN HB.out _⟩
    | true =>
      rw [if_pos rfl] at h
      cases ha : impl_allWithin.f (l1.length + 9) l1 0 (wrap64 (a0 - 1)) with
      | none => rw [ha] at h; cases h
      | some t2 =>
        rw [ha, Option.bind_some] at h
        cases t2 with
        | false =>
          rw [if_neg (by simp)] at h
          injection h with h
          injection h with h1 h2
          subst h1 h2
          have HW := Aside0.mk hw
          have HA := Aside0.mk ha
          clear hw ha hr1 hc1
          go_enter Try.func6, Try.ntmps6
          go_wp2_with (first
            | (go_at_call 11; refine (impl_within.calls _ _ _ _ _ HW.out).mono ?_; rintro e w' ⟨rfl, ⟨nd, rfl⟩⟩)
            | (go_at_call 12; refine (impl_allWithin.calls _ _ _ l1 0 (wrap64 (a0 - 1)) false _ ?hr HC1.out HA.out).mono ?_; (case hr => first | exact HR1.out | exact Kd.C_drewN HR1.out _); rintro e w2 ⟨rfl, hb2⟩; have HB2 := Aside0.mk (below_step (pw_below_drewN HB.out nd) hb2); clear hb2))
          go_ret2
          exact ⟨rfl, HB2.out⟩
        | true =>
          rw [if_pos rfl] at h
          cases hs : strings_Repeat.f (⟨#[111]⟩ : ByteArray) a0 with
          | none => rw [hs] at h; cases h
          | some s =>
            rw [hs, Option.bind_some] at h
            by_cases hz : 1 ≤ s.size ∧ s.size ≤ 1000
            · rw [if_pos hz] at h
              have hlen := bytesOf_length s
              have HW := Aside0.mk hw
              have HA := Aside0.mk ha
              have HS := Aside0.mk hs
              have HH := Aside0.mk h
              have HZ := Aside0.mk hz
              have HL := Aside0.mk hlen
              have hb := fun W : World => print_bytes (P := Try.prog) 9 31 5 Try.underlying9 Try.underlying31 Try.underlying5 s W
              clear hw ha hs h hz hlen hr1 hc1
              go_enter Try.func6, Try.ntmps6
              go_wp2_with (first
                | (go_at_call 11; refine (impl_within.calls _ _ _ _ _ HW.out).mono ?_; rintro e w' ⟨rfl, ⟨nd, rfl⟩⟩)
                | (go_at_call 12; refine (impl_allWithin.calls _ _ _ l1 0 (wrap64 (a0 - 1)) true _ ?hr HC1.out HA.out).mono ?_; (case hr => first | exact HR1.out | exact Kd.C_drewN HR1.out _); rintro e w2 ⟨rfl, hb2⟩; have HB2 := Aside0.mk (below_step (pw_below_drewN HB.out nd) hb2); clear hb2)
                | (go_at_call 13; refine (strings_Repeat.calls _ _ _ _ HS.out).mono ?_; rintro e w3 ⟨rfl, hb3⟩; have HB3 := Aside0.mk (below_step HB2.out hb3); clear hb3))
              have hcells : ∀ q, q < s.size → (Lib.bytesWorld w3 5 s).cell? ⟨w3.heap.size, q, none⟩ = some (.int .u8 ((bytesOf s).getD q 0)) ∧ (Lib.bytesWorld w3 5 s).frozen? ⟨w3.heap.size, q, none⟩ = false := by
                intro q hq
                refine ⟨?_, ?_⟩
                · rw [Lib.bytesWorld_cell w3 5 s q hq]
                  have h' : q < s.data.toList.length := by rw [data_length]; exact hq
                  simp [bytesOf, List.getD_eq_getElem?_getD, List.getElem?_eq_getElem h']
                · unfold World.frozen?
                  rw [Lib.bytesWorld_at_new]
                  have hsz : s.size ≤ (Lib.bytesCells w3 5 s).size := by simp [Lib.bytesCells]
                  rw [Bool.and_eq_false_iff]
                  left
                  rw [decide_eq_false_iff_not]
                  simp only []
                  omega
              have HCE := Aside0.mk hcells
              have HBL := Aside0.mk (bytes_below HB3.out HB3.out.size 5 s)
              have HG := Aside0.mk HB3.out.size
              clear hcells hb HB2 HB3
              generalize Lib.bytesWorld w3 5 s = W at HCE HBL ⊢
              generalize grownCap w3 s.size 0 5 = cap at ⊢
              generalize w3.heap.size = g at HCE HG ⊢
              have hcv := fun (V : World) (xs : List Int) (hl : xs.length = s.size) (hc : ∀ i, i < s.size → V.cell? ⟨g, 0 + i, none⟩ = some (.int .u8 (xs.getD i 0))) => run_convert_bytes_arg (P := Try.prog) (w := V) 31 5 Try.underlying31 Try.underlying5 g 0 s.size cap xs hl hc 9 Try.underlying9
              go_loopg [24] l1.length (fun kq v24 wr => ∃ (j fu : Nat) (out : List Int), v24 = .int .i64 (j : Int) ∧ Aside0 (j ≤ l1.length ∧ l1.length - j ≤ kq) ∧ Aside0 (impl_YardOf.l0 fu l1 out (j : Int) = some (r1, r2)) ∧ Aside0 (out.length = s.size) ∧ Aside0 (∀ q, q < s.size → wr.cell? ⟨g, q, none⟩ = some (.int .u8 (out.getD q 0)) ∧ wr.frozen? ⟨g, q, none⟩ = false) ∧ Aside0 (Below w.heap.size w wr))
              case atStart => exact ⟨0, l1.length + 2, bytesOf s, rfl, ⟨by omega⟩, HH, HL, HCE, HBL⟩
              case round =>
                clear HCE HBL HH HL
                obtain ⟨j, fu, out, rfl, HJ, HK, HO, HC, HBw⟩ := hrel
                have hj := HJ.out
                have hmx : l1.length ≤ 9223372036854775807 := HR1.out.2.1
                cases fu with
                | zero => exact absurd HK.out (by simp [impl_YardOf.l0])
                | succ fu =>
                  have hK := HK.out
                  clear HK
                  simp only [impl_YardOf.l0] at hK
                  by_cases cj : (j : Int) < (l1.length : Int)
                  · rw [if_pos cj] at hK
                    have hCw := Kd.C_below HR1.out HBw.out
                    obtain ⟨ad, e1, hx⟩ := Kd.at_int hCw (j : Int) (by omega) cj
                    cases e1
                    rw [Int.toNat_natCast] at hx
                    have hst : ∀ (hcr : 0 ≤ rd l1 (j : Int) ∧ rd l1 (j : Int) < (out.length : Int)), ∃ c : Nat, rd l1 (j : Int) = (c : Int) ∧ c < s.size := fun hcr => by
                      obtain ⟨c, hc⟩ := Int.eq_ofNat_of_zero_le hcr.1
                      exact ⟨c, hc, by have := HO.out; omega⟩
                    have hj0 : (0 : Int) ≤ (j : Int) := by omega
                    have hjw : wrap64 ((j : Int) + 1) = ((j + 1 : Nat) : Int) := by unfold wrap64; omega
                    by_cases hpos : 0 < j
                    · obtain ⟨p, hp⟩ : ∃ p, j = p + 1 := ⟨j - 1, by omega⟩
                      obtain ⟨ad2, e2, hx2⟩ := Kd.at_int hCw (p : Int) (by omega) (by omega)
                      cases e2
                      rw [Int.toNat_natCast] at hx2
                      have hx3 : wr.cell? (ad.add (j - 1)) = some (.int .i64 (rd l1 (p : Int))) := by rw [show j - 1 = p by omega]; exact hx2
                      have hp1 : wrap64 ((j : Int) - 1) = (p : Int) := by unfold wrap64; omega
                      have hp3 : (j : Int) - 1 = (p : Int) := by omega
                      have hp4 : (0 : Int) < (j : Int) := by omega
                      have hp5 : (0 : Int) ≤ (p : Int) := by omega
                      have hp6 : (p : Int) < (l1.length : Int) := by omega
                      have hp7 : p < l1.length := by omega
                      have hj7 : j < l1.length := by omega
                      rw [hp3] at hK
                      have HP := Aside0.mk hp
                      clear hp
                      by_cases cc : rd l1 (p : Int) ≥ rd l1 (j : Int)
                      · rw [if_pos ⟨hp4, cc⟩] at hK
                        injection hK with hK
                        injection hK with h1 h2
                        subst h1 h2
                        have cc2 : rd l1 (j : Int) ≤ rd l1 (p : Int) := cc
                        clear hcv hst hp3
                        go_wp2
                        go_ret2
                        exact ⟨rfl, HBw.out⟩
                      · rw [if_neg (fun z => cc z.2)] at hK
                        have cc2 : rd l1 (p : Int) < rd l1 (j : Int) := by omega
                        by_cases cr : 0 ≤ rd l1 (j : Int) ∧ rd l1 (j : Int) < (out.length : Int)
                        · rw [if_pos cr] at hK
                          clear hp3
                          obtain ⟨c, hc, hcl⟩ := hst cr
                          have hq := HC.out c hcl
                          have hqc := hq.1
                          have hqf := hq.2
                          clear hq hst hcv
                          rw [hc] at hx hK cc2
                          have hc1 : (0 : Int) ≤ (c : Int) := by omega
                          have hc2 : (c : Int) < (s.size : Int) := by omega
                          have hc3 : ¬ ((c : Int) < 0) := by omega
                          have hc4 : ¬ ((s.size : Int) ≤ (c : Int)) := by omega
                          rw [Int.toNat_natCast] at hK
                          have HK := Aside0.mk hK
                          have hcc3 : ¬ ((c : Int) ≤ rd l1 (p : Int)) := by omega
                          clear hK hc
                          go_wp2
                          go_roundg (l1.length - (j + 1))
                          case measure => have := HJ.out; omega
                          case rel =>
                            refine ⟨j + 1, fu, out.set c 120, by first | rfl | (simp [hjw]) | (rw [← hjw]; rfl), ⟨by omega⟩, ⟨by simpa using HK.out⟩, ⟨by rw [List.length_set]; exact HO.out⟩, ⟨fun q hq => ?_⟩, ⟨HBw.out.setCell HG.out _⟩⟩
                            have h0 := HC.out q hq
                            refine ⟨?_, by rw [World.frozen?_setCell]; exact h0.2⟩
                            by_cases eq : c = q
                            · subst eq
                              rw [World.cell?_setCell_same (h := h0.1)]
                              have := HO.out
                              simp [List.getD_eq_getElem?_getD, this, hq]
                            · rw [World.cell?_setCell_other (h := fun e => eq (by injection e)), h0.1]
                              simp [List.getD_eq_getElem?_getD, List.getElem?_set_ne eq]
                        · rw [if_neg cr] at hK; cases hK
                    · have hn1 : ¬ ((0 : Int) < (j : Int)) := by omega
                      have hj7 : j < l1.length := by omega
                      rw [if_neg (fun z => hn1 z.1)] at hK
                      by_cases cr : 0 ≤ rd l1 (j : Int) ∧ rd l1 (j : Int) < (out.length : Int)
                      · rw [if_pos cr] at hK
                        obtain ⟨c, hc, hcl⟩ := hst cr
                        have hq := HC.out c hcl
                        have hqc := hq.1
                        have hqf := hq.2
                        clear hq hst hcv
                        rw [hc] at hx hK
                        have hc1 : (0 : Int) ≤ (c : Int) := by omega
                        have hc2 : (c : Int) < (s.size : Int) := by omega
                        have hc3 : ¬ ((c : Int) < 0) := by omega
                        have hc4 : ¬ ((s.size : Int) ≤ (c : Int)) := by omega
                        rw [Int.toNat_natCast] at hK
                        have HK := Aside0.mk hK
                        clear hK hc
                        go_wp2
                        go_roundg (l1.length - (j + 1))
                        case measure => have := HJ.out; omega
                        case rel =>
                          refine ⟨j + 1, fu, out.set c 120, by first | rfl | (simp [hjw]) | (rw [← hjw]; rfl), ⟨by omega⟩, ⟨by simpa using HK.out⟩, ⟨by rw [List.length_set]; exact HO.out⟩, ⟨fun q hq => ?_⟩, ⟨HBw.out.setCell HG.out _⟩⟩
                          have h0 := HC.out q hq
                          refine ⟨?_, by rw [World.frozen?_setCell]; exact h0.2⟩
                          by_cases eq : c = q
                          · subst eq
                            rw [World.cell?_setCell_same (h := h0.1)]
                            have := HO.out
                            simp [List.getD_eq_getElem?_getD, this, hq]
                          · rw [World.cell?_setCell_other (h := fun e => eq (by injection e)), h0.1]
                            simp [List.getD_eq_getElem?_getD, List.getElem?_set_ne eq]
                      · rw [if_neg cr] at hK; cases hK
                  · rw [if_neg cj] at hK
                    injection hK with hK
                    injection hK with h1 h2
                    subst h1 h2
                    have hcv2 := hcv wr out HO.out (fun i hi => by rw [Nat.zero_add]; exact (HC.out i hi).1)
                    clear hcv
                    have cj2 : ¬ (j < l1.length) := by omega
                    go_wp2
                    go_ret2
                    exact ⟨rfl, HBw.out⟩
            · rw [if_neg hz] at h; cases h


end Go.Proofs.Yteflfjbnddieeaa.Print
