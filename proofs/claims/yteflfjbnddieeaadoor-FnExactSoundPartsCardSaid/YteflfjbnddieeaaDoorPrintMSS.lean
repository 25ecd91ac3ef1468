-- PRINTED by print.py (a twelfth state) out of the translation. Not trusted: Lean checks it.
import Derived.Test.YteflfjbnddieeaaDoorPrint19
import Derived.Test.YteflfjbnddieeaaDoorPrint30
namespace Go.Proofs.YteflfjbnddieeaaDoor.Print
open Go.RowKit Go.Proofs.YteflfjbnddieeaaDoorW.PrintWords Go.Proofs.YteflfjbnddieeaaDoorW.PrintLast Go.Proofs.YteflfjbnddieeaaDoorW.PrintMore
attribute [local go_sem] max2_int min2_int max_two min_two max_three min_three max_four min_four   -- for this text's walks alone
set_option linter.unusedVariables false
set_option linter.unusedSimpArgs false

theorem ss_two_ {α : Type} {d : Kd α} {e e' base base0 : Nat} {ok ok' : Nat → Prop} {W w1 : World} {v u : Value} {xs ys : List α} (h0 : Kd.S d e W base ok v xs) (hb : Below W.heap.size W w1) (h1 : Kd.S d e' w1 W.heap.size ok' u ys) (hle : base0 ≤ W.heap.size) : ∃ Nn : Nat, Kd.S d e w1 base (fun k_ => k_ < Nn) v xs ∧ Kd.S d e' w1 base0 (fun k_ => Nn ≤ k_) u ys :=
  ⟨W.heap.size, Kd.S_mono (Kd.S_old h0 hb) (fun _ hk => hk.2), Kd.S_lower (Kd.S_mono (Kd.S_bound h1) (fun _ hk => hk.2.1)) hle⟩
end Go.Proofs.YteflfjbnddieeaaDoor.Print
