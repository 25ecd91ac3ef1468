-- PRINTED by print.py (a twelfth state) out of the translation. Not trusted: Lean checks it.
import Derived.Test.YteflfjbnddieeaaProg
import Derived.Below
import Derived.Deep.Draws
import Derived.Deep.AppendLies
import Derived.Maps.AppendAt
import Derived.OwnWalk
import Derived.Laws.BytesArg
import Derived.Laws.MakeOwn
import Derived.Laws.OwnMore
import Derived.Deep.OwnRows
import Derived.Tactics
import Derived.Lib.ConvBytes
import Derived.Laws.Slices
import Derived.WalkKit
import Derived.KernelRfl
import Derived.RowKit3
import Derived.Deep.LoopGhost
import Derived.Deep.QuietTactic
import Derived.BigQuiet
import Derived.WideLaws
import Derived.Deep.DeepCutAuto
import Derived.Deep.CutBlock
import Derived.Deep.RegionHeld3
import Derived.Laws.Rows
import Derived.Lib.AppendStr
import Derived.ArgAppend
import Derived.Laws.IdiomCopy
import Derived.OrdersHeld
import Derived.Laws.BitsLemmas
import Derived.RowKit
import Derived.Shelf.Abstract
import Derived.Lib.SliceRun
import Derived.Laws.EntriesVeiled
import Derived.Test.YteflfjbnddieeaaShelf
import Derived.Test.YteflfjbnddieeaaWWords
import Derived.Test.YteflfjbnddieeaaWLast
import Derived.Test.YteflfjbnddieeaaWTab
import Derived.Test.YteflfjbnddieeaaWFour
import Derived.Test.YteflfjbnddieeaaWQPut
import Derived.Test.YteflfjbnddieeaaWApart
import Derived.Test.YteflfjbnddieeaaWArr
import Derived.Test.YteflfjbnddieeaaWZeros
import Derived.Test.YteflfjbnddieeaaWFoot
import Derived.Test.YteflfjbnddieeaaWKept
import Derived.Test.YteflfjbnddieeaaWShare
import Derived.Test.YteflfjbnddieeaaWN
import Derived.Test.YteflfjbnddieeaaWFootNe
import Derived.Test.YteflfjbnddieeaaWAt
import Derived.Test.YteflfjbnddieeaaWEqStruct
import Derived.Test.YteflfjbnddieeaaWRepsOne
import Derived.Test.YteflfjbnddieeaaWInv
import Derived.Test.YteflfjbnddieeaaWInvWords
import Derived.Test.YteflfjbnddieeaaWGuard
import Derived.Test.YteflfjbnddieeaaWNEv
import Derived.Test.YteflfjbnddieeaaWMore
namespace Go.Proofs.Yteflfjbnddieeaa.Print
open Go.RowKit Go.Proofs.YteflfjbnddieeaaW.PrintWords Go.Proofs.YteflfjbnddieeaaW.PrintLast Go.Proofs.YteflfjbnddieeaaW.PrintMore
attribute [local go_sem] max2_int min2_int max_two min_two max_three min_three max_four min_four   -- for this text's walks alone
set_option linter.unusedVariables false
set_option linter.unusedSimpArgs false



def errW : Option Int → Value
  | none => .nilIface
  | some c => .iface 0 (.int .i64 c)
theorem errW_none : errW none = .nilIface := rfl
theorem errW_some (c : Int) : errW (some c) = .iface 0 (.int .i64 c) := rfl

theorem info3 : (Try.prog.info? 3).map (fun i => (i.zero, i.size, i.bytes)) = some (some (.int .i64 0), 1, 8) := by kernel_rfl
-- the values' own types

/-- A function value of type 34: function Gf of the program, its captured variables' addresses Lf; from w on it answers as f. -/
def FnOk34 (Gf : Nat) (Lf : Array Value) (f : (Int → Option Bool)) (w : World) : Prop := (∀ args w, (callFunc Gf args).run Try.prog w = .ok (.enter Gf args) w) ∧ ∀ (W : World) (x0 : Int) (r : Bool), Below w.heap.size w W → f x0 = some r → Calls Try.prog Gf (#[.int .i64 x0] ++ Lf) W fun e w' => e = .returned (.bool r) ∧ Below W.heap.size W w'
theorem FnOk34.below {Gf : Nat} {Lf : Array Value} {f : (Int → Option Bool)} {w W : World} (h : FnOk34 Gf Lf f w) (hb : Below w.heap.size w W) : FnOk34 Gf Lf f W := ⟨h.1, fun W' x0 r hb' hr => h.2 W' x0 r (below_step hb hb') hr⟩
theorem FnOk34.call {Gf : Nat} {Lf : Array Value} {f : (Int → Option Bool)} {w : World} (h : FnOk34 Gf Lf f w) (x0 : Int) (r : Bool) (W : World) (hb : Below w.heap.size w W) (hr : f x0 = some r) : Calls Try.prog Gf (#[.int .i64 x0] ++ Lf) W fun e w' => e = .returned (.bool r) ∧ Below W.heap.size W w' := h.2 W x0 r hb hr

end Go.Proofs.Yteflfjbnddieeaa.Print
