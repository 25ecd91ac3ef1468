-- PRINTED by print.py (a twelfth state) out of the translation. Not trusted: Lean checks it.
import Derived.Test.YtbgmdomoagcleaaDoorProg
import Derived.Below
import Derived.Deep.Draws
import Derived.Deep.AppendLies
import Derived.Maps.AppendAt
import Derived.OwnWalk
import Derived.Laws.BytesArg
import Derived.Laws.MakeOwn
import Derived.Laws.OwnMore
import Derived.Deep.OwnRows
import Derived.Tactics
import Derived.Lib.ConvBytes
import Derived.Laws.Slices
import Derived.WalkKit
import Derived.KernelRfl
import Derived.RowKit3
import Derived.Deep.LoopGhost
import Derived.Deep.QuietTactic
import Derived.BigQuiet
import Derived.WideLaws
import Derived.Deep.DeepCutAuto
import Derived.Deep.CutBlock
import Derived.Deep.RegionHeld3
import Derived.Laws.Rows
import Derived.Lib.AppendStr
import Derived.ArgAppend
import Derived.Laws.IdiomCopy
import Derived.OrdersHeld
import Derived.Laws.BitsLemmas
import Derived.RowKit
import Derived.Shelf.Abstract
import Derived.Lib.SliceRun
import Derived.Laws.EntriesVeiled
import Derived.Lib.AppendIntMem
import Derived.Test.YtbgmdomoagcleaaDoorShelf
import Derived.Test.YtbgmdomoagcleaaDoorWWords
import Derived.Test.YtbgmdomoagcleaaDoorWLast
import Derived.Test.YtbgmdomoagcleaaDoorWTab
import Derived.Test.YtbgmdomoagcleaaDoorWFour
import Derived.Test.YtbgmdomoagcleaaDoorWQPut
import Derived.Test.YtbgmdomoagcleaaDoorWApart
import Derived.Test.YtbgmdomoagcleaaDoorWArr
import Derived.Test.YtbgmdomoagcleaaDoorWZeros
import Derived.Test.YtbgmdomoagcleaaDoorWFoot
import Derived.Test.YtbgmdomoagcleaaDoorWKept
import Derived.Test.YtbgmdomoagcleaaDoorWShare
import Derived.Test.YtbgmdomoagcleaaDoorWN
import Derived.Test.YtbgmdomoagcleaaDoorWFootNe
import Derived.Test.YtbgmdomoagcleaaDoorWAt
import Derived.Test.YtbgmdomoagcleaaDoorWEqStruct
import Derived.Test.YtbgmdomoagcleaaDoorWRepsOne
import Derived.Test.YtbgmdomoagcleaaDoorWInv
import Derived.Test.YtbgmdomoagcleaaDoorWInvWords
import Derived.Test.YtbgmdomoagcleaaDoorWGuard
import Derived.Test.YtbgmdomoagcleaaDoorWNEv
import Derived.Test.YtbgmdomoagcleaaDoorWMore
namespace Go.Proofs.YtbgmdomoagcleaaDoor.Print
open Go.RowKit Go.Proofs.YtbgmdomoagcleaaDoorW.PrintWords Go.Proofs.YtbgmdomoagcleaaDoorW.PrintLast Go.Proofs.YtbgmdomoagcleaaDoorW.PrintMore
attribute [local go_sem] max2_int min2_int max_two min_two max_three min_three max_four min_four   -- for this text's walks alone
set_option linter.unusedVariables false
set_option linter.unusedSimpArgs false



def errW : Option Int → Value
  | none => .nilIface
  | some c => .iface 58 (.int .i64 c)
theorem errW_none : errW none = .nilIface := rfl
theorem errW_some (c : Int) : errW (some c) = .iface 58 (.int .i64 c) := rfl

theorem info3 : (Tryd.prog.info? 3).map (fun i => (i.zero, i.size, i.bytes)) = some (some (.int .i64 0), 1, 8) := by kernel_rfl
theorem info5 : (Tryd.prog.info? 5).map (fun i => (i.zero, i.size, i.bytes)) = some (some (.int .u8 0), 1, 1) := by kernel_rfl
theorem info9 : (Tryd.prog.info? 9).map (fun i => (i.zero, i.size, i.bytes)) = some (some (.string ⟨#[]⟩), 1, 16) := by kernel_rfl
-- the values' own types

/-- A function value of type 66: function Gf of the program, its captured variables' addresses Lf; from w on it answers as f. -/
def FnOk66 (Gf : Nat) (Lf : Array Value) (f : (Int → Option Bool)) (w : World) : Prop := (∀ args w, (callFunc Gf args).run Tryd.prog w = .ok (.enter Gf args) w) ∧ ∀ (W : World) (x0 : Int) (r : Bool), Below w.heap.size w W → f x0 = some r → Calls Tryd.prog Gf (#[.int .i64 x0] ++ Lf) W fun e w' => e = .returned (.bool r) ∧ Below W.heap.size W w'
theorem FnOk66.below {Gf : Nat} {Lf : Array Value} {f : (Int → Option Bool)} {w W : World} (h : FnOk66 Gf Lf f w) (hb : Below w.heap.size w W) : FnOk66 Gf Lf f W := ⟨h.1, fun W' x0 r hb' hr => h.2 W' x0 r (below_step hb hb') hr⟩
theorem FnOk66.call {Gf : Nat} {Lf : Array Value} {f : (Int → Option Bool)} {w : World} (h : FnOk66 Gf Lf f w) (x0 : Int) (r : Bool) (W : World) (hb : Below w.heap.size w W) (hr : f x0 = some r) : Calls Tryd.prog Gf (#[.int .i64 x0] ++ Lf) W fun e w' => e = .returned (.bool r) ∧ Below W.heap.size W w' := h.2 W x0 r hb hr

end Go.Proofs.YtbgmdomoagcleaaDoor.Print
