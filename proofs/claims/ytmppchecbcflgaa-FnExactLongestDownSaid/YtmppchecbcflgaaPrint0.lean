-- PRINTED by print.py (a twelfth state) out of the translation. Not trusted: Lean checks it.
import Derived.Test.YtmppchecbcflgaaProg
import Derived.Below
import Derived.Deep.Draws
import Derived.Deep.AppendLies
import Derived.Maps.AppendAt
import Derived.OwnWalk
import Derived.Laws.BytesArg
import Derived.Laws.MakeOwn
import Derived.Laws.OwnMore
import Derived.Deep.OwnRows
import Derived.Tactics
import Derived.Lib.ConvBytes
import Derived.Laws.Slices
import Derived.WalkKit
import Derived.KernelRfl
import Derived.RowKit3
import Derived.Deep.LoopGhost
import Derived.Deep.QuietTactic
import Derived.BigQuiet
import Derived.WideLaws
import Derived.Deep.DeepCutAuto
import Derived.Deep.CutBlock
import Derived.Deep.RegionHeld3
import Derived.Laws.Rows
import Derived.Lib.AppendStr
import Derived.ArgAppend
import Derived.Laws.IdiomCopy
import Derived.OrdersHeld
import Derived.Laws.BitsLemmas
import Derived.RowKit
import Derived.Shelf.Abstract
import Derived.Lib.SliceRun
import Derived.Laws.EntriesVeiled
import Derived.Test.YtmppchecbcflgaaWWords
import Derived.Test.YtmppchecbcflgaaWLast
import Derived.Test.YtmppchecbcflgaaWTab
import Derived.Test.YtmppchecbcflgaaWFour
import Derived.Test.YtmppchecbcflgaaWQPut
import Derived.Test.YtmppchecbcflgaaWApart
import Derived.Test.YtmppchecbcflgaaWArr
import Derived.Test.YtmppchecbcflgaaWZeros
import Derived.Test.YtmppchecbcflgaaWFoot
import Derived.Test.YtmppchecbcflgaaWKept
import Derived.Test.YtmppchecbcflgaaWShare
import Derived.Test.YtmppchecbcflgaaWN
import Derived.Test.YtmppchecbcflgaaWFootNe
import Derived.Test.YtmppchecbcflgaaWAt
import Derived.Test.YtmppchecbcflgaaWEqStruct
import Derived.Test.YtmppchecbcflgaaWRepsOne
import Derived.Test.YtmppchecbcflgaaWInv
import Derived.Test.YtmppchecbcflgaaWInvWords
import Derived.Test.YtmppchecbcflgaaWGuard
import Derived.Test.YtmppchecbcflgaaWNEv
import Derived.Test.YtmppchecbcflgaaWMore
namespace Go.Proofs.Ytmppchecbcflgaa.Print
open Go.RowKit Go.Proofs.YtmppchecbcflgaaW.PrintWords Go.Proofs.YtmppchecbcflgaaW.PrintLast Go.Proofs.YtmppchecbcflgaaW.PrintMore
attribute [local go_sem] max2_int min2_int max_two min_two max_three min_three max_four min_four   -- for this text's walks alone
set_option linter.unusedVariables false
set_option linter.unusedSimpArgs false



def errW : Option Int → Value
  | none => .nilIface
  | some c => .iface 0 (.int .i64 c)
theorem errW_none : errW none = .nilIface := rfl
theorem errW_some (c : Int) : errW (some c) = .iface 0 (.int .i64 c) := rfl

theorem info3 : (Try.prog.info? 3).map (fun i => (i.zero, i.size, i.bytes)) = some (some (.int .i64 0), 1, 8) := by kernel_rfl
-- the values' own types

theorem calls_eq_ {P : Program} {n : Nat} {args args' : Array Value} {w : World} {Q : Ending → World → Prop} (e : args = args') (h : Calls P n args' w Q) : Calls P n args w Q := e ▸ h
/-- A call of a function value, as one step of a region that draws its order. -/
theorem goesF_ {ops : Array Oper} {Q : Exit → Act → World → Prop} {oi : Oper} {N : Option Tmp} {a : Act} {w : World} {K : Act → World → Prop} {f : FuncId} {lb : Array Value} {x : Operand} {asx : Array Operand} {ts : Array TypeId} (hen : ∀ args w, (callFunc f args).run Try.prog w = .ok (.enter f args) w) (args : Array Value)
    (hw : Region.wanted oi (yielded ops a.tmps) = true) (hN : oi.dst = N) (hop : oi.op = .call { callee := .value x, args := asx, argTypes := ts }) (hx : a.eval x = .func (.func f) #[] lb) (hargs : asx.map a.eval = args)
    (h : Calls Try.prog f (args ++ lb) w fun e w' => ∃ v, e = .returned v ∧ K (a.put N v) w') : if Region.wanted oi (yielded ops a.tmps) = true then Oper.wp Try.prog oi a w K Q else K (a.put N undef) w := by
  refine call_ f (args ++ lb) hw hN ?_ h
  unfold execOp
  simp [hop, resolve, Deferred.ofValue, invoke, hx, hargs, hen]

/-- A function value of type 45: function Gf of the program, its captured variables' addresses Lf; from w on it answers as f. -/
def FnOk45 (Gf : Nat) (Lf : Array Value) (f : (Int → Int → Option Bool)) (w : World) : Prop := (∀ args w, (callFunc Gf args).run Try.prog w = .ok (.enter Gf args) w) ∧ ∀ (W : World) (x0 : Int) (x1 : Int) (r : Bool), Below w.heap.size w W → f x0 x1 = some r → Calls Try.prog Gf (#[.int .i64 x0, .int .i64 x1] ++ Lf) W fun e w' => e = .returned (.bool r) ∧ Below W.heap.size W w'
theorem FnOk45.below {Gf : Nat} {Lf : Array Value} {f : (Int → Int → Option Bool)} {w W : World} (h : FnOk45 Gf Lf f w) (hb : Below w.heap.size w W) : FnOk45 Gf Lf f W := ⟨h.1, fun W' x0 x1 r hb' hr => h.2 W' x0 x1 r (below_step hb hb') hr⟩
theorem FnOk45.call {Gf : Nat} {Lf : Array Value} {f : (Int → Int → Option Bool)} {w : World} (h : FnOk45 Gf Lf f w) (x0 : Int) (x1 : Int) (r : Bool) (W : World) (hb : Below w.heap.size w W) (hr : f x0 x1 = some r) : Calls Try.prog Gf (#[.int .i64 x0, .int .i64 x1] ++ Lf) W fun e w' => e = .returned (.bool r) ∧ Below W.heap.size W w' := h.2 W x0 x1 r hb hr

/-- A function value of type 54: function Gf of the program, its captured variables' addresses Lf; from w on it answers as f. -/
def FnOk54 (Gf : Nat) (Lf : Array Value) (f : (Int → Option Bool)) (w : World) : Prop := (∀ args w, (callFunc Gf args).run Try.prog w = .ok (.enter Gf args) w) ∧ ∀ (W : World) (x0 : Int) (r : Bool), Below w.heap.size w W → f x0 = some r → Calls Try.prog Gf (#[.int .i64 x0] ++ Lf) W fun e w' => e = .returned (.bool r) ∧ Below W.heap.size W w'
theorem FnOk54.below {Gf : Nat} {Lf : Array Value} {f : (Int → Option Bool)} {w W : World} (h : FnOk54 Gf Lf f w) (hb : Below w.heap.size w W) : FnOk54 Gf Lf f W := ⟨h.1, fun W' x0 r hb' hr => h.2 W' x0 r (below_step hb hb') hr⟩
theorem FnOk54.call {Gf : Nat} {Lf : Array Value} {f : (Int → Option Bool)} {w : World} (h : FnOk54 Gf Lf f w) (x0 : Int) (r : Bool) (W : World) (hb : Below w.heap.size w W) (hr : f x0 = some r) : Calls Try.prog Gf (#[.int .i64 x0] ++ Lf) W fun e w' => e = .returned (.bool r) ∧ Below W.heap.size W w' := h.2 W x0 r hb hr

end Go.Proofs.Ytmppchecbcflgaa.Print
