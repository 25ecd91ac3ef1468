/-
  No cell of these rows narrows 'for every input' (looked for: loops, veiled, ifaces, maps, wideKeys, modest, calm, conditions, laid).
  DERIVED. THE GIVEN ROWS OF THIS SEAT. 9 by the template 'for every input the law returns true; each argument reads behind the call as it read before'; 0 by the template 'total and deterministic' (their statements: YtbgmdomoagcleaaTotals.lean).
  GIVEN WITH THE SEED: the statements are not yours to turn. If you find one false, say at which input.
  Laid BY PROGRAM, IN A SANDBOX (cutbox-rows.mjs): the forced cells as the released guide's own fill.sh prints them over the translation 1017a16a73f26222… (all of the seat's roots in one cut). By AI agents, Wed Nov 11 2026. No macro, syntax, notation, axiom, sorry.
-/
import Derived.Test.YtbgmdomoagcleaaChecked
import GoSem.Claim
import GoSem.ClaimJoined
import GoSem.ClaimMapViews
import Derived.JoinedTies
import Derived.KernelRfl
namespace Go.Proofs.Ytbgmdomoagcleaa
/- THE CELL 'sum', in the pinned program and in every row, IS THE sha256 OF THE DUMP (.gsa) THAT YtbgmdomoagcleaaProg.lean LOADS. Nothing in Lean hashes anything: it is a label: what it is worth is what the hold of that sum in a sandbox is worth. -/
noncomputable def Try.pinned : Pinned := { name := "ytbgmdomoagcleaa", sum := "1017a16a73f26222f85601813552b1df71c5e55e3931eb20405c2735b8c275cb", checked := Try.checked }
namespace Rows
def none {H : Type} : Left H := { results := [], args := [] }

/-- 'laws.FnExactFewestGates': WHATEVER THE INPUT: true; the input reads as it did. -/
def fnExactFewestGatesSpec : ChangeSpec := { name := "fnExactFewestGates", fn := fun _ => fun
  | [d1, d2] => { results := [.lit (.bool true)], args := [d1, d2] }
  | _ => none }
def fnExactFewestGatesRow : OpenClaim := { program := "ytbgmdomoagcleaa", sum := "1017a16a73f26222f85601813552b1df71c5e55e3931eb20405c2735b8c275cb", func := "loop.example/g01373/laws.FnExactFewestGates", spec := "fnExactFewestGates", apart := false }
def FnExactFewestGatesSaid : Prop := fnExactFewestGatesRow.holds Try.pinned (OpenSpec.ofChange fnExactFewestGatesSpec)

/-- ITS FALSE NEIGHBOUR: 'it returns false'. Refute it at one input. -/
def fnExactFewestGatesWrong : ChangeSpec := { name := "fnExactFewestGates", fn := fun _ => fun
  | [d1, d2] => { results := [.lit (.bool false)], args := [d1, d2] }
  | _ => none }
def FnExactFewestGatesWrongFalsely : Prop := fnExactFewestGatesRow.holds Try.pinned (OpenSpec.ofChange fnExactFewestGatesWrong)

/-- 'laws.FnExactCountGateWays': WHATEVER THE INPUT: true; the input reads as it did. -/
def fnExactCountGateWaysSpec : ChangeSpec := { name := "fnExactCountGateWays", fn := fun _ => fun
  | [d1, d2] => { results := [.lit (.bool true)], args := [d1, d2] }
  | _ => none }
def fnExactCountGateWaysRow : OpenClaim := { program := "ytbgmdomoagcleaa", sum := "1017a16a73f26222f85601813552b1df71c5e55e3931eb20405c2735b8c275cb", func := "loop.example/g01373/laws.FnExactCountGateWays", spec := "fnExactCountGateWays", apart := false }
def FnExactCountGateWaysSaid : Prop := fnExactCountGateWaysRow.holds Try.pinned (OpenSpec.ofChange fnExactCountGateWaysSpec)

/-- ITS FALSE NEIGHBOUR: 'it returns false'. Refute it at one input. -/
def fnExactCountGateWaysWrong : ChangeSpec := { name := "fnExactCountGateWays", fn := fun _ => fun
  | [d1, d2] => { results := [.lit (.bool false)], args := [d1, d2] }
  | _ => none }
def FnExactCountGateWaysWrongFalsely : Prop := fnExactCountGateWaysRow.holds Try.pinned (OpenSpec.ofChange fnExactCountGateWaysWrong)

/-- 'laws.FnExactCountWithLongest': WHATEVER THE INPUT: true; the input reads as it did. -/
def fnExactCountWithLongestSpec : ChangeSpec := { name := "fnExactCountWithLongest", fn := fun _ => fun
  | [d1, d2, d3] => { results := [.lit (.bool true)], args := [d1, d2, d3] }
  | _ => none }
def fnExactCountWithLongestRow : OpenClaim := { program := "ytbgmdomoagcleaa", sum := "1017a16a73f26222f85601813552b1df71c5e55e3931eb20405c2735b8c275cb", func := "loop.example/g01373/laws.FnExactCountWithLongest", spec := "fnExactCountWithLongest", apart := false }
def FnExactCountWithLongestSaid : Prop := fnExactCountWithLongestRow.holds Try.pinned (OpenSpec.ofChange fnExactCountWithLongestSpec)

/-- ITS FALSE NEIGHBOUR: 'it returns false'. Refute it at one input. -/
def fnExactCountWithLongestWrong : ChangeSpec := { name := "fnExactCountWithLongest", fn := fun _ => fun
  | [d1, d2, d3] => { results := [.lit (.bool false)], args := [d1, d2, d3] }
  | _ => none }
def FnExactCountWithLongestWrongFalsely : Prop := fnExactCountWithLongestRow.holds Try.pinned (OpenSpec.ofChange fnExactCountWithLongestWrong)

/-- 'laws.FnExactAreGates': WHATEVER THE INPUT: true; the input reads as it did. -/
def fnExactAreGatesSpec : ChangeSpec := { name := "fnExactAreGates", fn := fun _ => fun
  | [d1, d2] => { results := [.lit (.bool true)], args := [d1, d2] }
  | _ => none }
def fnExactAreGatesRow : OpenClaim := { program := "ytbgmdomoagcleaa", sum := "1017a16a73f26222f85601813552b1df71c5e55e3931eb20405c2735b8c275cb", func := "loop.example/g01373/laws.FnExactAreGates", spec := "fnExactAreGates", unfollowed := true, recurses := true, apart := false }
def FnExactAreGatesSaid : Prop := fnExactAreGatesRow.holds Try.pinned (OpenSpec.ofChange fnExactAreGatesSpec)

/-- ITS FALSE NEIGHBOUR: 'it returns false'. Refute it at one input. -/
def fnExactAreGatesWrong : ChangeSpec := { name := "fnExactAreGates", fn := fun _ => fun
  | [d1, d2] => { results := [.lit (.bool false)], args := [d1, d2] }
  | _ => none }
def FnExactAreGatesWrongFalsely : Prop := fnExactAreGatesRow.holds Try.pinned (OpenSpec.ofChange fnExactAreGatesWrong)

/-- 'laws.FnExactLevelSteps': WHATEVER THE INPUT: true; the input reads as it did. -/
def fnExactLevelStepsSpec : ChangeSpec := { name := "fnExactLevelSteps", fn := fun _ => fun
  | [d1, d2] => { results := [.lit (.bool true)], args := [d1, d2] }
  | _ => none }
def fnExactLevelStepsRow : OpenClaim := { program := "ytbgmdomoagcleaa", sum := "1017a16a73f26222f85601813552b1df71c5e55e3931eb20405c2735b8c275cb", func := "loop.example/g01373/laws.FnExactLevelSteps", spec := "fnExactLevelSteps", unfollowed := true, recurses := true, apart := false }
def FnExactLevelStepsSaid : Prop := fnExactLevelStepsRow.holds Try.pinned (OpenSpec.ofChange fnExactLevelStepsSpec)

/-- ITS FALSE NEIGHBOUR: 'it returns false'. Refute it at one input. -/
def fnExactLevelStepsWrong : ChangeSpec := { name := "fnExactLevelSteps", fn := fun _ => fun
  | [d1, d2] => { results := [.lit (.bool false)], args := [d1, d2] }
  | _ => none }
def FnExactLevelStepsWrongFalsely : Prop := fnExactLevelStepsRow.holds Try.pinned (OpenSpec.ofChange fnExactLevelStepsWrong)

/-- 'laws.FnExactLeastBar': WHATEVER THE INPUT: true; the input reads as it did. -/
def fnExactLeastBarSpec : ChangeSpec := { name := "fnExactLeastBar", fn := fun _ => fun
  | [d1, d2] => { results := [.lit (.bool true)], args := [d1, d2] }
  | _ => none }
def fnExactLeastBarRow : OpenClaim := { program := "ytbgmdomoagcleaa", sum := "1017a16a73f26222f85601813552b1df71c5e55e3931eb20405c2735b8c275cb", func := "loop.example/g01373/laws.FnExactLeastBar", spec := "fnExactLeastBar", unfollowed := true, recurses := true, apart := false }
def FnExactLeastBarSaid : Prop := fnExactLeastBarRow.holds Try.pinned (OpenSpec.ofChange fnExactLeastBarSpec)

/-- ITS FALSE NEIGHBOUR: 'it returns false'. Refute it at one input. -/
def fnExactLeastBarWrong : ChangeSpec := { name := "fnExactLeastBar", fn := fun _ => fun
  | [d1, d2] => { results := [.lit (.bool false)], args := [d1, d2] }
  | _ => none }
def FnExactLeastBarWrongFalsely : Prop := fnExactLeastBarRow.holds Try.pinned (OpenSpec.ofChange fnExactLeastBarWrong)

/-- 'laws.FnExactIsCut': WHATEVER THE INPUT: true; the input reads as it did. -/
def fnExactIsCutSpec : ChangeSpec := { name := "fnExactIsCut", fn := fun _ => fun
  | [d1, d2, d3] => { results := [.lit (.bool true)], args := [d1, d2, d3] }
  | _ => none }
def fnExactIsCutRow : OpenClaim := { program := "ytbgmdomoagcleaa", sum := "1017a16a73f26222f85601813552b1df71c5e55e3931eb20405c2735b8c275cb", func := "loop.example/g01373/laws.FnExactIsCut", spec := "fnExactIsCut", unfollowed := true, recurses := true, apart := false }
def FnExactIsCutSaid : Prop := fnExactIsCutRow.holds Try.pinned (OpenSpec.ofChange fnExactIsCutSpec)

/-- ITS FALSE NEIGHBOUR: 'it returns false'. Refute it at one input. -/
def fnExactIsCutWrong : ChangeSpec := { name := "fnExactIsCut", fn := fun _ => fun
  | [d1, d2, d3] => { results := [.lit (.bool false)], args := [d1, d2, d3] }
  | _ => none }
def FnExactIsCutWrongFalsely : Prop := fnExactIsCutRow.holds Try.pinned (OpenSpec.ofChange fnExactIsCutWrong)

/-- 'laws.FnExactFirstCut': WHATEVER THE INPUT: true; the input reads as it did. -/
def fnExactFirstCutSpec : ChangeSpec := { name := "fnExactFirstCut", fn := fun _ => fun
  | [d1, d2] => { results := [.lit (.bool true)], args := [d1, d2] }
  | _ => none }
def fnExactFirstCutRow : OpenClaim := { program := "ytbgmdomoagcleaa", sum := "1017a16a73f26222f85601813552b1df71c5e55e3931eb20405c2735b8c275cb", func := "loop.example/g01373/laws.FnExactFirstCut", spec := "fnExactFirstCut", unfollowed := true, recurses := true, apart := false }
def FnExactFirstCutSaid : Prop := fnExactFirstCutRow.holds Try.pinned (OpenSpec.ofChange fnExactFirstCutSpec)

/-- ITS FALSE NEIGHBOUR: 'it returns false'. Refute it at one input. -/
def fnExactFirstCutWrong : ChangeSpec := { name := "fnExactFirstCut", fn := fun _ => fun
  | [d1, d2] => { results := [.lit (.bool false)], args := [d1, d2] }
  | _ => none }
def FnExactFirstCutWrongFalsely : Prop := fnExactFirstCutRow.holds Try.pinned (OpenSpec.ofChange fnExactFirstCutWrong)

/-- 'laws.FnExactRestsOfCut': WHATEVER THE INPUT: true; the input reads as it did. -/
def fnExactRestsOfCutSpec : ChangeSpec := { name := "fnExactRestsOfCut", fn := fun _ => fun
  | [d1, d2, d3] => { results := [.lit (.bool true)], args := [d1, d2, d3] }
  | _ => none }
def fnExactRestsOfCutRow : OpenClaim := { program := "ytbgmdomoagcleaa", sum := "1017a16a73f26222f85601813552b1df71c5e55e3931eb20405c2735b8c275cb", func := "loop.example/g01373/laws.FnExactRestsOfCut", spec := "fnExactRestsOfCut", unfollowed := true, recurses := true, apart := false }
def FnExactRestsOfCutSaid : Prop := fnExactRestsOfCutRow.holds Try.pinned (OpenSpec.ofChange fnExactRestsOfCutSpec)

/-- ITS FALSE NEIGHBOUR: 'it returns false'. Refute it at one input. -/
def fnExactRestsOfCutWrong : ChangeSpec := { name := "fnExactRestsOfCut", fn := fun _ => fun
  | [d1, d2, d3] => { results := [.lit (.bool false)], args := [d1, d2, d3] }
  | _ => none }
def FnExactRestsOfCutWrongFalsely : Prop := fnExactRestsOfCutRow.holds Try.pinned (OpenSpec.ofChange fnExactRestsOfCutWrong)

/- THE SECOND FORM. 'bulk': how many values and letters a reading holds, each counted each time it is reached (what is shared counts as often as it is met; a slice's spare places count too). A statement '..UptoSaid' is the law's where the arguments, and the package variables that the reading takes, are together of bulk at most 1048576: NARROWER than '..Said'. Prove '..Said' where nothing that the law and all that it calls make is longer than what came in: it says more and counts as full. Else prove '..UptoSaid'. A law counts once. -/
mutual
def uptoBulk {H : Type} : DataW H → Nat
  | .lit (.string bytes) => bytes.length + 1
  | .lit _ => 1
  | .nil => 1
  | .ptr d => uptoBulk d + 1
  | .slice elems spare => uptoBulkAll elems + uptoBulkAll spare + 1
  | .agg parts => uptoBulkAll parts + 1
  | .iface _ d => uptoBulk d + 1
  | .map entries => uptoBulkEntries entries + 1
  | .held _ => 1
def uptoBulkAll {H : Type} : List (DataW H) → Nat
  | [] => 0
  | d :: r => uptoBulk d + uptoBulkAll r
def uptoBulkEntries {H : Type} : List (Lit × DataW H) → Nat
  | [] => 0
  | x :: r => uptoBulkEntry x + uptoBulkEntries r
def uptoBulkEntry {H : Type} : Lit × DataW H → Nat
  | (.string bytes, d) => bytes.length + uptoBulk d + 1
  | (_, d) => uptoBulk d + 1
 end
def uptoSmall : (H : Type) → List (DataW H) → Bool := fun _ ds => decide (uptoBulkAll ds ≤ 1048576)
def OpenSpec.upto (s : _root_.Go.ChangeSpec) : _root_.Go.OpenSpec := { _root_.Go.OpenSpec.ofChange s with cond := some uptoSmall }

/-- 'laws.FnExactFewestGates', WHERE WHAT IT READS IS OF BULK AT MOST 1048576: true; the input reads as it did. -/
def fnExactFewestGatesUptoRow : OpenClaim := { program := "ytbgmdomoagcleaa", sum := "1017a16a73f26222f85601813552b1df71c5e55e3931eb20405c2735b8c275cb", func := "loop.example/g01373/laws.FnExactFewestGates", spec := "fnExactFewestGates", apart := false, narrowed := true }
def FnExactFewestGatesUptoSaid : Prop := fnExactFewestGatesUptoRow.holds Try.pinned (OpenSpec.upto fnExactFewestGatesSpec)

/-- 'laws.FnExactCountGateWays', WHERE WHAT IT READS IS OF BULK AT MOST 1048576: true; the input reads as it did. -/
def fnExactCountGateWaysUptoRow : OpenClaim := { program := "ytbgmdomoagcleaa", sum := "1017a16a73f26222f85601813552b1df71c5e55e3931eb20405c2735b8c275cb", func := "loop.example/g01373/laws.FnExactCountGateWays", spec := "fnExactCountGateWays", apart := false, narrowed := true }
def FnExactCountGateWaysUptoSaid : Prop := fnExactCountGateWaysUptoRow.holds Try.pinned (OpenSpec.upto fnExactCountGateWaysSpec)

/-- 'laws.FnExactCountWithLongest', WHERE WHAT IT READS IS OF BULK AT MOST 1048576: true; the input reads as it did. -/
def fnExactCountWithLongestUptoRow : OpenClaim := { program := "ytbgmdomoagcleaa", sum := "1017a16a73f26222f85601813552b1df71c5e55e3931eb20405c2735b8c275cb", func := "loop.example/g01373/laws.FnExactCountWithLongest", spec := "fnExactCountWithLongest", apart := false, narrowed := true }
def FnExactCountWithLongestUptoSaid : Prop := fnExactCountWithLongestUptoRow.holds Try.pinned (OpenSpec.upto fnExactCountWithLongestSpec)

/-- 'laws.FnExactAreGates', WHERE WHAT IT READS IS OF BULK AT MOST 1048576: true; the input reads as it did. -/
def fnExactAreGatesUptoRow : OpenClaim := { program := "ytbgmdomoagcleaa", sum := "1017a16a73f26222f85601813552b1df71c5e55e3931eb20405c2735b8c275cb", func := "loop.example/g01373/laws.FnExactAreGates", spec := "fnExactAreGates", unfollowed := true, recurses := true, apart := false, narrowed := true }
def FnExactAreGatesUptoSaid : Prop := fnExactAreGatesUptoRow.holds Try.pinned (OpenSpec.upto fnExactAreGatesSpec)

/-- 'laws.FnExactLevelSteps', WHERE WHAT IT READS IS OF BULK AT MOST 1048576: true; the input reads as it did. -/
def fnExactLevelStepsUptoRow : OpenClaim := { program := "ytbgmdomoagcleaa", sum := "1017a16a73f26222f85601813552b1df71c5e55e3931eb20405c2735b8c275cb", func := "loop.example/g01373/laws.FnExactLevelSteps", spec := "fnExactLevelSteps", unfollowed := true, recurses := true, apart := false, narrowed := true }
def FnExactLevelStepsUptoSaid : Prop := fnExactLevelStepsUptoRow.holds Try.pinned (OpenSpec.upto fnExactLevelStepsSpec)

/-- 'laws.FnExactLeastBar', WHERE WHAT IT READS IS OF BULK AT MOST 1048576: true; the input reads as it did. -/
def fnExactLeastBarUptoRow : OpenClaim := { program := "ytbgmdomoagcleaa", sum := "1017a16a73f26222f85601813552b1df71c5e55e3931eb20405c2735b8c275cb", func := "loop.example/g01373/laws.FnExactLeastBar", spec := "fnExactLeastBar", unfollowed := true, recurses := true, apart := false, narrowed := true }
def FnExactLeastBarUptoSaid : Prop := fnExactLeastBarUptoRow.holds Try.pinned (OpenSpec.upto fnExactLeastBarSpec)

/-- 'laws.FnExactIsCut', WHERE WHAT IT READS IS OF BULK AT MOST 1048576: true; the input reads as it did. -/
def fnExactIsCutUptoRow : OpenClaim := { program := "ytbgmdomoagcleaa", sum := "1017a16a73f26222f85601813552b1df71c5e55e3931eb20405c2735b8c275cb", func := "loop.example/g01373/laws.FnExactIsCut", spec := "fnExactIsCut", unfollowed := true, recurses := true, apart := false, narrowed := true }
def FnExactIsCutUptoSaid : Prop := fnExactIsCutUptoRow.holds Try.pinned (OpenSpec.upto fnExactIsCutSpec)

/-- 'laws.FnExactFirstCut', WHERE WHAT IT READS IS OF BULK AT MOST 1048576: true; the input reads as it did. -/
def fnExactFirstCutUptoRow : OpenClaim := { program := "ytbgmdomoagcleaa", sum := "1017a16a73f26222f85601813552b1df71c5e55e3931eb20405c2735b8c275cb", func := "loop.example/g01373/laws.FnExactFirstCut", spec := "fnExactFirstCut", unfollowed := true, recurses := true, apart := false, narrowed := true }
def FnExactFirstCutUptoSaid : Prop := fnExactFirstCutUptoRow.holds Try.pinned (OpenSpec.upto fnExactFirstCutSpec)

/-- 'laws.FnExactRestsOfCut', WHERE WHAT IT READS IS OF BULK AT MOST 1048576: true; the input reads as it did. -/
def fnExactRestsOfCutUptoRow : OpenClaim := { program := "ytbgmdomoagcleaa", sum := "1017a16a73f26222f85601813552b1df71c5e55e3931eb20405c2735b8c275cb", func := "loop.example/g01373/laws.FnExactRestsOfCut", spec := "fnExactRestsOfCut", unfollowed := true, recurses := true, apart := false, narrowed := true }
def FnExactRestsOfCutUptoSaid : Prop := fnExactRestsOfCutUptoRow.holds Try.pinned (OpenSpec.upto fnExactRestsOfCutSpec)

end Rows
end Go.Proofs.Ytbgmdomoagcleaa
