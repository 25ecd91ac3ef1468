/-
  No cell of these rows narrows 'for every input' (looked for: loops, veiled, ifaces, maps, wideKeys, modest, calm, conditions, laid).
  DERIVED. THE GIVEN ROWS OF THIS SEAT. 9 by the template 'for every input the law returns true; each argument reads behind the call as it read before'; 0 by the template 'total and deterministic' (their statements: YtmppchecbcflgaaTotals.lean).
  GIVEN WITH THE SEED: the statements are not yours to turn. If you find one false, say at which input.
  Laid BY PROGRAM, IN A SANDBOX (cutbox-rows.mjs): the forced cells as the released guide's own fill.sh prints them over the translation 8fc176909fd39979… (all of the seat's roots in one cut). By AI agents, Wed Nov 11 2026. No macro, syntax, notation, axiom, sorry.
-/
import Derived.Test.YtmppchecbcflgaaChecked
import GoSem.Claim
import GoSem.ClaimJoined
import GoSem.ClaimMapViews
import Derived.JoinedTies
import Derived.KernelRfl
namespace Go.Proofs.Ytmppchecbcflgaa
/- THE CELL 'sum', in the pinned program and in every row, IS THE sha256 OF THE DUMP (.gsa) THAT YtmppchecbcflgaaProg.lean LOADS. Nothing in Lean hashes anything: it is a label: what it is worth is what the hold of that sum in a sandbox is worth. -/
noncomputable def Try.pinned : Pinned := { name := "ytmppchecbcflgaa", sum := "8fc176909fd3997991e020b7a2aef90f019d241e9ee220fe9f0fd2f77e0ea991", checked := Try.checked }
namespace Rows
def none {H : Type} : Left H := { results := [], args := [] }

/-- 'laws.FnExactCountCatWays': WHATEVER THE INPUT: true; the input reads as it did. -/
def fnExactCountCatWaysSpec : ChangeSpec := { name := "fnExactCountCatWays", fn := fun _ => fun
  | [d1, d2, d3] => { results := [.lit (.bool true)], args := [d1, d2, d3] }
  | _ => none }
def fnExactCountCatWaysRow : OpenClaim := { program := "ytmppchecbcflgaa", sum := "8fc176909fd3997991e020b7a2aef90f019d241e9ee220fe9f0fd2f77e0ea991", func := "loop.example/g01373/laws.FnExactCountCatWays", spec := "fnExactCountCatWays", unfollowed := true, recurses := true, apart := false }
def FnExactCountCatWaysSaid : Prop := fnExactCountCatWaysRow.holds Try.pinned (OpenSpec.ofChange fnExactCountCatWaysSpec)

/-- ITS FALSE NEIGHBOUR: 'it returns false'. Refute it at one input. -/
def fnExactCountCatWaysWrong : ChangeSpec := { name := "fnExactCountCatWays", fn := fun _ => fun
  | [d1, d2, d3] => { results := [.lit (.bool false)], args := [d1, d2, d3] }
  | _ => none }
def FnExactCountCatWaysWrongFalsely : Prop := fnExactCountCatWaysRow.holds Try.pinned (OpenSpec.ofChange fnExactCountCatWaysWrong)

/-- 'laws.FnExactLeastClimb': WHATEVER THE INPUT: true; the input reads as it did. -/
def fnExactLeastClimbSpec : ChangeSpec := { name := "fnExactLeastClimb", fn := fun _ => fun
  | [d1, d2] => { results := [.lit (.bool true)], args := [d1, d2] }
  | _ => none }
def fnExactLeastClimbRow : OpenClaim := { program := "ytmppchecbcflgaa", sum := "8fc176909fd3997991e020b7a2aef90f019d241e9ee220fe9f0fd2f77e0ea991", func := "loop.example/g01373/laws.FnExactLeastClimb", spec := "fnExactLeastClimb", unfollowed := true, recurses := true, apart := false }
def FnExactLeastClimbSaid : Prop := fnExactLeastClimbRow.holds Try.pinned (OpenSpec.ofChange fnExactLeastClimbSpec)

/-- ITS FALSE NEIGHBOUR: 'it returns false'. Refute it at one input. -/
def fnExactLeastClimbWrong : ChangeSpec := { name := "fnExactLeastClimb", fn := fun _ => fun
  | [d1, d2] => { results := [.lit (.bool false)], args := [d1, d2] }
  | _ => none }
def FnExactLeastClimbWrongFalsely : Prop := fnExactLeastClimbRow.holds Try.pinned (OpenSpec.ofChange fnExactLeastClimbWrong)

/-- 'laws.FnExactLongestDown': WHATEVER THE INPUT: true; the input reads as it did. -/
def fnExactLongestDownSpec : ChangeSpec := { name := "fnExactLongestDown", fn := fun _ => fun
  | [d1, d2] => { results := [.lit (.bool true)], args := [d1, d2] }
  | _ => none }
def fnExactLongestDownRow : OpenClaim := { program := "ytmppchecbcflgaa", sum := "8fc176909fd3997991e020b7a2aef90f019d241e9ee220fe9f0fd2f77e0ea991", func := "loop.example/g01373/laws.FnExactLongestDown", spec := "fnExactLongestDown", unfollowed := true, recurses := true, apart := false }
def FnExactLongestDownSaid : Prop := fnExactLongestDownRow.holds Try.pinned (OpenSpec.ofChange fnExactLongestDownSpec)

/-- ITS FALSE NEIGHBOUR: 'it returns false'. Refute it at one input. -/
def fnExactLongestDownWrong : ChangeSpec := { name := "fnExactLongestDown", fn := fun _ => fun
  | [d1, d2] => { results := [.lit (.bool false)], args := [d1, d2] }
  | _ => none }
def FnExactLongestDownWrongFalsely : Prop := fnExactLongestDownRow.holds Try.pinned (OpenSpec.ofChange fnExactLongestDownWrong)

/-- 'laws.FnExactEasiestClimb': WHATEVER THE INPUT: true; the input reads as it did. -/
def fnExactEasiestClimbSpec : ChangeSpec := { name := "fnExactEasiestClimb", fn := fun _ => fun
  | [d1, d2] => { results := [.lit (.bool true)], args := [d1, d2] }
  | _ => none }
def fnExactEasiestClimbRow : OpenClaim := { program := "ytmppchecbcflgaa", sum := "8fc176909fd3997991e020b7a2aef90f019d241e9ee220fe9f0fd2f77e0ea991", func := "loop.example/g01373/laws.FnExactEasiestClimb", spec := "fnExactEasiestClimb", unfollowed := true, recurses := true, apart := false }
def FnExactEasiestClimbSaid : Prop := fnExactEasiestClimbRow.holds Try.pinned (OpenSpec.ofChange fnExactEasiestClimbSpec)

/-- ITS FALSE NEIGHBOUR: 'it returns false'. Refute it at one input. -/
def fnExactEasiestClimbWrong : ChangeSpec := { name := "fnExactEasiestClimb", fn := fun _ => fun
  | [d1, d2] => { results := [.lit (.bool false)], args := [d1, d2] }
  | _ => none }
def FnExactEasiestClimbWrongFalsely : Prop := fnExactEasiestClimbRow.holds Try.pinned (OpenSpec.ofChange fnExactEasiestClimbWrong)

/-- 'laws.FnExactFewestJumps': WHATEVER THE INPUT: true; the input reads as it did. -/
def fnExactFewestJumpsSpec : ChangeSpec := { name := "fnExactFewestJumps", fn := fun _ => fun
  | [d1, d2, d3] => { results := [.lit (.bool true)], args := [d1, d2, d3] }
  | _ => none }
def fnExactFewestJumpsRow : OpenClaim := { program := "ytmppchecbcflgaa", sum := "8fc176909fd3997991e020b7a2aef90f019d241e9ee220fe9f0fd2f77e0ea991", func := "loop.example/g01373/laws.FnExactFewestJumps", spec := "fnExactFewestJumps", unfollowed := true, recurses := true, apart := false }
def FnExactFewestJumpsSaid : Prop := fnExactFewestJumpsRow.holds Try.pinned (OpenSpec.ofChange fnExactFewestJumpsSpec)

/-- ITS FALSE NEIGHBOUR: 'it returns false'. Refute it at one input. -/
def fnExactFewestJumpsWrong : ChangeSpec := { name := "fnExactFewestJumps", fn := fun _ => fun
  | [d1, d2, d3] => { results := [.lit (.bool false)], args := [d1, d2, d3] }
  | _ => none }
def FnExactFewestJumpsWrongFalsely : Prop := fnExactFewestJumpsRow.holds Try.pinned (OpenSpec.ofChange fnExactFewestJumpsWrong)

/-- 'laws.FnExactReachedBoards': WHATEVER THE INPUT: true; the input reads as it did. -/
def fnExactReachedBoardsSpec : ChangeSpec := { name := "fnExactReachedBoards", fn := fun _ => fun
  | [d1, d2, d3] => { results := [.lit (.bool true)], args := [d1, d2, d3] }
  | _ => none }
def fnExactReachedBoardsRow : OpenClaim := { program := "ytmppchecbcflgaa", sum := "8fc176909fd3997991e020b7a2aef90f019d241e9ee220fe9f0fd2f77e0ea991", func := "loop.example/g01373/laws.FnExactReachedBoards", spec := "fnExactReachedBoards", unfollowed := true, recurses := true, apart := false }
def FnExactReachedBoardsSaid : Prop := fnExactReachedBoardsRow.holds Try.pinned (OpenSpec.ofChange fnExactReachedBoardsSpec)

/-- ITS FALSE NEIGHBOUR: 'it returns false'. Refute it at one input. -/
def fnExactReachedBoardsWrong : ChangeSpec := { name := "fnExactReachedBoards", fn := fun _ => fun
  | [d1, d2, d3] => { results := [.lit (.bool false)], args := [d1, d2, d3] }
  | _ => none }
def FnExactReachedBoardsWrongFalsely : Prop := fnExactReachedBoardsRow.holds Try.pinned (OpenSpec.ofChange fnExactReachedBoardsWrong)

/-- 'laws.FnExactFirstLeastClimb': WHATEVER THE INPUT: true; the input reads as it did. -/
def fnExactFirstLeastClimbSpec : ChangeSpec := { name := "fnExactFirstLeastClimb", fn := fun _ => fun
  | [d1, d2] => { results := [.lit (.bool true)], args := [d1, d2] }
  | _ => none }
def fnExactFirstLeastClimbRow : OpenClaim := { program := "ytmppchecbcflgaa", sum := "8fc176909fd3997991e020b7a2aef90f019d241e9ee220fe9f0fd2f77e0ea991", func := "loop.example/g01373/laws.FnExactFirstLeastClimb", spec := "fnExactFirstLeastClimb", unfollowed := true, recurses := true, apart := false }
def FnExactFirstLeastClimbSaid : Prop := fnExactFirstLeastClimbRow.holds Try.pinned (OpenSpec.ofChange fnExactFirstLeastClimbSpec)

/-- ITS FALSE NEIGHBOUR: 'it returns false'. Refute it at one input. -/
def fnExactFirstLeastClimbWrong : ChangeSpec := { name := "fnExactFirstLeastClimb", fn := fun _ => fun
  | [d1, d2] => { results := [.lit (.bool false)], args := [d1, d2] }
  | _ => none }
def FnExactFirstLeastClimbWrongFalsely : Prop := fnExactFirstLeastClimbRow.holds Try.pinned (OpenSpec.ofChange fnExactFirstLeastClimbWrong)

/-- 'laws.FnExactFirstFewestJumps': WHATEVER THE INPUT: true; the input reads as it did. -/
def fnExactFirstFewestJumpsSpec : ChangeSpec := { name := "fnExactFirstFewestJumps", fn := fun _ => fun
  | [d1, d2, d3] => { results := [.lit (.bool true)], args := [d1, d2, d3] }
  | _ => none }
def fnExactFirstFewestJumpsRow : OpenClaim := { program := "ytmppchecbcflgaa", sum := "8fc176909fd3997991e020b7a2aef90f019d241e9ee220fe9f0fd2f77e0ea991", func := "loop.example/g01373/laws.FnExactFirstFewestJumps", spec := "fnExactFirstFewestJumps", unfollowed := true, recurses := true, apart := false }
def FnExactFirstFewestJumpsSaid : Prop := fnExactFirstFewestJumpsRow.holds Try.pinned (OpenSpec.ofChange fnExactFirstFewestJumpsSpec)

/-- ITS FALSE NEIGHBOUR: 'it returns false'. Refute it at one input. -/
def fnExactFirstFewestJumpsWrong : ChangeSpec := { name := "fnExactFirstFewestJumps", fn := fun _ => fun
  | [d1, d2, d3] => { results := [.lit (.bool false)], args := [d1, d2, d3] }
  | _ => none }
def FnExactFirstFewestJumpsWrongFalsely : Prop := fnExactFirstFewestJumpsRow.holds Try.pinned (OpenSpec.ofChange fnExactFirstFewestJumpsWrong)

/-- 'laws.FnExactNeededBoards': WHATEVER THE INPUT: true; the input reads as it did. -/
def fnExactNeededBoardsSpec : ChangeSpec := { name := "fnExactNeededBoards", fn := fun _ => fun
  | [d1, d2, d3] => { results := [.lit (.bool true)], args := [d1, d2, d3] }
  | _ => none }
def fnExactNeededBoardsRow : OpenClaim := { program := "ytmppchecbcflgaa", sum := "8fc176909fd3997991e020b7a2aef90f019d241e9ee220fe9f0fd2f77e0ea991", func := "loop.example/g01373/laws.FnExactNeededBoards", spec := "fnExactNeededBoards", unfollowed := true, recurses := true, apart := false }
def FnExactNeededBoardsSaid : Prop := fnExactNeededBoardsRow.holds Try.pinned (OpenSpec.ofChange fnExactNeededBoardsSpec)

/-- ITS FALSE NEIGHBOUR: 'it returns false'. Refute it at one input. -/
def fnExactNeededBoardsWrong : ChangeSpec := { name := "fnExactNeededBoards", fn := fun _ => fun
  | [d1, d2, d3] => { results := [.lit (.bool false)], args := [d1, d2, d3] }
  | _ => none }
def FnExactNeededBoardsWrongFalsely : Prop := fnExactNeededBoardsRow.holds Try.pinned (OpenSpec.ofChange fnExactNeededBoardsWrong)

/- THE SECOND FORM. 'bulk': how many values and letters a reading holds, each counted each time it is reached (what is shared counts as often as it is met; a slice's spare places count too). A statement '..UptoSaid' is the law's where the arguments, and the package variables that the reading takes, are together of bulk at most 1048576: NARROWER than '..Said'. Prove '..Said' where nothing that the law and all that it calls make is longer than what came in: it says more and counts as full. Else prove '..UptoSaid'. A law counts once. -/
mutual
def uptoBulk {H : Type} : DataW H → Nat
  | .lit (.string bytes) => bytes.length + 1
  | .lit _ => 1
  | .nil => 1
  | .ptr d => uptoBulk d + 1
  | .slice elems spare => uptoBulkAll elems + uptoBulkAll spare + 1
  | .agg parts => uptoBulkAll parts + 1
  | .iface _ d => uptoBulk d + 1
  | .map entries => uptoBulkEntries entries + 1
  | .held _ => 1
def uptoBulkAll {H : Type} : List (DataW H) → Nat
  | [] => 0
  | d :: r => uptoBulk d + uptoBulkAll r
def uptoBulkEntries {H : Type} : List (Lit × DataW H) → Nat
  | [] => 0
  | x :: r => uptoBulkEntry x + uptoBulkEntries r
def uptoBulkEntry {H : Type} : Lit × DataW H → Nat
  | (.string bytes, d) => bytes.length + uptoBulk d + 1
  | (_, d) => uptoBulk d + 1
 end
def uptoSmall : (H : Type) → List (DataW H) → Bool := fun _ ds => decide (uptoBulkAll ds ≤ 1048576)
def OpenSpec.upto (s : _root_.Go.ChangeSpec) : _root_.Go.OpenSpec := { _root_.Go.OpenSpec.ofChange s with cond := some uptoSmall }

/-- 'laws.FnExactCountCatWays', WHERE WHAT IT READS IS OF BULK AT MOST 1048576: true; the input reads as it did. -/
def fnExactCountCatWaysUptoRow : OpenClaim := { program := "ytmppchecbcflgaa", sum := "8fc176909fd3997991e020b7a2aef90f019d241e9ee220fe9f0fd2f77e0ea991", func := "loop.example/g01373/laws.FnExactCountCatWays", spec := "fnExactCountCatWays", unfollowed := true, recurses := true, apart := false, narrowed := true }
def FnExactCountCatWaysUptoSaid : Prop := fnExactCountCatWaysUptoRow.holds Try.pinned (OpenSpec.upto fnExactCountCatWaysSpec)

/-- 'laws.FnExactLeastClimb', WHERE WHAT IT READS IS OF BULK AT MOST 1048576: true; the input reads as it did. -/
def fnExactLeastClimbUptoRow : OpenClaim := { program := "ytmppchecbcflgaa", sum := "8fc176909fd3997991e020b7a2aef90f019d241e9ee220fe9f0fd2f77e0ea991", func := "loop.example/g01373/laws.FnExactLeastClimb", spec := "fnExactLeastClimb", unfollowed := true, recurses := true, apart := false, narrowed := true }
def FnExactLeastClimbUptoSaid : Prop := fnExactLeastClimbUptoRow.holds Try.pinned (OpenSpec.upto fnExactLeastClimbSpec)

/-- 'laws.FnExactLongestDown', WHERE WHAT IT READS IS OF BULK AT MOST 1048576: true; the input reads as it did. -/
def fnExactLongestDownUptoRow : OpenClaim := { program := "ytmppchecbcflgaa", sum := "8fc176909fd3997991e020b7a2aef90f019d241e9ee220fe9f0fd2f77e0ea991", func := "loop.example/g01373/laws.FnExactLongestDown", spec := "fnExactLongestDown", unfollowed := true, recurses := true, apart := false, narrowed := true }
def FnExactLongestDownUptoSaid : Prop := fnExactLongestDownUptoRow.holds Try.pinned (OpenSpec.upto fnExactLongestDownSpec)

/-- 'laws.FnExactEasiestClimb', WHERE WHAT IT READS IS OF BULK AT MOST 1048576: true; the input reads as it did. -/
def fnExactEasiestClimbUptoRow : OpenClaim := { program := "ytmppchecbcflgaa", sum := "8fc176909fd3997991e020b7a2aef90f019d241e9ee220fe9f0fd2f77e0ea991", func := "loop.example/g01373/laws.FnExactEasiestClimb", spec := "fnExactEasiestClimb", unfollowed := true, recurses := true, apart := false, narrowed := true }
def FnExactEasiestClimbUptoSaid : Prop := fnExactEasiestClimbUptoRow.holds Try.pinned (OpenSpec.upto fnExactEasiestClimbSpec)

/-- 'laws.FnExactFewestJumps', WHERE WHAT IT READS IS OF BULK AT MOST 1048576: true; the input reads as it did. -/
def fnExactFewestJumpsUptoRow : OpenClaim := { program := "ytmppchecbcflgaa", sum := "8fc176909fd3997991e020b7a2aef90f019d241e9ee220fe9f0fd2f77e0ea991", func := "loop.example/g01373/laws.FnExactFewestJumps", spec := "fnExactFewestJumps", unfollowed := true, recurses := true, apart := false, narrowed := true }
def FnExactFewestJumpsUptoSaid : Prop := fnExactFewestJumpsUptoRow.holds Try.pinned (OpenSpec.upto fnExactFewestJumpsSpec)

/-- 'laws.FnExactReachedBoards', WHERE WHAT IT READS IS OF BULK AT MOST 1048576: true; the input reads as it did. -/
def fnExactReachedBoardsUptoRow : OpenClaim := { program := "ytmppchecbcflgaa", sum := "8fc176909fd3997991e020b7a2aef90f019d241e9ee220fe9f0fd2f77e0ea991", func := "loop.example/g01373/laws.FnExactReachedBoards", spec := "fnExactReachedBoards", unfollowed := true, recurses := true, apart := false, narrowed := true }
def FnExactReachedBoardsUptoSaid : Prop := fnExactReachedBoardsUptoRow.holds Try.pinned (OpenSpec.upto fnExactReachedBoardsSpec)

/-- 'laws.FnExactFirstLeastClimb', WHERE WHAT IT READS IS OF BULK AT MOST 1048576: true; the input reads as it did. -/
def fnExactFirstLeastClimbUptoRow : OpenClaim := { program := "ytmppchecbcflgaa", sum := "8fc176909fd3997991e020b7a2aef90f019d241e9ee220fe9f0fd2f77e0ea991", func := "loop.example/g01373/laws.FnExactFirstLeastClimb", spec := "fnExactFirstLeastClimb", unfollowed := true, recurses := true, apart := false, narrowed := true }
def FnExactFirstLeastClimbUptoSaid : Prop := fnExactFirstLeastClimbUptoRow.holds Try.pinned (OpenSpec.upto fnExactFirstLeastClimbSpec)

/-- 'laws.FnExactFirstFewestJumps', WHERE WHAT IT READS IS OF BULK AT MOST 1048576: true; the input reads as it did. -/
def fnExactFirstFewestJumpsUptoRow : OpenClaim := { program := "ytmppchecbcflgaa", sum := "8fc176909fd3997991e020b7a2aef90f019d241e9ee220fe9f0fd2f77e0ea991", func := "loop.example/g01373/laws.FnExactFirstFewestJumps", spec := "fnExactFirstFewestJumps", unfollowed := true, recurses := true, apart := false, narrowed := true }
def FnExactFirstFewestJumpsUptoSaid : Prop := fnExactFirstFewestJumpsUptoRow.holds Try.pinned (OpenSpec.upto fnExactFirstFewestJumpsSpec)

/-- 'laws.FnExactNeededBoards', WHERE WHAT IT READS IS OF BULK AT MOST 1048576: true; the input reads as it did. -/
def fnExactNeededBoardsUptoRow : OpenClaim := { program := "ytmppchecbcflgaa", sum := "8fc176909fd3997991e020b7a2aef90f019d241e9ee220fe9f0fd2f77e0ea991", func := "loop.example/g01373/laws.FnExactNeededBoards", spec := "fnExactNeededBoards", unfollowed := true, recurses := true, apart := false, narrowed := true }
def FnExactNeededBoardsUptoSaid : Prop := fnExactNeededBoardsUptoRow.holds Try.pinned (OpenSpec.upto fnExactNeededBoardsSpec)

end Rows
end Go.Proofs.Ytmppchecbcflgaa
