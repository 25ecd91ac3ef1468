/-
  No cell of these rows narrows 'for every input' (looked for: loops, veiled, ifaces, maps, wideKeys, modest, calm, conditions, laid).
  DERIVED. THE GIVEN ROWS OF THIS SEAT. 10 by the template 'for every input the law returns true; each argument reads behind the call as it read before'; 0 by the template 'total and deterministic' (their statements: YtoffojbcpnipmaaTotals.lean).
  GIVEN WITH THE SEED: the statements are not yours to turn. If you find one false, say at which input.
  Laid BY PROGRAM, IN A SANDBOX (cutbox-rows.mjs): the forced cells as the released guide's own fill.sh prints them over the translation cf91db8eb4984df6… (all of the seat's roots in one cut). By AI agents, Wed Nov 11 2026. No macro, syntax, notation, axiom, sorry.
-/
import Derived.Test.YtoffojbcpnipmaaChecked
import GoSem.Claim
import GoSem.ClaimJoined
import GoSem.ClaimMapViews
import Derived.JoinedTies
import Derived.KernelRfl
namespace Go.Proofs.Ytoffojbcpnipmaa
/- THE CELL 'sum', in the pinned program and in every row, IS THE sha256 OF THE DUMP (.gsa) THAT YtoffojbcpnipmaaProg.lean LOADS. Nothing in Lean hashes anything: it is a label: what it is worth is what the hold of that sum in a sandbox is worth. -/
noncomputable def Try.pinned : Pinned := { name := "ytoffojbcpnipmaa", sum := "cf91db8eb4984df60837a50b51c3c438cc8d60f9762a2cf7a3d5db62f10a7af4", checked := Try.checked }
namespace Rows
def none {H : Type} : Left H := { results := [], args := [] }

/-- 'laws.FnExactAreHeights': WHATEVER THE INPUT: true; the input reads as it did. -/
def fnExactAreHeightsSpec : ChangeSpec := { name := "fnExactAreHeights", fn := fun _ => fun
  | [d] => { results := [.lit (.bool true)], args := [d] }
  | _ => none }
def fnExactAreHeightsRow : OpenClaim := { program := "ytoffojbcpnipmaa", sum := "cf91db8eb4984df60837a50b51c3c438cc8d60f9762a2cf7a3d5db62f10a7af4", func := "loop.example/g01373/laws.FnExactAreHeights", spec := "fnExactAreHeights", unfollowed := true, recurses := true, apart := false }
def FnExactAreHeightsSaid : Prop := fnExactAreHeightsRow.holds Try.pinned (OpenSpec.ofChange fnExactAreHeightsSpec)

/-- ITS FALSE NEIGHBOUR: 'it returns false'. Refute it at one input. -/
def fnExactAreHeightsWrong : ChangeSpec := { name := "fnExactAreHeights", fn := fun _ => fun
  | [d] => { results := [.lit (.bool false)], args := [d] }
  | _ => none }
def FnExactAreHeightsWrongFalsely : Prop := fnExactAreHeightsRow.holds Try.pinned (OpenSpec.ofChange fnExactAreHeightsWrong)

/-- 'laws.FnExactSeenFromLeft': WHATEVER THE INPUT: true; the input reads as it did. -/
def fnExactSeenFromLeftSpec : ChangeSpec := { name := "fnExactSeenFromLeft", fn := fun _ => fun
  | [d] => { results := [.lit (.bool true)], args := [d] }
  | _ => none }
def fnExactSeenFromLeftRow : OpenClaim := { program := "ytoffojbcpnipmaa", sum := "cf91db8eb4984df60837a50b51c3c438cc8d60f9762a2cf7a3d5db62f10a7af4", func := "loop.example/g01373/laws.FnExactSeenFromLeft", spec := "fnExactSeenFromLeft", unfollowed := true, recurses := true, apart := false }
def FnExactSeenFromLeftSaid : Prop := fnExactSeenFromLeftRow.holds Try.pinned (OpenSpec.ofChange fnExactSeenFromLeftSpec)

/-- ITS FALSE NEIGHBOUR: 'it returns false'. Refute it at one input. -/
def fnExactSeenFromLeftWrong : ChangeSpec := { name := "fnExactSeenFromLeft", fn := fun _ => fun
  | [d] => { results := [.lit (.bool false)], args := [d] }
  | _ => none }
def FnExactSeenFromLeftWrongFalsely : Prop := fnExactSeenFromLeftRow.holds Try.pinned (OpenSpec.ofChange fnExactSeenFromLeftWrong)

/-- 'laws.FnExactRaiseBoard': WHATEVER THE INPUT: true; the input reads as it did. -/
def fnExactRaiseBoardSpec : ChangeSpec := { name := "fnExactRaiseBoard", fn := fun _ => fun
  | [d1, d2, d3] => { results := [.lit (.bool true)], args := [d1, d2, d3] }
  | _ => none }
def fnExactRaiseBoardRow : OpenClaim := { program := "ytoffojbcpnipmaa", sum := "cf91db8eb4984df60837a50b51c3c438cc8d60f9762a2cf7a3d5db62f10a7af4", func := "loop.example/g01373/laws.FnExactRaiseBoard", spec := "fnExactRaiseBoard", unfollowed := true, recurses := true, apart := false }
def FnExactRaiseBoardSaid : Prop := fnExactRaiseBoardRow.holds Try.pinned (OpenSpec.ofChange fnExactRaiseBoardSpec)

/-- ITS FALSE NEIGHBOUR: 'it returns false'. Refute it at one input. -/
def fnExactRaiseBoardWrong : ChangeSpec := { name := "fnExactRaiseBoard", fn := fun _ => fun
  | [d1, d2, d3] => { results := [.lit (.bool false)], args := [d1, d2, d3] }
  | _ => none }
def FnExactRaiseBoardWrongFalsely : Prop := fnExactRaiseBoardRow.holds Try.pinned (OpenSpec.ofChange fnExactRaiseBoardWrong)

/-- 'laws.FnExactMirrorHeights': WHATEVER THE INPUT: true; the input reads as it did. -/
def fnExactMirrorHeightsSpec : ChangeSpec := { name := "fnExactMirrorHeights", fn := fun _ => fun
  | [d] => { results := [.lit (.bool true)], args := [d] }
  | _ => none }
def fnExactMirrorHeightsRow : OpenClaim := { program := "ytoffojbcpnipmaa", sum := "cf91db8eb4984df60837a50b51c3c438cc8d60f9762a2cf7a3d5db62f10a7af4", func := "loop.example/g01373/laws.FnExactMirrorHeights", spec := "fnExactMirrorHeights", unfollowed := true, recurses := true, apart := false }
def FnExactMirrorHeightsSaid : Prop := fnExactMirrorHeightsRow.holds Try.pinned (OpenSpec.ofChange fnExactMirrorHeightsSpec)

/-- ITS FALSE NEIGHBOUR: 'it returns false'. Refute it at one input. -/
def fnExactMirrorHeightsWrong : ChangeSpec := { name := "fnExactMirrorHeights", fn := fun _ => fun
  | [d] => { results := [.lit (.bool false)], args := [d] }
  | _ => none }
def FnExactMirrorHeightsWrongFalsely : Prop := fnExactMirrorHeightsRow.holds Try.pinned (OpenSpec.ofChange fnExactMirrorHeightsWrong)

/-- 'laws.FnExactHollowsOf': WHATEVER THE INPUT: true; the input reads as it did. -/
def fnExactHollowsOfSpec : ChangeSpec := { name := "fnExactHollowsOf", fn := fun _ => fun
  | [d] => { results := [.lit (.bool true)], args := [d] }
  | _ => none }
def fnExactHollowsOfRow : OpenClaim := { program := "ytoffojbcpnipmaa", sum := "cf91db8eb4984df60837a50b51c3c438cc8d60f9762a2cf7a3d5db62f10a7af4", func := "loop.example/g01373/laws.FnExactHollowsOf", spec := "fnExactHollowsOf", unfollowed := true, recurses := true, apart := false }
def FnExactHollowsOfSaid : Prop := fnExactHollowsOfRow.holds Try.pinned (OpenSpec.ofChange fnExactHollowsOfSpec)

/-- ITS FALSE NEIGHBOUR: 'it returns false'. Refute it at one input. -/
def fnExactHollowsOfWrong : ChangeSpec := { name := "fnExactHollowsOf", fn := fun _ => fun
  | [d] => { results := [.lit (.bool false)], args := [d] }
  | _ => none }
def FnExactHollowsOfWrongFalsely : Prop := fnExactHollowsOfRow.holds Try.pinned (OpenSpec.ofChange fnExactHollowsOfWrong)

/-- 'laws.FnExactTopsOf': WHATEVER THE INPUT: true; the input reads as it did. -/
def fnExactTopsOfSpec : ChangeSpec := { name := "fnExactTopsOf", fn := fun _ => fun
  | [d] => { results := [.lit (.bool true)], args := [d] }
  | _ => none }
def fnExactTopsOfRow : OpenClaim := { program := "ytoffojbcpnipmaa", sum := "cf91db8eb4984df60837a50b51c3c438cc8d60f9762a2cf7a3d5db62f10a7af4", func := "loop.example/g01373/laws.FnExactTopsOf", spec := "fnExactTopsOf", unfollowed := true, recurses := true, apart := false }
def FnExactTopsOfSaid : Prop := fnExactTopsOfRow.holds Try.pinned (OpenSpec.ofChange fnExactTopsOfSpec)

/-- ITS FALSE NEIGHBOUR: 'it returns false'. Refute it at one input. -/
def fnExactTopsOfWrong : ChangeSpec := { name := "fnExactTopsOf", fn := fun _ => fun
  | [d] => { results := [.lit (.bool false)], args := [d] }
  | _ => none }
def FnExactTopsOfWrongFalsely : Prop := fnExactTopsOfRow.holds Try.pinned (OpenSpec.ofChange fnExactTopsOfWrong)

/-- 'laws.FnExactClimbOf': WHATEVER THE INPUT: true; the input reads as it did. -/
def fnExactClimbOfSpec : ChangeSpec := { name := "fnExactClimbOf", fn := fun _ => fun
  | [d1, d2] => { results := [.lit (.bool true)], args := [d1, d2] }
  | _ => none }
def fnExactClimbOfRow : OpenClaim := { program := "ytoffojbcpnipmaa", sum := "cf91db8eb4984df60837a50b51c3c438cc8d60f9762a2cf7a3d5db62f10a7af4", func := "loop.example/g01373/laws.FnExactClimbOf", spec := "fnExactClimbOf", unfollowed := true, recurses := true, apart := false }
def FnExactClimbOfSaid : Prop := fnExactClimbOfRow.holds Try.pinned (OpenSpec.ofChange fnExactClimbOfSpec)

/-- ITS FALSE NEIGHBOUR: 'it returns false'. Refute it at one input. -/
def fnExactClimbOfWrong : ChangeSpec := { name := "fnExactClimbOf", fn := fun _ => fun
  | [d1, d2] => { results := [.lit (.bool false)], args := [d1, d2] }
  | _ => none }
def FnExactClimbOfWrongFalsely : Prop := fnExactClimbOfRow.holds Try.pinned (OpenSpec.ofChange fnExactClimbOfWrong)

/-- 'laws.FnExactIsCatWay': WHATEVER THE INPUT: true; the input reads as it did. -/
def fnExactIsCatWaySpec : ChangeSpec := { name := "fnExactIsCatWay", fn := fun _ => fun
  | [d1, d2, d3, d4] => { results := [.lit (.bool true)], args := [d1, d2, d3, d4] }
  | _ => none }
def fnExactIsCatWayRow : OpenClaim := { program := "ytoffojbcpnipmaa", sum := "cf91db8eb4984df60837a50b51c3c438cc8d60f9762a2cf7a3d5db62f10a7af4", func := "loop.example/g01373/laws.FnExactIsCatWay", spec := "fnExactIsCatWay", unfollowed := true, recurses := true, apart := false }
def FnExactIsCatWaySaid : Prop := fnExactIsCatWayRow.holds Try.pinned (OpenSpec.ofChange fnExactIsCatWaySpec)

/-- ITS FALSE NEIGHBOUR: 'it returns false'. Refute it at one input. -/
def fnExactIsCatWayWrong : ChangeSpec := { name := "fnExactIsCatWay", fn := fun _ => fun
  | [d1, d2, d3, d4] => { results := [.lit (.bool false)], args := [d1, d2, d3, d4] }
  | _ => none }
def FnExactIsCatWayWrongFalsely : Prop := fnExactIsCatWayRow.holds Try.pinned (OpenSpec.ofChange fnExactIsCatWayWrong)

/-- 'laws.FnExactMostSeen': WHATEVER THE INPUT: true; the input reads as it did. -/
def fnExactMostSeenSpec : ChangeSpec := { name := "fnExactMostSeen", fn := fun _ => fun
  | [d] => { results := [.lit (.bool true)], args := [d] }
  | _ => none }
def fnExactMostSeenRow : OpenClaim := { program := "ytoffojbcpnipmaa", sum := "cf91db8eb4984df60837a50b51c3c438cc8d60f9762a2cf7a3d5db62f10a7af4", func := "loop.example/g01373/laws.FnExactMostSeen", spec := "fnExactMostSeen", unfollowed := true, recurses := true, apart := false }
def FnExactMostSeenSaid : Prop := fnExactMostSeenRow.holds Try.pinned (OpenSpec.ofChange fnExactMostSeenSpec)

/-- ITS FALSE NEIGHBOUR: 'it returns false'. Refute it at one input. -/
def fnExactMostSeenWrong : ChangeSpec := { name := "fnExactMostSeen", fn := fun _ => fun
  | [d] => { results := [.lit (.bool false)], args := [d] }
  | _ => none }
def FnExactMostSeenWrongFalsely : Prop := fnExactMostSeenRow.holds Try.pinned (OpenSpec.ofChange fnExactMostSeenWrong)

/-- 'laws.FnExactSeenFrom': WHATEVER THE INPUT: true; the input reads as it did. -/
def fnExactSeenFromSpec : ChangeSpec := { name := "fnExactSeenFrom", fn := fun _ => fun
  | [d1, d2] => { results := [.lit (.bool true)], args := [d1, d2] }
  | _ => none }
def fnExactSeenFromRow : OpenClaim := { program := "ytoffojbcpnipmaa", sum := "cf91db8eb4984df60837a50b51c3c438cc8d60f9762a2cf7a3d5db62f10a7af4", func := "loop.example/g01373/laws.FnExactSeenFrom", spec := "fnExactSeenFrom", unfollowed := true, recurses := true, apart := false }
def FnExactSeenFromSaid : Prop := fnExactSeenFromRow.holds Try.pinned (OpenSpec.ofChange fnExactSeenFromSpec)

/-- ITS FALSE NEIGHBOUR: 'it returns false'. Refute it at one input. -/
def fnExactSeenFromWrong : ChangeSpec := { name := "fnExactSeenFrom", fn := fun _ => fun
  | [d1, d2] => { results := [.lit (.bool false)], args := [d1, d2] }
  | _ => none }
def FnExactSeenFromWrongFalsely : Prop := fnExactSeenFromRow.holds Try.pinned (OpenSpec.ofChange fnExactSeenFromWrong)

/- THE SECOND FORM. 'bulk': how many values and letters a reading holds, each counted each time it is reached (what is shared counts as often as it is met; a slice's spare places count too). A statement '..UptoSaid' is the law's where the arguments, and the package variables that the reading takes, are together of bulk at most 1048576: NARROWER than '..Said'. Prove '..Said' where nothing that the law and all that it calls make is longer than what came in: it says more and counts as full. Else prove '..UptoSaid'. A law counts once. -/
mutual
def uptoBulk {H : Type} : DataW H → Nat
  | .lit (.string bytes) => bytes.length + 1
  | .lit _ => 1
  | .nil => 1
  | .ptr d => uptoBulk d + 1
  | .slice elems spare => uptoBulkAll elems + uptoBulkAll spare + 1
  | .agg parts => uptoBulkAll parts + 1
  | .iface _ d => uptoBulk d + 1
  | .map entries => uptoBulkEntries entries + 1
  | .held _ => 1
def uptoBulkAll {H : Type} : List (DataW H) → Nat
  | [] => 0
  | d :: r => uptoBulk d + uptoBulkAll r
def uptoBulkEntries {H : Type} : List (Lit × DataW H) → Nat
  | [] => 0
  | x :: r => uptoBulkEntry x + uptoBulkEntries r
def uptoBulkEntry {H : Type} : Lit × DataW H → Nat
  | (.string bytes, d) => bytes.length + uptoBulk d + 1
  | (_, d) => uptoBulk d + 1
 end
def uptoSmall : (H : Type) → List (DataW H) → Bool := fun _ ds => decide (uptoBulkAll ds ≤ 1048576)
def OpenSpec.upto (s : _root_.Go.ChangeSpec) : _root_.Go.OpenSpec := { _root_.Go.OpenSpec.ofChange s with cond := some uptoSmall }

/-- 'laws.FnExactAreHeights', WHERE WHAT IT READS IS OF BULK AT MOST 1048576: true; the input reads as it did. -/
def fnExactAreHeightsUptoRow : OpenClaim := { program := "ytoffojbcpnipmaa", sum := "cf91db8eb4984df60837a50b51c3c438cc8d60f9762a2cf7a3d5db62f10a7af4", func := "loop.example/g01373/laws.FnExactAreHeights", spec := "fnExactAreHeights", unfollowed := true, recurses := true, apart := false, narrowed := true }
def FnExactAreHeightsUptoSaid : Prop := fnExactAreHeightsUptoRow.holds Try.pinned (OpenSpec.upto fnExactAreHeightsSpec)

/-- 'laws.FnExactSeenFromLeft', WHERE WHAT IT READS IS OF BULK AT MOST 1048576: true; the input reads as it did. -/
def fnExactSeenFromLeftUptoRow : OpenClaim := { program := "ytoffojbcpnipmaa", sum := "cf91db8eb4984df60837a50b51c3c438cc8d60f9762a2cf7a3d5db62f10a7af4", func := "loop.example/g01373/laws.FnExactSeenFromLeft", spec := "fnExactSeenFromLeft", unfollowed := true, recurses := true, apart := false, narrowed := true }
def FnExactSeenFromLeftUptoSaid : Prop := fnExactSeenFromLeftUptoRow.holds Try.pinned (OpenSpec.upto fnExactSeenFromLeftSpec)

/-- 'laws.FnExactRaiseBoard', WHERE WHAT IT READS IS OF BULK AT MOST 1048576: true; the input reads as it did. -/
def fnExactRaiseBoardUptoRow : OpenClaim := { program := "ytoffojbcpnipmaa", sum := "cf91db8eb4984df60837a50b51c3c438cc8d60f9762a2cf7a3d5db62f10a7af4", func := "loop.example/g01373/laws.FnExactRaiseBoard", spec := "fnExactRaiseBoard", unfollowed := true, recurses := true, apart := false, narrowed := true }
def FnExactRaiseBoardUptoSaid : Prop := fnExactRaiseBoardUptoRow.holds Try.pinned (OpenSpec.upto fnExactRaiseBoardSpec)

/-- 'laws.FnExactMirrorHeights', WHERE WHAT IT READS IS OF BULK AT MOST 1048576: true; the input reads as it did. -/
def fnExactMirrorHeightsUptoRow : OpenClaim := { program := "ytoffojbcpnipmaa", sum := "cf91db8eb4984df60837a50b51c3c438cc8d60f9762a2cf7a3d5db62f10a7af4", func := "loop.example/g01373/laws.FnExactMirrorHeights", spec := "fnExactMirrorHeights", unfollowed := true, recurses := true, apart := false, narrowed := true }
def FnExactMirrorHeightsUptoSaid : Prop := fnExactMirrorHeightsUptoRow.holds Try.pinned (OpenSpec.upto fnExactMirrorHeightsSpec)

/-- 'laws.FnExactHollowsOf', WHERE WHAT IT READS IS OF BULK AT MOST 1048576: true; the input reads as it did. -/
def fnExactHollowsOfUptoRow : OpenClaim := { program := "ytoffojbcpnipmaa", sum := "cf91db8eb4984df60837a50b51c3c438cc8d60f9762a2cf7a3d5db62f10a7af4", func := "loop.example/g01373/laws.FnExactHollowsOf", spec := "fnExactHollowsOf", unfollowed := true, recurses := true, apart := false, narrowed := true }
def FnExactHollowsOfUptoSaid : Prop := fnExactHollowsOfUptoRow.holds Try.pinned (OpenSpec.upto fnExactHollowsOfSpec)

/-- 'laws.FnExactTopsOf', WHERE WHAT IT READS IS OF BULK AT MOST 1048576: true; the input reads as it did. -/
def fnExactTopsOfUptoRow : OpenClaim := { program := "ytoffojbcpnipmaa", sum := "cf91db8eb4984df60837a50b51c3c438cc8d60f9762a2cf7a3d5db62f10a7af4", func := "loop.example/g01373/laws.FnExactTopsOf", spec := "fnExactTopsOf", unfollowed := true, recurses := true, apart := false, narrowed := true }
def FnExactTopsOfUptoSaid : Prop := fnExactTopsOfUptoRow.holds Try.pinned (OpenSpec.upto fnExactTopsOfSpec)

/-- 'laws.FnExactClimbOf', WHERE WHAT IT READS IS OF BULK AT MOST 1048576: true; the input reads as it did. -/
def fnExactClimbOfUptoRow : OpenClaim := { program := "ytoffojbcpnipmaa", sum := "cf91db8eb4984df60837a50b51c3c438cc8d60f9762a2cf7a3d5db62f10a7af4", func := "loop.example/g01373/laws.FnExactClimbOf", spec := "fnExactClimbOf", unfollowed := true, recurses := true, apart := false, narrowed := true }
def FnExactClimbOfUptoSaid : Prop := fnExactClimbOfUptoRow.holds Try.pinned (OpenSpec.upto fnExactClimbOfSpec)

/-- 'laws.FnExactIsCatWay', WHERE WHAT IT READS IS OF BULK AT MOST 1048576: true; the input reads as it did. -/
def fnExactIsCatWayUptoRow : OpenClaim := { program := "ytoffojbcpnipmaa", sum := "cf91db8eb4984df60837a50b51c3c438cc8d60f9762a2cf7a3d5db62f10a7af4", func := "loop.example/g01373/laws.FnExactIsCatWay", spec := "fnExactIsCatWay", unfollowed := true, recurses := true, apart := false, narrowed := true }
def FnExactIsCatWayUptoSaid : Prop := fnExactIsCatWayUptoRow.holds Try.pinned (OpenSpec.upto fnExactIsCatWaySpec)

/-- 'laws.FnExactMostSeen', WHERE WHAT IT READS IS OF BULK AT MOST 1048576: true; the input reads as it did. -/
def fnExactMostSeenUptoRow : OpenClaim := { program := "ytoffojbcpnipmaa", sum := "cf91db8eb4984df60837a50b51c3c438cc8d60f9762a2cf7a3d5db62f10a7af4", func := "loop.example/g01373/laws.FnExactMostSeen", spec := "fnExactMostSeen", unfollowed := true, recurses := true, apart := false, narrowed := true }
def FnExactMostSeenUptoSaid : Prop := fnExactMostSeenUptoRow.holds Try.pinned (OpenSpec.upto fnExactMostSeenSpec)

/-- 'laws.FnExactSeenFrom', WHERE WHAT IT READS IS OF BULK AT MOST 1048576: true; the input reads as it did. -/
def fnExactSeenFromUptoRow : OpenClaim := { program := "ytoffojbcpnipmaa", sum := "cf91db8eb4984df60837a50b51c3c438cc8d60f9762a2cf7a3d5db62f10a7af4", func := "loop.example/g01373/laws.FnExactSeenFrom", spec := "fnExactSeenFrom", unfollowed := true, recurses := true, apart := false, narrowed := true }
def FnExactSeenFromUptoSaid : Prop := fnExactSeenFromUptoRow.holds Try.pinned (OpenSpec.upto fnExactSeenFromSpec)

end Rows
end Go.Proofs.Ytoffojbcpnipmaa
