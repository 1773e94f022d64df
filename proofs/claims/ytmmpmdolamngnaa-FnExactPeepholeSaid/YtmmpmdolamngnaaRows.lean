/-
  No cell of these rows narrows 'for every input' (looked for: loops, veiled, ifaces, maps, wideKeys, modest, calm, conditions, laid).
  DERIVED. THE GIVEN ROWS OF THIS SEAT. 10 by the template 'for every input the law returns true; each argument reads behind the call as it read before'; 0 by the template 'total and deterministic' (their statements: YtmmpmdolamngnaaTotals.lean).
  GIVEN WITH THE SEED: the statements are not yours to turn. If you find one false, say at which input.
  Laid BY PROGRAM, IN A SANDBOX (cutbox-rows.mjs): the forced cells as the released guide's own fill.sh prints them over the translation 984c578a8f034c56… (all of the seat's roots in one cut). By AI agents, Wed Nov 11 2026. No macro, syntax, notation, axiom, sorry.
-/
import Derived.Test.YtmmpmdolamngnaaChecked
import GoSem.Claim
import GoSem.ClaimJoined
import GoSem.ClaimMapViews
import Derived.JoinedTies
import Derived.KernelRfl
namespace Go.Proofs.Ytmmpmdolamngnaa
/- THE CELL 'sum', in the pinned program and in every row, IS THE sha256 OF THE DUMP (.gsa) THAT YtmmpmdolamngnaaProg.lean LOADS. Nothing in Lean hashes anything: it is a label: what it is worth is what the hold of that sum in a sandbox is worth. -/
noncomputable def Try.pinned : Pinned := { name := "ytmmpmdolamngnaa", sum := "984c578a8f034c56c6dcfa08b7aedb274ca74b442554b0a55b8f4f00b4b66336", checked := Try.checked }
namespace Rows
def none {H : Type} : Left H := { results := [], args := [] }

/-- 'laws.FnExactMergeGates': WHATEVER THE INPUT: true; the input reads as it did. -/
def fnExactMergeGatesSpec : ChangeSpec := { name := "fnExactMergeGates", fn := fun _ => fun
  | [d1, d2] => { results := [.lit (.bool true)], args := [d1, d2] }
  | _ => none }
def fnExactMergeGatesRow : OpenClaim := { program := "ytmmpmdolamngnaa", sum := "984c578a8f034c56c6dcfa08b7aedb274ca74b442554b0a55b8f4f00b4b66336", func := "loop.example/g00506/laws.FnExactMergeGates", spec := "fnExactMergeGates", plainKeys := false, apart := false }
def FnExactMergeGatesSaid : Prop := fnExactMergeGatesRow.holds Try.pinned (OpenSpec.ofChange fnExactMergeGatesSpec)

/-- ITS FALSE NEIGHBOUR: 'it returns false'. Refute it at one input. -/
def fnExactMergeGatesWrong : ChangeSpec := { name := "fnExactMergeGates", fn := fun _ => fun
  | [d1, d2] => { results := [.lit (.bool false)], args := [d1, d2] }
  | _ => none }
def FnExactMergeGatesWrongFalsely : Prop := fnExactMergeGatesRow.holds Try.pinned (OpenSpec.ofChange fnExactMergeGatesWrong)

/-- 'laws.FnExactPeepholeStep': WHATEVER THE INPUT: true; the input reads as it did. -/
def fnExactPeepholeStepSpec : ChangeSpec := { name := "fnExactPeepholeStep", fn := fun _ => fun
  | [d] => { results := [.lit (.bool true)], args := [d] }
  | _ => none }
def fnExactPeepholeStepRow : OpenClaim := { program := "ytmmpmdolamngnaa", sum := "984c578a8f034c56c6dcfa08b7aedb274ca74b442554b0a55b8f4f00b4b66336", func := "loop.example/g00506/laws.FnExactPeepholeStep", spec := "fnExactPeepholeStep", plainKeys := false, apart := false }
def FnExactPeepholeStepSaid : Prop := fnExactPeepholeStepRow.holds Try.pinned (OpenSpec.ofChange fnExactPeepholeStepSpec)

/-- ITS FALSE NEIGHBOUR: 'it returns false'. Refute it at one input. -/
def fnExactPeepholeStepWrong : ChangeSpec := { name := "fnExactPeepholeStep", fn := fun _ => fun
  | [d] => { results := [.lit (.bool false)], args := [d] }
  | _ => none }
def FnExactPeepholeStepWrongFalsely : Prop := fnExactPeepholeStepRow.holds Try.pinned (OpenSpec.ofChange fnExactPeepholeStepWrong)

/-- 'laws.FnExactPeephole': WHATEVER THE INPUT: true; the input reads as it did. -/
def fnExactPeepholeSpec : ChangeSpec := { name := "fnExactPeephole", fn := fun _ => fun
  | [d] => { results := [.lit (.bool true)], args := [d] }
  | _ => none }
def fnExactPeepholeRow : OpenClaim := { program := "ytmmpmdolamngnaa", sum := "984c578a8f034c56c6dcfa08b7aedb274ca74b442554b0a55b8f4f00b4b66336", func := "loop.example/g00506/laws.FnExactPeephole", spec := "fnExactPeephole", plainKeys := false, apart := false }
def FnExactPeepholeSaid : Prop := fnExactPeepholeRow.holds Try.pinned (OpenSpec.ofChange fnExactPeepholeSpec)

/-- ITS FALSE NEIGHBOUR: 'it returns false'. Refute it at one input. -/
def fnExactPeepholeWrong : ChangeSpec := { name := "fnExactPeephole", fn := fun _ => fun
  | [d] => { results := [.lit (.bool false)], args := [d] }
  | _ => none }
def FnExactPeepholeWrongFalsely : Prop := fnExactPeepholeRow.holds Try.pinned (OpenSpec.ofChange fnExactPeepholeWrong)

/-- 'laws.FnCost': WHATEVER THE INPUT: true; the input reads as it did. -/
def fnCostSpec : ChangeSpec := { name := "fnCost", fn := fun _ => fun
  | [d] => { results := [.lit (.bool true)], args := [d] }
  | _ => none }
def fnCostRow : OpenClaim := { program := "ytmmpmdolamngnaa", sum := "984c578a8f034c56c6dcfa08b7aedb274ca74b442554b0a55b8f4f00b4b66336", func := "loop.example/g00506/laws.FnCost", spec := "fnCost", plainKeys := false, apart := false }
def FnCostSaid : Prop := fnCostRow.holds Try.pinned (OpenSpec.ofChange fnCostSpec)

/-- ITS FALSE NEIGHBOUR: 'it returns false'. Refute it at one input. -/
def fnCostWrong : ChangeSpec := { name := "fnCost", fn := fun _ => fun
  | [d] => { results := [.lit (.bool false)], args := [d] }
  | _ => none }
def FnCostWrongFalsely : Prop := fnCostRow.holds Try.pinned (OpenSpec.ofChange fnCostWrong)

/-- 'laws.FnCommuteOk': WHATEVER THE INPUT: true; the input reads as it did. -/
def fnCommuteOkSpec : ChangeSpec := { name := "fnCommuteOk", fn := fun _ => fun
  | [d] => { results := [.lit (.bool true)], args := [d] }
  | _ => none }
def fnCommuteOkRow : OpenClaim := { program := "ytmmpmdolamngnaa", sum := "984c578a8f034c56c6dcfa08b7aedb274ca74b442554b0a55b8f4f00b4b66336", func := "loop.example/g00506/laws.FnCommuteOk", spec := "fnCommuteOk", plainKeys := false, apart := false }
def FnCommuteOkSaid : Prop := fnCommuteOkRow.holds Try.pinned (OpenSpec.ofChange fnCommuteOkSpec)

/-- ITS FALSE NEIGHBOUR: 'it returns false'. Refute it at one input. -/
def fnCommuteOkWrong : ChangeSpec := { name := "fnCommuteOk", fn := fun _ => fun
  | [d] => { results := [.lit (.bool false)], args := [d] }
  | _ => none }
def FnCommuteOkWrongFalsely : Prop := fnCommuteOkRow.holds Try.pinned (OpenSpec.ofChange fnCommuteOkWrong)

/-- 'laws.FnMerged': WHATEVER THE INPUT: true; the input reads as it did. -/
def fnMergedSpec : ChangeSpec := { name := "fnMerged", fn := fun _ => fun
  | [d] => { results := [.lit (.bool true)], args := [d] }
  | _ => none }
def fnMergedRow : OpenClaim := { program := "ytmmpmdolamngnaa", sum := "984c578a8f034c56c6dcfa08b7aedb274ca74b442554b0a55b8f4f00b4b66336", func := "loop.example/g00506/laws.FnMerged", spec := "fnMerged", plainKeys := false, apart := false }
def FnMergedSaid : Prop := fnMergedRow.holds Try.pinned (OpenSpec.ofChange fnMergedSpec)

/-- ITS FALSE NEIGHBOUR: 'it returns false'. Refute it at one input. -/
def fnMergedWrong : ChangeSpec := { name := "fnMerged", fn := fun _ => fun
  | [d] => { results := [.lit (.bool false)], args := [d] }
  | _ => none }
def FnMergedWrongFalsely : Prop := fnMergedRow.holds Try.pinned (OpenSpec.ofChange fnMergedWrong)

/-- 'laws.FnPeepOnce': WHATEVER THE INPUT: true; the input reads as it did. -/
def fnPeepOnceSpec : ChangeSpec := { name := "fnPeepOnce", fn := fun _ => fun
  | [d] => { results := [.lit (.bool true)], args := [d] }
  | _ => none }
def fnPeepOnceRow : OpenClaim := { program := "ytmmpmdolamngnaa", sum := "984c578a8f034c56c6dcfa08b7aedb274ca74b442554b0a55b8f4f00b4b66336", func := "loop.example/g00506/laws.FnPeepOnce", spec := "fnPeepOnce", plainKeys := false, apart := false }
def FnPeepOnceSaid : Prop := fnPeepOnceRow.holds Try.pinned (OpenSpec.ofChange fnPeepOnceSpec)

/-- ITS FALSE NEIGHBOUR: 'it returns false'. Refute it at one input. -/
def fnPeepOnceWrong : ChangeSpec := { name := "fnPeepOnce", fn := fun _ => fun
  | [d] => { results := [.lit (.bool false)], args := [d] }
  | _ => none }
def FnPeepOnceWrongFalsely : Prop := fnPeepOnceRow.holds Try.pinned (OpenSpec.ofChange fnPeepOnceWrong)

/-- 'laws.FnPeep': WHATEVER THE INPUT: true; the input reads as it did. -/
def fnPeepSpec : ChangeSpec := { name := "fnPeep", fn := fun _ => fun
  | [d] => { results := [.lit (.bool true)], args := [d] }
  | _ => none }
def fnPeepRow : OpenClaim := { program := "ytmmpmdolamngnaa", sum := "984c578a8f034c56c6dcfa08b7aedb274ca74b442554b0a55b8f4f00b4b66336", func := "loop.example/g00506/laws.FnPeep", spec := "fnPeep", plainKeys := false, apart := false }
def FnPeepSaid : Prop := fnPeepRow.holds Try.pinned (OpenSpec.ofChange fnPeepSpec)

/-- ITS FALSE NEIGHBOUR: 'it returns false'. Refute it at one input. -/
def fnPeepWrong : ChangeSpec := { name := "fnPeep", fn := fun _ => fun
  | [d] => { results := [.lit (.bool false)], args := [d] }
  | _ => none }
def FnPeepWrongFalsely : Prop := fnPeepRow.holds Try.pinned (OpenSpec.ofChange fnPeepWrong)

/-- 'laws.FnBridgePath': WHATEVER THE INPUT: true; the input reads as it did. -/
def fnBridgePathSpec : ChangeSpec := { name := "fnBridgePath", fn := fun _ => fun
  | [d] => { results := [.lit (.bool true)], args := [d] }
  | _ => none }
def fnBridgePathRow : OpenClaim := { program := "ytmmpmdolamngnaa", sum := "984c578a8f034c56c6dcfa08b7aedb274ca74b442554b0a55b8f4f00b4b66336", func := "loop.example/g00506/laws.FnBridgePath", spec := "fnBridgePath", recurses := true, plainKeys := false, apart := false }
def FnBridgePathSaid : Prop := fnBridgePathRow.holds Try.pinned (OpenSpec.ofChange fnBridgePathSpec)

/-- ITS FALSE NEIGHBOUR: 'it returns false'. Refute it at one input. -/
def fnBridgePathWrong : ChangeSpec := { name := "fnBridgePath", fn := fun _ => fun
  | [d] => { results := [.lit (.bool false)], args := [d] }
  | _ => none }
def FnBridgePathWrongFalsely : Prop := fnBridgePathRow.holds Try.pinned (OpenSpec.ofChange fnBridgePathWrong)

/-- 'laws.FnRouteCounts': WHATEVER THE INPUT: true; the input reads as it did. -/
def fnRouteCountsSpec : ChangeSpec := { name := "fnRouteCounts", fn := fun _ => fun
  | [d] => { results := [.lit (.bool true)], args := [d] }
  | _ => none }
def fnRouteCountsRow : OpenClaim := { program := "ytmmpmdolamngnaa", sum := "984c578a8f034c56c6dcfa08b7aedb274ca74b442554b0a55b8f4f00b4b66336", func := "loop.example/g00506/laws.FnRouteCounts", spec := "fnRouteCounts", plainKeys := false, apart := false }
def FnRouteCountsSaid : Prop := fnRouteCountsRow.holds Try.pinned (OpenSpec.ofChange fnRouteCountsSpec)

/-- ITS FALSE NEIGHBOUR: 'it returns false'. Refute it at one input. -/
def fnRouteCountsWrong : ChangeSpec := { name := "fnRouteCounts", fn := fun _ => fun
  | [d] => { results := [.lit (.bool false)], args := [d] }
  | _ => none }
def FnRouteCountsWrongFalsely : Prop := fnRouteCountsRow.holds Try.pinned (OpenSpec.ofChange fnRouteCountsWrong)

/- THE SECOND FORM. 'bulk': how many values and letters a reading holds, each counted each time it is reached (what is shared counts as often as it is met; a slice's spare places count too). A statement '..UptoSaid' is the law's where the arguments, and the package variables that the reading takes, are together of bulk at most 1048576: NARROWER than '..Said'. Prove '..Said' where nothing that the law and all that it calls make is longer than what came in: it says more and counts as full. Else prove '..UptoSaid'. A law counts once. -/
mutual
def uptoBulk {H : Type} : DataW H → Nat
  | .lit (.string bytes) => bytes.length + 1
  | .lit _ => 1
  | .nil => 1
  | .ptr d => uptoBulk d + 1
  | .slice elems spare => uptoBulkAll elems + uptoBulkAll spare + 1
  | .agg parts => uptoBulkAll parts + 1
  | .iface _ d => uptoBulk d + 1
  | .map entries => uptoBulkEntries entries + 1
  | .held _ => 1
def uptoBulkAll {H : Type} : List (DataW H) → Nat
  | [] => 0
  | d :: r => uptoBulk d + uptoBulkAll r
def uptoBulkEntries {H : Type} : List (Lit × DataW H) → Nat
  | [] => 0
  | x :: r => uptoBulkEntry x + uptoBulkEntries r
def uptoBulkEntry {H : Type} : Lit × DataW H → Nat
  | (.string bytes, d) => bytes.length + uptoBulk d + 1
  | (_, d) => uptoBulk d + 1
 end
def uptoSmall : (H : Type) → List (DataW H) → Bool := fun _ ds => decide (uptoBulkAll ds ≤ 1048576)
def OpenSpec.upto (s : _root_.Go.ChangeSpec) : _root_.Go.OpenSpec := { _root_.Go.OpenSpec.ofChange s with cond := some uptoSmall }

/-- 'laws.FnExactMergeGates', WHERE WHAT IT READS IS OF BULK AT MOST 1048576: true; the input reads as it did. -/
def fnExactMergeGatesUptoRow : OpenClaim := { program := "ytmmpmdolamngnaa", sum := "984c578a8f034c56c6dcfa08b7aedb274ca74b442554b0a55b8f4f00b4b66336", func := "loop.example/g00506/laws.FnExactMergeGates", spec := "fnExactMergeGates", plainKeys := false, apart := false, narrowed := true }
def FnExactMergeGatesUptoSaid : Prop := fnExactMergeGatesUptoRow.holds Try.pinned (OpenSpec.upto fnExactMergeGatesSpec)

/-- 'laws.FnExactPeepholeStep', WHERE WHAT IT READS IS OF BULK AT MOST 1048576: true; the input reads as it did. -/
def fnExactPeepholeStepUptoRow : OpenClaim := { program := "ytmmpmdolamngnaa", sum := "984c578a8f034c56c6dcfa08b7aedb274ca74b442554b0a55b8f4f00b4b66336", func := "loop.example/g00506/laws.FnExactPeepholeStep", spec := "fnExactPeepholeStep", plainKeys := false, apart := false, narrowed := true }
def FnExactPeepholeStepUptoSaid : Prop := fnExactPeepholeStepUptoRow.holds Try.pinned (OpenSpec.upto fnExactPeepholeStepSpec)

/-- 'laws.FnExactPeephole', WHERE WHAT IT READS IS OF BULK AT MOST 1048576: true; the input reads as it did. -/
def fnExactPeepholeUptoRow : OpenClaim := { program := "ytmmpmdolamngnaa", sum := "984c578a8f034c56c6dcfa08b7aedb274ca74b442554b0a55b8f4f00b4b66336", func := "loop.example/g00506/laws.FnExactPeephole", spec := "fnExactPeephole", plainKeys := false, apart := false, narrowed := true }
def FnExactPeepholeUptoSaid : Prop := fnExactPeepholeUptoRow.holds Try.pinned (OpenSpec.upto fnExactPeepholeSpec)

/-- 'laws.FnCost', WHERE WHAT IT READS IS OF BULK AT MOST 1048576: true; the input reads as it did. -/
def fnCostUptoRow : OpenClaim := { program := "ytmmpmdolamngnaa", sum := "984c578a8f034c56c6dcfa08b7aedb274ca74b442554b0a55b8f4f00b4b66336", func := "loop.example/g00506/laws.FnCost", spec := "fnCost", plainKeys := false, apart := false, narrowed := true }
def FnCostUptoSaid : Prop := fnCostUptoRow.holds Try.pinned (OpenSpec.upto fnCostSpec)

/-- 'laws.FnCommuteOk', WHERE WHAT IT READS IS OF BULK AT MOST 1048576: true; the input reads as it did. -/
def fnCommuteOkUptoRow : OpenClaim := { program := "ytmmpmdolamngnaa", sum := "984c578a8f034c56c6dcfa08b7aedb274ca74b442554b0a55b8f4f00b4b66336", func := "loop.example/g00506/laws.FnCommuteOk", spec := "fnCommuteOk", plainKeys := false, apart := false, narrowed := true }
def FnCommuteOkUptoSaid : Prop := fnCommuteOkUptoRow.holds Try.pinned (OpenSpec.upto fnCommuteOkSpec)

/-- 'laws.FnMerged', WHERE WHAT IT READS IS OF BULK AT MOST 1048576: true; the input reads as it did. -/
def fnMergedUptoRow : OpenClaim := { program := "ytmmpmdolamngnaa", sum := "984c578a8f034c56c6dcfa08b7aedb274ca74b442554b0a55b8f4f00b4b66336", func := "loop.example/g00506/laws.FnMerged", spec := "fnMerged", plainKeys := false, apart := false, narrowed := true }
def FnMergedUptoSaid : Prop := fnMergedUptoRow.holds Try.pinned (OpenSpec.upto fnMergedSpec)

/-- 'laws.FnPeepOnce', WHERE WHAT IT READS IS OF BULK AT MOST 1048576: true; the input reads as it did. -/
def fnPeepOnceUptoRow : OpenClaim := { program := "ytmmpmdolamngnaa", sum := "984c578a8f034c56c6dcfa08b7aedb274ca74b442554b0a55b8f4f00b4b66336", func := "loop.example/g00506/laws.FnPeepOnce", spec := "fnPeepOnce", plainKeys := false, apart := false, narrowed := true }
def FnPeepOnceUptoSaid : Prop := fnPeepOnceUptoRow.holds Try.pinned (OpenSpec.upto fnPeepOnceSpec)

/-- 'laws.FnPeep', WHERE WHAT IT READS IS OF BULK AT MOST 1048576: true; the input reads as it did. -/
def fnPeepUptoRow : OpenClaim := { program := "ytmmpmdolamngnaa", sum := "984c578a8f034c56c6dcfa08b7aedb274ca74b442554b0a55b8f4f00b4b66336", func := "loop.example/g00506/laws.FnPeep", spec := "fnPeep", plainKeys := false, apart := false, narrowed := true }
def FnPeepUptoSaid : Prop := fnPeepUptoRow.holds Try.pinned (OpenSpec.upto fnPeepSpec)

/-- 'laws.FnBridgePath', WHERE WHAT IT READS IS OF BULK AT MOST 1048576: true; the input reads as it did. -/
def fnBridgePathUptoRow : OpenClaim := { program := "ytmmpmdolamngnaa", sum := "984c578a8f034c56c6dcfa08b7aedb274ca74b442554b0a55b8f4f00b4b66336", func := "loop.example/g00506/laws.FnBridgePath", spec := "fnBridgePath", recurses := true, plainKeys := false, apart := false, narrowed := true }
def FnBridgePathUptoSaid : Prop := fnBridgePathUptoRow.holds Try.pinned (OpenSpec.upto fnBridgePathSpec)

/-- 'laws.FnRouteCounts', WHERE WHAT IT READS IS OF BULK AT MOST 1048576: true; the input reads as it did. -/
def fnRouteCountsUptoRow : OpenClaim := { program := "ytmmpmdolamngnaa", sum := "984c578a8f034c56c6dcfa08b7aedb274ca74b442554b0a55b8f4f00b4b66336", func := "loop.example/g00506/laws.FnRouteCounts", spec := "fnRouteCounts", plainKeys := false, apart := false, narrowed := true }
def FnRouteCountsUptoSaid : Prop := fnRouteCountsUptoRow.holds Try.pinned (OpenSpec.upto fnRouteCountsSpec)

end Rows
end Go.Proofs.Ytmmpmdolamngnaa
