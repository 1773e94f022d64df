/-
  No cell of these rows narrows 'for every input' (looked for: loops, veiled, ifaces, maps, wideKeys, modest, calm, conditions, laid).
  DERIVED. THE GIVEN ROWS OF THIS SEAT. 11 by the template 'for every input the law returns true; each argument reads behind the call as it read before'; 0 by the template 'total and deterministic' (their statements: YtgnallcfahpjmaaRTotals.lean).
  GIVEN WITH THE SEED: the statements are not yours to turn. If you find one false, say at which input.
  Laid BY PROGRAM, IN A SANDBOX (cutbox-rows.mjs): the forced cells as the released guide's own fill.sh prints them over the translation 5a3a85bed70dbfd5… (all of the seat's roots in one cut). By AI agents, Wed Nov 11 2026. No macro, syntax, notation, axiom, sorry.
-/
import Derived.Test.YtgnallcfahpjmaaRChecked
import GoSem.Claim
import GoSem.ClaimJoined
import GoSem.ClaimMapViews
import Derived.JoinedTies
import Derived.KernelRfl
namespace Go.Proofs.YtgnallcfahpjmaaR
/- THE CELL 'sum', in the pinned program and in every row, IS THE sha256 OF THE DUMP (.gsa) THAT YtgnallcfahpjmaaRProg.lean LOADS. Nothing in Lean hashes anything: it is a label: what it is worth is what the hold of that sum in a sandbox is worth. -/
noncomputable def Try.pinned : Pinned := { name := "ytgnallcfahpjmaar", sum := "5a3a85bed70dbfd5e837ea0d58bc601ecbe52f5930b7615c738be086a168ecca", checked := Try.checked }
namespace Rows
def none {H : Type} : Left H := { results := [], args := [] }

/-- 'laws.FnFold': WHATEVER THE INPUT: true; the input reads as it did. -/
def fnFoldSpec : ChangeSpec := { name := "fnFold", fn := fun _ => fun
  | [d] => { results := [.lit (.bool true)], args := [d] }
  | _ => none }
def fnFoldRow : OpenClaim := { program := "ytgnallcfahpjmaar", sum := "5a3a85bed70dbfd5e837ea0d58bc601ecbe52f5930b7615c738be086a168ecca", func := "loop.example/g00506/laws.FnFold", spec := "fnFold", plainKeys := false, apart := false }
def FnFoldSaid : Prop := fnFoldRow.holds Try.pinned (OpenSpec.ofChange fnFoldSpec)

/-- ITS FALSE NEIGHBOUR: 'it returns false'. Refute it at one input. -/
def fnFoldWrong : ChangeSpec := { name := "fnFold", fn := fun _ => fun
  | [d] => { results := [.lit (.bool false)], args := [d] }
  | _ => none }
def FnFoldWrongFalsely : Prop := fnFoldRow.holds Try.pinned (OpenSpec.ofChange fnFoldWrong)

/-- 'laws.FnFar': WHATEVER THE INPUT: true; the input reads as it did. -/
def fnFarSpec : ChangeSpec := { name := "fnFar", fn := fun _ => fun
  | [d] => { results := [.lit (.bool true)], args := [d] }
  | _ => none }
def fnFarRow : OpenClaim := { program := "ytgnallcfahpjmaar", sum := "5a3a85bed70dbfd5e837ea0d58bc601ecbe52f5930b7615c738be086a168ecca", func := "loop.example/g00506/laws.FnFar", spec := "fnFar", plainKeys := false, apart := false }
def FnFarSaid : Prop := fnFarRow.holds Try.pinned (OpenSpec.ofChange fnFarSpec)

/-- ITS FALSE NEIGHBOUR: 'it returns false'. Refute it at one input. -/
def fnFarWrong : ChangeSpec := { name := "fnFar", fn := fun _ => fun
  | [d] => { results := [.lit (.bool false)], args := [d] }
  | _ => none }
def FnFarWrongFalsely : Prop := fnFarRow.holds Try.pinned (OpenSpec.ofChange fnFarWrong)

/-- 'laws.FnGraph': WHATEVER THE INPUT: true; the input reads as it did. -/
def fnGraphSpec : ChangeSpec := { name := "fnGraph", fn := fun _ => fun
  | [d] => { results := [.lit (.bool true)], args := [d] }
  | _ => none }
def fnGraphRow : OpenClaim := { program := "ytgnallcfahpjmaar", sum := "5a3a85bed70dbfd5e837ea0d58bc601ecbe52f5930b7615c738be086a168ecca", func := "loop.example/g00506/laws.FnGraph", spec := "fnGraph", plainKeys := false, apart := false }
def FnGraphSaid : Prop := fnGraphRow.holds Try.pinned (OpenSpec.ofChange fnGraphSpec)

/-- ITS FALSE NEIGHBOUR: 'it returns false'. Refute it at one input. -/
def fnGraphWrong : ChangeSpec := { name := "fnGraph", fn := fun _ => fun
  | [d] => { results := [.lit (.bool false)], args := [d] }
  | _ => none }
def FnGraphWrongFalsely : Prop := fnGraphRow.holds Try.pinned (OpenSpec.ofChange fnGraphWrong)

/-- 'laws.FnPlace': WHATEVER THE INPUT: true; the input reads as it did. -/
def fnPlaceSpec : ChangeSpec := { name := "fnPlace", fn := fun _ => fun
  | [d] => { results := [.lit (.bool true)], args := [d] }
  | _ => none }
def fnPlaceRow : OpenClaim := { program := "ytgnallcfahpjmaar", sum := "5a3a85bed70dbfd5e837ea0d58bc601ecbe52f5930b7615c738be086a168ecca", func := "loop.example/g00506/laws.FnPlace", spec := "fnPlace", unfollowed := true, recurses := true, plainKeys := false, apart := false }
def FnPlaceSaid : Prop := fnPlaceRow.holds Try.pinned (OpenSpec.ofChange fnPlaceSpec)

/-- ITS FALSE NEIGHBOUR: 'it returns false'. Refute it at one input. -/
def fnPlaceWrong : ChangeSpec := { name := "fnPlace", fn := fun _ => fun
  | [d] => { results := [.lit (.bool false)], args := [d] }
  | _ => none }
def FnPlaceWrongFalsely : Prop := fnPlaceRow.holds Try.pinned (OpenSpec.ofChange fnPlaceWrong)

/-- 'laws.FnRouteCounts': WHATEVER THE INPUT: true; the input reads as it did. -/
def fnRouteCountsSpec : ChangeSpec := { name := "fnRouteCounts", fn := fun _ => fun
  | [d] => { results := [.lit (.bool true)], args := [d] }
  | _ => none }
def fnRouteCountsRow : OpenClaim := { program := "ytgnallcfahpjmaar", sum := "5a3a85bed70dbfd5e837ea0d58bc601ecbe52f5930b7615c738be086a168ecca", func := "loop.example/g00506/laws.FnRouteCounts", spec := "fnRouteCounts", plainKeys := false, apart := false }
def FnRouteCountsSaid : Prop := fnRouteCountsRow.holds Try.pinned (OpenSpec.ofChange fnRouteCountsSpec)

/-- ITS FALSE NEIGHBOUR: 'it returns false'. Refute it at one input. -/
def fnRouteCountsWrong : ChangeSpec := { name := "fnRouteCounts", fn := fun _ => fun
  | [d] => { results := [.lit (.bool false)], args := [d] }
  | _ => none }
def FnRouteCountsWrongFalsely : Prop := fnRouteCountsRow.holds Try.pinned (OpenSpec.ofChange fnRouteCountsWrong)

/-- 'laws.FnCommuteOk': WHATEVER THE INPUT: true; the input reads as it did. -/
def fnCommuteOkSpec : ChangeSpec := { name := "fnCommuteOk", fn := fun _ => fun
  | [d] => { results := [.lit (.bool true)], args := [d] }
  | _ => none }
def fnCommuteOkRow : OpenClaim := { program := "ytgnallcfahpjmaar", sum := "5a3a85bed70dbfd5e837ea0d58bc601ecbe52f5930b7615c738be086a168ecca", func := "loop.example/g00506/laws.FnCommuteOk", spec := "fnCommuteOk", plainKeys := false, apart := false }
def FnCommuteOkSaid : Prop := fnCommuteOkRow.holds Try.pinned (OpenSpec.ofChange fnCommuteOkSpec)

/-- ITS FALSE NEIGHBOUR: 'it returns false'. Refute it at one input. -/
def fnCommuteOkWrong : ChangeSpec := { name := "fnCommuteOk", fn := fun _ => fun
  | [d] => { results := [.lit (.bool false)], args := [d] }
  | _ => none }
def FnCommuteOkWrongFalsely : Prop := fnCommuteOkRow.holds Try.pinned (OpenSpec.ofChange fnCommuteOkWrong)

/-- 'laws.FnMerged': WHATEVER THE INPUT: true; the input reads as it did. -/
def fnMergedSpec : ChangeSpec := { name := "fnMerged", fn := fun _ => fun
  | [d] => { results := [.lit (.bool true)], args := [d] }
  | _ => none }
def fnMergedRow : OpenClaim := { program := "ytgnallcfahpjmaar", sum := "5a3a85bed70dbfd5e837ea0d58bc601ecbe52f5930b7615c738be086a168ecca", func := "loop.example/g00506/laws.FnMerged", spec := "fnMerged", plainKeys := false, apart := false }
def FnMergedSaid : Prop := fnMergedRow.holds Try.pinned (OpenSpec.ofChange fnMergedSpec)

/-- ITS FALSE NEIGHBOUR: 'it returns false'. Refute it at one input. -/
def fnMergedWrong : ChangeSpec := { name := "fnMerged", fn := fun _ => fun
  | [d] => { results := [.lit (.bool false)], args := [d] }
  | _ => none }
def FnMergedWrongFalsely : Prop := fnMergedRow.holds Try.pinned (OpenSpec.ofChange fnMergedWrong)

/-- 'laws.FnBridgePath': WHATEVER THE INPUT: true; the input reads as it did. -/
def fnBridgePathSpec : ChangeSpec := { name := "fnBridgePath", fn := fun _ => fun
  | [d] => { results := [.lit (.bool true)], args := [d] }
  | _ => none }
def fnBridgePathRow : OpenClaim := { program := "ytgnallcfahpjmaar", sum := "5a3a85bed70dbfd5e837ea0d58bc601ecbe52f5930b7615c738be086a168ecca", func := "loop.example/g00506/laws.FnBridgePath", spec := "fnBridgePath", recurses := true, plainKeys := false, apart := false }
def FnBridgePathSaid : Prop := fnBridgePathRow.holds Try.pinned (OpenSpec.ofChange fnBridgePathSpec)

/-- ITS FALSE NEIGHBOUR: 'it returns false'. Refute it at one input. -/
def fnBridgePathWrong : ChangeSpec := { name := "fnBridgePath", fn := fun _ => fun
  | [d] => { results := [.lit (.bool false)], args := [d] }
  | _ => none }
def FnBridgePathWrongFalsely : Prop := fnBridgePathRow.holds Try.pinned (OpenSpec.ofChange fnBridgePathWrong)

/-- 'laws.FnPeepOnce': WHATEVER THE INPUT: true; the input reads as it did. -/
def fnPeepOnceSpec : ChangeSpec := { name := "fnPeepOnce", fn := fun _ => fun
  | [d] => { results := [.lit (.bool true)], args := [d] }
  | _ => none }
def fnPeepOnceRow : OpenClaim := { program := "ytgnallcfahpjmaar", sum := "5a3a85bed70dbfd5e837ea0d58bc601ecbe52f5930b7615c738be086a168ecca", func := "loop.example/g00506/laws.FnPeepOnce", spec := "fnPeepOnce", plainKeys := false, apart := false }
def FnPeepOnceSaid : Prop := fnPeepOnceRow.holds Try.pinned (OpenSpec.ofChange fnPeepOnceSpec)

/-- ITS FALSE NEIGHBOUR: 'it returns false'. Refute it at one input. -/
def fnPeepOnceWrong : ChangeSpec := { name := "fnPeepOnce", fn := fun _ => fun
  | [d] => { results := [.lit (.bool false)], args := [d] }
  | _ => none }
def FnPeepOnceWrongFalsely : Prop := fnPeepOnceRow.holds Try.pinned (OpenSpec.ofChange fnPeepOnceWrong)

/-- 'laws.FnPeep': WHATEVER THE INPUT: true; the input reads as it did. -/
def fnPeepSpec : ChangeSpec := { name := "fnPeep", fn := fun _ => fun
  | [d] => { results := [.lit (.bool true)], args := [d] }
  | _ => none }
def fnPeepRow : OpenClaim := { program := "ytgnallcfahpjmaar", sum := "5a3a85bed70dbfd5e837ea0d58bc601ecbe52f5930b7615c738be086a168ecca", func := "loop.example/g00506/laws.FnPeep", spec := "fnPeep", plainKeys := false, apart := false }
def FnPeepSaid : Prop := fnPeepRow.holds Try.pinned (OpenSpec.ofChange fnPeepSpec)

/-- ITS FALSE NEIGHBOUR: 'it returns false'. Refute it at one input. -/
def fnPeepWrong : ChangeSpec := { name := "fnPeep", fn := fun _ => fun
  | [d] => { results := [.lit (.bool false)], args := [d] }
  | _ => none }
def FnPeepWrongFalsely : Prop := fnPeepRow.holds Try.pinned (OpenSpec.ofChange fnPeepWrong)

/-- 'laws.FnExactPhasePolynomialMatrix': WHATEVER THE INPUT: true; the input reads as it did. -/
def fnExactPhasePolynomialMatrixSpec : ChangeSpec := { name := "fnExactPhasePolynomialMatrix", fn := fun _ => fun
  | [d] => { results := [.lit (.bool true)], args := [d] }
  | _ => none }
def fnExactPhasePolynomialMatrixRow : OpenClaim := { program := "ytgnallcfahpjmaar", sum := "5a3a85bed70dbfd5e837ea0d58bc601ecbe52f5930b7615c738be086a168ecca", func := "loop.example/g00506/laws.FnExactPhasePolynomialMatrix", spec := "fnExactPhasePolynomialMatrix", plainKeys := false, apart := false }
def FnExactPhasePolynomialMatrixSaid : Prop := fnExactPhasePolynomialMatrixRow.holds Try.pinned (OpenSpec.ofChange fnExactPhasePolynomialMatrixSpec)

/-- ITS FALSE NEIGHBOUR: 'it returns false'. Refute it at one input. -/
def fnExactPhasePolynomialMatrixWrong : ChangeSpec := { name := "fnExactPhasePolynomialMatrix", fn := fun _ => fun
  | [d] => { results := [.lit (.bool false)], args := [d] }
  | _ => none }
def FnExactPhasePolynomialMatrixWrongFalsely : Prop := fnExactPhasePolynomialMatrixRow.holds Try.pinned (OpenSpec.ofChange fnExactPhasePolynomialMatrixWrong)

/- THE SECOND FORM. 'bulk': how many values and letters a reading holds, each counted each time it is reached (what is shared counts as often as it is met; a slice's spare places count too). A statement '..UptoSaid' is the law's where the arguments, and the package variables that the reading takes, are together of bulk at most 1048576: NARROWER than '..Said'. Prove '..Said' where nothing that the law and all that it calls make is longer than what came in: it says more and counts as full. Else prove '..UptoSaid'. A law counts once. -/
mutual
def uptoBulk {H : Type} : DataW H → Nat
  | .lit (.string bytes) => bytes.length + 1
  | .lit _ => 1
  | .nil => 1
  | .ptr d => uptoBulk d + 1
  | .slice elems spare => uptoBulkAll elems + uptoBulkAll spare + 1
  | .agg parts => uptoBulkAll parts + 1
  | .iface _ d => uptoBulk d + 1
  | .map entries => uptoBulkEntries entries + 1
  | .held _ => 1
def uptoBulkAll {H : Type} : List (DataW H) → Nat
  | [] => 0
  | d :: r => uptoBulk d + uptoBulkAll r
def uptoBulkEntries {H : Type} : List (Lit × DataW H) → Nat
  | [] => 0
  | x :: r => uptoBulkEntry x + uptoBulkEntries r
def uptoBulkEntry {H : Type} : Lit × DataW H → Nat
  | (.string bytes, d) => bytes.length + uptoBulk d + 1
  | (_, d) => uptoBulk d + 1
 end
def uptoSmall : (H : Type) → List (DataW H) → Bool := fun _ ds => decide (uptoBulkAll ds ≤ 1048576)
def OpenSpec.upto (s : _root_.Go.ChangeSpec) : _root_.Go.OpenSpec := { _root_.Go.OpenSpec.ofChange s with cond := some uptoSmall }

/-- 'laws.FnFold', WHERE WHAT IT READS IS OF BULK AT MOST 1048576: true; the input reads as it did. -/
def fnFoldUptoRow : OpenClaim := { program := "ytgnallcfahpjmaar", sum := "5a3a85bed70dbfd5e837ea0d58bc601ecbe52f5930b7615c738be086a168ecca", func := "loop.example/g00506/laws.FnFold", spec := "fnFold", plainKeys := false, apart := false, narrowed := true }
def FnFoldUptoSaid : Prop := fnFoldUptoRow.holds Try.pinned (OpenSpec.upto fnFoldSpec)

/-- 'laws.FnFar', WHERE WHAT IT READS IS OF BULK AT MOST 1048576: true; the input reads as it did. -/
def fnFarUptoRow : OpenClaim := { program := "ytgnallcfahpjmaar", sum := "5a3a85bed70dbfd5e837ea0d58bc601ecbe52f5930b7615c738be086a168ecca", func := "loop.example/g00506/laws.FnFar", spec := "fnFar", plainKeys := false, apart := false, narrowed := true }
def FnFarUptoSaid : Prop := fnFarUptoRow.holds Try.pinned (OpenSpec.upto fnFarSpec)

/-- 'laws.FnGraph', WHERE WHAT IT READS IS OF BULK AT MOST 1048576: true; the input reads as it did. -/
def fnGraphUptoRow : OpenClaim := { program := "ytgnallcfahpjmaar", sum := "5a3a85bed70dbfd5e837ea0d58bc601ecbe52f5930b7615c738be086a168ecca", func := "loop.example/g00506/laws.FnGraph", spec := "fnGraph", plainKeys := false, apart := false, narrowed := true }
def FnGraphUptoSaid : Prop := fnGraphUptoRow.holds Try.pinned (OpenSpec.upto fnGraphSpec)

/-- 'laws.FnPlace', WHERE WHAT IT READS IS OF BULK AT MOST 1048576: true; the input reads as it did. -/
def fnPlaceUptoRow : OpenClaim := { program := "ytgnallcfahpjmaar", sum := "5a3a85bed70dbfd5e837ea0d58bc601ecbe52f5930b7615c738be086a168ecca", func := "loop.example/g00506/laws.FnPlace", spec := "fnPlace", unfollowed := true, recurses := true, plainKeys := false, apart := false, narrowed := true }
def FnPlaceUptoSaid : Prop := fnPlaceUptoRow.holds Try.pinned (OpenSpec.upto fnPlaceSpec)

/-- 'laws.FnRouteCounts', WHERE WHAT IT READS IS OF BULK AT MOST 1048576: true; the input reads as it did. -/
def fnRouteCountsUptoRow : OpenClaim := { program := "ytgnallcfahpjmaar", sum := "5a3a85bed70dbfd5e837ea0d58bc601ecbe52f5930b7615c738be086a168ecca", func := "loop.example/g00506/laws.FnRouteCounts", spec := "fnRouteCounts", plainKeys := false, apart := false, narrowed := true }
def FnRouteCountsUptoSaid : Prop := fnRouteCountsUptoRow.holds Try.pinned (OpenSpec.upto fnRouteCountsSpec)

/-- 'laws.FnCommuteOk', WHERE WHAT IT READS IS OF BULK AT MOST 1048576: true; the input reads as it did. -/
def fnCommuteOkUptoRow : OpenClaim := { program := "ytgnallcfahpjmaar", sum := "5a3a85bed70dbfd5e837ea0d58bc601ecbe52f5930b7615c738be086a168ecca", func := "loop.example/g00506/laws.FnCommuteOk", spec := "fnCommuteOk", plainKeys := false, apart := false, narrowed := true }
def FnCommuteOkUptoSaid : Prop := fnCommuteOkUptoRow.holds Try.pinned (OpenSpec.upto fnCommuteOkSpec)

/-- 'laws.FnMerged', WHERE WHAT IT READS IS OF BULK AT MOST 1048576: true; the input reads as it did. -/
def fnMergedUptoRow : OpenClaim := { program := "ytgnallcfahpjmaar", sum := "5a3a85bed70dbfd5e837ea0d58bc601ecbe52f5930b7615c738be086a168ecca", func := "loop.example/g00506/laws.FnMerged", spec := "fnMerged", plainKeys := false, apart := false, narrowed := true }
def FnMergedUptoSaid : Prop := fnMergedUptoRow.holds Try.pinned (OpenSpec.upto fnMergedSpec)

/-- 'laws.FnBridgePath', WHERE WHAT IT READS IS OF BULK AT MOST 1048576: true; the input reads as it did. -/
def fnBridgePathUptoRow : OpenClaim := { program := "ytgnallcfahpjmaar", sum := "5a3a85bed70dbfd5e837ea0d58bc601ecbe52f5930b7615c738be086a168ecca", func := "loop.example/g00506/laws.FnBridgePath", spec := "fnBridgePath", recurses := true, plainKeys := false, apart := false, narrowed := true }
def FnBridgePathUptoSaid : Prop := fnBridgePathUptoRow.holds Try.pinned (OpenSpec.upto fnBridgePathSpec)

/-- 'laws.FnPeepOnce', WHERE WHAT IT READS IS OF BULK AT MOST 1048576: true; the input reads as it did. -/
def fnPeepOnceUptoRow : OpenClaim := { program := "ytgnallcfahpjmaar", sum := "5a3a85bed70dbfd5e837ea0d58bc601ecbe52f5930b7615c738be086a168ecca", func := "loop.example/g00506/laws.FnPeepOnce", spec := "fnPeepOnce", plainKeys := false, apart := false, narrowed := true }
def FnPeepOnceUptoSaid : Prop := fnPeepOnceUptoRow.holds Try.pinned (OpenSpec.upto fnPeepOnceSpec)

/-- 'laws.FnPeep', WHERE WHAT IT READS IS OF BULK AT MOST 1048576: true; the input reads as it did. -/
def fnPeepUptoRow : OpenClaim := { program := "ytgnallcfahpjmaar", sum := "5a3a85bed70dbfd5e837ea0d58bc601ecbe52f5930b7615c738be086a168ecca", func := "loop.example/g00506/laws.FnPeep", spec := "fnPeep", plainKeys := false, apart := false, narrowed := true }
def FnPeepUptoSaid : Prop := fnPeepUptoRow.holds Try.pinned (OpenSpec.upto fnPeepSpec)

/-- 'laws.FnExactPhasePolynomialMatrix', WHERE WHAT IT READS IS OF BULK AT MOST 1048576: true; the input reads as it did. -/
def fnExactPhasePolynomialMatrixUptoRow : OpenClaim := { program := "ytgnallcfahpjmaar", sum := "5a3a85bed70dbfd5e837ea0d58bc601ecbe52f5930b7615c738be086a168ecca", func := "loop.example/g00506/laws.FnExactPhasePolynomialMatrix", spec := "fnExactPhasePolynomialMatrix", plainKeys := false, apart := false, narrowed := true }
def FnExactPhasePolynomialMatrixUptoSaid : Prop := fnExactPhasePolynomialMatrixUptoRow.holds Try.pinned (OpenSpec.upto fnExactPhasePolynomialMatrixSpec)

end Rows
end Go.Proofs.YtgnallcfahpjmaaR
