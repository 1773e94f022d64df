/-
  No cell of these rows narrows 'for every input' (looked for: loops, veiled, ifaces, maps, wideKeys, modest, calm, conditions, laid).
  DERIVED. THE GIVEN ROWS OF THIS SEAT. 12 by the template 'for every input the law returns true; each argument reads behind the call as it read before'; 0 by the template 'total and deterministic' (their statements: YtbmalgndjnaghaaTotals.lean).
  GIVEN WITH THE SEED: the statements are not yours to turn. If you find one false, say at which input.
  Laid BY PROGRAM, IN A SANDBOX (cutbox-rows.mjs): the forced cells as the released guide's own fill.sh prints them over the translation aaafcee548d467f8… (all of the seat's roots in one cut). By AI agents, Wed Nov 11 2026. No macro, syntax, notation, axiom, sorry.
-/
import Derived.Test.YtbmalgndjnaghaaChecked
import GoSem.Claim
import GoSem.ClaimJoined
import GoSem.ClaimMapViews
import Derived.JoinedTies
import Derived.KernelRfl
namespace Go.Proofs.Ytbmalgndjnaghaa
/- THE CELL 'sum', in the pinned program and in every row, IS THE sha256 OF THE DUMP (.gsa) THAT YtbmalgndjnaghaaProg.lean LOADS. Nothing in Lean hashes anything: it is a label: what it is worth is what the hold of that sum in a sandbox is worth. -/
noncomputable def Try.pinned : Pinned := { name := "ytbmalgndjnaghaa", sum := "aaafcee548d467f8a89a405fb46ff8ab9d28120e2771e504cf489d36116c1570", checked := Try.checked }
namespace Rows
def none {H : Type} : Left H := { results := [], args := [] }

/-- 'laws.FnExactSwapCount': WHATEVER THE INPUT: true; the input reads as it did. -/
def fnExactSwapCountSpec : ChangeSpec := { name := "fnExactSwapCount", fn := fun _ => fun
  | [d] => { results := [.lit (.bool true)], args := [d] }
  | _ => none }
def fnExactSwapCountRow : OpenClaim := { program := "ytbmalgndjnaghaa", sum := "aaafcee548d467f8a89a405fb46ff8ab9d28120e2771e504cf489d36116c1570", func := "loop.example/g00506/laws.FnExactSwapCount", spec := "fnExactSwapCount", apart := false }
def FnExactSwapCountSaid : Prop := fnExactSwapCountRow.holds Try.pinned (OpenSpec.ofChange fnExactSwapCountSpec)

/-- ITS FALSE NEIGHBOUR: 'it returns false'. Refute it at one input. -/
def fnExactSwapCountWrong : ChangeSpec := { name := "fnExactSwapCount", fn := fun _ => fun
  | [d] => { results := [.lit (.bool false)], args := [d] }
  | _ => none }
def FnExactSwapCountWrongFalsely : Prop := fnExactSwapCountRow.holds Try.pinned (OpenSpec.ofChange fnExactSwapCountWrong)

/-- 'laws.FnExactHasEdge': WHATEVER THE INPUT: true; the input reads as it did. -/
def fnExactHasEdgeSpec : ChangeSpec := { name := "fnExactHasEdge", fn := fun _ => fun
  | [d1, d2, d3] => { results := [.lit (.bool true)], args := [d1, d2, d3] }
  | _ => none }
def fnExactHasEdgeRow : OpenClaim := { program := "ytbmalgndjnaghaa", sum := "aaafcee548d467f8a89a405fb46ff8ab9d28120e2771e504cf489d36116c1570", func := "loop.example/g00506/laws.FnExactHasEdge", spec := "fnExactHasEdge", apart := false }
def FnExactHasEdgeSaid : Prop := fnExactHasEdgeRow.holds Try.pinned (OpenSpec.ofChange fnExactHasEdgeSpec)

/-- ITS FALSE NEIGHBOUR: 'it returns false'. Refute it at one input. -/
def fnExactHasEdgeWrong : ChangeSpec := { name := "fnExactHasEdge", fn := fun _ => fun
  | [d1, d2, d3] => { results := [.lit (.bool false)], args := [d1, d2, d3] }
  | _ => none }
def FnExactHasEdgeWrongFalsely : Prop := fnExactHasEdgeRow.holds Try.pinned (OpenSpec.ofChange fnExactHasEdgeWrong)

/-- 'laws.FnExactAreCoupled': WHATEVER THE INPUT: true; the input reads as it did. -/
def fnExactAreCoupledSpec : ChangeSpec := { name := "fnExactAreCoupled", fn := fun _ => fun
  | [d1, d2, d3] => { results := [.lit (.bool true)], args := [d1, d2, d3] }
  | _ => none }
def fnExactAreCoupledRow : OpenClaim := { program := "ytbmalgndjnaghaa", sum := "aaafcee548d467f8a89a405fb46ff8ab9d28120e2771e504cf489d36116c1570", func := "loop.example/g00506/laws.FnExactAreCoupled", spec := "fnExactAreCoupled", apart := false }
def FnExactAreCoupledSaid : Prop := fnExactAreCoupledRow.holds Try.pinned (OpenSpec.ofChange fnExactAreCoupledSpec)

/-- ITS FALSE NEIGHBOUR: 'it returns false'. Refute it at one input. -/
def fnExactAreCoupledWrong : ChangeSpec := { name := "fnExactAreCoupled", fn := fun _ => fun
  | [d1, d2, d3] => { results := [.lit (.bool false)], args := [d1, d2, d3] }
  | _ => none }
def FnExactAreCoupledWrongFalsely : Prop := fnExactAreCoupledRow.holds Try.pinned (OpenSpec.ofChange fnExactAreCoupledWrong)

/-- 'laws.FnExactRotationGates': WHATEVER THE INPUT: true; the input reads as it did. -/
def fnExactRotationGatesSpec : ChangeSpec := { name := "fnExactRotationGates", fn := fun _ => fun
  | [d1, d2] => { results := [.lit (.bool true)], args := [d1, d2] }
  | _ => none }
def fnExactRotationGatesRow : OpenClaim := { program := "ytbmalgndjnaghaa", sum := "aaafcee548d467f8a89a405fb46ff8ab9d28120e2771e504cf489d36116c1570", func := "loop.example/g00506/laws.FnExactRotationGates", spec := "fnExactRotationGates", apart := false }
def FnExactRotationGatesSaid : Prop := fnExactRotationGatesRow.holds Try.pinned (OpenSpec.ofChange fnExactRotationGatesSpec)

/-- ITS FALSE NEIGHBOUR: 'it returns false'. Refute it at one input. -/
def fnExactRotationGatesWrong : ChangeSpec := { name := "fnExactRotationGates", fn := fun _ => fun
  | [d1, d2] => { results := [.lit (.bool false)], args := [d1, d2] }
  | _ => none }
def FnExactRotationGatesWrongFalsely : Prop := fnExactRotationGatesRow.holds Try.pinned (OpenSpec.ofChange fnExactRotationGatesWrong)

/-- 'laws.FnTurnGates': WHATEVER THE INPUT: true; the input reads as it did. -/
def fnTurnGatesSpec : ChangeSpec := { name := "fnTurnGates", fn := fun _ => fun
  | [d] => { results := [.lit (.bool true)], args := [d] }
  | _ => none }
def fnTurnGatesRow : OpenClaim := { program := "ytbmalgndjnaghaa", sum := "aaafcee548d467f8a89a405fb46ff8ab9d28120e2771e504cf489d36116c1570", func := "loop.example/g00506/laws.FnTurnGates", spec := "fnTurnGates", apart := false }
def FnTurnGatesSaid : Prop := fnTurnGatesRow.holds Try.pinned (OpenSpec.ofChange fnTurnGatesSpec)

/-- ITS FALSE NEIGHBOUR: 'it returns false'. Refute it at one input. -/
def fnTurnGatesWrong : ChangeSpec := { name := "fnTurnGates", fn := fun _ => fun
  | [d] => { results := [.lit (.bool false)], args := [d] }
  | _ => none }
def FnTurnGatesWrongFalsely : Prop := fnTurnGatesRow.holds Try.pinned (OpenSpec.ofChange fnTurnGatesWrong)

/-- 'laws.FnExactAllClifford': WHATEVER THE INPUT: true; the input reads as it did. -/
def fnExactAllCliffordSpec : ChangeSpec := { name := "fnExactAllClifford", fn := fun _ => fun
  | [d] => { results := [.lit (.bool true)], args := [d] }
  | _ => none }
def fnExactAllCliffordRow : OpenClaim := { program := "ytbmalgndjnaghaa", sum := "aaafcee548d467f8a89a405fb46ff8ab9d28120e2771e504cf489d36116c1570", func := "loop.example/g00506/laws.FnExactAllClifford", spec := "fnExactAllClifford", apart := false }
def FnExactAllCliffordSaid : Prop := fnExactAllCliffordRow.holds Try.pinned (OpenSpec.ofChange fnExactAllCliffordSpec)

/-- ITS FALSE NEIGHBOUR: 'it returns false'. Refute it at one input. -/
def fnExactAllCliffordWrong : ChangeSpec := { name := "fnExactAllClifford", fn := fun _ => fun
  | [d] => { results := [.lit (.bool false)], args := [d] }
  | _ => none }
def FnExactAllCliffordWrongFalsely : Prop := fnExactAllCliffordRow.holds Try.pinned (OpenSpec.ofChange fnExactAllCliffordWrong)

/-- 'laws.FnExactSwapLayout': WHATEVER THE INPUT: true; the input reads as it did. -/
def fnExactSwapLayoutSpec : ChangeSpec := { name := "fnExactSwapLayout", fn := fun _ => fun
  | [d1, d2, d3] => { results := [.lit (.bool true)], args := [d1, d2, d3] }
  | _ => none }
def fnExactSwapLayoutRow : OpenClaim := { program := "ytbmalgndjnaghaa", sum := "aaafcee548d467f8a89a405fb46ff8ab9d28120e2771e504cf489d36116c1570", func := "loop.example/g00506/laws.FnExactSwapLayout", spec := "fnExactSwapLayout", apart := false }
def FnExactSwapLayoutSaid : Prop := fnExactSwapLayoutRow.holds Try.pinned (OpenSpec.ofChange fnExactSwapLayoutSpec)

/-- ITS FALSE NEIGHBOUR: 'it returns false'. Refute it at one input. -/
def fnExactSwapLayoutWrong : ChangeSpec := { name := "fnExactSwapLayout", fn := fun _ => fun
  | [d1, d2, d3] => { results := [.lit (.bool false)], args := [d1, d2, d3] }
  | _ => none }
def FnExactSwapLayoutWrongFalsely : Prop := fnExactSwapLayoutRow.holds Try.pinned (OpenSpec.ofChange fnExactSwapLayoutWrong)

/-- 'laws.FnExactGateCost': WHATEVER THE INPUT: true; the input reads as it did. -/
def fnExactGateCostSpec : ChangeSpec := { name := "fnExactGateCost", fn := fun _ => fun
  | [d] => { results := [.lit (.bool true)], args := [d] }
  | _ => none }
def fnExactGateCostRow : OpenClaim := { program := "ytbmalgndjnaghaa", sum := "aaafcee548d467f8a89a405fb46ff8ab9d28120e2771e504cf489d36116c1570", func := "loop.example/g00506/laws.FnExactGateCost", spec := "fnExactGateCost", apart := false }
def FnExactGateCostSaid : Prop := fnExactGateCostRow.holds Try.pinned (OpenSpec.ofChange fnExactGateCostSpec)

/-- ITS FALSE NEIGHBOUR: 'it returns false'. Refute it at one input. -/
def fnExactGateCostWrong : ChangeSpec := { name := "fnExactGateCost", fn := fun _ => fun
  | [d] => { results := [.lit (.bool false)], args := [d] }
  | _ => none }
def FnExactGateCostWrongFalsely : Prop := fnExactGateCostRow.holds Try.pinned (OpenSpec.ofChange fnExactGateCostWrong)

/-- 'laws.FnExactAllPermutations': WHATEVER THE INPUT: true; the input reads as it did. -/
def fnExactAllPermutationsSpec : ChangeSpec := { name := "fnExactAllPermutations", fn := fun _ => fun
  | [d] => { results := [.lit (.bool true)], args := [d] }
  | _ => none }
def fnExactAllPermutationsRow : OpenClaim := { program := "ytbmalgndjnaghaa", sum := "aaafcee548d467f8a89a405fb46ff8ab9d28120e2771e504cf489d36116c1570", func := "loop.example/g00506/laws.FnExactAllPermutations", spec := "fnExactAllPermutations", unfollowed := true, recurses := true, apart := false }
def FnExactAllPermutationsSaid : Prop := fnExactAllPermutationsRow.holds Try.pinned (OpenSpec.ofChange fnExactAllPermutationsSpec)

/-- ITS FALSE NEIGHBOUR: 'it returns false'. Refute it at one input. -/
def fnExactAllPermutationsWrong : ChangeSpec := { name := "fnExactAllPermutations", fn := fun _ => fun
  | [d] => { results := [.lit (.bool false)], args := [d] }
  | _ => none }
def FnExactAllPermutationsWrongFalsely : Prop := fnExactAllPermutationsRow.holds Try.pinned (OpenSpec.ofChange fnExactAllPermutationsWrong)

/-- 'laws.FnAllPerms': WHATEVER THE INPUT: true; the input reads as it did. -/
def fnAllPermsSpec : ChangeSpec := { name := "fnAllPerms", fn := fun _ => fun
  | [d] => { results := [.lit (.bool true)], args := [d] }
  | _ => none }
def fnAllPermsRow : OpenClaim := { program := "ytbmalgndjnaghaa", sum := "aaafcee548d467f8a89a405fb46ff8ab9d28120e2771e504cf489d36116c1570", func := "loop.example/g00506/laws.FnAllPerms", spec := "fnAllPerms", unfollowed := true, recurses := true, apart := false }
def FnAllPermsSaid : Prop := fnAllPermsRow.holds Try.pinned (OpenSpec.ofChange fnAllPermsSpec)

/-- ITS FALSE NEIGHBOUR: 'it returns false'. Refute it at one input. -/
def fnAllPermsWrong : ChangeSpec := { name := "fnAllPerms", fn := fun _ => fun
  | [d] => { results := [.lit (.bool false)], args := [d] }
  | _ => none }
def FnAllPermsWrongFalsely : Prop := fnAllPermsRow.holds Try.pinned (OpenSpec.ofChange fnAllPermsWrong)

/-- 'laws.FnExactCommutationAxis': WHATEVER THE INPUT: true; the input reads as it did. -/
def fnExactCommutationAxisSpec : ChangeSpec := { name := "fnExactCommutationAxis", fn := fun _ => fun
  | [d1, d2] => { results := [.lit (.bool true)], args := [d1, d2] }
  | _ => none }
def fnExactCommutationAxisRow : OpenClaim := { program := "ytbmalgndjnaghaa", sum := "aaafcee548d467f8a89a405fb46ff8ab9d28120e2771e504cf489d36116c1570", func := "loop.example/g00506/laws.FnExactCommutationAxis", spec := "fnExactCommutationAxis", apart := false }
def FnExactCommutationAxisSaid : Prop := fnExactCommutationAxisRow.holds Try.pinned (OpenSpec.ofChange fnExactCommutationAxisSpec)

/-- ITS FALSE NEIGHBOUR: 'it returns false'. Refute it at one input. -/
def fnExactCommutationAxisWrong : ChangeSpec := { name := "fnExactCommutationAxis", fn := fun _ => fun
  | [d1, d2] => { results := [.lit (.bool false)], args := [d1, d2] }
  | _ => none }
def FnExactCommutationAxisWrongFalsely : Prop := fnExactCommutationAxisRow.holds Try.pinned (OpenSpec.ofChange fnExactCommutationAxisWrong)

/-- 'laws.FnExactLongRangeCX': WHATEVER THE INPUT: true; the input reads as it did. -/
def fnExactLongRangeCXSpec : ChangeSpec := { name := "fnExactLongRangeCX", fn := fun _ => fun
  | [d] => { results := [.lit (.bool true)], args := [d] }
  | _ => none }
def fnExactLongRangeCXRow : OpenClaim := { program := "ytbmalgndjnaghaa", sum := "aaafcee548d467f8a89a405fb46ff8ab9d28120e2771e504cf489d36116c1570", func := "loop.example/g00506/laws.FnExactLongRangeCX", spec := "fnExactLongRangeCX", recurses := true, apart := false }
def FnExactLongRangeCXSaid : Prop := fnExactLongRangeCXRow.holds Try.pinned (OpenSpec.ofChange fnExactLongRangeCXSpec)

/-- ITS FALSE NEIGHBOUR: 'it returns false'. Refute it at one input. -/
def fnExactLongRangeCXWrong : ChangeSpec := { name := "fnExactLongRangeCX", fn := fun _ => fun
  | [d] => { results := [.lit (.bool false)], args := [d] }
  | _ => none }
def FnExactLongRangeCXWrongFalsely : Prop := fnExactLongRangeCXRow.holds Try.pinned (OpenSpec.ofChange fnExactLongRangeCXWrong)

/- THE SECOND FORM. 'bulk': how many values and letters a reading holds, each counted each time it is reached (what is shared counts as often as it is met; a slice's spare places count too). A statement '..UptoSaid' is the law's where the arguments, and the package variables that the reading takes, are together of bulk at most 1048576: NARROWER than '..Said'. Prove '..Said' where nothing that the law and all that it calls make is longer than what came in: it says more and counts as full. Else prove '..UptoSaid'. A law counts once. -/
mutual
def uptoBulk {H : Type} : DataW H → Nat
  | .lit (.string bytes) => bytes.length + 1
  | .lit _ => 1
  | .nil => 1
  | .ptr d => uptoBulk d + 1
  | .slice elems spare => uptoBulkAll elems + uptoBulkAll spare + 1
  | .agg parts => uptoBulkAll parts + 1
  | .iface _ d => uptoBulk d + 1
  | .map entries => uptoBulkEntries entries + 1
  | .held _ => 1
def uptoBulkAll {H : Type} : List (DataW H) → Nat
  | [] => 0
  | d :: r => uptoBulk d + uptoBulkAll r
def uptoBulkEntries {H : Type} : List (Lit × DataW H) → Nat
  | [] => 0
  | x :: r => uptoBulkEntry x + uptoBulkEntries r
def uptoBulkEntry {H : Type} : Lit × DataW H → Nat
  | (.string bytes, d) => bytes.length + uptoBulk d + 1
  | (_, d) => uptoBulk d + 1
 end
def uptoSmall : (H : Type) → List (DataW H) → Bool := fun _ ds => decide (uptoBulkAll ds ≤ 1048576)
def OpenSpec.upto (s : _root_.Go.ChangeSpec) : _root_.Go.OpenSpec := { _root_.Go.OpenSpec.ofChange s with cond := some uptoSmall }

/-- 'laws.FnExactSwapCount', WHERE WHAT IT READS IS OF BULK AT MOST 1048576: true; the input reads as it did. -/
def fnExactSwapCountUptoRow : OpenClaim := { program := "ytbmalgndjnaghaa", sum := "aaafcee548d467f8a89a405fb46ff8ab9d28120e2771e504cf489d36116c1570", func := "loop.example/g00506/laws.FnExactSwapCount", spec := "fnExactSwapCount", apart := false, narrowed := true }
def FnExactSwapCountUptoSaid : Prop := fnExactSwapCountUptoRow.holds Try.pinned (OpenSpec.upto fnExactSwapCountSpec)

/-- 'laws.FnExactHasEdge', WHERE WHAT IT READS IS OF BULK AT MOST 1048576: true; the input reads as it did. -/
def fnExactHasEdgeUptoRow : OpenClaim := { program := "ytbmalgndjnaghaa", sum := "aaafcee548d467f8a89a405fb46ff8ab9d28120e2771e504cf489d36116c1570", func := "loop.example/g00506/laws.FnExactHasEdge", spec := "fnExactHasEdge", apart := false, narrowed := true }
def FnExactHasEdgeUptoSaid : Prop := fnExactHasEdgeUptoRow.holds Try.pinned (OpenSpec.upto fnExactHasEdgeSpec)

/-- 'laws.FnExactAreCoupled', WHERE WHAT IT READS IS OF BULK AT MOST 1048576: true; the input reads as it did. -/
def fnExactAreCoupledUptoRow : OpenClaim := { program := "ytbmalgndjnaghaa", sum := "aaafcee548d467f8a89a405fb46ff8ab9d28120e2771e504cf489d36116c1570", func := "loop.example/g00506/laws.FnExactAreCoupled", spec := "fnExactAreCoupled", apart := false, narrowed := true }
def FnExactAreCoupledUptoSaid : Prop := fnExactAreCoupledUptoRow.holds Try.pinned (OpenSpec.upto fnExactAreCoupledSpec)

/-- 'laws.FnExactRotationGates', WHERE WHAT IT READS IS OF BULK AT MOST 1048576: true; the input reads as it did. -/
def fnExactRotationGatesUptoRow : OpenClaim := { program := "ytbmalgndjnaghaa", sum := "aaafcee548d467f8a89a405fb46ff8ab9d28120e2771e504cf489d36116c1570", func := "loop.example/g00506/laws.FnExactRotationGates", spec := "fnExactRotationGates", apart := false, narrowed := true }
def FnExactRotationGatesUptoSaid : Prop := fnExactRotationGatesUptoRow.holds Try.pinned (OpenSpec.upto fnExactRotationGatesSpec)

/-- 'laws.FnTurnGates', WHERE WHAT IT READS IS OF BULK AT MOST 1048576: true; the input reads as it did. -/
def fnTurnGatesUptoRow : OpenClaim := { program := "ytbmalgndjnaghaa", sum := "aaafcee548d467f8a89a405fb46ff8ab9d28120e2771e504cf489d36116c1570", func := "loop.example/g00506/laws.FnTurnGates", spec := "fnTurnGates", apart := false, narrowed := true }
def FnTurnGatesUptoSaid : Prop := fnTurnGatesUptoRow.holds Try.pinned (OpenSpec.upto fnTurnGatesSpec)

/-- 'laws.FnExactAllClifford', WHERE WHAT IT READS IS OF BULK AT MOST 1048576: true; the input reads as it did. -/
def fnExactAllCliffordUptoRow : OpenClaim := { program := "ytbmalgndjnaghaa", sum := "aaafcee548d467f8a89a405fb46ff8ab9d28120e2771e504cf489d36116c1570", func := "loop.example/g00506/laws.FnExactAllClifford", spec := "fnExactAllClifford", apart := false, narrowed := true }
def FnExactAllCliffordUptoSaid : Prop := fnExactAllCliffordUptoRow.holds Try.pinned (OpenSpec.upto fnExactAllCliffordSpec)

/-- 'laws.FnExactSwapLayout', WHERE WHAT IT READS IS OF BULK AT MOST 1048576: true; the input reads as it did. -/
def fnExactSwapLayoutUptoRow : OpenClaim := { program := "ytbmalgndjnaghaa", sum := "aaafcee548d467f8a89a405fb46ff8ab9d28120e2771e504cf489d36116c1570", func := "loop.example/g00506/laws.FnExactSwapLayout", spec := "fnExactSwapLayout", apart := false, narrowed := true }
def FnExactSwapLayoutUptoSaid : Prop := fnExactSwapLayoutUptoRow.holds Try.pinned (OpenSpec.upto fnExactSwapLayoutSpec)

/-- 'laws.FnExactGateCost', WHERE WHAT IT READS IS OF BULK AT MOST 1048576: true; the input reads as it did. -/
def fnExactGateCostUptoRow : OpenClaim := { program := "ytbmalgndjnaghaa", sum := "aaafcee548d467f8a89a405fb46ff8ab9d28120e2771e504cf489d36116c1570", func := "loop.example/g00506/laws.FnExactGateCost", spec := "fnExactGateCost", apart := false, narrowed := true }
def FnExactGateCostUptoSaid : Prop := fnExactGateCostUptoRow.holds Try.pinned (OpenSpec.upto fnExactGateCostSpec)

/-- 'laws.FnExactAllPermutations', WHERE WHAT IT READS IS OF BULK AT MOST 1048576: true; the input reads as it did. -/
def fnExactAllPermutationsUptoRow : OpenClaim := { program := "ytbmalgndjnaghaa", sum := "aaafcee548d467f8a89a405fb46ff8ab9d28120e2771e504cf489d36116c1570", func := "loop.example/g00506/laws.FnExactAllPermutations", spec := "fnExactAllPermutations", unfollowed := true, recurses := true, apart := false, narrowed := true }
def FnExactAllPermutationsUptoSaid : Prop := fnExactAllPermutationsUptoRow.holds Try.pinned (OpenSpec.upto fnExactAllPermutationsSpec)

/-- 'laws.FnAllPerms', WHERE WHAT IT READS IS OF BULK AT MOST 1048576: true; the input reads as it did. -/
def fnAllPermsUptoRow : OpenClaim := { program := "ytbmalgndjnaghaa", sum := "aaafcee548d467f8a89a405fb46ff8ab9d28120e2771e504cf489d36116c1570", func := "loop.example/g00506/laws.FnAllPerms", spec := "fnAllPerms", unfollowed := true, recurses := true, apart := false, narrowed := true }
def FnAllPermsUptoSaid : Prop := fnAllPermsUptoRow.holds Try.pinned (OpenSpec.upto fnAllPermsSpec)

/-- 'laws.FnExactCommutationAxis', WHERE WHAT IT READS IS OF BULK AT MOST 1048576: true; the input reads as it did. -/
def fnExactCommutationAxisUptoRow : OpenClaim := { program := "ytbmalgndjnaghaa", sum := "aaafcee548d467f8a89a405fb46ff8ab9d28120e2771e504cf489d36116c1570", func := "loop.example/g00506/laws.FnExactCommutationAxis", spec := "fnExactCommutationAxis", apart := false, narrowed := true }
def FnExactCommutationAxisUptoSaid : Prop := fnExactCommutationAxisUptoRow.holds Try.pinned (OpenSpec.upto fnExactCommutationAxisSpec)

/-- 'laws.FnExactLongRangeCX', WHERE WHAT IT READS IS OF BULK AT MOST 1048576: true; the input reads as it did. -/
def fnExactLongRangeCXUptoRow : OpenClaim := { program := "ytbmalgndjnaghaa", sum := "aaafcee548d467f8a89a405fb46ff8ab9d28120e2771e504cf489d36116c1570", func := "loop.example/g00506/laws.FnExactLongRangeCX", spec := "fnExactLongRangeCX", recurses := true, apart := false, narrowed := true }
def FnExactLongRangeCXUptoSaid : Prop := fnExactLongRangeCXUptoRow.holds Try.pinned (OpenSpec.upto fnExactLongRangeCXSpec)

end Rows
end Go.Proofs.Ytbmalgndjnaghaa
