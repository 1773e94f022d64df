/-
  No cell of these rows narrows 'for every input' (looked for: loops, veiled, ifaces, maps, wideKeys, modest, calm, conditions, laid).
  DERIVED. THE GIVEN ROWS OF THIS SEAT. 12 by the template 'for every input the law returns true; each argument reads behind the call as it read before'; 0 by the template 'total and deterministic' (their statements: YthijgdpnodiceaaTotals.lean).
  GIVEN WITH THE SEED: the statements are not yours to turn. If you find one false, say at which input.
  Laid BY PROGRAM, IN A SANDBOX (cutbox-rows.mjs): the forced cells as the released guide's own fill.sh prints them over the translation efe416671a3ca43b… (all of the seat's roots in one cut). By AI agents, Wed Nov 11 2026. No macro, syntax, notation, axiom, sorry.
-/
import Derived.Test.YthijgdpnodiceaaChecked
import GoSem.Claim
import GoSem.ClaimJoined
import GoSem.ClaimMapViews
import Derived.JoinedTies
import Derived.KernelRfl
namespace Go.Proofs.Ythijgdpnodiceaa
/- THE CELL 'sum', in the pinned program and in every row, IS THE sha256 OF THE DUMP (.gsa) THAT YthijgdpnodiceaaProg.lean LOADS. Nothing in Lean hashes anything: it is a label: what it is worth is what the hold of that sum in a sandbox is worth. -/
noncomputable def Try.pinned : Pinned := { name := "ythijgdpnodiceaa", sum := "efe416671a3ca43b88bd65eb599d68f38b1eb4808159958618d72d5011840bdf", checked := Try.checked }
namespace Rows
def none {H : Type} : Left H := { results := [], args := [] }

/-- 'laws.FnExactAllPermutations': WHATEVER THE INPUT: true; the input reads as it did. -/
def fnExactAllPermutationsSpec : ChangeSpec := { name := "fnExactAllPermutations", fn := fun _ => fun
  | [d] => { results := [.lit (.bool true)], args := [d] }
  | _ => none }
def fnExactAllPermutationsRow : OpenClaim := { program := "ythijgdpnodiceaa", sum := "efe416671a3ca43b88bd65eb599d68f38b1eb4808159958618d72d5011840bdf", func := "loop.example/g00506/laws.FnExactAllPermutations", spec := "fnExactAllPermutations", unfollowed := true, recurses := true, plainKeys := false, apart := false }
def FnExactAllPermutationsSaid : Prop := fnExactAllPermutationsRow.holds Try.pinned (OpenSpec.ofChange fnExactAllPermutationsSpec)

/-- ITS FALSE NEIGHBOUR: 'it returns false'. Refute it at one input. -/
def fnExactAllPermutationsWrong : ChangeSpec := { name := "fnExactAllPermutations", fn := fun _ => fun
  | [d] => { results := [.lit (.bool false)], args := [d] }
  | _ => none }
def FnExactAllPermutationsWrongFalsely : Prop := fnExactAllPermutationsRow.holds Try.pinned (OpenSpec.ofChange fnExactAllPermutationsWrong)

/-- 'laws.FnAllPerms': WHATEVER THE INPUT: true; the input reads as it did. -/
def fnAllPermsSpec : ChangeSpec := { name := "fnAllPerms", fn := fun _ => fun
  | [d] => { results := [.lit (.bool true)], args := [d] }
  | _ => none }
def fnAllPermsRow : OpenClaim := { program := "ythijgdpnodiceaa", sum := "efe416671a3ca43b88bd65eb599d68f38b1eb4808159958618d72d5011840bdf", func := "loop.example/g00506/laws.FnAllPerms", spec := "fnAllPerms", unfollowed := true, recurses := true, plainKeys := false, apart := false }
def FnAllPermsSaid : Prop := fnAllPermsRow.holds Try.pinned (OpenSpec.ofChange fnAllPermsSpec)

/-- ITS FALSE NEIGHBOUR: 'it returns false'. Refute it at one input. -/
def fnAllPermsWrong : ChangeSpec := { name := "fnAllPerms", fn := fun _ => fun
  | [d] => { results := [.lit (.bool false)], args := [d] }
  | _ => none }
def FnAllPermsWrongFalsely : Prop := fnAllPermsRow.holds Try.pinned (OpenSpec.ofChange fnAllPermsWrong)

/-- 'laws.FnAfterSwap': WHATEVER THE INPUT: true; the input reads as it did. -/
def fnAfterSwapSpec : ChangeSpec := { name := "fnAfterSwap", fn := fun _ => fun
  | [d] => { results := [.lit (.bool true)], args := [d] }
  | _ => none }
def fnAfterSwapRow : OpenClaim := { program := "ythijgdpnodiceaa", sum := "efe416671a3ca43b88bd65eb599d68f38b1eb4808159958618d72d5011840bdf", func := "loop.example/g00506/laws.FnAfterSwap", spec := "fnAfterSwap", plainKeys := false, apart := false }
def FnAfterSwapSaid : Prop := fnAfterSwapRow.holds Try.pinned (OpenSpec.ofChange fnAfterSwapSpec)

/-- ITS FALSE NEIGHBOUR: 'it returns false'. Refute it at one input. -/
def fnAfterSwapWrong : ChangeSpec := { name := "fnAfterSwap", fn := fun _ => fun
  | [d] => { results := [.lit (.bool false)], args := [d] }
  | _ => none }
def FnAfterSwapWrongFalsely : Prop := fnAfterSwapRow.holds Try.pinned (OpenSpec.ofChange fnAfterSwapWrong)

/-- 'laws.FnFar': WHATEVER THE INPUT: true; the input reads as it did. -/
def fnFarSpec : ChangeSpec := { name := "fnFar", fn := fun _ => fun
  | [d] => { results := [.lit (.bool true)], args := [d] }
  | _ => none }
def fnFarRow : OpenClaim := { program := "ythijgdpnodiceaa", sum := "efe416671a3ca43b88bd65eb599d68f38b1eb4808159958618d72d5011840bdf", func := "loop.example/g00506/laws.FnFar", spec := "fnFar", plainKeys := false, apart := false }
def FnFarSaid : Prop := fnFarRow.holds Try.pinned (OpenSpec.ofChange fnFarSpec)

/-- ITS FALSE NEIGHBOUR: 'it returns false'. Refute it at one input. -/
def fnFarWrong : ChangeSpec := { name := "fnFar", fn := fun _ => fun
  | [d] => { results := [.lit (.bool false)], args := [d] }
  | _ => none }
def FnFarWrongFalsely : Prop := fnFarRow.holds Try.pinned (OpenSpec.ofChange fnFarWrong)

/-- 'laws.FnGraph': WHATEVER THE INPUT: true; the input reads as it did. -/
def fnGraphSpec : ChangeSpec := { name := "fnGraph", fn := fun _ => fun
  | [d] => { results := [.lit (.bool true)], args := [d] }
  | _ => none }
def fnGraphRow : OpenClaim := { program := "ythijgdpnodiceaa", sum := "efe416671a3ca43b88bd65eb599d68f38b1eb4808159958618d72d5011840bdf", func := "loop.example/g00506/laws.FnGraph", spec := "fnGraph", plainKeys := false, apart := false }
def FnGraphSaid : Prop := fnGraphRow.holds Try.pinned (OpenSpec.ofChange fnGraphSpec)

/-- ITS FALSE NEIGHBOUR: 'it returns false'. Refute it at one input. -/
def fnGraphWrong : ChangeSpec := { name := "fnGraph", fn := fun _ => fun
  | [d] => { results := [.lit (.bool false)], args := [d] }
  | _ => none }
def FnGraphWrongFalsely : Prop := fnGraphRow.holds Try.pinned (OpenSpec.ofChange fnGraphWrong)

/-- 'laws.FnExactRespectsGraph': WHATEVER THE INPUT: true; the input reads as it did. -/
def fnExactRespectsGraphSpec : ChangeSpec := { name := "fnExactRespectsGraph", fn := fun _ => fun
  | [d1, d2] => { results := [.lit (.bool true)], args := [d1, d2] }
  | _ => none }
def fnExactRespectsGraphRow : OpenClaim := { program := "ythijgdpnodiceaa", sum := "efe416671a3ca43b88bd65eb599d68f38b1eb4808159958618d72d5011840bdf", func := "loop.example/g00506/laws.FnExactRespectsGraph", spec := "fnExactRespectsGraph", plainKeys := false, apart := false }
def FnExactRespectsGraphSaid : Prop := fnExactRespectsGraphRow.holds Try.pinned (OpenSpec.ofChange fnExactRespectsGraphSpec)

/-- ITS FALSE NEIGHBOUR: 'it returns false'. Refute it at one input. -/
def fnExactRespectsGraphWrong : ChangeSpec := { name := "fnExactRespectsGraph", fn := fun _ => fun
  | [d1, d2] => { results := [.lit (.bool false)], args := [d1, d2] }
  | _ => none }
def FnExactRespectsGraphWrongFalsely : Prop := fnExactRespectsGraphRow.holds Try.pinned (OpenSpec.ofChange fnExactRespectsGraphWrong)

/-- 'laws.FnExactLayoutCost': WHATEVER THE INPUT: true; the input reads as it did. -/
def fnExactLayoutCostSpec : ChangeSpec := { name := "fnExactLayoutCost", fn := fun _ => fun
  | [d1, d2, d3] => { results := [.lit (.bool true)], args := [d1, d2, d3] }
  | _ => none }
def fnExactLayoutCostRow : OpenClaim := { program := "ythijgdpnodiceaa", sum := "efe416671a3ca43b88bd65eb599d68f38b1eb4808159958618d72d5011840bdf", func := "loop.example/g00506/laws.FnExactLayoutCost", spec := "fnExactLayoutCost", plainKeys := false, apart := false }
def FnExactLayoutCostSaid : Prop := fnExactLayoutCostRow.holds Try.pinned (OpenSpec.ofChange fnExactLayoutCostSpec)

/-- ITS FALSE NEIGHBOUR: 'it returns false'. Refute it at one input. -/
def fnExactLayoutCostWrong : ChangeSpec := { name := "fnExactLayoutCost", fn := fun _ => fun
  | [d1, d2, d3] => { results := [.lit (.bool false)], args := [d1, d2, d3] }
  | _ => none }
def FnExactLayoutCostWrongFalsely : Prop := fnExactLayoutCostRow.holds Try.pinned (OpenSpec.ofChange fnExactLayoutCostWrong)

/-- 'laws.FnExactChooseLayout': WHATEVER THE INPUT: true; the input reads as it did. -/
def fnExactChooseLayoutSpec : ChangeSpec := { name := "fnExactChooseLayout", fn := fun _ => fun
  | [d1, d2] => { results := [.lit (.bool true)], args := [d1, d2] }
  | _ => none }
def fnExactChooseLayoutRow : OpenClaim := { program := "ythijgdpnodiceaa", sum := "efe416671a3ca43b88bd65eb599d68f38b1eb4808159958618d72d5011840bdf", func := "loop.example/g00506/laws.FnExactChooseLayout", spec := "fnExactChooseLayout", unfollowed := true, recurses := true, plainKeys := false, apart := false }
def FnExactChooseLayoutSaid : Prop := fnExactChooseLayoutRow.holds Try.pinned (OpenSpec.ofChange fnExactChooseLayoutSpec)

/-- ITS FALSE NEIGHBOUR: 'it returns false'. Refute it at one input. -/
def fnExactChooseLayoutWrong : ChangeSpec := { name := "fnExactChooseLayout", fn := fun _ => fun
  | [d1, d2] => { results := [.lit (.bool false)], args := [d1, d2] }
  | _ => none }
def FnExactChooseLayoutWrongFalsely : Prop := fnExactChooseLayoutRow.holds Try.pinned (OpenSpec.ofChange fnExactChooseLayoutWrong)

/-- 'laws.FnPlace': WHATEVER THE INPUT: true; the input reads as it did. -/
def fnPlaceSpec : ChangeSpec := { name := "fnPlace", fn := fun _ => fun
  | [d] => { results := [.lit (.bool true)], args := [d] }
  | _ => none }
def fnPlaceRow : OpenClaim := { program := "ythijgdpnodiceaa", sum := "efe416671a3ca43b88bd65eb599d68f38b1eb4808159958618d72d5011840bdf", func := "loop.example/g00506/laws.FnPlace", spec := "fnPlace", unfollowed := true, recurses := true, plainKeys := false, apart := false }
def FnPlaceSaid : Prop := fnPlaceRow.holds Try.pinned (OpenSpec.ofChange fnPlaceSpec)

/-- ITS FALSE NEIGHBOUR: 'it returns false'. Refute it at one input. -/
def fnPlaceWrong : ChangeSpec := { name := "fnPlace", fn := fun _ => fun
  | [d] => { results := [.lit (.bool false)], args := [d] }
  | _ => none }
def FnPlaceWrongFalsely : Prop := fnPlaceRow.holds Try.pinned (OpenSpec.ofChange fnPlaceWrong)

/-- 'laws.FnExactRouteGate': WHATEVER THE INPUT: true; the input reads as it did. -/
def fnExactRouteGateSpec : ChangeSpec := { name := "fnExactRouteGate", fn := fun _ => fun
  | [d1, d2, d3] => { results := [.lit (.bool true)], args := [d1, d2, d3] }
  | _ => none }
def fnExactRouteGateRow : OpenClaim := { program := "ythijgdpnodiceaa", sum := "efe416671a3ca43b88bd65eb599d68f38b1eb4808159958618d72d5011840bdf", func := "loop.example/g00506/laws.FnExactRouteGate", spec := "fnExactRouteGate", plainKeys := false, apart := false }
def FnExactRouteGateSaid : Prop := fnExactRouteGateRow.holds Try.pinned (OpenSpec.ofChange fnExactRouteGateSpec)

/-- ITS FALSE NEIGHBOUR: 'it returns false'. Refute it at one input. -/
def fnExactRouteGateWrong : ChangeSpec := { name := "fnExactRouteGate", fn := fun _ => fun
  | [d1, d2, d3] => { results := [.lit (.bool false)], args := [d1, d2, d3] }
  | _ => none }
def FnExactRouteGateWrongFalsely : Prop := fnExactRouteGateRow.holds Try.pinned (OpenSpec.ofChange fnExactRouteGateWrong)

/-- 'laws.FnExactBridgeRoute': WHATEVER THE INPUT: true; the input reads as it did. -/
def fnExactBridgeRouteSpec : ChangeSpec := { name := "fnExactBridgeRoute", fn := fun _ => fun
  | [d1, d2, d3] => { results := [.lit (.bool true)], args := [d1, d2, d3] }
  | _ => none }
def fnExactBridgeRouteRow : OpenClaim := { program := "ythijgdpnodiceaa", sum := "efe416671a3ca43b88bd65eb599d68f38b1eb4808159958618d72d5011840bdf", func := "loop.example/g00506/laws.FnExactBridgeRoute", spec := "fnExactBridgeRoute", recurses := true, plainKeys := false, apart := false }
def FnExactBridgeRouteSaid : Prop := fnExactBridgeRouteRow.holds Try.pinned (OpenSpec.ofChange fnExactBridgeRouteSpec)

/-- ITS FALSE NEIGHBOUR: 'it returns false'. Refute it at one input. -/
def fnExactBridgeRouteWrong : ChangeSpec := { name := "fnExactBridgeRoute", fn := fun _ => fun
  | [d1, d2, d3] => { results := [.lit (.bool false)], args := [d1, d2, d3] }
  | _ => none }
def FnExactBridgeRouteWrongFalsely : Prop := fnExactBridgeRouteRow.holds Try.pinned (OpenSpec.ofChange fnExactBridgeRouteWrong)

/-- 'laws.FnExactRouteGates': WHATEVER THE INPUT: true; the input reads as it did. -/
def fnExactRouteGatesSpec : ChangeSpec := { name := "fnExactRouteGates", fn := fun _ => fun
  | [d1, d2, d3] => { results := [.lit (.bool true)], args := [d1, d2, d3] }
  | _ => none }
def fnExactRouteGatesRow : OpenClaim := { program := "ythijgdpnodiceaa", sum := "efe416671a3ca43b88bd65eb599d68f38b1eb4808159958618d72d5011840bdf", func := "loop.example/g00506/laws.FnExactRouteGates", spec := "fnExactRouteGates", plainKeys := false, apart := false }
def FnExactRouteGatesSaid : Prop := fnExactRouteGatesRow.holds Try.pinned (OpenSpec.ofChange fnExactRouteGatesSpec)

/-- ITS FALSE NEIGHBOUR: 'it returns false'. Refute it at one input. -/
def fnExactRouteGatesWrong : ChangeSpec := { name := "fnExactRouteGates", fn := fun _ => fun
  | [d1, d2, d3] => { results := [.lit (.bool false)], args := [d1, d2, d3] }
  | _ => none }
def FnExactRouteGatesWrongFalsely : Prop := fnExactRouteGatesRow.holds Try.pinned (OpenSpec.ofChange fnExactRouteGatesWrong)

/- THE SECOND FORM. 'bulk': how many values and letters a reading holds, each counted each time it is reached (what is shared counts as often as it is met; a slice's spare places count too). A statement '..UptoSaid' is the law's where the arguments, and the package variables that the reading takes, are together of bulk at most 1048576: NARROWER than '..Said'. Prove '..Said' where nothing that the law and all that it calls make is longer than what came in: it says more and counts as full. Else prove '..UptoSaid'. A law counts once. -/
mutual
def uptoBulk {H : Type} : DataW H → Nat
  | .lit (.string bytes) => bytes.length + 1
  | .lit _ => 1
  | .nil => 1
  | .ptr d => uptoBulk d + 1
  | .slice elems spare => uptoBulkAll elems + uptoBulkAll spare + 1
  | .agg parts => uptoBulkAll parts + 1
  | .iface _ d => uptoBulk d + 1
  | .map entries => uptoBulkEntries entries + 1
  | .held _ => 1
def uptoBulkAll {H : Type} : List (DataW H) → Nat
  | [] => 0
  | d :: r => uptoBulk d + uptoBulkAll r
def uptoBulkEntries {H : Type} : List (Lit × DataW H) → Nat
  | [] => 0
  | x :: r => uptoBulkEntry x + uptoBulkEntries r
def uptoBulkEntry {H : Type} : Lit × DataW H → Nat
  | (.string bytes, d) => bytes.length + uptoBulk d + 1
  | (_, d) => uptoBulk d + 1
 end
def uptoSmall : (H : Type) → List (DataW H) → Bool := fun _ ds => decide (uptoBulkAll ds ≤ 1048576)
def OpenSpec.upto (s : _root_.Go.ChangeSpec) : _root_.Go.OpenSpec := { _root_.Go.OpenSpec.ofChange s with cond := some uptoSmall }

/-- 'laws.FnExactAllPermutations', WHERE WHAT IT READS IS OF BULK AT MOST 1048576: true; the input reads as it did. -/
def fnExactAllPermutationsUptoRow : OpenClaim := { program := "ythijgdpnodiceaa", sum := "efe416671a3ca43b88bd65eb599d68f38b1eb4808159958618d72d5011840bdf", func := "loop.example/g00506/laws.FnExactAllPermutations", spec := "fnExactAllPermutations", unfollowed := true, recurses := true, plainKeys := false, apart := false, narrowed := true }
def FnExactAllPermutationsUptoSaid : Prop := fnExactAllPermutationsUptoRow.holds Try.pinned (OpenSpec.upto fnExactAllPermutationsSpec)

/-- 'laws.FnAllPerms', WHERE WHAT IT READS IS OF BULK AT MOST 1048576: true; the input reads as it did. -/
def fnAllPermsUptoRow : OpenClaim := { program := "ythijgdpnodiceaa", sum := "efe416671a3ca43b88bd65eb599d68f38b1eb4808159958618d72d5011840bdf", func := "loop.example/g00506/laws.FnAllPerms", spec := "fnAllPerms", unfollowed := true, recurses := true, plainKeys := false, apart := false, narrowed := true }
def FnAllPermsUptoSaid : Prop := fnAllPermsUptoRow.holds Try.pinned (OpenSpec.upto fnAllPermsSpec)

/-- 'laws.FnAfterSwap', WHERE WHAT IT READS IS OF BULK AT MOST 1048576: true; the input reads as it did. -/
def fnAfterSwapUptoRow : OpenClaim := { program := "ythijgdpnodiceaa", sum := "efe416671a3ca43b88bd65eb599d68f38b1eb4808159958618d72d5011840bdf", func := "loop.example/g00506/laws.FnAfterSwap", spec := "fnAfterSwap", plainKeys := false, apart := false, narrowed := true }
def FnAfterSwapUptoSaid : Prop := fnAfterSwapUptoRow.holds Try.pinned (OpenSpec.upto fnAfterSwapSpec)

/-- 'laws.FnFar', WHERE WHAT IT READS IS OF BULK AT MOST 1048576: true; the input reads as it did. -/
def fnFarUptoRow : OpenClaim := { program := "ythijgdpnodiceaa", sum := "efe416671a3ca43b88bd65eb599d68f38b1eb4808159958618d72d5011840bdf", func := "loop.example/g00506/laws.FnFar", spec := "fnFar", plainKeys := false, apart := false, narrowed := true }
def FnFarUptoSaid : Prop := fnFarUptoRow.holds Try.pinned (OpenSpec.upto fnFarSpec)

/-- 'laws.FnGraph', WHERE WHAT IT READS IS OF BULK AT MOST 1048576: true; the input reads as it did. -/
def fnGraphUptoRow : OpenClaim := { program := "ythijgdpnodiceaa", sum := "efe416671a3ca43b88bd65eb599d68f38b1eb4808159958618d72d5011840bdf", func := "loop.example/g00506/laws.FnGraph", spec := "fnGraph", plainKeys := false, apart := false, narrowed := true }
def FnGraphUptoSaid : Prop := fnGraphUptoRow.holds Try.pinned (OpenSpec.upto fnGraphSpec)

/-- 'laws.FnExactRespectsGraph', WHERE WHAT IT READS IS OF BULK AT MOST 1048576: true; the input reads as it did. -/
def fnExactRespectsGraphUptoRow : OpenClaim := { program := "ythijgdpnodiceaa", sum := "efe416671a3ca43b88bd65eb599d68f38b1eb4808159958618d72d5011840bdf", func := "loop.example/g00506/laws.FnExactRespectsGraph", spec := "fnExactRespectsGraph", plainKeys := false, apart := false, narrowed := true }
def FnExactRespectsGraphUptoSaid : Prop := fnExactRespectsGraphUptoRow.holds Try.pinned (OpenSpec.upto fnExactRespectsGraphSpec)

/-- 'laws.FnExactLayoutCost', WHERE WHAT IT READS IS OF BULK AT MOST 1048576: true; the input reads as it did. -/
def fnExactLayoutCostUptoRow : OpenClaim := { program := "ythijgdpnodiceaa", sum := "efe416671a3ca43b88bd65eb599d68f38b1eb4808159958618d72d5011840bdf", func := "loop.example/g00506/laws.FnExactLayoutCost", spec := "fnExactLayoutCost", plainKeys := false, apart := false, narrowed := true }
def FnExactLayoutCostUptoSaid : Prop := fnExactLayoutCostUptoRow.holds Try.pinned (OpenSpec.upto fnExactLayoutCostSpec)

/-- 'laws.FnExactChooseLayout', WHERE WHAT IT READS IS OF BULK AT MOST 1048576: true; the input reads as it did. -/
def fnExactChooseLayoutUptoRow : OpenClaim := { program := "ythijgdpnodiceaa", sum := "efe416671a3ca43b88bd65eb599d68f38b1eb4808159958618d72d5011840bdf", func := "loop.example/g00506/laws.FnExactChooseLayout", spec := "fnExactChooseLayout", unfollowed := true, recurses := true, plainKeys := false, apart := false, narrowed := true }
def FnExactChooseLayoutUptoSaid : Prop := fnExactChooseLayoutUptoRow.holds Try.pinned (OpenSpec.upto fnExactChooseLayoutSpec)

/-- 'laws.FnPlace', WHERE WHAT IT READS IS OF BULK AT MOST 1048576: true; the input reads as it did. -/
def fnPlaceUptoRow : OpenClaim := { program := "ythijgdpnodiceaa", sum := "efe416671a3ca43b88bd65eb599d68f38b1eb4808159958618d72d5011840bdf", func := "loop.example/g00506/laws.FnPlace", spec := "fnPlace", unfollowed := true, recurses := true, plainKeys := false, apart := false, narrowed := true }
def FnPlaceUptoSaid : Prop := fnPlaceUptoRow.holds Try.pinned (OpenSpec.upto fnPlaceSpec)

/-- 'laws.FnExactRouteGate', WHERE WHAT IT READS IS OF BULK AT MOST 1048576: true; the input reads as it did. -/
def fnExactRouteGateUptoRow : OpenClaim := { program := "ythijgdpnodiceaa", sum := "efe416671a3ca43b88bd65eb599d68f38b1eb4808159958618d72d5011840bdf", func := "loop.example/g00506/laws.FnExactRouteGate", spec := "fnExactRouteGate", plainKeys := false, apart := false, narrowed := true }
def FnExactRouteGateUptoSaid : Prop := fnExactRouteGateUptoRow.holds Try.pinned (OpenSpec.upto fnExactRouteGateSpec)

/-- 'laws.FnExactBridgeRoute', WHERE WHAT IT READS IS OF BULK AT MOST 1048576: true; the input reads as it did. -/
def fnExactBridgeRouteUptoRow : OpenClaim := { program := "ythijgdpnodiceaa", sum := "efe416671a3ca43b88bd65eb599d68f38b1eb4808159958618d72d5011840bdf", func := "loop.example/g00506/laws.FnExactBridgeRoute", spec := "fnExactBridgeRoute", recurses := true, plainKeys := false, apart := false, narrowed := true }
def FnExactBridgeRouteUptoSaid : Prop := fnExactBridgeRouteUptoRow.holds Try.pinned (OpenSpec.upto fnExactBridgeRouteSpec)

/-- 'laws.FnExactRouteGates', WHERE WHAT IT READS IS OF BULK AT MOST 1048576: true; the input reads as it did. -/
def fnExactRouteGatesUptoRow : OpenClaim := { program := "ythijgdpnodiceaa", sum := "efe416671a3ca43b88bd65eb599d68f38b1eb4808159958618d72d5011840bdf", func := "loop.example/g00506/laws.FnExactRouteGates", spec := "fnExactRouteGates", plainKeys := false, apart := false, narrowed := true }
def FnExactRouteGatesUptoSaid : Prop := fnExactRouteGatesUptoRow.holds Try.pinned (OpenSpec.upto fnExactRouteGatesSpec)

end Rows
end Go.Proofs.Ythijgdpnodiceaa
