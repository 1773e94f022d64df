/-
  No cell of these rows narrows 'for every input' (looked for: loops, veiled, ifaces, maps, wideKeys, modest, calm, conditions, laid).
  DERIVED. THE GIVEN ROWS OF THIS SEAT. 12 by the template 'for every input the law returns true; each argument reads behind the call as it read before'; 0 by the template 'total and deterministic' (their statements: YteapboaikfhblaaTotals.lean).
  GIVEN WITH THE SEED: the statements are not yours to turn. If you find one false, say at which input.
  Laid BY PROGRAM, IN A SANDBOX (cutbox-rows.mjs): the forced cells as the released guide's own fill.sh prints them over the translation b3a5ce79b2eaf9c1… (all of the seat's roots in one cut). By AI agents, Wed Nov 11 2026. No macro, syntax, notation, axiom, sorry.
-/
import Derived.Test.YteapboaikfhblaaChecked
import GoSem.Claim
import GoSem.ClaimJoined
import GoSem.ClaimMapViews
import Derived.JoinedTies
import Derived.KernelRfl
namespace Go.Proofs.Yteapboaikfhblaa
/- THE CELL 'sum', in the pinned program and in every row, IS THE sha256 OF THE DUMP (.gsa) THAT YteapboaikfhblaaProg.lean LOADS. Nothing in Lean hashes anything: it is a label: what it is worth is what the hold of that sum in a sandbox is worth. -/
noncomputable def Try.pinned : Pinned := { name := "yteapboaikfhblaa", sum := "b3a5ce79b2eaf9c18130f1452768a37353c6d292ccb6554cd0d1a5cd323d4d89", checked := Try.checked }
namespace Rows
def none {H : Type} : Left H := { results := [], args := [] }

/-- 'laws.FnExactGraphDistance': WHATEVER THE INPUT: true; the input reads as it did. -/
def fnExactGraphDistanceSpec : ChangeSpec := { name := "fnExactGraphDistance", fn := fun _ => fun
  | [d1, d2, d3] => { results := [.lit (.bool true)], args := [d1, d2, d3] }
  | _ => none }
def fnExactGraphDistanceRow : OpenClaim := { program := "yteapboaikfhblaa", sum := "b3a5ce79b2eaf9c18130f1452768a37353c6d292ccb6554cd0d1a5cd323d4d89", func := "loop.example/g00506/laws.FnExactGraphDistance", spec := "fnExactGraphDistance", plainKeys := false, apart := false }
def FnExactGraphDistanceSaid : Prop := fnExactGraphDistanceRow.holds Try.pinned (OpenSpec.ofChange fnExactGraphDistanceSpec)

/-- ITS FALSE NEIGHBOUR: 'it returns false'. Refute it at one input. -/
def fnExactGraphDistanceWrong : ChangeSpec := { name := "fnExactGraphDistance", fn := fun _ => fun
  | [d1, d2, d3] => { results := [.lit (.bool false)], args := [d1, d2, d3] }
  | _ => none }
def FnExactGraphDistanceWrongFalsely : Prop := fnExactGraphDistanceRow.holds Try.pinned (OpenSpec.ofChange fnExactGraphDistanceWrong)

/-- 'laws.FnExactGatesCommute': WHATEVER THE INPUT: true; the input reads as it did. -/
def fnExactGatesCommuteSpec : ChangeSpec := { name := "fnExactGatesCommute", fn := fun _ => fun
  | [d1, d2] => { results := [.lit (.bool true)], args := [d1, d2] }
  | _ => none }
def fnExactGatesCommuteRow : OpenClaim := { program := "yteapboaikfhblaa", sum := "b3a5ce79b2eaf9c18130f1452768a37353c6d292ccb6554cd0d1a5cd323d4d89", func := "loop.example/g00506/laws.FnExactGatesCommute", spec := "fnExactGatesCommute", plainKeys := false, apart := false }
def FnExactGatesCommuteSaid : Prop := fnExactGatesCommuteRow.holds Try.pinned (OpenSpec.ofChange fnExactGatesCommuteSpec)

/-- ITS FALSE NEIGHBOUR: 'it returns false'. Refute it at one input. -/
def fnExactGatesCommuteWrong : ChangeSpec := { name := "fnExactGatesCommute", fn := fun _ => fun
  | [d1, d2] => { results := [.lit (.bool false)], args := [d1, d2] }
  | _ => none }
def FnExactGatesCommuteWrongFalsely : Prop := fnExactGatesCommuteRow.holds Try.pinned (OpenSpec.ofChange fnExactGatesCommuteWrong)

/-- 'laws.FnAfterSwap': WHATEVER THE INPUT: true; the input reads as it did. -/
def fnAfterSwapSpec : ChangeSpec := { name := "fnAfterSwap", fn := fun _ => fun
  | [d] => { results := [.lit (.bool true)], args := [d] }
  | _ => none }
def fnAfterSwapRow : OpenClaim := { program := "yteapboaikfhblaa", sum := "b3a5ce79b2eaf9c18130f1452768a37353c6d292ccb6554cd0d1a5cd323d4d89", func := "loop.example/g00506/laws.FnAfterSwap", spec := "fnAfterSwap", plainKeys := false, apart := false }
def FnAfterSwapSaid : Prop := fnAfterSwapRow.holds Try.pinned (OpenSpec.ofChange fnAfterSwapSpec)

/-- ITS FALSE NEIGHBOUR: 'it returns false'. Refute it at one input. -/
def fnAfterSwapWrong : ChangeSpec := { name := "fnAfterSwap", fn := fun _ => fun
  | [d] => { results := [.lit (.bool false)], args := [d] }
  | _ => none }
def FnAfterSwapWrongFalsely : Prop := fnAfterSwapRow.holds Try.pinned (OpenSpec.ofChange fnAfterSwapWrong)

/-- 'laws.FnExactIdentityPhasePolynomial': WHATEVER THE INPUT: true; the input reads as it did. -/
def fnExactIdentityPhasePolynomialSpec : ChangeSpec := { name := "fnExactIdentityPhasePolynomial", fn := fun _ => fun
  | [d] => { results := [.lit (.bool true)], args := [d] }
  | _ => none }
def fnExactIdentityPhasePolynomialRow : OpenClaim := { program := "yteapboaikfhblaa", sum := "b3a5ce79b2eaf9c18130f1452768a37353c6d292ccb6554cd0d1a5cd323d4d89", func := "loop.example/g00506/laws.FnExactIdentityPhasePolynomial", spec := "fnExactIdentityPhasePolynomial", plainKeys := false, apart := false }
def FnExactIdentityPhasePolynomialSaid : Prop := fnExactIdentityPhasePolynomialRow.holds Try.pinned (OpenSpec.ofChange fnExactIdentityPhasePolynomialSpec)

/-- ITS FALSE NEIGHBOUR: 'it returns false'. Refute it at one input. -/
def fnExactIdentityPhasePolynomialWrong : ChangeSpec := { name := "fnExactIdentityPhasePolynomial", fn := fun _ => fun
  | [d] => { results := [.lit (.bool false)], args := [d] }
  | _ => none }
def FnExactIdentityPhasePolynomialWrongFalsely : Prop := fnExactIdentityPhasePolynomialRow.holds Try.pinned (OpenSpec.ofChange fnExactIdentityPhasePolynomialWrong)

/-- 'laws.FnExactEqualPhasePolynomial': WHATEVER THE INPUT: true; the input reads as it did. -/
def fnExactEqualPhasePolynomialSpec : ChangeSpec := { name := "fnExactEqualPhasePolynomial", fn := fun _ => fun
  | [d1, d2] => { results := [.lit (.bool true)], args := [d1, d2] }
  | _ => none }
def fnExactEqualPhasePolynomialRow : OpenClaim := { program := "yteapboaikfhblaa", sum := "b3a5ce79b2eaf9c18130f1452768a37353c6d292ccb6554cd0d1a5cd323d4d89", func := "loop.example/g00506/laws.FnExactEqualPhasePolynomial", spec := "fnExactEqualPhasePolynomial", plainKeys := false, apart := false }
def FnExactEqualPhasePolynomialSaid : Prop := fnExactEqualPhasePolynomialRow.holds Try.pinned (OpenSpec.ofChange fnExactEqualPhasePolynomialSpec)

/-- ITS FALSE NEIGHBOUR: 'it returns false'. Refute it at one input. -/
def fnExactEqualPhasePolynomialWrong : ChangeSpec := { name := "fnExactEqualPhasePolynomial", fn := fun _ => fun
  | [d1, d2] => { results := [.lit (.bool false)], args := [d1, d2] }
  | _ => none }
def FnExactEqualPhasePolynomialWrongFalsely : Prop := fnExactEqualPhasePolynomialRow.holds Try.pinned (OpenSpec.ofChange fnExactEqualPhasePolynomialWrong)

/-- 'laws.FnExactIsConnected': WHATEVER THE INPUT: true; the input reads as it did. -/
def fnExactIsConnectedSpec : ChangeSpec := { name := "fnExactIsConnected", fn := fun _ => fun
  | [d] => { results := [.lit (.bool true)], args := [d] }
  | _ => none }
def fnExactIsConnectedRow : OpenClaim := { program := "yteapboaikfhblaa", sum := "b3a5ce79b2eaf9c18130f1452768a37353c6d292ccb6554cd0d1a5cd323d4d89", func := "loop.example/g00506/laws.FnExactIsConnected", spec := "fnExactIsConnected", plainKeys := false, apart := false }
def FnExactIsConnectedSaid : Prop := fnExactIsConnectedRow.holds Try.pinned (OpenSpec.ofChange fnExactIsConnectedSpec)

/-- ITS FALSE NEIGHBOUR: 'it returns false'. Refute it at one input. -/
def fnExactIsConnectedWrong : ChangeSpec := { name := "fnExactIsConnected", fn := fun _ => fun
  | [d] => { results := [.lit (.bool false)], args := [d] }
  | _ => none }
def FnExactIsConnectedWrongFalsely : Prop := fnExactIsConnectedRow.holds Try.pinned (OpenSpec.ofChange fnExactIsConnectedWrong)

/-- 'laws.FnExactIsValidGraph': WHATEVER THE INPUT: true; the input reads as it did. -/
def fnExactIsValidGraphSpec : ChangeSpec := { name := "fnExactIsValidGraph", fn := fun _ => fun
  | [d] => { results := [.lit (.bool true)], args := [d] }
  | _ => none }
def fnExactIsValidGraphRow : OpenClaim := { program := "yteapboaikfhblaa", sum := "b3a5ce79b2eaf9c18130f1452768a37353c6d292ccb6554cd0d1a5cd323d4d89", func := "loop.example/g00506/laws.FnExactIsValidGraph", spec := "fnExactIsValidGraph", plainKeys := false, apart := false }
def FnExactIsValidGraphSaid : Prop := fnExactIsValidGraphRow.holds Try.pinned (OpenSpec.ofChange fnExactIsValidGraphSpec)

/-- ITS FALSE NEIGHBOUR: 'it returns false'. Refute it at one input. -/
def fnExactIsValidGraphWrong : ChangeSpec := { name := "fnExactIsValidGraph", fn := fun _ => fun
  | [d] => { results := [.lit (.bool false)], args := [d] }
  | _ => none }
def FnExactIsValidGraphWrongFalsely : Prop := fnExactIsValidGraphRow.holds Try.pinned (OpenSpec.ofChange fnExactIsValidGraphWrong)

/-- 'laws.FnSections': WHATEVER THE INPUT: true; the input reads as it did. -/
def fnSectionsSpec : ChangeSpec := { name := "fnSections", fn := fun _ => fun
  | [d] => { results := [.lit (.bool true)], args := [d] }
  | _ => none }
def fnSectionsRow : OpenClaim := { program := "yteapboaikfhblaa", sum := "b3a5ce79b2eaf9c18130f1452768a37353c6d292ccb6554cd0d1a5cd323d4d89", func := "loop.example/g00506/laws.FnSections", spec := "fnSections", plainKeys := false, apart := false }
def FnSectionsSaid : Prop := fnSectionsRow.holds Try.pinned (OpenSpec.ofChange fnSectionsSpec)

/-- ITS FALSE NEIGHBOUR: 'it returns false'. Refute it at one input. -/
def fnSectionsWrong : ChangeSpec := { name := "fnSections", fn := fun _ => fun
  | [d] => { results := [.lit (.bool false)], args := [d] }
  | _ => none }
def FnSectionsWrongFalsely : Prop := fnSectionsRow.holds Try.pinned (OpenSpec.ofChange fnSectionsWrong)

/-- 'laws.FnExactPhaseSections': WHATEVER THE INPUT: true; the input reads as it did. -/
def fnExactPhaseSectionsSpec : ChangeSpec := { name := "fnExactPhaseSections", fn := fun _ => fun
  | [d] => { results := [.lit (.bool true)], args := [d] }
  | _ => none }
def fnExactPhaseSectionsRow : OpenClaim := { program := "yteapboaikfhblaa", sum := "b3a5ce79b2eaf9c18130f1452768a37353c6d292ccb6554cd0d1a5cd323d4d89", func := "loop.example/g00506/laws.FnExactPhaseSections", spec := "fnExactPhaseSections", plainKeys := false, apart := false }
def FnExactPhaseSectionsSaid : Prop := fnExactPhaseSectionsRow.holds Try.pinned (OpenSpec.ofChange fnExactPhaseSectionsSpec)

/-- ITS FALSE NEIGHBOUR: 'it returns false'. Refute it at one input. -/
def fnExactPhaseSectionsWrong : ChangeSpec := { name := "fnExactPhaseSections", fn := fun _ => fun
  | [d] => { results := [.lit (.bool false)], args := [d] }
  | _ => none }
def FnExactPhaseSectionsWrongFalsely : Prop := fnExactPhaseSectionsRow.holds Try.pinned (OpenSpec.ofChange fnExactPhaseSectionsWrong)

/-- 'laws.FnFar': WHATEVER THE INPUT: true; the input reads as it did. -/
def fnFarSpec : ChangeSpec := { name := "fnFar", fn := fun _ => fun
  | [d] => { results := [.lit (.bool true)], args := [d] }
  | _ => none }
def fnFarRow : OpenClaim := { program := "yteapboaikfhblaa", sum := "b3a5ce79b2eaf9c18130f1452768a37353c6d292ccb6554cd0d1a5cd323d4d89", func := "loop.example/g00506/laws.FnFar", spec := "fnFar", plainKeys := false, apart := false }
def FnFarSaid : Prop := fnFarRow.holds Try.pinned (OpenSpec.ofChange fnFarSpec)

/-- ITS FALSE NEIGHBOUR: 'it returns false'. Refute it at one input. -/
def fnFarWrong : ChangeSpec := { name := "fnFar", fn := fun _ => fun
  | [d] => { results := [.lit (.bool false)], args := [d] }
  | _ => none }
def FnFarWrongFalsely : Prop := fnFarRow.holds Try.pinned (OpenSpec.ofChange fnFarWrong)

/-- 'laws.FnExactShortestPath': WHATEVER THE INPUT: true; the input reads as it did. -/
def fnExactShortestPathSpec : ChangeSpec := { name := "fnExactShortestPath", fn := fun _ => fun
  | [d1, d2, d3] => { results := [.lit (.bool true)], args := [d1, d2, d3] }
  | _ => none }
def fnExactShortestPathRow : OpenClaim := { program := "yteapboaikfhblaa", sum := "b3a5ce79b2eaf9c18130f1452768a37353c6d292ccb6554cd0d1a5cd323d4d89", func := "loop.example/g00506/laws.FnExactShortestPath", spec := "fnExactShortestPath", plainKeys := false, apart := false }
def FnExactShortestPathSaid : Prop := fnExactShortestPathRow.holds Try.pinned (OpenSpec.ofChange fnExactShortestPathSpec)

/-- ITS FALSE NEIGHBOUR: 'it returns false'. Refute it at one input. -/
def fnExactShortestPathWrong : ChangeSpec := { name := "fnExactShortestPath", fn := fun _ => fun
  | [d1, d2, d3] => { results := [.lit (.bool false)], args := [d1, d2, d3] }
  | _ => none }
def FnExactShortestPathWrongFalsely : Prop := fnExactShortestPathRow.holds Try.pinned (OpenSpec.ofChange fnExactShortestPathWrong)

/-- 'laws.FnGraph': WHATEVER THE INPUT: true; the input reads as it did. -/
def fnGraphSpec : ChangeSpec := { name := "fnGraph", fn := fun _ => fun
  | [d] => { results := [.lit (.bool true)], args := [d] }
  | _ => none }
def fnGraphRow : OpenClaim := { program := "yteapboaikfhblaa", sum := "b3a5ce79b2eaf9c18130f1452768a37353c6d292ccb6554cd0d1a5cd323d4d89", func := "loop.example/g00506/laws.FnGraph", spec := "fnGraph", plainKeys := false, apart := false }
def FnGraphSaid : Prop := fnGraphRow.holds Try.pinned (OpenSpec.ofChange fnGraphSpec)

/-- ITS FALSE NEIGHBOUR: 'it returns false'. Refute it at one input. -/
def fnGraphWrong : ChangeSpec := { name := "fnGraph", fn := fun _ => fun
  | [d] => { results := [.lit (.bool false)], args := [d] }
  | _ => none }
def FnGraphWrongFalsely : Prop := fnGraphRow.holds Try.pinned (OpenSpec.ofChange fnGraphWrong)

/- THE SECOND FORM. 'bulk': how many values and letters a reading holds, each counted each time it is reached (what is shared counts as often as it is met; a slice's spare places count too). A statement '..UptoSaid' is the law's where the arguments, and the package variables that the reading takes, are together of bulk at most 1048576: NARROWER than '..Said'. Prove '..Said' where nothing that the law and all that it calls make is longer than what came in: it says more and counts as full. Else prove '..UptoSaid'. A law counts once. -/
mutual
def uptoBulk {H : Type} : DataW H → Nat
  | .lit (.string bytes) => bytes.length + 1
  | .lit _ => 1
  | .nil => 1
  | .ptr d => uptoBulk d + 1
  | .slice elems spare => uptoBulkAll elems + uptoBulkAll spare + 1
  | .agg parts => uptoBulkAll parts + 1
  | .iface _ d => uptoBulk d + 1
  | .map entries => uptoBulkEntries entries + 1
  | .held _ => 1
def uptoBulkAll {H : Type} : List (DataW H) → Nat
  | [] => 0
  | d :: r => uptoBulk d + uptoBulkAll r
def uptoBulkEntries {H : Type} : List (Lit × DataW H) → Nat
  | [] => 0
  | x :: r => uptoBulkEntry x + uptoBulkEntries r
def uptoBulkEntry {H : Type} : Lit × DataW H → Nat
  | (.string bytes, d) => bytes.length + uptoBulk d + 1
  | (_, d) => uptoBulk d + 1
 end
def uptoSmall : (H : Type) → List (DataW H) → Bool := fun _ ds => decide (uptoBulkAll ds ≤ 1048576)
def OpenSpec.upto (s : _root_.Go.ChangeSpec) : _root_.Go.OpenSpec := { _root_.Go.OpenSpec.ofChange s with cond := some uptoSmall }

/-- 'laws.FnExactGraphDistance', WHERE WHAT IT READS IS OF BULK AT MOST 1048576: true; the input reads as it did. -/
def fnExactGraphDistanceUptoRow : OpenClaim := { program := "yteapboaikfhblaa", sum := "b3a5ce79b2eaf9c18130f1452768a37353c6d292ccb6554cd0d1a5cd323d4d89", func := "loop.example/g00506/laws.FnExactGraphDistance", spec := "fnExactGraphDistance", plainKeys := false, apart := false, narrowed := true }
def FnExactGraphDistanceUptoSaid : Prop := fnExactGraphDistanceUptoRow.holds Try.pinned (OpenSpec.upto fnExactGraphDistanceSpec)

/-- 'laws.FnExactGatesCommute', WHERE WHAT IT READS IS OF BULK AT MOST 1048576: true; the input reads as it did. -/
def fnExactGatesCommuteUptoRow : OpenClaim := { program := "yteapboaikfhblaa", sum := "b3a5ce79b2eaf9c18130f1452768a37353c6d292ccb6554cd0d1a5cd323d4d89", func := "loop.example/g00506/laws.FnExactGatesCommute", spec := "fnExactGatesCommute", plainKeys := false, apart := false, narrowed := true }
def FnExactGatesCommuteUptoSaid : Prop := fnExactGatesCommuteUptoRow.holds Try.pinned (OpenSpec.upto fnExactGatesCommuteSpec)

/-- 'laws.FnAfterSwap', WHERE WHAT IT READS IS OF BULK AT MOST 1048576: true; the input reads as it did. -/
def fnAfterSwapUptoRow : OpenClaim := { program := "yteapboaikfhblaa", sum := "b3a5ce79b2eaf9c18130f1452768a37353c6d292ccb6554cd0d1a5cd323d4d89", func := "loop.example/g00506/laws.FnAfterSwap", spec := "fnAfterSwap", plainKeys := false, apart := false, narrowed := true }
def FnAfterSwapUptoSaid : Prop := fnAfterSwapUptoRow.holds Try.pinned (OpenSpec.upto fnAfterSwapSpec)

/-- 'laws.FnExactIdentityPhasePolynomial', WHERE WHAT IT READS IS OF BULK AT MOST 1048576: true; the input reads as it did. -/
def fnExactIdentityPhasePolynomialUptoRow : OpenClaim := { program := "yteapboaikfhblaa", sum := "b3a5ce79b2eaf9c18130f1452768a37353c6d292ccb6554cd0d1a5cd323d4d89", func := "loop.example/g00506/laws.FnExactIdentityPhasePolynomial", spec := "fnExactIdentityPhasePolynomial", plainKeys := false, apart := false, narrowed := true }
def FnExactIdentityPhasePolynomialUptoSaid : Prop := fnExactIdentityPhasePolynomialUptoRow.holds Try.pinned (OpenSpec.upto fnExactIdentityPhasePolynomialSpec)

/-- 'laws.FnExactEqualPhasePolynomial', WHERE WHAT IT READS IS OF BULK AT MOST 1048576: true; the input reads as it did. -/
def fnExactEqualPhasePolynomialUptoRow : OpenClaim := { program := "yteapboaikfhblaa", sum := "b3a5ce79b2eaf9c18130f1452768a37353c6d292ccb6554cd0d1a5cd323d4d89", func := "loop.example/g00506/laws.FnExactEqualPhasePolynomial", spec := "fnExactEqualPhasePolynomial", plainKeys := false, apart := false, narrowed := true }
def FnExactEqualPhasePolynomialUptoSaid : Prop := fnExactEqualPhasePolynomialUptoRow.holds Try.pinned (OpenSpec.upto fnExactEqualPhasePolynomialSpec)

/-- 'laws.FnExactIsConnected', WHERE WHAT IT READS IS OF BULK AT MOST 1048576: true; the input reads as it did. -/
def fnExactIsConnectedUptoRow : OpenClaim := { program := "yteapboaikfhblaa", sum := "b3a5ce79b2eaf9c18130f1452768a37353c6d292ccb6554cd0d1a5cd323d4d89", func := "loop.example/g00506/laws.FnExactIsConnected", spec := "fnExactIsConnected", plainKeys := false, apart := false, narrowed := true }
def FnExactIsConnectedUptoSaid : Prop := fnExactIsConnectedUptoRow.holds Try.pinned (OpenSpec.upto fnExactIsConnectedSpec)

/-- 'laws.FnExactIsValidGraph', WHERE WHAT IT READS IS OF BULK AT MOST 1048576: true; the input reads as it did. -/
def fnExactIsValidGraphUptoRow : OpenClaim := { program := "yteapboaikfhblaa", sum := "b3a5ce79b2eaf9c18130f1452768a37353c6d292ccb6554cd0d1a5cd323d4d89", func := "loop.example/g00506/laws.FnExactIsValidGraph", spec := "fnExactIsValidGraph", plainKeys := false, apart := false, narrowed := true }
def FnExactIsValidGraphUptoSaid : Prop := fnExactIsValidGraphUptoRow.holds Try.pinned (OpenSpec.upto fnExactIsValidGraphSpec)

/-- 'laws.FnSections', WHERE WHAT IT READS IS OF BULK AT MOST 1048576: true; the input reads as it did. -/
def fnSectionsUptoRow : OpenClaim := { program := "yteapboaikfhblaa", sum := "b3a5ce79b2eaf9c18130f1452768a37353c6d292ccb6554cd0d1a5cd323d4d89", func := "loop.example/g00506/laws.FnSections", spec := "fnSections", plainKeys := false, apart := false, narrowed := true }
def FnSectionsUptoSaid : Prop := fnSectionsUptoRow.holds Try.pinned (OpenSpec.upto fnSectionsSpec)

/-- 'laws.FnExactPhaseSections', WHERE WHAT IT READS IS OF BULK AT MOST 1048576: true; the input reads as it did. -/
def fnExactPhaseSectionsUptoRow : OpenClaim := { program := "yteapboaikfhblaa", sum := "b3a5ce79b2eaf9c18130f1452768a37353c6d292ccb6554cd0d1a5cd323d4d89", func := "loop.example/g00506/laws.FnExactPhaseSections", spec := "fnExactPhaseSections", plainKeys := false, apart := false, narrowed := true }
def FnExactPhaseSectionsUptoSaid : Prop := fnExactPhaseSectionsUptoRow.holds Try.pinned (OpenSpec.upto fnExactPhaseSectionsSpec)

/-- 'laws.FnFar', WHERE WHAT IT READS IS OF BULK AT MOST 1048576: true; the input reads as it did. -/
def fnFarUptoRow : OpenClaim := { program := "yteapboaikfhblaa", sum := "b3a5ce79b2eaf9c18130f1452768a37353c6d292ccb6554cd0d1a5cd323d4d89", func := "loop.example/g00506/laws.FnFar", spec := "fnFar", plainKeys := false, apart := false, narrowed := true }
def FnFarUptoSaid : Prop := fnFarUptoRow.holds Try.pinned (OpenSpec.upto fnFarSpec)

/-- 'laws.FnExactShortestPath', WHERE WHAT IT READS IS OF BULK AT MOST 1048576: true; the input reads as it did. -/
def fnExactShortestPathUptoRow : OpenClaim := { program := "yteapboaikfhblaa", sum := "b3a5ce79b2eaf9c18130f1452768a37353c6d292ccb6554cd0d1a5cd323d4d89", func := "loop.example/g00506/laws.FnExactShortestPath", spec := "fnExactShortestPath", plainKeys := false, apart := false, narrowed := true }
def FnExactShortestPathUptoSaid : Prop := fnExactShortestPathUptoRow.holds Try.pinned (OpenSpec.upto fnExactShortestPathSpec)

/-- 'laws.FnGraph', WHERE WHAT IT READS IS OF BULK AT MOST 1048576: true; the input reads as it did. -/
def fnGraphUptoRow : OpenClaim := { program := "yteapboaikfhblaa", sum := "b3a5ce79b2eaf9c18130f1452768a37353c6d292ccb6554cd0d1a5cd323d4d89", func := "loop.example/g00506/laws.FnGraph", spec := "fnGraph", plainKeys := false, apart := false, narrowed := true }
def FnGraphUptoSaid : Prop := fnGraphUptoRow.holds Try.pinned (OpenSpec.upto fnGraphSpec)

end Rows
end Go.Proofs.Yteapboaikfhblaa
