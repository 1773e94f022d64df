/-
  No cell of these rows narrows 'for every input' (looked for: loops, veiled, ifaces, maps, wideKeys, modest, calm, conditions, laid).
  DERIVED. THE GIVEN ROWS OF THIS SEAT. 12 by the template 'for every input the law returns true; each argument reads behind the call as it read before'; 0 by the template 'total and deterministic' (their statements: YthfacfnknpomcaaTotals.lean).
  GIVEN WITH THE SEED: the statements are not yours to turn. If you find one false, say at which input.
  Laid BY PROGRAM, IN A SANDBOX (cutbox-rows.mjs): the forced cells as the released guide's own fill.sh prints them over the translation 8df9b7c6bb475252… (all of the seat's roots in one cut). By AI agents, Wed Nov 11 2026. No macro, syntax, notation, axiom, sorry.
-/
import Derived.Test.YthfacfnknpomcaaChecked
import GoSem.Claim
import GoSem.ClaimJoined
import GoSem.ClaimMapViews
import Derived.JoinedTies
import Derived.KernelRfl
namespace Go.Proofs.Ythfacfnknpomcaa
/- THE CELL 'sum', in the pinned program and in every row, IS THE sha256 OF THE DUMP (.gsa) THAT YthfacfnknpomcaaProg.lean LOADS. Nothing in Lean hashes anything: it is a label: what it is worth is what the hold of that sum in a sandbox is worth. -/
noncomputable def Try.pinned : Pinned := { name := "ythfacfnknpomcaa", sum := "8df9b7c6bb475252c598fa76cda7b9f46e734007a1400ec608a5df3c484ccfcd", checked := Try.checked }
namespace Rows
def none {H : Type} : Left H := { results := [], args := [] }

/-- 'laws.FnExactEqualPhasePolynomial': WHATEVER THE INPUT: true; the input reads as it did. -/
def fnExactEqualPhasePolynomialSpec : ChangeSpec := { name := "fnExactEqualPhasePolynomial", fn := fun _ => fun
  | [d1, d2] => { results := [.lit (.bool true)], args := [d1, d2] }
  | _ => none }
def fnExactEqualPhasePolynomialRow : OpenClaim := { program := "ythfacfnknpomcaa", sum := "8df9b7c6bb475252c598fa76cda7b9f46e734007a1400ec608a5df3c484ccfcd", func := "loop.example/g00506/laws.FnExactEqualPhasePolynomial", spec := "fnExactEqualPhasePolynomial", plainKeys := false, apart := false }
def FnExactEqualPhasePolynomialSaid : Prop := fnExactEqualPhasePolynomialRow.holds Try.pinned (OpenSpec.ofChange fnExactEqualPhasePolynomialSpec)

/-- ITS FALSE NEIGHBOUR: 'it returns false'. Refute it at one input. -/
def fnExactEqualPhasePolynomialWrong : ChangeSpec := { name := "fnExactEqualPhasePolynomial", fn := fun _ => fun
  | [d1, d2] => { results := [.lit (.bool false)], args := [d1, d2] }
  | _ => none }
def FnExactEqualPhasePolynomialWrongFalsely : Prop := fnExactEqualPhasePolynomialRow.holds Try.pinned (OpenSpec.ofChange fnExactEqualPhasePolynomialWrong)

/-- 'laws.FnExactPhasePolynomialApplyGate': WHATEVER THE INPUT: true; the input reads as it did. -/
def fnExactPhasePolynomialApplyGateSpec : ChangeSpec := { name := "fnExactPhasePolynomialApplyGate", fn := fun _ => fun
  | [d1, d2] => { results := [.lit (.bool true)], args := [d1, d2] }
  | _ => none }
def fnExactPhasePolynomialApplyGateRow : OpenClaim := { program := "ythfacfnknpomcaa", sum := "8df9b7c6bb475252c598fa76cda7b9f46e734007a1400ec608a5df3c484ccfcd", func := "loop.example/g00506/laws.FnExactPhasePolynomialApplyGate", spec := "fnExactPhasePolynomialApplyGate", plainKeys := false, apart := false }
def FnExactPhasePolynomialApplyGateSaid : Prop := fnExactPhasePolynomialApplyGateRow.holds Try.pinned (OpenSpec.ofChange fnExactPhasePolynomialApplyGateSpec)

/-- ITS FALSE NEIGHBOUR: 'it returns false'. Refute it at one input. -/
def fnExactPhasePolynomialApplyGateWrong : ChangeSpec := { name := "fnExactPhasePolynomialApplyGate", fn := fun _ => fun
  | [d1, d2] => { results := [.lit (.bool false)], args := [d1, d2] }
  | _ => none }
def FnExactPhasePolynomialApplyGateWrongFalsely : Prop := fnExactPhasePolynomialApplyGateRow.holds Try.pinned (OpenSpec.ofChange fnExactPhasePolynomialApplyGateWrong)

/-- 'laws.FnExactEvalPhasePolynomial': WHATEVER THE INPUT: true; the input reads as it did. -/
def fnExactEvalPhasePolynomialSpec : ChangeSpec := { name := "fnExactEvalPhasePolynomial", fn := fun _ => fun
  | [d1, d2] => { results := [.lit (.bool true)], args := [d1, d2] }
  | _ => none }
def fnExactEvalPhasePolynomialRow : OpenClaim := { program := "ythfacfnknpomcaa", sum := "8df9b7c6bb475252c598fa76cda7b9f46e734007a1400ec608a5df3c484ccfcd", func := "loop.example/g00506/laws.FnExactEvalPhasePolynomial", spec := "fnExactEvalPhasePolynomial", plainKeys := false, apart := false }
def FnExactEvalPhasePolynomialSaid : Prop := fnExactEvalPhasePolynomialRow.holds Try.pinned (OpenSpec.ofChange fnExactEvalPhasePolynomialSpec)

/-- ITS FALSE NEIGHBOUR: 'it returns false'. Refute it at one input. -/
def fnExactEvalPhasePolynomialWrong : ChangeSpec := { name := "fnExactEvalPhasePolynomial", fn := fun _ => fun
  | [d1, d2] => { results := [.lit (.bool false)], args := [d1, d2] }
  | _ => none }
def FnExactEvalPhasePolynomialWrongFalsely : Prop := fnExactEvalPhasePolynomialRow.holds Try.pinned (OpenSpec.ofChange fnExactEvalPhasePolynomialWrong)

/-- 'laws.FnExactFoldPhases': WHATEVER THE INPUT: true; the input reads as it did. -/
def fnExactFoldPhasesSpec : ChangeSpec := { name := "fnExactFoldPhases", fn := fun _ => fun
  | [d1, d2] => { results := [.lit (.bool true)], args := [d1, d2] }
  | _ => none }
def fnExactFoldPhasesRow : OpenClaim := { program := "ythfacfnknpomcaa", sum := "8df9b7c6bb475252c598fa76cda7b9f46e734007a1400ec608a5df3c484ccfcd", func := "loop.example/g00506/laws.FnExactFoldPhases", spec := "fnExactFoldPhases", plainKeys := false, apart := false }
def FnExactFoldPhasesSaid : Prop := fnExactFoldPhasesRow.holds Try.pinned (OpenSpec.ofChange fnExactFoldPhasesSpec)

/-- ITS FALSE NEIGHBOUR: 'it returns false'. Refute it at one input. -/
def fnExactFoldPhasesWrong : ChangeSpec := { name := "fnExactFoldPhases", fn := fun _ => fun
  | [d1, d2] => { results := [.lit (.bool false)], args := [d1, d2] }
  | _ => none }
def FnExactFoldPhasesWrongFalsely : Prop := fnExactFoldPhasesRow.holds Try.pinned (OpenSpec.ofChange fnExactFoldPhasesWrong)

/-- 'laws.FnExactFoldAllPhases': WHATEVER THE INPUT: true; the input reads as it did. -/
def fnExactFoldAllPhasesSpec : ChangeSpec := { name := "fnExactFoldAllPhases", fn := fun _ => fun
  | [d1, d2] => { results := [.lit (.bool true)], args := [d1, d2] }
  | _ => none }
def fnExactFoldAllPhasesRow : OpenClaim := { program := "ythfacfnknpomcaa", sum := "8df9b7c6bb475252c598fa76cda7b9f46e734007a1400ec608a5df3c484ccfcd", func := "loop.example/g00506/laws.FnExactFoldAllPhases", spec := "fnExactFoldAllPhases", plainKeys := false, apart := false }
def FnExactFoldAllPhasesSaid : Prop := fnExactFoldAllPhasesRow.holds Try.pinned (OpenSpec.ofChange fnExactFoldAllPhasesSpec)

/-- ITS FALSE NEIGHBOUR: 'it returns false'. Refute it at one input. -/
def fnExactFoldAllPhasesWrong : ChangeSpec := { name := "fnExactFoldAllPhases", fn := fun _ => fun
  | [d1, d2] => { results := [.lit (.bool false)], args := [d1, d2] }
  | _ => none }
def FnExactFoldAllPhasesWrongFalsely : Prop := fnExactFoldAllPhasesRow.holds Try.pinned (OpenSpec.ofChange fnExactFoldAllPhasesWrong)

/-- 'laws.FnExactPhasePolynomialMatrix': WHATEVER THE INPUT: true; the input reads as it did. -/
def fnExactPhasePolynomialMatrixSpec : ChangeSpec := { name := "fnExactPhasePolynomialMatrix", fn := fun _ => fun
  | [d] => { results := [.lit (.bool true)], args := [d] }
  | _ => none }
def fnExactPhasePolynomialMatrixRow : OpenClaim := { program := "ythfacfnknpomcaa", sum := "8df9b7c6bb475252c598fa76cda7b9f46e734007a1400ec608a5df3c484ccfcd", func := "loop.example/g00506/laws.FnExactPhasePolynomialMatrix", spec := "fnExactPhasePolynomialMatrix", plainKeys := false, apart := false }
def FnExactPhasePolynomialMatrixSaid : Prop := fnExactPhasePolynomialMatrixRow.holds Try.pinned (OpenSpec.ofChange fnExactPhasePolynomialMatrixSpec)

/-- ITS FALSE NEIGHBOUR: 'it returns false'. Refute it at one input. -/
def fnExactPhasePolynomialMatrixWrong : ChangeSpec := { name := "fnExactPhasePolynomialMatrix", fn := fun _ => fun
  | [d] => { results := [.lit (.bool false)], args := [d] }
  | _ => none }
def FnExactPhasePolynomialMatrixWrongFalsely : Prop := fnExactPhasePolynomialMatrixRow.holds Try.pinned (OpenSpec.ofChange fnExactPhasePolynomialMatrixWrong)

/-- 'laws.FnSections': WHATEVER THE INPUT: true; the input reads as it did. -/
def fnSectionsSpec : ChangeSpec := { name := "fnSections", fn := fun _ => fun
  | [d] => { results := [.lit (.bool true)], args := [d] }
  | _ => none }
def fnSectionsRow : OpenClaim := { program := "ythfacfnknpomcaa", sum := "8df9b7c6bb475252c598fa76cda7b9f46e734007a1400ec608a5df3c484ccfcd", func := "loop.example/g00506/laws.FnSections", spec := "fnSections", plainKeys := false, apart := false }
def FnSectionsSaid : Prop := fnSectionsRow.holds Try.pinned (OpenSpec.ofChange fnSectionsSpec)

/-- ITS FALSE NEIGHBOUR: 'it returns false'. Refute it at one input. -/
def fnSectionsWrong : ChangeSpec := { name := "fnSections", fn := fun _ => fun
  | [d] => { results := [.lit (.bool false)], args := [d] }
  | _ => none }
def FnSectionsWrongFalsely : Prop := fnSectionsRow.holds Try.pinned (OpenSpec.ofChange fnSectionsWrong)

/-- 'laws.FnPolyAt': WHATEVER THE INPUT: true; the input reads as it did. -/
def fnPolyAtSpec : ChangeSpec := { name := "fnPolyAt", fn := fun _ => fun
  | [d] => { results := [.lit (.bool true)], args := [d] }
  | _ => none }
def fnPolyAtRow : OpenClaim := { program := "ythfacfnknpomcaa", sum := "8df9b7c6bb475252c598fa76cda7b9f46e734007a1400ec608a5df3c484ccfcd", func := "loop.example/g00506/laws.FnPolyAt", spec := "fnPolyAt", plainKeys := false, apart := false }
def FnPolyAtSaid : Prop := fnPolyAtRow.holds Try.pinned (OpenSpec.ofChange fnPolyAtSpec)

/-- ITS FALSE NEIGHBOUR: 'it returns false'. Refute it at one input. -/
def fnPolyAtWrong : ChangeSpec := { name := "fnPolyAt", fn := fun _ => fun
  | [d] => { results := [.lit (.bool false)], args := [d] }
  | _ => none }
def FnPolyAtWrongFalsely : Prop := fnPolyAtRow.holds Try.pinned (OpenSpec.ofChange fnPolyAtWrong)

/-- 'laws.FnFold': WHATEVER THE INPUT: true; the input reads as it did. -/
def fnFoldSpec : ChangeSpec := { name := "fnFold", fn := fun _ => fun
  | [d] => { results := [.lit (.bool true)], args := [d] }
  | _ => none }
def fnFoldRow : OpenClaim := { program := "ythfacfnknpomcaa", sum := "8df9b7c6bb475252c598fa76cda7b9f46e734007a1400ec608a5df3c484ccfcd", func := "loop.example/g00506/laws.FnFold", spec := "fnFold", plainKeys := false, apart := false }
def FnFoldSaid : Prop := fnFoldRow.holds Try.pinned (OpenSpec.ofChange fnFoldSpec)

/-- ITS FALSE NEIGHBOUR: 'it returns false'. Refute it at one input. -/
def fnFoldWrong : ChangeSpec := { name := "fnFold", fn := fun _ => fun
  | [d] => { results := [.lit (.bool false)], args := [d] }
  | _ => none }
def FnFoldWrongFalsely : Prop := fnFoldRow.holds Try.pinned (OpenSpec.ofChange fnFoldWrong)

/-- 'laws.FnFar': WHATEVER THE INPUT: true; the input reads as it did. -/
def fnFarSpec : ChangeSpec := { name := "fnFar", fn := fun _ => fun
  | [d] => { results := [.lit (.bool true)], args := [d] }
  | _ => none }
def fnFarRow : OpenClaim := { program := "ythfacfnknpomcaa", sum := "8df9b7c6bb475252c598fa76cda7b9f46e734007a1400ec608a5df3c484ccfcd", func := "loop.example/g00506/laws.FnFar", spec := "fnFar", plainKeys := false, apart := false }
def FnFarSaid : Prop := fnFarRow.holds Try.pinned (OpenSpec.ofChange fnFarSpec)

/-- ITS FALSE NEIGHBOUR: 'it returns false'. Refute it at one input. -/
def fnFarWrong : ChangeSpec := { name := "fnFar", fn := fun _ => fun
  | [d] => { results := [.lit (.bool false)], args := [d] }
  | _ => none }
def FnFarWrongFalsely : Prop := fnFarRow.holds Try.pinned (OpenSpec.ofChange fnFarWrong)

/-- 'laws.FnGraph': WHATEVER THE INPUT: true; the input reads as it did. -/
def fnGraphSpec : ChangeSpec := { name := "fnGraph", fn := fun _ => fun
  | [d] => { results := [.lit (.bool true)], args := [d] }
  | _ => none }
def fnGraphRow : OpenClaim := { program := "ythfacfnknpomcaa", sum := "8df9b7c6bb475252c598fa76cda7b9f46e734007a1400ec608a5df3c484ccfcd", func := "loop.example/g00506/laws.FnGraph", spec := "fnGraph", plainKeys := false, apart := false }
def FnGraphSaid : Prop := fnGraphRow.holds Try.pinned (OpenSpec.ofChange fnGraphSpec)

/-- ITS FALSE NEIGHBOUR: 'it returns false'. Refute it at one input. -/
def fnGraphWrong : ChangeSpec := { name := "fnGraph", fn := fun _ => fun
  | [d] => { results := [.lit (.bool false)], args := [d] }
  | _ => none }
def FnGraphWrongFalsely : Prop := fnGraphRow.holds Try.pinned (OpenSpec.ofChange fnGraphWrong)

/-- 'laws.FnCost': WHATEVER THE INPUT: true; the input reads as it did. -/
def fnCostSpec : ChangeSpec := { name := "fnCost", fn := fun _ => fun
  | [d] => { results := [.lit (.bool true)], args := [d] }
  | _ => none }
def fnCostRow : OpenClaim := { program := "ythfacfnknpomcaa", sum := "8df9b7c6bb475252c598fa76cda7b9f46e734007a1400ec608a5df3c484ccfcd", func := "loop.example/g00506/laws.FnCost", spec := "fnCost", plainKeys := false, apart := false }
def FnCostSaid : Prop := fnCostRow.holds Try.pinned (OpenSpec.ofChange fnCostSpec)

/-- ITS FALSE NEIGHBOUR: 'it returns false'. Refute it at one input. -/
def fnCostWrong : ChangeSpec := { name := "fnCost", fn := fun _ => fun
  | [d] => { results := [.lit (.bool false)], args := [d] }
  | _ => none }
def FnCostWrongFalsely : Prop := fnCostRow.holds Try.pinned (OpenSpec.ofChange fnCostWrong)

/- THE SECOND FORM. 'bulk': how many values and letters a reading holds, each counted each time it is reached (what is shared counts as often as it is met; a slice's spare places count too). A statement '..UptoSaid' is the law's where the arguments, and the package variables that the reading takes, are together of bulk at most 1048576: NARROWER than '..Said'. Prove '..Said' where nothing that the law and all that it calls make is longer than what came in: it says more and counts as full. Else prove '..UptoSaid'. A law counts once. -/
mutual
def uptoBulk {H : Type} : DataW H → Nat
  | .lit (.string bytes) => bytes.length + 1
  | .lit _ => 1
  | .nil => 1
  | .ptr d => uptoBulk d + 1
  | .slice elems spare => uptoBulkAll elems + uptoBulkAll spare + 1
  | .agg parts => uptoBulkAll parts + 1
  | .iface _ d => uptoBulk d + 1
  | .map entries => uptoBulkEntries entries + 1
  | .held _ => 1
def uptoBulkAll {H : Type} : List (DataW H) → Nat
  | [] => 0
  | d :: r => uptoBulk d + uptoBulkAll r
def uptoBulkEntries {H : Type} : List (Lit × DataW H) → Nat
  | [] => 0
  | x :: r => uptoBulkEntry x + uptoBulkEntries r
def uptoBulkEntry {H : Type} : Lit × DataW H → Nat
  | (.string bytes, d) => bytes.length + uptoBulk d + 1
  | (_, d) => uptoBulk d + 1
 end
def uptoSmall : (H : Type) → List (DataW H) → Bool := fun _ ds => decide (uptoBulkAll ds ≤ 1048576)
def OpenSpec.upto (s : _root_.Go.ChangeSpec) : _root_.Go.OpenSpec := { _root_.Go.OpenSpec.ofChange s with cond := some uptoSmall }

/-- 'laws.FnExactEqualPhasePolynomial', WHERE WHAT IT READS IS OF BULK AT MOST 1048576: true; the input reads as it did. -/
def fnExactEqualPhasePolynomialUptoRow : OpenClaim := { program := "ythfacfnknpomcaa", sum := "8df9b7c6bb475252c598fa76cda7b9f46e734007a1400ec608a5df3c484ccfcd", func := "loop.example/g00506/laws.FnExactEqualPhasePolynomial", spec := "fnExactEqualPhasePolynomial", plainKeys := false, apart := false, narrowed := true }
def FnExactEqualPhasePolynomialUptoSaid : Prop := fnExactEqualPhasePolynomialUptoRow.holds Try.pinned (OpenSpec.upto fnExactEqualPhasePolynomialSpec)

/-- 'laws.FnExactPhasePolynomialApplyGate', WHERE WHAT IT READS IS OF BULK AT MOST 1048576: true; the input reads as it did. -/
def fnExactPhasePolynomialApplyGateUptoRow : OpenClaim := { program := "ythfacfnknpomcaa", sum := "8df9b7c6bb475252c598fa76cda7b9f46e734007a1400ec608a5df3c484ccfcd", func := "loop.example/g00506/laws.FnExactPhasePolynomialApplyGate", spec := "fnExactPhasePolynomialApplyGate", plainKeys := false, apart := false, narrowed := true }
def FnExactPhasePolynomialApplyGateUptoSaid : Prop := fnExactPhasePolynomialApplyGateUptoRow.holds Try.pinned (OpenSpec.upto fnExactPhasePolynomialApplyGateSpec)

/-- 'laws.FnExactEvalPhasePolynomial', WHERE WHAT IT READS IS OF BULK AT MOST 1048576: true; the input reads as it did. -/
def fnExactEvalPhasePolynomialUptoRow : OpenClaim := { program := "ythfacfnknpomcaa", sum := "8df9b7c6bb475252c598fa76cda7b9f46e734007a1400ec608a5df3c484ccfcd", func := "loop.example/g00506/laws.FnExactEvalPhasePolynomial", spec := "fnExactEvalPhasePolynomial", plainKeys := false, apart := false, narrowed := true }
def FnExactEvalPhasePolynomialUptoSaid : Prop := fnExactEvalPhasePolynomialUptoRow.holds Try.pinned (OpenSpec.upto fnExactEvalPhasePolynomialSpec)

/-- 'laws.FnExactFoldPhases', WHERE WHAT IT READS IS OF BULK AT MOST 1048576: true; the input reads as it did. -/
def fnExactFoldPhasesUptoRow : OpenClaim := { program := "ythfacfnknpomcaa", sum := "8df9b7c6bb475252c598fa76cda7b9f46e734007a1400ec608a5df3c484ccfcd", func := "loop.example/g00506/laws.FnExactFoldPhases", spec := "fnExactFoldPhases", plainKeys := false, apart := false, narrowed := true }
def FnExactFoldPhasesUptoSaid : Prop := fnExactFoldPhasesUptoRow.holds Try.pinned (OpenSpec.upto fnExactFoldPhasesSpec)

/-- 'laws.FnExactFoldAllPhases', WHERE WHAT IT READS IS OF BULK AT MOST 1048576: true; the input reads as it did. -/
def fnExactFoldAllPhasesUptoRow : OpenClaim := { program := "ythfacfnknpomcaa", sum := "8df9b7c6bb475252c598fa76cda7b9f46e734007a1400ec608a5df3c484ccfcd", func := "loop.example/g00506/laws.FnExactFoldAllPhases", spec := "fnExactFoldAllPhases", plainKeys := false, apart := false, narrowed := true }
def FnExactFoldAllPhasesUptoSaid : Prop := fnExactFoldAllPhasesUptoRow.holds Try.pinned (OpenSpec.upto fnExactFoldAllPhasesSpec)

/-- 'laws.FnExactPhasePolynomialMatrix', WHERE WHAT IT READS IS OF BULK AT MOST 1048576: true; the input reads as it did. -/
def fnExactPhasePolynomialMatrixUptoRow : OpenClaim := { program := "ythfacfnknpomcaa", sum := "8df9b7c6bb475252c598fa76cda7b9f46e734007a1400ec608a5df3c484ccfcd", func := "loop.example/g00506/laws.FnExactPhasePolynomialMatrix", spec := "fnExactPhasePolynomialMatrix", plainKeys := false, apart := false, narrowed := true }
def FnExactPhasePolynomialMatrixUptoSaid : Prop := fnExactPhasePolynomialMatrixUptoRow.holds Try.pinned (OpenSpec.upto fnExactPhasePolynomialMatrixSpec)

/-- 'laws.FnSections', WHERE WHAT IT READS IS OF BULK AT MOST 1048576: true; the input reads as it did. -/
def fnSectionsUptoRow : OpenClaim := { program := "ythfacfnknpomcaa", sum := "8df9b7c6bb475252c598fa76cda7b9f46e734007a1400ec608a5df3c484ccfcd", func := "loop.example/g00506/laws.FnSections", spec := "fnSections", plainKeys := false, apart := false, narrowed := true }
def FnSectionsUptoSaid : Prop := fnSectionsUptoRow.holds Try.pinned (OpenSpec.upto fnSectionsSpec)

/-- 'laws.FnPolyAt', WHERE WHAT IT READS IS OF BULK AT MOST 1048576: true; the input reads as it did. -/
def fnPolyAtUptoRow : OpenClaim := { program := "ythfacfnknpomcaa", sum := "8df9b7c6bb475252c598fa76cda7b9f46e734007a1400ec608a5df3c484ccfcd", func := "loop.example/g00506/laws.FnPolyAt", spec := "fnPolyAt", plainKeys := false, apart := false, narrowed := true }
def FnPolyAtUptoSaid : Prop := fnPolyAtUptoRow.holds Try.pinned (OpenSpec.upto fnPolyAtSpec)

/-- 'laws.FnFold', WHERE WHAT IT READS IS OF BULK AT MOST 1048576: true; the input reads as it did. -/
def fnFoldUptoRow : OpenClaim := { program := "ythfacfnknpomcaa", sum := "8df9b7c6bb475252c598fa76cda7b9f46e734007a1400ec608a5df3c484ccfcd", func := "loop.example/g00506/laws.FnFold", spec := "fnFold", plainKeys := false, apart := false, narrowed := true }
def FnFoldUptoSaid : Prop := fnFoldUptoRow.holds Try.pinned (OpenSpec.upto fnFoldSpec)

/-- 'laws.FnFar', WHERE WHAT IT READS IS OF BULK AT MOST 1048576: true; the input reads as it did. -/
def fnFarUptoRow : OpenClaim := { program := "ythfacfnknpomcaa", sum := "8df9b7c6bb475252c598fa76cda7b9f46e734007a1400ec608a5df3c484ccfcd", func := "loop.example/g00506/laws.FnFar", spec := "fnFar", plainKeys := false, apart := false, narrowed := true }
def FnFarUptoSaid : Prop := fnFarUptoRow.holds Try.pinned (OpenSpec.upto fnFarSpec)

/-- 'laws.FnGraph', WHERE WHAT IT READS IS OF BULK AT MOST 1048576: true; the input reads as it did. -/
def fnGraphUptoRow : OpenClaim := { program := "ythfacfnknpomcaa", sum := "8df9b7c6bb475252c598fa76cda7b9f46e734007a1400ec608a5df3c484ccfcd", func := "loop.example/g00506/laws.FnGraph", spec := "fnGraph", plainKeys := false, apart := false, narrowed := true }
def FnGraphUptoSaid : Prop := fnGraphUptoRow.holds Try.pinned (OpenSpec.upto fnGraphSpec)

/-- 'laws.FnCost', WHERE WHAT IT READS IS OF BULK AT MOST 1048576: true; the input reads as it did. -/
def fnCostUptoRow : OpenClaim := { program := "ythfacfnknpomcaa", sum := "8df9b7c6bb475252c598fa76cda7b9f46e734007a1400ec608a5df3c484ccfcd", func := "loop.example/g00506/laws.FnCost", spec := "fnCost", plainKeys := false, apart := false, narrowed := true }
def FnCostUptoSaid : Prop := fnCostUptoRow.holds Try.pinned (OpenSpec.upto fnCostSpec)

end Rows
end Go.Proofs.Ythfacfnknpomcaa
