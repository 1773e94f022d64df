/-
  No cell of these rows narrows 'for every input' (looked for: loops, veiled, ifaces, maps, wideKeys, modest, calm, conditions, laid).
  DERIVED. THE GIVEN ROWS OF THIS SEAT. 12 by the template 'for every input the law returns true; each argument reads behind the call as it read before'; 0 by the template 'total and deterministic' (their statements: YtbjpghgnginabaaTotals.lean).
  GIVEN WITH THE SEED: the statements are not yours to turn. If you find one false, say at which input.
  Laid BY PROGRAM, IN A SANDBOX (cutbox-rows.mjs): the forced cells as the released guide's own fill.sh prints them over the translation 437438710c8020aa… (all of the seat's roots in one cut). By AI agents, Wed Nov 11 2026. No macro, syntax, notation, axiom, sorry.
-/
import Derived.Test.YtbjpghgnginabaaChecked
import GoSem.Claim
import GoSem.ClaimJoined
import GoSem.ClaimMapViews
import Derived.JoinedTies
import Derived.KernelRfl
namespace Go.Proofs.Ytbjpghgnginabaa
/- THE CELL 'sum', in the pinned program and in every row, IS THE sha256 OF THE DUMP (.gsa) THAT YtbjpghgnginabaaProg.lean LOADS. Nothing in Lean hashes anything: it is a label: what it is worth is what the hold of that sum in a sandbox is worth. -/
noncomputable def Try.pinned : Pinned := { name := "ytbjpghgnginabaa", sum := "437438710c8020aa3916c54ead24dbad56a0434d1312ff4f312ed3e3dd366ffe", checked := Try.checked }
namespace Rows
def none {H : Type} : Left H := { results := [], args := [] }

/-- 'laws.FnExactIdentityPhasePolynomial': WHATEVER THE INPUT: true; the input reads as it did. -/
def fnExactIdentityPhasePolynomialSpec : ChangeSpec := { name := "fnExactIdentityPhasePolynomial", fn := fun _ => fun
  | [d] => { results := [.lit (.bool true)], args := [d] }
  | _ => none }
def fnExactIdentityPhasePolynomialRow : OpenClaim := { program := "ytbjpghgnginabaa", sum := "437438710c8020aa3916c54ead24dbad56a0434d1312ff4f312ed3e3dd366ffe", func := "loop.example/g00506/laws.FnExactIdentityPhasePolynomial", spec := "fnExactIdentityPhasePolynomial", apart := false }
def FnExactIdentityPhasePolynomialSaid : Prop := fnExactIdentityPhasePolynomialRow.holds Try.pinned (OpenSpec.ofChange fnExactIdentityPhasePolynomialSpec)

/-- ITS FALSE NEIGHBOUR: 'it returns false'. Refute it at one input. -/
def fnExactIdentityPhasePolynomialWrong : ChangeSpec := { name := "fnExactIdentityPhasePolynomial", fn := fun _ => fun
  | [d] => { results := [.lit (.bool false)], args := [d] }
  | _ => none }
def FnExactIdentityPhasePolynomialWrongFalsely : Prop := fnExactIdentityPhasePolynomialRow.holds Try.pinned (OpenSpec.ofChange fnExactIdentityPhasePolynomialWrong)

/-- 'laws.FnExactEqualPhasePolynomial': WHATEVER THE INPUT: true; the input reads as it did. -/
def fnExactEqualPhasePolynomialSpec : ChangeSpec := { name := "fnExactEqualPhasePolynomial", fn := fun _ => fun
  | [d1, d2] => { results := [.lit (.bool true)], args := [d1, d2] }
  | _ => none }
def fnExactEqualPhasePolynomialRow : OpenClaim := { program := "ytbjpghgnginabaa", sum := "437438710c8020aa3916c54ead24dbad56a0434d1312ff4f312ed3e3dd366ffe", func := "loop.example/g00506/laws.FnExactEqualPhasePolynomial", spec := "fnExactEqualPhasePolynomial", apart := false }
def FnExactEqualPhasePolynomialSaid : Prop := fnExactEqualPhasePolynomialRow.holds Try.pinned (OpenSpec.ofChange fnExactEqualPhasePolynomialSpec)

/-- ITS FALSE NEIGHBOUR: 'it returns false'. Refute it at one input. -/
def fnExactEqualPhasePolynomialWrong : ChangeSpec := { name := "fnExactEqualPhasePolynomial", fn := fun _ => fun
  | [d1, d2] => { results := [.lit (.bool false)], args := [d1, d2] }
  | _ => none }
def FnExactEqualPhasePolynomialWrongFalsely : Prop := fnExactEqualPhasePolynomialRow.holds Try.pinned (OpenSpec.ofChange fnExactEqualPhasePolynomialWrong)

/-- 'laws.FnSections': WHATEVER THE INPUT: true; the input reads as it did. -/
def fnSectionsSpec : ChangeSpec := { name := "fnSections", fn := fun _ => fun
  | [d] => { results := [.lit (.bool true)], args := [d] }
  | _ => none }
def fnSectionsRow : OpenClaim := { program := "ytbjpghgnginabaa", sum := "437438710c8020aa3916c54ead24dbad56a0434d1312ff4f312ed3e3dd366ffe", func := "loop.example/g00506/laws.FnSections", spec := "fnSections", apart := false }
def FnSectionsSaid : Prop := fnSectionsRow.holds Try.pinned (OpenSpec.ofChange fnSectionsSpec)

/-- ITS FALSE NEIGHBOUR: 'it returns false'. Refute it at one input. -/
def fnSectionsWrong : ChangeSpec := { name := "fnSections", fn := fun _ => fun
  | [d] => { results := [.lit (.bool false)], args := [d] }
  | _ => none }
def FnSectionsWrongFalsely : Prop := fnSectionsRow.holds Try.pinned (OpenSpec.ofChange fnSectionsWrong)

/-- 'laws.FnExactPhaseSections': WHATEVER THE INPUT: true; the input reads as it did. -/
def fnExactPhaseSectionsSpec : ChangeSpec := { name := "fnExactPhaseSections", fn := fun _ => fun
  | [d] => { results := [.lit (.bool true)], args := [d] }
  | _ => none }
def fnExactPhaseSectionsRow : OpenClaim := { program := "ytbjpghgnginabaa", sum := "437438710c8020aa3916c54ead24dbad56a0434d1312ff4f312ed3e3dd366ffe", func := "loop.example/g00506/laws.FnExactPhaseSections", spec := "fnExactPhaseSections", apart := false }
def FnExactPhaseSectionsSaid : Prop := fnExactPhaseSectionsRow.holds Try.pinned (OpenSpec.ofChange fnExactPhaseSectionsSpec)

/-- ITS FALSE NEIGHBOUR: 'it returns false'. Refute it at one input. -/
def fnExactPhaseSectionsWrong : ChangeSpec := { name := "fnExactPhaseSections", fn := fun _ => fun
  | [d] => { results := [.lit (.bool false)], args := [d] }
  | _ => none }
def FnExactPhaseSectionsWrongFalsely : Prop := fnExactPhaseSectionsRow.holds Try.pinned (OpenSpec.ofChange fnExactPhaseSectionsWrong)

/-- 'laws.FnExactEvalPhasePolynomial': WHATEVER THE INPUT: true; the input reads as it did. -/
def fnExactEvalPhasePolynomialSpec : ChangeSpec := { name := "fnExactEvalPhasePolynomial", fn := fun _ => fun
  | [d1, d2] => { results := [.lit (.bool true)], args := [d1, d2] }
  | _ => none }
def fnExactEvalPhasePolynomialRow : OpenClaim := { program := "ytbjpghgnginabaa", sum := "437438710c8020aa3916c54ead24dbad56a0434d1312ff4f312ed3e3dd366ffe", func := "loop.example/g00506/laws.FnExactEvalPhasePolynomial", spec := "fnExactEvalPhasePolynomial", apart := false }
def FnExactEvalPhasePolynomialSaid : Prop := fnExactEvalPhasePolynomialRow.holds Try.pinned (OpenSpec.ofChange fnExactEvalPhasePolynomialSpec)

/-- ITS FALSE NEIGHBOUR: 'it returns false'. Refute it at one input. -/
def fnExactEvalPhasePolynomialWrong : ChangeSpec := { name := "fnExactEvalPhasePolynomial", fn := fun _ => fun
  | [d1, d2] => { results := [.lit (.bool false)], args := [d1, d2] }
  | _ => none }
def FnExactEvalPhasePolynomialWrongFalsely : Prop := fnExactEvalPhasePolynomialRow.holds Try.pinned (OpenSpec.ofChange fnExactEvalPhasePolynomialWrong)

/-- 'laws.FnPolyAt': WHATEVER THE INPUT: true; the input reads as it did. -/
def fnPolyAtSpec : ChangeSpec := { name := "fnPolyAt", fn := fun _ => fun
  | [d] => { results := [.lit (.bool true)], args := [d] }
  | _ => none }
def fnPolyAtRow : OpenClaim := { program := "ytbjpghgnginabaa", sum := "437438710c8020aa3916c54ead24dbad56a0434d1312ff4f312ed3e3dd366ffe", func := "loop.example/g00506/laws.FnPolyAt", spec := "fnPolyAt", apart := false }
def FnPolyAtSaid : Prop := fnPolyAtRow.holds Try.pinned (OpenSpec.ofChange fnPolyAtSpec)

/-- ITS FALSE NEIGHBOUR: 'it returns false'. Refute it at one input. -/
def fnPolyAtWrong : ChangeSpec := { name := "fnPolyAt", fn := fun _ => fun
  | [d] => { results := [.lit (.bool false)], args := [d] }
  | _ => none }
def FnPolyAtWrongFalsely : Prop := fnPolyAtRow.holds Try.pinned (OpenSpec.ofChange fnPolyAtWrong)

/-- 'laws.FnExactPhasePolynomialApplyGate': WHATEVER THE INPUT: true; the input reads as it did. -/
def fnExactPhasePolynomialApplyGateSpec : ChangeSpec := { name := "fnExactPhasePolynomialApplyGate", fn := fun _ => fun
  | [d1, d2] => { results := [.lit (.bool true)], args := [d1, d2] }
  | _ => none }
def fnExactPhasePolynomialApplyGateRow : OpenClaim := { program := "ytbjpghgnginabaa", sum := "437438710c8020aa3916c54ead24dbad56a0434d1312ff4f312ed3e3dd366ffe", func := "loop.example/g00506/laws.FnExactPhasePolynomialApplyGate", spec := "fnExactPhasePolynomialApplyGate", apart := false }
def FnExactPhasePolynomialApplyGateSaid : Prop := fnExactPhasePolynomialApplyGateRow.holds Try.pinned (OpenSpec.ofChange fnExactPhasePolynomialApplyGateSpec)

/-- ITS FALSE NEIGHBOUR: 'it returns false'. Refute it at one input. -/
def fnExactPhasePolynomialApplyGateWrong : ChangeSpec := { name := "fnExactPhasePolynomialApplyGate", fn := fun _ => fun
  | [d1, d2] => { results := [.lit (.bool false)], args := [d1, d2] }
  | _ => none }
def FnExactPhasePolynomialApplyGateWrongFalsely : Prop := fnExactPhasePolynomialApplyGateRow.holds Try.pinned (OpenSpec.ofChange fnExactPhasePolynomialApplyGateWrong)

/-- 'laws.FnExactPhasePolynomialMatrix': WHATEVER THE INPUT: true; the input reads as it did. -/
def fnExactPhasePolynomialMatrixSpec : ChangeSpec := { name := "fnExactPhasePolynomialMatrix", fn := fun _ => fun
  | [d] => { results := [.lit (.bool true)], args := [d] }
  | _ => none }
def fnExactPhasePolynomialMatrixRow : OpenClaim := { program := "ytbjpghgnginabaa", sum := "437438710c8020aa3916c54ead24dbad56a0434d1312ff4f312ed3e3dd366ffe", func := "loop.example/g00506/laws.FnExactPhasePolynomialMatrix", spec := "fnExactPhasePolynomialMatrix", apart := false }
def FnExactPhasePolynomialMatrixSaid : Prop := fnExactPhasePolynomialMatrixRow.holds Try.pinned (OpenSpec.ofChange fnExactPhasePolynomialMatrixSpec)

/-- ITS FALSE NEIGHBOUR: 'it returns false'. Refute it at one input. -/
def fnExactPhasePolynomialMatrixWrong : ChangeSpec := { name := "fnExactPhasePolynomialMatrix", fn := fun _ => fun
  | [d] => { results := [.lit (.bool false)], args := [d] }
  | _ => none }
def FnExactPhasePolynomialMatrixWrongFalsely : Prop := fnExactPhasePolynomialMatrixRow.holds Try.pinned (OpenSpec.ofChange fnExactPhasePolynomialMatrixWrong)

/-- 'laws.FnExactFoldPhases': WHATEVER THE INPUT: true; the input reads as it did. -/
def fnExactFoldPhasesSpec : ChangeSpec := { name := "fnExactFoldPhases", fn := fun _ => fun
  | [d1, d2] => { results := [.lit (.bool true)], args := [d1, d2] }
  | _ => none }
def fnExactFoldPhasesRow : OpenClaim := { program := "ytbjpghgnginabaa", sum := "437438710c8020aa3916c54ead24dbad56a0434d1312ff4f312ed3e3dd366ffe", func := "loop.example/g00506/laws.FnExactFoldPhases", spec := "fnExactFoldPhases", apart := false }
def FnExactFoldPhasesSaid : Prop := fnExactFoldPhasesRow.holds Try.pinned (OpenSpec.ofChange fnExactFoldPhasesSpec)

/-- ITS FALSE NEIGHBOUR: 'it returns false'. Refute it at one input. -/
def fnExactFoldPhasesWrong : ChangeSpec := { name := "fnExactFoldPhases", fn := fun _ => fun
  | [d1, d2] => { results := [.lit (.bool false)], args := [d1, d2] }
  | _ => none }
def FnExactFoldPhasesWrongFalsely : Prop := fnExactFoldPhasesRow.holds Try.pinned (OpenSpec.ofChange fnExactFoldPhasesWrong)

/-- 'laws.FnExactComputePhasePolynomial': WHATEVER THE INPUT: true; the input reads as it did. -/
def fnExactComputePhasePolynomialSpec : ChangeSpec := { name := "fnExactComputePhasePolynomial", fn := fun _ => fun
  | [d1, d2] => { results := [.lit (.bool true)], args := [d1, d2] }
  | _ => none }
def fnExactComputePhasePolynomialRow : OpenClaim := { program := "ytbjpghgnginabaa", sum := "437438710c8020aa3916c54ead24dbad56a0434d1312ff4f312ed3e3dd366ffe", func := "loop.example/g00506/laws.FnExactComputePhasePolynomial", spec := "fnExactComputePhasePolynomial", apart := false }
def FnExactComputePhasePolynomialSaid : Prop := fnExactComputePhasePolynomialRow.holds Try.pinned (OpenSpec.ofChange fnExactComputePhasePolynomialSpec)

/-- ITS FALSE NEIGHBOUR: 'it returns false'. Refute it at one input. -/
def fnExactComputePhasePolynomialWrong : ChangeSpec := { name := "fnExactComputePhasePolynomial", fn := fun _ => fun
  | [d1, d2] => { results := [.lit (.bool false)], args := [d1, d2] }
  | _ => none }
def FnExactComputePhasePolynomialWrongFalsely : Prop := fnExactComputePhasePolynomialRow.holds Try.pinned (OpenSpec.ofChange fnExactComputePhasePolynomialWrong)

/-- 'laws.FnExactFoldAllPhases': WHATEVER THE INPUT: true; the input reads as it did. -/
def fnExactFoldAllPhasesSpec : ChangeSpec := { name := "fnExactFoldAllPhases", fn := fun _ => fun
  | [d1, d2] => { results := [.lit (.bool true)], args := [d1, d2] }
  | _ => none }
def fnExactFoldAllPhasesRow : OpenClaim := { program := "ytbjpghgnginabaa", sum := "437438710c8020aa3916c54ead24dbad56a0434d1312ff4f312ed3e3dd366ffe", func := "loop.example/g00506/laws.FnExactFoldAllPhases", spec := "fnExactFoldAllPhases", apart := false }
def FnExactFoldAllPhasesSaid : Prop := fnExactFoldAllPhasesRow.holds Try.pinned (OpenSpec.ofChange fnExactFoldAllPhasesSpec)

/-- ITS FALSE NEIGHBOUR: 'it returns false'. Refute it at one input. -/
def fnExactFoldAllPhasesWrong : ChangeSpec := { name := "fnExactFoldAllPhases", fn := fun _ => fun
  | [d1, d2] => { results := [.lit (.bool false)], args := [d1, d2] }
  | _ => none }
def FnExactFoldAllPhasesWrongFalsely : Prop := fnExactFoldAllPhasesRow.holds Try.pinned (OpenSpec.ofChange fnExactFoldAllPhasesWrong)

/-- 'laws.FnFold': WHATEVER THE INPUT: true; the input reads as it did. -/
def fnFoldSpec : ChangeSpec := { name := "fnFold", fn := fun _ => fun
  | [d] => { results := [.lit (.bool true)], args := [d] }
  | _ => none }
def fnFoldRow : OpenClaim := { program := "ytbjpghgnginabaa", sum := "437438710c8020aa3916c54ead24dbad56a0434d1312ff4f312ed3e3dd366ffe", func := "loop.example/g00506/laws.FnFold", spec := "fnFold", apart := false }
def FnFoldSaid : Prop := fnFoldRow.holds Try.pinned (OpenSpec.ofChange fnFoldSpec)

/-- ITS FALSE NEIGHBOUR: 'it returns false'. Refute it at one input. -/
def fnFoldWrong : ChangeSpec := { name := "fnFold", fn := fun _ => fun
  | [d] => { results := [.lit (.bool false)], args := [d] }
  | _ => none }
def FnFoldWrongFalsely : Prop := fnFoldRow.holds Try.pinned (OpenSpec.ofChange fnFoldWrong)

/- THE SECOND FORM. 'bulk': how many values and letters a reading holds, each counted each time it is reached (what is shared counts as often as it is met; a slice's spare places count too). A statement '..UptoSaid' is the law's where the arguments, and the package variables that the reading takes, are together of bulk at most 1048576: NARROWER than '..Said'. Prove '..Said' where nothing that the law and all that it calls make is longer than what came in: it says more and counts as full. Else prove '..UptoSaid'. A law counts once. -/
mutual
def uptoBulk {H : Type} : DataW H → Nat
  | .lit (.string bytes) => bytes.length + 1
  | .lit _ => 1
  | .nil => 1
  | .ptr d => uptoBulk d + 1
  | .slice elems spare => uptoBulkAll elems + uptoBulkAll spare + 1
  | .agg parts => uptoBulkAll parts + 1
  | .iface _ d => uptoBulk d + 1
  | .map entries => uptoBulkEntries entries + 1
  | .held _ => 1
def uptoBulkAll {H : Type} : List (DataW H) → Nat
  | [] => 0
  | d :: r => uptoBulk d + uptoBulkAll r
def uptoBulkEntries {H : Type} : List (Lit × DataW H) → Nat
  | [] => 0
  | x :: r => uptoBulkEntry x + uptoBulkEntries r
def uptoBulkEntry {H : Type} : Lit × DataW H → Nat
  | (.string bytes, d) => bytes.length + uptoBulk d + 1
  | (_, d) => uptoBulk d + 1
 end
def uptoSmall : (H : Type) → List (DataW H) → Bool := fun _ ds => decide (uptoBulkAll ds ≤ 1048576)
def OpenSpec.upto (s : _root_.Go.ChangeSpec) : _root_.Go.OpenSpec := { _root_.Go.OpenSpec.ofChange s with cond := some uptoSmall }

/-- 'laws.FnExactIdentityPhasePolynomial', WHERE WHAT IT READS IS OF BULK AT MOST 1048576: true; the input reads as it did. -/
def fnExactIdentityPhasePolynomialUptoRow : OpenClaim := { program := "ytbjpghgnginabaa", sum := "437438710c8020aa3916c54ead24dbad56a0434d1312ff4f312ed3e3dd366ffe", func := "loop.example/g00506/laws.FnExactIdentityPhasePolynomial", spec := "fnExactIdentityPhasePolynomial", apart := false, narrowed := true }
def FnExactIdentityPhasePolynomialUptoSaid : Prop := fnExactIdentityPhasePolynomialUptoRow.holds Try.pinned (OpenSpec.upto fnExactIdentityPhasePolynomialSpec)

/-- 'laws.FnExactEqualPhasePolynomial', WHERE WHAT IT READS IS OF BULK AT MOST 1048576: true; the input reads as it did. -/
def fnExactEqualPhasePolynomialUptoRow : OpenClaim := { program := "ytbjpghgnginabaa", sum := "437438710c8020aa3916c54ead24dbad56a0434d1312ff4f312ed3e3dd366ffe", func := "loop.example/g00506/laws.FnExactEqualPhasePolynomial", spec := "fnExactEqualPhasePolynomial", apart := false, narrowed := true }
def FnExactEqualPhasePolynomialUptoSaid : Prop := fnExactEqualPhasePolynomialUptoRow.holds Try.pinned (OpenSpec.upto fnExactEqualPhasePolynomialSpec)

/-- 'laws.FnSections', WHERE WHAT IT READS IS OF BULK AT MOST 1048576: true; the input reads as it did. -/
def fnSectionsUptoRow : OpenClaim := { program := "ytbjpghgnginabaa", sum := "437438710c8020aa3916c54ead24dbad56a0434d1312ff4f312ed3e3dd366ffe", func := "loop.example/g00506/laws.FnSections", spec := "fnSections", apart := false, narrowed := true }
def FnSectionsUptoSaid : Prop := fnSectionsUptoRow.holds Try.pinned (OpenSpec.upto fnSectionsSpec)

/-- 'laws.FnExactPhaseSections', WHERE WHAT IT READS IS OF BULK AT MOST 1048576: true; the input reads as it did. -/
def fnExactPhaseSectionsUptoRow : OpenClaim := { program := "ytbjpghgnginabaa", sum := "437438710c8020aa3916c54ead24dbad56a0434d1312ff4f312ed3e3dd366ffe", func := "loop.example/g00506/laws.FnExactPhaseSections", spec := "fnExactPhaseSections", apart := false, narrowed := true }
def FnExactPhaseSectionsUptoSaid : Prop := fnExactPhaseSectionsUptoRow.holds Try.pinned (OpenSpec.upto fnExactPhaseSectionsSpec)

/-- 'laws.FnExactEvalPhasePolynomial', WHERE WHAT IT READS IS OF BULK AT MOST 1048576: true; the input reads as it did. -/
def fnExactEvalPhasePolynomialUptoRow : OpenClaim := { program := "ytbjpghgnginabaa", sum := "437438710c8020aa3916c54ead24dbad56a0434d1312ff4f312ed3e3dd366ffe", func := "loop.example/g00506/laws.FnExactEvalPhasePolynomial", spec := "fnExactEvalPhasePolynomial", apart := false, narrowed := true }
def FnExactEvalPhasePolynomialUptoSaid : Prop := fnExactEvalPhasePolynomialUptoRow.holds Try.pinned (OpenSpec.upto fnExactEvalPhasePolynomialSpec)

/-- 'laws.FnPolyAt', WHERE WHAT IT READS IS OF BULK AT MOST 1048576: true; the input reads as it did. -/
def fnPolyAtUptoRow : OpenClaim := { program := "ytbjpghgnginabaa", sum := "437438710c8020aa3916c54ead24dbad56a0434d1312ff4f312ed3e3dd366ffe", func := "loop.example/g00506/laws.FnPolyAt", spec := "fnPolyAt", apart := false, narrowed := true }
def FnPolyAtUptoSaid : Prop := fnPolyAtUptoRow.holds Try.pinned (OpenSpec.upto fnPolyAtSpec)

/-- 'laws.FnExactPhasePolynomialApplyGate', WHERE WHAT IT READS IS OF BULK AT MOST 1048576: true; the input reads as it did. -/
def fnExactPhasePolynomialApplyGateUptoRow : OpenClaim := { program := "ytbjpghgnginabaa", sum := "437438710c8020aa3916c54ead24dbad56a0434d1312ff4f312ed3e3dd366ffe", func := "loop.example/g00506/laws.FnExactPhasePolynomialApplyGate", spec := "fnExactPhasePolynomialApplyGate", apart := false, narrowed := true }
def FnExactPhasePolynomialApplyGateUptoSaid : Prop := fnExactPhasePolynomialApplyGateUptoRow.holds Try.pinned (OpenSpec.upto fnExactPhasePolynomialApplyGateSpec)

/-- 'laws.FnExactPhasePolynomialMatrix', WHERE WHAT IT READS IS OF BULK AT MOST 1048576: true; the input reads as it did. -/
def fnExactPhasePolynomialMatrixUptoRow : OpenClaim := { program := "ytbjpghgnginabaa", sum := "437438710c8020aa3916c54ead24dbad56a0434d1312ff4f312ed3e3dd366ffe", func := "loop.example/g00506/laws.FnExactPhasePolynomialMatrix", spec := "fnExactPhasePolynomialMatrix", apart := false, narrowed := true }
def FnExactPhasePolynomialMatrixUptoSaid : Prop := fnExactPhasePolynomialMatrixUptoRow.holds Try.pinned (OpenSpec.upto fnExactPhasePolynomialMatrixSpec)

/-- 'laws.FnExactFoldPhases', WHERE WHAT IT READS IS OF BULK AT MOST 1048576: true; the input reads as it did. -/
def fnExactFoldPhasesUptoRow : OpenClaim := { program := "ytbjpghgnginabaa", sum := "437438710c8020aa3916c54ead24dbad56a0434d1312ff4f312ed3e3dd366ffe", func := "loop.example/g00506/laws.FnExactFoldPhases", spec := "fnExactFoldPhases", apart := false, narrowed := true }
def FnExactFoldPhasesUptoSaid : Prop := fnExactFoldPhasesUptoRow.holds Try.pinned (OpenSpec.upto fnExactFoldPhasesSpec)

/-- 'laws.FnExactComputePhasePolynomial', WHERE WHAT IT READS IS OF BULK AT MOST 1048576: true; the input reads as it did. -/
def fnExactComputePhasePolynomialUptoRow : OpenClaim := { program := "ytbjpghgnginabaa", sum := "437438710c8020aa3916c54ead24dbad56a0434d1312ff4f312ed3e3dd366ffe", func := "loop.example/g00506/laws.FnExactComputePhasePolynomial", spec := "fnExactComputePhasePolynomial", apart := false, narrowed := true }
def FnExactComputePhasePolynomialUptoSaid : Prop := fnExactComputePhasePolynomialUptoRow.holds Try.pinned (OpenSpec.upto fnExactComputePhasePolynomialSpec)

/-- 'laws.FnExactFoldAllPhases', WHERE WHAT IT READS IS OF BULK AT MOST 1048576: true; the input reads as it did. -/
def fnExactFoldAllPhasesUptoRow : OpenClaim := { program := "ytbjpghgnginabaa", sum := "437438710c8020aa3916c54ead24dbad56a0434d1312ff4f312ed3e3dd366ffe", func := "loop.example/g00506/laws.FnExactFoldAllPhases", spec := "fnExactFoldAllPhases", apart := false, narrowed := true }
def FnExactFoldAllPhasesUptoSaid : Prop := fnExactFoldAllPhasesUptoRow.holds Try.pinned (OpenSpec.upto fnExactFoldAllPhasesSpec)

/-- 'laws.FnFold', WHERE WHAT IT READS IS OF BULK AT MOST 1048576: true; the input reads as it did. -/
def fnFoldUptoRow : OpenClaim := { program := "ytbjpghgnginabaa", sum := "437438710c8020aa3916c54ead24dbad56a0434d1312ff4f312ed3e3dd366ffe", func := "loop.example/g00506/laws.FnFold", spec := "fnFold", apart := false, narrowed := true }
def FnFoldUptoSaid : Prop := fnFoldUptoRow.holds Try.pinned (OpenSpec.upto fnFoldSpec)

end Rows
end Go.Proofs.Ytbjpghgnginabaa
