/-
  No cell of these rows narrows 'for every input' (looked for: loops, veiled, ifaces, maps, wideKeys, modest, calm, conditions, laid).
  DERIVED. THE GIVEN ROWS OF THIS SEAT. 5 by the template 'for every input the law returns true; each argument reads behind the call as it read before'; 0 by the template 'total and deterministic' (their statements: YtibhikngiceeeaaTotals.lean).
  GIVEN WITH THE SEED: the statements are not yours to turn. If you find one false, say at which input.
  Laid BY PROGRAM, IN A SANDBOX (cutbox-rows.mjs): the forced cells as the released guide's own fill.sh prints them over the translation 1a1c12e2c4168585… (all of the seat's roots in one cut). By AI agents, Wed Nov 11 2026. No macro, syntax, notation, axiom, sorry.
-/
import Derived.Test.YtibhikngiceeeaaChecked
import GoSem.Claim
import GoSem.ClaimJoined
import GoSem.ClaimMapViews
import Derived.JoinedTies
import Derived.KernelRfl
namespace Go.Proofs.Ytibhikngiceeeaa
/- THE CELL 'sum', in the pinned program and in every row, IS THE sha256 OF THE DUMP (.gsa) THAT YtibhikngiceeeaaProg.lean LOADS. Nothing in Lean hashes anything: it is a label: what it is worth is what the hold of that sum in a sandbox is worth. -/
noncomputable def Try.pinned : Pinned := { name := "ytibhikngiceeeaa", sum := "1a1c12e2c4168585145d876236f9a70090bc0cde80f40af75ee7e8d457030eac", checked := Try.checked }
namespace Rows
def none {H : Type} : Left H := { results := [], args := [] }

/-- 'laws.FnExactPhasePolynomialMatrix': WHATEVER THE INPUT: true; the input reads as it did. -/
def fnExactPhasePolynomialMatrixSpec : ChangeSpec := { name := "fnExactPhasePolynomialMatrix", fn := fun _ => fun
  | [d] => { results := [.lit (.bool true)], args := [d] }
  | _ => none }
def fnExactPhasePolynomialMatrixRow : OpenClaim := { program := "ytibhikngiceeeaa", sum := "1a1c12e2c4168585145d876236f9a70090bc0cde80f40af75ee7e8d457030eac", func := "loop.example/g00506/laws.FnExactPhasePolynomialMatrix", spec := "fnExactPhasePolynomialMatrix", plainKeys := false, apart := false }
def FnExactPhasePolynomialMatrixSaid : Prop := fnExactPhasePolynomialMatrixRow.holds Try.pinned (OpenSpec.ofChange fnExactPhasePolynomialMatrixSpec)

/-- ITS FALSE NEIGHBOUR: 'it returns false'. Refute it at one input. -/
def fnExactPhasePolynomialMatrixWrong : ChangeSpec := { name := "fnExactPhasePolynomialMatrix", fn := fun _ => fun
  | [d] => { results := [.lit (.bool false)], args := [d] }
  | _ => none }
def FnExactPhasePolynomialMatrixWrongFalsely : Prop := fnExactPhasePolynomialMatrixRow.holds Try.pinned (OpenSpec.ofChange fnExactPhasePolynomialMatrixWrong)

/-- 'laws.FnPolySame': WHATEVER THE INPUT: true; the input reads as it did. -/
def fnPolySameSpec : ChangeSpec := { name := "fnPolySame", fn := fun _ => fun
  | [d] => { results := [.lit (.bool true)], args := [d] }
  | _ => none }
def fnPolySameRow : OpenClaim := { program := "ytibhikngiceeeaa", sum := "1a1c12e2c4168585145d876236f9a70090bc0cde80f40af75ee7e8d457030eac", func := "loop.example/g00506/laws.FnPolySame", spec := "fnPolySame", plainKeys := false, apart := false }
def FnPolySameSaid : Prop := fnPolySameRow.holds Try.pinned (OpenSpec.ofChange fnPolySameSpec)

/-- ITS FALSE NEIGHBOUR: 'it returns false'. Refute it at one input. -/
def fnPolySameWrong : ChangeSpec := { name := "fnPolySame", fn := fun _ => fun
  | [d] => { results := [.lit (.bool false)], args := [d] }
  | _ => none }
def FnPolySameWrongFalsely : Prop := fnPolySameRow.holds Try.pinned (OpenSpec.ofChange fnPolySameWrong)

/-- 'laws.FnPoly': WHATEVER THE INPUT: true; the input reads as it did. -/
def fnPolySpec : ChangeSpec := { name := "fnPoly", fn := fun _ => fun
  | [d] => { results := [.lit (.bool true)], args := [d] }
  | _ => none }
def fnPolyRow : OpenClaim := { program := "ytibhikngiceeeaa", sum := "1a1c12e2c4168585145d876236f9a70090bc0cde80f40af75ee7e8d457030eac", func := "loop.example/g00506/laws.FnPoly", spec := "fnPoly", plainKeys := false, apart := false }
def FnPolySaid : Prop := fnPolyRow.holds Try.pinned (OpenSpec.ofChange fnPolySpec)

/-- ITS FALSE NEIGHBOUR: 'it returns false'. Refute it at one input. -/
def fnPolyWrong : ChangeSpec := { name := "fnPoly", fn := fun _ => fun
  | [d] => { results := [.lit (.bool false)], args := [d] }
  | _ => none }
def FnPolyWrongFalsely : Prop := fnPolyRow.holds Try.pinned (OpenSpec.ofChange fnPolyWrong)

/-- 'laws.FnFoldAll': WHATEVER THE INPUT: true; the input reads as it did. -/
def fnFoldAllSpec : ChangeSpec := { name := "fnFoldAll", fn := fun _ => fun
  | [d] => { results := [.lit (.bool true)], args := [d] }
  | _ => none }
def fnFoldAllRow : OpenClaim := { program := "ytibhikngiceeeaa", sum := "1a1c12e2c4168585145d876236f9a70090bc0cde80f40af75ee7e8d457030eac", func := "loop.example/g00506/laws.FnFoldAll", spec := "fnFoldAll", plainKeys := false, apart := false }
def FnFoldAllSaid : Prop := fnFoldAllRow.holds Try.pinned (OpenSpec.ofChange fnFoldAllSpec)

/-- ITS FALSE NEIGHBOUR: 'it returns false'. Refute it at one input. -/
def fnFoldAllWrong : ChangeSpec := { name := "fnFoldAll", fn := fun _ => fun
  | [d] => { results := [.lit (.bool false)], args := [d] }
  | _ => none }
def FnFoldAllWrongFalsely : Prop := fnFoldAllRow.holds Try.pinned (OpenSpec.ofChange fnFoldAllWrong)

/-- 'laws.FnRoute': WHATEVER THE INPUT: true; the input reads as it did. -/
def fnRouteSpec : ChangeSpec := { name := "fnRoute", fn := fun _ => fun
  | [d] => { results := [.lit (.bool true)], args := [d] }
  | _ => none }
def fnRouteRow : OpenClaim := { program := "ytibhikngiceeeaa", sum := "1a1c12e2c4168585145d876236f9a70090bc0cde80f40af75ee7e8d457030eac", func := "loop.example/g00506/laws.FnRoute", spec := "fnRoute", plainKeys := false, apart := false }
def FnRouteSaid : Prop := fnRouteRow.holds Try.pinned (OpenSpec.ofChange fnRouteSpec)

/-- ITS FALSE NEIGHBOUR: 'it returns false'. Refute it at one input. -/
def fnRouteWrong : ChangeSpec := { name := "fnRoute", fn := fun _ => fun
  | [d] => { results := [.lit (.bool false)], args := [d] }
  | _ => none }
def FnRouteWrongFalsely : Prop := fnRouteRow.holds Try.pinned (OpenSpec.ofChange fnRouteWrong)

/- THE SECOND FORM. 'bulk': how many values and letters a reading holds, each counted each time it is reached (what is shared counts as often as it is met; a slice's spare places count too). A statement '..UptoSaid' is the law's where the arguments, and the package variables that the reading takes, are together of bulk at most 1048576: NARROWER than '..Said'. Prove '..Said' where nothing that the law and all that it calls make is longer than what came in: it says more and counts as full. Else prove '..UptoSaid'. A law counts once. -/
mutual
def uptoBulk {H : Type} : DataW H → Nat
  | .lit (.string bytes) => bytes.length + 1
  | .lit _ => 1
  | .nil => 1
  | .ptr d => uptoBulk d + 1
  | .slice elems spare => uptoBulkAll elems + uptoBulkAll spare + 1
  | .agg parts => uptoBulkAll parts + 1
  | .iface _ d => uptoBulk d + 1
  | .map entries => uptoBulkEntries entries + 1
  | .held _ => 1
def uptoBulkAll {H : Type} : List (DataW H) → Nat
  | [] => 0
  | d :: r => uptoBulk d + uptoBulkAll r
def uptoBulkEntries {H : Type} : List (Lit × DataW H) → Nat
  | [] => 0
  | x :: r => uptoBulkEntry x + uptoBulkEntries r
def uptoBulkEntry {H : Type} : Lit × DataW H → Nat
  | (.string bytes, d) => bytes.length + uptoBulk d + 1
  | (_, d) => uptoBulk d + 1
 end
def uptoSmall : (H : Type) → List (DataW H) → Bool := fun _ ds => decide (uptoBulkAll ds ≤ 1048576)
def OpenSpec.upto (s : _root_.Go.ChangeSpec) : _root_.Go.OpenSpec := { _root_.Go.OpenSpec.ofChange s with cond := some uptoSmall }

/-- 'laws.FnExactPhasePolynomialMatrix', WHERE WHAT IT READS IS OF BULK AT MOST 1048576: true; the input reads as it did. -/
def fnExactPhasePolynomialMatrixUptoRow : OpenClaim := { program := "ytibhikngiceeeaa", sum := "1a1c12e2c4168585145d876236f9a70090bc0cde80f40af75ee7e8d457030eac", func := "loop.example/g00506/laws.FnExactPhasePolynomialMatrix", spec := "fnExactPhasePolynomialMatrix", plainKeys := false, apart := false, narrowed := true }
def FnExactPhasePolynomialMatrixUptoSaid : Prop := fnExactPhasePolynomialMatrixUptoRow.holds Try.pinned (OpenSpec.upto fnExactPhasePolynomialMatrixSpec)

/-- 'laws.FnPolySame', WHERE WHAT IT READS IS OF BULK AT MOST 1048576: true; the input reads as it did. -/
def fnPolySameUptoRow : OpenClaim := { program := "ytibhikngiceeeaa", sum := "1a1c12e2c4168585145d876236f9a70090bc0cde80f40af75ee7e8d457030eac", func := "loop.example/g00506/laws.FnPolySame", spec := "fnPolySame", plainKeys := false, apart := false, narrowed := true }
def FnPolySameUptoSaid : Prop := fnPolySameUptoRow.holds Try.pinned (OpenSpec.upto fnPolySameSpec)

/-- 'laws.FnPoly', WHERE WHAT IT READS IS OF BULK AT MOST 1048576: true; the input reads as it did. -/
def fnPolyUptoRow : OpenClaim := { program := "ytibhikngiceeeaa", sum := "1a1c12e2c4168585145d876236f9a70090bc0cde80f40af75ee7e8d457030eac", func := "loop.example/g00506/laws.FnPoly", spec := "fnPoly", plainKeys := false, apart := false, narrowed := true }
def FnPolyUptoSaid : Prop := fnPolyUptoRow.holds Try.pinned (OpenSpec.upto fnPolySpec)

/-- 'laws.FnFoldAll', WHERE WHAT IT READS IS OF BULK AT MOST 1048576: true; the input reads as it did. -/
def fnFoldAllUptoRow : OpenClaim := { program := "ytibhikngiceeeaa", sum := "1a1c12e2c4168585145d876236f9a70090bc0cde80f40af75ee7e8d457030eac", func := "loop.example/g00506/laws.FnFoldAll", spec := "fnFoldAll", plainKeys := false, apart := false, narrowed := true }
def FnFoldAllUptoSaid : Prop := fnFoldAllUptoRow.holds Try.pinned (OpenSpec.upto fnFoldAllSpec)

/-- 'laws.FnRoute', WHERE WHAT IT READS IS OF BULK AT MOST 1048576: true; the input reads as it did. -/
def fnRouteUptoRow : OpenClaim := { program := "ytibhikngiceeeaa", sum := "1a1c12e2c4168585145d876236f9a70090bc0cde80f40af75ee7e8d457030eac", func := "loop.example/g00506/laws.FnRoute", spec := "fnRoute", plainKeys := false, apart := false, narrowed := true }
def FnRouteUptoSaid : Prop := fnRouteUptoRow.holds Try.pinned (OpenSpec.upto fnRouteSpec)

end Rows
end Go.Proofs.Ytibhikngiceeeaa
