/-
  No cell of these rows narrows 'for every input' (looked for: loops, veiled, ifaces, maps, wideKeys, modest, calm, conditions, laid).
  DERIVED. THE GIVEN ROWS OF THIS SEAT. 5 by the template 'for every input the law returns true; each argument reads behind the call as it read before'; 0 by the template 'total and deterministic' (their statements: YtmenmibfkojnoaaGreatTotals.lean).
  GIVEN WITH THE SEED: the statements are not yours to turn. If you find one false, say at which input.
  Laid BY PROGRAM, IN A SANDBOX (cutbox-rows.mjs): the forced cells as the released guide's own fill.sh prints them over the translation 75c600581a6e9589… (all of the seat's roots in one cut). By AI agents, Wed Nov 11 2026. No macro, syntax, notation, axiom, sorry.
-/
import Derived.Test.YtmenmibfkojnoaaGreatChecked
import GoSem.Claim
import GoSem.ClaimJoined
import GoSem.ClaimMapViews
import Derived.JoinedTies
import Derived.KernelRfl
namespace Go.Proofs.YtmenmibfkojnoaaGreat
/- THE CELL 'sum', in the pinned program and in every row, IS THE sha256 OF THE DUMP (.gsa) THAT YtmenmibfkojnoaaGreatProg.lean LOADS. Nothing in Lean hashes anything: it is a label: what it is worth is what the hold of that sum in a sandbox is worth. -/
noncomputable def Tryz.pinned : Pinned := { name := "ytmenmibfkojnoaagreat", sum := "75c600581a6e95896da9e208a941b53bf210c7f3e8b348c83ec794dc36d8205c", checked := Tryz.checked }
namespace Rows
def none {H : Type} : Left H := { results := [], args := [] }

/-- 'laws.FnExactBestRewrite': WHATEVER THE INPUT: true; the input reads as it did. -/
def fnExactBestRewriteSpec : ChangeSpec := { name := "fnExactBestRewrite", fn := fun _ => fun
  | [d1, d2] => { results := [.lit (.bool true)], args := [d1, d2] }
  | _ => none }
def fnExactBestRewriteRow : OpenClaim := { program := "ytmenmibfkojnoaagreat", sum := "75c600581a6e95896da9e208a941b53bf210c7f3e8b348c83ec794dc36d8205c", func := "loop.example/g00506/laws.FnExactBestRewrite", spec := "fnExactBestRewrite", unfollowed := true, recurses := true, apart := false }
def FnExactBestRewriteSaid : Prop := fnExactBestRewriteRow.holds Tryz.pinned (OpenSpec.ofChange fnExactBestRewriteSpec)

/-- ITS FALSE NEIGHBOUR: 'it returns false'. Refute it at one input. -/
def fnExactBestRewriteWrong : ChangeSpec := { name := "fnExactBestRewrite", fn := fun _ => fun
  | [d1, d2] => { results := [.lit (.bool false)], args := [d1, d2] }
  | _ => none }
def FnExactBestRewriteWrongFalsely : Prop := fnExactBestRewriteRow.holds Tryz.pinned (OpenSpec.ofChange fnExactBestRewriteWrong)

/-- 'laws.FnExactOptimizeGates': WHATEVER THE INPUT: true; the input reads as it did. -/
def fnExactOptimizeGatesSpec : ChangeSpec := { name := "fnExactOptimizeGates", fn := fun _ => fun
  | [d1, d2] => { results := [.lit (.bool true)], args := [d1, d2] }
  | _ => none }
def fnExactOptimizeGatesRow : OpenClaim := { program := "ytmenmibfkojnoaagreat", sum := "75c600581a6e95896da9e208a941b53bf210c7f3e8b348c83ec794dc36d8205c", func := "loop.example/g00506/laws.FnExactOptimizeGates", spec := "fnExactOptimizeGates", unfollowed := true, recurses := true, apart := false }
def FnExactOptimizeGatesSaid : Prop := fnExactOptimizeGatesRow.holds Tryz.pinned (OpenSpec.ofChange fnExactOptimizeGatesSpec)

/-- ITS FALSE NEIGHBOUR: 'it returns false'. Refute it at one input. -/
def fnExactOptimizeGatesWrong : ChangeSpec := { name := "fnExactOptimizeGates", fn := fun _ => fun
  | [d1, d2] => { results := [.lit (.bool false)], args := [d1, d2] }
  | _ => none }
def FnExactOptimizeGatesWrongFalsely : Prop := fnExactOptimizeGatesRow.holds Tryz.pinned (OpenSpec.ofChange fnExactOptimizeGatesWrong)

/-- 'laws.FnBest': WHATEVER THE INPUT: true; the input reads as it did. -/
def fnBestSpec : ChangeSpec := { name := "fnBest", fn := fun _ => fun
  | [d] => { results := [.lit (.bool true)], args := [d] }
  | _ => none }
def fnBestRow : OpenClaim := { program := "ytmenmibfkojnoaagreat", sum := "75c600581a6e95896da9e208a941b53bf210c7f3e8b348c83ec794dc36d8205c", func := "loop.example/g00506/laws.FnBest", spec := "fnBest", unfollowed := true, recurses := true, apart := false }
def FnBestSaid : Prop := fnBestRow.holds Tryz.pinned (OpenSpec.ofChange fnBestSpec)

/-- ITS FALSE NEIGHBOUR: 'it returns false'. Refute it at one input. -/
def fnBestWrong : ChangeSpec := { name := "fnBest", fn := fun _ => fun
  | [d] => { results := [.lit (.bool false)], args := [d] }
  | _ => none }
def FnBestWrongFalsely : Prop := fnBestRow.holds Tryz.pinned (OpenSpec.ofChange fnBestWrong)

/-- 'laws.FnOptimisedOnce': WHATEVER THE INPUT: true; the input reads as it did. -/
def fnOptimisedOnceSpec : ChangeSpec := { name := "fnOptimisedOnce", fn := fun _ => fun
  | [d] => { results := [.lit (.bool true)], args := [d] }
  | _ => none }
def fnOptimisedOnceRow : OpenClaim := { program := "ytmenmibfkojnoaagreat", sum := "75c600581a6e95896da9e208a941b53bf210c7f3e8b348c83ec794dc36d8205c", func := "loop.example/g00506/laws.FnOptimisedOnce", spec := "fnOptimisedOnce", unfollowed := true, recurses := true, apart := false }
def FnOptimisedOnceSaid : Prop := fnOptimisedOnceRow.holds Tryz.pinned (OpenSpec.ofChange fnOptimisedOnceSpec)

/-- ITS FALSE NEIGHBOUR: 'it returns false'. Refute it at one input. -/
def fnOptimisedOnceWrong : ChangeSpec := { name := "fnOptimisedOnce", fn := fun _ => fun
  | [d] => { results := [.lit (.bool false)], args := [d] }
  | _ => none }
def FnOptimisedOnceWrongFalsely : Prop := fnOptimisedOnceRow.holds Tryz.pinned (OpenSpec.ofChange fnOptimisedOnceWrong)

/-- 'laws.FnOptimised': WHATEVER THE INPUT: true; the input reads as it did. -/
def fnOptimisedSpec : ChangeSpec := { name := "fnOptimised", fn := fun _ => fun
  | [d] => { results := [.lit (.bool true)], args := [d] }
  | _ => none }
def fnOptimisedRow : OpenClaim := { program := "ytmenmibfkojnoaagreat", sum := "75c600581a6e95896da9e208a941b53bf210c7f3e8b348c83ec794dc36d8205c", func := "loop.example/g00506/laws.FnOptimised", spec := "fnOptimised", unfollowed := true, recurses := true, apart := false }
def FnOptimisedSaid : Prop := fnOptimisedRow.holds Tryz.pinned (OpenSpec.ofChange fnOptimisedSpec)

/-- ITS FALSE NEIGHBOUR: 'it returns false'. Refute it at one input. -/
def fnOptimisedWrong : ChangeSpec := { name := "fnOptimised", fn := fun _ => fun
  | [d] => { results := [.lit (.bool false)], args := [d] }
  | _ => none }
def FnOptimisedWrongFalsely : Prop := fnOptimisedRow.holds Tryz.pinned (OpenSpec.ofChange fnOptimisedWrong)

/- THE SECOND FORM. 'bulk': how many values and letters a reading holds, each counted each time it is reached (what is shared counts as often as it is met; a slice's spare places count too). A statement '..UptoSaid' is the law's where the arguments, and the package variables that the reading takes, are together of bulk at most 1048576: NARROWER than '..Said'. Prove '..Said' where nothing that the law and all that it calls make is longer than what came in: it says more and counts as full. Else prove '..UptoSaid'. A law counts once. -/
mutual
def uptoBulk {H : Type} : DataW H → Nat
  | .lit (.string bytes) => bytes.length + 1
  | .lit _ => 1
  | .nil => 1
  | .ptr d => uptoBulk d + 1
  | .slice elems spare => uptoBulkAll elems + uptoBulkAll spare + 1
  | .agg parts => uptoBulkAll parts + 1
  | .iface _ d => uptoBulk d + 1
  | .map entries => uptoBulkEntries entries + 1
  | .held _ => 1
def uptoBulkAll {H : Type} : List (DataW H) → Nat
  | [] => 0
  | d :: r => uptoBulk d + uptoBulkAll r
def uptoBulkEntries {H : Type} : List (Lit × DataW H) → Nat
  | [] => 0
  | x :: r => uptoBulkEntry x + uptoBulkEntries r
def uptoBulkEntry {H : Type} : Lit × DataW H → Nat
  | (.string bytes, d) => bytes.length + uptoBulk d + 1
  | (_, d) => uptoBulk d + 1
 end
def uptoSmall : (H : Type) → List (DataW H) → Bool := fun _ ds => decide (uptoBulkAll ds ≤ 1048576)
def OpenSpec.upto (s : _root_.Go.ChangeSpec) : _root_.Go.OpenSpec := { _root_.Go.OpenSpec.ofChange s with cond := some uptoSmall }

/-- 'laws.FnExactBestRewrite', WHERE WHAT IT READS IS OF BULK AT MOST 1048576: true; the input reads as it did. -/
def fnExactBestRewriteUptoRow : OpenClaim := { program := "ytmenmibfkojnoaagreat", sum := "75c600581a6e95896da9e208a941b53bf210c7f3e8b348c83ec794dc36d8205c", func := "loop.example/g00506/laws.FnExactBestRewrite", spec := "fnExactBestRewrite", unfollowed := true, recurses := true, apart := false, narrowed := true }
def FnExactBestRewriteUptoSaid : Prop := fnExactBestRewriteUptoRow.holds Tryz.pinned (OpenSpec.upto fnExactBestRewriteSpec)

/-- 'laws.FnExactOptimizeGates', WHERE WHAT IT READS IS OF BULK AT MOST 1048576: true; the input reads as it did. -/
def fnExactOptimizeGatesUptoRow : OpenClaim := { program := "ytmenmibfkojnoaagreat", sum := "75c600581a6e95896da9e208a941b53bf210c7f3e8b348c83ec794dc36d8205c", func := "loop.example/g00506/laws.FnExactOptimizeGates", spec := "fnExactOptimizeGates", unfollowed := true, recurses := true, apart := false, narrowed := true }
def FnExactOptimizeGatesUptoSaid : Prop := fnExactOptimizeGatesUptoRow.holds Tryz.pinned (OpenSpec.upto fnExactOptimizeGatesSpec)

/-- 'laws.FnBest', WHERE WHAT IT READS IS OF BULK AT MOST 1048576: true; the input reads as it did. -/
def fnBestUptoRow : OpenClaim := { program := "ytmenmibfkojnoaagreat", sum := "75c600581a6e95896da9e208a941b53bf210c7f3e8b348c83ec794dc36d8205c", func := "loop.example/g00506/laws.FnBest", spec := "fnBest", unfollowed := true, recurses := true, apart := false, narrowed := true }
def FnBestUptoSaid : Prop := fnBestUptoRow.holds Tryz.pinned (OpenSpec.upto fnBestSpec)

/-- 'laws.FnOptimisedOnce', WHERE WHAT IT READS IS OF BULK AT MOST 1048576: true; the input reads as it did. -/
def fnOptimisedOnceUptoRow : OpenClaim := { program := "ytmenmibfkojnoaagreat", sum := "75c600581a6e95896da9e208a941b53bf210c7f3e8b348c83ec794dc36d8205c", func := "loop.example/g00506/laws.FnOptimisedOnce", spec := "fnOptimisedOnce", unfollowed := true, recurses := true, apart := false, narrowed := true }
def FnOptimisedOnceUptoSaid : Prop := fnOptimisedOnceUptoRow.holds Tryz.pinned (OpenSpec.upto fnOptimisedOnceSpec)

/-- 'laws.FnOptimised', WHERE WHAT IT READS IS OF BULK AT MOST 1048576: true; the input reads as it did. -/
def fnOptimisedUptoRow : OpenClaim := { program := "ytmenmibfkojnoaagreat", sum := "75c600581a6e95896da9e208a941b53bf210c7f3e8b348c83ec794dc36d8205c", func := "loop.example/g00506/laws.FnOptimised", spec := "fnOptimised", unfollowed := true, recurses := true, apart := false, narrowed := true }
def FnOptimisedUptoSaid : Prop := fnOptimisedUptoRow.holds Tryz.pinned (OpenSpec.upto fnOptimisedSpec)

end Rows
end Go.Proofs.YtmenmibfkojnoaaGreat
