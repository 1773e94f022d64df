/- Contracts of IsPermutation (spec and impl). At most 2^40 numbers. -/
import Derived.Test.YthfacfnknpomcaaQubits
import Derived.Test.YthfacfnknpomcaaBase3
import Derived.Deep.QuietTactic
import Derived.BigQuiet
namespace Go.Proofs.Ythfacfnknpomcaa
open Go.RowKit

def permOk (n : Int) : List Int → List Int → Bool
  | _, [] => true
  | pre, x :: r => inB x 0 (n - 1) && (!hasI pre x && permOk n (pre ++ [x]) r)
def isPerm (zs : List Int) : Bool := permOk zs.length [] zs && inB zs.length 1 4
theorem permOk_step {n : Int} {zs : List Int} {k : Nat} {x : Int} (hd : zs.drop k = x :: zs.drop (k + 1)) : permOk n (zs.take k) (zs.drop k) = (inB x 0 (n - 1) && (!hasI (zs.take k) x && permOk n (zs.take (k + 1)) (zs.drop (k + 1)))) := by
  rw [hd, permOk, take_snoc hd]
theorem hasI_snoc (zs : List Int) (x y : Int) : hasI (zs ++ [x]) y = (hasI zs y || x == y) := by simp [hasI]


end Go.Proofs.Ythfacfnknpomcaa
