/- Contracts of same at terms and outputs, and of EqualPhasePolynomial (impl and spec). At most 2^40 terms and outputs. -/
import Derived.Test.YtgnallcfahpjmaaRPolyC
import Derived.Deep.QuietTactic
import Derived.BigQuiet
namespace Go.Proofs.YtgnallcfahpjmaaR
open Go.RowKit

def sameP (a b : List (Int × Int)) : Bool := decide (a = b)
theorem sameP_len {a b : List (Int × Int)} (h : a.length ≠ b.length) : sameP a b = false := by
  unfold sameP
  rw [decide_eq_false_iff_not]
  rintro rfl
  exact h rfl
theorem sameP_ne {a b : List (Int × Int)} {k : Nat} {x y : Int × Int} {r s : List (Int × Int)} (h1 : a.drop k = x :: r) (h2 : b.drop k = y :: s) (h : x ≠ y) : sameP a b = false := by
  unfold sameP
  rw [decide_eq_false_iff_not]
  rintro rfl
  rw [h1] at h2
  injection h2 with h2 _
  exact h h2
theorem dnn (w : World) (a b : Nat) : (w.drewN a).drewN b = w.drewN (a + b) := by simp [World.drewN, Nat.add_assoc]
theorem RdP.drewNN {w : World} {n : Nat} {A : Option Addr} {gs : List (Int × Int)} (h : RdP w A n gs) (q : Nat) : RdP (w.drewN q) A n gs := ⟨h.1, h.2.drewN q⟩
theorem sameP_self (a : List (Int × Int)) : sameP a a = true := by simp [sameP]

end Go.Proofs.YtgnallcfahpjmaaR
