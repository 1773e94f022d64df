/- Plain: distances in a graph on up to four qubits, as the program and as the reference compute them; that they agree is checked over all symmetric matrices. No program in sight; nothing is asked. -/
import Derived.Test.YtibhikngiceeeaaBase
namespace Go.Proofs.Ytibhikngiceeeaa

def hasI0 (zs : List Int) (x : Int) : Bool := zs.any (· == x)
/-- Is there an edge between x and y, by the matrix l of sixteen places? -/
def mAt (l : List Bool) (x y : Int) : Bool := l.getD (4 * x.toNat + y.toNat) false
def upd (l : List Bool) (st x y : Int) (f : List Int) : List Int :=
  if f.getD x.toNat 0 == st && (decide (f.getD y.toNat 0 < 0) && mAt l x y) then f.set y.toNat (st + 1) else f
def lY (l : List Bool) (n st x : Int) : Nat → List Int → List Int
  | 0, f => f
  | m + 1, f => lY l n st x m (upd l st x (n - (m + 1 : Nat)) f)
def lX (l : List Bool) (n st : Int) : Nat → List Int → List Int
  | 0, f => f
  | m + 1, f => lX l n st m (lY l n st (n - (m + 1 : Nat)) n.toNat f)
def lS (l : List Bool) (n : Int) : Nat → List Int → List Int
  | 0, f => f
  | m + 1, f => lS l n m (lX l n (n - (m + 1 : Nat)) n.toNat f)
def farI (l : List Bool) (n a : Int) : List Int := lS l n n.toNat ([-1, -1, -1, -1].set a.toNat 0)
def sK (l : List Bool) (n x : Int) : Nat → List Int → List Int
  | 0, f => f
  | m + 1, f => sK l n x m (if mAt l x (n - (m + 1 : Nat)) && !hasI0 f (n - (m + 1 : Nat)) then f ++ [n - (m + 1 : Nat)] else f)
def sI (l : List Bool) (n : Int) : List Int → List Int → List Int
  | [], f => f
  | x :: r, f => sI l n r (sK l n x n.toNat f)
def sF (l : List Bool) (n b : Int) : Nat → List Int → Int
  | 0, _ => -1
  | m + 1, met => if hasI0 met b then n - (m + 1 : Nat) else sF l n b m (sI l n met met)
def gdS (l : List Bool) (n a b : Int) : Int := sF l n b n.toNat [a]
def gdI (l : List Bool) (n a b : Int) : Int := (farI l n a).getD b.toNat 0
def sym (c00 c01 c02 c03 c11 c12 c13 c22 c23 c33 : Bool) : List Bool := [c00, c01, c02, c03, c01, c11, c12, c13, c02, c12, c22, c23, c03, c13, c23, c33]
/-- All pairs within n: a list of checks. -/
def allAB (n : Nat) (p : Int → Int → Bool) : Bool := (List.range n).all fun a => (List.range n).all fun b => p a b
theorem allAB_at {n : Nat} {p : Int → Int → Bool} (h : allAB n p = true) {a b : Int} (ha : 0 ≤ a) (ha2 : a < n) (hb : 0 ≤ b) (hb2 : b < n) : p a b = true := by
  unfold allAB at h
  rw [List.all_eq_true] at h
  have h1 := h a.toNat (List.mem_range.2 (by omega))
  rw [List.all_eq_true] at h1
  have h2 := h1 b.toNat (List.mem_range.2 (by omega))
  rwa [show ((a.toNat : Nat) : Int) = a by omega, show ((b.toNat : Nat) : Int) = b by omega] at h2
def allB (p : Bool → Bool) : Bool := p false && p true
theorem allB_at {p : Bool → Bool} (h : allB p = true) (b : Bool) : p b = true := by
  unfold allB at h
  rw [Bool.and_eq_true] at h
  cases b
  · exact h.1
  · exact h.2
/-- A check over all symmetric matrices. -/
def allSym (p : List Bool → Bool) : Bool :=
  allB fun c01 => allB fun c02 => allB fun c03 => allB fun c12 => allB fun c13 => allB fun c23 => allB fun c00 => allB fun c11 => allB fun c22 => allB fun c33 => p (sym c00 c01 c02 c03 c11 c12 c13 c22 c23 c33)
theorem allSym_at {p : List Bool → Bool} (h : allSym p = true) (c00 c01 c02 c03 c11 c12 c13 c22 c23 c33 : Bool) : p (sym c00 c01 c02 c03 c11 c12 c13 c22 c23 c33) = true :=
  allB_at (allB_at (allB_at (allB_at (allB_at (allB_at (allB_at (allB_at (allB_at (allB_at h c01) c02) c03) c12) c13) c23) c00) c11) c22) c33
theorem gd_all1 : (allSym fun l => allAB 1 fun a b => gdS l 1 a b == gdI l 1 a b) = true := by decide +kernel
theorem gd_all2 : (allSym fun l => allAB 2 fun a b => gdS l 2 a b == gdI l 2 a b) = true := by decide +kernel
theorem gd_all3 : (allSym fun l => allAB 3 fun a b => gdS l 3 a b == gdI l 3 a b) = true := by decide +kernel
theorem gd_all4 : (allSym fun l => allAB 4 fun a b => gdS l 4 a b == gdI l 4 a b) = true := by decide +kernel
theorem gd_same (c00 c01 c02 c03 c11 c12 c13 c22 c23 c33 : Bool) (n a b : Int) (h1 : 1 ≤ n) (h4 : n ≤ 4) (ha : 0 ≤ a) (ha2 : a < n) (hb : 0 ≤ b) (hb2 : b < n) :
    gdS (sym c00 c01 c02 c03 c11 c12 c13 c22 c23 c33) n a b = gdI (sym c00 c01 c02 c03 c11 c12 c13 c22 c23 c33) n a b := by
  obtain rfl | rfl | rfl | rfl : n = 1 ∨ n = 2 ∨ n = 3 ∨ n = 4 := by omega
  · exact eq_of_beq (allAB_at (allSym_at gd_all1 _ _ _ _ _ _ _ _ _ _) ha ha2 hb hb2)
  · exact eq_of_beq (allAB_at (allSym_at gd_all2 _ _ _ _ _ _ _ _ _ _) ha ha2 hb hb2)
  · exact eq_of_beq (allAB_at (allSym_at gd_all3 _ _ _ _ _ _ _ _ _ _) ha ha2 hb hb2)
  · exact eq_of_beq (allAB_at (allSym_at gd_all4 _ _ _ _ _ _ _ _ _ _) ha ha2 hb hb2)
end Go.Proofs.Ytibhikngiceeeaa
