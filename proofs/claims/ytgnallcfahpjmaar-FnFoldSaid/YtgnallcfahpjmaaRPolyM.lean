/- Contracts of eqPhasePolynomial, markPhasePolynomial, heldPhasePolynomial. At most 2^39 terms and outputs. -/
import Derived.Test.YtgnallcfahpjmaaRPolyC
namespace Go.Proofs.YtgnallcfahpjmaaR
open Go.RowKit

/-- The frame of markPhasePolynomial: new blocks, and writes to two rows. -/
def Marked (w w' : World) (v1 v2 : Value) : Prop := ∃ o wm, (w.alloc o).grownBy wm v1.ownBlock ∧ wm.grownBy w' v2.ownBlock
section
variable {w w' : World} {v1 v2 : Value}
theorem Marked.size (h : Marked w w' v1 v2) : w.heap.size ≤ w'.heap.size := by
  obtain ⟨o, wm, h1, h2⟩ := h
  have := h1.size
  have := h2.size
  simp at *
  omega
theorem Marked.own {base n sz : Nat} {e : TypeId} {v : Value} {xs : List Value} (h : Marked w w' v1 v2) (ho : w.ownsRow base e sz v n xs) (a1 : v.ownBlock = none ∨ v.ownBlock ≠ v1.ownBlock) (a2 : v.ownBlock = none ∨ v.ownBlock ≠ v2.ownBlock) : w'.ownsRow base e sz v n xs := by
  obtain ⟨o, wm, h1, h2⟩ := h
  exact ((ho.alloc o).kept h1 a1).kept h2 a2
theorem Marked.bx {g t : Nat} {cs : Array Value} (h : Marked w w' v1 v2) (hb : Bx w g t cs) (n1 : some g ≠ v1.ownBlock) (n2 : some g ≠ v2.ownBlock) : Bx w' g t cs := by
  obtain ⟨o, wm, h1, h2⟩ := h
  exact ((hb.alloc o).grown h1 n1).grown h2 n2
theorem Marked.below {B : Nat} {a : World} (h : Marked w w' v1 v2) (hb : Below B a w) (hs : B ≤ w.heap.size) (l1 : ∀ k, v1.ownBlock = some k → B ≤ k) (l2 : ∀ k, v2.ownBlock = some k → B ≤ k) : Below B a w' := by
  obtain ⟨o, wm, h1, h2⟩ := h
  have s1 : B ≤ (w.alloc o).heap.size := by simp; omega
  exact ((hb.alloc hs o).grown h1 s1 l1).grown h2 (Nat.le_trans s1 h1.size) l2
end

set_option maxHeartbeats 800000 in
theorem l_eqPoly_same (N H : Int) (AT AT' : Option Addr) (nT cT cT' : Nat) (t : List (Int × Int)) (AO AO' : Option Addr) (nO cO cO' : Nat) (o : List (Int × Int)) (w : World) (hT : RdP w AT nT t) (hT' : RdP w AT' nT t) (hO : RdP w AO nO o) (hO' : RdP w AO' nO o) (hnT : nT ≤ 1099511627776) (hnO : nO ≤ 1099511627776) :
    Calls Try.prog 70 #[.agg #[.int .i64 N, .int .i64 H, .slice AT nT cT, .slice AO nO cO], .agg #[.int .i64 N, .int .i64 H, .slice AT' nT cT', .slice AO' nO cO']] w fun e w' => e = .returned (.bool true) ∧ Below w.heap.size w w' := by
  have HT := Lib.hid hT
  have HO := Lib.hid hO
  have HT' := Lib.hid hT'
  have HO' := Lib.hid hO'
  clear hT hO hT' hO'
  have X0 := Lib.hid (show Bx ((w.alloc (.cells #[.int .i64 N, .int .i64 H, .slice AT nT cT, .slice AO nO cO] 32)).alloc (.cells #[.int .i64 N, .int .i64 H, .slice AT' nT cT', .slice AO' nO cO'] 32)) w.heap.size 32 _ from (Bx.new w _ _).alloc _)
  have X1 := Lib.hid (show Bx ((w.alloc (.cells #[.int .i64 N, .int .i64 H, .slice AT nT cT, .slice AO nO cO] 32)).alloc (.cells #[.int .i64 N, .int .i64 H, .slice AT' nT cT', .slice AO' nO cO'] 32)) (w.heap.size + 1) 32 _ from Bx.new' (by simp))
  have BZ : Hid (Below w.heap.size w ((w.alloc (.cells #[.int .i64 N, .int .i64 H, .slice AT nT cT, .slice AO nO cO] 32)).alloc (.cells #[.int .i64 N, .int .i64 H, .slice AT' nT cT', .slice AO' nO cO'] 32))) := Lib.hid (((Below.refl _ _).alloc (Nat.le_refl _) _).alloc (by simp) _)
  go_enter Try.func70, Try.ntmps70
  go_wp2_with fail
  refine (l_eqPhaseTermS_same _ _ _ _ _ t _ (HT.out.below BZ.out) (HT'.out.below BZ.out) hnT).mono ?_
  rintro e w1 ⟨rfl, b1⟩
  have B1 := Lib.hid (below_trans BZ.out b1)
  obtain ⟨p0, p1, p2, p3, _⟩ := (X0.out.below b1).four
  obtain ⟨q0, q1, q2, q3, _⟩ := (X1.out.below b1).four
  go_wp2_with fail
  refine (l_eqAffineFormS_same _ _ _ _ _ o _ (HO.out.below B1.out) (HO'.out.below B1.out) hnO).mono ?_
  rintro e w2 ⟨rfl, b2⟩
  go_wp2_with fail
  go_ret
  exact ⟨rfl, below_trans B1.out b2⟩

set_option maxHeartbeats 800000 in
theorem l_markPoly (base : Nat) (N H : Int) (AT : Option Addr) (nT cT : Nat) (xT : List Value) (AO : Option Addr) (nO cO : Nat) (xO : List Value) (j0 : Int) (w : World) (hT : w.ownsRow base 36 2 (.slice AT nT cT) nT xT) (hO : w.ownsRow base 93 2 (.slice AO nO cO) nO xO)
    (hnT : nT ≤ 549755813888) (hnO : nO ≤ 549755813888) (hj : 0 ≤ j0) (hj2 : j0 ≤ 549755813888) :
    Calls Try.prog 71 #[.agg #[.int .i64 N, .int .i64 H, .slice AT nT cT, .slice AO nO cO], .int .i64 j0] w fun e w' => e = .returned (.int .i64 (j0 + 2 * nT + 2 * nO)) ∧ w'.ownsRow base 36 2 (.slice AT nT cT) nT (cellsP (markP nT j0)) ∧ w'.ownsRow base 93 2 (.slice AO nO cO) nO (cellsP (markP nO (j0 + 2 * nT))) ∧ Marked w w' (.slice AT nT cT) (.slice AO nO cO) := by
  have HT := Lib.hid (hT.alloc (.cells #[.int .i64 N, .int .i64 H, .slice AT nT cT, .slice AO nO cO] 32))
  have HO := Lib.hid (hO.alloc (.cells #[.int .i64 N, .int .i64 H, .slice AT nT cT, .slice AO nO cO] 32))
  have X0 := Lib.hid (Bx.new w 32 #[.int .i64 N, .int .i64 H, .slice AT nT cT, .slice AO nO cO])
  clear hT hO
  go_enter Try.func71, Try.ntmps71
  go_wp2_with fail
  refine (l_markPhaseTermS _ _ _ _ _ _ _ _ HT.out (by omega) hj (by omega)).mono ?_
  rintro e w1 ⟨rfl, o1, g1⟩
  have O1 := Lib.hid o1
  have G1 := Lib.hid g1
  obtain ⟨p0, p1, p2, p3, _⟩ := (kept_app HT.out g1 X0.out (by decide)).four
  have HO1 := Lib.hid (HO.out.kept g1 (own_types HO.out HT.out (by decide)))
  clear o1 g1
  go_wp2_with fail
  refine (l_markAffineFormS _ _ _ _ _ _ _ _ HO1.out (by omega) (by omega) (by omega)).mono ?_
  rintro e w2 ⟨rfl, o2, g2⟩
  go_wp2_with fail
  go_ret
  exact ⟨rfl, O1.out.kept g2 (own_types O1.out HO1.out (by decide)), o2, _, _, G1.out, g2⟩
end Go.Proofs.YtgnallcfahpjmaaR
