/- Contracts of GatesCommute (spec and impl). Nothing is asked. -/
import Derived.Test.YtibhikngiceeeaaAxis
import Derived.Test.YtibhikngiceeeaaBase
import Derived.StillTailTactics
namespace Go.Proofs.Ytibhikngiceeeaa
open Go.RowKit

def Gt.axis (g : Gt) (q : Int) : Int := Go.Proofs.Ytibhikngiceeeaa.axis g.k g.a g.b g.c q
def Gt.qs (g : Gt) : List Int := gqn g.k g.a g.b g.c
def commQ (g h : Gt) (q : Int) : Bool := h.axis q == 0 || !(g.axis q != h.axis q || g.axis q == 2)
def comm (g h : Gt) : Bool := g.qs.all (commQ g h)
theorem axis_zero {k a b c q : Int} (h : acts k a b c q = true) : 1 ≤ axis k a b c q := by
  unfold axis
  rw [if_neg (by simp [h])]
  split
  · omega
  · split <;> omega
def CoSt (w : World) (g h : Gt) (A : Option Addr) (m : Nat) (wr : World) : Prop :=
  Bx wr w.heap.size 55 #[.int .i64 g.k, .int .i64 g.a, .int .i64 g.b, .int .i64 g.c] ∧ Bx wr (w.heap.size + 1) 55 #[.int .i64 h.k, .int .i64 h.a, .int .i64 h.b, .int .i64 h.c] ∧ RdI wr A m g.qs ∧ Below w.heap.size w wr
theorem CoSt.below {w wr w' : World} {g h : Gt} {A : Option Addr} {m : Nat} (s : CoSt w g h A m wr) (hb : Below wr.heap.size wr w') : CoSt w g h A m w' :=
  ⟨s.1.below hb, s.2.1.below hb, s.2.2.1.below hb, s.2.2.2.trans (hb.mono s.2.2.2.size)⟩
theorem CoSt.drew {w wr : World} {g h : Gt} {A : Option Addr} {m : Nat} (s : CoSt w g h A m wr) : CoSt w g h A m wr.drew := ⟨s.1, s.2.1, s.2.2.1, s.2.2.2.drew⟩



end Go.Proofs.Ytibhikngiceeeaa
