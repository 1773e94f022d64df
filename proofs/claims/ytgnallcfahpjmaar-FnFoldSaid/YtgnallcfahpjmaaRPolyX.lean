/- A box that holds a polynomial of the call's own: what the ways through a drawn region have in common. -/
import Derived.Test.YtgnallcfahpjmaaRPolyM
import Derived.Test.YtgnallcfahpjmaaRPolyB
import Derived.Test.YtgnallcfahpjmaaRPolyK
namespace Go.Proofs.YtgnallcfahpjmaaR
open Go.RowKit

def PolyBox (N H : Int) (t o : List (Int × Int)) (nT nO : Nat) (wz : World) (p : Value) (wx : World) : Prop :=
  ∃ (g : Nat) (A : Option Addr) (c : Nat) (B : Option Addr) (d : Nat), p = .pointer (some ⟨g, 0, none⟩) ∧ Bx wx g 32 #[.int .i64 N, .int .i64 H, .slice A nT c, .slice B nO d] ∧
    wx.ownsRow wz.heap.size 36 2 (.slice A nT c) nT (cellsP t) ∧ wx.ownsRow wz.heap.size 93 2 (.slice B nO d) nO (cellsP o) ∧ Below wz.heap.size wz wx
section
variable {N H : Int} {t o : List (Int × Int)} {nT nO : Nat} {wz w' : World} {b g : Nat} {A B : Option Addr} {c d : Nat}
theorem PolyBox.new (hT : w'.ownsRow b 36 2 (.slice A nT c) nT (cellsP t)) (hO : w'.ownsRow b 93 2 (.slice B nO d) nO (cellsP o)) (hB : Below wz.heap.size wz w') (hb : wz.heap.size ≤ b) :
    PolyBox N H t o nT nO wz (.pointer (some ⟨w'.heap.size, 0, none⟩)) (w'.alloc (.cells #[.int .i64 N, .int .i64 H, .slice A nT c, .slice B nO d] 32)) :=
  ⟨_, A, c, B, d, rfl, Bx.new _ _ _, (ownsRow_base hT hb).alloc _, (ownsRow_base hO hb).alloc _, hB.alloc hB.size _⟩
theorem PolyBox.old {cs : Array Value} (hX : Bx w' g 32 cs) (hcs : cs.size = 4) (hg : wz.heap.size ≤ g) (hT : w'.ownsRow b 36 2 (.slice A nT c) nT (cellsP t)) (hO : w'.ownsRow b 93 2 (.slice B nO d) nO (cellsP o)) (hB : Below wz.heap.size wz w') (hb : wz.heap.size ≤ b) :
    PolyBox N H t o nT nO wz (.pointer (some ⟨g, 0, none⟩)) ((((w'.setCell ⟨g, 0, none⟩ (.int .i64 N)).setCell ⟨g, 1, none⟩ (.int .i64 H)).setCell ⟨g, 2, none⟩ (.slice A nT c)).setCell ⟨g, 3, none⟩ (.slice B nO d)) := by
  obtain ⟨a0, a1, a2, a3, rfl⟩ : ∃ a0 a1 a2 a3, cs = #[a0, a1, a2, a3] := by
    obtain ⟨l⟩ := cs
    match l, hcs with
    | [a0, a1, a2, a3], _ => exact ⟨a0, a1, a2, a3, rfl⟩
  exact ⟨_, A, c, B, d, rfl, (((hX.s0 _).s1 _).s2 _).s3 _, own_set_ne4 (ownsRow_base hT hb) (own_bx_ne hT hX (by decide)), own_set_ne4 (ownsRow_base hO hb) (own_bx_ne hO hX (by decide)), below_set4 hB hg⟩
end
end Go.Proofs.YtgnallcfahpjmaaR
