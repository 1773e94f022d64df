/- Contracts of the laws' helpers on graphs: szEdgeS, szGraph, toGraph, eqGraph. -/
import Derived.Test.YthijgdpnodiceaaPairSEdge
namespace Go.Proofs.Ythijgdpnodiceaa
open Go.RowKit

theorem l_szEdgeS (A : Option Addr) (n cap : Nat) (hn : n ≤ 9223372036854775807) (w : World) :
    Calls Try.prog 78 #[.slice A n cap, .int .i64 1048576] w fun e w' => e = .returned (.int .i64 (if n ≤ 1048576 then 1048576 - n else -1)) ∧ w = w' := by
  by_cases h : n ≤ 1048576
  · go_enter Try.func78, Try.ntmps78
    go_wp2
    go_ret
    exact ⟨ret_int (by simp), rfl⟩
  · go_enter Try.func78, Try.ntmps78
    go_wp2
    go_ret
    exact ⟨ret_int (by simp), rfl⟩

theorem l_szGraph (N : Int) (A : Option Addr) (n cap : Nat) (hn : n ≤ 9223372036854775807) (w : World) :
    Calls Try.prog 41 #[.agg #[.int .i64 N, .slice A n cap], .int .i64 1048576] w fun e w' => e = .returned (.int .i64 (if n ≤ 1048576 then 1048576 - n else -1)) ∧ Below w.heap.size w w' := by
  by_cases h : n ≤ 1048576
  · go_enter Try.func41, Try.ntmps41
    go_wp2_with fail
    refine (l_szEdgeS _ _ _ hn _).mono ?_
    rintro e w1 ⟨rfl, rfl⟩
    rw [if_pos h]
    go_wp2_with fail
    go_ret
    exact ⟨ret_int (by simp), (Below.refl _ _).alloc (Nat.le_refl _) _⟩
  · go_enter Try.func41, Try.ntmps41
    go_wp2_with fail
    refine (l_szEdgeS _ _ _ hn _).mono ?_
    rintro e w1 ⟨rfl, rfl⟩
    rw [if_neg h]
    go_wp2_with fail
    go_ret
    exact ⟨ret_int (by simp), (Below.refl _ _).alloc (Nat.le_refl _) _⟩

def RetGr (N : Int) (n : Nat) (ps : List (Int × Int)) (w : World) (e : Ending) (w' : World) : Prop :=
  ∃ A c, e = .returned (.agg #[.int .i64 N, .slice A n c]) ∧ w'.ownsRow w.heap.size 90 2 (.slice A n c) n (cellsP ps) ∧ Below w.heap.size w w'

set_option maxHeartbeats 400000 in
theorem l_toGraph (N : Int) (A : Option Addr) (n cap : Nat) (ps : List (Int × Int)) (w : World) (h : RdP w A n ps) (hn : n ≤ 1048576) :
    Calls Try.prog 44 #[.agg #[.int .i64 N, .slice A n cap]] w (RetGr N n ps w) := by
  have H := Lib.hid h
  clear h
  go_enter Try.func44, Try.ntmps44
  go_wp2_with fail
  refine (l_toEdgeS _ _ _ _ _ (((H.out.alloc _).alloc _).alloc _) hn).mono ?_
  rintro e w1 ⟨A1, c1, rfl, o1, b1⟩
  have x2 := ((Bx.new (w.alloc (.cells #[.int .i64 N, .slice A n cap] 49)) 38 #[.int .i64 0, .slice none 0 0]).alloc (.cells #[.int .i64 N, .slice none 0 0] 38)).below b1
  have x3 := (Bx.new ((w.alloc (.cells #[.int .i64 N, .slice A n cap] 49)).alloc (.cells #[.int .i64 0, .slice none 0 0] 38)) 38 #[.int .i64 N, .slice none 0 0]).below b1
  have hlt2 := x3.lt
  simp only [World.size_alloc] at x2 x3 hlt2
  obtain ⟨q20, q21, f20, f21⟩ := x2.two
  obtain ⟨q30, q31, f30, f31⟩ := x3.two
  go_wp2
  simp only [World.size_alloc] at o1
  refine bodyPost_ret (v := .agg #[.int .i64 N, .slice A1 n c1]) (by simp [results, Try.results44, go_sem, q20, q21]) rfl ⟨A1, c1, rfl, ?_, ?_⟩
  · exact ownsRow_base (ownsRow_setCell_below (ownsRow_setCell_below (ownsRow_setCell_below o1 (by simp) _) (by simp <;> omega) _) (by simp <;> omega) _) (by omega)
  · exact (((below_alloc (below_alloc (below_alloc b1))).setCell (by simp <;> omega) _).setCell (by simp) _).setCell (by simp) _

set_option maxHeartbeats 400000 in
theorem l_eqGraph_same (N : Int) (A A' : Option Addr) (n c c' : Nat) (gs : List (Int × Int)) (w : World) (h : RdP w A n gs) (h' : RdP w A' n gs) (hn : n ≤ 1099511627776) :
    Calls Try.prog 47 #[.agg #[.int .i64 N, .slice A n c], .agg #[.int .i64 N, .slice A' n c']] w fun e w' => e = .returned (.bool true) ∧ Below w.heap.size w w' := by
  have H := Lib.hid h
  have H' := Lib.hid h'
  clear h h'
  go_enter Try.func47, Try.ntmps47
  go_wp2_with fail
  refine (l_eqEdgeS_same _ _ _ _ _ _ _ ((H.out.alloc _).alloc _) ((H'.out.alloc _).alloc _) hn).mono ?_
  rintro e w1 ⟨rfl, b1⟩
  go_wp2_with fail
  go_ret
  exact ⟨rfl, below_alloc (below_alloc b1)⟩
end Go.Proofs.Ythijgdpnodiceaa
