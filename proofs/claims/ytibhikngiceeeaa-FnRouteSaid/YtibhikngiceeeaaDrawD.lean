/- What a drawing helper hands back is settled ahead of the call: l1Byte, l1Below, l1Once. The cursor stands. -/
import Derived.Test.YtibhikngiceeeaaDrawP
namespace Go.Proofs.Ytibhikngiceeeaa
open Go.RowKit

/-- The call hands back this number; the cursor still stands; only its block has turned. -/
def DrawnV (v : Value) (g : Nat) (w : World) (e : Ending) (w' : World) : Prop := e = .returned v ∧ Cur w' g ∧ w.grownBy w' (some g)
set_option maxHeartbeats 800000 in
theorem s_l1ByteD (g : Nat) (w : World) (h : Cur w g) :
    ∃ x0 : Int, Calls Try.prog 110 #[.pointer (some ⟨g, 0, none⟩)] w (DrawnV (.int .i64 x0) g w) := by
  obtain ⟨A, n, c, i, h, zs, hbx, hr, hz, h0, h1, h2, hA⟩ := h
  obtain ⟨k, rfl⟩ := Int.eq_ofNat_of_zero_le h0
  obtain ⟨h', hh'⟩ : ∃ h', h' = wrap64 (wrap64 (h * 6364136223846793005) + 1442695040888963407) := ⟨_, rfl⟩
  obtain ⟨x, hx⟩ : ∃ x, x = bits BinOp.and IntKind.i64 (bits BinOp.xor IntKind.i64 (h' / 8589934592) (h' / 35184372088832)) 255 := ⟨_, rfl⟩
  have hxb : 0 ≤ x ∧ x ≤ 255 := hx ▸ and_lit _ 255 (by omega)
  have HXX := Lib.hid hx
  have HHH := Lib.hid hh'
  clear hx hh'
  have HB := Lib.hid hbx
  have HR := Lib.hid hr
  have HZ := Lib.hid hz
  have HA := Lib.hid (show 0 < n → ∀ b off, A = some ⟨b, off, none⟩ → b ≠ g from fun h0 b off e => Nat.ne_of_lt (hA h0 b off e))
  have HA' := Lib.hid hA
  obtain ⟨q0, q1, q2, f0, f1, f2⟩ : w.cell? ⟨g, 0, none⟩ = some (.slice A n c) ∧ w.cell? ⟨g, 1, none⟩ = some (.int .i64 (k : Int)) ∧ w.cell? ⟨g, 2, none⟩ = some (.int .i64 h) ∧ w.frozen? ⟨g, 0, none⟩ = false ∧ w.frozen? ⟨g, 1, none⟩ = false ∧ w.frozen? ⟨g, 2, none⟩ = false :=
    ⟨hbx.cell 0, hbx.cell 1, hbx.cell 2, hbx.free 0, hbx.free 1, hbx.free 2⟩
  clear hbx hr hz hA
  obtain ⟨W, hW⟩ : ∃ W, W = w.setCell ⟨g, 2, none⟩ (.int .i64 h') := ⟨_, rfl⟩
  have B1 : Bx W g 140 #[.slice A n c, .int .i64 (k : Int), .int .i64 h'] := by rw [hW]; exact HB.out.set_ 2 _
  have R1 : RdB W A n zs := by rw [hW]; exact ⟨HR.out.1, HR.out.2.setCell0 _ HA.out⟩
  have G1 : w.grownBy W (some g) := by
    rw [hW]
    exact ⟨rfl, rfl, rfl, by simp [World.setCell], fun k hk hne => Below.heap_setCell w _ _ k (fun e => hne (by rw [e]))⟩
  have HW := Lib.hid hW
  clear hW
  have HB1 := Lib.hid B1
  have HR1 := Lib.hid R1
  clear B1 R1
  by_cases hlt : k < n
  · obtain ⟨b, off, z, rfl, hb, hz, c0⟩ := HR1.out.at_ hlt
    refine ⟨bits BinOp.and IntKind.i64 (x + z) 255, ?_⟩
    have hzb := HZ.out z hz
    have hne : b ≠ g := HA.out (by omega) b off rfl
    have hi1 : (k : Int) < (n : Int) := by omega
    clear hz
    go_enter Try.func110, Try.ntmps110
    go_wp2
    rw [← HHH.out, ← HW.out]
    clear q0 q1 q2 f0 f1 f2
    obtain ⟨q0, q1, q2, f0, f1, f2⟩ : W.cell? ⟨g, 0, none⟩ = some (.slice _ n c) ∧ W.cell? ⟨g, 1, none⟩ = some (.int .i64 (k : Int)) ∧ W.cell? ⟨g, 2, none⟩ = some (.int .i64 h') ∧ W.frozen? ⟨g, 0, none⟩ = false ∧ W.frozen? ⟨g, 1, none⟩ = false ∧ W.frozen? ⟨g, 2, none⟩ = false :=
      ⟨HB1.out.cell 0, HB1.out.cell 1, HB1.out.cell 2, HB1.out.free 0, HB1.out.free 1, HB1.out.free 2⟩
    go_quiet (fail)
    go_wp2
    rw [← HXX.out]
    go_quiet (fail)
    go_wp2
    go_quiet (fail)
    go_wp2
    go_ret
    have hB2 : ∀ m, Bx ((W.drewN m).setCell ⟨g, 1, none⟩ (.int .i64 ((k : Int) + 1))) g 140 #[.slice (some ⟨b, off, none⟩) n c, .int .i64 ((k : Int) + 1), .int .i64 h'] := fun m => Bx.set_ (w := W.drewN m) HB1.out 1 _
    refine ⟨rfl, ⟨_, n, c, (k : Int) + 1, h', zs, hB2 _, ⟨HR1.out.1, Rd.setCell0 (w := W.drewN _) HR1.out.2 _ HA.out⟩, HZ.out, by omega, by omega, by omega, HA'.out⟩, ?_⟩
    exact ⟨G1.os, G1.tape, G1.output, by simpa [World.setCell] using G1.size, fun j hj hne => (Below.heap_setCell (W.drewN _) ⟨g, 1, none⟩ _ j (fun e => hne (by rw [e]))).trans (G1.block j hj hne)⟩
  · refine ⟨x, ?_⟩
    have hi1 : decide ((k : Int) < (n : Int)) = false := by simp; omega
    go_enter Try.func110, Try.ntmps110
    go_wp2
    rw [← HHH.out, ← HW.out]
    clear q0 q1 q2 f0 f1 f2
    obtain ⟨q0, q1, q2, f0, f1, f2⟩ : W.cell? ⟨g, 0, none⟩ = some (.slice A n c) ∧ W.cell? ⟨g, 1, none⟩ = some (.int .i64 (k : Int)) ∧ W.cell? ⟨g, 2, none⟩ = some (.int .i64 h') ∧ W.frozen? ⟨g, 0, none⟩ = false ∧ W.frozen? ⟨g, 1, none⟩ = false ∧ W.frozen? ⟨g, 2, none⟩ = false :=
      ⟨HB1.out.cell 0, HB1.out.cell 1, HB1.out.cell 2, HB1.out.free 0, HB1.out.free 1, HB1.out.free 2⟩
    go_quiet (fail)
    go_wp2
    rw [← HXX.out]
    go_quiet (fail)
    go_wp2
    go_ret
    exact ⟨rfl, ⟨A, n, c, k, h', zs, HB1.out, HR1.out, HZ.out, by omega, by omega, by omega, HA'.out⟩, ⟨G1.os, G1.tape, G1.output, G1.size, G1.block⟩⟩

set_option maxHeartbeats 800000 in
theorem s_l1BelowD (g : Nat) (n : Int) (w : World) (h : Cur w g) (h1 : 1 ≤ n) (h256 : n ≤ 256) :
    ∃ y : Int, Calls Try.prog 62 #[.pointer (some ⟨g, 0, none⟩), .int .i64 n] w (DrawnV (.int .i64 y) g w) := by
  obtain ⟨x0, hx⟩ := s_l1ByteD g w h
  refine ⟨x0.tmod n, ?_⟩
  have HX := Lib.hid hx
  clear h hx
  go_enter Try.func62, Try.ntmps62
  go_wp2_with fail
  refine HX.out.mono ?_
  rintro e w1 ⟨rfl, hc1, g1⟩
  go_wp2_with fail
  go_ret
  exact ⟨rfl, hc1, g1⟩
theorem s_l1OnceD (g : Nat) (n : Int) (w : World) (h : Cur w g) (h1 : 1 ≤ n) (h256 : n ≤ 256) :
    ∃ b : Bool, Calls Try.prog 64 #[.pointer (some ⟨g, 0, none⟩), .int .i64 n] w (DrawnV (.bool b) g w) := by
  obtain ⟨y, hy⟩ := s_l1BelowD g n w h h1 h256
  refine ⟨y == 0, ?_⟩
  have HY := Lib.hid hy
  clear h hy
  go_enter Try.func64, Try.ntmps64
  go_wp2_with fail
  refine HY.out.mono ?_
  rintro e w1 ⟨rfl, hc, g1⟩
  go_wp2_with fail
  go_ret
  exact ⟨rfl, hc, g1⟩
end Go.Proofs.Ytibhikngiceeeaa
