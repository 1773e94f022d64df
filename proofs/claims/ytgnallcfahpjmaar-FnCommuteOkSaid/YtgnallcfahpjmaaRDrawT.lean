/- Contracts of the drawing of two gates: l34Two, DrawGatesCommute, DrawMergeGates. The code has at most 2^20 bytes. -/
import Derived.Test.YtgnallcfahpjmaaRDrawG
import Derived.Test.YtgnallcfahpjmaaRInv
import Derived.RegionTactic
namespace Go.Proofs.YtgnallcfahpjmaaR
open Go.RowKit
set_option linter.unusedVariables false

/-- Two result boxes, the boxes of two gates, the cursor. -/
def TSt (w : World) (g p q : Nat) (k a b c k' a' b' c' : Int) (wr : World) : Prop :=
  Bx wr w.heap.size 63 #[.int .i64 0, .int .i64 0, .int .i64 0, .int .i64 0] ∧ Bx wr (w.heap.size + 1) 63 #[.int .i64 0, .int .i64 0, .int .i64 0, .int .i64 0] ∧ Bx wr p 63 #[.int .i64 k, .int .i64 a, .int .i64 b, .int .i64 c] ∧ Bx wr q 63 #[.int .i64 k', .int .i64 a', .int .i64 b', .int .i64 c'] ∧ Cur wr g ∧ w.grownBy wr (some g) ∧ (g < w.heap.size ∧ w.heap.size + 1 < p ∧ p < q)
section
variable {w : World} {g p q : Nat} {k a b c k' a' b' c' : Int} {wr w' : World}
theorem TSt.draw (h : TSt w g p q k a b c k' a' b' c' wr) (hc : Cur w' g) (gg : wr.grownBy w' (some g)) : TSt w g p q k a b c k' a' b' c' w' := by
  obtain ⟨h1, h2, h3, h4, h5, h6, h7, h8, h9⟩ := h
  exact ⟨dr_bx gg h1 (by omega), dr_bx gg h2 (by omega), dr_bx gg h3 (by omega), dr_bx gg h4 (by omega), hc, dr_trans h6 gg, h7, h8, h9⟩
theorem TSt.below (h : TSt w g p q k a b c k' a' b' c' wr) (hb : Below wr.heap.size wr w') : TSt w g p q k a b c k' a' b' c' w' := by
  obtain ⟨h1, h2, h3, h4, h5, h6, h7⟩ := h
  exact ⟨h1.below hb, h2.below hb, h3.below hb, h4.below hb, h5.below hb, dr_below h6 hb, h7⟩
abbrev put4 (w : World) (g : Nat) (k a b c : Int) : World := (((w.setCell ⟨g, 0, none⟩ (.int .i64 k)).setCell ⟨g, 1, none⟩ (.int .i64 a)).setCell ⟨g, 2, none⟩ (.int .i64 b)).setCell ⟨g, 3, none⟩ (.int .i64 c)
theorem far4 {t : TypeId} {cs : Array Value} {r : Nat} (h : Bx wr r t cs) (hne : r ≠ q) (k a b c : Int) : Bx (put4 wr q k a b c) r t cs := (((h.far hne _).far hne _).far hne _).far hne _
theorem TSt.set (h : TSt w g p q k a b c k' a' b' c' wr) (k2 a2 b2 c2 : Int) : TSt w g p q k a b c k2 a2 b2 c2 (put4 wr q k2 a2 b2 c2) := by
  obtain ⟨h1, h2, h3, h4, h5, h6, h7, h8, h9⟩ := h
  refine ⟨far4 h1 (by omega) _ _ _ _, far4 h2 (by omega) _ _ _ _, far4 h3 (by omega) _ _ _ _, (((h4.set_ 0 _).set_ 1 _).set_ 2 _).set_ 3 _, ?_, ?_, h7, h8, h9⟩
  · exact (((h5.setCell (by show g < q; omega) _).setCell (by show g < q; omega) _).setCell (by show g < q; omega) _).setCell (by show g < q; omega) _
  · exact dr_set (dr_set (dr_set (dr_set h6 (by show w.heap.size ≤ q; omega) _) (by show w.heap.size ≤ q; omega) _) (by show w.heap.size ≤ q; omega) _) (by show w.heap.size ≤ q; omega) _
theorem below_put4 {B : Nat} {a' wr : World} {q : Nat} (h : Below B a' wr) (hq : B ≤ q) (k a b c : Int) : Below B a' (put4 wr q k a b c) := (((h.setCell hq _).setCell hq _).setCell hq _).setCell hq _
theorem dr_put4 {w wr : World} {g q : Nat} (h : w.grownBy wr (some g)) (hq : w.heap.size ≤ q) (k a b c : Int) : w.grownBy (put4 wr q k a b c) (some g) := dr_set (dr_set (dr_set (dr_set h (by exact hq) _) (by exact hq) _) (by exact hq) _) (by exact hq) _
theorem TSt.fin (h : TSt w g p q k a b c k' a' b' c' wr) (x0 x1 x2 x3 y0 y1 y2 y3 : Int) : w.grownBy (put4 (put4 wr w.heap.size x0 x1 x2 x3) (w.heap.size + 1) y0 y1 y2 y3).drew (some g) :=
  dr_below (dr_put4 (dr_put4 h.2.2.2.2.2.1 (Nat.le_refl _) _ _ _ _) (by omega) _ _ _ _) (Below.refl _ _).drew
end
/-- Two gates, drawn. -/
def RetTwo (g : Nat) (w : World) (e : Ending) (w' : World) : Prop :=
  ∃ k a b c k' a' b' c' : Int, e = .returned (.tuple #[.agg #[.int .i64 k, .int .i64 a, .int .i64 b, .int .i64 c], .agg #[.int .i64 k', .int .i64 a', .int .i64 b', .int .i64 c']]) ∧ w.grownBy w' (some g)

set_option maxRecDepth 100000 in
set_option maxHeartbeats 6400000 in
theorem s_l34Two (g : Nat) (w : World) (h : Cur w g) : Calls Try.prog 110 #[.pointer (some ⟨g, 0, none⟩)] w (RetTwo g w) := by
  have hg := h.lt
  have C0 := Lib.hid (show Cur ((w.alloc (.cells #[.int .i64 0, .int .i64 0, .int .i64 0, .int .i64 0] 63)).alloc (.cells #[.int .i64 0, .int .i64 0, .int .i64 0, .int .i64 0] 63)) g from cur_alloc (cur_alloc h _) _)
  have R0 := Lib.hid (show Bx ((w.alloc (.cells #[.int .i64 0, .int .i64 0, .int .i64 0, .int .i64 0] 63)).alloc (.cells #[.int .i64 0, .int .i64 0, .int .i64 0, .int .i64 0] 63)) w.heap.size 63 #[.int .i64 0, .int .i64 0, .int .i64 0, .int .i64 0] from (Bx.new w _ _).alloc _)
  have R1 := Lib.hid (show Bx ((w.alloc (.cells #[.int .i64 0, .int .i64 0, .int .i64 0, .int .i64 0] 63)).alloc (.cells #[.int .i64 0, .int .i64 0, .int .i64 0, .int .i64 0] 63)) (w.heap.size + 1) 63 #[.int .i64 0, .int .i64 0, .int .i64 0, .int .i64 0] from Bx.new' (by simp))
  have G0 := Lib.hid (show w.grownBy ((w.alloc (.cells #[.int .i64 0, .int .i64 0, .int .i64 0, .int .i64 0] 63)).alloc (.cells #[.int .i64 0, .int .i64 0, .int .i64 0, .int .i64 0] 63)) (some g) from dr_alloc (dr_alloc (dr_refl w g) _) _)
  clear h
  go_enter Try.func110, Try.ntmps110
  go_wp2_with fail
  refine (s_l1Below g 3 _ C0.out (by omega)).mono ?_
  rintro e w2 ⟨y, rfl, ⟨hy, _⟩, hc, gg⟩
  obtain ⟨hy0, hy1⟩ := hy (by omega)
  obtain ⟨n, hn⟩ : ∃ n : Nat, 1 + y = n := ⟨(1 + y).toNat, by omega⟩
  have hn1 : 1 ≤ n := by omega
  have hn4 : n ≤ 4 := by omega
  have C2 := Lib.hid hc
  have R2 := Lib.hid (dr_bx gg R0.out (show w.heap.size ≠ g by omega))
  have R3 := Lib.hid (dr_bx gg R1.out (show w.heap.size + 1 ≠ g by omega))
  have G2 := Lib.hid (dr_trans G0.out gg)
  clear hy hc gg C0 R0 R1 G0
  go_wp2_with fail
  clear hn hy0 hy1
  refine (s_l9Gate g n _ C2.out hn1 hn4).mono ?_
  rintro e w3 ⟨k3, a3, b3, c3, rfl, _, hc, gg⟩
  have C3 := Lib.hid (cur_alloc hc (.cells #[.int .i64 k3, .int .i64 a3, .int .i64 b3, .int .i64 c3] 63))
  have R4 := Lib.hid (dr_bx gg R2.out (show w.heap.size ≠ g by omega))
  have R5 := Lib.hid (dr_bx gg R3.out (show w.heap.size + 1 ≠ g by omega))
  have G3 := Lib.hid (dr_alloc (dr_trans G2.out gg) (.cells #[.int .i64 k3, .int .i64 a3, .int .i64 b3, .int .i64 c3] 63))
  have X3 := Lib.hid (Bx.new w3 63 #[.int .i64 k3, .int .i64 a3, .int .i64 b3, .int .i64 c3])
  have l3 := R5.out.lt
  clear hc gg C2 R2 R3 G2
  go_wp2_with fail
  refine (s_l9Gate g n _ C3.out hn1 hn4).mono ?_
  rintro e w4 ⟨k4, a4, b4, c4, rfl, _, hc, gg⟩
  have X4 := dr_bx gg X3.out (show w3.heap.size ≠ g by omega)
  have S4 := Lib.hid (show TSt w g w3.heap.size w4.heap.size k3 a3 b3 c3 k4 a4 b4 c4 (w4.alloc (.cells #[.int .i64 k4, .int .i64 a4, .int .i64 b4, .int .i64 c4] 63)) from
    ⟨(dr_bx gg (R4.out.alloc _) (show w.heap.size ≠ g by omega)).alloc _, (dr_bx gg (R5.out.alloc _) (show w.heap.size + 1 ≠ g by omega)).alloc _, X4.alloc _, Bx.new w4 _ _, cur_alloc hc _, dr_alloc (dr_trans G3.out gg) _, hg, l3, X4.lt⟩)
  clear hc gg C3 R4 R5 G3 X3 X4
  go_wp2_with fail
  refine (s_l1Below g 4 _ S4.out.2.2.2.2.1 (by omega)).mono ?_
  rintro e w5 ⟨y, rfl, ⟨hy, _⟩, hc, gg⟩
  obtain ⟨hy0, hy1⟩ := hy (by omega)
  have S5 := Lib.hid (S4.out.draw hc gg)
  clear hy hc gg S4
  obtain ⟨u0, u1, u2, u3, _⟩ := S5.out.2.2.1.four
  obtain ⟨v0, v1, v2, v3, f0, f1, f2, f3⟩ := S5.out.2.2.2.1.four
  obtain ⟨r0, r1, r2, r3, e0, e1, e2, e3⟩ := S5.out.1.four
  obtain ⟨s0, s1, s2, s3, d0, d1, d2, d3⟩ := S5.out.2.1.four
  have lw := S5.out.2.2.2.2.2.2
  obtain rfl | rfl | hy2 : y = 0 ∨ y = 1 ∨ 2 ≤ y := by omega
  · clear u0 u1 u2 u3 v0 v1 v2 v3 f0 f1 f2 f3 r0 r1 r2 r3 e0 e1 e2 e3 s0 s1 s2 s3 d0 d1 d2 d3 hy0 hy1
    obtain ⟨u0, u1, u2, u3, _⟩ := S5.out.2.2.1.four
    obtain ⟨v0, v1, v2, v3, f0, f1, f2, f3⟩ := S5.out.2.2.2.1.four
    obtain ⟨r0, r1, r2, r3, e0, e1, e2, e3⟩ := S5.out.1.four
    obtain ⟨s0, s1, s2, s3, d0, d1, d2, d3⟩ := S5.out.2.1.four
    go_wp2_with fail
    refine (s_InverseGate k3 a3 b3 c3 _).mono ?_
    rintro e w6 ⟨rfl, b6⟩
    have S6 := Lib.hid (S5.out.below b6)
    clear b6 u0 u1 u2 u3 v0 v1 v2 v3 f0 f1 f2 f3 r0 r1 r2 r3 e0 e1 e2 e3 s0 s1 s2 s3 d0 d1 d2 d3
    generalize invK k3 = k6
    have S7 := Lib.hid (S6.out.set k6 a3 b3 c3)
    obtain ⟨u0, u1, u2, u3, _⟩ := S6.out.2.2.1.four
    obtain ⟨v0, v1, v2, v3, f0, f1, f2, f3⟩ := S6.out.2.2.2.1.four
    obtain ⟨r0, r1, r2, r3, e0, e1, e2, e3⟩ := S6.out.1.four
    obtain ⟨s0, s1, s2, s3, d0, d1, d2, d3⟩ := S6.out.2.1.four
    go_wp2_with fail
    go_region
    all_goals go_wp2_with fail
    all_goals exact bodyPost_ret (v := .tuple #[.agg #[.int .i64 k3, .int .i64 a3, .int .i64 b3, .int .i64 c3], .agg #[.int .i64 k6, .int .i64 a3, .int .i64 b3, .int .i64 c3]]) (by simp [results, Try.results110, go_sem, r0, r1, r2, r3, s0, s1, s2, s3]) rfl ⟨k3, a3, b3, c3, k6, a3, b3, c3, rfl, S7.out.fin _ _ _ _ _ _ _ _⟩
  · clear u0 u1 u2 u3 v0 v1 v2 v3 f0 f1 f2 f3 r0 r1 r2 r3 e0 e1 e2 e3 s0 s1 s2 s3 d0 d1 d2 d3 hy0 hy1
    go_wp2_with fail
    refine (s_l9Bent g n _ S5.out.2.2.2.2.1 hn1 hn4).mono ?_
    rintro e w6 ⟨k6, a6, b6, c6, rfl, _, hc, gg⟩
    have S6 := Lib.hid (S5.out.draw hc gg)
    have S7 := Lib.hid (S6.out.set k6 a6 b6 c6)
    clear hc gg
    obtain ⟨u0, u1, u2, u3, _⟩ := S6.out.2.2.1.four
    obtain ⟨v0, v1, v2, v3, f0, f1, f2, f3⟩ := S6.out.2.2.2.1.four
    obtain ⟨r0, r1, r2, r3, e0, e1, e2, e3⟩ := S6.out.1.four
    obtain ⟨s0, s1, s2, s3, d0, d1, d2, d3⟩ := S6.out.2.1.four
    go_wp2_with fail
    go_region
    all_goals go_wp2_with fail
    all_goals exact bodyPost_ret (v := .tuple #[.agg #[.int .i64 k3, .int .i64 a3, .int .i64 b3, .int .i64 c3], .agg #[.int .i64 k6, .int .i64 a6, .int .i64 b6, .int .i64 c6]]) (by simp [results, Try.results110, go_sem, r0, r1, r2, r3, s0, s1, s2, s3]) rfl ⟨k3, a3, b3, c3, k6, a6, b6, c6, rfl, S7.out.fin _ _ _ _ _ _ _ _⟩
  · have hya : ¬ y = 0 := by omega
    have hyb : ¬ y = 1 := by omega
    have S7 := S5
    go_wp2_with fail
    go_region
    all_goals go_wp2_with fail
    all_goals exact bodyPost_ret (v := .tuple #[.agg #[.int .i64 k3, .int .i64 a3, .int .i64 b3, .int .i64 c3], .agg #[.int .i64 k4, .int .i64 a4, .int .i64 b4, .int .i64 c4]]) (by simp [results, Try.results110, go_sem, r0, r1, r2, r3, s0, s1, s2, s3]) rfl ⟨k3, a3, b3, c3, k4, a4, b4, c4, rfl, S7.out.fin _ _ _ _ _ _ _ _⟩
/-- Two gates drawn from a code. -/
def RetTwoB (w : World) (e : Ending) (w' : World) : Prop :=
  ∃ k a b c k' a' b' c' : Int, e = .returned (.tuple #[.agg #[.int .i64 k, .int .i64 a, .int .i64 b, .int .i64 c], .agg #[.int .i64 k', .int .i64 a', .int .i64 b', .int .i64 c']]) ∧ Below w.heap.size w w'
set_option maxHeartbeats 3200000 in
theorem s_DrawGatesCommute (A : Option Addr) (n cap : Nat) (zs : List Int) (w : World) (h : RdB w A n zs) (hz : ∀ z ∈ zs, 0 ≤ z ∧ z ≤ 255) (hn : n ≤ 1048576) : Calls Try.prog 48 #[.slice A n cap] w (RetTwoB w) := by
  have H := Lib.hid (show RdB ((w.alloc (.cells #[.int .i64 0, .int .i64 0, .int .i64 0, .int .i64 0] 63)).alloc (.cells #[.int .i64 0, .int .i64 0, .int .i64 0, .int .i64 0] 63)) A n zs from ⟨h.1, (h.2.alloc _).alloc _⟩)
  have HZ := Lib.hid hz
  have R0 := Lib.hid (show Bx ((w.alloc (.cells #[.int .i64 0, .int .i64 0, .int .i64 0, .int .i64 0] 63)).alloc (.cells #[.int .i64 0, .int .i64 0, .int .i64 0, .int .i64 0] 63)) w.heap.size 63 #[.int .i64 0, .int .i64 0, .int .i64 0, .int .i64 0] from (Bx.new w _ _).alloc _)
  have R1 := Lib.hid (show Bx ((w.alloc (.cells #[.int .i64 0, .int .i64 0, .int .i64 0, .int .i64 0] 63)).alloc (.cells #[.int .i64 0, .int .i64 0, .int .i64 0, .int .i64 0] 63)) (w.heap.size + 1) 63 #[.int .i64 0, .int .i64 0, .int .i64 0, .int .i64 0] from Bx.new' (by simp))
  clear h hz
  go_enter Try.func48, Try.ntmps48
  go_wp2_with fail
  refine (s_l1New _ _ _ _ _ H.out HZ.out hn).mono ?_
  rintro e w1 ⟨g, rfl, hc1, hg, b1⟩
  have hg1 : w.heap.size + 2 ≤ g := by simpa using hg
  go_wp2_with fail
  refine (s_l34Two g _ hc1).mono ?_
  rintro e w2 ⟨k, a, b, c, k', a', b', c', rfl, g2⟩
  have B1 := below_alloc (below_alloc b1)
  have R2 := Lib.hid (dr_bx g2 (R0.out.below b1) (show w.heap.size ≠ g by omega))
  have R3 := Lib.hid (dr_bx g2 (R1.out.below b1) (show w.heap.size + 1 ≠ g by omega))
  have B2 := Lib.hid (B1.trans (below_of_grown g2 B1.size (fun k hk => (by injection hk with hk; omega))))
  clear hc1 b1 B1 g2 R0 R1
  obtain ⟨r0, r1, r2, r3, e0, e1, e2, e3⟩ := R2.out.four
  obtain ⟨s0, s1, s2, s3, d0, d1, d2, d3⟩ := R3.out.four
  go_wp2_with fail
  exact bodyPost_ret (v := .tuple #[.agg #[.int .i64 k, .int .i64 a, .int .i64 b, .int .i64 c], .agg #[.int .i64 k', .int .i64 a', .int .i64 b', .int .i64 c']]) (by simp [results, Try.results48, go_sem, r0, r1, r2, r3, s0, s1, s2, s3]) rfl ⟨k, a, b, c, k', a', b', c', rfl, below_put4 (below_put4 B2.out (Nat.le_refl _) _ _ _ _) (by omega) _ _ _ _⟩
set_option maxHeartbeats 3200000 in
theorem s_DrawMergeGates (A : Option Addr) (n cap : Nat) (zs : List Int) (w : World) (h : RdB w A n zs) (hz : ∀ z ∈ zs, 0 ≤ z ∧ z ≤ 255) (hn : n ≤ 1048576) : Calls Try.prog 53 #[.slice A n cap] w (RetTwoB w) := by
  have H := Lib.hid (show RdB ((w.alloc (.cells #[.int .i64 0, .int .i64 0, .int .i64 0, .int .i64 0] 63)).alloc (.cells #[.int .i64 0, .int .i64 0, .int .i64 0, .int .i64 0] 63)) A n zs from ⟨h.1, (h.2.alloc _).alloc _⟩)
  have HZ := Lib.hid hz
  have R0 := Lib.hid (show Bx ((w.alloc (.cells #[.int .i64 0, .int .i64 0, .int .i64 0, .int .i64 0] 63)).alloc (.cells #[.int .i64 0, .int .i64 0, .int .i64 0, .int .i64 0] 63)) w.heap.size 63 #[.int .i64 0, .int .i64 0, .int .i64 0, .int .i64 0] from (Bx.new w _ _).alloc _)
  have R1 := Lib.hid (show Bx ((w.alloc (.cells #[.int .i64 0, .int .i64 0, .int .i64 0, .int .i64 0] 63)).alloc (.cells #[.int .i64 0, .int .i64 0, .int .i64 0, .int .i64 0] 63)) (w.heap.size + 1) 63 #[.int .i64 0, .int .i64 0, .int .i64 0, .int .i64 0] from Bx.new' (by simp))
  clear h hz
  go_enter Try.func53, Try.ntmps53
  go_wp2_with fail
  refine (s_l1New _ _ _ _ _ H.out HZ.out hn).mono ?_
  rintro e w1 ⟨g, rfl, hc1, hg, b1⟩
  have hg1 : w.heap.size + 2 ≤ g := by simpa using hg
  go_wp2_with fail
  refine (s_l34Two g _ hc1).mono ?_
  rintro e w2 ⟨k, a, b, c, k', a', b', c', rfl, g2⟩
  have B1 := below_alloc (below_alloc b1)
  have R2 := Lib.hid (dr_bx g2 (R0.out.below b1) (show w.heap.size ≠ g by omega))
  have R3 := Lib.hid (dr_bx g2 (R1.out.below b1) (show w.heap.size + 1 ≠ g by omega))
  have B2 := Lib.hid (B1.trans (below_of_grown g2 B1.size (fun k hk => (by injection hk with hk; omega))))
  clear hc1 b1 B1 g2 R0 R1
  obtain ⟨r0, r1, r2, r3, e0, e1, e2, e3⟩ := R2.out.four
  obtain ⟨s0, s1, s2, s3, d0, d1, d2, d3⟩ := R3.out.four
  go_wp2_with fail
  exact bodyPost_ret (v := .tuple #[.agg #[.int .i64 k, .int .i64 a, .int .i64 b, .int .i64 c], .agg #[.int .i64 k', .int .i64 a', .int .i64 b', .int .i64 c']]) (by simp [results, Try.results53, go_sem, r0, r1, r2, r3, s0, s1, s2, s3]) rfl ⟨k, a, b, c, k', a', b', c', rfl, below_put4 (below_put4 B2.out (Nat.le_refl _) _ _ _ _) (by omega) _ _ _ _⟩
end Go.Proofs.YtgnallcfahpjmaaR
