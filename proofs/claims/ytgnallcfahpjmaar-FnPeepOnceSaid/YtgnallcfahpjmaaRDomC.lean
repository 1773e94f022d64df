/- Contracts of the numbers of Z[omega] (spec): l2Near, IsValidZOmega, l2If, AddZOmega, NegZOmega, MulZOmega, DivSqrt2. Where a partial operation is asked: it succeeds. -/
import Derived.Test.YtgnallcfahpjmaaRDomV
import Derived.Test.YtgnallcfahpjmaaRSmall
import Derived.StillTailTactics
import Derived.Deep.RegionHeld3
namespace Go.Proofs.YtgnallcfahpjmaaR
open Go.RowKit
set_option linter.unusedVariables false

theorem near_bd {x : Int} (h : nearB x = true) : -1073741824 ≤ x ∧ x ≤ 1073741824 := by
  unfold nearB at h
  rcases inB_casesQ x (-1073741824) 1073741824 with ⟨_, h1⟩ | ⟨h1, _⟩
  · exact h1
  · rw [h1] at h; cases h
theorem okZ_near {x : Zw} (h : okZ x = true) : nearB x.a = true ∧ nearB x.b = true ∧ nearB x.c = true ∧ nearB x.d = true := by
  simpa [okZ] using h
theorem okZ_bd {x : Zw} (h : okZ x = true) : (-1073741824 ≤ x.a ∧ x.a ≤ 1073741824) ∧ (-1073741824 ≤ x.b ∧ x.b ≤ 1073741824) ∧ (-1073741824 ≤ x.c ∧ x.c ≤ 1073741824) ∧ (-1073741824 ≤ x.d ∧ x.d ≤ 1073741824) := by
  obtain ⟨h1, h2, h3, h4⟩ := okZ_near h
  exact ⟨near_bd h1, near_bd h2, near_bd h3, near_bd h4⟩
theorem mul_bd {x y : Int} (hx : -1073741824 ≤ x ∧ x ≤ 1073741824) (hy : -1073741824 ≤ y ∧ y ≤ 1073741824) : -1152921504606846976 ≤ x * y ∧ x * y ≤ 1152921504606846976 := by
  have h1 : (x.natAbs : Int) ≤ 1073741824 := by omega
  have h2 : (y.natAbs : Int) ≤ 1073741824 := by omega
  have h3 : x.natAbs * y.natAbs ≤ 1073741824 * 1073741824 := Nat.mul_le_mul (by omega) (by omega)
  rw [← Int.natAbs_mul] at h3
  omega

theorem s_l2Near (n : Int) (w : World) : Calls Try.prog 209 #[.int .i64 n] w fun e w' => e = .returned (.bool (nearB n)) ∧ w = w' := by
  go_enter Try.func209, Try.ntmps209
  go_wp2_with fail
  refine (s_in _ _ _ _).mono ?_
  rintro e w1 ⟨rfl, rfl⟩
  go_wp2_with fail
  go_ret
  exact ⟨rfl, rfl⟩

set_option maxHeartbeats 800000 in
theorem s_IsValidZ (x : Zw) (w : World) : Calls Try.prog 198 #[.agg #[.int .i64 x.a, .int .i64 x.b, .int .i64 x.c, .int .i64 x.d]] w fun e w' => e = .returned (.bool (okZ x)) ∧ Below w.heap.size w w' := by
  have hB : Below w.heap.size w (w.alloc (.cells #[.int .i64 x.a, .int .i64 x.b, .int .i64 x.c, .int .i64 x.d] 136)) := (Below.refl _ _).alloc (Nat.le_refl _) _
  have X0 := Bx.new w 136 #[.int .i64 x.a, .int .i64 x.b, .int .i64 x.c, .int .i64 x.d]
  obtain ⟨q0, q1, q2, q3, _⟩ := X0.four
  have HB := Lib.hid hB
  clear hB X0
  have e0 : okZ x = (nearB x.a && (nearB x.b && (nearB x.c && nearB x.d))) := rfl
  rw [e0]
  clear e0
  obtain ⟨na, ha⟩ : ∃ y, nearB x.a = y := ⟨_, rfl⟩
  obtain ⟨nb, hb⟩ : ∃ y, nearB x.b = y := ⟨_, rfl⟩
  obtain ⟨nc, hc⟩ : ∃ y, nearB x.c = y := ⟨_, rfl⟩
  obtain ⟨nd, hd⟩ : ∃ y, nearB x.d = y := ⟨_, rfl⟩
  rw [ha, hb, hc, hd]
  have HA := Lib.hid ha
  have HB' := Lib.hid hb
  have HC := Lib.hid hc
  have HD := Lib.hid hd
  clear ha hb hc hd
  go_enter Try.func198, Try.ntmps198
  go_wp2_with fail
  refine (s_l2Near _ _).mono ?_
  rintro e w1 ⟨rfl, rfl⟩
  rw [HA.out]
  cases na
  · go_wp2_with fail
    go_ret
    exact ⟨rfl, HB.out⟩
  · go_wp2_with fail
    refine (s_l2Near _ _).mono ?_
    rintro e w1 ⟨rfl, rfl⟩
    rw [HB'.out]
    cases nb
    · go_wp2_with fail
      go_ret
      exact ⟨rfl, HB.out⟩
    · go_wp2_with fail
      refine (s_l2Near _ _).mono ?_
      rintro e w1 ⟨rfl, rfl⟩
      rw [HC.out]
      cases nc
      · go_wp2_with fail
        go_ret
        exact ⟨rfl, HB.out⟩
      · go_wp2_with fail
        refine (s_l2Near _ _).mono ?_
        rintro e w1 ⟨rfl, rfl⟩
        rw [HD.out]
        go_wp2_with fail
        go_ret
        exact ⟨by cases nd <;> rfl, HB.out⟩

/-- A box that holds a number of Z[omega], and the frame. -/
def ZB (w : World) (g : Nat) (x : Zw) (wx : World) : Prop := Bx wx g 136 #[.int .i64 x.a, .int .i64 x.b, .int .i64 x.c, .int .i64 x.d] ∧ Below w.heap.size w wx ∧ w.heap.size ≤ g
section
variable {w wx w' : World} {g : Nat} {x y : Zw}
theorem ZB.below (h : ZB w g x wx) (hb : Below wx.heap.size wx w') : ZB w g x w' := ⟨h.1.below hb, below_trans h.2.1 hb, h.2.2⟩
theorem ZB.cells (h : ZB w g x wx) : wx.cell? ⟨g, 0, none⟩ = some (.int .i64 x.a) ∧ wx.cell? ⟨g, 1, none⟩ = some (.int .i64 x.b) ∧ wx.cell? ⟨g, 2, none⟩ = some (.int .i64 x.c) ∧ wx.cell? ⟨g, 3, none⟩ = some (.int .i64 x.d) ∧ wx.frozen? ⟨g, 0, none⟩ = false ∧ wx.frozen? ⟨g, 1, none⟩ = false ∧ wx.frozen? ⟨g, 2, none⟩ = false ∧ wx.frozen? ⟨g, 3, none⟩ = false := h.1.four
abbrev set4 (w : World) (g : Nat) (y : Zw) : World := (((w.setCell ⟨g, 0, none⟩ (.int .i64 y.a)).setCell ⟨g, 1, none⟩ (.int .i64 y.b)).setCell ⟨g, 2, none⟩ (.int .i64 y.c)).setCell ⟨g, 3, none⟩ (.int .i64 y.d)
theorem ZB.set (h : ZB w g x wx) (y : Zw) : ZB w g y (set4 wx g y) := by
  refine ⟨(((h.1.set_ 0 _).set_ 1 _).set_ 2 _).set_ 3 _, ?_, h.2.2⟩
  exact (((h.2.1.setCell h.2.2 _).setCell h.2.2 _).setCell h.2.2 _).setCell h.2.2 _
theorem ZB.far {g' : Nat} (h : ZB w g x wx) (hne : g ≠ g') (hg : w.heap.size ≤ g') (y : Zw) : ZB w g x (set4 wx g' y) :=
  ⟨(((h.1.far hne _).far hne _).far hne _).far hne _, (((h.2.1.setCell hg _).setCell hg _).setCell hg _).setCell hg _, h.2.2⟩
end

set_option maxHeartbeats 800000 in
theorem s_l2If (x : Zw) (w : World) (h : okZ x = true) : Calls Try.prog 211 #[.agg #[.int .i64 x.a, .int .i64 x.b, .int .i64 x.c, .int .i64 x.d]] w fun e w' => e = .returned (.tuple #[.agg #[.int .i64 x.a, .int .i64 x.b, .int .i64 x.c, .int .i64 x.d], .bool true]) ∧ Below w.heap.size w w' := by
  have H := Lib.hid h
  have X0 := Lib.hid (show ZB w w.heap.size x ((w.alloc (.cells #[.int .i64 x.a, .int .i64 x.b, .int .i64 x.c, .int .i64 x.d] 136)).alloc (.cells #[.int .i64 Zw.zero.a, .int .i64 Zw.zero.b, .int .i64 Zw.zero.c, .int .i64 Zw.zero.d] 136)) from ⟨(Bx.new w _ _).alloc _, ((Below.refl _ _).alloc (Nat.le_refl _) _).alloc (by simp) _, Nat.le_refl _⟩)
  have R0 := Lib.hid (show ZB w (w.heap.size + 1) Zw.zero ((w.alloc (.cells #[.int .i64 x.a, .int .i64 x.b, .int .i64 x.c, .int .i64 x.d] 136)).alloc (.cells #[.int .i64 Zw.zero.a, .int .i64 Zw.zero.b, .int .i64 Zw.zero.c, .int .i64 Zw.zero.d] 136)) from ⟨Bx.new' (by simp), ((Below.refl _ _).alloc (Nat.le_refl _) _).alloc (by simp) _, by omega⟩)
  clear h
  go_enter Try.func211, Try.ntmps211
  go_wp2_with fail
  refine (s_IsValidZ x _).mono ?_
  rintro e w1 ⟨rfl, b1⟩
  rw [H.out]
  have X1 := Lib.hid (X0.out.below b1)
  have R1 := Lib.hid (R0.out.below b1)
  clear b1 X0 R0
  obtain ⟨q0, q1, q2, q3, _⟩ := X1.out.cells
  obtain ⟨r0, r1, r2, r3, f0, f1, f2, f3⟩ := R1.out.cells
  go_wp2_with fail
  obtain ⟨c0, c1, c2, c3, _⟩ := (R1.out.set x).cells
  simp only [set4] at c0 c1 c2 c3
  exact bodyPost_ret (v := .tuple #[.agg #[.int .i64 x.a, .int .i64 x.b, .int .i64 x.c, .int .i64 x.d], .bool true]) (by simp [results, Try.results211, go_sem, c0, c1, c2, c3]) rfl ⟨rfl, (R1.out.set x).2.1⟩

theorem addZ_some {x y z : Zw} (h : addZ x y = some z) : okZ x = true ∧ okZ y = true ∧ okZ z = true ∧ z = ⟨x.a + y.a, x.b + y.b, x.c + y.c, x.d + y.d⟩ := by
  unfold addZ at h
  split at h
  · rename_i h1
    simp only [Bool.and_eq_true] at h1
    unfold ifZ at h
    split at h
    · rename_i h2
      injection h with h
      subst h
      exact ⟨h1.1, h1.2, h2, rfl⟩
    · cases h
  · cases h
theorem mulZ_some {x y z : Zw} (h : mulZ x y = some z) : okZ x = true ∧ okZ y = true ∧ okZ z = true ∧ z = timesZ x y := by
  unfold mulZ at h
  split at h
  · rename_i h1
    simp only [Bool.and_eq_true] at h1
    unfold ifZ at h
    split at h
    · rename_i h2
      injection h with h
      subst h
      exact ⟨h1.1, h1.2, h2, rfl⟩
    · cases h
  · cases h
/-- Three boxes: two that are read, one for what comes out. -/
def Z3 (w : World) (x y r : Zw) (wx : World) : Prop := ZB w w.heap.size x wx ∧ ZB w (w.heap.size + 1) y wx ∧ ZB w (w.heap.size + 2) r wx
theorem Z3.below {w wx w' : World} {x y r : Zw} (h : Z3 w x y r wx) (hb : Below wx.heap.size wx w') : Z3 w x y r w' := ⟨h.1.below hb, h.2.1.below hb, h.2.2.below hb⟩
theorem Z3.new (w : World) (x y : Zw) : Z3 w x y Zw.zero (((w.alloc (.cells #[.int .i64 x.a, .int .i64 x.b, .int .i64 x.c, .int .i64 x.d] 136)).alloc (.cells #[.int .i64 y.a, .int .i64 y.b, .int .i64 y.c, .int .i64 y.d] 136)).alloc (.cells #[.int .i64 Zw.zero.a, .int .i64 Zw.zero.b, .int .i64 Zw.zero.c, .int .i64 Zw.zero.d] 136)) := by
  have h1 : Below w.heap.size w (w.alloc (.cells #[.int .i64 x.a, .int .i64 x.b, .int .i64 x.c, .int .i64 x.d] 136)) := (Below.refl _ _).alloc (Nat.le_refl _) _
  have h2 := h1.alloc h1.size (.cells #[.int .i64 y.a, .int .i64 y.b, .int .i64 y.c, .int .i64 y.d] 136)
  have hb := h2.alloc h2.size (.cells #[.int .i64 Zw.zero.a, .int .i64 Zw.zero.b, .int .i64 Zw.zero.c, .int .i64 Zw.zero.d] 136)
  exact ⟨⟨((Bx.new w _ _).alloc _).alloc _, hb, Nat.le_refl _⟩, ⟨(Bx.new' (by simp)).alloc _, hb, by omega⟩, ⟨Bx.new' (by simp), hb, by omega⟩⟩

set_option maxHeartbeats 1600000 in
theorem s_AddZ (x y z : Zw) (w : World) (h : addZ x y = some z) : Calls Try.prog 206 #[.agg #[.int .i64 x.a, .int .i64 x.b, .int .i64 x.c, .int .i64 x.d], .agg #[.int .i64 y.a, .int .i64 y.b, .int .i64 y.c, .int .i64 y.d]] w fun e w' => e = .returned (.tuple #[.agg #[.int .i64 z.a, .int .i64 z.b, .int .i64 z.c, .int .i64 z.d], .bool true]) ∧ Below w.heap.size w w' := by
  obtain ⟨hx, hy, hz, he⟩ := addZ_some h
  have HE := Lib.hid he
  rw [he] at hz
  have HX := Lib.hid hx
  have HY := Lib.hid hy
  have HZ := Lib.hid hz
  have bx := okZ_bd hx
  have b_y := okZ_bd hy
  have Z0 := Lib.hid (Z3.new w x y)
  clear h hx hy hz he
  go_enter Try.func206, Try.ntmps206
  go_wp2_with fail
  refine (s_IsValidZ x _).mono ?_
  rintro e w1 ⟨rfl, b1⟩
  rw [HX.out]
  have Z1 := Lib.hid (Z0.out.below b1)
  clear b1 Z0
  obtain ⟨p0, p1, p2, p3, _⟩ := Z1.out.2.1.cells
  go_wp2_with fail
  refine (s_IsValidZ y _).mono ?_
  rintro e w2 ⟨rfl, b2⟩
  rw [HY.out]
  have Z2 := Lib.hid (Z1.out.below b2)
  clear b2 Z1 p0 p1 p2 p3
  obtain ⟨q0, q1, q2, q3, _⟩ := Z2.out.1.cells
  obtain ⟨p0, p1, p2, p3, _⟩ := Z2.out.2.1.cells
  go_wp2_with fail
  refine (s_l2If ⟨x.a + y.a, x.b + y.b, x.c + y.c, x.d + y.d⟩ _ HZ.out).mono ?_
  rintro e w3 ⟨rfl, b3⟩
  have Z4 := Lib.hid (Z2.out.below b3)
  clear b3 Z2 p0 p1 p2 p3 q0 q1 q2 q3 bx b_y
  have e0 := congrArg Zw.a HE.out
  have e1 := congrArg Zw.b HE.out
  have e2 := congrArg Zw.c HE.out
  have e3 := congrArg Zw.d HE.out
  simp only at e0 e1 e2 e3
  rw [← e0, ← e1, ← e2, ← e3]
  clear e0 e1 e2 e3
  obtain ⟨r0, r1, r2, r3, f0, f1, f2, f3⟩ := Z4.out.2.2.cells
  go_wp2_with fail
  obtain ⟨c0, c1, c2, c3, _⟩ := (Z4.out.2.2.set z).cells
  simp only [set4] at c0 c1 c2 c3
  exact bodyPost_ret (v := .tuple #[.agg #[.int .i64 z.a, .int .i64 z.b, .int .i64 z.c, .int .i64 z.d], .bool true]) (by simp [results, Try.results206, go_sem, c0, c1, c2, c3]) rfl ⟨rfl, (Z4.out.2.2.set _).2.1⟩

set_option maxHeartbeats 1600000 in
theorem s_MulZ (x y z : Zw) (w : World) (h : mulZ x y = some z) : Calls Try.prog 203 #[.agg #[.int .i64 x.a, .int .i64 x.b, .int .i64 x.c, .int .i64 x.d], .agg #[.int .i64 y.a, .int .i64 y.b, .int .i64 y.c, .int .i64 y.d]] w fun e w' => e = .returned (.tuple #[.agg #[.int .i64 z.a, .int .i64 z.b, .int .i64 z.c, .int .i64 z.d], .bool true]) ∧ Below w.heap.size w w' := by
  obtain ⟨hx, hy, hz, he⟩ := mulZ_some h
  have HE := Lib.hid he
  rw [he] at hz
  have HX := Lib.hid hx
  have HY := Lib.hid hy
  have HZ := Lib.hid hz
  have BX := Lib.hid (okZ_bd hx)
  have BY := Lib.hid (okZ_bd hy)
  have Z0 := Lib.hid (Z3.new w x y)
  clear h hx hy hz he
  go_enter Try.func203, Try.ntmps203
  go_wp2_with fail
  refine (s_IsValidZ x _).mono ?_
  rintro e w1 ⟨rfl, b1⟩
  rw [HX.out]
  have Z1 := Lib.hid (Z0.out.below b1)
  clear b1 Z0
  obtain ⟨p0, p1, p2, p3, _⟩ := Z1.out.2.1.cells
  go_wp2_with fail
  refine (s_IsValidZ y _).mono ?_
  rintro e w2 ⟨rfl, b2⟩
  rw [HY.out]
  have Z2 := Lib.hid (Z1.out.below b2)
  clear b2 Z1 p0 p1 p2 p3
  obtain ⟨q0, q1, q2, q3, _⟩ := Z2.out.1.cells
  obtain ⟨p0, p1, p2, p3, _⟩ := Z2.out.2.1.cells
  obtain ⟨xa, xb, xc, xd⟩ := BX.out
  obtain ⟨ya, yb, yc, yd⟩ := BY.out
  have maa := mul_bd xa ya
  have mab := mul_bd xa yb
  have mac := mul_bd xa yc
  have mad := mul_bd xa yd
  have mba := mul_bd xb ya
  have mbb := mul_bd xb yb
  have mbc := mul_bd xb yc
  have mbd := mul_bd xb yd
  have mca := mul_bd xc ya
  have mcb := mul_bd xc yb
  have mcc := mul_bd xc yc
  have mcd := mul_bd xc yd
  have mda := mul_bd xd ya
  have mdb := mul_bd xd yb
  have mdc := mul_bd xd yc
  have mdd := mul_bd xd yd
  clear xa xb xc xd ya yb yc yd
  go_wp2_with fail
  refine (s_l2If (timesZ x y) _ HZ.out).mono ?_
  rintro e w3 ⟨rfl, b3⟩
  have Z4 := Lib.hid (Z2.out.below b3)
  clear b3 Z2 p0 p1 p2 p3 q0 q1 q2 q3
  obtain ⟨r0, r1, r2, r3, f0, f1, f2, f3⟩ := Z4.out.2.2.cells
  rw [← HE.out]
  go_wp2_with fail
  obtain ⟨c0, c1, c2, c3, _⟩ := (Z4.out.2.2.set z).cells
  simp only [set4] at c0 c1 c2 c3
  exact bodyPost_ret (v := .tuple #[.agg #[.int .i64 z.a, .int .i64 z.b, .int .i64 z.c, .int .i64 z.d], .bool true]) (by simp [results, Try.results203, go_sem, c0, c1, c2, c3]) rfl ⟨rfl, (Z4.out.2.2.set _).2.1⟩
end Go.Proofs.YtgnallcfahpjmaaR
