/- Contracts of IsValidDOmega, NewDOmega, l3Up, AddDOmega, MulDOmega, NegZOmega, NegDOmega (spec). Where a partial operation is asked: it succeeds. Contracts of AddDOmega, MulDOmega, NegZOmega, NegDOmega (spec). Where a partial operation is asked: it succeeds. -/
import Derived.Test.YtibhikngiceeeaaDom
import Derived.RegionTactic
namespace Go.Proofs.Ytibhikngiceeeaa
open Go.RowKit
set_option linter.unusedVariables false

theorem okD_parts {n : Zw} {k : Int} (h : okD ⟨n, k⟩ = true) : okZ n = true ∧ inB k 0 60 = true ∧ (k = 0 ∨ divZ n = none) ∧ 0 ≤ k ∧ k ≤ 60 := by
  unfold okD at h
  simp only [Bool.and_eq_true, Bool.or_eq_true, beq_iff_eq, Option.isNone_iff_eq_none] at h
  refine ⟨h.1, h.2.1, h.2.2, ?_⟩
  rcases inB_casesQ k 0 60 with ⟨_, h1⟩ | ⟨h1, _⟩
  · exact h1
  · rw [h1] at h; cases h.2.1
/-- A box that holds a number of D[omega], and the frame. -/
def DB (w : World) (g : Nat) (n : Zw) (k : Int) (wx : World) : Prop := Bx wx g 83 #[.int .i64 n.a, .int .i64 n.b, .int .i64 n.c, .int .i64 n.d, .int .i64 k] ∧ Below w.heap.size w wx ∧ w.heap.size ≤ g
abbrev stD (w : World) (g : Nat) (n : Zw) (k : Int) : World := ((((w.setCell ⟨g, 0, none⟩ (.int .i64 n.a)).setCell ⟨g, 1, none⟩ (.int .i64 n.b)).setCell ⟨g, 2, none⟩ (.int .i64 n.c)).setCell ⟨g, 3, none⟩ (.int .i64 n.d)).setCell ⟨g, 4, none⟩ (.int .i64 k)
section
variable {w wx w' : World} {g : Nat} {n n' : Zw} {k k' : Int}
theorem DB.below (h : DB w g n k wx) (hb : Below wx.heap.size wx w') : DB w g n k w' := ⟨h.1.below hb, below_trans h.2.1 hb, h.2.2⟩
theorem DB.alloc (h : DB w g n k wx) (o : Obj) : DB w g n k (wx.alloc o) := h.below ((Below.refl _ _).alloc (Nat.le_refl _) _)
theorem DB.cells (h : DB w g n k wx) : wx.cell? ⟨g, 0, none⟩ = some (.int .i64 n.a) ∧ wx.cell? ⟨g, 1, none⟩ = some (.int .i64 n.b) ∧ wx.cell? ⟨g, 2, none⟩ = some (.int .i64 n.c) ∧ wx.cell? ⟨g, 3, none⟩ = some (.int .i64 n.d) ∧ wx.cell? ⟨g, 4, none⟩ = some (.int .i64 k) ∧ g < wx.heap.size := ⟨h.1.cell 0, h.1.cell 1, h.1.cell 2, h.1.cell 3, h.1.cell 4, h.1.lt⟩
theorem DB.free (h : DB w g n k wx) : wx.frozen? ⟨g, 0, none⟩ = false ∧ wx.frozen? ⟨g, 1, none⟩ = false ∧ wx.frozen? ⟨g, 2, none⟩ = false ∧ wx.frozen? ⟨g, 3, none⟩ = false ∧ wx.frozen? ⟨g, 4, none⟩ = false := ⟨h.1.free 0, h.1.free 1, h.1.free 2, h.1.free 3, h.1.free 4⟩
theorem DB.set (h : DB w g n k wx) (n' : Zw) (k' : Int) : DB w g n' k' (stD wx g n' k') :=
  ⟨((((h.1.set_ 0 _).set_ 1 _).set_ 2 _).set_ 3 _).set_ 4 _, ((((h.2.1.setCell h.2.2 _).setCell h.2.2 _).setCell h.2.2 _).setCell h.2.2 _).setCell h.2.2 _, h.2.2⟩
theorem DB.far4 {g' : Nat} (h : DB w g n k wx) (hne : g ≠ g') (hg : w.heap.size ≤ g') (y : Zw) : DB w g n k (set4 wx g' y) :=
  ⟨(((h.1.far hne _).far hne _).far hne _).far hne _, (((h.2.1.setCell hg _).setCell hg _).setCell hg _).setCell hg _, h.2.2⟩
end
theorem ZB.alloc {w wx : World} {g : Nat} {x : Zw} (h : ZB w g x wx) (o : Obj) : ZB w g x (wx.alloc o) := h.below ((Below.refl _ _).alloc (Nat.le_refl _) _)
theorem near_of {x : Int} (h : -1073741824 ≤ x ∧ x ≤ 1073741824) : nearB x = true := inB_t h.1 h.2
theorem divZ_ok {x m : Zw} (h : divZ x = some m) : okZ m = true := by
  obtain ⟨h1, _, h3⟩ := divZ_some h
  obtain ⟨xa, xb, xc, xd⟩ := okZ_bd h1
  subst h3
  unfold okZ
  dsimp only
  rw [near_of (by omega), near_of (by omega), near_of (by omega), near_of (by omega)]
  rfl
/-- Three boxes of D[omega]: two that are read, one for what comes out. -/
def D3 (w : World) (x y : Dw) (wx : World) : Prop := DB w w.heap.size x.n x.e wx ∧ DB w (w.heap.size + 1) y.n y.e wx ∧ DB w (w.heap.size + 2) Zw.zero 0 wx
theorem D3.below {w wx w' : World} {x y : Dw} (h : D3 w x y wx) (hb : Below wx.heap.size wx w') : D3 w x y w' := ⟨h.1.below hb, h.2.1.below hb, h.2.2.below hb⟩
theorem D3.alloc {w wx : World} {x y : Dw} (h : D3 w x y wx) (o : Obj) : D3 w x y (wx.alloc o) := h.below ((Below.refl _ _).alloc (Nat.le_refl _) _)
theorem D3.new (w : World) (x y : Dw) : D3 w x y (((w.alloc (.cells #[.int .i64 x.n.a, .int .i64 x.n.b, .int .i64 x.n.c, .int .i64 x.n.d, .int .i64 x.e] 83)).alloc (.cells #[.int .i64 y.n.a, .int .i64 y.n.b, .int .i64 y.n.c, .int .i64 y.n.d, .int .i64 y.e] 83)).alloc (.cells #[.int .i64 Zw.zero.a, .int .i64 Zw.zero.b, .int .i64 Zw.zero.c, .int .i64 Zw.zero.d, .int .i64 0] 83)) := by
  have h1 : Below w.heap.size w (w.alloc (.cells #[.int .i64 x.n.a, .int .i64 x.n.b, .int .i64 x.n.c, .int .i64 x.n.d, .int .i64 x.e] 83)) := (Below.refl _ _).alloc (Nat.le_refl _) _
  have h2 := h1.alloc h1.size (.cells #[.int .i64 y.n.a, .int .i64 y.n.b, .int .i64 y.n.c, .int .i64 y.n.d, .int .i64 y.e] 83)
  have hb := h2.alloc h2.size (.cells #[.int .i64 Zw.zero.a, .int .i64 Zw.zero.b, .int .i64 Zw.zero.c, .int .i64 Zw.zero.d, .int .i64 0] 83)
  exact ⟨⟨((Bx.new w _ _).alloc _).alloc _, hb, Nat.le_refl _⟩, ⟨(Bx.new' (by simp)).alloc _, hb, by omega⟩, ⟨Bx.new' (by simp), hb, by omega⟩⟩

set_option maxHeartbeats 1600000 in
theorem s_IsValidD (n : Zw) (k : Int) (w : World) (h : okD ⟨n, k⟩ = true) : Calls Try.prog 158 #[.agg #[.int .i64 n.a, .int .i64 n.b, .int .i64 n.c, .int .i64 n.d, .int .i64 k]] w fun e w' => e = .returned (.bool true) ∧ Below w.heap.size w w' := by
  obtain ⟨hz, hk, hor, hk0, hk1⟩ := okD_parts h
  have HZ := Lib.hid hz
  have HK := Lib.hid hk
  have HOR := Lib.hid hor
  have X0 := Lib.hid (show DB w w.heap.size n k (w.alloc (.cells #[.int .i64 n.a, .int .i64 n.b, .int .i64 n.c, .int .i64 n.d, .int .i64 k] 83)) from ⟨Bx.new w _ _, (Below.refl _ _).alloc (Nat.le_refl _) _, Nat.le_refl _⟩)
  clear h hz hk hor
  go_enter Try.func158, Try.ntmps158
  go_wp2_with fail
  refine (s_DivZ n _ HZ.out).mono ?_
  rintro e w1 ⟨⟨m, ⟨hm, rfl⟩ | ⟨hm, rfl⟩⟩, b1⟩
  · have hk2 : k = 0 := by
      rcases HOR.out with h | h
      · exact h
      · rw [h] at hm; cases hm
    have X1 := Lib.hid ((X0.out.below b1).alloc (.cells #[.int .i64 m.a, .int .i64 m.b, .int .i64 m.c, .int .i64 m.d] 81))
    obtain ⟨p0, p1, p2, p3, p4, pl⟩ := (X0.out.below b1).cells
    clear b1 X0 hm HOR
    subst hk2
    go_wp2_with fail
    refine (s_IsValidZ n _).mono ?_
    rintro e w2 ⟨rfl, b2⟩
    rw [HZ.out]
    have X2 := Lib.hid (X1.out.below b2)
    obtain ⟨q0, q1, q2, q3, q4, ql⟩ := X2.out.cells
    clear b2 X1 p0 p1 p2 p3 p4 pl
    go_wp2_with fail
    refine (s_in _ _ _ _).mono ?_
    rintro e w3 ⟨rfl, rfl⟩
    rw [HK.out]
    go_wp2_with fail
    go_ret
    exact ⟨rfl, X2.out.2.1⟩
  · have X1 := Lib.hid ((X0.out.below b1).alloc (.cells #[.int .i64 0, .int .i64 0, .int .i64 0, .int .i64 0] 81))
    obtain ⟨p0, p1, p2, p3, p4, pl⟩ := (X0.out.below b1).cells
    clear b1 X0 hm HOR
    rw [zero_val]
    go_wp2_with fail
    refine (s_IsValidZ n _).mono ?_
    rintro e w2 ⟨rfl, b2⟩
    rw [HZ.out]
    have X2 := Lib.hid (X1.out.below b2)
    obtain ⟨q0, q1, q2, q3, q4, ql⟩ := X2.out.cells
    clear b2 X1 p0 p1 p2 p3 p4 pl
    go_wp2_with fail
    refine (s_in _ _ _ _).mono ?_
    rintro e w3 ⟨rfl, rfl⟩
    rw [HK.out]
    go_wp2_with fail
    go_ret
    exact ⟨rfl, X2.out.2.1⟩

set_option maxHeartbeats 1600000 in
theorem s_NewD (n : Zw) (K : Nat) (d : Dw) (w : World) (h : newD n K = some d) : Calls Try.prog 178 #[.agg #[.int .i64 n.a, .int .i64 n.b, .int .i64 n.c, .int .i64 n.d], .int .i64 K] w fun e w' => e = .returned (.tuple #[.agg #[.int .i64 d.n.a, .int .i64 d.n.b, .int .i64 d.n.c, .int .i64 d.n.d, .int .i64 d.e], .bool true]) ∧ Below w.heap.size w w' := by
  have hp : okZ n = true ∧ inB K 0 120 = true ∧ (redD K n).2 ≤ 60 ∧ d = ⟨(redD K n).1, ((redD K n).2 : Nat)⟩ := by
    unfold newD at h
    split at h
    · rename_i h1
      simp only [Bool.and_eq_true] at h1
      split at h
      · cases h
      · rename_i h2
        injection h with h
        exact ⟨h1.1, h1.2, by rw [Int.toNat_natCast] at h2; omega, by rw [← h, Int.toNat_natCast]⟩
    · cases h
  obtain ⟨hz, hk, h60, hd⟩ := hp
  obtain ⟨m, j, hmj⟩ : ∃ m j, redD K n = (m, j) := ⟨_, _, rfl⟩
  rw [hmj] at h60 hd
  have hK : K ≤ 120 := by
    rcases inB_casesQ K 0 120 with ⟨_, h1⟩ | ⟨h1, _⟩
    · omega
    · rw [h1] at hk; cases hk
  have HZ := Lib.hid hz
  have HK := Lib.hid hk
  have HM := Lib.hid hmj
  have h1 : Below w.heap.size w (w.alloc (.cells #[.int .i64 n.a, .int .i64 n.b, .int .i64 n.c, .int .i64 n.d] 81)) := (Below.refl _ _).alloc (Nat.le_refl _) _
  have hb := h1.alloc h1.size (.cells #[.int .i64 Zw.zero.a, .int .i64 Zw.zero.b, .int .i64 Zw.zero.c, .int .i64 Zw.zero.d, .int .i64 0] 83)
  have N0 := Lib.hid (show ZB w w.heap.size n ((w.alloc (.cells #[.int .i64 n.a, .int .i64 n.b, .int .i64 n.c, .int .i64 n.d] 81)).alloc (.cells #[.int .i64 Zw.zero.a, .int .i64 Zw.zero.b, .int .i64 Zw.zero.c, .int .i64 Zw.zero.d, .int .i64 0] 83)) from ⟨(Bx.new w _ _).alloc _, hb, Nat.le_refl _⟩)
  have R0 := Lib.hid (show DB w (w.heap.size + 1) Zw.zero 0 ((w.alloc (.cells #[.int .i64 n.a, .int .i64 n.b, .int .i64 n.c, .int .i64 n.d] 81)).alloc (.cells #[.int .i64 Zw.zero.a, .int .i64 Zw.zero.b, .int .i64 Zw.zero.c, .int .i64 Zw.zero.d, .int .i64 0] 83)) from ⟨Bx.new' (by simp), hb, by omega⟩)
  subst hd
  clear h hz hk hmj h1 hb
  go_enter Try.func178, Try.ntmps178
  go_wp2_with fail
  refine (s_IsValidZ n _).mono ?_
  rintro e w1 ⟨rfl, b1⟩
  rw [HZ.out]
  have N1 := Lib.hid (N0.out.below b1)
  have R1 := Lib.hid (R0.out.below b1)
  clear N0 R0 b1
  go_wp2_with fail
  refine (s_in _ _ _ _).mono ?_
  rintro e w2 ⟨rfl, rfl⟩
  rw [HK.out]
  go_wp2_with fail
  go_loopg [1] K (fun r v wr => ∃ y : Zw, r ≤ K ∧ v = .int .i64 r ∧ okZ y = true ∧ redD r y = (m, j) ∧ ZB w w.heap.size y wr ∧ DB w (w.heap.size + 1) Zw.zero 0 wr)
  case atStart => exact ⟨n, Nat.le_refl _, rfl, HZ.out, HM.out, N1.out, R1.out⟩
  case round =>
    obtain ⟨y, hrK, rfl, hy, hr, hn, hd⟩ := hrel
    have HY := Lib.hid hy
    have HR := Lib.hid hr
    have NN := Lib.hid hn
    have RR := Lib.hid hd
    clear hy hr hn hd
    obtain ⟨q0, q1, q2, q3, _⟩ := NN.out.cells
    obtain ⟨r0, r1, r2, r3, r4, rl⟩ := RR.out.cells
    obtain ⟨f0, f1, f2, f3, f4⟩ := RR.out.free
    by_cases h0 : gk = 0
    · subst h0
      have e := HR.out
      rw [redD] at e
      injection e with e1 e2
      subst e1 e2
      go_wp2_with fail
      obtain ⟨c0, c1, c2, c3, c4, _⟩ := (RR.out.set y 0).cells
      simp only [stD] at c0 c1 c2 c3 c4
      exact bodyPost_ret (v := .tuple #[.agg #[.int .i64 y.a, .int .i64 y.b, .int .i64 y.c, .int .i64 y.d, .int .i64 0], .bool true]) (by simp [results, Try.results178, go_sem, c0, c1, c2, c3, c4]) rfl ⟨rfl, (RR.out.set _ _).2.1⟩
    · obtain ⟨gr, rfl⟩ : ∃ gr, gk = gr + 1 := ⟨gk - 1, by omega⟩
      clear h0
      go_wp2_with fail
      refine (s_DivZ y _ HY.out).mono ?_
      rintro e w3 ⟨⟨m', ⟨hm, rfl⟩ | ⟨hm, rfl⟩⟩, b3⟩
      · have N3 := Lib.hid (NN.out.below b3)
        have R3 := Lib.hid (RR.out.below b3)
        obtain ⟨p0, p1, p2, p3, g0, g1, g2, g3⟩ := N3.out.cells
        have hr2 : redD gr m' = (m, j) := by
          have e := HR.out
          rw [redD, hm] at e
          exact e
        have HR2 := Lib.hid hr2
        have HY2 := Lib.hid (divZ_ok hm)
        have nl := (NN.out.below b3).1.lt
        clear hm hr2 b3 NN RR HR q0 q1 q2 q3 r0 r1 r2 r3 r4 rl f0 f1 f2 f3 f4
        go_wp2_with fail
        go_roundg gr
        case measure => omega
        case rel => exact ⟨m', by omega, by go_num, HY2.out, HR2.out, (N3.out.set m').alloc _, (R3.out.far4 (by omega) (Nat.le_refl _) m').alloc _⟩
      · have e := HR.out
        rw [redD, hm] at e
        injection e with e1 e2
        subst e1 e2
        have N3 := Lib.hid ((NN.out.below b3).alloc (.cells #[.int .i64 0, .int .i64 0, .int .i64 0, .int .i64 0] 81))
        have R3 := Lib.hid ((RR.out.below b3).alloc (.cells #[.int .i64 0, .int .i64 0, .int .i64 0, .int .i64 0] 81))
        obtain ⟨p0, p1, p2, p3, _⟩ := N3.out.cells
        obtain ⟨s0, s1, s2, s3, s4, sl⟩ := R3.out.cells
        obtain ⟨g0, g1, g2, g3, g4⟩ := R3.out.free
        rw [zero_val]
        clear hm b3 NN RR HR q0 q1 q2 q3 r0 r1 r2 r3 r4 rl f0 f1 f2 f3 f4
        go_wp2_with fail
        obtain ⟨c0, c1, c2, c3, c4, _⟩ := (R3.out.set y ((gr : Int) + 1)).cells
        simp only [stD] at c0 c1 c2 c3 c4
        exact bodyPost_ret (v := .tuple #[.agg #[.int .i64 y.a, .int .i64 y.b, .int .i64 y.c, .int .i64 y.d, .int .i64 ((gr : Int) + 1)], .bool true]) (by simp [results, Try.results178, go_sem, c0, c1, c2, c3, c4]) rfl ⟨rfl, (R3.out.set _ _).2.1⟩

set_option maxHeartbeats 1600000 in
theorem s_Up (n : Zw) (T : Nat) (m : Zw) (w : World) (hT : T ≤ 1000) (h : upZ T n = some m) : Calls Try.prog 179 #[.agg #[.int .i64 n.a, .int .i64 n.b, .int .i64 n.c, .int .i64 n.d], .int .i64 T] w fun e w' => e = .returned (.tuple #[.agg #[.int .i64 m.a, .int .i64 m.b, .int .i64 m.c, .int .i64 m.d], .bool true]) ∧ Below w.heap.size w w' := by
  have HM := Lib.hid h
  have h1 : Below w.heap.size w (w.alloc (.cells #[.int .i64 n.a, .int .i64 n.b, .int .i64 n.c, .int .i64 n.d] 81)) := (Below.refl _ _).alloc (Nat.le_refl _) _
  have hb := h1.alloc h1.size (.cells #[.int .i64 Zw.zero.a, .int .i64 Zw.zero.b, .int .i64 Zw.zero.c, .int .i64 Zw.zero.d] 81)
  have Z0 := Lib.hid (Z2.new w n)
  clear h h1 hb
  go_enter Try.func179, Try.ntmps179
  go_wp2_with fail
  go_loopg [6] T (fun r v wr => ∃ (i : Nat) (y : Zw), i + r = T ∧ v = .int .i64 i ∧ upZ r y = some m ∧ Z2 w y Zw.zero wr)
  case atStart => exact ⟨0, n, by omega, rfl, HM.out, Z0.out⟩
  case round =>
    obtain ⟨i, y, hi, rfl, hu, hz⟩ := hrel
    have HU := Lib.hid hu
    have ZZ := Lib.hid hz
    clear hu hz
    obtain ⟨q0, q1, q2, q3, _⟩ := ZZ.out.1.cells
    obtain ⟨r0, r1, r2, r3, f0, f1, f2, f3⟩ := ZZ.out.2.cells
    by_cases h0 : gk = 0
    · subst h0
      obtain rfl : i = T := by omega
      have e := HU.out
      rw [upZ] at e
      injection e with e
      subst e
      go_wp2_with fail
      obtain ⟨c0, c1, c2, c3, _⟩ := (ZZ.out.2.set y).cells
      simp only [set4] at c0 c1 c2 c3
      exact bodyPost_ret (v := .tuple #[.agg #[.int .i64 y.a, .int .i64 y.b, .int .i64 y.c, .int .i64 y.d], .bool true]) (by simp [results, Try.results179, go_sem, c0, c1, c2, c3]) rfl ⟨rfl, (ZZ.out.2.set _).2.1⟩
    · obtain ⟨gr, rfl⟩ : ∃ gr, gk = gr + 1 := ⟨gk - 1, by omega⟩
      clear h0
      have e := HU.out
      rw [upZ] at e
      obtain ⟨y2, hy2⟩ : ∃ y2, mulZ y root2 = some y2 := by
        cases hq : mulZ y root2 with
        | none => rw [hq] at e; cases e
        | some y2 => exact ⟨y2, rfl⟩
      rw [hy2] at e
      have HU2 := Lib.hid (show upZ gr y2 = some m from e)
      have HY2 := Lib.hid hy2
      clear e hy2 HU
      have hiT : (i : Int) < (T : Int) := by omega
      go_wp2_with fail
      refine (s_MulZ y root2 y2 _ HY2.out).mono ?_
      rintro e w3 ⟨rfl, b3⟩
      have Z3' := Lib.hid (ZZ.out.below b3)
      obtain ⟨p0, p1, p2, p3, g0, g1, g2, g3⟩ := Z3'.out.1.cells
      have nl := Z3'.out.1.1.lt
      clear b3 ZZ q0 q1 q2 q3 r0 r1 r2 r3 f0 f1 f2 f3
      go_wp2_with fail
      go_roundg gr
      case measure => omega
      case rel => exact ⟨i + 1, y2, by omega, by go_num, HU2.out, (Z3'.out.1.set y2).alloc _, (Z3'.out.2.far (by omega) (Nat.le_refl _) y2).alloc _⟩
end Go.Proofs.Ytibhikngiceeeaa
namespace Go.Proofs.Ytibhikngiceeeaa
open Go.RowKit
set_option linter.unusedVariables false

theorem s_maxD (a b : Nat) (w : World) : Calls Try.prog 120 #[.int .i64 a, .int .i64 b] w fun e w' => e = .returned (.int .i64 (max a b : Nat)) ∧ w = w' := by
  by_cases h : b < a
  · rw [Nat.max_eq_left (by omega)]
    go_enter Try.func120, Try.ntmps120
    go_wp2
    go_ret
    exact ⟨rfl, rfl⟩
  · rw [Nat.max_eq_right (by omega)]
    go_enter Try.func120, Try.ntmps120
    go_wp2
    go_ret
    exact ⟨rfl, rfl⟩
theorem mulD_some {x y z : Dw} (h : mulD x y = some z) : okD x = true ∧ okD y = true ∧ ∃ n, mulZ x.n y.n = some n ∧ newD n (x.e + y.e) = some z := by
  unfold mulD at h
  split at h
  · rename_i h1
    simp only [Bool.and_eq_true] at h1
    cases hm : mulZ x.n y.n with
    | none => rw [hm] at h; cases h
    | some n => rw [hm] at h; exact ⟨h1.1, h1.2, n, rfl, h⟩
  · cases h
theorem maxI_nat (a b : Nat) : maxI a b = (max a b : Nat) := by
  unfold maxI
  split <;> omega
theorem addD_some {x y z : Dw} {ex ey : Nat} (hx : x.e = ex) (hy : y.e = ey) (h : addD x y = some z) : okD x = true ∧ okD y = true ∧ ∃ a b c, upZ (max ex ey - ex) x.n = some a ∧ upZ (max ex ey - ey) y.n = some b ∧ addZ a b = some c ∧ newD c (max ex ey : Nat) = some z := by
  unfold addD at h
  split at h
  · rename_i h1
    simp only [Bool.and_eq_true] at h1
    rw [hx, hy, maxI_nat, show (((max ex ey : Nat) : Int) - (ex : Int)).toNat = max ex ey - ex by omega, show (((max ex ey : Nat) : Int) - (ey : Int)).toNat = max ex ey - ey by omega] at h
    cases ha : upZ (max ex ey - ex) x.n with
    | none => rw [ha] at h; cases h
    | some a =>
      cases hb : upZ (max ex ey - ey) y.n with
      | none => rw [ha, hb] at h; cases h
      | some b =>
        rw [ha, hb] at h
        simp only at h
        cases hc : addZ a b with
        | none => rw [hc] at h; cases h
        | some c => rw [hc] at h; exact ⟨h1.1, h1.2, a, b, c, rfl, rfl, hc, h⟩
  · cases h

set_option maxHeartbeats 1600000 in
theorem s_MulD (x y z : Dw) (w : World) (h : mulD x y = some z) : Calls Try.prog 161 #[.agg #[.int .i64 x.n.a, .int .i64 x.n.b, .int .i64 x.n.c, .int .i64 x.n.d, .int .i64 x.e], .agg #[.int .i64 y.n.a, .int .i64 y.n.b, .int .i64 y.n.c, .int .i64 y.n.d, .int .i64 y.e]] w fun e w' => e = .returned (.tuple #[.agg #[.int .i64 z.n.a, .int .i64 z.n.b, .int .i64 z.n.c, .int .i64 z.n.d, .int .i64 z.e], .bool true]) ∧ Below w.heap.size w w' := by
  obtain ⟨hx, hy, n, hn, hz⟩ := mulD_some h
  obtain ⟨_, _, _, x0, x1⟩ := okD_parts (n := x.n) (k := x.e) hx
  obtain ⟨_, _, _, y0, y1⟩ := okD_parts (n := y.n) (k := y.e) hy
  have HX := Lib.hid hx
  have HY := Lib.hid hy
  have HN := Lib.hid hn
  obtain ⟨S, hS⟩ : ∃ S : Nat, x.e + y.e = S := ⟨(x.e + y.e).toNat, by omega⟩
  rw [hS] at hz
  have HZ := Lib.hid hz
  have HS := Lib.hid hS
  have D0 := Lib.hid (D3.new w x y)
  clear h hx hy hn hz hS
  go_enter Try.func161, Try.ntmps161
  go_wp2_with fail
  refine (s_MulZ x.n y.n n _ HN.out).mono ?_
  rintro e w1 ⟨rfl, b1⟩
  have D1 := Lib.hid ((D0.out.below b1).alloc (.cells #[.int .i64 n.a, .int .i64 n.b, .int .i64 n.c, .int .i64 n.d] 81))
  have L1 := Lib.hid (Bx.new w1 81 #[.int .i64 n.a, .int .i64 n.b, .int .i64 n.c, .int .i64 n.d])
  clear b1 D0
  obtain ⟨p0, p1, p2, p3, p4, pl⟩ := D1.out.1.cells
  go_wp2_with fail
  refine (s_IsValidD x.n x.e _ HX.out).mono ?_
  rintro e w2 ⟨rfl, b2⟩
  have D2 := Lib.hid (D1.out.below b2)
  have L2 := Lib.hid (L1.out.below b2)
  clear b2 D1 L1 p0 p1 p2 p3 p4 pl
  obtain ⟨q0, q1, q2, q3, q4, ql⟩ := D2.out.2.1.cells
  go_wp2_with fail
  refine (s_IsValidD y.n y.e _ HY.out).mono ?_
  rintro e w3 ⟨rfl, b3⟩
  have D3' := Lib.hid (D2.out.below b3)
  have L3 := Lib.hid (L2.out.below b3)
  clear b3 D2 L2 q0 q1 q2 q3 q4 ql
  obtain ⟨p0, p1, p2, p3, p4, pl⟩ := D3'.out.1.cells
  obtain ⟨q0, q1, q2, q3, q4, ql⟩ := D3'.out.2.1.cells
  obtain ⟨l0, l1, l2, l3, _⟩ := L3.out.four
  go_wp2_with fail
  rw [HS.out]
  refine (s_NewD n S z _ HZ.out).mono ?_
  rintro e w4 ⟨rfl, b4⟩
  have D4 := Lib.hid (D3'.out.below b4)
  clear b4 D3' L3 p0 p1 p2 p3 p4 pl q0 q1 q2 q3 q4 ql l0 l1 l2 l3
  obtain ⟨r0, r1, r2, r3, r4, rl⟩ := D4.out.2.2.cells
  obtain ⟨f0, f1, f2, f3, f4⟩ := D4.out.2.2.free
  go_wp2_with fail
  obtain ⟨c0, c1, c2, c3, c4, _⟩ := (D4.out.2.2.set z.n z.e).cells
  simp only [stD] at c0 c1 c2 c3 c4
  exact bodyPost_ret (v := .tuple #[.agg #[.int .i64 z.n.a, .int .i64 z.n.b, .int .i64 z.n.c, .int .i64 z.n.d, .int .i64 z.e], .bool true]) (by simp [results, Try.results161, go_sem, c0, c1, c2, c3, c4]) rfl ⟨rfl, (D4.out.2.2.set _ _).2.1⟩

set_option maxHeartbeats 1600000 in
theorem s_AddD (x y z : Dw) (w : World) (h : addD x y = some z) : Calls Try.prog 162 #[.agg #[.int .i64 x.n.a, .int .i64 x.n.b, .int .i64 x.n.c, .int .i64 x.n.d, .int .i64 x.e], .agg #[.int .i64 y.n.a, .int .i64 y.n.b, .int .i64 y.n.c, .int .i64 y.n.d, .int .i64 y.e]] w fun e w' => e = .returned (.tuple #[.agg #[.int .i64 z.n.a, .int .i64 z.n.b, .int .i64 z.n.c, .int .i64 z.n.d, .int .i64 z.e], .bool true]) ∧ Below w.heap.size w w' := by
  have hxy : okD x = true ∧ okD y = true := by
    unfold addD at h
    split at h
    · rename_i h1
      simpa using h1
    · cases h
  obtain ⟨_, _, _, x0, x1⟩ := okD_parts (n := x.n) (k := x.e) hxy.1
  obtain ⟨_, _, _, y0, y1⟩ := okD_parts (n := y.n) (k := y.e) hxy.2
  clear hxy
  obtain ⟨nx, kx⟩ := x
  obtain ⟨ny, ky⟩ := y
  simp only at x0 x1 y0 y1
  obtain ⟨ex, rfl⟩ : ∃ ex : Nat, kx = ex := ⟨kx.toNat, by omega⟩
  obtain ⟨ey, rfl⟩ : ∃ ey : Nat, ky = ey := ⟨ky.toNat, by omega⟩
  obtain ⟨hx, hy, a, b, c, ha, hb, hc, hz⟩ := addD_some (ex := ex) (ey := ey) rfl rfl h
  obtain ⟨M, hM⟩ : ∃ M, max ex ey = M := ⟨_, rfl⟩
  obtain ⟨t1, ht1⟩ : ∃ t, M - ex = t := ⟨_, rfl⟩
  obtain ⟨t2, ht2⟩ : ∃ t, M - ey = t := ⟨_, rfl⟩
  rw [hM, ht1] at ha
  rw [hM, ht2] at hb
  rw [hM] at hz
  have E1 := Lib.hid (show (M : Int) - (ex : Int) = (t1 : Int) by omega)
  have E2 := Lib.hid (show (M : Int) - (ey : Int) = (t2 : Int) by omega)
  have hM60 : M ≤ 60 := by omega
  have hb1 : t1 ≤ 60 := by omega
  have hb2 : t2 ≤ 60 := by omega
  have HX := Lib.hid hx
  have HY := Lib.hid hy
  have HA := Lib.hid ha
  have HB := Lib.hid hb
  have HC := Lib.hid hc
  have HZ := Lib.hid hz
  have HM := Lib.hid hM
  have D0 := Lib.hid (D3.new w ⟨nx, ex⟩ ⟨ny, ey⟩)
  clear h hx hy ha hb hc hz hM ht1 ht2
  go_enter Try.func162, Try.ntmps162
  go_wp2_with fail
  refine (s_IsValidD nx ex _ HX.out).mono ?_
  rintro e w2 ⟨rfl, b2⟩
  have D2 := Lib.hid (D0.out.below b2)
  clear b2 D0
  obtain ⟨q0, q1, q2, q3, q4, ql⟩ := D2.out.2.1.cells
  go_wp2_with fail
  refine (s_IsValidD ny ey _ HY.out).mono ?_
  rintro e w3 ⟨rfl, b3⟩
  have D3' := Lib.hid (D2.out.below b3)
  clear b3 D2 q0 q1 q2 q3 q4 ql
  obtain ⟨p0, p1, p2, p3, p4, pl⟩ := D3'.out.1.cells
  obtain ⟨q0, q1, q2, q3, q4, ql⟩ := D3'.out.2.1.cells
  go_wp2_with fail
  refine (s_maxD ex ey _).mono ?_
  rintro e w4 ⟨rfl, rfl⟩
  rw [HM.out]
  go_wp2_with fail
  rw [E1.out]
  refine (s_Up nx t1 a _ (by omega) HA.out).mono ?_
  rintro e w5 ⟨rfl, b5⟩
  have D5 := Lib.hid ((D3'.out.below b5).alloc (.cells #[.int .i64 a.a, .int .i64 a.b, .int .i64 a.c, .int .i64 a.d] 81))
  have L5 := Lib.hid (Bx.new w5 81 #[.int .i64 a.a, .int .i64 a.b, .int .i64 a.c, .int .i64 a.d])
  clear b5 D3' p0 p1 p2 p3 p4 pl q0 q1 q2 q3 q4 ql
  obtain ⟨q0, q1, q2, q3, q4, ql⟩ := D5.out.2.1.cells
  go_wp2_with fail
  rw [E2.out]
  refine (s_Up ny t2 b _ (by omega) HB.out).mono ?_
  rintro e w6 ⟨rfl, b6⟩
  have D6 := Lib.hid ((D5.out.below b6).alloc (.cells #[.int .i64 b.a, .int .i64 b.b, .int .i64 b.c, .int .i64 b.d] 81))
  have K6 := Lib.hid (L5.out.below b6)
  have L6 := Lib.hid ((L5.out.below b6).alloc (.cells #[.int .i64 b.a, .int .i64 b.b, .int .i64 b.c, .int .i64 b.d] 81))
  have L7 := Lib.hid (Bx.new w6 81 #[.int .i64 b.a, .int .i64 b.b, .int .i64 b.c, .int .i64 b.d])
  clear b6 D5 L5 q0 q1 q2 q3 q4 ql
  obtain ⟨l0, l1, l2, l3, _⟩ := K6.out.four
  have ll := K6.out.lt
  go_wp2_with fail
  refine (s_AddZ a b c _ HC.out).mono ?_
  rintro e w7 ⟨rfl, b7⟩
  have D7 := Lib.hid ((D6.out.below b7).alloc (.cells #[.int .i64 c.a, .int .i64 c.b, .int .i64 c.c, .int .i64 c.d] 81))
  clear b7 D6 L6 L7 K6 l0 l1 l2 l3 ll
  go_wp2_with fail
  refine (s_NewD c M z _ HZ.out).mono ?_
  rintro e w8 ⟨rfl, b8⟩
  have D8 := Lib.hid (D7.out.below b8)
  clear b8 D7
  obtain ⟨r0, r1, r2, r3, r4, rl⟩ := D8.out.2.2.cells
  obtain ⟨f0, f1, f2, f3, f4⟩ := D8.out.2.2.free
  go_wp2_with fail
  obtain ⟨c0, c1, c2, c3, c4, _⟩ := (D8.out.2.2.set z.n z.e).cells
  simp only [stD] at c0 c1 c2 c3 c4
  exact bodyPost_ret (v := .tuple #[.agg #[.int .i64 z.n.a, .int .i64 z.n.b, .int .i64 z.n.c, .int .i64 z.n.d, .int .i64 z.e], .bool true]) (by simp [results, Try.results162, go_sem, c0, c1, c2, c3, c4]) rfl ⟨rfl, (D8.out.2.2.set _ _).2.1⟩
end Go.Proofs.Ytibhikngiceeeaa
