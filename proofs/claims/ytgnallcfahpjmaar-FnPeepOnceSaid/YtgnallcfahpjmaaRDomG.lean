/- Contracts of IsValidDOmega, NewDOmega, l3Up, AddDOmega, MulDOmega, NegZOmega, NegDOmega (spec). Where a partial operation is asked: it succeeds. -/
import Derived.Test.YtgnallcfahpjmaaRDomE
namespace Go.Proofs.YtgnallcfahpjmaaR
open Go.RowKit
set_option linter.unusedVariables false

theorem okD_parts {n : Zw} {k : Int} (h : okD ⟨n, k⟩ = true) : okZ n = true ∧ inB k 0 60 = true ∧ (k = 0 ∨ divZ n = none) ∧ 0 ≤ k ∧ k ≤ 60 := by
  unfold okD at h
  simp only [Bool.and_eq_true, Bool.or_eq_true, beq_iff_eq, Option.isNone_iff_eq_none] at h
  refine ⟨h.1, h.2.1, h.2.2, ?_⟩
  rcases inB_casesQ k 0 60 with ⟨_, h1⟩ | ⟨h1, _⟩
  · exact h1
  · rw [h1] at h; cases h.2.1
/-- A box that holds a number of D[omega], and the frame. -/
def DB (w : World) (g : Nat) (n : Zw) (k : Int) (wx : World) : Prop := Bx wx g 138 #[.int .i64 n.a, .int .i64 n.b, .int .i64 n.c, .int .i64 n.d, .int .i64 k] ∧ Below w.heap.size w wx ∧ w.heap.size ≤ g
abbrev stD (w : World) (g : Nat) (n : Zw) (k : Int) : World := ((((w.setCell ⟨g, 0, none⟩ (.int .i64 n.a)).setCell ⟨g, 1, none⟩ (.int .i64 n.b)).setCell ⟨g, 2, none⟩ (.int .i64 n.c)).setCell ⟨g, 3, none⟩ (.int .i64 n.d)).setCell ⟨g, 4, none⟩ (.int .i64 k)
section
variable {w wx w' : World} {g : Nat} {n n' : Zw} {k k' : Int}
theorem DB.below (h : DB w g n k wx) (hb : Below wx.heap.size wx w') : DB w g n k w' := ⟨h.1.below hb, below_trans h.2.1 hb, h.2.2⟩
theorem DB.alloc (h : DB w g n k wx) (o : Obj) : DB w g n k (wx.alloc o) := h.below ((Below.refl _ _).alloc (Nat.le_refl _) _)
theorem DB.cells (h : DB w g n k wx) : wx.cell? ⟨g, 0, none⟩ = some (.int .i64 n.a) ∧ wx.cell? ⟨g, 1, none⟩ = some (.int .i64 n.b) ∧ wx.cell? ⟨g, 2, none⟩ = some (.int .i64 n.c) ∧ wx.cell? ⟨g, 3, none⟩ = some (.int .i64 n.d) ∧ wx.cell? ⟨g, 4, none⟩ = some (.int .i64 k) ∧ g < wx.heap.size := ⟨h.1.cell 0, h.1.cell 1, h.1.cell 2, h.1.cell 3, h.1.cell 4, h.1.lt⟩
theorem DB.free (h : DB w g n k wx) : wx.frozen? ⟨g, 0, none⟩ = false ∧ wx.frozen? ⟨g, 1, none⟩ = false ∧ wx.frozen? ⟨g, 2, none⟩ = false ∧ wx.frozen? ⟨g, 3, none⟩ = false ∧ wx.frozen? ⟨g, 4, none⟩ = false := ⟨h.1.free 0, h.1.free 1, h.1.free 2, h.1.free 3, h.1.free 4⟩
theorem DB.set (h : DB w g n k wx) (n' : Zw) (k' : Int) : DB w g n' k' (stD wx g n' k') :=
  ⟨((((h.1.set_ 0 _).set_ 1 _).set_ 2 _).set_ 3 _).set_ 4 _, ((((h.2.1.setCell h.2.2 _).setCell h.2.2 _).setCell h.2.2 _).setCell h.2.2 _).setCell h.2.2 _, h.2.2⟩
theorem DB.far4 {g' : Nat} (h : DB w g n k wx) (hne : g ≠ g') (hg : w.heap.size ≤ g') (y : Zw) : DB w g n k (set4 wx g' y) :=
  ⟨(((h.1.far hne _).far hne _).far hne _).far hne _, (((h.2.1.setCell hg _).setCell hg _).setCell hg _).setCell hg _, h.2.2⟩
end
theorem ZB.alloc {w wx : World} {g : Nat} {x : Zw} (h : ZB w g x wx) (o : Obj) : ZB w g x (wx.alloc o) := h.below ((Below.refl _ _).alloc (Nat.le_refl _) _)
theorem near_of {x : Int} (h : -1073741824 ≤ x ∧ x ≤ 1073741824) : nearB x = true := inB_t h.1 h.2
theorem divZ_ok {x m : Zw} (h : divZ x = some m) : okZ m = true := by
  obtain ⟨h1, _, h3⟩ := divZ_some h
  obtain ⟨xa, xb, xc, xd⟩ := okZ_bd h1
  subst h3
  unfold okZ
  dsimp only
  rw [near_of (by omega), near_of (by omega), near_of (by omega), near_of (by omega)]
  rfl
/-- Three boxes of D[omega]: two that are read, one for what comes out. -/
def D3 (w : World) (x y : Dw) (wx : World) : Prop := DB w w.heap.size x.n x.e wx ∧ DB w (w.heap.size + 1) y.n y.e wx ∧ DB w (w.heap.size + 2) Zw.zero 0 wx
theorem D3.below {w wx w' : World} {x y : Dw} (h : D3 w x y wx) (hb : Below wx.heap.size wx w') : D3 w x y w' := ⟨h.1.below hb, h.2.1.below hb, h.2.2.below hb⟩
theorem D3.alloc {w wx : World} {x y : Dw} (h : D3 w x y wx) (o : Obj) : D3 w x y (wx.alloc o) := h.below ((Below.refl _ _).alloc (Nat.le_refl _) _)
theorem D3.new (w : World) (x y : Dw) : D3 w x y (((w.alloc (.cells #[.int .i64 x.n.a, .int .i64 x.n.b, .int .i64 x.n.c, .int .i64 x.n.d, .int .i64 x.e] 138)).alloc (.cells #[.int .i64 y.n.a, .int .i64 y.n.b, .int .i64 y.n.c, .int .i64 y.n.d, .int .i64 y.e] 138)).alloc (.cells #[.int .i64 Zw.zero.a, .int .i64 Zw.zero.b, .int .i64 Zw.zero.c, .int .i64 Zw.zero.d, .int .i64 0] 138)) := by
  have h1 : Below w.heap.size w (w.alloc (.cells #[.int .i64 x.n.a, .int .i64 x.n.b, .int .i64 x.n.c, .int .i64 x.n.d, .int .i64 x.e] 138)) := (Below.refl _ _).alloc (Nat.le_refl _) _
  have h2 := h1.alloc h1.size (.cells #[.int .i64 y.n.a, .int .i64 y.n.b, .int .i64 y.n.c, .int .i64 y.n.d, .int .i64 y.e] 138)
  have hb := h2.alloc h2.size (.cells #[.int .i64 Zw.zero.a, .int .i64 Zw.zero.b, .int .i64 Zw.zero.c, .int .i64 Zw.zero.d, .int .i64 0] 138)
  exact ⟨⟨((Bx.new w _ _).alloc _).alloc _, hb, Nat.le_refl _⟩, ⟨(Bx.new' (by simp)).alloc _, hb, by omega⟩, ⟨Bx.new' (by simp), hb, by omega⟩⟩

set_option maxHeartbeats 1600000 in
theorem s_IsValidD (n : Zw) (k : Int) (w : World) (h : okD ⟨n, k⟩ = true) : Calls Try.prog 190 #[.agg #[.int .i64 n.a, .int .i64 n.b, .int .i64 n.c, .int .i64 n.d, .int .i64 k]] w fun e w' => e = .returned (.bool true) ∧ Below w.heap.size w w' := by
  obtain ⟨hz, hk, hor, hk0, hk1⟩ := okD_parts h
  have HZ := Lib.hid hz
  have HK := Lib.hid hk
  have HOR := Lib.hid hor
  have X0 := Lib.hid (show DB w w.heap.size n k (w.alloc (.cells #[.int .i64 n.a, .int .i64 n.b, .int .i64 n.c, .int .i64 n.d, .int .i64 k] 138)) from ⟨Bx.new w _ _, (Below.refl _ _).alloc (Nat.le_refl _) _, Nat.le_refl _⟩)
  clear h hz hk hor
  go_enter Try.func190, Try.ntmps190
  go_wp2_with fail
  refine (s_DivZ n _ HZ.out).mono ?_
  rintro e w1 ⟨⟨m, ⟨hm, rfl⟩ | ⟨hm, rfl⟩⟩, b1⟩
  · have hk2 : k = 0 := by
      rcases HOR.out with h | h
      · exact h
      · rw [h] at hm; cases hm
    have X1 := Lib.hid ((X0.out.below b1).alloc (.cells #[.int .i64 m.a, .int .i64 m.b, .int .i64 m.c, .int .i64 m.d] 136))
    obtain ⟨p0, p1, p2, p3, p4, pl⟩ := (X0.out.below b1).cells
    clear b1 X0 hm HOR
    subst hk2
    go_wp2_with fail
    refine (s_IsValidZ n _).mono ?_
    rintro e w2 ⟨rfl, b2⟩
    rw [HZ.out]
    have X2 := Lib.hid (X1.out.below b2)
    obtain ⟨q0, q1, q2, q3, q4, ql⟩ := X2.out.cells
    clear b2 X1 p0 p1 p2 p3 p4 pl
    go_wp2_with fail
    refine (s_in _ _ _ _).mono ?_
    rintro e w3 ⟨rfl, rfl⟩
    rw [HK.out]
    go_wp2_with fail
    go_ret
    exact ⟨rfl, X2.out.2.1⟩
  · have X1 := Lib.hid ((X0.out.below b1).alloc (.cells #[.int .i64 0, .int .i64 0, .int .i64 0, .int .i64 0] 136))
    obtain ⟨p0, p1, p2, p3, p4, pl⟩ := (X0.out.below b1).cells
    clear b1 X0 hm HOR
    rw [zero_val]
    go_wp2_with fail
    refine (s_IsValidZ n _).mono ?_
    rintro e w2 ⟨rfl, b2⟩
    rw [HZ.out]
    have X2 := Lib.hid (X1.out.below b2)
    obtain ⟨q0, q1, q2, q3, q4, ql⟩ := X2.out.cells
    clear b2 X1 p0 p1 p2 p3 p4 pl
    go_wp2_with fail
    refine (s_in _ _ _ _).mono ?_
    rintro e w3 ⟨rfl, rfl⟩
    rw [HK.out]
    go_wp2_with fail
    go_ret
    exact ⟨rfl, X2.out.2.1⟩

set_option maxHeartbeats 1600000 in
theorem s_NewD (n : Zw) (K : Nat) (d : Dw) (w : World) (h : newD n K = some d) : Calls Try.prog 204 #[.agg #[.int .i64 n.a, .int .i64 n.b, .int .i64 n.c, .int .i64 n.d], .int .i64 K] w fun e w' => e = .returned (.tuple #[.agg #[.int .i64 d.n.a, .int .i64 d.n.b, .int .i64 d.n.c, .int .i64 d.n.d, .int .i64 d.e], .bool true]) ∧ Below w.heap.size w w' := by
  have hp : okZ n = true ∧ inB K 0 120 = true ∧ (redD K n).2 ≤ 60 ∧ d = ⟨(redD K n).1, ((redD K n).2 : Nat)⟩ := by
    unfold newD at h
    split at h
    · rename_i h1
      simp only [Bool.and_eq_true] at h1
      split at h
      · cases h
      · rename_i h2
        injection h with h
        exact ⟨h1.1, h1.2, by rw [Int.toNat_natCast] at h2; omega, by rw [← h, Int.toNat_natCast]⟩
    · cases h
  obtain ⟨hz, hk, h60, hd⟩ := hp
  obtain ⟨m, j, hmj⟩ : ∃ m j, redD K n = (m, j) := ⟨_, _, rfl⟩
  rw [hmj] at h60 hd
  have hK : K ≤ 120 := by
    rcases inB_casesQ K 0 120 with ⟨_, h1⟩ | ⟨h1, _⟩
    · omega
    · rw [h1] at hk; cases hk
  have HZ := Lib.hid hz
  have HK := Lib.hid hk
  have HM := Lib.hid hmj
  have h1 : Below w.heap.size w (w.alloc (.cells #[.int .i64 n.a, .int .i64 n.b, .int .i64 n.c, .int .i64 n.d] 136)) := (Below.refl _ _).alloc (Nat.le_refl _) _
  have hb := h1.alloc h1.size (.cells #[.int .i64 Zw.zero.a, .int .i64 Zw.zero.b, .int .i64 Zw.zero.c, .int .i64 Zw.zero.d, .int .i64 0] 138)
  have N0 := Lib.hid (show ZB w w.heap.size n ((w.alloc (.cells #[.int .i64 n.a, .int .i64 n.b, .int .i64 n.c, .int .i64 n.d] 136)).alloc (.cells #[.int .i64 Zw.zero.a, .int .i64 Zw.zero.b, .int .i64 Zw.zero.c, .int .i64 Zw.zero.d, .int .i64 0] 138)) from ⟨(Bx.new w _ _).alloc _, hb, Nat.le_refl _⟩)
  have R0 := Lib.hid (show DB w (w.heap.size + 1) Zw.zero 0 ((w.alloc (.cells #[.int .i64 n.a, .int .i64 n.b, .int .i64 n.c, .int .i64 n.d] 136)).alloc (.cells #[.int .i64 Zw.zero.a, .int .i64 Zw.zero.b, .int .i64 Zw.zero.c, .int .i64 Zw.zero.d, .int .i64 0] 138)) from ⟨Bx.new' (by simp), hb, by omega⟩)
  subst hd
  clear h hz hk hmj h1 hb
  go_enter Try.func204, Try.ntmps204
  go_wp2_with fail
  refine (s_IsValidZ n _).mono ?_
  rintro e w1 ⟨rfl, b1⟩
  rw [HZ.out]
  have N1 := Lib.hid (N0.out.below b1)
  have R1 := Lib.hid (R0.out.below b1)
  clear N0 R0 b1
  go_wp2_with fail
  refine (s_in _ _ _ _).mono ?_
  rintro e w2 ⟨rfl, rfl⟩
  rw [HK.out]
  go_wp2_with fail
  go_loopg [1] K (fun r v wr => ∃ y : Zw, r ≤ K ∧ v = .int .i64 r ∧ okZ y = true ∧ redD r y = (m, j) ∧ ZB w w.heap.size y wr ∧ DB w (w.heap.size + 1) Zw.zero 0 wr)
  case atStart => exact ⟨n, Nat.le_refl _, rfl, HZ.out, HM.out, N1.out, R1.out⟩
  case round =>
    obtain ⟨y, hrK, rfl, hy, hr, hn, hd⟩ := hrel
    have HY := Lib.hid hy
    have HR := Lib.hid hr
    have NN := Lib.hid hn
    have RR := Lib.hid hd
    clear hy hr hn hd
    obtain ⟨q0, q1, q2, q3, _⟩ := NN.out.cells
    obtain ⟨r0, r1, r2, r3, r4, rl⟩ := RR.out.cells
    obtain ⟨f0, f1, f2, f3, f4⟩ := RR.out.free
    by_cases h0 : gk = 0
    · subst h0
      have e := HR.out
      rw [redD] at e
      injection e with e1 e2
      subst e1 e2
      go_wp2_with fail
      obtain ⟨c0, c1, c2, c3, c4, _⟩ := (RR.out.set y 0).cells
      simp only [stD] at c0 c1 c2 c3 c4
      exact bodyPost_ret (v := .tuple #[.agg #[.int .i64 y.a, .int .i64 y.b, .int .i64 y.c, .int .i64 y.d, .int .i64 0], .bool true]) (by simp [results, Try.results204, go_sem, c0, c1, c2, c3, c4]) rfl ⟨rfl, (RR.out.set _ _).2.1⟩
    · obtain ⟨gr, rfl⟩ : ∃ gr, gk = gr + 1 := ⟨gk - 1, by omega⟩
      clear h0
      go_wp2_with fail
      refine (s_DivZ y _ HY.out).mono ?_
      rintro e w3 ⟨⟨m', ⟨hm, rfl⟩ | ⟨hm, rfl⟩⟩, b3⟩
      · have N3 := Lib.hid (NN.out.below b3)
        have R3 := Lib.hid (RR.out.below b3)
        obtain ⟨p0, p1, p2, p3, g0, g1, g2, g3⟩ := N3.out.cells
        have hr2 : redD gr m' = (m, j) := by
          have e := HR.out
          rw [redD, hm] at e
          exact e
        have HR2 := Lib.hid hr2
        have HY2 := Lib.hid (divZ_ok hm)
        have nl := (NN.out.below b3).1.lt
        clear hm hr2 b3 NN RR HR q0 q1 q2 q3 r0 r1 r2 r3 r4 rl f0 f1 f2 f3 f4
        go_wp2_with fail
        go_roundg gr
        case measure => omega
        case rel => exact ⟨m', by omega, by go_num, HY2.out, HR2.out, (N3.out.set m').alloc _, (R3.out.far4 (by omega) (Nat.le_refl _) m').alloc _⟩
      · have e := HR.out
        rw [redD, hm] at e
        injection e with e1 e2
        subst e1 e2
        have N3 := Lib.hid ((NN.out.below b3).alloc (.cells #[.int .i64 0, .int .i64 0, .int .i64 0, .int .i64 0] 136))
        have R3 := Lib.hid ((RR.out.below b3).alloc (.cells #[.int .i64 0, .int .i64 0, .int .i64 0, .int .i64 0] 136))
        obtain ⟨p0, p1, p2, p3, _⟩ := N3.out.cells
        obtain ⟨s0, s1, s2, s3, s4, sl⟩ := R3.out.cells
        obtain ⟨g0, g1, g2, g3, g4⟩ := R3.out.free
        rw [zero_val]
        clear hm b3 NN RR HR q0 q1 q2 q3 r0 r1 r2 r3 r4 rl f0 f1 f2 f3 f4
        go_wp2_with fail
        obtain ⟨c0, c1, c2, c3, c4, _⟩ := (R3.out.set y ((gr : Int) + 1)).cells
        simp only [stD] at c0 c1 c2 c3 c4
        exact bodyPost_ret (v := .tuple #[.agg #[.int .i64 y.a, .int .i64 y.b, .int .i64 y.c, .int .i64 y.d, .int .i64 ((gr : Int) + 1)], .bool true]) (by simp [results, Try.results204, go_sem, c0, c1, c2, c3, c4]) rfl ⟨rfl, (R3.out.set _ _).2.1⟩

set_option maxHeartbeats 1600000 in
theorem s_Up (n : Zw) (T : Nat) (m : Zw) (w : World) (hT : T ≤ 1000) (h : upZ T n = some m) : Calls Try.prog 205 #[.agg #[.int .i64 n.a, .int .i64 n.b, .int .i64 n.c, .int .i64 n.d], .int .i64 T] w fun e w' => e = .returned (.tuple #[.agg #[.int .i64 m.a, .int .i64 m.b, .int .i64 m.c, .int .i64 m.d], .bool true]) ∧ Below w.heap.size w w' := by
  have HM := Lib.hid h
  have h1 : Below w.heap.size w (w.alloc (.cells #[.int .i64 n.a, .int .i64 n.b, .int .i64 n.c, .int .i64 n.d] 136)) := (Below.refl _ _).alloc (Nat.le_refl _) _
  have hb := h1.alloc h1.size (.cells #[.int .i64 Zw.zero.a, .int .i64 Zw.zero.b, .int .i64 Zw.zero.c, .int .i64 Zw.zero.d] 136)
  have Z0 := Lib.hid (Z2.new w n)
  clear h h1 hb
  go_enter Try.func205, Try.ntmps205
  go_wp2_with fail
  go_loopg [6] T (fun r v wr => ∃ (i : Nat) (y : Zw), i + r = T ∧ v = .int .i64 i ∧ upZ r y = some m ∧ Z2 w y Zw.zero wr)
  case atStart => exact ⟨0, n, by omega, rfl, HM.out, Z0.out⟩
  case round =>
    obtain ⟨i, y, hi, rfl, hu, hz⟩ := hrel
    have HU := Lib.hid hu
    have ZZ := Lib.hid hz
    clear hu hz
    obtain ⟨q0, q1, q2, q3, _⟩ := ZZ.out.1.cells
    obtain ⟨r0, r1, r2, r3, f0, f1, f2, f3⟩ := ZZ.out.2.cells
    by_cases h0 : gk = 0
    · subst h0
      obtain rfl : i = T := by omega
      have e := HU.out
      rw [upZ] at e
      injection e with e
      subst e
      go_wp2_with fail
      obtain ⟨c0, c1, c2, c3, _⟩ := (ZZ.out.2.set y).cells
      simp only [set4] at c0 c1 c2 c3
      exact bodyPost_ret (v := .tuple #[.agg #[.int .i64 y.a, .int .i64 y.b, .int .i64 y.c, .int .i64 y.d], .bool true]) (by simp [results, Try.results205, go_sem, c0, c1, c2, c3]) rfl ⟨rfl, (ZZ.out.2.set _).2.1⟩
    · obtain ⟨gr, rfl⟩ : ∃ gr, gk = gr + 1 := ⟨gk - 1, by omega⟩
      clear h0
      have e := HU.out
      rw [upZ] at e
      obtain ⟨y2, hy2⟩ : ∃ y2, mulZ y root2 = some y2 := by
        cases hq : mulZ y root2 with
        | none => rw [hq] at e; cases e
        | some y2 => exact ⟨y2, rfl⟩
      rw [hy2] at e
      have HU2 := Lib.hid (show upZ gr y2 = some m from e)
      have HY2 := Lib.hid hy2
      clear e hy2 HU
      have hiT : (i : Int) < (T : Int) := by omega
      go_wp2_with fail
      refine (s_MulZ y root2 y2 _ HY2.out).mono ?_
      rintro e w3 ⟨rfl, b3⟩
      have Z3' := Lib.hid (ZZ.out.below b3)
      obtain ⟨p0, p1, p2, p3, g0, g1, g2, g3⟩ := Z3'.out.1.cells
      have nl := Z3'.out.1.1.lt
      clear b3 ZZ q0 q1 q2 q3 r0 r1 r2 r3 f0 f1 f2 f3
      go_wp2_with fail
      go_roundg gr
      case measure => omega
      case rel => exact ⟨i + 1, y2, by omega, by go_num, HU2.out, (Z3'.out.1.set y2).alloc _, (Z3'.out.2.far (by omega) (Nat.le_refl _) y2).alloc _⟩
end Go.Proofs.YtgnallcfahpjmaaR
