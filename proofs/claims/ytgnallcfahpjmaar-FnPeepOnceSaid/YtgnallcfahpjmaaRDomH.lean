/- Contracts of AddDOmega, MulDOmega, NegZOmega, NegDOmega (spec). Where a partial operation is asked: it succeeds. -/
import Derived.Test.YtgnallcfahpjmaaRDomG
import Derived.RegionTactic
namespace Go.Proofs.YtgnallcfahpjmaaR
open Go.RowKit
set_option linter.unusedVariables false

theorem s_maxD (a b : Nat) (w : World) : Calls Try.prog 177 #[.int .i64 a, .int .i64 b] w fun e w' => e = .returned (.int .i64 (max a b : Nat)) ∧ w = w' := by
  by_cases h : b < a
  · rw [Nat.max_eq_left (by omega)]
    go_enter Try.func177, Try.ntmps177
    go_wp2
    go_ret
    exact ⟨rfl, rfl⟩
  · rw [Nat.max_eq_right (by omega)]
    go_enter Try.func177, Try.ntmps177
    go_wp2
    go_ret
    exact ⟨rfl, rfl⟩
theorem mulD_some {x y z : Dw} (h : mulD x y = some z) : okD x = true ∧ okD y = true ∧ ∃ n, mulZ x.n y.n = some n ∧ newD n (x.e + y.e) = some z := by
  unfold mulD at h
  split at h
  · rename_i h1
    simp only [Bool.and_eq_true] at h1
    cases hm : mulZ x.n y.n with
    | none => rw [hm] at h; cases h
    | some n => rw [hm] at h; exact ⟨h1.1, h1.2, n, rfl, h⟩
  · cases h
theorem maxI_nat (a b : Nat) : maxI a b = (max a b : Nat) := by
  unfold maxI
  split <;> omega
theorem addD_some {x y z : Dw} {ex ey : Nat} (hx : x.e = ex) (hy : y.e = ey) (h : addD x y = some z) : okD x = true ∧ okD y = true ∧ ∃ a b c, upZ (max ex ey - ex) x.n = some a ∧ upZ (max ex ey - ey) y.n = some b ∧ addZ a b = some c ∧ newD c (max ex ey : Nat) = some z := by
  unfold addD at h
  split at h
  · rename_i h1
    simp only [Bool.and_eq_true] at h1
    rw [hx, hy, maxI_nat, show (((max ex ey : Nat) : Int) - (ex : Int)).toNat = max ex ey - ex by omega, show (((max ex ey : Nat) : Int) - (ey : Int)).toNat = max ex ey - ey by omega] at h
    cases ha : upZ (max ex ey - ex) x.n with
    | none => rw [ha] at h; cases h
    | some a =>
      cases hb : upZ (max ex ey - ey) y.n with
      | none => rw [ha, hb] at h; cases h
      | some b =>
        rw [ha, hb] at h
        simp only at h
        cases hc : addZ a b with
        | none => rw [hc] at h; cases h
        | some c => rw [hc] at h; exact ⟨h1.1, h1.2, a, b, c, rfl, rfl, hc, h⟩
  · cases h

set_option maxHeartbeats 1600000 in
theorem s_MulD (x y z : Dw) (w : World) (h : mulD x y = some z) : Calls Try.prog 193 #[.agg #[.int .i64 x.n.a, .int .i64 x.n.b, .int .i64 x.n.c, .int .i64 x.n.d, .int .i64 x.e], .agg #[.int .i64 y.n.a, .int .i64 y.n.b, .int .i64 y.n.c, .int .i64 y.n.d, .int .i64 y.e]] w fun e w' => e = .returned (.tuple #[.agg #[.int .i64 z.n.a, .int .i64 z.n.b, .int .i64 z.n.c, .int .i64 z.n.d, .int .i64 z.e], .bool true]) ∧ Below w.heap.size w w' := by
  obtain ⟨hx, hy, n, hn, hz⟩ := mulD_some h
  obtain ⟨_, _, _, x0, x1⟩ := okD_parts (n := x.n) (k := x.e) hx
  obtain ⟨_, _, _, y0, y1⟩ := okD_parts (n := y.n) (k := y.e) hy
  have HX := Lib.hid hx
  have HY := Lib.hid hy
  have HN := Lib.hid hn
  obtain ⟨S, hS⟩ : ∃ S : Nat, x.e + y.e = S := ⟨(x.e + y.e).toNat, by omega⟩
  rw [hS] at hz
  have HZ := Lib.hid hz
  have HS := Lib.hid hS
  have D0 := Lib.hid (D3.new w x y)
  clear h hx hy hn hz hS
  go_enter Try.func193, Try.ntmps193
  go_wp2_with fail
  refine (s_MulZ x.n y.n n _ HN.out).mono ?_
  rintro e w1 ⟨rfl, b1⟩
  have D1 := Lib.hid ((D0.out.below b1).alloc (.cells #[.int .i64 n.a, .int .i64 n.b, .int .i64 n.c, .int .i64 n.d] 136))
  have L1 := Lib.hid (Bx.new w1 136 #[.int .i64 n.a, .int .i64 n.b, .int .i64 n.c, .int .i64 n.d])
  clear b1 D0
  obtain ⟨p0, p1, p2, p3, p4, pl⟩ := D1.out.1.cells
  go_wp2_with fail
  refine (s_IsValidD x.n x.e _ HX.out).mono ?_
  rintro e w2 ⟨rfl, b2⟩
  have D2 := Lib.hid (D1.out.below b2)
  have L2 := Lib.hid (L1.out.below b2)
  clear b2 D1 L1 p0 p1 p2 p3 p4 pl
  obtain ⟨q0, q1, q2, q3, q4, ql⟩ := D2.out.2.1.cells
  go_wp2_with fail
  refine (s_IsValidD y.n y.e _ HY.out).mono ?_
  rintro e w3 ⟨rfl, b3⟩
  have D3' := Lib.hid (D2.out.below b3)
  have L3 := Lib.hid (L2.out.below b3)
  clear b3 D2 L2 q0 q1 q2 q3 q4 ql
  obtain ⟨p0, p1, p2, p3, p4, pl⟩ := D3'.out.1.cells
  obtain ⟨q0, q1, q2, q3, q4, ql⟩ := D3'.out.2.1.cells
  obtain ⟨l0, l1, l2, l3, _⟩ := L3.out.four
  go_wp2_with fail
  rw [HS.out]
  refine (s_NewD n S z _ HZ.out).mono ?_
  rintro e w4 ⟨rfl, b4⟩
  have D4 := Lib.hid (D3'.out.below b4)
  clear b4 D3' L3 p0 p1 p2 p3 p4 pl q0 q1 q2 q3 q4 ql l0 l1 l2 l3
  obtain ⟨r0, r1, r2, r3, r4, rl⟩ := D4.out.2.2.cells
  obtain ⟨f0, f1, f2, f3, f4⟩ := D4.out.2.2.free
  go_wp2_with fail
  obtain ⟨c0, c1, c2, c3, c4, _⟩ := (D4.out.2.2.set z.n z.e).cells
  simp only [stD] at c0 c1 c2 c3 c4
  exact bodyPost_ret (v := .tuple #[.agg #[.int .i64 z.n.a, .int .i64 z.n.b, .int .i64 z.n.c, .int .i64 z.n.d, .int .i64 z.e], .bool true]) (by simp [results, Try.results193, go_sem, c0, c1, c2, c3, c4]) rfl ⟨rfl, (D4.out.2.2.set _ _).2.1⟩

set_option maxHeartbeats 1600000 in
theorem s_AddD (x y z : Dw) (w : World) (h : addD x y = some z) : Calls Try.prog 194 #[.agg #[.int .i64 x.n.a, .int .i64 x.n.b, .int .i64 x.n.c, .int .i64 x.n.d, .int .i64 x.e], .agg #[.int .i64 y.n.a, .int .i64 y.n.b, .int .i64 y.n.c, .int .i64 y.n.d, .int .i64 y.e]] w fun e w' => e = .returned (.tuple #[.agg #[.int .i64 z.n.a, .int .i64 z.n.b, .int .i64 z.n.c, .int .i64 z.n.d, .int .i64 z.e], .bool true]) ∧ Below w.heap.size w w' := by
  have hxy : okD x = true ∧ okD y = true := by
    unfold addD at h
    split at h
    · rename_i h1
      simpa using h1
    · cases h
  obtain ⟨_, _, _, x0, x1⟩ := okD_parts (n := x.n) (k := x.e) hxy.1
  obtain ⟨_, _, _, y0, y1⟩ := okD_parts (n := y.n) (k := y.e) hxy.2
  clear hxy
  obtain ⟨nx, kx⟩ := x
  obtain ⟨ny, ky⟩ := y
  simp only at x0 x1 y0 y1
  obtain ⟨ex, rfl⟩ : ∃ ex : Nat, kx = ex := ⟨kx.toNat, by omega⟩
  obtain ⟨ey, rfl⟩ : ∃ ey : Nat, ky = ey := ⟨ky.toNat, by omega⟩
  obtain ⟨hx, hy, a, b, c, ha, hb, hc, hz⟩ := addD_some (ex := ex) (ey := ey) rfl rfl h
  obtain ⟨M, hM⟩ : ∃ M, max ex ey = M := ⟨_, rfl⟩
  obtain ⟨t1, ht1⟩ : ∃ t, M - ex = t := ⟨_, rfl⟩
  obtain ⟨t2, ht2⟩ : ∃ t, M - ey = t := ⟨_, rfl⟩
  rw [hM, ht1] at ha
  rw [hM, ht2] at hb
  rw [hM] at hz
  have E1 := Lib.hid (show (M : Int) - (ex : Int) = (t1 : Int) by omega)
  have E2 := Lib.hid (show (M : Int) - (ey : Int) = (t2 : Int) by omega)
  have hM60 : M ≤ 60 := by omega
  have hb1 : t1 ≤ 60 := by omega
  have hb2 : t2 ≤ 60 := by omega
  have HX := Lib.hid hx
  have HY := Lib.hid hy
  have HA := Lib.hid ha
  have HB := Lib.hid hb
  have HC := Lib.hid hc
  have HZ := Lib.hid hz
  have HM := Lib.hid hM
  have D0 := Lib.hid (D3.new w ⟨nx, ex⟩ ⟨ny, ey⟩)
  clear h hx hy ha hb hc hz hM ht1 ht2
  go_enter Try.func194, Try.ntmps194
  go_wp2_with fail
  refine (s_IsValidD nx ex _ HX.out).mono ?_
  rintro e w2 ⟨rfl, b2⟩
  have D2 := Lib.hid (D0.out.below b2)
  clear b2 D0
  obtain ⟨q0, q1, q2, q3, q4, ql⟩ := D2.out.2.1.cells
  go_wp2_with fail
  refine (s_IsValidD ny ey _ HY.out).mono ?_
  rintro e w3 ⟨rfl, b3⟩
  have D3' := Lib.hid (D2.out.below b3)
  clear b3 D2 q0 q1 q2 q3 q4 ql
  obtain ⟨p0, p1, p2, p3, p4, pl⟩ := D3'.out.1.cells
  obtain ⟨q0, q1, q2, q3, q4, ql⟩ := D3'.out.2.1.cells
  go_wp2_with fail
  refine (s_maxD ex ey _).mono ?_
  rintro e w4 ⟨rfl, rfl⟩
  rw [HM.out]
  go_wp2_with fail
  rw [E1.out]
  refine (s_Up nx t1 a _ (by omega) HA.out).mono ?_
  rintro e w5 ⟨rfl, b5⟩
  have D5 := Lib.hid ((D3'.out.below b5).alloc (.cells #[.int .i64 a.a, .int .i64 a.b, .int .i64 a.c, .int .i64 a.d] 136))
  have L5 := Lib.hid (Bx.new w5 136 #[.int .i64 a.a, .int .i64 a.b, .int .i64 a.c, .int .i64 a.d])
  clear b5 D3' p0 p1 p2 p3 p4 pl q0 q1 q2 q3 q4 ql
  obtain ⟨q0, q1, q2, q3, q4, ql⟩ := D5.out.2.1.cells
  go_wp2_with fail
  rw [E2.out]
  refine (s_Up ny t2 b _ (by omega) HB.out).mono ?_
  rintro e w6 ⟨rfl, b6⟩
  have D6 := Lib.hid ((D5.out.below b6).alloc (.cells #[.int .i64 b.a, .int .i64 b.b, .int .i64 b.c, .int .i64 b.d] 136))
  have K6 := Lib.hid (L5.out.below b6)
  have L6 := Lib.hid ((L5.out.below b6).alloc (.cells #[.int .i64 b.a, .int .i64 b.b, .int .i64 b.c, .int .i64 b.d] 136))
  have L7 := Lib.hid (Bx.new w6 136 #[.int .i64 b.a, .int .i64 b.b, .int .i64 b.c, .int .i64 b.d])
  clear b6 D5 L5 q0 q1 q2 q3 q4 ql
  obtain ⟨l0, l1, l2, l3, _⟩ := K6.out.four
  have ll := K6.out.lt
  go_wp2_with fail
  refine (s_AddZ a b c _ HC.out).mono ?_
  rintro e w7 ⟨rfl, b7⟩
  have D7 := Lib.hid ((D6.out.below b7).alloc (.cells #[.int .i64 c.a, .int .i64 c.b, .int .i64 c.c, .int .i64 c.d] 136))
  clear b7 D6 L6 L7 K6 l0 l1 l2 l3 ll
  go_wp2_with fail
  refine (s_NewD c M z _ HZ.out).mono ?_
  rintro e w8 ⟨rfl, b8⟩
  have D8 := Lib.hid (D7.out.below b8)
  clear b8 D7
  obtain ⟨r0, r1, r2, r3, r4, rl⟩ := D8.out.2.2.cells
  obtain ⟨f0, f1, f2, f3, f4⟩ := D8.out.2.2.free
  go_wp2_with fail
  obtain ⟨c0, c1, c2, c3, c4, _⟩ := (D8.out.2.2.set z.n z.e).cells
  simp only [stD] at c0 c1 c2 c3 c4
  exact bodyPost_ret (v := .tuple #[.agg #[.int .i64 z.n.a, .int .i64 z.n.b, .int .i64 z.n.c, .int .i64 z.n.d, .int .i64 z.e], .bool true]) (by simp [results, Try.results194, go_sem, c0, c1, c2, c3, c4]) rfl ⟨rfl, (D8.out.2.2.set _ _).2.1⟩
end Go.Proofs.YtgnallcfahpjmaaR
