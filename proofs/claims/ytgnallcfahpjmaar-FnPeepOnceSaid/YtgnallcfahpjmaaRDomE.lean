/- Contracts of NegZOmega, DivSqrt2, IsValidDOmega, NewDOmega, l3Up, AddDOmega, MulDOmega, NegDOmega (spec). Where a partial operation is asked: it succeeds. -/
import Derived.Test.YtgnallcfahpjmaaRDomC
import Derived.Deep.DeepCutAuto
namespace Go.Proofs.YtgnallcfahpjmaaR
open Go.RowKit
set_option linter.unusedVariables false

/-- Two boxes of Z[omega]. -/
def Z2 (w : World) (x r : Zw) (wx : World) : Prop := ZB w w.heap.size x wx ∧ ZB w (w.heap.size + 1) r wx
theorem Z2.below {w wx w' : World} {x r : Zw} (h : Z2 w x r wx) (hb : Below wx.heap.size wx w') : Z2 w x r w' := ⟨h.1.below hb, h.2.below hb⟩
theorem Z2.new (w : World) (x : Zw) : Z2 w x Zw.zero ((w.alloc (.cells #[.int .i64 x.a, .int .i64 x.b, .int .i64 x.c, .int .i64 x.d] 136)).alloc (.cells #[.int .i64 Zw.zero.a, .int .i64 Zw.zero.b, .int .i64 Zw.zero.c, .int .i64 Zw.zero.d] 136)) := by
  have h1 : Below w.heap.size w (w.alloc (.cells #[.int .i64 x.a, .int .i64 x.b, .int .i64 x.c, .int .i64 x.d] 136)) := (Below.refl _ _).alloc (Nat.le_refl _) _
  have hb := h1.alloc h1.size (.cells #[.int .i64 Zw.zero.a, .int .i64 Zw.zero.b, .int .i64 Zw.zero.c, .int .i64 Zw.zero.d] 136)
  exact ⟨⟨(Bx.new w _ _).alloc _, hb, Nat.le_refl _⟩, ⟨Bx.new' (by simp), hb, by omega⟩⟩

theorem divZ_some {x m : Zw} (h : divZ x = some m) : okZ x = true ∧ ((x.b - x.d) % 2 = 0 ∧ (x.a + x.c) % 2 = 0 ∧ (x.b + x.d) % 2 = 0 ∧ (x.c - x.a) % 2 = 0) ∧ m = ⟨(x.b - x.d) / 2, (x.a + x.c) / 2, (x.b + x.d) / 2, (x.c - x.a) / 2⟩ := by
  unfold divZ at h
  split at h
  · rename_i h1
    injection h with h
    simp only [Bool.and_eq_true, evenZ, halfZ, beq_iff_eq] at h1
    exact ⟨h1.1, ⟨h1.2.1, h1.2.2.1, h1.2.2.2.1, h1.2.2.2.2⟩, h.symm⟩
  · cases h

theorem tmod2 (a : Int) : a.tmod 2 = 0 ↔ a % 2 = 0 := by
  rw [← Int.dvd_iff_tmod_eq_zero, Int.dvd_iff_emod_eq_zero]
theorem tdiv2 {a : Int} (h : a % 2 = 0) : a.tdiv 2 = a / 2 := Int.tdiv_eq_ediv_of_dvd (Int.dvd_iff_emod_eq_zero.2 h)
theorem even_t {x : Zw} (h0 : (x.b - x.d).tmod 2 = 0) (h1 : (x.a + x.c).tmod 2 = 0) (h2 : (x.b + x.d).tmod 2 = 0) : ((x.c - x.a).tmod 2 != 0) = !evenZ (halfZ x) := by
  rw [tmod2] at h0 h1 h2
  unfold evenZ halfZ bne
  simp only [h0, h1, h2, beq_self_eq_true, Bool.true_and]
  by_cases h : (x.c - x.a) % 2 = 0
  · rw [(tmod2 _).2 h, h]
  · rw [beq_eq_false_iff_ne.2 h, beq_eq_false_iff_ne.2 (fun q => h ((tmod2 _).1 q))]
theorem even_f {x : Zw} (h : ¬ (x.b - x.d).tmod 2 = 0 ∨ ¬ (x.a + x.c).tmod 2 = 0 ∨ ¬ (x.b + x.d).tmod 2 = 0) : true = !evenZ (halfZ x) := by
  rw [tmod2, tmod2, tmod2] at h
  unfold evenZ halfZ
  rcases h with h | h | h <;> simp [h]
abbrev set0 (w : World) (g : Nat) : World := (((w.setCell ⟨g, 0, none⟩ (.int .i64 0)).setCell ⟨g, 1, none⟩ (.int .i64 0)).setCell ⟨g, 2, none⟩ (.int .i64 0)).setCell ⟨g, 3, none⟩ (.int .i64 0)
theorem ZB.set0c {w wx : World} {g : Nat} {x : Zw} (h : ZB w g x wx) : (set0 wx g).cell? ⟨g, 0, none⟩ = some (.int .i64 0) ∧ (set0 wx g).cell? ⟨g, 1, none⟩ = some (.int .i64 0) ∧ (set0 wx g).cell? ⟨g, 2, none⟩ = some (.int .i64 0) ∧ (set0 wx g).cell? ⟨g, 3, none⟩ = some (.int .i64 0) ∧ Below w.heap.size w (set0 wx g) := by
  obtain ⟨c0, c1, c2, c3, _⟩ := (h.set ⟨0, 0, 0, 0⟩).cells
  exact ⟨c0, c1, c2, c3, (h.set ⟨0, 0, 0, 0⟩).2.1⟩
theorem zero_val : (Value.agg #[.int .i64 Zw.zero.a, .int .i64 Zw.zero.b, .int .i64 Zw.zero.c, .int .i64 Zw.zero.d]) = .agg #[.int .i64 0, .int .i64 0, .int .i64 0, .int .i64 0] := rfl
def Half (w w1 : World) (x : Zw) (wx : World) : Prop := ZB w w1.heap.size (halfZ x) wx ∧ ZB w (w.heap.size + 1) Zw.zero wx
set_option maxHeartbeats 1600000 in
theorem s_DivZ (x : Zw) (w : World) (h : okZ x = true) : Calls Try.prog 197 #[.agg #[.int .i64 x.a, .int .i64 x.b, .int .i64 x.c, .int .i64 x.d]] w fun e w' => (∃ m, divZ x = some m ∧ e = .returned (.tuple #[.agg #[.int .i64 m.a, .int .i64 m.b, .int .i64 m.c, .int .i64 m.d], .bool true]) ∨ divZ x = none ∧ e = .returned (.tuple #[.agg #[.int .i64 Zw.zero.a, .int .i64 Zw.zero.b, .int .i64 Zw.zero.c, .int .i64 Zw.zero.d], .bool false])) ∧ Below w.heap.size w w' := by
  have HX := Lib.hid h
  have BX := Lib.hid (okZ_bd h)
  have Z0 := Lib.hid (Z2.new w x)
  clear h
  go_enter Try.func197, Try.ntmps197
  go_wp2_with fail
  refine (s_IsValidZ x _).mono ?_
  rintro e w1 ⟨rfl, b1⟩
  rw [HX.out]
  have Z1 := Lib.hid (Z0.out.below b1)
  clear b1 Z0
  obtain ⟨p0, p1, p2, p3, _⟩ := Z1.out.1.cells
  obtain ⟨xa, xb, xc, xd⟩ := BX.out
  go_upto_region 4 with fail
  go_cut [51] (fun v wx => v = .bool (!evenZ (halfZ x)) ∧ Half w w1 x wx)
  case first =>
    have hB := Z1.out.1.2.1.alloc (Below.size Z1.out.1.2.1) (.cells #[.int .i64 (x.b - x.d), .int .i64 (x.a + x.c), .int .i64 (x.b + x.d), .int .i64 (x.c - x.a)] 136)
    go_wp2_with fail
    all_goals go_meet
    all_goals
      refine ⟨?_, ⟨Bx.new w1 _ _, hB, Below.size Z1.out.1.2.1⟩, ⟨Z1.out.2.1.alloc _, hB, Z1.out.2.2.2⟩⟩
    all_goals first
      | exact congrArg Value.bool (even_t (by assumption) (by assumption) (by assumption))
      | exact congrArg Value.bool (even_f (.inl (by assumption)))
      | exact congrArg Value.bool (even_f (.inr (.inl (by assumption))))
      | exact congrArg Value.bool (even_f (.inr (.inr (by assumption))))
  case rest =>
    obtain ⟨rfl, hz⟩ := hcut
    have ZH := Lib.hid hz
    clear hz
    obtain ⟨q0, q1, q2, q3, _⟩ := ZH.out.1.cells
    obtain ⟨r0, r1, r2, r3, f0, f1, f2, f3⟩ := ZH.out.2.cells
    cases hev : evenZ (halfZ x)
    · have hn : divZ x = none := by unfold divZ; rw [HX.out, hev]; rfl
      have HN := Lib.hid hn
      clear hn hev
      go_wp2_with fail
      obtain ⟨c0, c1, c2, c3, hbz⟩ := ZH.out.2.set0c
      simp only [set0] at c0 c1 c2 c3 hbz
      refine bodyPost_ret (v := .tuple #[.agg #[.int .i64 0, .int .i64 0, .int .i64 0, .int .i64 0], .bool false]) (by simp [results, Try.results197, go_sem, c0, c1, c2, c3]) rfl ⟨⟨Zw.zero, .inr ⟨HN.out, ?_⟩⟩, hbz⟩
      rw [zero_val]
    · obtain ⟨m, hm⟩ : ∃ m : Zw, m = ⟨(halfZ x).a / 2, (halfZ x).b / 2, (halfZ x).c / 2, (halfZ x).d / 2⟩ := ⟨_, rfl⟩
      have hn : divZ x = some m := by rw [hm]; unfold divZ; rw [HX.out, hev]; rfl
      have HN := Lib.hid hn
      simp only [evenZ, Bool.and_eq_true, beq_iff_eq] at hev
      have t0 := Lib.hid (show (halfZ x).a.tdiv 2 = m.a by rw [hm]; exact tdiv2 hev.1)
      have t1 := Lib.hid (show (halfZ x).b.tdiv 2 = m.b by rw [hm]; exact tdiv2 hev.2.1)
      have t2 := Lib.hid (show (halfZ x).c.tdiv 2 = m.c by rw [hm]; exact tdiv2 hev.2.2.1)
      have t3 := Lib.hid (show (halfZ x).d.tdiv 2 = m.d by rw [hm]; exact tdiv2 hev.2.2.2)
      have hb : ((halfZ x).a = x.b - x.d ∧ (halfZ x).b = x.a + x.c) ∧ (halfZ x).c = x.b + x.d ∧ (halfZ x).d = x.c - x.a := ⟨⟨rfl, rfl⟩, rfl, rfl⟩
      have hb0 : -2147483648 ≤ (halfZ x).a ∧ (halfZ x).a ≤ 2147483648 := by omega
      have hb1 : -2147483648 ≤ (halfZ x).b ∧ (halfZ x).b ≤ 2147483648 := by omega
      have hb2 : -2147483648 ≤ (halfZ x).c ∧ (halfZ x).c ≤ 2147483648 := by omega
      have hb3 : -2147483648 ≤ (halfZ x).d ∧ (halfZ x).d ≤ 2147483648 := by omega
      clear hn hev hb hm
      go_wp2_with fail
      rw [t0.out, t1.out, t2.out, t3.out]
      obtain ⟨c0, c1, c2, c3, _⟩ := (ZH.out.2.set m).cells
      simp only [set4] at c0 c1 c2 c3
      exact bodyPost_ret (v := .tuple #[.agg #[.int .i64 m.a, .int .i64 m.b, .int .i64 m.c, .int .i64 m.d], .bool true]) (by simp [results, Try.results197, go_sem, c0, c1, c2, c3]) rfl ⟨⟨m, .inl ⟨HN.out, rfl⟩⟩, (ZH.out.2.set _).2.1⟩
end Go.Proofs.YtgnallcfahpjmaaR
