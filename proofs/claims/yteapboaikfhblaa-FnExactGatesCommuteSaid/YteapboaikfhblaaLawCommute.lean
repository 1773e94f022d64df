/- The law FnExactGatesCommute returns true for every two gates. No condition. -/
import Derived.Test.YteapboaikfhblaaRows
import Derived.Test.YteapboaikfhblaaCommute
import Derived.Test.YteapboaikfhblaaOpen
import Derived.Deep.RegionHeld3
import Derived.Deep.DeepCutAuto
import Derived.ChangeOld
namespace Go.Proofs.Yteapboaikfhblaa.fnExactGatesCommute
open Go.ChangeShapes Go.WideShapes Go.ChangeAt Go.RowKit
set_option linter.unusedVariables false

/-- Two boxes and the frame. -/
def Two (w : World) (g h : Gt) (wx : World) : Prop := Bx wx w.heap.size 34 #[.int .i64 g.k, .int .i64 g.a, .int .i64 g.b, .int .i64 g.c] ∧ Bx wx (w.heap.size + 1) 34 #[.int .i64 h.k, .int .i64 h.a, .int .i64 h.b, .int .i64 h.c] ∧ Below w.heap.size w wx
theorem Two.below {w wx w' : World} {g h : Gt} (s : Two w g h wx) (hb : Below wx.heap.size wx w') : Two w g h w' := ⟨s.1.below hb, s.2.1.below hb, s.2.2.trans (hb.mono s.2.2.size)⟩
theorem Two.drew {w wx : World} {g h : Gt} (s : Two w g h wx) : Two w g h wx.drew := ⟨s.1, s.2.1, s.2.2.drew⟩
theorem Two.cells {w wx : World} {g h : Gt} (s : Two w g h wx) : wx.cell? ⟨w.heap.size, 0, none⟩ = some (.int .i64 g.k) ∧ wx.cell? ⟨w.heap.size, 1, none⟩ = some (.int .i64 g.a) ∧ wx.cell? ⟨w.heap.size, 2, none⟩ = some (.int .i64 g.b) ∧ wx.cell? ⟨w.heap.size, 3, none⟩ = some (.int .i64 g.c) ∧ wx.cell? ⟨w.heap.size + 1, 0, none⟩ = some (.int .i64 h.k) ∧ wx.cell? ⟨w.heap.size + 1, 1, none⟩ = some (.int .i64 h.a) ∧ wx.cell? ⟨w.heap.size + 1, 2, none⟩ = some (.int .i64 h.b) ∧ wx.cell? ⟨w.heap.size + 1, 3, none⟩ = some (.int .i64 h.c) := by
  obtain ⟨p0, p1, p2, p3, _⟩ := s.1.four
  obtain ⟨q0, q1, q2, q3, _⟩ := s.2.1.four
  exact ⟨p0, p1, p2, p3, q0, q1, q2, q3⟩

set_option maxRecDepth 100000 in
set_option maxHeartbeats 1600000 in
theorem walk (g h : Gt) (w : World) (hg : g.ok) (hh : h.ok) :
    Calls Try.prog 4 #[.agg #[.int .i64 g.k, .int .i64 g.a, .int .i64 g.b, .int .i64 g.c], .agg #[.int .i64 h.k, .int .i64 h.a, .int .i64 h.b, .int .i64 h.c]] w fun e w' => e = .returned (.bool true) ∧ Below w.heap.size w w' := by
  clear hg hh
  have T0 : Two w g h ((w.alloc (.cells #[.int .i64 g.k, .int .i64 g.a, .int .i64 g.b, .int .i64 g.c] 34)).alloc (.cells #[.int .i64 h.k, .int .i64 h.a, .int .i64 h.b, .int .i64 h.c] 34)) := ⟨(Bx.new w _ _).alloc _, Bx.new' (by simp), ((Below.refl _ _).alloc (Nat.le_refl _) _).alloc (by simp) _⟩
  go_enter Try.func4, Try.ntmps4
  go_upto_region 1 with fail
  go_cut [5] (fun s5 wx => s5 = .bool (comm g h) ∧ Two w g h wx)
  case first =>
    have U0 := T0.drew
    go_region_held3 (fun w' => w'.cell? ⟨w.heap.size, 0, none⟩ = some (.int .i64 g.k) ∧ w'.cell? ⟨w.heap.size, 1, none⟩ = some (.int .i64 g.a) ∧ w'.cell? ⟨w.heap.size, 2, none⟩ = some (.int .i64 g.b) ∧ w'.cell? ⟨w.heap.size, 3, none⟩ = some (.int .i64 g.c) ∧ w'.cell? ⟨w.heap.size + 1, 0, none⟩ = some (.int .i64 h.k) ∧ w'.cell? ⟨w.heap.size + 1, 1, none⟩ = some (.int .i64 h.a) ∧ w'.cell? ⟨w.heap.size + 1, 2, none⟩ = some (.int .i64 h.b) ∧ w'.cell? ⟨w.heap.size + 1, 3, none⟩ = some (.int .i64 h.c))
      (first | go_keep | exact U1.cells | exact U2.cells | exact U3.cells)
      (first
        | (go_at_call 20; refine (s_GatesCommute g h _).mono ?_; rintro e w4 ⟨rfl, b4⟩; have U3 := U2.below b4)
        | (go_at_call 21; (with_reducible refine (l_toGate _ _ _ _ _).mono ?_); rintro e w1 ⟨rfl, b1⟩; first | (have U2 := U1.below b1) | (have U1 := U0.below b1)))
    all_goals go_wp2_with fail
    all_goals go_meet
    all_goals exact ⟨rfl, U3⟩
  case rest =>
    obtain ⟨rfl, T1⟩ := hcut
    obtain ⟨wd, rfl⟩ : ∃ wd, wd = wc := ⟨_, rfl⟩
    obtain ⟨p0, p1, p2, p3, q0, q1, q2, q3⟩ := T1.cells
    go_upto_region 2 with fail
    go_cut [6] (fun s6 wx => s6 = .bool (comm g h) ∧ Two w g h wx)
    case first =>
      have U0 := T1.drew
      go_region_held3 (fun w' => w'.cell? ⟨w.heap.size, 0, none⟩ = some (.int .i64 g.k) ∧ w'.cell? ⟨w.heap.size, 1, none⟩ = some (.int .i64 g.a) ∧ w'.cell? ⟨w.heap.size, 2, none⟩ = some (.int .i64 g.b) ∧ w'.cell? ⟨w.heap.size, 3, none⟩ = some (.int .i64 g.c) ∧ w'.cell? ⟨w.heap.size + 1, 0, none⟩ = some (.int .i64 h.k) ∧ w'.cell? ⟨w.heap.size + 1, 1, none⟩ = some (.int .i64 h.a) ∧ w'.cell? ⟨w.heap.size + 1, 2, none⟩ = some (.int .i64 h.b) ∧ w'.cell? ⟨w.heap.size + 1, 3, none⟩ = some (.int .i64 h.c))
        (first | go_keep | exact U1.cells | exact U2.cells | exact U3.cells)
        (first
          | (go_at_call 22; refine (i_GatesCommute g h _).mono ?_; rintro e w4 ⟨rfl, b4⟩; have U3 := U2.below b4)
          | (go_at_call 21; (with_reducible refine (l_toGate _ _ _ _ _).mono ?_); rintro e w1 ⟨rfl, b1⟩; first | (have U2 := U1.below b1) | (have U1 := U0.below b1)))
      all_goals go_wp2_with fail
      all_goals go_meet
      all_goals exact ⟨rfl, U3⟩
    case rest =>
      obtain ⟨rfl, T2⟩ := hcut
      go_wp2_with fail
      go_ret
      exact ⟨rfl, T2.2.2⟩

theorem own : ownKnob Try.prog.godebug = none := by kernel_rfl
theorem laidOut : laidOutB Try.prog = true := by kernel_rfl
set_option maxRecDepth 100000 in
theorem lifted (os : Os) (started : os.Started) (H : Type) (enc : TypeId × Value → H) :
    ReturnsInHanded {} Try.checked os 4 .any (Rows.fnExactGatesCommuteSpec.pre6 enc Try.prog Try.f4 Rows.fnExactGatesCommuteRow.domain false) (Rows.fnExactGatesCommuteSpec.post enc Try.prog Try.f4 false true false false) := by
  refine returnsInHanded_of_change (C := Try.checked) own started (by kernel_rfl) Try.func4
    (ChangeSpec.witness6 (enc := enc) (C := Try.checked) false ⟨#[], #[.agg #[.int .i64 0, .int .i64 0, .int .i64 0, .int .i64 0], .agg #[.int .i64 0, .int .i64 0, .int .i64 0, .int .i64 0]], []⟩ 8 (by kernel_rfl) (by kernel_rfl) (by kernel_rfl) (by kernel_rfl)) ?_
  intro W base args ds gs before hval0 hW hcnd _
  have hval : ∀ (j : Nat) t v, Try.f4.params[j]? = some t → args[j]? = some v → Value.okWide Try.prog W .any base t v := hval0
  have hW' := hW
  obtain ⟨p, q, hA0, hV, rfl, hfz, hnd⟩ := hW
  have hA : DataW.TrodAll enc Try.prog W 0 (fun _ => true) true Try.f4.params.toList args.toList ds p := hA0
  rw [Try.params4] at hA hval
  obtain ⟨v0, vs0, d0, ds0, p0, q0, hargs, rfl, rfl, h0, t0⟩ := trodAll_cons hA
  obtain ⟨v1, vs1, d1, ds1, p1, q1, rfl, rfl, rfl, h1, t1⟩ := trodAll_cons t0
  obtain ⟨rfl, rfl, rfl⟩ := trodAll_nil t1
  obtain rfl : args = #[v0, v1] := by cases args; simp_all
  obtain ⟨rfl, rfl⟩ := trodVars_none hV
  have k0 := h0
  have lt0 : ∀ x ∈ p0, x.block < W.heap.size := by obtain ⟨m, hm⟩ := k0; exact DataW.trod_lt m _ _ _ hm
  obtain ⟨y0, y1, y2, y3, e0, e1, e2, e3, fu0, rfl, rfl, _, g0, g1, g2, g3⟩ := Joins.open_agg4 Try.underlying34 (by kernel_rfl) (by kernel_rfl) (hval 0 34 v0 rfl rfl) h0
  obtain ⟨z00, f0, _, w00⟩ := DataW.trod_int Try.underlying3 g0
  simp only [List.cons.injEq, and_true] at f0
  subst f0
  obtain ⟨z01, f1, _, w01⟩ := DataW.trod_int Try.underlying3 g1
  simp only [List.cons.injEq, and_true] at f1
  subst f1
  obtain ⟨z02, f2, _, w02⟩ := DataW.trod_int Try.underlying3 g2
  simp only [List.cons.injEq, and_true] at f2
  subst f2
  obtain ⟨z03, f3, _, w03⟩ := DataW.trod_int Try.underlying3 g3
  simp only [List.cons.injEq, and_true] at f3
  subst f3
  clear g0 g1 g2 g3
  have k1 := h1
  have lt1 : ∀ x ∈ p1, x.block < W.heap.size := by obtain ⟨m, hm⟩ := k1; exact DataW.trod_lt m _ _ _ hm
  obtain ⟨y0, y1, y2, y3, e0, e1, e2, e3, fu1, rfl, rfl, _, g0, g1, g2, g3⟩ := Joins.open_agg4 Try.underlying34 (by kernel_rfl) (by kernel_rfl) (hval 1 34 v1 rfl rfl) h1
  obtain ⟨z10, f0, _, w10⟩ := DataW.trod_int Try.underlying3 g0
  simp only [List.cons.injEq, and_true] at f0
  subst f0
  obtain ⟨z11, f1, _, w11⟩ := DataW.trod_int Try.underlying3 g1
  simp only [List.cons.injEq, and_true] at f1
  subst f1
  obtain ⟨z12, f2, _, w12⟩ := DataW.trod_int Try.underlying3 g2
  simp only [List.cons.injEq, and_true] at f2
  subst f2
  obtain ⟨z13, f3, _, w13⟩ := DataW.trod_int Try.underlying3 g3
  simp only [List.cons.injEq, and_true] at f3
  subst f3
  clear g0 g1 g2 g3
  clear hA0 hval0
  refine (walk ⟨z00, z01, z02, z03⟩ ⟨z10, z11, z12, z13⟩ W ⟨i64_of_wf w00, i64_of_wf w01, i64_of_wf w02, i64_of_wf w03⟩ ⟨i64_of_wf w10, i64_of_wf w11, i64_of_wf w12, i64_of_wf w13⟩).mono fun e W' ⟨he, bel⟩ => ?_
  subst he
  exact ⟨_, rfl, _, _, _, [], _, [], hW', trodAll_mk1 (shut_bool Try.underlying4 _), (trodAll_cons_mk (Below.trod laidOut (by kernel_rfl) (of_decide_eq_true (by kernel_rfl)) k0 bel lt0) (trodAll_cons_mk (Below.trod laidOut (by kernel_rfl) (of_decide_eq_true (by kernel_rfl)) k1 bel lt1) trodAll_mk0)), rfl, bel.frame _, fun h => by cases h⟩

theorem over : Rows.fnExactGatesCommuteRow.holds Try.pinned (OpenSpec.ofChange Rows.fnExactGatesCommuteSpec) :=
  OpenClaim.holds_of_wide 4 Try.f4 rfl rfl rfl rfl rfl rfl rfl ⟨rfl, rfl, rfl, rfl, rfl⟩ rfl rfl rfl rfl rfl (by kernel_rfl) Try.func4 (by kernel_rfl)
    (of_decide_eq_true (by kernel_rfl)) (by unfold Func.isWrapper; first | (rw [if_pos (by decide +kernel)]; kernel_rfl) | (rw [if_neg (by decide +kernel)]; exact ⟨rfl, rfl⟩))
    (fun os started H enc _ => lifted os started H enc)

theorem proved : Rows.FnExactGatesCommuteSaid := over
#print axioms proved

end Go.Proofs.Yteapboaikfhblaa.fnExactGatesCommute
