/- The law FnExactCommutationAxis returns true for every gate and number. No condition. -/
import Derived.Test.YtbmalgndjnaghaaRows
import Derived.Test.YtbmalgndjnaghaaAxis
import Derived.Test.YtbmalgndjnaghaaOpen
import Derived.ChangeOld
namespace Go.Proofs.Ytbmalgndjnaghaa.fnExactCommutationAxis
open Go.ChangeShapes Go.WideShapes Go.ChangeAt Go.RowKit
set_option linter.unusedVariables false

set_option maxHeartbeats 400000 in
theorem walk (g : Gt) (q : Int) (w : World) (hg : g.ok) (hq : I64 q) :
    Calls Try.prog 13 #[.agg #[.int .i64 g.k, .int .i64 g.a, .int .i64 g.b, .int .i64 g.c], .int .i64 q] w fun e w' => e = .returned (.bool true) ∧ Below w.heap.size w w' := by
  clear hg hq
  go_enter Try.func13, Try.ntmps13
  go_wp2_with fail
  refine (l_toGate _ _ _ _ _).mono ?_
  rintro e w1 ⟨rfl, b1⟩
  go_wp2_with fail
  refine (s_CommutationAxis _ _ _ _ _ _).mono ?_
  rintro e w2 ⟨rfl, b2⟩
  have b02 := below_trans b1 b2
  obtain ⟨q0, q1, q2, q3, _, _, _, _⟩ := ((Bx.new w 64 #[.int .i64 g.k, .int .i64 g.a, .int .i64 g.b, .int .i64 g.c]).below b02).four
  go_wp2_with fail
  refine (l_toGate _ _ _ _ _).mono ?_
  rintro e w3 ⟨rfl, b3⟩
  go_wp2_with fail
  refine (i_CommutationAxis _ _ _ _ _ _).mono ?_
  rintro e w4 ⟨rfl, b4⟩
  go_wp2_with fail
  go_ret
  exact ⟨rfl, below_trans (below_trans (below_alloc b02) b3) b4⟩

theorem own : ownKnob Try.prog.godebug = none := by kernel_rfl
theorem laidOut : laidOutB Try.prog = true := by kernel_rfl
set_option maxRecDepth 100000 in
theorem lifted (os : Os) (started : os.Started) (H : Type) (enc : TypeId × Value → H) :
    ReturnsInHanded {} Try.checked os 13 .any (Rows.fnExactCommutationAxisSpec.pre6 enc Try.prog Try.f13 Rows.fnExactCommutationAxisRow.domain false) (Rows.fnExactCommutationAxisSpec.post enc Try.prog Try.f13 false true false false) := by
  refine returnsInHanded_of_change (C := Try.checked) own started (by kernel_rfl) Try.func13
    (ChangeSpec.witness6 (enc := enc) (C := Try.checked) false ⟨#[], #[.agg #[.int .i64 0, .int .i64 0, .int .i64 0, .int .i64 0], .int .i64 0], []⟩ 8 (by kernel_rfl) (by kernel_rfl) (by kernel_rfl) (by kernel_rfl)) ?_
  intro W base args ds gs before hval0 hW hcnd _
  have hval : ∀ (j : Nat) t v, Try.f13.params[j]? = some t → args[j]? = some v → Value.okWide Try.prog W .any base t v := hval0
  have hW' := hW
  obtain ⟨p, q, hA0, hV, rfl, hfz, hnd⟩ := hW
  have hA : DataW.TrodAll enc Try.prog W 0 (fun _ => true) true Try.f13.params.toList args.toList ds p := hA0
  rw [Try.params13] at hA hval
  obtain ⟨v0, vs0, d0, ds0, p0, q0, hargs, rfl, rfl, h0, t0⟩ := trodAll_cons hA
  obtain ⟨v1, vs1, d1, ds1, p1, q1, rfl, rfl, rfl, h1, t1⟩ := trodAll_cons t0
  obtain ⟨rfl, rfl, rfl⟩ := trodAll_nil t1
  obtain rfl : args = #[v0, v1] := by cases args; simp_all
  obtain ⟨rfl, rfl⟩ := trodVars_none hV
  have k0 := h0
  have lt0 : ∀ x ∈ p0, x.block < W.heap.size := by obtain ⟨m, hm⟩ := k0; exact DataW.trod_lt m _ _ _ hm
  obtain ⟨y0, y1, y2, y3, e0, e1, e2, e3, fu0, rfl, rfl, _, g0, g1, g2, g3⟩ := Joins.open_agg4 Try.underlying64 (by kernel_rfl) (by kernel_rfl) (hval 0 64 v0 rfl rfl) h0
  obtain ⟨z00, f0, _, w00⟩ := DataW.trod_int Try.underlying3 g0
  simp only [List.cons.injEq, and_true] at f0
  subst f0
  obtain ⟨z01, f1, _, w01⟩ := DataW.trod_int Try.underlying3 g1
  simp only [List.cons.injEq, and_true] at f1
  subst f1
  obtain ⟨z02, f2, _, w02⟩ := DataW.trod_int Try.underlying3 g2
  simp only [List.cons.injEq, and_true] at f2
  subst f2
  obtain ⟨z03, f3, _, w03⟩ := DataW.trod_int Try.underlying3 g3
  simp only [List.cons.injEq, and_true] at f3
  subst f3
  clear g0 g1 g2 g3
  have k1 := h1
  have lt1 : ∀ x ∈ p1, x.block < W.heap.size := by obtain ⟨m, hm⟩ := k1; exact DataW.trod_lt m _ _ _ hm
  obtain ⟨a1, rfl, rfl, rfl, w1⟩ := open_int Try.underlying3 (hval 1 3 v1 rfl rfl) h1
  clear hA0 hval0
  refine (walk ⟨z00, z01, z02, z03⟩ a1 W ⟨i64_of_wf w00, i64_of_wf w01, i64_of_wf w02, i64_of_wf w03⟩ (i64_of_wf w1)).mono fun e W' ⟨he, bel⟩ => ?_
  subst he
  exact ⟨_, rfl, _, _, _, [], _, [], hW', trodAll_mk1 (shut_bool Try.underlying4 _), (trodAll_cons_mk (Below.trod laidOut (by kernel_rfl) (of_decide_eq_true (by kernel_rfl)) k0 bel lt0) (trodAll_cons_mk (shut_int Try.underlying3 w1) trodAll_mk0)), rfl, bel.frame _, fun h => by cases h⟩

theorem over : Rows.fnExactCommutationAxisRow.holds Try.pinned (OpenSpec.ofChange Rows.fnExactCommutationAxisSpec) :=
  OpenClaim.holds_of_wide 13 Try.f13 rfl rfl rfl rfl rfl rfl rfl ⟨rfl, rfl, rfl, rfl, rfl⟩ rfl rfl rfl rfl rfl (by kernel_rfl) Try.func13 (by kernel_rfl)
    (of_decide_eq_true (by kernel_rfl)) (by unfold Func.isWrapper; first | (rw [if_pos (by decide +kernel)]; kernel_rfl) | (rw [if_neg (by decide +kernel)]; exact ⟨rfl, rfl⟩))
    (fun os started H enc _ => lifted os started H enc)

theorem proved : Rows.FnExactCommutationAxisSaid := over
#print axioms proved
end Go.Proofs.Ytbmalgndjnaghaa.fnExactCommutationAxis
