/- The law FnExactRotationGates returns true for every input. No condition. -/
import Derived.Test.YtbmalgndjnaghaaRows
import Derived.Test.YtbmalgndjnaghaaGateT
import Derived.Test.YtbmalgndjnaghaaRot
import Derived.Test.YtbmalgndjnaghaaBase3
import Derived.Test.YtbmalgndjnaghaaOpen
import Derived.ChangeOld
namespace Go.Proofs.Ytbmalgndjnaghaa.fnExactRotationGates
open Go.ChangeShapes Go.WideShapes Go.ChangeAt Go.RowKit
set_option linter.unusedVariables false

set_option maxHeartbeats 1600000 in
theorem walk (c q : Int) (w : World) (hc : I64 c) (hq : I64 q) :
    Calls Try.prog 6 #[.int .i64 c, .int .i64 q] w fun e w' => e = .returned (.bool true) ∧ Below w.heap.size w w' := by
  clear hc hq
  have hlen : (rotK c).length ≤ 1099511627776 := Nat.le_trans (rotK_len c) (by omega)
  go_enter Try.func6, Try.ntmps6
  go_wp2_with fail
  refine (s_RotationGates c q _).mono ?_
  rintro e w1 ⟨A1, c1, rfl, o1, b1⟩
  go_wp2_with fail
  refine (i_RotationGates c q _).mono ?_
  rintro e w2 ⟨A2, c2, rfl, o2, b2⟩
  have b02 := below_trans b1 b2
  go_wp2_with fail
  refine (l_eqGateS_same _ _ _ _ _ _ _ (RdG.own o2) (RdG.own (ownsRow_below o1 b2)) hlen).mono ?_
  rintro e w3 ⟨rfl, b3⟩
  have b03 := below_trans b02 b3
  have p1 := ownsRow_below (ownsRow_below o1 b2) b3
  have p2 := ownsRow_below o2 b3
  go_wp2_with fail
  refine (l_markGateS _ _ _ _ _ 1 _ _ p2 hlen (by omega) (by omega)).mono ?_
  rintro e w4 ⟨rfl, o4, g4⟩
  have b04 : Below w.heap.size w w4 := below_grown b03 b03.size p2 b1.size g4
  have t1 := p1.kept g4 (own_apart o1 o2 (Nat.le_refl _))
  go_wp2_with fail
  refine (l_heldGateS _ _ _ 1 _ (RdG.own o4) hlen (by omega) (by omega)).mono ?_
  rintro e w5 ⟨rfl, rfl⟩
  go_wp2_with fail
  refine (i_RotationGates c q _).mono ?_
  rintro e w6 ⟨A6, c6, rfl, o6, b6⟩
  go_wp2_with fail
  refine (l_eqGateS_same _ _ _ _ _ _ _ (RdG.own o6) (RdG.own (ownsRow_below t1 b6)) hlen).mono ?_
  rintro e w7 ⟨rfl, b7⟩
  go_wp2_with fail
  refine (l_heldGateS _ _ _ 1 _ (RdG.own (ownsRow_below (ownsRow_below o4 b6) b7)) hlen (by omega) (by omega)).mono ?_
  rintro e w8 ⟨rfl, rfl⟩
  go_wp2_with fail
  go_ret
  exact ⟨rfl, below_trans (below_trans b04 b6) b7⟩

theorem own : ownKnob Try.prog.godebug = none := by kernel_rfl
theorem laidOut : laidOutB Try.prog = true := by kernel_rfl
set_option maxRecDepth 100000 in
theorem lifted (os : Os) (started : os.Started) (H : Type) (enc : TypeId × Value → H) :
    ReturnsInHanded {} Try.checked os 6 .any (Rows.fnExactRotationGatesSpec.pre6 enc Try.prog Try.f6 Rows.fnExactRotationGatesRow.domain false) (Rows.fnExactRotationGatesSpec.post enc Try.prog Try.f6 false true false false) := by
  refine returnsInHanded_of_change (C := Try.checked) own started (by kernel_rfl) Try.func6
    (ChangeSpec.witness6 (enc := enc) (C := Try.checked) false ⟨#[], #[.int .i64 0, .int .i64 0], []⟩ 8 (by kernel_rfl) (by kernel_rfl) (by kernel_rfl) (by kernel_rfl)) ?_
  intro W base args ds gs before hval0 hW hcnd _
  have hval : ∀ (j : Nat) t v, Try.f6.params[j]? = some t → args[j]? = some v → Value.okWide Try.prog W .any base t v := hval0
  have hW' := hW
  obtain ⟨p, q, hA0, hV, rfl, hfz, hnd⟩ := hW
  have hA : DataW.TrodAll enc Try.prog W 0 (fun _ => true) true Try.f6.params.toList args.toList ds p := hA0
  rw [Try.params6] at hA hval
  obtain ⟨v0, vs0, d0, ds0, p0, q0, hargs, rfl, rfl, h0, t0⟩ := trodAll_cons hA
  obtain ⟨v1, vs1, d1, ds1, p1, q1, rfl, rfl, rfl, h1, t1⟩ := trodAll_cons t0
  obtain ⟨rfl, rfl, rfl⟩ := trodAll_nil t1
  obtain rfl : args = #[v0, v1] := by cases args; simp_all
  obtain ⟨rfl, rfl⟩ := trodVars_none hV
  have k0 := h0
  have lt0 : ∀ x ∈ p0, x.block < W.heap.size := by obtain ⟨m, hm⟩ := k0; exact DataW.trod_lt m _ _ _ hm
  obtain ⟨a0, rfl, rfl, rfl, w0⟩ := open_int Try.underlying3 (hval 0 3 v0 rfl rfl) h0
  have k1 := h1
  have lt1 : ∀ x ∈ p1, x.block < W.heap.size := by obtain ⟨m, hm⟩ := k1; exact DataW.trod_lt m _ _ _ hm
  obtain ⟨a1, rfl, rfl, rfl, w1⟩ := open_int Try.underlying3 (hval 1 3 v1 rfl rfl) h1
  clear hA0 hval0
  refine (walk a0 a1 W (i64_of_wf w0) (i64_of_wf w1)).mono fun e W' ⟨he, bel⟩ => ?_
  subst he
  exact ⟨_, rfl, _, _, _, [], _, [], hW', trodAll_mk1 (shut_bool Try.underlying4 _), (trodAll_cons_mk (shut_int Try.underlying3 w0) (trodAll_cons_mk (shut_int Try.underlying3 w1) trodAll_mk0)), rfl, bel.frame _, fun h => by cases h⟩

theorem over : Rows.fnExactRotationGatesRow.holds Try.pinned (OpenSpec.ofChange Rows.fnExactRotationGatesSpec) :=
  OpenClaim.holds_of_wide 6 Try.f6 rfl rfl rfl rfl rfl rfl rfl ⟨rfl, rfl, rfl, rfl, rfl⟩ rfl rfl rfl rfl rfl (by kernel_rfl) Try.func6 (by kernel_rfl)
    (of_decide_eq_true (by kernel_rfl)) (by unfold Func.isWrapper; first | (rw [if_pos (by decide +kernel)]; kernel_rfl) | (rw [if_neg (by decide +kernel)]; exact ⟨rfl, rfl⟩))
    (fun os started H enc _ => lifted os started H enc)

theorem proved : Rows.FnExactRotationGatesSaid := over
#print axioms proved
end Go.Proofs.Ytbmalgndjnaghaa.fnExactRotationGates
