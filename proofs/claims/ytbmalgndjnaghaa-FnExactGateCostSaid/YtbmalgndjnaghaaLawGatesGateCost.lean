/- The law FnExactGateCost returns true for every list of gates. No condition. -/
import Derived.Test.YtbmalgndjnaghaaRows
import Derived.Test.YtbmalgndjnaghaaGateT
import Derived.Test.YtbmalgndjnaghaaCost
import Derived.Test.YtbmalgndjnaghaaOpen
import Derived.ChangeOld
namespace Go.Proofs.Ytbmalgndjnaghaa.fnExactGateCost
open Go.ChangeShapes Go.WideShapes Go.ChangeAt Go.RowKit
set_option linter.unusedVariables false

set_option maxHeartbeats 400000 in
theorem walk (A : Option Addr) (n c : Nat) (gs : List Gt) (w : World) (h : RdG w A n gs) (hnc : n ≤ c) (hc : c ≤ maxLen) (ok : ∀ g ∈ gs, g.ok) :
    Calls Try.prog 10 #[.slice A n c] w fun e w' => e = .returned (.bool true) ∧ Below w.heap.size w w' := by
  unfold maxLen at hc
  have H := Lib.hid h
  clear h ok
  by_cases hn : n ≤ 1048576
  · go_enter Try.func10, Try.ntmps10
    go_wp2_with fail
    refine (l_szGateS _ _ _ (by omega) _).mono ?_
    rintro e w' ⟨rfl, rfl⟩
    rw [if_pos hn]
    go_wp2_with fail
    refine (l_toGateS _ _ _ _ _ H.out hn).mono ?_
    rintro e w1 ⟨A1, c1, rfl, o1, b1⟩
    go_wp2_with fail
    refine (s_GateCost _ _ _ _ _ (RdG.own o1) (by omega)).mono ?_
    rintro e w2 ⟨rfl, b2⟩
    have b02 := below_trans b1 b2
    go_wp2_with fail
    refine (l_toGateS _ _ _ _ _ (H.out.below b02) hn).mono ?_
    rintro e w3 ⟨A3, c3, rfl, o3, b3⟩
    have b03 := below_trans b02 b3
    go_wp2_with fail
    refine (i_GateCost _ _ _ _ _ (RdG.own o3) (by omega)).mono ?_
    rintro e w4 ⟨rfl, b4⟩
    have b04 := below_trans b03 b4
    go_wp2_with fail
    refine (l_toGateS _ _ _ _ _ (H.out.below b04) hn).mono ?_
    rintro e w5 ⟨A5, c5, rfl, o5, b5⟩
    have b05 := below_trans b04 b5
    go_wp2_with fail
    refine (l_eqGateS_same _ _ _ _ _ _ _ (RdG.own (ownsRow_below (ownsRow_below o3 b4) b5)) (RdG.own o5) (by omega)).mono ?_
    rintro e w6 ⟨rfl, b6⟩
    go_wp2_with fail
    go_ret
    exact ⟨rfl, below_trans b05 b6⟩
  · go_enter Try.func10, Try.ntmps10
    go_wp2_with fail
    refine (l_szGateS _ _ _ (by omega) _).mono ?_
    rintro e w' ⟨rfl, rfl⟩
    rw [if_neg hn]
    go_wp2_with fail
    go_ret
    exact ⟨rfl, Below.refl _ _⟩

theorem own : ownKnob Try.prog.godebug = none := by kernel_rfl
theorem laidOut : laidOutB Try.prog = true := by kernel_rfl
set_option maxRecDepth 100000 in
theorem lifted (os : Os) (started : os.Started) (H : Type) (enc : TypeId × Value → H) :
    ReturnsInHanded {} Try.checked os 10 .any (Rows.fnExactGateCostSpec.pre6 enc Try.prog Try.f10 Rows.fnExactGateCostRow.domain false) (Rows.fnExactGateCostSpec.post enc Try.prog Try.f10 false true false false) := by
  refine returnsInHanded_of_change (C := Try.checked) own started (by kernel_rfl) Try.func10
    (ChangeSpec.witness6 (enc := enc) (C := Try.checked) false ⟨#[], #[.slice none 0 0], []⟩ 8 (by kernel_rfl) (by kernel_rfl) (by kernel_rfl) (by kernel_rfl)) ?_
  intro W base args ds gs before hval0 hW hcnd _
  have hval : ∀ (j : Nat) t v, Try.f10.params[j]? = some t → args[j]? = some v → Value.okWide Try.prog W .any base t v := hval0
  have hW' := hW
  obtain ⟨p, q, hA0, hV, rfl, hfz, hnd⟩ := hW
  have hA : DataW.TrodAll enc Try.prog W 0 (fun _ => true) true Try.f10.params.toList args.toList ds p := hA0
  rw [Try.params10] at hA hval
  obtain ⟨v0, vs0, d0, ds0, p0, q0, hargs, rfl, rfl, h0, t0⟩ := trodAll_cons hA
  obtain ⟨rfl, rfl, rfl⟩ := trodAll_nil t0
  obtain rfl : args = #[v0] := by cases args; simp_all
  obtain ⟨rfl, rfl⟩ := trodVars_none hV
  have k0 := h0
  have lt0 : ∀ x ∈ p0, x.block < W.heap.size := by obtain ⟨m, hm⟩ := k0; exact DataW.trod_lt m _ _ _ hm
  obtain ⟨A0, n0, c0, rfl⟩ := okWide_slice Try.underlying22 (hval 0 22 v0 rfl rfl)
  obtain ⟨fu0, hf0⟩ := h0
  obtain ⟨_, _, _, x0, e0, r0, l0, m0, ok0⟩ := open_gates Try.underlying22 Try.underlying64 (by kernel_rfl) (by kernel_rfl) Try.underlying3 Try.underlying3 Try.underlying3 Try.underlying3 hf0
  simp only [Value.slice.injEq] at e0
  obtain ⟨rfl, rfl, rfl⟩ := e0
  clear hA0 hval0
  refine (walk A0 n0 c0 x0 W r0 l0 m0 ok0).mono fun e W' ⟨he, bel⟩ => ?_
  subst he
  exact ⟨_, rfl, _, _, _, [], _, [], hW', trodAll_mk1 (shut_bool Try.underlying4 _), (trodAll_cons_mk (Below.trod laidOut (by kernel_rfl) (of_decide_eq_true (by kernel_rfl)) k0 bel lt0) trodAll_mk0), rfl, bel.frame _, fun h => by cases h⟩

theorem over : Rows.fnExactGateCostRow.holds Try.pinned (OpenSpec.ofChange Rows.fnExactGateCostSpec) :=
  OpenClaim.holds_of_wide 10 Try.f10 rfl rfl rfl rfl rfl rfl rfl ⟨rfl, rfl, rfl, rfl, rfl⟩ rfl rfl rfl rfl rfl (by kernel_rfl) Try.func10 (by kernel_rfl)
    (of_decide_eq_true (by kernel_rfl)) (by unfold Func.isWrapper; first | (rw [if_pos (by decide +kernel)]; kernel_rfl) | (rw [if_neg (by decide +kernel)]; exact ⟨rfl, rfl⟩))
    (fun os started H enc _ => lifted os started H enc)

theorem proved : Rows.FnExactGateCostSaid := over
#print axioms proved
end Go.Proofs.Ytbmalgndjnaghaa.fnExactGateCost
