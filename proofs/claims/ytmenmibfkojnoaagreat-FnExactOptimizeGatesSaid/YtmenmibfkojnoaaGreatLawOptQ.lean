/- The law FnExactOptimizeGates returns true for every input. No condition. -/
import Derived.Test.YtmenmibfkojnoaaGreatQ01
import Derived.Test.YtmenmibfkojnoaaGreatQ52
import Derived.Test.YtmenmibfkojnoaaGreatOptBQ
import Derived.Test.YtmenmibfkojnoaaGreatRows
import Derived.ChangeOld
set_option maxHeartbeats 16000000
namespace Go.Proofs.YtmenmibfkojnoaaGreat.fnExactOptimizeGates
open Go.ChangeShapes Go.WideShapes Go.ChangeAt Go.RowKit
set_option linter.unusedVariables false
set_option maxRecDepth 100000 in
theorem walk (A : Option Addr) (n c : Nat) (gs : List Gt) (a1 : Int) (w : World) (h : RdG w A n gs) (hnc : n <= c) (hc : c <= maxLen) (ok : ∀ g ∈ gs, g.ok) (i1 : I64 a1) :
  Calls Tryz.prog 4 #[.slice A n c, .int .i64 a1] w fun e w' => e = .returned (.bool true) /\ Below w.heap.size w w' := by
 unfold maxLen at hc
 have H := zH h
 have hlg := h.1
 clear h ok i1
 by_cases hn : n <= 1048576
 ·have hlen : (opt gs a1).length <= 1099511627776 := (by have := opt_len gs a1; have := cost_bd gs; omega)
  clear hlg
  go_enter Tryz.func4, Tryz.ntmps4
  go_wp2_with fail
  refine (l_szGateS _ _ _ (by omega) _).mono ?_
  rintro e w' ⟨rfl, rfl⟩
  rw [if_pos hn]
  go_wp2_with fail
  refine (l_toGateS _ _ _ _ _ H.out hn).mono ?_
  rintro e wa ⟨Aa, ca, rfl, oa, ba⟩
  go_wp2_with fail
  refine (s_Opt a1 _ _ _ _ _ (RdG.own oa) (by omega)).mono ?_
  rintro e w1 ⟨A1, c1, rfl, o1, b1'⟩
  have b1 := below_trans ba b1'
  go_wp2_with fail
  refine (l_toGateS _ _ _ _ _ (H.out.below b1) hn).mono ?_
  rintro e wx ⟨Ax, cx, rfl, ox, bx⟩
  have b0x := below_trans b1 bx
  go_wp2_with fail
  refine (i_Opt a1 _ _ _ _ _ (RdG.own ox) (by omega)).mono ?_
  rintro e w2 ⟨A2, c2, rfl, o2, b2'⟩
  have b2 := below_trans bx b2'
  have b02 := below_trans b1 b2
  go_wp2_with fail
  refine (l_eqGateS_same _ _ _ _ _ _ _ (RdG.own o2) (RdG.own (ownsRow_below o1 b2)) hlen).mono ?_
  rintro e w3 ⟨rfl, b3⟩
  have b03 := below_trans b02 b3
  have p1 := ownsRow_below (ownsRow_below o1 b2) b3
  have p2 := ownsRow_below o2 b3
  have px := ownsRow_below (ownsRow_below ox b2') b3
  go_wp2_with fail
  refine (l_toGateS _ _ _ _ _ (H.out.below b03) hn).mono ?_
  rintro e wy ⟨Ay, cy, rfl, oy, by_⟩
  have b0y := below_trans b03 by_
  go_wp2_with fail
  refine (l_eqGateS_same _ _ _ _ _ _ _ (RdG.own (ownsRow_below px by_)) (RdG.own oy) (by omega)).mono ?_
  rintro e wz ⟨rfl, bz⟩
  have b0z := below_trans b0y bz
  have b3z := below_trans by_ bz
  have q1 := ownsRow_below p1 b3z
  have q2 := ownsRow_below p2 b3z
  have qx := ownsRow_below px b3z
  go_wp2_with fail
  refine (l_markGateS _ _ _ _ _ 1 _ _ qx (by omega) (by omega) (by omega)).mono ?_
  rintro e wm ⟨rfl, om, gm⟩
  have a1x := own_apart o1 ox zR
  have a2x := own_apart_r ox o2 zR
  have r1 := q1.kept gm a1x
  have r2 := q2.kept gm a2x
  have b0m : Below w.heap.size w wm := below_grown b0z b0z.size qx b1.size gm
  have hm1 : ¬ ((1 : Int) + 4 * n < 0) := by omega
  go_wp2_with fail
  refine (l_eqGateS_same _ _ _ _ _ _ _ (RdG.own r2) (RdG.own r1) hlen).mono ?_
  rintro e wn ⟨rfl, bn⟩
  have b03 := below_trans b0m bn
  have p1 := ownsRow_below r1 bn
  have p2 := ownsRow_below r2 bn
  go_wp2_with fail
  refine (l_markGateS _ _ _ _ _ 1 _ _ p2 hlen (by omega) (by omega)).mono ?_
  rintro e w4 ⟨rfl, o4, g4⟩
  have b04 : Below w.heap.size w w4 := below_grown b03 b03.size p2 b0x.size g4
  have t1 := p1.kept g4 (own_apart o1 o2 bx.size)
  go_wp2_with fail
  refine (l_heldGateS _ _ _ 1 _ (RdG.own o4) hlen (by omega) (by omega)).mono ?_
  rintro e w5 ⟨rfl, rfl⟩
  go_wp2_with fail
  refine (l_toGateS _ _ _ _ _ (H.out.below b04) hn).mono ?_
  rintro e wb ⟨Ab, cb, rfl, ob, bb⟩
  go_wp2_with fail
  refine (i_Opt a1 _ _ _ _ _ (RdG.own ob) (by omega)).mono ?_
  rintro e w6 ⟨A6, c6, rfl, o6, b6'⟩
  have b6 := below_trans bb b6'
  go_wp2_with fail
  refine (l_eqGateS_same _ _ _ _ _ _ _ (RdG.own o6) (RdG.own (ownsRow_below t1 b6)) hlen).mono ?_
  rintro e w7 ⟨rfl, b7⟩
  go_wp2_with fail
  refine (l_heldGateS _ _ _ 1 _ (RdG.own (ownsRow_below (ownsRow_below o4 b6) b7)) hlen (by omega) (by omega)).mono ?_
  rintro e w8 ⟨rfl, rfl⟩
  go_wp2_with fail
  go_ret
  exact ⟨rfl, below_trans (below_trans b04 b6) b7⟩
 ·go_enter Tryz.func4, Tryz.ntmps4
  go_wp2_with fail
  refine (l_szGateS _ _ _ (by omega) _).mono ?_
  rintro e w' ⟨rfl, rfl⟩
  rw [if_neg hn]
  go_wp2_with fail
  go_ret
  exact ⟨rfl, zW⟩
theorem own : ownKnob Tryz.prog.godebug = none := by kernel_rfl
theorem laidOut : laidOutB Tryz.prog = true := by kernel_rfl
set_option maxRecDepth 100000 in
theorem lifted (os : Os) (started : os.Started) (H : Type) (enc : TypeId × Value -> H) :
  ReturnsInHanded {} Tryz.checked os 4 .any (Rows.fnExactOptimizeGatesSpec.pre6 enc Tryz.prog Tryz.f4 Rows.fnExactOptimizeGatesRow.domain false) (Rows.fnExactOptimizeGatesSpec.post enc Tryz.prog Tryz.f4 false true false false) := by
 refine returnsInHanded_of_change (C := Tryz.checked) own started (by kernel_rfl) Tryz.func4
  (ChangeSpec.witness6 (enc := enc) (C := Tryz.checked) false ⟨#[], #[.slice none 0 0, .int .i64 0], []⟩ 8 (by kernel_rfl) (by kernel_rfl) (by kernel_rfl) (by kernel_rfl)) ?_
 intro W base args ds gs before hval0 hW hcnd _
 have hval : ∀ (j : Nat) t v, Tryz.f4.params[j]? = some t -> args[j]? = some v -> Value.okWide Tryz.prog W .any base t v := hval0
 have hW' := hW
 obtain ⟨p, q, hA0, hV, rfl, hfz, hnd⟩ := hW
 have hA : DataW.TrodAll enc Tryz.prog W 0 (fun _ => true) true Tryz.f4.params.toList args.toList ds p := hA0
 rw [Tryz.params4] at hA hval
 obtain ⟨v0, vs0, d0, ds0, p0, q0, hargs, rfl, rfl, h0, t0⟩ := trodAll_cons hA
 obtain ⟨v1, vs1, d1, ds1, p1, q1, rfl, rfl, rfl, h1, t1⟩ := trodAll_cons t0
 obtain ⟨rfl, rfl, rfl⟩ := trodAll_nil t1
 obtain rfl : args = #[v0, v1] := by cases args; simp_all
 obtain ⟨rfl, rfl⟩ := trodVars_none hV
 have k0 := h0
 have lt0 : ∀ x ∈ p0, x.block < W.heap.size := by obtain ⟨m, hm⟩ := k0; exact DataW.trod_lt m _ _ _ hm
 obtain ⟨A0, n0, c0, rfl⟩ := okWide_slice Tryz.underlying22 (hval 0 22 v0 rfl rfl)
 obtain ⟨fu0, hf0⟩ := h0
 obtain ⟨_, _, _, x0, e0, r0, l0, m0, ok0⟩ := open_gates Tryz.underlying22 Tryz.underlying49 (by kernel_rfl) (by kernel_rfl) Tryz.underlying3 Tryz.underlying3 Tryz.underlying3 Tryz.underlying3 hf0
 simp only [Value.slice.injEq] at e0
 obtain ⟨rfl, rfl, rfl⟩ := e0
 have k1 := h1
 have lt1 : ∀ x ∈ p1, x.block < W.heap.size := by obtain ⟨m, hm⟩ := k1; exact DataW.trod_lt m _ _ _ hm
 obtain ⟨a1, rfl, rfl, rfl, w1⟩ := open_int Tryz.underlying3 (hval 1 3 v1 rfl rfl) h1
 clear hA0 hval0
 refine (walk A0 n0 c0 x0 a1 W r0 l0 m0 ok0 (i64_of_wf w1)).mono fun e W' ⟨he, bel⟩ => ?_
 subst he
 exact ⟨_, rfl, _, _, _, [], _, [], hW', trodAll_mk1 (shut_bool Tryz.underlying4 _), (trodAll_cons_mk (Below.trod laidOut (by kernel_rfl) (of_decide_eq_true (by kernel_rfl)) k0 bel lt0) (trodAll_cons_mk (shut_int Tryz.underlying3 w1) trodAll_mk0)), rfl, bel.frame _, fun h => by cases h⟩
theorem over : Rows.fnExactOptimizeGatesRow.holds Tryz.pinned (OpenSpec.ofChange Rows.fnExactOptimizeGatesSpec) :=
 OpenClaim.holds_of_wide 4 Tryz.f4 rfl rfl rfl rfl rfl rfl rfl ⟨rfl, rfl, rfl, rfl, rfl⟩ rfl rfl rfl rfl rfl (by kernel_rfl) Tryz.func4 (by kernel_rfl)
  (of_decide_eq_true (by kernel_rfl)) (by unfold Func.isWrapper; first | (rw [if_pos (by decide +kernel)]; kernel_rfl) | (rw [if_neg (by decide +kernel)]; exact ⟨rfl, rfl⟩))
  (fun os started H enc _ => lifted os started H enc)
theorem proved : Rows.FnExactOptimizeGatesSaid := over
#print axioms proved
end Go.Proofs.YtmenmibfkojnoaaGreat.fnExactOptimizeGates
