/- The law FnExactEvalPhasePolynomial returns true for every input. No condition. -/
import Derived.Test.YthfacfnknpomcaaRows
import Derived.Test.YthfacfnknpomcaaEval
import Derived.Test.YthfacfnknpomcaaPolyM
import Derived.Test.YthfacfnknpomcaaOpen
import Derived.Deep.RegionHeld3
import Derived.ChangeOld
namespace Go.Proofs.Ythfacfnknpomcaa.fnExactEvalPhasePolynomial
open Go.ChangeShapes Go.WideShapes Go.ChangeAt Go.RowKit
set_option linter.unusedVariables false

set_option maxRecDepth 100000 in
set_option maxHeartbeats 6400000 in
theorem walk (N0 H0 : Int) (AT0 : Option Addr) (nT0 cT0 : Nat) (xT0 : List (Int × Int)) (AO0 : Option Addr) (nO0 cO0 : Nat) (xO0 : List (Int × Int)) (a1 : Int) (w : World) (iN0 : I64 N0) (iH0 : I64 H0) (rT0 : RdP w AT0 nT0 xT0) (lT0 : nT0 ≤ cT0) (mT0 : cT0 ≤ maxLen) (okT0 : ∀ g ∈ xT0, I64 g.1 ∧ I64 g.2) (rO0 : RdP w AO0 nO0 xO0) (lO0 : nO0 ≤ cO0) (mO0 : cO0 ≤ maxLen) (okO0 : ∀ g ∈ xO0, I64 g.1 ∧ I64 g.2) (i1 : I64 a1) :
    Calls Try.prog 5 #[.agg #[.int .i64 N0, .int .i64 H0, .slice AT0 nT0 cT0, .slice AO0 nO0 cO0], .int .i64 a1] w fun e w' => e = .returned (.bool true) ∧ Below w.heap.size w w' := by
  unfold maxLen at mT0 mO0
  have RT0 := Lib.hid rT0
  have zT0 : xT0.length ≤ nT0 := by have := rT0.1; omega
  have RO0 := Lib.hid rO0
  have zO0 : xO0.length ≤ nO0 := by have := rO0.1; omega
  clear rT0 rO0 okT0 okO0 iN0 iH0 i1
  obtain ⟨R1, hR1⟩ : ∃ R, evO a1 0 xO0 0 = R := ⟨_, rfl⟩
  obtain ⟨R2, hR2⟩ : ∃ R, evT a1 xT0 H0 % 8 = R := ⟨_, rfl⟩
  have HR1 := Lib.hid hR1
  have HR2 := Lib.hid hR2
  clear hR1 hR2
  have X0 := Lib.hid (Bx.new w 25 #[.int .i64 N0, .int .i64 H0, .slice AT0 nT0 cT0, .slice AO0 nO0 cO0])
  have BZ : Hid (Below w.heap.size w (w.alloc (.cells #[.int .i64 N0, .int .i64 H0, .slice AT0 nT0 cT0, .slice AO0 nO0 cO0] 25))) := Lib.hid ((Below.refl _ _).alloc (Nat.le_refl _) _)
  by_cases hz0 : (nT0 : Int) + nO0 ≤ 1048576
  rotate_left
  · go_enter Try.func5, Try.ntmps5
    go_wp2_with fail
    refine (l_szPoly _ _ _ _ _ _ _ _ _ (by omega) (by omega) (by omega) (by omega) _).mono ?_
    rintro e wa ⟨rfl, ba⟩
    rw [if_neg (by omega)]
    go_wp2_with fail
    go_ret
    exact ⟨rfl, below_trans BZ.out ba⟩
  go_enter Try.func5, Try.ntmps5
  go_wp2_with fail
  refine (l_szPoly _ _ _ _ _ _ _ _ _ (by omega) (by omega) (by omega) (by omega) _).mono ?_
  rintro e wa ⟨rfl, ba⟩
  rw [if_pos hz0]
  have fW_1 := Lib.hid (below_trans BZ.out ba)
  have fX0_2 := Lib.hid (X0.out.below ba)
  clear BZ X0
  clear ba
  obtain ⟨p0, p1, p2, p3, _, _, _, _⟩ := fX0_2.out.four
  go_wp2_with fail
  refine (l_toPoly N0 H0 AT0 nT0 cT0 xT0 AO0 nO0 cO0 xO0 _ (RT0.out.below fW_1.out) (RO0.out.below fW_1.out) (by omega) (by omega)).mono ?_
  rintro e w_10 ⟨v, rfl, ⟨A_3, c_4, B_5, d_6, rfl, t_7, o_8⟩, b_9⟩
  clear p0 p1 p2 p3
  have fW_11 := Lib.hid (below_trans fW_1.out b_9)
  have fX0_12 := Lib.hid (fX0_2.out.below b_9)
  clear fW_1 fX0_2
  obtain ⟨p0, p1, p2, p3, _, _, _, _⟩ := fX0_12.out.four
  go_wp2_with fail
  refine (s_EvalP N0 H0 _ _ _ _ _ _ xT0 xO0 a1 _ (RdP.own t_7) (RdP.own o_8) (by omega) (by omega)).mono ?_
  rintro e w_14 ⟨rfl, b_13⟩
  rw [HR1.out, HR2.out]
  clear p0 p1 p2 p3
  have fW_15 := Lib.hid (below_trans fW_11.out b_13)
  have fX0_16 := Lib.hid (fX0_12.out.below b_13)
  clear fW_11 fX0_12
  obtain ⟨p0, p1, p2, p3, _, _, _, _⟩ := fX0_16.out.four
  go_wp2_with fail
  refine (l_toPoly N0 H0 AT0 nT0 cT0 xT0 AO0 nO0 cO0 xO0 _ (RT0.out.below fW_15.out) (RO0.out.below fW_15.out) (by omega) (by omega)).mono ?_
  rintro e w_24 ⟨v, rfl, ⟨A_17, c_18, B_19, d_20, rfl, t_21, o_22⟩, b_23⟩
  clear p0 p1 p2 p3
  have fW_25 := Lib.hid (below_trans fW_15.out b_23)
  have fX0_26 := Lib.hid (fX0_16.out.below b_23)
  clear fW_15 fX0_16
  have fW_27 := Lib.hid (Below.alloc fW_25.out (Below.size fW_25.out) (.cells #[.int .i64 N0, .int .i64 H0, .slice A_17 xT0.length c_18, .slice B_19 xO0.length d_20] 31))
  have fX0_28 := Lib.hid (Bx.alloc fX0_26.out (.cells #[.int .i64 N0, .int .i64 H0, .slice A_17 xT0.length c_18, .slice B_19 xO0.length d_20] 31))
  clear fW_25 fX0_26
  have fxT_29 := Lib.hid (World.ownsRow.alloc t_21 (.cells #[.int .i64 N0, .int .i64 H0, .slice A_17 xT0.length c_18, .slice B_19 xO0.length d_20] 31))
  have fxO_30 := Lib.hid (World.ownsRow.alloc o_22 (.cells #[.int .i64 N0, .int .i64 H0, .slice A_17 xT0.length c_18, .slice B_19 xO0.length d_20] 31))
  have fxX_31 := Lib.hid (Bx.new w_24 31 #[.int .i64 N0, .int .i64 H0, .slice A_17 xT0.length c_18, .slice B_19 xO0.length d_20])
  clear t_21 o_22 b_23
  go_wp2_with fail
  refine (i_EvalP N0 H0 _ _ _ _ _ _ xT0 xO0 a1 _ (RdP.own fxT_29.out) (RdP.own fxO_30.out) (by omega) (by omega)).mono ?_
  rintro e w_33 ⟨rfl, b_32⟩
  rw [HR1.out, HR2.out]
  have fW_34 := Lib.hid (below_trans fW_27.out b_32)
  have fX0_35 := Lib.hid (fX0_28.out.below b_32)
  have fxT_36 := Lib.hid (ownsRow_below fxT_29.out b_32)
  have fxO_37 := Lib.hid (ownsRow_below fxO_30.out b_32)
  have fxX_38 := Lib.hid (fxX_31.out.below b_32)
  clear fW_27 fX0_28 fxT_29 fxO_30 fxX_31
  obtain ⟨p0, p1, p2, p3, _, _, _, _⟩ := fX0_35.out.four
  obtain ⟨q0, q1, q2, q3, _, _, _, _⟩ := fxX_38.out.four
  go_wp2_with fail
  have fW_39 := Lib.hid (fW_34.out.drew)
  have fX0_40 := Lib.hid (fX0_35.out.drew)
  have fxT_41 := Lib.hid (ownsRow_drew fxT_36.out)
  have fxO_42 := Lib.hid (ownsRow_drew fxO_37.out)
  have fxX_43 := Lib.hid (fxX_38.out.drew)
  go_region_held3 (fun w' => w'.cell? ⟨w.heap.size, 0, none⟩ = some (.int .i64 N0) ∧ w'.cell? ⟨w.heap.size, 1, none⟩ = some (.int .i64 H0) ∧ w'.cell? ⟨w.heap.size, 2, none⟩ = some (.slice AT0 nT0 cT0) ∧ w'.cell? ⟨w.heap.size, 3, none⟩ = some (.slice AO0 nO0 cO0) ∧ w'.cell? ⟨w_24.heap.size, 0, none⟩ = some (.int .i64 N0) ∧ w'.cell? ⟨w_24.heap.size, 1, none⟩ = some (.int .i64 H0) ∧ w'.cell? ⟨w_24.heap.size, 2, none⟩ = some (.slice A_17 xT0.length c_18) ∧ w'.cell? ⟨w_24.heap.size, 3, none⟩ = some (.slice B_19 xO0.length d_20))
    (first | with_reducible exact ⟨s_59, s_60, s_61, s_62, s_63, s_64, s_65, s_66⟩ | with_reducible exact ⟨s_74, s_75, s_76, s_77, s_78, s_79, s_80, s_81⟩ | go_keep)
    (first
      | (go_at_call 17; (with_reducible refine (l_toPoly N0 H0 AT0 nT0 cT0 xT0 AO0 nO0 cO0 xO0 _ (RT0.out.below fW_39.out) (RO0.out.below fW_39.out) (by omega) (by omega)).mono ?_); rintro e w_51 ⟨v, rfl, ⟨A_44, c_45, B_46, d_47, rfl, t_48, o_49⟩, b_50⟩; have fW_52 := Lib.hid (below_trans fW_39.out b_50); have fX0_53 := Lib.hid (fX0_40.out.below b_50); have fxT_54 := Lib.hid (ownsRow_below fxT_41.out b_50); have fxO_55 := Lib.hid (ownsRow_below fxO_42.out b_50); have fxX_56 := Lib.hid (fxX_43.out.below b_50); have ft_57 := Lib.hid t_48; have fo_58 := Lib.hid o_49; have ⟨s_59, s_60, s_61, s_62, _, _, _, _⟩ := fX0_53.out.four; have ⟨s_63, s_64, s_65, s_66, _, _, _, _⟩ := fxX_56.out.four)
      | (go_at_call 19; (with_reducible refine (l_eqPoly_same _ _ _ _ _ _ _ xT0 _ _ _ _ _ xO0 _ (RdP.own fxT_54.out) (RdP.own ft_57.out) (RdP.own fxO_55.out) (RdP.own fo_58.out) (by omega) (by omega)).mono ?_); rintro e w_68 ⟨rfl, b_67⟩; have fW_69 := Lib.hid (below_trans fW_52.out b_67); have fX0_70 := Lib.hid (fX0_53.out.below b_67); have fxT_71 := Lib.hid (ownsRow_below fxT_54.out b_67); have fxO_72 := Lib.hid (ownsRow_below fxO_55.out b_67); have fxX_73 := Lib.hid (fxX_56.out.below b_67); have ⟨s_74, s_75, s_76, s_77, _, _, _, _⟩ := fX0_70.out.four; have ⟨s_78, s_79, s_80, s_81, _, _, _, _⟩ := fxX_73.out.four)
      | fail)
  clear p0 p1 p2 p3 q0 q1 q2 q3
  clear fW_34 fX0_35 fxT_36 fxO_37 fxX_38
  go_wp2_with fail
  go_ret
  exact ⟨rfl, fW_69.out⟩

theorem own : ownKnob Try.prog.godebug = none := by kernel_rfl
theorem laidOut : laidOutB Try.prog = true := by kernel_rfl
set_option maxRecDepth 100000 in
theorem lifted (os : Os) (started : os.Started) (H : Type) (enc : TypeId × Value → H) :
    ReturnsInHanded {} Try.checked os 5 .any (Rows.fnExactEvalPhasePolynomialSpec.pre6 enc Try.prog Try.f5 Rows.fnExactEvalPhasePolynomialRow.domain false) (Rows.fnExactEvalPhasePolynomialSpec.post enc Try.prog Try.f5 false true false false) := by
  refine returnsInHanded_of_change (C := Try.checked) own started (by kernel_rfl) Try.func5
    (ChangeSpec.witness6 (enc := enc) (C := Try.checked) false ⟨#[], #[.agg #[.int .i64 0, .int .i64 0, .slice none 0 0, .slice none 0 0], .int .i64 0], []⟩ 8 (by kernel_rfl) (by kernel_rfl) (by kernel_rfl) (by kernel_rfl)) ?_
  intro W base args ds gs before hval0 hW hcnd _
  have hval : ∀ (j : Nat) t v, Try.f5.params[j]? = some t → args[j]? = some v → Value.okWide Try.prog W .any base t v := hval0
  have hW' := hW
  obtain ⟨p, q, hA0, hV, rfl, hfz, hnd⟩ := hW
  have hA : DataW.TrodAll enc Try.prog W 0 (fun _ => true) true Try.f5.params.toList args.toList ds p := hA0
  rw [Try.params5] at hA hval
  obtain ⟨v0, vs0, d0, ds0, p0, q0, hargs, rfl, rfl, h0, t0⟩ := trodAll_cons hA
  obtain ⟨v1, vs1, d1, ds1, p1, q1, rfl, rfl, rfl, h1, t1⟩ := trodAll_cons t0
  obtain ⟨rfl, rfl, rfl⟩ := trodAll_nil t1
  obtain rfl : args = #[v0, v1] := by cases args; simp_all
  obtain ⟨rfl, rfl⟩ := trodVars_none hV
  have k0 := h0
  have lt0 : ∀ x ∈ p0, x.block < W.heap.size := by obtain ⟨m, hm⟩ := k0; exact DataW.trod_lt m _ _ _ hm
  obtain ⟨y0, y1, y2, y3, e0, e1, e2, e3, fu0, rfl, rfl, _, g0, g1, g2, g3⟩ := Joins.open_agg4 Try.underlying25 (by kernel_rfl) (by kernel_rfl) (hval 0 25 v0 rfl rfl) h0
  obtain ⟨N0, f0, _, w00⟩ := DataW.trod_int Try.underlying3 g0
  simp only [List.cons.injEq, and_true] at f0
  subst f0
  obtain ⟨H0, f1, _, w01⟩ := DataW.trod_int Try.underlying3 g1
  simp only [List.cons.injEq, and_true] at f1
  subst f1
  obtain ⟨AT0, nT0, cT0, xT0, rfl, rT0, lT0, mT0, okT0⟩ := open_pairs Try.underlying22 Try.underlying132 (by kernel_rfl) (by kernel_rfl) Try.underlying3 Try.underlying3 g2
  obtain ⟨AO0, nO0, cO0, xO0, rfl, rO0, lO0, mO0, okO0⟩ := open_pairs Try.underlying23 Try.underlying134 (by kernel_rfl) (by kernel_rfl) Try.underlying3 Try.underlying3 g3
  clear g0 g1 g2 g3
  have k1 := h1
  have lt1 : ∀ x ∈ p1, x.block < W.heap.size := by obtain ⟨m, hm⟩ := k1; exact DataW.trod_lt m _ _ _ hm
  obtain ⟨a1, rfl, rfl, rfl, w1⟩ := open_int Try.underlying3 (hval 1 3 v1 rfl rfl) h1
  clear hA0 hval0
  refine (walk N0 H0 AT0 nT0 cT0 xT0 AO0 nO0 cO0 xO0 a1 W (i64_of_wf w00) (i64_of_wf w01) rT0 lT0 mT0 okT0 rO0 lO0 mO0 okO0 (i64_of_wf w1)).mono fun e W' ⟨he, bel⟩ => ?_
  subst he
  exact ⟨_, rfl, _, _, _, [], _, [], hW', trodAll_mk1 (shut_bool Try.underlying4 _), (trodAll_cons_mk (Below.trod laidOut (by kernel_rfl) (of_decide_eq_true (by kernel_rfl)) k0 bel lt0) (trodAll_cons_mk (shut_int Try.underlying3 w1) trodAll_mk0)), rfl, bel.frame _, fun h => by cases h⟩

theorem over : Rows.fnExactEvalPhasePolynomialRow.holds Try.pinned (OpenSpec.ofChange Rows.fnExactEvalPhasePolynomialSpec) :=
  OpenClaim.holds_of_wide 5 Try.f5 rfl rfl rfl rfl rfl rfl rfl ⟨rfl, rfl, rfl, rfl, rfl⟩ rfl rfl rfl rfl rfl (by kernel_rfl) Try.func5 (by kernel_rfl)
    (of_decide_eq_true (by kernel_rfl)) (by unfold Func.isWrapper; first | (rw [if_pos (by decide +kernel)]; kernel_rfl) | (rw [if_neg (by decide +kernel)]; exact ⟨rfl, rfl⟩))
    (fun os started H enc _ => lifted os started H enc)

theorem proved : Rows.FnExactEvalPhasePolynomialSaid := over
#print axioms proved
end Go.Proofs.Ythfacfnknpomcaa.fnExactEvalPhasePolynomial
