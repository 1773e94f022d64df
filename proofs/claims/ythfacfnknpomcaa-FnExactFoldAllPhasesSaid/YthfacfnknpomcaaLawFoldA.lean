/- The law FnExactFoldAllPhases returns true for every input. No condition. -/
import Derived.Test.YthfacfnknpomcaaRows
import Derived.Test.YthfacfnknpomcaaGateT
import Derived.Test.YthfacfnknpomcaaOpen
import Derived.Test.YthfacfnknpomcaaFoldA
import Derived.Deep.RegionHeld3
import Derived.ChangeOld
namespace Go.Proofs.Ythfacfnknpomcaa.fnExactFoldAllPhases
open Go.ChangeShapes Go.WideShapes Go.ChangeAt Go.RowKit
set_option linter.unusedVariables false

set_option maxRecDepth 100000 in
set_option maxHeartbeats 6400000 in
theorem walk (A0 : Option Addr) (n0 c0 : Nat) (x0 : List Gt) (a1 : Int) (w : World) (r0 : RdG w A0 n0 x0) (l0 : n0 ≤ c0) (m0 : c0 ≤ maxLen) (ok0 : ∀ g ∈ x0, g.ok) (i1 : I64 a1) :
    Calls Try.prog 7 #[.slice A0 n0 c0, .int .i64 a1] w fun e w' => e = .returned (.bool true) ∧ Below w.heap.size w w' := by
  unfold maxLen at m0
  have H0 := Lib.hid r0
  have hl0 := r0.1
  obtain ⟨R0, hR0⟩ : ∃ R, (foldAllP x0 a1).1 = R := ⟨_, rfl⟩
  have HR0 := Lib.hid hR0
  obtain ⟨q0, hq0⟩ : ∃ q, R0.length = q := ⟨_, rfl⟩
  have HQ0 := Lib.hid hq0
  obtain ⟨R1, hR1⟩ : ∃ R, (foldAllP x0 a1).2 = R := ⟨_, rfl⟩
  have HR1 := Lib.hid hR1
  clear r0 ok0 i1
  have BW := Lib.hid (show Below w.heap.size w (w) from Below.refl _ _)
  by_cases hz0 : n0 ≤ 1048576
  rotate_left
  · skip
    go_enter Try.func7, Try.ntmps7
    go_wp2_with fail
    refine (l_szGateS _ _ _ (by omega) _).mono ?_
    rintro e wf_1 ⟨rfl, rfl⟩
    rw [if_neg (by omega)]
    go_wp2_with fail
    go_ret
    exact ⟨rfl, BW.out⟩
  go_enter Try.func7, Try.ntmps7
  go_wp2_with fail
  refine (l_szGateS _ _ _ (by omega) _).mono ?_
  rintro e wa_2 ⟨rfl, rfl⟩
  rw [if_pos hz0]
  have hy0 : n0 ≤ 1048576 := hz0
  have hlen0 : q0 ≤ 1073741824 := by rw [← hq0, ← hR0]; exact (by have := foldAllP_len x0 a1; omega)
  clear hq0
  clear hR0
  clear hR1
  clear hl0
  go_wp2_with fail
  refine (l_toGateS _ _ _ _ _ (H0.out.below BW.out) hy0).mono ?_
  rintro e w_7 ⟨A_3, c_4, rfl, o_5, b_6⟩
  have fW_8 := Lib.hid (below_trans BW.out b_6)
  have t_9 := Lib.hid o_5
  clear BW
  go_wp2_with fail
  refine (s_FoldAllP _ _ _ x0 a1 _ (RdG.own t_9.out) (by omega)).mono ?_
  rintro e w_17 ⟨A_11, c_12, rfl, o_13, b_10⟩
  rw [HR0.out] at o_13 ⊢
  rw [HQ0.out] at o_13 ⊢
  rw [HR1.out]
  have hB_18 := fW_8.out.size
  have fW_19 := Lib.hid (below_trans fW_8.out b_10)
  have ft0_20 := Lib.hid (ownsRow_below t_9.out b_10)
  have os0_21 := Lib.hid o_13
  clear fW_8 t_9
  go_wp2_with fail
  refine (l_toGateS _ _ _ _ _ (H0.out.below fW_19.out) hy0).mono ?_
  rintro e w_26 ⟨A_22, c_23, rfl, o_24, b_25⟩
  have hB_27 := fW_19.out.size
  have ap_28 := Lib.hid (own_apart os0_21.out o_24 (Nat.le_refl _))
  have ap_29 := Lib.hid (own_apart_r os0_21.out o_24 (Nat.le_refl _))
  have fW_30 := Lib.hid (below_trans fW_19.out b_25)
  have fs0_31 := Lib.hid (ownsRow_below os0_21.out b_25)
  have ox_32 := Lib.hid o_24
  clear fW_19 os0_21 o_24 b_25
  go_wp2_with fail
  refine (i_FoldAllP _ _ _ x0 a1 _ (RdG.own ox_32.out) (by omega)).mono ?_
  rintro e w_40 ⟨A_34, c_35, rfl, o_36, b_33⟩
  rw [HR0.out] at o_36 ⊢
  rw [HQ0.out] at o_36 ⊢
  rw [HR1.out]
  have hB_41 := fW_30.out.size
  have ap_42 := Lib.hid (own_apart fs0_31.out o_36 (by simp <;> omega))
  have ap_43 := Lib.hid (own_apart_r fs0_31.out o_36 (by simp <;> omega))
  have ap_44 := Lib.hid (own_apart ox_32.out o_36 (by simp <;> omega))
  have ap_45 := Lib.hid (own_apart_r ox_32.out o_36 (by simp <;> omega))
  have fW_46 := Lib.hid (below_trans fW_30.out b_33)
  have fs0_47 := Lib.hid (ownsRow_below fs0_31.out b_33)
  have fx0_48 := Lib.hid (ownsRow_below ox_32.out b_33)
  have og0_49 := Lib.hid o_36
  clear fW_30 fs0_31 ox_32
  go_wp2_with fail
  refine (l_eqGateS_same _ _ _ _ _ _ _ (RdG.own og0_49.out) (RdG.own fs0_47.out) (by omega)).mono ?_
  rintro e w_51 ⟨rfl, b_50⟩
  have fW_52 := Lib.hid (below_trans fW_46.out b_50)
  have fs0_53 := Lib.hid (ownsRow_below fs0_47.out b_50)
  have fx0_54 := Lib.hid (ownsRow_below fx0_48.out b_50)
  have fg0_55 := Lib.hid (ownsRow_below og0_49.out b_50)
  clear fW_46 fs0_47 fx0_48 og0_49 b_50
  go_wp2_with fail
  refine (l_toGateS _ _ _ _ _ (H0.out.below fW_52.out) hy0).mono ?_
  rintro e w_60 ⟨A_56, c_57, rfl, o_58, b_59⟩
  have fW_61 := Lib.hid (below_trans fW_52.out b_59)
  have fs0_62 := Lib.hid (ownsRow_below fs0_53.out b_59)
  have fx0_63 := Lib.hid (ownsRow_below fx0_54.out b_59)
  have fg0_64 := Lib.hid (ownsRow_below fg0_55.out b_59)
  have t_65 := Lib.hid o_58
  clear fW_52 fs0_53 fx0_54 fg0_55 o_58 b_59
  go_wp2_with fail
  refine (l_eqGateS_same _ _ _ _ _ _ _ (RdG.own fx0_63.out) (RdG.own t_65.out) (by omega)).mono ?_
  rintro e w_67 ⟨rfl, b_66⟩
  have fW_68 := Lib.hid (below_trans fW_61.out b_66)
  have fs0_69 := Lib.hid (ownsRow_below fs0_62.out b_66)
  have fx0_70 := Lib.hid (ownsRow_below fx0_63.out b_66)
  have fg0_71 := Lib.hid (ownsRow_below fg0_64.out b_66)
  have ft_72 := Lib.hid (ownsRow_below t_65.out b_66)
  clear fW_61 fs0_62 fx0_63 fg0_64 t_65 b_66
  go_wp2_with fail
  refine (l_markGateS _ _ _ _ _ _ _ _ fx0_70.out (by omega) (by omega) (by omega)).mono ?_
  rintro e w_75 ⟨rfl, om_74, gm_73⟩
  have fW_76 := Lib.hid (below_grown (fW_68.out) (Below.size (fW_68.out)) fx0_70.out hB_27 gm_73)
  have fs0_77 := Lib.hid (World.ownsRow.kept (fs0_69.out) gm_73 ap_28.out)
  have fg0_78 := Lib.hid (World.ownsRow.kept (fg0_71.out) gm_73 ap_45.out)
  have fx0_79 := Lib.hid om_74
  clear gm_73 fW_68 fs0_69 fx0_70 fg0_71
  have hk_80 : ¬ (1 + 4 * (n0 : Int) < 0) := by omega
  go_wp2_with fail
  refine (l_eqGateS_same _ _ _ _ _ _ _ (RdG.own fg0_78.out) (RdG.own fs0_77.out) (by omega)).mono ?_
  rintro e w_82 ⟨rfl, b_81⟩
  have fW_83 := Lib.hid (below_trans fW_76.out b_81)
  have fs0_84 := Lib.hid (ownsRow_below fs0_77.out b_81)
  have fg0_85 := Lib.hid (ownsRow_below fg0_78.out b_81)
  clear fW_76 fs0_77 fg0_78 b_81
  clear hk_80
  go_wp2_with fail
  refine (l_markGateS _ _ _ _ _ _ _ _ fg0_85.out (by omega) (by omega) (by omega)).mono ?_
  rintro e w_88 ⟨rfl, om_87, gm_86⟩
  have fW_89 := Lib.hid (below_grown (fW_83.out) (Below.size (fW_83.out)) fg0_85.out hB_41 gm_86)
  have fs0_90 := Lib.hid (World.ownsRow.kept (fs0_84.out) gm_86 ap_42.out)
  have fg0_91 := Lib.hid om_87
  clear gm_86 fW_83 fs0_84 fg0_85
  go_wp2_with fail
  refine (l_heldGateS _ _ _ _ _ (RdG.own fg0_91.out) (by omega) (by omega) (by omega)).mono ?_
  rintro e w_92 ⟨rfl, rfl⟩
  go_wp2_with fail
  refine (l_toGateS _ _ _ _ _ (H0.out.below fW_89.out) hy0).mono ?_
  rintro e w_97 ⟨A_93, c_94, rfl, o_95, b_96⟩
  have fW_98 := Lib.hid (below_trans fW_89.out b_96)
  have fs0_99 := Lib.hid (ownsRow_below fs0_90.out b_96)
  have fg0_100 := Lib.hid (ownsRow_below fg0_91.out b_96)
  have t_101 := Lib.hid o_95
  clear fW_89 fs0_90 fg0_91
  go_wp2_with fail
  refine (i_FoldAllP _ _ _ x0 a1 _ (RdG.own t_101.out) (by omega)).mono ?_
  rintro e w_109 ⟨A_103, c_104, rfl, o_105, b_102⟩
  rw [HR0.out] at o_105 ⊢
  rw [HQ0.out] at o_105 ⊢
  rw [HR1.out]
  have hB_110 := fW_98.out.size
  have ap_111 := Lib.hid (own_apart fs0_99.out o_105 (Nat.le_refl _))
  have ap_112 := Lib.hid (own_apart_r fs0_99.out o_105 (Nat.le_refl _))
  have ap_113 := Lib.hid (own_apart fg0_100.out o_105 (Nat.le_refl _))
  have ap_114 := Lib.hid (own_apart_r fg0_100.out o_105 (Nat.le_refl _))
  have fW_115 := Lib.hid (below_trans fW_98.out b_102)
  have fs0_116 := Lib.hid (ownsRow_below fs0_99.out b_102)
  have fg0_117 := Lib.hid (ownsRow_below fg0_100.out b_102)
  have ft0_118 := Lib.hid (ownsRow_below t_101.out b_102)
  have oh0_119 := Lib.hid o_105
  clear fW_98 fs0_99 fg0_100 t_101
  go_wp2_with fail
  refine (l_eqGateS_same _ _ _ _ _ _ _ (RdG.own oh0_119.out) (RdG.own fs0_116.out) (by omega)).mono ?_
  rintro e w_121 ⟨rfl, b_120⟩
  have fW_122 := Lib.hid (below_trans fW_115.out b_120)
  have fs0_123 := Lib.hid (ownsRow_below fs0_116.out b_120)
  have fg0_124 := Lib.hid (ownsRow_below fg0_117.out b_120)
  have fh0_125 := Lib.hid (ownsRow_below oh0_119.out b_120)
  clear fW_115 fs0_116 fg0_117 oh0_119 b_120
  go_wp2_with fail
  refine (l_heldGateS _ _ _ _ _ (RdG.own fg0_124.out) (by omega) (by omega) (by omega)).mono ?_
  rintro e w_126 ⟨rfl, rfl⟩
  go_wp2_with fail
  go_ret
  exact ⟨rfl, fW_122.out⟩

theorem own : ownKnob Try.prog.godebug = none := by kernel_rfl
theorem laidOut : laidOutB Try.prog = true := by kernel_rfl
set_option maxRecDepth 100000 in
theorem lifted (os : Os) (started : os.Started) (H : Type) (enc : TypeId × Value → H) :
    ReturnsInHanded {} Try.checked os 7 .any (Rows.fnExactFoldAllPhasesSpec.pre6 enc Try.prog Try.f7 Rows.fnExactFoldAllPhasesRow.domain false) (Rows.fnExactFoldAllPhasesSpec.post enc Try.prog Try.f7 false true false false) := by
  refine returnsInHanded_of_change (C := Try.checked) own started (by kernel_rfl) Try.func7
    (ChangeSpec.witness6 (enc := enc) (C := Try.checked) false ⟨#[], #[.slice none 0 0, .int .i64 0], []⟩ 8 (by kernel_rfl) (by kernel_rfl) (by kernel_rfl) (by kernel_rfl)) ?_
  intro W base args ds gs before hval0 hW hcnd _
  have hval : ∀ (j : Nat) t v, Try.f7.params[j]? = some t → args[j]? = some v → Value.okWide Try.prog W .any base t v := hval0
  have hW' := hW
  obtain ⟨p, q, hA0, hV, rfl, hfz, hnd⟩ := hW
  have hA : DataW.TrodAll enc Try.prog W 0 (fun _ => true) true Try.f7.params.toList args.toList ds p := hA0
  rw [Try.params7] at hA hval
  obtain ⟨v0, vs0, d0, ds0, p0, q0, hargs, rfl, rfl, h0, t0⟩ := trodAll_cons hA
  obtain ⟨v1, vs1, d1, ds1, p1, q1, rfl, rfl, rfl, h1, t1⟩ := trodAll_cons t0
  obtain ⟨rfl, rfl, rfl⟩ := trodAll_nil t1
  obtain rfl : args = #[v0, v1] := by cases args; simp_all
  obtain ⟨rfl, rfl⟩ := trodVars_none hV
  have k0 := h0
  have lt0 : ∀ x ∈ p0, x.block < W.heap.size := by obtain ⟨m, hm⟩ := k0; exact DataW.trod_lt m _ _ _ hm
  obtain ⟨A0, n0, c0, rfl⟩ := okWide_slice Try.underlying45 (hval 0 45 v0 rfl rfl)
  obtain ⟨fu0, hf0⟩ := h0
  obtain ⟨_, _, _, x0, e0, r0, l0, m0, ok0⟩ := open_gates Try.underlying45 Try.underlying35 (by kernel_rfl) (by kernel_rfl) Try.underlying3 Try.underlying3 Try.underlying3 Try.underlying3 hf0
  simp only [Value.slice.injEq] at e0
  obtain ⟨rfl, rfl, rfl⟩ := e0
  have k1 := h1
  have lt1 : ∀ x ∈ p1, x.block < W.heap.size := by obtain ⟨m, hm⟩ := k1; exact DataW.trod_lt m _ _ _ hm
  obtain ⟨a1, rfl, rfl, rfl, w1⟩ := open_int Try.underlying3 (hval 1 3 v1 rfl rfl) h1
  clear hA0 hval0
  refine (walk A0 n0 c0 x0 a1 W r0 l0 m0 ok0 (i64_of_wf w1)).mono fun e W' ⟨he, bel⟩ => ?_
  subst he
  exact ⟨_, rfl, _, _, _, [], _, [], hW', trodAll_mk1 (shut_bool Try.underlying4 _), (trodAll_cons_mk (Below.trod laidOut (by kernel_rfl) (of_decide_eq_true (by kernel_rfl)) k0 bel lt0) (trodAll_cons_mk (shut_int Try.underlying3 w1) trodAll_mk0)), rfl, bel.frame _, fun h => by cases h⟩

theorem over : Rows.fnExactFoldAllPhasesRow.holds Try.pinned (OpenSpec.ofChange Rows.fnExactFoldAllPhasesSpec) :=
  OpenClaim.holds_of_wide 7 Try.f7 rfl rfl rfl rfl rfl rfl rfl ⟨rfl, rfl, rfl, rfl, rfl⟩ rfl rfl rfl rfl rfl (by kernel_rfl) Try.func7 (by kernel_rfl)
    (of_decide_eq_true (by kernel_rfl)) (by unfold Func.isWrapper; first | (rw [if_pos (by decide +kernel)]; kernel_rfl) | (rw [if_neg (by decide +kernel)]; exact ⟨rfl, rfl⟩))
    (fun os started H enc _ => lifted os started H enc)

theorem proved : Rows.FnExactFoldAllPhasesSaid := over
#print axioms proved
end Go.Proofs.Ythfacfnknpomcaa.fnExactFoldAllPhases
