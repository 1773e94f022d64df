/- The law FnExactComputePhasePolynomial returns true for every input. No condition. -/
import Derived.Test.YtbjpghgnginabaaRows
import Derived.Test.YtbjpghgnginabaaPolyL
import Derived.Test.YtbjpghgnginabaaPolyM
import Derived.Test.YtbjpghgnginabaaGateT
import Derived.Test.YtbjpghgnginabaaOpen
import Derived.ChangeOld
namespace Go.Proofs.Ytbjpghgnginabaa.fnExactComputePhasePolynomial
open Go.ChangeShapes Go.WideShapes Go.ChangeAt Go.RowKit
set_option linter.unusedVariables false

set_option maxRecDepth 100000 in
set_option maxHeartbeats 6400000 in
theorem walk (A0 : Option Addr) (n0 c0 : Nat) (x0 : List Gt) (a1 : Int) (w : World) (r0 : RdG w A0 n0 x0) (l0 : n0 ≤ c0) (m0 : c0 ≤ maxLen) (ok0 : ∀ g ∈ x0, g.ok) (i1 : I64 a1) :
    Calls Try.prog 12 #[.slice A0 n0 c0, .int .i64 a1] w fun e w' => e = .returned (.bool true) ∧ Below w.heap.size w w' := by
  unfold maxLen at m0
  have H0 := Lib.hid r0
  have hl0 := r0.1
  clear r0 ok0
  obtain ⟨⟨⟨N, H, t, o⟩, rb⟩, hR⟩ : ∃ R, compP x0 a1 = R := ⟨_, rfl⟩
  have HR := Lib.hid hR
  have hbd := compP_bd x0 a1
  rw [hR] at hbd
  obtain ⟨nT, hnT⟩ : ∃ k, t.length = k := ⟨_, rfl⟩
  obtain ⟨nO, hnO⟩ : ∃ k, o.length = k := ⟨_, rfl⟩
  have HNT := Lib.hid hnT
  have HNO := Lib.hid hnO
  obtain ⟨hb1, hb2⟩ : nT ≤ n0 ∧ nO ≤ 4 := by rw [← hnT, ← hnO, ← hl0]; exact hbd
  clear hR hbd hnT hnO hl0
  by_cases hz : n0 ≤ 1048576
  rotate_left
  · go_enter Try.func12, Try.ntmps12
    go_wp2_with fail
    refine (l_szGateS _ _ _ (by omega) _).mono ?_
    rintro e w' ⟨rfl, rfl⟩
    rw [if_neg (by omega)]
    go_wp2_with fail
    go_ret
    exact ⟨rfl, Below.refl _ _⟩
  go_enter Try.func12, Try.ntmps12
  go_wp2_with fail
  refine (l_szGateS _ _ _ (by omega) _).mono ?_
  rintro e w' ⟨rfl, rfl⟩
  rw [if_pos hz]
  have fW_1 := Lib.hid (Below.refl w.heap.size w)
  go_wp2_with fail
  refine (l_toGateS _ _ _ _ _ (H0.out.below fW_1.out) hz).mono ?_
  rintro e w_6 ⟨A_2, c_3, rfl, o_4, b_5⟩
  have fW_7 := Lib.hid (below_trans fW_1.out b_5)
  clear fW_1
  have fy_8 := Lib.hid (o_4)
  go_wp2_with fail
  refine (s_CompP _ _ _ x0 a1 _ (RdG.own fy_8.out) (by omega)).mono ?_
  rintro e w_16 ⟨v, rfl, q, b_15⟩
  rw [HR.out] at q ⊢
  obtain ⟨A_9, c_10, B_11, d_12, rfl, t_13, o_14⟩ := q
  simp only [HNT.out, HNO.out] at t_13 o_14 ⊢
  have fW_17 := Lib.hid (below_trans fW_7.out b_15)
  have fy_18 := Lib.hid (ownsRow_below fy_8.out b_15)
  clear fW_7 fy_8
  have fW_19 := Lib.hid (Below.alloc fW_17.out (Below.size fW_17.out) (.cells #[.int .i64 N, .int .i64 H, .slice A_9 nT c_10, .slice B_11 nO d_12] 25))
  clear fW_17
  have fsT_20 := Lib.hid (World.ownsRow.alloc t_13 (.cells #[.int .i64 N, .int .i64 H, .slice A_9 nT c_10, .slice B_11 nO d_12] 25))
  have fsO_21 := Lib.hid (World.ownsRow.alloc o_14 (.cells #[.int .i64 N, .int .i64 H, .slice A_9 nT c_10, .slice B_11 nO d_12] 25))
  have fsX_22 := Lib.hid (Bx.new w_16 25 #[.int .i64 N, .int .i64 H, .slice A_9 nT c_10, .slice B_11 nO d_12])
  clear t_13 o_14
  have HB0 := Lib.hid (Below.size fW_19.out)
  obtain ⟨p0, p1, p2, p3, _, _, _, _⟩ := fsX_22.out.four
  go_wp2_with fail
  refine (l_toGateS _ _ _ _ _ (H0.out.below fW_19.out) hz).mono ?_
  rintro e w_27 ⟨A_23, c_24, rfl, o_25, b_26⟩
  have fW_28 := Lib.hid (below_trans fW_19.out b_26)
  have fsT_29 := Lib.hid (ownsRow_below fsT_20.out b_26)
  have fsO_30 := Lib.hid (ownsRow_below fsO_21.out b_26)
  have fsX_31 := Lib.hid (fsX_22.out.below b_26)
  clear fW_19 fsT_20 fsO_21 fsX_22
  have fx0_32 := Lib.hid (o_25)
  clear p0 p1 p2 p3
  have HB1 := Lib.hid (Below.size fW_28.out)
  go_wp2_with fail
  refine (i_CompP _ _ _ x0 a1 _ (RdG.own fx0_32.out) (by omega)).mono ?_
  rintro e w_40 ⟨v, rfl, q, b_39⟩
  rw [HR.out] at q ⊢
  obtain ⟨A_33, c_34, B_35, d_36, rfl, t_37, o_38⟩ := q
  simp only [HNT.out, HNO.out] at t_37 o_38 ⊢
  have ap_41 := Lib.hid (own_apart fsT_29.out t_37 (Nat.le_refl _))
  have ap_43 := Lib.hid (own_apart fsT_29.out o_38 (Nat.le_refl _))
  have ap_45 := Lib.hid (own_apart fsO_30.out t_37 (Nat.le_refl _))
  have ap_47 := Lib.hid (own_apart fsO_30.out o_38 (Nat.le_refl _))
  have ap_49 := Lib.hid (own_apart fx0_32.out t_37 (Nat.le_refl _))
  have ap_51 := Lib.hid (own_apart fx0_32.out o_38 (Nat.le_refl _))
  have fW_53 := Lib.hid (below_trans fW_28.out b_39)
  have fsT_54 := Lib.hid (ownsRow_below fsT_29.out b_39)
  have fsO_55 := Lib.hid (ownsRow_below fsO_30.out b_39)
  have fsX_56 := Lib.hid (fsX_31.out.below b_39)
  have fx0_57 := Lib.hid (ownsRow_below fx0_32.out b_39)
  clear fW_28 fsT_29 fsO_30 fsX_31 fx0_32
  obtain ⟨p0, p1, p2, p3, _, _, _, _⟩ := fsX_56.out.four
  have hl_s := fsX_56.out.lt
  have fW_58 := Lib.hid (Below.alloc fW_53.out (Below.size fW_53.out) (.cells #[.int .i64 N, .int .i64 H, .slice A_33 nT c_34, .slice B_35 nO d_36] 25))
  have fsT_59 := Lib.hid (World.ownsRow.alloc fsT_54.out (.cells #[.int .i64 N, .int .i64 H, .slice A_33 nT c_34, .slice B_35 nO d_36] 25))
  have fsO_60 := Lib.hid (World.ownsRow.alloc fsO_55.out (.cells #[.int .i64 N, .int .i64 H, .slice A_33 nT c_34, .slice B_35 nO d_36] 25))
  have fsX_61 := Lib.hid (Bx.alloc fsX_56.out (.cells #[.int .i64 N, .int .i64 H, .slice A_33 nT c_34, .slice B_35 nO d_36] 25))
  have fx0_62 := Lib.hid (World.ownsRow.alloc fx0_57.out (.cells #[.int .i64 N, .int .i64 H, .slice A_33 nT c_34, .slice B_35 nO d_36] 25))
  clear fW_53 fsT_54 fsO_55 fsX_56 fx0_57
  have fgT_63 := Lib.hid (World.ownsRow.alloc t_37 (.cells #[.int .i64 N, .int .i64 H, .slice A_33 nT c_34, .slice B_35 nO d_36] 25))
  have fgO_64 := Lib.hid (World.ownsRow.alloc o_38 (.cells #[.int .i64 N, .int .i64 H, .slice A_33 nT c_34, .slice B_35 nO d_36] 25))
  have fgX_65 := Lib.hid (Bx.new w_40 25 #[.int .i64 N, .int .i64 H, .slice A_33 nT c_34, .slice B_35 nO d_36])
  clear t_37 o_38
  go_wp2_with fail
  refine (l_eqPoly_same _ _ _ _ _ _ _ t _ _ _ _ _ o _ (RdP.own fgT_63.out) (RdP.own fsT_59.out) (RdP.own fgO_64.out) (RdP.own fsO_60.out) (by omega) (by omega)).mono ?_
  rintro e w_67 ⟨rfl, b_66⟩
  clear p0 p1 p2 p3 hl_s
  have fW_68 := Lib.hid (below_trans fW_58.out b_66)
  have fsT_69 := Lib.hid (ownsRow_below fsT_59.out b_66)
  have fsO_70 := Lib.hid (ownsRow_below fsO_60.out b_66)
  have fsX_71 := Lib.hid (fsX_61.out.below b_66)
  have fx0_72 := Lib.hid (ownsRow_below fx0_62.out b_66)
  have fgT_73 := Lib.hid (ownsRow_below fgT_63.out b_66)
  have fgO_74 := Lib.hid (ownsRow_below fgO_64.out b_66)
  have fgX_75 := Lib.hid (fgX_65.out.below b_66)
  clear fW_58 fsT_59 fsO_60 fsX_61 fx0_62 fgT_63 fgO_64 fgX_65
  go_wp2_with fail
  refine (l_toGateS _ _ _ _ _ (H0.out.below fW_68.out) hz).mono ?_
  rintro e w_80 ⟨A_76, c_77, rfl, o_78, b_79⟩
  have fW_81 := Lib.hid (below_trans fW_68.out b_79)
  have fsT_82 := Lib.hid (ownsRow_below fsT_69.out b_79)
  have fsO_83 := Lib.hid (ownsRow_below fsO_70.out b_79)
  have fsX_84 := Lib.hid (fsX_71.out.below b_79)
  have fx0_85 := Lib.hid (ownsRow_below fx0_72.out b_79)
  have fgT_86 := Lib.hid (ownsRow_below fgT_73.out b_79)
  have fgO_87 := Lib.hid (ownsRow_below fgO_74.out b_79)
  have fgX_88 := Lib.hid (fgX_75.out.below b_79)
  clear fW_68 fsT_69 fsO_70 fsX_71 fx0_72 fgT_73 fgO_74 fgX_75
  have fy_89 := Lib.hid (o_78)
  go_wp2_with fail
  refine (l_eqGateS_same _ _ _ _ _ _ _ (RdG.own fx0_85.out) (RdG.own fy_89.out) (by omega)).mono ?_
  rintro e w_91 ⟨rfl, b_90⟩
  have fW_92 := Lib.hid (below_trans fW_81.out b_90)
  have fsT_93 := Lib.hid (ownsRow_below fsT_82.out b_90)
  have fsO_94 := Lib.hid (ownsRow_below fsO_83.out b_90)
  have fsX_95 := Lib.hid (fsX_84.out.below b_90)
  have fx0_96 := Lib.hid (ownsRow_below fx0_85.out b_90)
  have fgT_97 := Lib.hid (ownsRow_below fgT_86.out b_90)
  have fgO_98 := Lib.hid (ownsRow_below fgO_87.out b_90)
  have fgX_99 := Lib.hid (fgX_88.out.below b_90)
  clear fW_81 fsT_82 fsO_83 fsX_84 fx0_85 fgT_86 fgO_87 fgX_88
  obtain ⟨p0, p1, p2, p3, _, _, _, _⟩ := fsX_95.out.four
  obtain ⟨q0, q1, q2, q3, _, _, _, _⟩ := fgX_99.out.four
  clear p0 p1 p2 p3 q0 q1 q2 q3
  go_wp2_with fail
  refine (l_markGateS _ _ _ _ _ _ _ _ fx0_96.out (by omega) (by omega) (by omega)).mono ?_
  rintro e w_102 ⟨rfl, om_101, gm_100⟩
  have fW_103 := Lib.hid (below_grown fW_92.out (Below.size fW_92.out) fx0_96.out HB0.out gm_100)
  have fsT_104 := Lib.hid (World.ownsRow.kept fsT_93.out gm_100 (own_types fsT_93.out fx0_96.out (by decide)))
  have fsO_105 := Lib.hid (World.ownsRow.kept fsO_94.out gm_100 (own_types fsO_94.out fx0_96.out (by decide)))
  have fsX_106 := Lib.hid (kept_app fx0_96.out gm_100 fsX_95.out (by decide))
  have fgT_107 := Lib.hid (World.ownsRow.kept fgT_97.out gm_100 (own_types fgT_97.out fx0_96.out (by decide)))
  have fgO_108 := Lib.hid (World.ownsRow.kept fgO_98.out gm_100 (own_types fgO_98.out fx0_96.out (by decide)))
  have fgX_109 := Lib.hid (kept_app fx0_96.out gm_100 fgX_99.out (by decide))
  clear fW_92 fsT_93 fsO_94 fsX_95 fgT_97 fgO_98 fgX_99
  have hmk : ¬ ((1 : Int) + 4 * (n0 : Int) < 0) := by omega
  obtain ⟨p0, p1, p2, p3, _, _, _, _⟩ := fsX_106.out.four
  obtain ⟨q0, q1, q2, q3, _, _, _, _⟩ := fgX_109.out.four
  go_wp2_with fail
  refine (l_eqPoly_same _ _ _ _ _ _ _ t _ _ _ _ _ o _ (RdP.own fgT_107.out) (RdP.own fsT_104.out) (RdP.own fgO_108.out) (RdP.own fsO_105.out) (by omega) (by omega)).mono ?_
  rintro e w_111 ⟨rfl, b_110⟩
  clear p0 p1 p2 p3 q0 q1 q2 q3 hmk
  have fW_112 := Lib.hid (below_trans fW_103.out b_110)
  have fsT_113 := Lib.hid (ownsRow_below fsT_104.out b_110)
  have fsO_114 := Lib.hid (ownsRow_below fsO_105.out b_110)
  have fsX_115 := Lib.hid (fsX_106.out.below b_110)
  have fgT_116 := Lib.hid (ownsRow_below fgT_107.out b_110)
  have fgO_117 := Lib.hid (ownsRow_below fgO_108.out b_110)
  have fgX_118 := Lib.hid (fgX_109.out.below b_110)
  clear fW_103 fsT_104 fsO_105 fsX_106 fgT_107 fgO_108 fgX_109
  obtain ⟨q0, q1, q2, q3, _, _, _, _⟩ := fgX_118.out.four
  go_wp2_with fail
  refine (l_markPoly _ _ _ _ _ _ _ _ _ _ _ _ _ fgT_116.out fgO_117.out (by omega) (by omega) (by omega) (by omega)).mono ?_
  rintro e w_119 ⟨rfl, t4, o4, m4⟩
  clear q0 q1 q2 q3
  have fW_120 := Lib.hid (m4.below fW_112.out (Below.size fW_112.out) (fun k hk => Nat.le_trans HB1.out (fgT_116.out.lt k hk).1) (fun k hk => Nat.le_trans HB1.out (fgO_117.out.lt k hk).1))
  have fsT_121 := Lib.hid (m4.own fsT_113.out ap_41.out (own_types fsT_113.out fgO_117.out (by decide)))
  have fsO_122 := Lib.hid (m4.own fsO_114.out (own_types fsO_114.out fgT_116.out (by decide)) ap_47.out)
  have fsX_123 := Lib.hid (m4.bx fsX_115.out (own_bx_ne fgT_116.out fsX_115.out (by decide)) (own_bx_ne fgO_117.out fsX_115.out (by decide)))
  have fgX_124 := Lib.hid (m4.bx fgX_118.out (own_bx_ne fgT_116.out fgX_118.out (by decide)) (own_bx_ne fgO_117.out fgX_118.out (by decide)))
  have fgT_125 := Lib.hid (t4)
  have fgO_126 := Lib.hid (o4)
  clear fW_112 fsT_113 fsO_114 fsX_115 fgX_118 t4 o4 m4
  obtain ⟨q0, q1, q2, q3, _, _, _, _⟩ := fgX_124.out.four
  go_wp2_with fail
  refine (l_heldPoly _ _ _ _ _ _ _ _ _ _ (RdP.own fgT_125.out) (RdP.own fgO_126.out) (by omega) (by omega) (by omega) (by omega)).mono ?_
  rintro e w_128 ⟨rfl, b_127⟩
  clear q0 q1 q2 q3
  have fW_129 := Lib.hid (below_trans fW_120.out b_127)
  have fsT_130 := Lib.hid (ownsRow_below fsT_121.out b_127)
  have fsO_131 := Lib.hid (ownsRow_below fsO_122.out b_127)
  have fsX_132 := Lib.hid (fsX_123.out.below b_127)
  have fgX_133 := Lib.hid (fgX_124.out.below b_127)
  have fgT_134 := Lib.hid (ownsRow_below fgT_125.out b_127)
  have fgO_135 := Lib.hid (ownsRow_below fgO_126.out b_127)
  clear fW_120 fsT_121 fsO_122 fsX_123 fgX_124 fgT_125 fgO_126
  go_wp2_with fail
  refine (l_toGateS _ _ _ _ _ (H0.out.below fW_129.out) hz).mono ?_
  rintro e w_140 ⟨A_136, c_137, rfl, o_138, b_139⟩
  have fW_141 := Lib.hid (below_trans fW_129.out b_139)
  have fsT_142 := Lib.hid (ownsRow_below fsT_130.out b_139)
  have fsO_143 := Lib.hid (ownsRow_below fsO_131.out b_139)
  have fsX_144 := Lib.hid (fsX_132.out.below b_139)
  have fgX_145 := Lib.hid (fgX_133.out.below b_139)
  have fgT_146 := Lib.hid (ownsRow_below fgT_134.out b_139)
  have fgO_147 := Lib.hid (ownsRow_below fgO_135.out b_139)
  clear fW_129 fsT_130 fsO_131 fsX_132 fgX_133 fgT_134 fgO_135
  have fy_148 := Lib.hid (o_138)
  go_wp2_with fail
  refine (i_CompP _ _ _ x0 a1 _ (RdG.own fy_148.out) (by omega)).mono ?_
  rintro e w_156 ⟨v, rfl, q, b_155⟩
  rw [HR.out] at q ⊢
  obtain ⟨A_149, c_150, B_151, d_152, rfl, t_153, o_154⟩ := q
  simp only [HNT.out, HNO.out] at t_153 o_154 ⊢
  have ap_157 := Lib.hid (own_apart fsT_142.out t_153 (Nat.le_refl _))
  have ap_159 := Lib.hid (own_apart fsT_142.out o_154 (Nat.le_refl _))
  have ap_161 := Lib.hid (own_apart fsO_143.out t_153 (Nat.le_refl _))
  have ap_163 := Lib.hid (own_apart fsO_143.out o_154 (Nat.le_refl _))
  have ap_165 := Lib.hid (own_apart fgT_146.out t_153 (Nat.le_refl _))
  have ap_167 := Lib.hid (own_apart fgT_146.out o_154 (Nat.le_refl _))
  have ap_169 := Lib.hid (own_apart fgO_147.out t_153 (Nat.le_refl _))
  have ap_171 := Lib.hid (own_apart fgO_147.out o_154 (Nat.le_refl _))
  have fW_173 := Lib.hid (below_trans fW_141.out b_155)
  have fsT_174 := Lib.hid (ownsRow_below fsT_142.out b_155)
  have fsO_175 := Lib.hid (ownsRow_below fsO_143.out b_155)
  have fsX_176 := Lib.hid (fsX_144.out.below b_155)
  have fgX_177 := Lib.hid (fgX_145.out.below b_155)
  have fgT_178 := Lib.hid (ownsRow_below fgT_146.out b_155)
  have fgO_179 := Lib.hid (ownsRow_below fgO_147.out b_155)
  have fy_180 := Lib.hid (ownsRow_below fy_148.out b_155)
  clear fW_141 fsT_142 fsO_143 fsX_144 fgX_145 fgT_146 fgO_147 fy_148
  obtain ⟨p0, p1, p2, p3, _, _, _, _⟩ := fsX_176.out.four
  have hl_s := fsX_176.out.lt
  have fW_181 := Lib.hid (Below.alloc fW_173.out (Below.size fW_173.out) (.cells #[.int .i64 N, .int .i64 H, .slice A_149 nT c_150, .slice B_151 nO d_152] 25))
  have fsT_182 := Lib.hid (World.ownsRow.alloc fsT_174.out (.cells #[.int .i64 N, .int .i64 H, .slice A_149 nT c_150, .slice B_151 nO d_152] 25))
  have fsO_183 := Lib.hid (World.ownsRow.alloc fsO_175.out (.cells #[.int .i64 N, .int .i64 H, .slice A_149 nT c_150, .slice B_151 nO d_152] 25))
  have fsX_184 := Lib.hid (Bx.alloc fsX_176.out (.cells #[.int .i64 N, .int .i64 H, .slice A_149 nT c_150, .slice B_151 nO d_152] 25))
  have fgX_185 := Lib.hid (Bx.alloc fgX_177.out (.cells #[.int .i64 N, .int .i64 H, .slice A_149 nT c_150, .slice B_151 nO d_152] 25))
  have fgT_186 := Lib.hid (World.ownsRow.alloc fgT_178.out (.cells #[.int .i64 N, .int .i64 H, .slice A_149 nT c_150, .slice B_151 nO d_152] 25))
  have fgO_187 := Lib.hid (World.ownsRow.alloc fgO_179.out (.cells #[.int .i64 N, .int .i64 H, .slice A_149 nT c_150, .slice B_151 nO d_152] 25))
  clear fW_173 fsT_174 fsO_175 fsX_176 fgX_177 fgT_178 fgO_179
  have fhT_188 := Lib.hid (World.ownsRow.alloc t_153 (.cells #[.int .i64 N, .int .i64 H, .slice A_149 nT c_150, .slice B_151 nO d_152] 25))
  have fhO_189 := Lib.hid (World.ownsRow.alloc o_154 (.cells #[.int .i64 N, .int .i64 H, .slice A_149 nT c_150, .slice B_151 nO d_152] 25))
  have fhX_190 := Lib.hid (Bx.new w_156 25 #[.int .i64 N, .int .i64 H, .slice A_149 nT c_150, .slice B_151 nO d_152])
  clear t_153 o_154
  go_wp2_with fail
  refine (l_eqPoly_same _ _ _ _ _ _ _ t _ _ _ _ _ o _ (RdP.own fhT_188.out) (RdP.own fsT_182.out) (RdP.own fhO_189.out) (RdP.own fsO_183.out) (by omega) (by omega)).mono ?_
  rintro e w_192 ⟨rfl, b_191⟩
  clear p0 p1 p2 p3 hl_s
  have fW_193 := Lib.hid (below_trans fW_181.out b_191)
  have fsT_194 := Lib.hid (ownsRow_below fsT_182.out b_191)
  have fsO_195 := Lib.hid (ownsRow_below fsO_183.out b_191)
  have fsX_196 := Lib.hid (fsX_184.out.below b_191)
  have fgX_197 := Lib.hid (fgX_185.out.below b_191)
  have fgT_198 := Lib.hid (ownsRow_below fgT_186.out b_191)
  have fgO_199 := Lib.hid (ownsRow_below fgO_187.out b_191)
  have fhT_200 := Lib.hid (ownsRow_below fhT_188.out b_191)
  have fhO_201 := Lib.hid (ownsRow_below fhO_189.out b_191)
  have fhX_202 := Lib.hid (fhX_190.out.below b_191)
  clear fW_181 fsT_182 fsO_183 fsX_184 fgX_185 fgT_186 fgO_187 fhT_188 fhO_189 fhX_190
  obtain ⟨q0, q1, q2, q3, _, _, _, _⟩ := fgX_197.out.four
  go_wp2_with fail
  refine (l_heldPoly _ _ _ _ _ _ _ _ _ _ (RdP.own fgT_198.out) (RdP.own fgO_199.out) (by omega) (by omega) (by omega) (by omega)).mono ?_
  rintro e w_204 ⟨rfl, b_203⟩
  clear q0 q1 q2 q3
  have fW_205 := Lib.hid (below_trans fW_193.out b_203)
  have fsT_206 := Lib.hid (ownsRow_below fsT_194.out b_203)
  have fsO_207 := Lib.hid (ownsRow_below fsO_195.out b_203)
  have fsX_208 := Lib.hid (fsX_196.out.below b_203)
  have fgX_209 := Lib.hid (fgX_197.out.below b_203)
  have fgT_210 := Lib.hid (ownsRow_below fgT_198.out b_203)
  have fgO_211 := Lib.hid (ownsRow_below fgO_199.out b_203)
  have fhT_212 := Lib.hid (ownsRow_below fhT_200.out b_203)
  have fhO_213 := Lib.hid (ownsRow_below fhO_201.out b_203)
  have fhX_214 := Lib.hid (fhX_202.out.below b_203)
  clear fW_193 fsT_194 fsO_195 fsX_196 fgX_197 fgT_198 fgO_199 fhT_200 fhO_201 fhX_202
  go_wp2_with fail
  go_ret
  exact ⟨rfl, fW_205.out⟩

theorem own : ownKnob Try.prog.godebug = none := by kernel_rfl
theorem laidOut : laidOutB Try.prog = true := by kernel_rfl
set_option maxRecDepth 100000 in
theorem lifted (os : Os) (started : os.Started) (H : Type) (enc : TypeId × Value → H) :
    ReturnsInHanded {} Try.checked os 12 .any (Rows.fnExactComputePhasePolynomialSpec.pre6 enc Try.prog Try.f12 Rows.fnExactComputePhasePolynomialRow.domain false) (Rows.fnExactComputePhasePolynomialSpec.post enc Try.prog Try.f12 false true false false) := by
  refine returnsInHanded_of_change (C := Try.checked) own started (by kernel_rfl) Try.func12
    (ChangeSpec.witness6 (enc := enc) (C := Try.checked) false ⟨#[], #[.slice none 0 0, .int .i64 0], []⟩ 8 (by kernel_rfl) (by kernel_rfl) (by kernel_rfl) (by kernel_rfl)) ?_
  intro W base args ds gs before hval0 hW hcnd _
  have hval : ∀ (j : Nat) t v, Try.f12.params[j]? = some t → args[j]? = some v → Value.okWide Try.prog W .any base t v := hval0
  have hW' := hW
  obtain ⟨p, q, hA0, hV, rfl, hfz, hnd⟩ := hW
  have hA : DataW.TrodAll enc Try.prog W 0 (fun _ => true) true Try.f12.params.toList args.toList ds p := hA0
  rw [Try.params12] at hA hval
  obtain ⟨v0, vs0, d0, ds0, p0, q0, hargs, rfl, rfl, h0, t0⟩ := trodAll_cons hA
  obtain ⟨v1, vs1, d1, ds1, p1, q1, rfl, rfl, rfl, h1, t1⟩ := trodAll_cons t0
  obtain ⟨rfl, rfl, rfl⟩ := trodAll_nil t1
  obtain rfl : args = #[v0, v1] := by cases args; simp_all
  obtain ⟨rfl, rfl⟩ := trodVars_none hV
  have k0 := h0
  have lt0 : ∀ x ∈ p0, x.block < W.heap.size := by obtain ⟨m, hm⟩ := k0; exact DataW.trod_lt m _ _ _ hm
  obtain ⟨A0, n0, c0, rfl⟩ := okWide_slice Try.underlying47 (hval 0 47 v0 rfl rfl)
  obtain ⟨fu0, hf0⟩ := h0
  obtain ⟨_, _, _, x0, e0, r0, l0, m0, ok0⟩ := open_gates Try.underlying47 Try.underlying59 (by kernel_rfl) (by kernel_rfl) Try.underlying3 Try.underlying3 Try.underlying3 Try.underlying3 hf0
  simp only [Value.slice.injEq] at e0
  obtain ⟨rfl, rfl, rfl⟩ := e0
  have k1 := h1
  have lt1 : ∀ x ∈ p1, x.block < W.heap.size := by obtain ⟨m, hm⟩ := k1; exact DataW.trod_lt m _ _ _ hm
  obtain ⟨a1, rfl, rfl, rfl, w1⟩ := open_int Try.underlying3 (hval 1 3 v1 rfl rfl) h1
  clear hA0 hval0
  refine (walk A0 n0 c0 x0 a1 W r0 l0 m0 ok0 (i64_of_wf w1)).mono fun e W' ⟨he, bel⟩ => ?_
  subst he
  exact ⟨_, rfl, _, _, _, [], _, [], hW', trodAll_mk1 (shut_bool Try.underlying4 _), (trodAll_cons_mk (Below.trod laidOut (by kernel_rfl) (of_decide_eq_true (by kernel_rfl)) k0 bel lt0) (trodAll_cons_mk (shut_int Try.underlying3 w1) trodAll_mk0)), rfl, bel.frame _, fun h => by cases h⟩

theorem over : Rows.fnExactComputePhasePolynomialRow.holds Try.pinned (OpenSpec.ofChange Rows.fnExactComputePhasePolynomialSpec) :=
  OpenClaim.holds_of_wide 12 Try.f12 rfl rfl rfl rfl rfl rfl rfl ⟨rfl, rfl, rfl, rfl, rfl⟩ rfl rfl rfl rfl rfl (by kernel_rfl) Try.func12 (by kernel_rfl)
    (of_decide_eq_true (by kernel_rfl)) (by unfold Func.isWrapper; first | (rw [if_pos (by decide +kernel)]; kernel_rfl) | (rw [if_neg (by decide +kernel)]; exact ⟨rfl, rfl⟩))
    (fun os started H enc _ => lifted os started H enc)

theorem proved : Rows.FnExactComputePhasePolynomialSaid := over
#print axioms proved
end Go.Proofs.Ytbjpghgnginabaa.fnExactComputePhasePolynomial
