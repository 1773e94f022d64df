/- The law FnExactBridgeRoute returns true for every input. No condition. -/
import Derived.Test.YthijgdpnodiceaaRows
import Derived.Test.YthijgdpnodiceaaGateT
import Derived.Test.YthijgdpnodiceaaIntS
import Derived.Test.YthijgdpnodiceaaGraphM
import Derived.Test.YthijgdpnodiceaaSzX
import Derived.Test.YthijgdpnodiceaaPairN
import Derived.Test.YthijgdpnodiceaaOpen
import Derived.Test.YthijgdpnodiceaaBridge
import Derived.Deep.RegionHeld3
import Derived.ChangeOld
namespace Go.Proofs.Ythijgdpnodiceaa.fnExactBridgeRoute
open Go.ChangeShapes Go.WideShapes Go.ChangeAt Go.RowKit
set_option linter.unusedVariables false

theorem brL_len (ps : List (Int × Int)) (N : Int) (z : List Int) : ∀ (gs : List Gt) (acc : List Gt), (brL ps N z gs acc).1.length ≤ acc.length + 10 * gs.length
  | [], acc => by rw [brL]; simp
  | g :: r, acc => by
    rw [brL]
    split
    · refine Nat.le_trans (brL_len ps N z r _) ?_
      rw [List.length_append, List.length_cons]
      split
      · simp; omega
      · have := longCX_len (spath ps N (zAt z g.a) (zAt z g.b)); omega
    · simp
theorem bridgeGs_len (ps : List (Int × Int)) (N : Int) (z : List Int) (gs : List Gt) : (bridgeGs ps N z gs).1.length ≤ 10 * gs.length := by
  unfold bridgeGs
  split
  · have := brL_len ps N z gs []; simpa using this
  · simp

set_option maxRecDepth 100000 in
set_option maxHeartbeats 6400000 in
theorem walk (A0 : Option Addr) (n0 c0 : Nat) (x0 : List Gt) (N1 : Int) (A1 : Option Addr) (n1 c1 : Nat) (x1 : List (Int × Int)) (A2 : Option Addr) (n2 c2 : Nat) (x2 : List Int) (w : World) (r0 : RdG w A0 n0 x0) (l0 : n0 ≤ c0) (m0 : c0 ≤ maxLen) (ok0 : ∀ g ∈ x0, g.ok) (i1 : I64 N1) (r1 : RdP w A1 n1 x1) (l1 : n1 ≤ c1) (m1 : c1 ≤ maxLen) (ok1 : ∀ p ∈ x1, I64 p.1 ∧ I64 p.2) (r2 : RdI w A2 n2 x2) (l2 : n2 ≤ c2) (m2 : c2 ≤ maxLen) (ok2 : ∀ g ∈ x2, I64 g) :
    Calls Try.prog 13 #[.slice A0 n0 c0, .agg #[.int .i64 N1, .slice A1 n1 c1], .slice A2 n2 c2] w fun e w' => e = .returned (.bool true) ∧ Below w.heap.size w w' := by
  unfold maxLen at m0 m1 m2
  have H0 := Lib.hid r0
  have hl0 := r0.1
  have H1 := Lib.hid r1
  have hl1 := r1.1
  have H2 := Lib.hid r2
  have hl2 := r2.1
  obtain ⟨R0, hR0⟩ : ∃ R, (bridgeGs x1 N1 x2 x0).1 = R := ⟨_, rfl⟩
  have HR0 := Lib.hid hR0
  obtain ⟨q0, hq0⟩ : ∃ q, R0.length = q := ⟨_, rfl⟩
  have HQ0 := Lib.hid hq0
  obtain ⟨R1, hR1⟩ : ∃ R, (bridgeGs x1 N1 x2 x0).2 = R := ⟨_, rfl⟩
  have HR1 := Lib.hid hR1
  clear r0 ok0 i1 r1 ok1 r2 ok2
  have X1 := Lib.hid (show Bx (w.alloc (.cells #[.int .i64 N1, .slice A1 n1 c1] 49)) (w.heap.size) 49 #[.int .i64 N1, .slice A1 n1 c1] from Bx.new w _ _)
  have BW := Lib.hid (show Below w.heap.size w (w.alloc (.cells #[.int .i64 N1, .slice A1 n1 c1] 49)) from (Below.refl _ _).alloc (by simp <;> omega) _)
  by_cases hz2 : n2 ≤ 1048576
  rotate_left
  · skip
    go_enter Try.func13, Try.ntmps13
    go_wp2_with fail
    go_ret
    exact ⟨rfl, BW.out⟩
  by_cases hz0 : n0 ≤ 1048576
  rotate_left
  · skip
    go_enter Try.func13, Try.ntmps13
    go_wp2_with fail
    refine (l_szGateS _ _ _ (by omega) _).mono ?_
    rintro e wf_1 ⟨rfl, rfl⟩
    rw [if_neg (by omega)]
    go_wp2_with fail
    go_ret
    exact ⟨rfl, BW.out⟩
  by_cases hz1 : (n1 : Int) ≤ 1048576 - n0
  rotate_left
  · skip
    go_enter Try.func13, Try.ntmps13
    go_wp2_with fail
    refine (l_szGateS _ _ _ (by omega) _).mono ?_
    rintro e wf_2 ⟨rfl, rfl⟩
    rw [if_pos hz0]
    go_wp2_with fail
    refine (l_szGraphx _ _ _ _ _ (by omega) (by omega) (by omega) _).mono ?_
    rintro e wf_3 ⟨rfl, bf_4⟩
    rw [if_neg (by omega)]
    have fX1_5 := Lib.hid (X1.out.below bf_4)
    have fW_6 := Lib.hid (below_trans BW.out bf_4)
    obtain ⟨p_7, p_8, _, _⟩ := fX1_5.out.two
    go_wp2_with fail
    go_ret
    exact ⟨rfl, fW_6.out⟩
  go_enter Try.func13, Try.ntmps13
  go_wp2_with fail
  refine (l_szGateS _ _ _ (by omega) _).mono ?_
  rintro e wa_9 ⟨rfl, rfl⟩
  rw [if_pos hz0]
  go_wp2_with fail
  refine (l_szGraphx _ _ _ _ _ (by omega) (by omega) (by omega) _).mono ?_
  rintro e wa_10 ⟨rfl, b_11⟩
  rw [if_pos hz1]
  have fX1_12 := Lib.hid (X1.out.below b_11)
  have fW_13 := Lib.hid (below_trans BW.out b_11)
  clear X1 BW b_11
  obtain ⟨p_14, p_15, _, _⟩ := fX1_12.out.two
  have hy0 : n0 ≤ 1048576 := hz0
  have hy1 : n1 ≤ 1048576 := by omega
  have hy2 : n2 ≤ 1048576 := hz2
  have hlen0 : q0 ≤ 1073741824 := by rw [← hq0, ← hR0]; exact (by have := bridgeGs_len x1 N1 x2 x0; omega)
  clear hq0
  clear hR0
  clear hR1
  clear hl0
  clear hl1
  clear hl2
  clear p_14 p_15
  obtain ⟨p_16, p_17, _, _⟩ := fX1_12.out.two
  go_wp2_with fail
  have fX1_18 := Lib.hid (fX1_12.out.drew)
  have fW_19 := Lib.hid (fW_13.out.drew)
  go_region_held3 (fun w' => w'.cell? ⟨w.heap.size, 0, none⟩ = some (.int .i64 N1) ∧ w'.cell? ⟨w.heap.size, 1, none⟩ = some (.slice A1 n1 c1))
    (first | go_keep | exact ⟨s_28, s_29⟩ | exact ⟨s_39, s_40⟩ | exact ⟨s_51, s_52⟩ | exact ⟨s_68, s_69⟩)
    (first
      | (go_at_call 43; (with_reducible refine (l_toGateS _ _ _ _ _ (H0.out.below fW_19.out) hy0).mono ?_); rintro e w_24 ⟨A_20, c_21, rfl, o_22, b_23⟩; have fX1_25 := Lib.hid (fX1_18.out.below b_23); have fW_26 := Lib.hid (below_trans fW_19.out b_23); have t_27 := Lib.hid o_22; have ⟨s_28, s_29, _, _⟩ := fX1_25.out.two)
      | (go_at_call 44; (with_reducible refine (l_toGraph _ _ _ _ _ _ (H1.out.below fW_26.out) hy1).mono ?_); rintro e w_34 ⟨A_30, c_31, rfl, o_32, b_33⟩; have fX1_35 := Lib.hid (fX1_25.out.below b_33); have fW_36 := Lib.hid (below_trans fW_26.out b_33); have ft0_37 := Lib.hid (ownsRow_below t_27.out b_33); have t_38 := Lib.hid o_32; have ⟨s_39, s_40, _, _⟩ := fX1_35.out.two)
      | (go_at_call 49; (with_reducible refine (l_toIntS _ _ _ _ _ (H2.out.below fW_36.out) hy2).mono ?_); rintro e w_45 ⟨A_41, c_42, rfl, o_43, b_44⟩; have fX1_46 := Lib.hid (fX1_35.out.below b_44); have fW_47 := Lib.hid (below_trans fW_36.out b_44); have ft0_48 := Lib.hid (ownsRow_below ft0_37.out b_44); have ft1_49 := Lib.hid (ownsRow_below t_38.out b_44); have t_50 := Lib.hid o_43; have ⟨s_51, s_52, _, _⟩ := fX1_46.out.two)
      | (go_at_call 63; (with_reducible refine (s_BridgeRoute _ _ _ x0 _ _ _ _ x1 _ _ _ x2 _ (RdG.own ft0_48.out) (by omega) (RdP.own ft1_49.out) (by omega) (RdI.own t_50.out) (ownsRow_cap t_50.out) (by omega)).mono ?_); rintro e w_60 ⟨A_54, c_55, rfl, o_56, b_53⟩; rw [HR0.out] at o_56 ⊢; rw [HQ0.out] at o_56 ⊢; rw [HR1.out]; have hB_61 := fW_47.out.size; have fX1_62 := Lib.hid (fX1_46.out.below b_53); have fW_63 := Lib.hid (below_trans fW_47.out b_53); have ft0_64 := Lib.hid (ownsRow_below ft0_48.out b_53); have ft1_65 := Lib.hid (ownsRow_below ft1_49.out b_53); have ft2_66 := Lib.hid (ownsRow_below t_50.out b_53); have os0_67 := Lib.hid o_56; have ⟨s_68, s_69, _, _⟩ := fX1_62.out.two)
      | fail)
  clear p_16 p_17
  clear fX1_12 fW_13
  obtain ⟨p_70, p_71, _, _⟩ := fX1_62.out.two
  go_wp2_with fail
  refine (l_toGateS _ _ _ _ _ (H0.out.below fW_63.out) hy0).mono ?_
  rintro e w_76 ⟨A_72, c_73, rfl, o_74, b_75⟩
  have hB_77 := fW_63.out.size
  have ap_78 := Lib.hid (own_apart os0_67.out o_74 (Nat.le_refl _))
  have ap_79 := Lib.hid (own_apart_r os0_67.out o_74 (Nat.le_refl _))
  have fX1_80 := Lib.hid (fX1_62.out.below b_75)
  have fW_81 := Lib.hid (below_trans fW_63.out b_75)
  have fs0_82 := Lib.hid (ownsRow_below os0_67.out b_75)
  have ox_83 := Lib.hid o_74
  clear fX1_62 fW_63 os0_67 o_74 b_75
  clear p_70 p_71
  obtain ⟨p_84, p_85, _, _⟩ := fX1_80.out.two
  go_wp2_with fail
  refine (l_toGraph _ _ _ _ _ _ (H1.out.below fW_81.out) hy1).mono ?_
  rintro e w_90 ⟨A_86, c_87, rfl, o_88, b_89⟩
  have hB_91 := fW_81.out.size
  have ap_92 := Lib.hid (own_apart fs0_82.out o_88 (Nat.le_refl _))
  have ap_93 := Lib.hid (own_apart_r fs0_82.out o_88 (Nat.le_refl _))
  have ap_94 := Lib.hid (own_apart ox_83.out o_88 (Nat.le_refl _))
  have ap_95 := Lib.hid (own_apart_r ox_83.out o_88 (Nat.le_refl _))
  have fX1_96 := Lib.hid (fX1_80.out.below b_89)
  have fW_97 := Lib.hid (below_trans fW_81.out b_89)
  have fs0_98 := Lib.hid (ownsRow_below fs0_82.out b_89)
  have fx0_99 := Lib.hid (ownsRow_below ox_83.out b_89)
  have ox_100 := Lib.hid o_88
  clear fX1_80 fW_81 fs0_82 ox_83 o_88 b_89
  have Y_101 := Lib.hid (Bx.new w_90 38 #[.int .i64 N1, .slice A_86 n1 c_87])
  have fX1_102 := Lib.hid (fX1_96.out.alloc (.cells #[.int .i64 N1, .slice A_86 n1 c_87] 38))
  have fW_103 := Lib.hid (Below.alloc fW_97.out (fW_97.out.size) (.cells #[.int .i64 N1, .slice A_86 n1 c_87] 38))
  have fs0_104 := Lib.hid (World.ownsRow.alloc fs0_98.out (.cells #[.int .i64 N1, .slice A_86 n1 c_87] 38))
  have fx0_105 := Lib.hid (World.ownsRow.alloc fx0_99.out (.cells #[.int .i64 N1, .slice A_86 n1 c_87] 38))
  have fx1_106 := Lib.hid (World.ownsRow.alloc ox_100.out (.cells #[.int .i64 N1, .slice A_86 n1 c_87] 38))
  clear fX1_96 fW_97 fs0_98 fx0_99 ox_100
  clear p_84 p_85
  obtain ⟨p_107, p_108, _, _⟩ := fX1_102.out.two
  obtain ⟨p_109, p_110, _, _⟩ := Y_101.out.two
  go_wp2_with fail
  refine (l_toIntS _ _ _ _ _ (H2.out.below fW_103.out) hy2).mono ?_
  rintro e w_115 ⟨A_111, c_112, rfl, o_113, b_114⟩
  have hB_116 := fW_103.out.size
  have ap_117 := Lib.hid (own_apart fs0_104.out o_113 (Nat.le_refl _))
  have ap_118 := Lib.hid (own_apart_r fs0_104.out o_113 (Nat.le_refl _))
  have ap_119 := Lib.hid (own_apart fx0_105.out o_113 (Nat.le_refl _))
  have ap_120 := Lib.hid (own_apart_r fx0_105.out o_113 (Nat.le_refl _))
  have ap_121 := Lib.hid (own_apart fx1_106.out o_113 (Nat.le_refl _))
  have ap_122 := Lib.hid (own_apart_r fx1_106.out o_113 (Nat.le_refl _))
  have fX1_123 := Lib.hid (fX1_102.out.below b_114)
  have fW_124 := Lib.hid (below_trans fW_103.out b_114)
  have fs0_125 := Lib.hid (ownsRow_below fs0_104.out b_114)
  have fx0_126 := Lib.hid (ownsRow_below fx0_105.out b_114)
  have fx1_127 := Lib.hid (ownsRow_below fx1_106.out b_114)
  have fY1_128 := Lib.hid (Y_101.out.below b_114)
  have ox_129 := Lib.hid o_113
  clear fX1_102 fW_103 fs0_104 fx0_105 fx1_106 Y_101 o_113 b_114
  clear p_107 p_108 p_109 p_110
  obtain ⟨p_130, p_131, _, _⟩ := fX1_123.out.two
  obtain ⟨p_132, p_133, _, _⟩ := fY1_128.out.two
  go_wp2_with fail
  refine (i_BridgeRoute _ _ _ x0 _ _ _ _ x1 _ _ _ x2 _ (RdG.own fx0_126.out) (by omega) (RdP.own fx1_127.out) (by omega) (RdI.own ox_129.out) (by omega)).mono ?_
  rintro e w_141 ⟨A_135, c_136, rfl, o_137, b_134⟩
  rw [HR0.out] at o_137 ⊢
  rw [HQ0.out] at o_137 ⊢
  rw [HR1.out]
  clear p_130 p_131 p_132 p_133
  have hB_142 := fW_124.out.size
  have ap_143 := Lib.hid (own_apart fs0_125.out o_137 (by simp <;> omega))
  have ap_144 := Lib.hid (own_apart_r fs0_125.out o_137 (by simp <;> omega))
  have ap_145 := Lib.hid (own_apart fx0_126.out o_137 (by simp <;> omega))
  have ap_146 := Lib.hid (own_apart_r fx0_126.out o_137 (by simp <;> omega))
  have ap_147 := Lib.hid (own_apart fx1_127.out o_137 (by simp <;> omega))
  have ap_148 := Lib.hid (own_apart_r fx1_127.out o_137 (by simp <;> omega))
  have ap_149 := Lib.hid (own_apart ox_129.out o_137 (by simp <;> omega))
  have ap_150 := Lib.hid (own_apart_r ox_129.out o_137 (by simp <;> omega))
  have fX1_151 := Lib.hid (fX1_123.out.below b_134)
  have fW_152 := Lib.hid (below_trans fW_124.out b_134)
  have fs0_153 := Lib.hid (ownsRow_below fs0_125.out b_134)
  have fx0_154 := Lib.hid (ownsRow_below fx0_126.out b_134)
  have fx1_155 := Lib.hid (ownsRow_below fx1_127.out b_134)
  have fY1_156 := Lib.hid (fY1_128.out.below b_134)
  have fx2_157 := Lib.hid (ownsRow_below ox_129.out b_134)
  have og0_158 := Lib.hid o_137
  clear fX1_123 fW_124 fs0_125 fx0_126 fx1_127 fY1_128 ox_129
  obtain ⟨p_159, p_160, _, _⟩ := fX1_151.out.two
  obtain ⟨p_161, p_162, _, _⟩ := fY1_156.out.two
  go_wp2_with fail
  refine (l_eqGateS_same _ _ _ _ _ _ _ (RdG.own og0_158.out) (RdG.own fs0_153.out) (by omega)).mono ?_
  rintro e w_164 ⟨rfl, b_163⟩
  clear p_159 p_160 p_161 p_162
  have fX1_165 := Lib.hid (fX1_151.out.below b_163)
  have fW_166 := Lib.hid (below_trans fW_152.out b_163)
  have fs0_167 := Lib.hid (ownsRow_below fs0_153.out b_163)
  have fx0_168 := Lib.hid (ownsRow_below fx0_154.out b_163)
  have fx1_169 := Lib.hid (ownsRow_below fx1_155.out b_163)
  have fY1_170 := Lib.hid (fY1_156.out.below b_163)
  have fx2_171 := Lib.hid (ownsRow_below fx2_157.out b_163)
  have fg0_172 := Lib.hid (ownsRow_below og0_158.out b_163)
  clear fX1_151 fW_152 fs0_153 fx0_154 fx1_155 fY1_156 fx2_157 og0_158 b_163
  obtain ⟨p_173, p_174, _, _⟩ := fX1_165.out.two
  obtain ⟨p_175, p_176, _, _⟩ := fY1_170.out.two
  go_wp2_with fail
  refine (l_toGateS _ _ _ _ _ (H0.out.below fW_166.out) hy0).mono ?_
  rintro e w_181 ⟨A_177, c_178, rfl, o_179, b_180⟩
  clear p_173 p_174 p_175 p_176
  have fX1_182 := Lib.hid (fX1_165.out.below b_180)
  have fW_183 := Lib.hid (below_trans fW_166.out b_180)
  have fs0_184 := Lib.hid (ownsRow_below fs0_167.out b_180)
  have fx0_185 := Lib.hid (ownsRow_below fx0_168.out b_180)
  have fx1_186 := Lib.hid (ownsRow_below fx1_169.out b_180)
  have fY1_187 := Lib.hid (fY1_170.out.below b_180)
  have fx2_188 := Lib.hid (ownsRow_below fx2_171.out b_180)
  have fg0_189 := Lib.hid (ownsRow_below fg0_172.out b_180)
  have t_190 := Lib.hid o_179
  clear fX1_165 fW_166 fs0_167 fx0_168 fx1_169 fY1_170 fx2_171 fg0_172 o_179 b_180
  obtain ⟨p_191, p_192, _, _⟩ := fX1_182.out.two
  obtain ⟨p_193, p_194, _, _⟩ := fY1_187.out.two
  go_wp2_with fail
  refine (l_eqGateS_same _ _ _ _ _ _ _ (RdG.own fx0_185.out) (RdG.own t_190.out) (by omega)).mono ?_
  rintro e w_196 ⟨rfl, b_195⟩
  clear p_191 p_192 p_193 p_194
  have fX1_197 := Lib.hid (fX1_182.out.below b_195)
  have fW_198 := Lib.hid (below_trans fW_183.out b_195)
  have fs0_199 := Lib.hid (ownsRow_below fs0_184.out b_195)
  have fx0_200 := Lib.hid (ownsRow_below fx0_185.out b_195)
  have fx1_201 := Lib.hid (ownsRow_below fx1_186.out b_195)
  have fY1_202 := Lib.hid (fY1_187.out.below b_195)
  have fx2_203 := Lib.hid (ownsRow_below fx2_188.out b_195)
  have fg0_204 := Lib.hid (ownsRow_below fg0_189.out b_195)
  have ft_205 := Lib.hid (ownsRow_below t_190.out b_195)
  clear fX1_182 fW_183 fs0_184 fx0_185 fx1_186 fY1_187 fx2_188 fg0_189 t_190 b_195
  obtain ⟨p_206, p_207, _, _⟩ := fX1_197.out.two
  obtain ⟨p_208, p_209, _, _⟩ := fY1_202.out.two
  clear p_206 p_207 p_208 p_209
  obtain ⟨p_210, p_211, _, _⟩ := fX1_197.out.two
  obtain ⟨p_212, p_213, _, _⟩ := fY1_202.out.two
  go_wp2_with fail
  have fX1_214 := Lib.hid (fX1_197.out.drew)
  have fW_215 := Lib.hid (fW_198.out.drew)
  have fs0_216 := Lib.hid (ownsRow_drew fs0_199.out)
  have fx0_217 := Lib.hid (ownsRow_drew fx0_200.out)
  have fx1_218 := Lib.hid (ownsRow_drew fx1_201.out)
  have fY1_219 := Lib.hid (fY1_202.out.drew)
  have fx2_220 := Lib.hid (ownsRow_drew fx2_203.out)
  have fg0_221 := Lib.hid (ownsRow_drew fg0_204.out)
  go_region_held3 (fun w' => w'.cell? ⟨w.heap.size, 0, none⟩ = some (.int .i64 N1) ∧ w'.cell? ⟨w.heap.size, 1, none⟩ = some (.slice A1 n1 c1) ∧ w'.cell? ⟨w_90.heap.size, 0, none⟩ = some (.int .i64 N1) ∧ w'.cell? ⟨w_90.heap.size, 1, none⟩ = some (.slice A_86 n1 c_87))
    (first | go_keep | exact ⟨s_236, s_237, s_238, s_239⟩ | exact ⟨s_251, s_252, s_253, s_254⟩)
    (first
      | (go_at_call 44; (with_reducible refine (l_toGraph _ _ _ _ _ _ (H1.out.below fW_215.out) hy1).mono ?_); rintro e w_226 ⟨A_222, c_223, rfl, o_224, b_225⟩; have fX1_227 := Lib.hid (fX1_214.out.below b_225); have fW_228 := Lib.hid (below_trans fW_215.out b_225); have fs0_229 := Lib.hid (ownsRow_below fs0_216.out b_225); have fx0_230 := Lib.hid (ownsRow_below fx0_217.out b_225); have fx1_231 := Lib.hid (ownsRow_below fx1_218.out b_225); have fY1_232 := Lib.hid (fY1_219.out.below b_225); have fx2_233 := Lib.hid (ownsRow_below fx2_220.out b_225); have fg0_234 := Lib.hid (ownsRow_below fg0_221.out b_225); have t_235 := Lib.hid o_224; have ⟨s_236, s_237, _, _⟩ := fX1_227.out.two; have ⟨s_238, s_239, _, _⟩ := fY1_232.out.two)
      | (go_at_call 47; (with_reducible refine (l_eqGraph_same _ _ _ _ _ _ _ _ (RdP.own fx1_231.out) (RdP.own t_235.out) (by omega)).mono ?_); rintro e w_241 ⟨rfl, b_240⟩; have fX1_242 := Lib.hid (fX1_227.out.below b_240); have fW_243 := Lib.hid (below_trans fW_228.out b_240); have fs0_244 := Lib.hid (ownsRow_below fs0_229.out b_240); have fx0_245 := Lib.hid (ownsRow_below fx0_230.out b_240); have fx1_246 := Lib.hid (ownsRow_below fx1_231.out b_240); have fY1_247 := Lib.hid (fY1_232.out.below b_240); have fx2_248 := Lib.hid (ownsRow_below fx2_233.out b_240); have fg0_249 := Lib.hid (ownsRow_below fg0_234.out b_240); have ft_250 := Lib.hid (ownsRow_below t_235.out b_240); have ⟨s_251, s_252, _, _⟩ := fX1_242.out.two; have ⟨s_253, s_254, _, _⟩ := fY1_247.out.two)
      | fail)
  clear p_210 p_211 p_212 p_213
  clear fX1_197 fW_198 fs0_199 fx0_200 fx1_201 fY1_202 fx2_203 fg0_204
  obtain ⟨p_255, p_256, _, _⟩ := fX1_242.out.two
  obtain ⟨p_257, p_258, _, _⟩ := fY1_247.out.two
  go_wp2_with fail
  refine (l_toIntS _ _ _ _ _ (H2.out.below fW_243.out) hy2).mono ?_
  rintro e w_263 ⟨A_259, c_260, rfl, o_261, b_262⟩
  clear p_255 p_256 p_257 p_258
  have fX1_264 := Lib.hid (fX1_242.out.below b_262)
  have fW_265 := Lib.hid (below_trans fW_243.out b_262)
  have fs0_266 := Lib.hid (ownsRow_below fs0_244.out b_262)
  have fx0_267 := Lib.hid (ownsRow_below fx0_245.out b_262)
  have fx1_268 := Lib.hid (ownsRow_below fx1_246.out b_262)
  have fY1_269 := Lib.hid (fY1_247.out.below b_262)
  have fx2_270 := Lib.hid (ownsRow_below fx2_248.out b_262)
  have fg0_271 := Lib.hid (ownsRow_below fg0_249.out b_262)
  have t_272 := Lib.hid o_261
  clear fX1_242 fW_243 fs0_244 fx0_245 fx1_246 fY1_247 fx2_248 fg0_249 o_261 b_262
  obtain ⟨p_273, p_274, _, _⟩ := fX1_264.out.two
  obtain ⟨p_275, p_276, _, _⟩ := fY1_269.out.two
  go_wp2_with fail
  refine (l_eqIntS_same _ _ _ _ _ _ _ (RdI.own fx2_270.out) (RdI.own t_272.out) (by omega)).mono ?_
  rintro e w_278 ⟨rfl, b_277⟩
  clear p_273 p_274 p_275 p_276
  have fX1_279 := Lib.hid (fX1_264.out.below b_277)
  have fW_280 := Lib.hid (below_trans fW_265.out b_277)
  have fs0_281 := Lib.hid (ownsRow_below fs0_266.out b_277)
  have fx0_282 := Lib.hid (ownsRow_below fx0_267.out b_277)
  have fx1_283 := Lib.hid (ownsRow_below fx1_268.out b_277)
  have fY1_284 := Lib.hid (fY1_269.out.below b_277)
  have fx2_285 := Lib.hid (ownsRow_below fx2_270.out b_277)
  have fg0_286 := Lib.hid (ownsRow_below fg0_271.out b_277)
  have ft_287 := Lib.hid (ownsRow_below t_272.out b_277)
  clear fX1_264 fW_265 fs0_266 fx0_267 fx1_268 fY1_269 fx2_270 fg0_271 t_272 b_277
  obtain ⟨p_288, p_289, _, _⟩ := fX1_279.out.two
  obtain ⟨p_290, p_291, _, _⟩ := fY1_284.out.two
  go_wp2_with fail
  refine (l_markGateS _ _ _ _ _ _ _ _ fx0_282.out (by omega) (by omega) (by omega)).mono ?_
  rintro e w_294 ⟨rfl, om_293, gm_292⟩
  clear p_288 p_289 p_290 p_291
  have fX1_295 := Lib.hid (kept_app fx0_282.out gm_292 (fX1_279.out) (by decide))
  have fW_296 := Lib.hid (below_grown (fW_280.out) (Below.size (fW_280.out)) fx0_282.out hB_77 gm_292)
  have fs0_297 := Lib.hid (World.ownsRow.kept (fs0_281.out) gm_292 ap_78.out)
  have fx1_298 := Lib.hid (World.ownsRow.kept (fx1_283.out) gm_292 ap_95.out)
  have fY1_299 := Lib.hid (kept_app fx0_282.out gm_292 (fY1_284.out) (by decide))
  have fx2_300 := Lib.hid (World.ownsRow.kept (fx2_285.out) gm_292 ap_120.out)
  have fg0_301 := Lib.hid (World.ownsRow.kept (fg0_286.out) gm_292 ap_146.out)
  have fx0_302 := Lib.hid om_293
  clear gm_292 fX1_279 fW_280 fs0_281 fx0_282 fx1_283 fY1_284 fx2_285 fg0_286
  obtain ⟨p_303, p_304, _, _⟩ := fX1_295.out.two
  obtain ⟨p_305, p_306, _, _⟩ := fY1_299.out.two
  go_wp2_with fail
  refine (l_markGraph _ _ _ _ _ _ _ _ fx1_298.out (by omega) (by omega) (by omega)).mono ?_
  rintro e w_309 ⟨rfl, gm_307⟩
  clear p_303 p_304 p_305 p_306
  have fX1_310 := Lib.hid (kept_app (World.ownsRow.alloc fx1_298.out _) gm_307 (Bx.alloc fX1_295.out _) (by decide))
  have fW_311 := Lib.hid (below_grown (Below.alloc fW_296.out (Below.size fW_296.out) _) (Below.size (Below.alloc fW_296.out (Below.size fW_296.out) _)) (World.ownsRow.alloc fx1_298.out _) hB_91 gm_307)
  have fs0_312 := Lib.hid (World.ownsRow.kept (World.ownsRow.alloc fs0_297.out _) gm_307 ap_92.out)
  have fx0_313 := Lib.hid (World.ownsRow.kept (World.ownsRow.alloc fx0_302.out _) gm_307 ap_94.out)
  have fY1_314 := Lib.hid (kept_app (World.ownsRow.alloc fx1_298.out _) gm_307 (Bx.alloc fY1_299.out _) (by decide))
  have fx2_315 := Lib.hid (World.ownsRow.kept (World.ownsRow.alloc fx2_300.out _) gm_307 ap_122.out)
  have fg0_316 := Lib.hid (World.ownsRow.kept (World.ownsRow.alloc fg0_301.out _) gm_307 ap_148.out)
  clear gm_307 fX1_295 fW_296 fs0_297 fx0_302 fx1_298 fY1_299 fx2_300 fg0_301
  obtain ⟨p_317, p_318, _, _⟩ := fX1_310.out.two
  obtain ⟨p_319, p_320, _, _⟩ := fY1_314.out.two
  go_wp2_with fail
  refine (l_markIntS _ _ _ _ _ _ _ _ fx2_315.out (by omega) (by omega) (by omega)).mono ?_
  rintro e w_323 ⟨rfl, om_322, gm_321⟩
  clear p_317 p_318 p_319 p_320
  have fX1_324 := Lib.hid (kept_app fx2_315.out gm_321 (fX1_310.out) (by decide))
  have fW_325 := Lib.hid (below_grown (fW_311.out) (Below.size (fW_311.out)) fx2_315.out hB_116 gm_321)
  have fs0_326 := Lib.hid (World.ownsRow.kept (fs0_312.out) gm_321 ap_117.out)
  have fx0_327 := Lib.hid (World.ownsRow.kept (fx0_313.out) gm_321 ap_119.out)
  have fg0_328 := Lib.hid (World.ownsRow.kept (fg0_316.out) gm_321 ap_150.out)
  have fx2_329 := Lib.hid om_322
  clear gm_321 fX1_310 fW_311 fs0_312 fx0_313 fx2_315 fg0_316
  obtain ⟨p_330, p_331, _, _⟩ := fX1_324.out.two
  have hk_332 : ¬ (1 + 4 * (n0 : Int) + 2 * (n1 : Int) + (n2 : Int) < 0) := by omega
  go_wp2_with fail
  refine (l_eqGateS_same _ _ _ _ _ _ _ (RdG.own fg0_328.out) (RdG.own fs0_326.out) (by omega)).mono ?_
  rintro e w_334 ⟨rfl, b_333⟩
  clear p_330 p_331
  have fX1_335 := Lib.hid (fX1_324.out.below b_333)
  have fW_336 := Lib.hid (below_trans fW_325.out b_333)
  have fs0_337 := Lib.hid (ownsRow_below fs0_326.out b_333)
  have fg0_338 := Lib.hid (ownsRow_below fg0_328.out b_333)
  clear fX1_324 fW_325 fs0_326 fg0_328 b_333
  obtain ⟨p_339, p_340, _, _⟩ := fX1_335.out.two
  clear hk_332
  go_wp2_with fail
  refine (l_markGateS _ _ _ _ _ _ _ _ fg0_338.out (by omega) (by omega) (by omega)).mono ?_
  rintro e w_343 ⟨rfl, om_342, gm_341⟩
  clear p_339 p_340
  have fX1_344 := Lib.hid (kept_app fg0_338.out gm_341 (fX1_335.out) (by decide))
  have fW_345 := Lib.hid (below_grown (fW_336.out) (Below.size (fW_336.out)) fg0_338.out hB_142 gm_341)
  have fs0_346 := Lib.hid (World.ownsRow.kept (fs0_337.out) gm_341 ap_143.out)
  have fg0_347 := Lib.hid om_342
  clear gm_341 fX1_335 fW_336 fs0_337 fg0_338
  obtain ⟨p_348, p_349, _, _⟩ := fX1_344.out.two
  go_wp2_with fail
  refine (l_heldGateS _ _ _ _ _ (RdG.own fg0_347.out) (by omega) (by omega) (by omega)).mono ?_
  rintro e w_350 ⟨rfl, rfl⟩
  clear p_348 p_349
  obtain ⟨p_351, p_352, _, _⟩ := fX1_344.out.two
  go_wp2_with fail
  have fX1_353 := Lib.hid (fX1_344.out.drew)
  have fW_354 := Lib.hid (fW_345.out.drew)
  have fs0_355 := Lib.hid (ownsRow_drew fs0_346.out)
  have fg0_356 := Lib.hid (ownsRow_drew fg0_347.out)
  go_region_held3 (fun w' => w'.cell? ⟨w.heap.size, 0, none⟩ = some (.int .i64 N1) ∧ w'.cell? ⟨w.heap.size, 1, none⟩ = some (.slice A1 n1 c1))
    (first | go_keep | exact ⟨s_367, s_368⟩ | exact ⟨s_380, s_381⟩ | exact ⟨s_394, s_395⟩ | exact ⟨s_417, s_418⟩)
    (first
      | (go_at_call 43; (with_reducible refine (l_toGateS _ _ _ _ _ (H0.out.below fW_354.out) hy0).mono ?_); rintro e w_361 ⟨A_357, c_358, rfl, o_359, b_360⟩; have fX1_362 := Lib.hid (fX1_353.out.below b_360); have fW_363 := Lib.hid (below_trans fW_354.out b_360); have fs0_364 := Lib.hid (ownsRow_below fs0_355.out b_360); have fg0_365 := Lib.hid (ownsRow_below fg0_356.out b_360); have t_366 := Lib.hid o_359; have ⟨s_367, s_368, _, _⟩ := fX1_362.out.two)
      | (go_at_call 44; (with_reducible refine (l_toGraph _ _ _ _ _ _ (H1.out.below fW_363.out) hy1).mono ?_); rintro e w_373 ⟨A_369, c_370, rfl, o_371, b_372⟩; have fX1_374 := Lib.hid (fX1_362.out.below b_372); have fW_375 := Lib.hid (below_trans fW_363.out b_372); have fs0_376 := Lib.hid (ownsRow_below fs0_364.out b_372); have fg0_377 := Lib.hid (ownsRow_below fg0_365.out b_372); have ft0_378 := Lib.hid (ownsRow_below t_366.out b_372); have t_379 := Lib.hid o_371; have ⟨s_380, s_381, _, _⟩ := fX1_374.out.two)
      | (go_at_call 49; (with_reducible refine (l_toIntS _ _ _ _ _ (H2.out.below fW_375.out) hy2).mono ?_); rintro e w_386 ⟨A_382, c_383, rfl, o_384, b_385⟩; have fX1_387 := Lib.hid (fX1_374.out.below b_385); have fW_388 := Lib.hid (below_trans fW_375.out b_385); have fs0_389 := Lib.hid (ownsRow_below fs0_376.out b_385); have fg0_390 := Lib.hid (ownsRow_below fg0_377.out b_385); have ft0_391 := Lib.hid (ownsRow_below ft0_378.out b_385); have ft1_392 := Lib.hid (ownsRow_below t_379.out b_385); have t_393 := Lib.hid o_384; have ⟨s_394, s_395, _, _⟩ := fX1_387.out.two)
      | (go_at_call 64; (with_reducible refine (i_BridgeRoute _ _ _ x0 _ _ _ _ x1 _ _ _ x2 _ (RdG.own ft0_391.out) (by omega) (RdP.own ft1_392.out) (by omega) (RdI.own t_393.out) (by omega)).mono ?_); rintro e w_403 ⟨A_397, c_398, rfl, o_399, b_396⟩; rw [HR0.out] at o_399 ⊢; rw [HQ0.out] at o_399 ⊢; rw [HR1.out]; have hB_404 := fW_388.out.size; have ap_405 := Lib.hid (own_apart fs0_389.out o_399 (Nat.le_refl _)); have ap_406 := Lib.hid (own_apart_r fs0_389.out o_399 (Nat.le_refl _)); have ap_407 := Lib.hid (own_apart fg0_390.out o_399 (Nat.le_refl _)); have ap_408 := Lib.hid (own_apart_r fg0_390.out o_399 (Nat.le_refl _)); have fX1_409 := Lib.hid (fX1_387.out.below b_396); have fW_410 := Lib.hid (below_trans fW_388.out b_396); have fs0_411 := Lib.hid (ownsRow_below fs0_389.out b_396); have fg0_412 := Lib.hid (ownsRow_below fg0_390.out b_396); have ft0_413 := Lib.hid (ownsRow_below ft0_391.out b_396); have ft1_414 := Lib.hid (ownsRow_below ft1_392.out b_396); have ft2_415 := Lib.hid (ownsRow_below t_393.out b_396); have oh0_416 := Lib.hid o_399; have ⟨s_417, s_418, _, _⟩ := fX1_409.out.two)
      | fail)
  clear p_351 p_352
  clear fX1_344 fW_345 fs0_346 fg0_347
  obtain ⟨p_419, p_420, _, _⟩ := fX1_409.out.two
  go_wp2_with fail
  refine (l_eqGateS_same _ _ _ _ _ _ _ (RdG.own oh0_416.out) (RdG.own fs0_411.out) (by omega)).mono ?_
  rintro e w_422 ⟨rfl, b_421⟩
  clear p_419 p_420
  have fX1_423 := Lib.hid (fX1_409.out.below b_421)
  have fW_424 := Lib.hid (below_trans fW_410.out b_421)
  have fs0_425 := Lib.hid (ownsRow_below fs0_411.out b_421)
  have fg0_426 := Lib.hid (ownsRow_below fg0_412.out b_421)
  have fh0_427 := Lib.hid (ownsRow_below oh0_416.out b_421)
  clear fX1_409 fW_410 fs0_411 fg0_412 oh0_416 b_421
  obtain ⟨p_428, p_429, _, _⟩ := fX1_423.out.two
  go_wp2_with fail
  refine (l_heldGateS _ _ _ _ _ (RdG.own fg0_426.out) (by omega) (by omega) (by omega)).mono ?_
  rintro e w_430 ⟨rfl, rfl⟩
  go_wp2_with fail
  go_ret
  exact ⟨rfl, fW_424.out⟩

theorem own : ownKnob Try.prog.godebug = none := by kernel_rfl
theorem laidOut : laidOutB Try.prog = true := by kernel_rfl
set_option maxRecDepth 100000 in
theorem lifted (os : Os) (started : os.Started) (H : Type) (enc : TypeId × Value → H) :
    ReturnsInHanded {} Try.checked os 13 .any (Rows.fnExactBridgeRouteSpec.pre6 enc Try.prog Try.f13 Rows.fnExactBridgeRouteRow.domain false) (Rows.fnExactBridgeRouteSpec.post enc Try.prog Try.f13 false true false false) := by
  refine returnsInHanded_of_change (C := Try.checked) own started (by kernel_rfl) Try.func13
    (ChangeSpec.witness6 (enc := enc) (C := Try.checked) false ⟨#[], #[.slice none 0 0, .agg #[.int .i64 0, .slice none 0 0], .slice none 0 0], []⟩ 8 (by kernel_rfl) (by kernel_rfl) (by kernel_rfl) (by kernel_rfl)) ?_
  intro W base args ds gs before hval0 hW hcnd _
  have hval : ∀ (j : Nat) t v, Try.f13.params[j]? = some t → args[j]? = some v → Value.okWide Try.prog W .any base t v := hval0
  have hW' := hW
  obtain ⟨p, q, hA0, hV, rfl, hfz, hnd⟩ := hW
  have hA : DataW.TrodAll enc Try.prog W 0 (fun _ => true) true Try.f13.params.toList args.toList ds p := hA0
  rw [Try.params13] at hA hval
  obtain ⟨v0, vs0, d0, ds0, p0, q0, hargs, rfl, rfl, h0, t0⟩ := trodAll_cons hA
  obtain ⟨v1, vs1, d1, ds1, p1, q1, rfl, rfl, rfl, h1, t1⟩ := trodAll_cons t0
  obtain ⟨v2, vs2, d2, ds2, p2, q2, rfl, rfl, rfl, h2, t2⟩ := trodAll_cons t1
  obtain ⟨rfl, rfl, rfl⟩ := trodAll_nil t2
  obtain rfl : args = #[v0, v1, v2] := by cases args; simp_all
  obtain ⟨rfl, rfl⟩ := trodVars_none hV
  have k0 := h0
  have lt0 : ∀ x ∈ p0, x.block < W.heap.size := by obtain ⟨m, hm⟩ := k0; exact DataW.trod_lt m _ _ _ hm
  obtain ⟨A0, n0, c0, rfl⟩ := okWide_slice Try.underlying46 (hval 0 46 v0 rfl rfl)
  obtain ⟨fu0, hf0⟩ := h0
  obtain ⟨_, _, _, x0, e0, r0, l0, m0, ok0⟩ := open_gates Try.underlying46 Try.underlying69 (by kernel_rfl) (by kernel_rfl) Try.underlying3 Try.underlying3 Try.underlying3 Try.underlying3 hf0
  simp only [Value.slice.injEq] at e0
  obtain ⟨rfl, rfl, rfl⟩ := e0
  have k1 := h1
  have lt1 : ∀ x ∈ p1, x.block < W.heap.size := by obtain ⟨m, hm⟩ := k1; exact DataW.trod_lt m _ _ _ hm
  obtain ⟨y0, y1, e0, e1, fu1, rfl, rfl, _, g0, g1⟩ := Joins.open_agg2 Try.underlying49 (by kernel_rfl) (by kernel_rfl) (hval 1 49 v1 rfl rfl) h1
  obtain ⟨N1, f0, _, w1⟩ := DataW.trod_int Try.underlying3 g0
  simp only [List.cons.injEq, and_true] at f0
  subst f0
  obtain ⟨A1, n1, c1, x1, rfl, r1, l1, m1, ok1⟩ := open_pairs Try.underlying47 Try.underlying111 (by kernel_rfl) (by kernel_rfl) Try.underlying3 Try.underlying3 g1
  clear g0 g1
  have k2 := h2
  have lt2 : ∀ x ∈ p2, x.block < W.heap.size := by obtain ⟨m, hm⟩ := k2; exact DataW.trod_lt m _ _ _ hm
  obtain ⟨A2, n2, c2, rfl⟩ := okWide_slice Try.underlying31 (hval 2 31 v2 rfl rfl)
  obtain ⟨fu2, hf2⟩ := h2
  obtain ⟨_, _, _, x2, e2, r2, l2, m2, ok2⟩ := open_nums Try.underlying31 Try.underlying3 (by kernel_rfl) hf2
  simp only [Value.slice.injEq] at e2
  obtain ⟨rfl, rfl, rfl⟩ := e2
  clear hA0 hval0
  refine (walk A0 n0 c0 x0 N1 A1 n1 c1 x1 A2 n2 c2 x2 W r0 l0 m0 ok0 (i64_of_wf w1) r1 l1 m1 ok1 r2 l2 m2 ok2).mono fun e W' ⟨he, bel⟩ => ?_
  subst he
  exact ⟨_, rfl, _, _, _, [], _, [], hW', trodAll_mk1 (shut_bool Try.underlying4 _), (trodAll_cons_mk (Below.trod laidOut (by kernel_rfl) (of_decide_eq_true (by kernel_rfl)) k0 bel lt0) (trodAll_cons_mk (Below.trod laidOut (by kernel_rfl) (of_decide_eq_true (by kernel_rfl)) k1 bel lt1) (trodAll_cons_mk (Below.trod laidOut (by kernel_rfl) (of_decide_eq_true (by kernel_rfl)) k2 bel lt2) trodAll_mk0))), rfl, bel.frame _, fun h => by cases h⟩

theorem over : Rows.fnExactBridgeRouteRow.holds Try.pinned (OpenSpec.ofChange Rows.fnExactBridgeRouteSpec) :=
  OpenClaim.holds_of_wide 13 Try.f13 rfl rfl rfl rfl rfl rfl rfl ⟨rfl, rfl, rfl, rfl, rfl⟩ rfl rfl rfl rfl rfl (by kernel_rfl) Try.func13 (by kernel_rfl)
    (of_decide_eq_true (by kernel_rfl)) (by unfold Func.isWrapper; first | (rw [if_pos (by decide +kernel)]; kernel_rfl) | (rw [if_neg (by decide +kernel)]; exact ⟨rfl, rfl⟩))
    (fun os started H enc _ => lifted os started H enc)

theorem proved : Rows.FnExactBridgeRouteSaid := over
#print axioms proved
end Go.Proofs.Ythijgdpnodiceaa.fnExactBridgeRoute
