/- The law FnExactRouteGate returns true for every input. No condition. -/
import Derived.Test.YthijgdpnodiceaaRows
import Derived.Test.YthijgdpnodiceaaGateT
import Derived.Test.YthijgdpnodiceaaIntS
import Derived.Test.YthijgdpnodiceaaGraphM
import Derived.Test.YthijgdpnodiceaaSzX
import Derived.Test.YthijgdpnodiceaaPairN
import Derived.Test.YthijgdpnodiceaaOpen
import Derived.Test.YthijgdpnodiceaaGateS
import Derived.Test.YthijgdpnodiceaaRouteG
import Derived.Deep.RegionHeld3
import Derived.ChangeOld
namespace Go.Proofs.Ythijgdpnodiceaa.fnExactRouteGate
open Go.ChangeShapes Go.WideShapes Go.ChangeAt Go.RowKit
set_option linter.unusedVariables false

theorem routeG_row2 (ps : List (Int × Int)) (N : Int) (z : List Int) (g : Gt) : (routeG ps N z g).2.length ≤ z.length + 4 := by
  cases h : mayR ps N z g
  · rw [routeG_no h]; simp
  · have := routeG_row (g := g) (mayR_parts h).1; omega

set_option maxRecDepth 100000 in
set_option maxHeartbeats 6400000 in
theorem walk (g0 : Gt) (N1 : Int) (A1 : Option Addr) (n1 c1 : Nat) (x1 : List (Int × Int)) (A2 : Option Addr) (n2 c2 : Nat) (x2 : List Int) (w : World) (ok0 : g0.ok) (i1 : I64 N1) (r1 : RdP w A1 n1 x1) (l1 : n1 ≤ c1) (m1 : c1 ≤ maxLen) (ok1 : ∀ p ∈ x1, I64 p.1 ∧ I64 p.2) (r2 : RdI w A2 n2 x2) (l2 : n2 ≤ c2) (m2 : c2 ≤ maxLen) (ok2 : ∀ g ∈ x2, I64 g) :
    Calls Try.prog 12 #[.agg #[.int .i64 g0.k, .int .i64 g0.a, .int .i64 g0.b, .int .i64 g0.c], .agg #[.int .i64 N1, .slice A1 n1 c1], .slice A2 n2 c2] w fun e w' => e = .returned (.bool true) ∧ Below w.heap.size w w' := by
  unfold maxLen at m1 m2
  have H1 := Lib.hid r1
  have hl1 := r1.1
  have H2 := Lib.hid r2
  have hl2 := r2.1
  obtain ⟨R0, hR0⟩ : ∃ R, (routeG x1 N1 x2 g0).1 = R := ⟨_, rfl⟩
  have HR0 := Lib.hid hR0
  obtain ⟨q0, hq0⟩ : ∃ q, R0.length = q := ⟨_, rfl⟩
  have HQ0 := Lib.hid hq0
  obtain ⟨R1, hR1⟩ : ∃ R, (routeG x1 N1 x2 g0).2 = R := ⟨_, rfl⟩
  have HR1 := Lib.hid hR1
  obtain ⟨q1, hq1⟩ : ∃ q, R1.length = q := ⟨_, rfl⟩
  have HQ1 := Lib.hid hq1
  clear ok0 i1 r1 ok1 r2 ok2
  have X0 := Lib.hid (show Bx ((w.alloc (.cells #[.int .i64 g0.k, .int .i64 g0.a, .int .i64 g0.b, .int .i64 g0.c] 69)).alloc (.cells #[.int .i64 N1, .slice A1 n1 c1] 49)) (w.heap.size) 69 #[.int .i64 g0.k, .int .i64 g0.a, .int .i64 g0.b, .int .i64 g0.c] from (Bx.new w _ _).alloc _)
  have X1 := Lib.hid (show Bx ((w.alloc (.cells #[.int .i64 g0.k, .int .i64 g0.a, .int .i64 g0.b, .int .i64 g0.c] 69)).alloc (.cells #[.int .i64 N1, .slice A1 n1 c1] 49)) (w.heap.size + 1) 49 #[.int .i64 N1, .slice A1 n1 c1] from Bx.new' (by simp))
  have BW := Lib.hid (show Below w.heap.size w ((w.alloc (.cells #[.int .i64 g0.k, .int .i64 g0.a, .int .i64 g0.b, .int .i64 g0.c] 69)).alloc (.cells #[.int .i64 N1, .slice A1 n1 c1] 49)) from ((Below.refl _ _).alloc (by simp <;> omega) _).alloc (by simp <;> omega) _)
  by_cases hz2 : n2 ≤ 1048576
  rotate_left
  · skip
    go_enter Try.func12, Try.ntmps12
    go_wp2_with fail
    go_ret
    exact ⟨rfl, BW.out⟩
  by_cases hz1 : n1 ≤ 1048576
  rotate_left
  · skip
    go_enter Try.func12, Try.ntmps12
    go_wp2_with fail
    refine (l_szGraph _ _ _ _ (by omega) _).mono ?_
    rintro e wf_1 ⟨rfl, bf_2⟩
    rw [if_neg (by omega)]
    have fX0_3 := Lib.hid (X0.out.below bf_2)
    have fX1_4 := Lib.hid (X1.out.below bf_2)
    have fW_5 := Lib.hid (below_trans BW.out bf_2)
    obtain ⟨p_6, p_7, p_8, p_9, _, _, _, _⟩ := fX0_3.out.four
    obtain ⟨p_10, p_11, _, _⟩ := fX1_4.out.two
    go_wp2_with fail
    go_ret
    exact ⟨rfl, fW_5.out⟩
  go_enter Try.func12, Try.ntmps12
  go_wp2_with fail
  refine (l_szGraph _ _ _ _ (by omega) _).mono ?_
  rintro e wa_12 ⟨rfl, b_13⟩
  rw [if_pos hz1]
  have fX0_14 := Lib.hid (X0.out.below b_13)
  have fX1_15 := Lib.hid (X1.out.below b_13)
  have fW_16 := Lib.hid (below_trans BW.out b_13)
  clear X0 X1 BW b_13
  obtain ⟨p_17, p_18, p_19, p_20, _, _, _, _⟩ := fX0_14.out.four
  obtain ⟨p_21, p_22, _, _⟩ := fX1_15.out.two
  have hy1 : n1 ≤ 1048576 := by omega
  have hy2 : n2 ≤ 1048576 := hz2
  have hlen0 : q0 ≤ 1073741824 := by rw [← hq0, ← hR0]; exact (by have := routeG_len x1 N1 x2 g0; omega)
  clear hq0
  have hlen1 : q1 ≤ 1073741824 := by rw [← hq1, ← hR1]; exact (by have := routeG_row2 x1 N1 x2 g0; omega)
  clear hq1
  clear hR0
  clear hR1
  clear hl1
  clear hl2
  clear p_17 p_18 p_19 p_20 p_21 p_22
  obtain ⟨p_23, p_24, p_25, p_26, _, _, _, _⟩ := fX0_14.out.four
  obtain ⟨p_27, p_28, _, _⟩ := fX1_15.out.two
  go_wp2_with fail
  have fX0_29 := Lib.hid (fX0_14.out.drew)
  have fX1_30 := Lib.hid (fX1_15.out.drew)
  have fW_31 := Lib.hid (fW_16.out.drew)
  go_region_held3 (fun w' => w'.cell? ⟨w.heap.size, 0, none⟩ = some (.int .i64 g0.k) ∧ w'.cell? ⟨w.heap.size, 1, none⟩ = some (.int .i64 g0.a) ∧ w'.cell? ⟨w.heap.size, 2, none⟩ = some (.int .i64 g0.b) ∧ w'.cell? ⟨w.heap.size, 3, none⟩ = some (.int .i64 g0.c) ∧ w'.cell? ⟨w.heap.size + 1, 0, none⟩ = some (.int .i64 N1) ∧ w'.cell? ⟨w.heap.size + 1, 1, none⟩ = some (.slice A1 n1 c1))
    (first | go_keep | exact ⟨s_40, s_41, s_42, s_43, s_44, s_45⟩ | exact ⟨s_55, s_56, s_57, s_58, s_59, s_60⟩ | exact ⟨s_71, s_72, s_73, s_74, s_75, s_76⟩ | exact ⟨s_95, s_96, s_97, s_98, s_99, s_100⟩)
    (first
      | (go_at_call 60; (with_reducible refine (l_toGate _ _ _ _ _).mono ?_); rintro e w_36 ⟨rfl, b_35⟩; have fX0_37 := Lib.hid (fX0_29.out.below b_35); have fX1_38 := Lib.hid (fX1_30.out.below b_35); have fW_39 := Lib.hid (below_trans fW_31.out b_35); have ⟨s_40, s_41, s_42, s_43, _, _, _, _⟩ := fX0_37.out.four; have ⟨s_44, s_45, _, _⟩ := fX1_38.out.two)
      | (go_at_call 44; (with_reducible refine (l_toGraph _ _ _ _ _ _ (H1.out.below fW_39.out) hy1).mono ?_); rintro e w_50 ⟨A_46, c_47, rfl, o_48, b_49⟩; have fX0_51 := Lib.hid (fX0_37.out.below b_49); have fX1_52 := Lib.hid (fX1_38.out.below b_49); have fW_53 := Lib.hid (below_trans fW_39.out b_49); have t_54 := Lib.hid o_48; have ⟨s_55, s_56, s_57, s_58, _, _, _, _⟩ := fX0_51.out.four; have ⟨s_59, s_60, _, _⟩ := fX1_52.out.two)
      | (go_at_call 49; (with_reducible refine (l_toIntS _ _ _ _ _ (H2.out.below fW_53.out) hy2).mono ?_); rintro e w_65 ⟨A_61, c_62, rfl, o_63, b_64⟩; have fX0_66 := Lib.hid (fX0_51.out.below b_64); have fX1_67 := Lib.hid (fX1_52.out.below b_64); have fW_68 := Lib.hid (below_trans fW_53.out b_64); have ft1_69 := Lib.hid (ownsRow_below t_54.out b_64); have t_70 := Lib.hid o_63; have ⟨s_71, s_72, s_73, s_74, _, _, _, _⟩ := fX0_66.out.four; have ⟨s_75, s_76, _, _⟩ := fX1_67.out.two)
      | (go_at_call 59; (with_reducible refine (s_RouteGate g0 _ _ _ _ x1 _ _ _ x2 _ (RdP.own ft1_69.out) (by omega) (RdI.own t_70.out) (ownsRow_cap t_70.out) (by omega)).mono ?_); rintro e w_84 ⟨A_78, c_79, A_81, c_82, rfl, o_80, o_83, b_77⟩; rw [HR0.out] at o_80 ⊢; rw [HQ0.out] at o_80 ⊢; rw [HR1.out] at o_83 ⊢; rw [HQ1.out] at o_83 ⊢; have hB_85 := fW_68.out.size; have ap_86 := Lib.hid (own_types o_80 o_83 (by decide)); have ap_87 := Lib.hid (own_types o_83 o_80 (by decide)); have fX0_88 := Lib.hid (fX0_66.out.below b_77); have fX1_89 := Lib.hid (fX1_67.out.below b_77); have fW_90 := Lib.hid (below_trans fW_68.out b_77); have ft1_91 := Lib.hid (ownsRow_below ft1_69.out b_77); have ft2_92 := Lib.hid (ownsRow_below t_70.out b_77); have os0_93 := Lib.hid o_80; have os1_94 := Lib.hid o_83; have ⟨s_95, s_96, s_97, s_98, _, _, _, _⟩ := fX0_88.out.four; have ⟨s_99, s_100, _, _⟩ := fX1_89.out.two)
      | fail)
  clear p_23 p_24 p_25 p_26 p_27 p_28
  clear fX0_14 fX1_15 fW_16
  obtain ⟨p_101, p_102, p_103, p_104, _, _, _, _⟩ := fX0_88.out.four
  obtain ⟨p_105, p_106, _, _⟩ := fX1_89.out.two
  go_wp2_with fail
  refine (l_toGraph _ _ _ _ _ _ (H1.out.below fW_90.out) hy1).mono ?_
  rintro e w_111 ⟨A_107, c_108, rfl, o_109, b_110⟩
  have hB_112 := fW_90.out.size
  have ap_113 := Lib.hid (own_apart os0_93.out o_109 (Nat.le_refl _))
  have ap_114 := Lib.hid (own_apart_r os0_93.out o_109 (Nat.le_refl _))
  have ap_115 := Lib.hid (own_apart os1_94.out o_109 (Nat.le_refl _))
  have ap_116 := Lib.hid (own_apart_r os1_94.out o_109 (Nat.le_refl _))
  have fX0_117 := Lib.hid (fX0_88.out.below b_110)
  have fX1_118 := Lib.hid (fX1_89.out.below b_110)
  have fW_119 := Lib.hid (below_trans fW_90.out b_110)
  have fs0_120 := Lib.hid (ownsRow_below os0_93.out b_110)
  have fs1_121 := Lib.hid (ownsRow_below os1_94.out b_110)
  have ox_122 := Lib.hid o_109
  clear fX0_88 fX1_89 fW_90 os0_93 os1_94 o_109 b_110
  have Y_123 := Lib.hid (Bx.new w_111 38 #[.int .i64 N1, .slice A_107 n1 c_108])
  have fX0_124 := Lib.hid (fX0_117.out.alloc (.cells #[.int .i64 N1, .slice A_107 n1 c_108] 38))
  have fX1_125 := Lib.hid (fX1_118.out.alloc (.cells #[.int .i64 N1, .slice A_107 n1 c_108] 38))
  have fW_126 := Lib.hid (Below.alloc fW_119.out (fW_119.out.size) (.cells #[.int .i64 N1, .slice A_107 n1 c_108] 38))
  have fs0_127 := Lib.hid (World.ownsRow.alloc fs0_120.out (.cells #[.int .i64 N1, .slice A_107 n1 c_108] 38))
  have fs1_128 := Lib.hid (World.ownsRow.alloc fs1_121.out (.cells #[.int .i64 N1, .slice A_107 n1 c_108] 38))
  have fx1_129 := Lib.hid (World.ownsRow.alloc ox_122.out (.cells #[.int .i64 N1, .slice A_107 n1 c_108] 38))
  clear fX0_117 fX1_118 fW_119 fs0_120 fs1_121 ox_122
  clear p_101 p_102 p_103 p_104 p_105 p_106
  obtain ⟨p_130, p_131, p_132, p_133, _, _, _, _⟩ := fX0_124.out.four
  obtain ⟨p_134, p_135, _, _⟩ := fX1_125.out.two
  obtain ⟨p_136, p_137, _, _⟩ := Y_123.out.two
  go_wp2_with fail
  refine (l_toIntS _ _ _ _ _ (H2.out.below fW_126.out) hy2).mono ?_
  rintro e w_142 ⟨A_138, c_139, rfl, o_140, b_141⟩
  have hB_143 := fW_126.out.size
  have ap_144 := Lib.hid (own_apart fs0_127.out o_140 (Nat.le_refl _))
  have ap_145 := Lib.hid (own_apart_r fs0_127.out o_140 (Nat.le_refl _))
  have ap_146 := Lib.hid (own_apart fs1_128.out o_140 (Nat.le_refl _))
  have ap_147 := Lib.hid (own_apart_r fs1_128.out o_140 (Nat.le_refl _))
  have ap_148 := Lib.hid (own_apart fx1_129.out o_140 (Nat.le_refl _))
  have ap_149 := Lib.hid (own_apart_r fx1_129.out o_140 (Nat.le_refl _))
  have fX0_150 := Lib.hid (fX0_124.out.below b_141)
  have fX1_151 := Lib.hid (fX1_125.out.below b_141)
  have fW_152 := Lib.hid (below_trans fW_126.out b_141)
  have fs0_153 := Lib.hid (ownsRow_below fs0_127.out b_141)
  have fs1_154 := Lib.hid (ownsRow_below fs1_128.out b_141)
  have fx1_155 := Lib.hid (ownsRow_below fx1_129.out b_141)
  have fY1_156 := Lib.hid (Y_123.out.below b_141)
  have ox_157 := Lib.hid o_140
  clear fX0_124 fX1_125 fW_126 fs0_127 fs1_128 fx1_129 Y_123 o_140 b_141
  clear p_130 p_131 p_132 p_133 p_134 p_135 p_136 p_137
  obtain ⟨p_158, p_159, p_160, p_161, _, _, _, _⟩ := fX0_150.out.four
  obtain ⟨p_162, p_163, _, _⟩ := fX1_151.out.two
  obtain ⟨p_164, p_165, _, _⟩ := fY1_156.out.two
  clear p_158 p_159 p_160 p_161 p_162 p_163 p_164 p_165
  obtain ⟨p_166, p_167, p_168, p_169, _, _, _, _⟩ := fX0_150.out.four
  obtain ⟨p_170, p_171, _, _⟩ := fX1_151.out.two
  obtain ⟨p_172, p_173, _, _⟩ := fY1_156.out.two
  go_wp2_with fail
  have fX0_174 := Lib.hid (fX0_150.out.drew)
  have fX1_175 := Lib.hid (fX1_151.out.drew)
  have fW_176 := Lib.hid (fW_152.out.drew)
  have fs0_177 := Lib.hid (ownsRow_drew fs0_153.out)
  have fs1_178 := Lib.hid (ownsRow_drew fs1_154.out)
  have fx1_179 := Lib.hid (ownsRow_drew fx1_155.out)
  have fY1_180 := Lib.hid (fY1_156.out.drew)
  have fx2_181 := Lib.hid (ownsRow_drew ox_157.out)
  go_region_held3 (fun w' => w'.cell? ⟨w.heap.size, 0, none⟩ = some (.int .i64 g0.k) ∧ w'.cell? ⟨w.heap.size, 1, none⟩ = some (.int .i64 g0.a) ∧ w'.cell? ⟨w.heap.size, 2, none⟩ = some (.int .i64 g0.b) ∧ w'.cell? ⟨w.heap.size, 3, none⟩ = some (.int .i64 g0.c) ∧ w'.cell? ⟨w.heap.size + 1, 0, none⟩ = some (.int .i64 N1) ∧ w'.cell? ⟨w.heap.size + 1, 1, none⟩ = some (.slice A1 n1 c1) ∧ w'.cell? ⟨w_111.heap.size, 0, none⟩ = some (.int .i64 N1) ∧ w'.cell? ⟨w_111.heap.size, 1, none⟩ = some (.slice A_107 n1 c_108))
    (first | go_keep | exact ⟨s_195, s_196, s_197, s_198, s_199, s_200, s_201, s_202⟩ | exact ⟨s_240, s_241, s_242, s_243, s_244, s_245, s_246, s_247⟩)
    (first
      | (go_at_call 60; (with_reducible refine (l_toGate _ _ _ _ _).mono ?_); rintro e w_186 ⟨rfl, b_185⟩; have fX0_187 := Lib.hid (fX0_174.out.below b_185); have fX1_188 := Lib.hid (fX1_175.out.below b_185); have fW_189 := Lib.hid (below_trans fW_176.out b_185); have fs0_190 := Lib.hid (ownsRow_below fs0_177.out b_185); have fs1_191 := Lib.hid (ownsRow_below fs1_178.out b_185); have fx1_192 := Lib.hid (ownsRow_below fx1_179.out b_185); have fY1_193 := Lib.hid (fY1_180.out.below b_185); have fx2_194 := Lib.hid (ownsRow_below fx2_181.out b_185); have ⟨s_195, s_196, s_197, s_198, _, _, _, _⟩ := fX0_187.out.four; have ⟨s_199, s_200, _, _⟩ := fX1_188.out.two; have ⟨s_201, s_202, _, _⟩ := fY1_193.out.two)
      | (go_at_call 61; (with_reducible refine (i_RouteGate g0 _ _ _ _ x1 _ _ _ x2 _ (RdP.own fx1_192.out) (by omega) (RdI.own fx2_194.out) (by omega)).mono ?_); rintro e w_210 ⟨A_204, c_205, A_207, c_208, rfl, o_206, o_209, b_203⟩; rw [HR0.out] at o_206 ⊢; rw [HQ0.out] at o_206 ⊢; rw [HR1.out] at o_209 ⊢; rw [HQ1.out] at o_209 ⊢; have hB_211 := fW_189.out.size; have ap_212 := Lib.hid (own_apart fs0_190.out o_206 (Nat.le_refl _)); have ap_213 := Lib.hid (own_apart_r fs0_190.out o_206 (Nat.le_refl _)); have ap_214 := Lib.hid (own_apart fs1_191.out o_206 (Nat.le_refl _)); have ap_215 := Lib.hid (own_apart_r fs1_191.out o_206 (Nat.le_refl _)); have ap_216 := Lib.hid (own_apart fx1_192.out o_206 (Nat.le_refl _)); have ap_217 := Lib.hid (own_apart_r fx1_192.out o_206 (Nat.le_refl _)); have ap_218 := Lib.hid (own_apart fx2_194.out o_206 (Nat.le_refl _)); have ap_219 := Lib.hid (own_apart_r fx2_194.out o_206 (Nat.le_refl _)); have ap_220 := Lib.hid (own_apart fs0_190.out o_209 (Nat.le_refl _)); have ap_221 := Lib.hid (own_apart_r fs0_190.out o_209 (Nat.le_refl _)); have ap_222 := Lib.hid (own_apart fs1_191.out o_209 (Nat.le_refl _)); have ap_223 := Lib.hid (own_apart_r fs1_191.out o_209 (Nat.le_refl _)); have ap_224 := Lib.hid (own_apart fx1_192.out o_209 (Nat.le_refl _)); have ap_225 := Lib.hid (own_apart_r fx1_192.out o_209 (Nat.le_refl _)); have ap_226 := Lib.hid (own_apart fx2_194.out o_209 (Nat.le_refl _)); have ap_227 := Lib.hid (own_apart_r fx2_194.out o_209 (Nat.le_refl _)); have ap_228 := Lib.hid (own_types o_206 o_209 (by decide)); have ap_229 := Lib.hid (own_types o_209 o_206 (by decide)); have fX0_230 := Lib.hid (fX0_187.out.below b_203); have fX1_231 := Lib.hid (fX1_188.out.below b_203); have fW_232 := Lib.hid (below_trans fW_189.out b_203); have fs0_233 := Lib.hid (ownsRow_below fs0_190.out b_203); have fs1_234 := Lib.hid (ownsRow_below fs1_191.out b_203); have fx1_235 := Lib.hid (ownsRow_below fx1_192.out b_203); have fY1_236 := Lib.hid (fY1_193.out.below b_203); have fx2_237 := Lib.hid (ownsRow_below fx2_194.out b_203); have og0_238 := Lib.hid o_206; have og1_239 := Lib.hid o_209; have ⟨s_240, s_241, s_242, s_243, _, _, _, _⟩ := fX0_230.out.four; have ⟨s_244, s_245, _, _⟩ := fX1_231.out.two; have ⟨s_246, s_247, _, _⟩ := fY1_236.out.two)
      | fail)
  clear p_166 p_167 p_168 p_169 p_170 p_171 p_172 p_173
  clear fX0_150 fX1_151 fW_152 fs0_153 fs1_154 fx1_155 fY1_156 ox_157
  obtain ⟨p_248, p_249, p_250, p_251, _, _, _, _⟩ := fX0_230.out.four
  obtain ⟨p_252, p_253, _, _⟩ := fX1_231.out.two
  obtain ⟨p_254, p_255, _, _⟩ := fY1_236.out.two
  go_wp2_with fail
  refine (l_eqGateS_same _ _ _ _ _ _ _ (RdG.own og0_238.out) (RdG.own fs0_233.out) (by omega)).mono ?_
  rintro e w_257 ⟨rfl, b_256⟩
  clear p_248 p_249 p_250 p_251 p_252 p_253 p_254 p_255
  have fX0_258 := Lib.hid (fX0_230.out.below b_256)
  have fX1_259 := Lib.hid (fX1_231.out.below b_256)
  have fW_260 := Lib.hid (below_trans fW_232.out b_256)
  have fs0_261 := Lib.hid (ownsRow_below fs0_233.out b_256)
  have fs1_262 := Lib.hid (ownsRow_below fs1_234.out b_256)
  have fx1_263 := Lib.hid (ownsRow_below fx1_235.out b_256)
  have fY1_264 := Lib.hid (fY1_236.out.below b_256)
  have fx2_265 := Lib.hid (ownsRow_below fx2_237.out b_256)
  have fg0_266 := Lib.hid (ownsRow_below og0_238.out b_256)
  have fg1_267 := Lib.hid (ownsRow_below og1_239.out b_256)
  clear fX0_230 fX1_231 fW_232 fs0_233 fs1_234 fx1_235 fY1_236 fx2_237 og0_238 og1_239 b_256
  obtain ⟨p_268, p_269, p_270, p_271, _, _, _, _⟩ := fX0_258.out.four
  obtain ⟨p_272, p_273, _, _⟩ := fX1_259.out.two
  obtain ⟨p_274, p_275, _, _⟩ := fY1_264.out.two
  go_wp2_with fail
  refine (l_eqIntS_same _ _ _ _ _ _ _ (RdI.own fg1_267.out) (RdI.own fs1_262.out) (by omega)).mono ?_
  rintro e w_277 ⟨rfl, b_276⟩
  clear p_268 p_269 p_270 p_271 p_272 p_273 p_274 p_275
  have fX0_278 := Lib.hid (fX0_258.out.below b_276)
  have fX1_279 := Lib.hid (fX1_259.out.below b_276)
  have fW_280 := Lib.hid (below_trans fW_260.out b_276)
  have fs0_281 := Lib.hid (ownsRow_below fs0_261.out b_276)
  have fs1_282 := Lib.hid (ownsRow_below fs1_262.out b_276)
  have fx1_283 := Lib.hid (ownsRow_below fx1_263.out b_276)
  have fY1_284 := Lib.hid (fY1_264.out.below b_276)
  have fx2_285 := Lib.hid (ownsRow_below fx2_265.out b_276)
  have fg0_286 := Lib.hid (ownsRow_below fg0_266.out b_276)
  have fg1_287 := Lib.hid (ownsRow_below fg1_267.out b_276)
  clear fX0_258 fX1_259 fW_260 fs0_261 fs1_262 fx1_263 fY1_264 fx2_265 fg0_266 fg1_267 b_276
  obtain ⟨p_288, p_289, p_290, p_291, _, _, _, _⟩ := fX0_278.out.four
  obtain ⟨p_292, p_293, _, _⟩ := fX1_279.out.two
  obtain ⟨p_294, p_295, _, _⟩ := fY1_284.out.two
  clear p_288 p_289 p_290 p_291 p_292 p_293 p_294 p_295
  obtain ⟨p_296, p_297, p_298, p_299, _, _, _, _⟩ := fX0_278.out.four
  obtain ⟨p_300, p_301, _, _⟩ := fX1_279.out.two
  obtain ⟨p_302, p_303, _, _⟩ := fY1_284.out.two
  go_wp2_with fail
  have fX0_304 := Lib.hid (fX0_278.out.drew)
  have fX1_305 := Lib.hid (fX1_279.out.drew)
  have fW_306 := Lib.hid (fW_280.out.drew)
  have fs0_307 := Lib.hid (ownsRow_drew fs0_281.out)
  have fs1_308 := Lib.hid (ownsRow_drew fs1_282.out)
  have fx1_309 := Lib.hid (ownsRow_drew fx1_283.out)
  have fY1_310 := Lib.hid (fY1_284.out.drew)
  have fx2_311 := Lib.hid (ownsRow_drew fx2_285.out)
  have fg0_312 := Lib.hid (ownsRow_drew fg0_286.out)
  have fg1_313 := Lib.hid (ownsRow_drew fg1_287.out)
  go_region_held3 (fun w' => w'.cell? ⟨w.heap.size + 1, 0, none⟩ = some (.int .i64 N1) ∧ w'.cell? ⟨w.heap.size + 1, 1, none⟩ = some (.slice A1 n1 c1) ∧ w'.cell? ⟨w_111.heap.size, 0, none⟩ = some (.int .i64 N1) ∧ w'.cell? ⟨w_111.heap.size, 1, none⟩ = some (.slice A_107 n1 c_108))
    (first | go_keep | exact ⟨s_330, s_331, s_332, s_333⟩ | exact ⟨s_347, s_348, s_349, s_350⟩)
    (first
      | (go_at_call 44; (with_reducible refine (l_toGraph _ _ _ _ _ _ (H1.out.below fW_306.out) hy1).mono ?_); rintro e w_318 ⟨A_314, c_315, rfl, o_316, b_317⟩; have fX0_319 := Lib.hid (fX0_304.out.below b_317); have fX1_320 := Lib.hid (fX1_305.out.below b_317); have fW_321 := Lib.hid (below_trans fW_306.out b_317); have fs0_322 := Lib.hid (ownsRow_below fs0_307.out b_317); have fs1_323 := Lib.hid (ownsRow_below fs1_308.out b_317); have fx1_324 := Lib.hid (ownsRow_below fx1_309.out b_317); have fY1_325 := Lib.hid (fY1_310.out.below b_317); have fx2_326 := Lib.hid (ownsRow_below fx2_311.out b_317); have fg0_327 := Lib.hid (ownsRow_below fg0_312.out b_317); have fg1_328 := Lib.hid (ownsRow_below fg1_313.out b_317); have t_329 := Lib.hid o_316; have ⟨s_330, s_331, _, _⟩ := fX1_320.out.two; have ⟨s_332, s_333, _, _⟩ := fY1_325.out.two)
      | (go_at_call 47; (with_reducible refine (l_eqGraph_same _ _ _ _ _ _ _ _ (RdP.own fx1_324.out) (RdP.own t_329.out) (by omega)).mono ?_); rintro e w_335 ⟨rfl, b_334⟩; have fX0_336 := Lib.hid (fX0_319.out.below b_334); have fX1_337 := Lib.hid (fX1_320.out.below b_334); have fW_338 := Lib.hid (below_trans fW_321.out b_334); have fs0_339 := Lib.hid (ownsRow_below fs0_322.out b_334); have fs1_340 := Lib.hid (ownsRow_below fs1_323.out b_334); have fx1_341 := Lib.hid (ownsRow_below fx1_324.out b_334); have fY1_342 := Lib.hid (fY1_325.out.below b_334); have fx2_343 := Lib.hid (ownsRow_below fx2_326.out b_334); have fg0_344 := Lib.hid (ownsRow_below fg0_327.out b_334); have fg1_345 := Lib.hid (ownsRow_below fg1_328.out b_334); have ft_346 := Lib.hid (ownsRow_below t_329.out b_334); have ⟨s_347, s_348, _, _⟩ := fX1_337.out.two; have ⟨s_349, s_350, _, _⟩ := fY1_342.out.two)
      | fail)
  clear p_296 p_297 p_298 p_299 p_300 p_301 p_302 p_303
  clear fX0_278 fX1_279 fW_280 fs0_281 fs1_282 fx1_283 fY1_284 fx2_285 fg0_286 fg1_287
  obtain ⟨p_351, p_352, p_353, p_354, _, _, _, _⟩ := fX0_336.out.four
  obtain ⟨p_355, p_356, _, _⟩ := fX1_337.out.two
  obtain ⟨p_357, p_358, _, _⟩ := fY1_342.out.two
  go_wp2_with fail
  refine (l_toIntS _ _ _ _ _ (H2.out.below fW_338.out) hy2).mono ?_
  rintro e w_363 ⟨A_359, c_360, rfl, o_361, b_362⟩
  clear p_351 p_352 p_353 p_354 p_355 p_356 p_357 p_358
  have fX0_364 := Lib.hid (fX0_336.out.below b_362)
  have fX1_365 := Lib.hid (fX1_337.out.below b_362)
  have fW_366 := Lib.hid (below_trans fW_338.out b_362)
  have fs0_367 := Lib.hid (ownsRow_below fs0_339.out b_362)
  have fs1_368 := Lib.hid (ownsRow_below fs1_340.out b_362)
  have fx1_369 := Lib.hid (ownsRow_below fx1_341.out b_362)
  have fY1_370 := Lib.hid (fY1_342.out.below b_362)
  have fx2_371 := Lib.hid (ownsRow_below fx2_343.out b_362)
  have fg0_372 := Lib.hid (ownsRow_below fg0_344.out b_362)
  have fg1_373 := Lib.hid (ownsRow_below fg1_345.out b_362)
  have t_374 := Lib.hid o_361
  clear fX0_336 fX1_337 fW_338 fs0_339 fs1_340 fx1_341 fY1_342 fx2_343 fg0_344 fg1_345 o_361 b_362
  obtain ⟨p_375, p_376, p_377, p_378, _, _, _, _⟩ := fX0_364.out.four
  obtain ⟨p_379, p_380, _, _⟩ := fX1_365.out.two
  obtain ⟨p_381, p_382, _, _⟩ := fY1_370.out.two
  go_wp2_with fail
  refine (l_eqIntS_same _ _ _ _ _ _ _ (RdI.own fx2_371.out) (RdI.own t_374.out) (by omega)).mono ?_
  rintro e w_384 ⟨rfl, b_383⟩
  clear p_375 p_376 p_377 p_378 p_379 p_380 p_381 p_382
  have fX0_385 := Lib.hid (fX0_364.out.below b_383)
  have fX1_386 := Lib.hid (fX1_365.out.below b_383)
  have fW_387 := Lib.hid (below_trans fW_366.out b_383)
  have fs0_388 := Lib.hid (ownsRow_below fs0_367.out b_383)
  have fs1_389 := Lib.hid (ownsRow_below fs1_368.out b_383)
  have fx1_390 := Lib.hid (ownsRow_below fx1_369.out b_383)
  have fY1_391 := Lib.hid (fY1_370.out.below b_383)
  have fx2_392 := Lib.hid (ownsRow_below fx2_371.out b_383)
  have fg0_393 := Lib.hid (ownsRow_below fg0_372.out b_383)
  have fg1_394 := Lib.hid (ownsRow_below fg1_373.out b_383)
  have ft_395 := Lib.hid (ownsRow_below t_374.out b_383)
  clear fX0_364 fX1_365 fW_366 fs0_367 fs1_368 fx1_369 fY1_370 fx2_371 fg0_372 fg1_373 t_374 b_383
  obtain ⟨p_396, p_397, p_398, p_399, _, _, _, _⟩ := fX0_385.out.four
  obtain ⟨p_400, p_401, _, _⟩ := fX1_386.out.two
  obtain ⟨p_402, p_403, _, _⟩ := fY1_391.out.two
  go_wp2_with fail
  refine (l_markGraph _ _ _ _ _ _ _ _ fx1_390.out (by omega) (by omega) (by omega)).mono ?_
  rintro e w_406 ⟨rfl, gm_404⟩
  clear p_396 p_397 p_398 p_399 p_400 p_401 p_402 p_403
  have fX0_407 := Lib.hid (kept_app (World.ownsRow.alloc fx1_390.out _) gm_404 (Bx.alloc fX0_385.out _) (by decide))
  have fX1_408 := Lib.hid (kept_app (World.ownsRow.alloc fx1_390.out _) gm_404 (Bx.alloc fX1_386.out _) (by decide))
  have fW_409 := Lib.hid (below_grown (Below.alloc fW_387.out (Below.size fW_387.out) _) (Below.size (Below.alloc fW_387.out (Below.size fW_387.out) _)) (World.ownsRow.alloc fx1_390.out _) hB_112 gm_404)
  have fs0_410 := Lib.hid (World.ownsRow.kept (World.ownsRow.alloc fs0_388.out _) gm_404 ap_113.out)
  have fs1_411 := Lib.hid (World.ownsRow.kept (World.ownsRow.alloc fs1_389.out _) gm_404 ap_115.out)
  have fY1_412 := Lib.hid (kept_app (World.ownsRow.alloc fx1_390.out _) gm_404 (Bx.alloc fY1_391.out _) (by decide))
  have fx2_413 := Lib.hid (World.ownsRow.kept (World.ownsRow.alloc fx2_392.out _) gm_404 ap_149.out)
  have fg0_414 := Lib.hid (World.ownsRow.kept (World.ownsRow.alloc fg0_393.out _) gm_404 ap_217.out)
  have fg1_415 := Lib.hid (World.ownsRow.kept (World.ownsRow.alloc fg1_394.out _) gm_404 ap_225.out)
  clear gm_404 fX0_385 fX1_386 fW_387 fs0_388 fs1_389 fx1_390 fY1_391 fx2_392 fg0_393 fg1_394
  obtain ⟨p_416, p_417, p_418, p_419, _, _, _, _⟩ := fX0_407.out.four
  obtain ⟨p_420, p_421, _, _⟩ := fX1_408.out.two
  obtain ⟨p_422, p_423, _, _⟩ := fY1_412.out.two
  go_wp2_with fail
  refine (l_markIntS _ _ _ _ _ _ _ _ fx2_413.out (by omega) (by omega) (by omega)).mono ?_
  rintro e w_426 ⟨rfl, om_425, gm_424⟩
  clear p_416 p_417 p_418 p_419 p_420 p_421 p_422 p_423
  have fX0_427 := Lib.hid (kept_app fx2_413.out gm_424 (fX0_407.out) (by decide))
  have fX1_428 := Lib.hid (kept_app fx2_413.out gm_424 (fX1_408.out) (by decide))
  have fW_429 := Lib.hid (below_grown (fW_409.out) (Below.size (fW_409.out)) fx2_413.out hB_143 gm_424)
  have fs0_430 := Lib.hid (World.ownsRow.kept (fs0_410.out) gm_424 ap_144.out)
  have fs1_431 := Lib.hid (World.ownsRow.kept (fs1_411.out) gm_424 ap_146.out)
  have fg0_432 := Lib.hid (World.ownsRow.kept (fg0_414.out) gm_424 ap_219.out)
  have fg1_433 := Lib.hid (World.ownsRow.kept (fg1_415.out) gm_424 ap_227.out)
  have fx2_434 := Lib.hid om_425
  clear gm_424 fX0_407 fX1_408 fW_409 fs0_410 fs1_411 fx2_413 fg0_414 fg1_415
  obtain ⟨p_435, p_436, p_437, p_438, _, _, _, _⟩ := fX0_427.out.four
  obtain ⟨p_439, p_440, _, _⟩ := fX1_428.out.two
  have hk_441 : ¬ (1 + 2 * (n1 : Int) + (n2 : Int) < 0) := by omega
  go_wp2_with fail
  refine (l_eqGateS_same _ _ _ _ _ _ _ (RdG.own fg0_432.out) (RdG.own fs0_430.out) (by omega)).mono ?_
  rintro e w_443 ⟨rfl, b_442⟩
  clear p_435 p_436 p_437 p_438 p_439 p_440
  have fX0_444 := Lib.hid (fX0_427.out.below b_442)
  have fX1_445 := Lib.hid (fX1_428.out.below b_442)
  have fW_446 := Lib.hid (below_trans fW_429.out b_442)
  have fs0_447 := Lib.hid (ownsRow_below fs0_430.out b_442)
  have fs1_448 := Lib.hid (ownsRow_below fs1_431.out b_442)
  have fg0_449 := Lib.hid (ownsRow_below fg0_432.out b_442)
  have fg1_450 := Lib.hid (ownsRow_below fg1_433.out b_442)
  clear fX0_427 fX1_428 fW_429 fs0_430 fs1_431 fg0_432 fg1_433 b_442
  obtain ⟨p_451, p_452, p_453, p_454, _, _, _, _⟩ := fX0_444.out.four
  obtain ⟨p_455, p_456, _, _⟩ := fX1_445.out.two
  go_wp2_with fail
  refine (l_eqIntS_same _ _ _ _ _ _ _ (RdI.own fg1_450.out) (RdI.own fs1_448.out) (by omega)).mono ?_
  rintro e w_458 ⟨rfl, b_457⟩
  clear p_451 p_452 p_453 p_454 p_455 p_456
  have fX0_459 := Lib.hid (fX0_444.out.below b_457)
  have fX1_460 := Lib.hid (fX1_445.out.below b_457)
  have fW_461 := Lib.hid (below_trans fW_446.out b_457)
  have fs0_462 := Lib.hid (ownsRow_below fs0_447.out b_457)
  have fs1_463 := Lib.hid (ownsRow_below fs1_448.out b_457)
  have fg0_464 := Lib.hid (ownsRow_below fg0_449.out b_457)
  have fg1_465 := Lib.hid (ownsRow_below fg1_450.out b_457)
  clear fX0_444 fX1_445 fW_446 fs0_447 fs1_448 fg0_449 fg1_450 b_457
  obtain ⟨p_466, p_467, p_468, p_469, _, _, _, _⟩ := fX0_459.out.four
  obtain ⟨p_470, p_471, _, _⟩ := fX1_460.out.two
  clear hk_441
  go_wp2_with fail
  refine (l_markGateS _ _ _ _ _ _ _ _ fg0_464.out (by omega) (by omega) (by omega)).mono ?_
  rintro e w_474 ⟨rfl, om_473, gm_472⟩
  clear p_466 p_467 p_468 p_469 p_470 p_471
  have fX0_475 := Lib.hid (kept_app fg0_464.out gm_472 (fX0_459.out) (by decide))
  have fX1_476 := Lib.hid (kept_app fg0_464.out gm_472 (fX1_460.out) (by decide))
  have fW_477 := Lib.hid (below_grown (fW_461.out) (Below.size (fW_461.out)) fg0_464.out hB_211 gm_472)
  have fs0_478 := Lib.hid (World.ownsRow.kept (fs0_462.out) gm_472 ap_212.out)
  have fs1_479 := Lib.hid (World.ownsRow.kept (fs1_463.out) gm_472 ap_214.out)
  have fg1_480 := Lib.hid (World.ownsRow.kept (fg1_465.out) gm_472 ap_229.out)
  have fg0_481 := Lib.hid om_473
  clear gm_472 fX0_459 fX1_460 fW_461 fs0_462 fs1_463 fg0_464 fg1_465
  obtain ⟨p_482, p_483, p_484, p_485, _, _, _, _⟩ := fX0_475.out.four
  obtain ⟨p_486, p_487, _, _⟩ := fX1_476.out.two
  go_wp2_with fail
  refine (l_markIntS _ _ _ _ _ _ _ _ fg1_480.out (by omega) (by omega) (by omega)).mono ?_
  rintro e w_490 ⟨rfl, om_489, gm_488⟩
  clear p_482 p_483 p_484 p_485 p_486 p_487
  have fX0_491 := Lib.hid (kept_app fg1_480.out gm_488 (fX0_475.out) (by decide))
  have fX1_492 := Lib.hid (kept_app fg1_480.out gm_488 (fX1_476.out) (by decide))
  have fW_493 := Lib.hid (below_grown (fW_477.out) (Below.size (fW_477.out)) fg1_480.out hB_211 gm_488)
  have fs0_494 := Lib.hid (World.ownsRow.kept (fs0_478.out) gm_488 ap_220.out)
  have fs1_495 := Lib.hid (World.ownsRow.kept (fs1_479.out) gm_488 ap_222.out)
  have fg0_496 := Lib.hid (World.ownsRow.kept (fg0_481.out) gm_488 ap_228.out)
  have fg1_497 := Lib.hid om_489
  clear gm_488 fX0_475 fX1_476 fW_477 fs0_478 fs1_479 fg0_481 fg1_480
  obtain ⟨p_498, p_499, p_500, p_501, _, _, _, _⟩ := fX0_491.out.four
  obtain ⟨p_502, p_503, _, _⟩ := fX1_492.out.two
  go_wp2_with fail
  refine (l_heldGateS _ _ _ _ _ (RdG.own fg0_496.out) (by omega) (by omega) (by omega)).mono ?_
  rintro e w_504 ⟨rfl, rfl⟩
  go_wp2_with fail
  refine (l_heldIntS _ _ _ _ _ (RdI.own fg1_497.out) (by omega) (by omega) (by omega)).mono ?_
  rintro e w_505 ⟨rfl, rfl⟩
  clear p_498 p_499 p_500 p_501 p_502 p_503
  obtain ⟨p_506, p_507, p_508, p_509, _, _, _, _⟩ := fX0_491.out.four
  obtain ⟨p_510, p_511, _, _⟩ := fX1_492.out.two
  go_wp2_with fail
  have fX0_512 := Lib.hid (fX0_491.out.drew)
  have fX1_513 := Lib.hid (fX1_492.out.drew)
  have fW_514 := Lib.hid (fW_493.out.drew)
  have fs0_515 := Lib.hid (ownsRow_drew fs0_494.out)
  have fs1_516 := Lib.hid (ownsRow_drew fs1_495.out)
  have fg0_517 := Lib.hid (ownsRow_drew fg0_496.out)
  have fg1_518 := Lib.hid (ownsRow_drew fg1_497.out)
  go_region_held3 (fun w' => w'.cell? ⟨w.heap.size, 0, none⟩ = some (.int .i64 g0.k) ∧ w'.cell? ⟨w.heap.size, 1, none⟩ = some (.int .i64 g0.a) ∧ w'.cell? ⟨w.heap.size, 2, none⟩ = some (.int .i64 g0.b) ∧ w'.cell? ⟨w.heap.size, 3, none⟩ = some (.int .i64 g0.c) ∧ w'.cell? ⟨w.heap.size + 1, 0, none⟩ = some (.int .i64 N1) ∧ w'.cell? ⟨w.heap.size + 1, 1, none⟩ = some (.slice A1 n1 c1))
    (first | go_keep | exact ⟨s_531, s_532, s_533, s_534, s_535, s_536⟩ | exact ⟨s_550, s_551, s_552, s_553, s_554, s_555⟩ | exact ⟨s_570, s_571, s_572, s_573, s_574, s_575⟩ | exact ⟨s_614, s_615, s_616, s_617, s_618, s_619⟩)
    (first
      | (go_at_call 60; (with_reducible refine (l_toGate _ _ _ _ _).mono ?_); rintro e w_523 ⟨rfl, b_522⟩; have fX0_524 := Lib.hid (fX0_512.out.below b_522); have fX1_525 := Lib.hid (fX1_513.out.below b_522); have fW_526 := Lib.hid (below_trans fW_514.out b_522); have fs0_527 := Lib.hid (ownsRow_below fs0_515.out b_522); have fs1_528 := Lib.hid (ownsRow_below fs1_516.out b_522); have fg0_529 := Lib.hid (ownsRow_below fg0_517.out b_522); have fg1_530 := Lib.hid (ownsRow_below fg1_518.out b_522); have ⟨s_531, s_532, s_533, s_534, _, _, _, _⟩ := fX0_524.out.four; have ⟨s_535, s_536, _, _⟩ := fX1_525.out.two)
      | (go_at_call 44; (with_reducible refine (l_toGraph _ _ _ _ _ _ (H1.out.below fW_526.out) hy1).mono ?_); rintro e w_541 ⟨A_537, c_538, rfl, o_539, b_540⟩; have fX0_542 := Lib.hid (fX0_524.out.below b_540); have fX1_543 := Lib.hid (fX1_525.out.below b_540); have fW_544 := Lib.hid (below_trans fW_526.out b_540); have fs0_545 := Lib.hid (ownsRow_below fs0_527.out b_540); have fs1_546 := Lib.hid (ownsRow_below fs1_528.out b_540); have fg0_547 := Lib.hid (ownsRow_below fg0_529.out b_540); have fg1_548 := Lib.hid (ownsRow_below fg1_530.out b_540); have t_549 := Lib.hid o_539; have ⟨s_550, s_551, s_552, s_553, _, _, _, _⟩ := fX0_542.out.four; have ⟨s_554, s_555, _, _⟩ := fX1_543.out.two)
      | (go_at_call 49; (with_reducible refine (l_toIntS _ _ _ _ _ (H2.out.below fW_544.out) hy2).mono ?_); rintro e w_560 ⟨A_556, c_557, rfl, o_558, b_559⟩; have fX0_561 := Lib.hid (fX0_542.out.below b_559); have fX1_562 := Lib.hid (fX1_543.out.below b_559); have fW_563 := Lib.hid (below_trans fW_544.out b_559); have fs0_564 := Lib.hid (ownsRow_below fs0_545.out b_559); have fs1_565 := Lib.hid (ownsRow_below fs1_546.out b_559); have fg0_566 := Lib.hid (ownsRow_below fg0_547.out b_559); have fg1_567 := Lib.hid (ownsRow_below fg1_548.out b_559); have ft1_568 := Lib.hid (ownsRow_below t_549.out b_559); have t_569 := Lib.hid o_558; have ⟨s_570, s_571, s_572, s_573, _, _, _, _⟩ := fX0_561.out.four; have ⟨s_574, s_575, _, _⟩ := fX1_562.out.two)
      | (go_at_call 61; (with_reducible refine (i_RouteGate g0 _ _ _ _ x1 _ _ _ x2 _ (RdP.own ft1_568.out) (by omega) (RdI.own t_569.out) (by omega)).mono ?_); rintro e w_583 ⟨A_577, c_578, A_580, c_581, rfl, o_579, o_582, b_576⟩; rw [HR0.out] at o_579 ⊢; rw [HQ0.out] at o_579 ⊢; rw [HR1.out] at o_582 ⊢; rw [HQ1.out] at o_582 ⊢; have hB_584 := fW_563.out.size; have ap_585 := Lib.hid (own_apart fs0_564.out o_579 (Nat.le_refl _)); have ap_586 := Lib.hid (own_apart_r fs0_564.out o_579 (Nat.le_refl _)); have ap_587 := Lib.hid (own_apart fs1_565.out o_579 (Nat.le_refl _)); have ap_588 := Lib.hid (own_apart_r fs1_565.out o_579 (Nat.le_refl _)); have ap_589 := Lib.hid (own_apart fg0_566.out o_579 (Nat.le_refl _)); have ap_590 := Lib.hid (own_apart_r fg0_566.out o_579 (Nat.le_refl _)); have ap_591 := Lib.hid (own_apart fg1_567.out o_579 (Nat.le_refl _)); have ap_592 := Lib.hid (own_apart_r fg1_567.out o_579 (Nat.le_refl _)); have ap_593 := Lib.hid (own_apart fs0_564.out o_582 (Nat.le_refl _)); have ap_594 := Lib.hid (own_apart_r fs0_564.out o_582 (Nat.le_refl _)); have ap_595 := Lib.hid (own_apart fs1_565.out o_582 (Nat.le_refl _)); have ap_596 := Lib.hid (own_apart_r fs1_565.out o_582 (Nat.le_refl _)); have ap_597 := Lib.hid (own_apart fg0_566.out o_582 (Nat.le_refl _)); have ap_598 := Lib.hid (own_apart_r fg0_566.out o_582 (Nat.le_refl _)); have ap_599 := Lib.hid (own_apart fg1_567.out o_582 (Nat.le_refl _)); have ap_600 := Lib.hid (own_apart_r fg1_567.out o_582 (Nat.le_refl _)); have ap_601 := Lib.hid (own_types o_579 o_582 (by decide)); have ap_602 := Lib.hid (own_types o_582 o_579 (by decide)); have fX0_603 := Lib.hid (fX0_561.out.below b_576); have fX1_604 := Lib.hid (fX1_562.out.below b_576); have fW_605 := Lib.hid (below_trans fW_563.out b_576); have fs0_606 := Lib.hid (ownsRow_below fs0_564.out b_576); have fs1_607 := Lib.hid (ownsRow_below fs1_565.out b_576); have fg0_608 := Lib.hid (ownsRow_below fg0_566.out b_576); have fg1_609 := Lib.hid (ownsRow_below fg1_567.out b_576); have ft1_610 := Lib.hid (ownsRow_below ft1_568.out b_576); have ft2_611 := Lib.hid (ownsRow_below t_569.out b_576); have oh0_612 := Lib.hid o_579; have oh1_613 := Lib.hid o_582; have ⟨s_614, s_615, s_616, s_617, _, _, _, _⟩ := fX0_603.out.four; have ⟨s_618, s_619, _, _⟩ := fX1_604.out.two)
      | fail)
  clear p_506 p_507 p_508 p_509 p_510 p_511
  clear fX0_491 fX1_492 fW_493 fs0_494 fs1_495 fg0_496 fg1_497
  obtain ⟨p_620, p_621, p_622, p_623, _, _, _, _⟩ := fX0_603.out.four
  obtain ⟨p_624, p_625, _, _⟩ := fX1_604.out.two
  go_wp2_with fail
  refine (l_eqGateS_same _ _ _ _ _ _ _ (RdG.own oh0_612.out) (RdG.own fs0_606.out) (by omega)).mono ?_
  rintro e w_627 ⟨rfl, b_626⟩
  clear p_620 p_621 p_622 p_623 p_624 p_625
  have fX0_628 := Lib.hid (fX0_603.out.below b_626)
  have fX1_629 := Lib.hid (fX1_604.out.below b_626)
  have fW_630 := Lib.hid (below_trans fW_605.out b_626)
  have fs0_631 := Lib.hid (ownsRow_below fs0_606.out b_626)
  have fs1_632 := Lib.hid (ownsRow_below fs1_607.out b_626)
  have fg0_633 := Lib.hid (ownsRow_below fg0_608.out b_626)
  have fg1_634 := Lib.hid (ownsRow_below fg1_609.out b_626)
  have fh0_635 := Lib.hid (ownsRow_below oh0_612.out b_626)
  have fh1_636 := Lib.hid (ownsRow_below oh1_613.out b_626)
  clear fX0_603 fX1_604 fW_605 fs0_606 fs1_607 fg0_608 fg1_609 oh0_612 oh1_613 b_626
  obtain ⟨p_637, p_638, p_639, p_640, _, _, _, _⟩ := fX0_628.out.four
  obtain ⟨p_641, p_642, _, _⟩ := fX1_629.out.two
  go_wp2_with fail
  refine (l_eqIntS_same _ _ _ _ _ _ _ (RdI.own fh1_636.out) (RdI.own fs1_632.out) (by omega)).mono ?_
  rintro e w_644 ⟨rfl, b_643⟩
  clear p_637 p_638 p_639 p_640 p_641 p_642
  have fX0_645 := Lib.hid (fX0_628.out.below b_643)
  have fX1_646 := Lib.hid (fX1_629.out.below b_643)
  have fW_647 := Lib.hid (below_trans fW_630.out b_643)
  have fs0_648 := Lib.hid (ownsRow_below fs0_631.out b_643)
  have fs1_649 := Lib.hid (ownsRow_below fs1_632.out b_643)
  have fg0_650 := Lib.hid (ownsRow_below fg0_633.out b_643)
  have fg1_651 := Lib.hid (ownsRow_below fg1_634.out b_643)
  have fh0_652 := Lib.hid (ownsRow_below fh0_635.out b_643)
  have fh1_653 := Lib.hid (ownsRow_below fh1_636.out b_643)
  clear fX0_628 fX1_629 fW_630 fs0_631 fs1_632 fg0_633 fg1_634 fh0_635 fh1_636 b_643
  obtain ⟨p_654, p_655, p_656, p_657, _, _, _, _⟩ := fX0_645.out.four
  obtain ⟨p_658, p_659, _, _⟩ := fX1_646.out.two
  go_wp2_with fail
  refine (l_heldGateS _ _ _ _ _ (RdG.own fg0_650.out) (by omega) (by omega) (by omega)).mono ?_
  rintro e w_660 ⟨rfl, rfl⟩
  go_wp2_with fail
  refine (l_heldIntS _ _ _ _ _ (RdI.own fg1_651.out) (by omega) (by omega) (by omega)).mono ?_
  rintro e w_661 ⟨rfl, rfl⟩
  go_wp2_with fail
  go_ret
  exact ⟨rfl, fW_647.out⟩

theorem own : ownKnob Try.prog.godebug = none := by kernel_rfl
theorem laidOut : laidOutB Try.prog = true := by kernel_rfl
set_option maxRecDepth 100000 in
theorem lifted (os : Os) (started : os.Started) (H : Type) (enc : TypeId × Value → H) :
    ReturnsInHanded {} Try.checked os 12 .any (Rows.fnExactRouteGateSpec.pre6 enc Try.prog Try.f12 Rows.fnExactRouteGateRow.domain false) (Rows.fnExactRouteGateSpec.post enc Try.prog Try.f12 false true false false) := by
  refine returnsInHanded_of_change (C := Try.checked) own started (by kernel_rfl) Try.func12
    (ChangeSpec.witness6 (enc := enc) (C := Try.checked) false ⟨#[], #[.agg #[.int .i64 0, .int .i64 0, .int .i64 0, .int .i64 0], .agg #[.int .i64 0, .slice none 0 0], .slice none 0 0], []⟩ 8 (by kernel_rfl) (by kernel_rfl) (by kernel_rfl) (by kernel_rfl)) ?_
  intro W base args ds gs before hval0 hW hcnd _
  have hval : ∀ (j : Nat) t v, Try.f12.params[j]? = some t → args[j]? = some v → Value.okWide Try.prog W .any base t v := hval0
  have hW' := hW
  obtain ⟨p, q, hA0, hV, rfl, hfz, hnd⟩ := hW
  have hA : DataW.TrodAll enc Try.prog W 0 (fun _ => true) true Try.f12.params.toList args.toList ds p := hA0
  rw [Try.params12] at hA hval
  obtain ⟨v0, vs0, d0, ds0, p0, q0, hargs, rfl, rfl, h0, t0⟩ := trodAll_cons hA
  obtain ⟨v1, vs1, d1, ds1, p1, q1, rfl, rfl, rfl, h1, t1⟩ := trodAll_cons t0
  obtain ⟨v2, vs2, d2, ds2, p2, q2, rfl, rfl, rfl, h2, t2⟩ := trodAll_cons t1
  obtain ⟨rfl, rfl, rfl⟩ := trodAll_nil t2
  obtain rfl : args = #[v0, v1, v2] := by cases args; simp_all
  obtain ⟨rfl, rfl⟩ := trodVars_none hV
  have k0 := h0
  have lt0 : ∀ x ∈ p0, x.block < W.heap.size := by obtain ⟨m, hm⟩ := k0; exact DataW.trod_lt m _ _ _ hm
  obtain ⟨y0, y1, y2, y3, e0, e1, e2, e3, fu0, rfl, rfl, _, g0, g1, g2, g3⟩ := Joins.open_agg4 Try.underlying69 (by kernel_rfl) (by kernel_rfl) (hval 0 69 v0 rfl rfl) h0
  obtain ⟨z00, f0, _, w00⟩ := DataW.trod_int Try.underlying3 g0
  simp only [List.cons.injEq, and_true] at f0
  subst f0
  obtain ⟨z01, f1, _, w01⟩ := DataW.trod_int Try.underlying3 g1
  simp only [List.cons.injEq, and_true] at f1
  subst f1
  obtain ⟨z02, f2, _, w02⟩ := DataW.trod_int Try.underlying3 g2
  simp only [List.cons.injEq, and_true] at f2
  subst f2
  obtain ⟨z03, f3, _, w03⟩ := DataW.trod_int Try.underlying3 g3
  simp only [List.cons.injEq, and_true] at f3
  subst f3
  clear g0 g1 g2 g3
  have k1 := h1
  have lt1 : ∀ x ∈ p1, x.block < W.heap.size := by obtain ⟨m, hm⟩ := k1; exact DataW.trod_lt m _ _ _ hm
  obtain ⟨y0, y1, e0, e1, fu1, rfl, rfl, _, g0, g1⟩ := Joins.open_agg2 Try.underlying49 (by kernel_rfl) (by kernel_rfl) (hval 1 49 v1 rfl rfl) h1
  obtain ⟨N1, f0, _, w1⟩ := DataW.trod_int Try.underlying3 g0
  simp only [List.cons.injEq, and_true] at f0
  subst f0
  obtain ⟨A1, n1, c1, x1, rfl, r1, l1, m1, ok1⟩ := open_pairs Try.underlying47 Try.underlying111 (by kernel_rfl) (by kernel_rfl) Try.underlying3 Try.underlying3 g1
  clear g0 g1
  have k2 := h2
  have lt2 : ∀ x ∈ p2, x.block < W.heap.size := by obtain ⟨m, hm⟩ := k2; exact DataW.trod_lt m _ _ _ hm
  obtain ⟨A2, n2, c2, rfl⟩ := okWide_slice Try.underlying31 (hval 2 31 v2 rfl rfl)
  obtain ⟨fu2, hf2⟩ := h2
  obtain ⟨_, _, _, x2, e2, r2, l2, m2, ok2⟩ := open_nums Try.underlying31 Try.underlying3 (by kernel_rfl) hf2
  simp only [Value.slice.injEq] at e2
  obtain ⟨rfl, rfl, rfl⟩ := e2
  clear hA0 hval0
  refine (walk ⟨z00, z01, z02, z03⟩ N1 A1 n1 c1 x1 A2 n2 c2 x2 W ⟨i64_of_wf w00, i64_of_wf w01, i64_of_wf w02, i64_of_wf w03⟩ (i64_of_wf w1) r1 l1 m1 ok1 r2 l2 m2 ok2).mono fun e W' ⟨he, bel⟩ => ?_
  subst he
  exact ⟨_, rfl, _, _, _, [], _, [], hW', trodAll_mk1 (shut_bool Try.underlying4 _), (trodAll_cons_mk (Below.trod laidOut (by kernel_rfl) (of_decide_eq_true (by kernel_rfl)) k0 bel lt0) (trodAll_cons_mk (Below.trod laidOut (by kernel_rfl) (of_decide_eq_true (by kernel_rfl)) k1 bel lt1) (trodAll_cons_mk (Below.trod laidOut (by kernel_rfl) (of_decide_eq_true (by kernel_rfl)) k2 bel lt2) trodAll_mk0))), rfl, bel.frame _, fun h => by cases h⟩

theorem over : Rows.fnExactRouteGateRow.holds Try.pinned (OpenSpec.ofChange Rows.fnExactRouteGateSpec) :=
  OpenClaim.holds_of_wide 12 Try.f12 rfl rfl rfl rfl rfl rfl rfl ⟨rfl, rfl, rfl, rfl, rfl⟩ rfl rfl rfl rfl rfl (by kernel_rfl) Try.func12 (by kernel_rfl)
    (of_decide_eq_true (by kernel_rfl)) (by unfold Func.isWrapper; first | (rw [if_pos (by decide +kernel)]; kernel_rfl) | (rw [if_neg (by decide +kernel)]; exact ⟨rfl, rfl⟩))
    (fun os started H enc _ => lifted os started H enc)

theorem proved : Rows.FnExactRouteGateSaid := over
#print axioms proved
end Go.Proofs.Ythijgdpnodiceaa.fnExactRouteGate
