/- The law FnExactChooseLayout returns true for every input. No condition. -/
import Derived.Test.YthijgdpnodiceaaRows
import Derived.Test.YthijgdpnodiceaaGateT
import Derived.Test.YthijgdpnodiceaaIntS
import Derived.Test.YthijgdpnodiceaaGraphM
import Derived.Test.YthijgdpnodiceaaSzX
import Derived.Test.YthijgdpnodiceaaPairN
import Derived.Test.YthijgdpnodiceaaOpen
import Derived.Test.YthijgdpnodiceaaChoose
import Derived.Deep.RegionHeld3
import Derived.ChangeOld
namespace Go.Proofs.Ythijgdpnodiceaa.fnExactChooseLayout
open Go.ChangeShapes Go.WideShapes Go.ChangeAt Go.RowKit
set_option linter.unusedVariables false

theorem pick_len (f : List Int → Int) : ∀ (l : List (List Int)) (best : List Int) (least : Int), best.length ≤ 4 → (∀ x ∈ l, x.length ≤ 4) → (pick f l best least).length ≤ 4
  | [], best, _, h, _ => h
  | p :: r, best, least, h, hl => by
    rw [pick]
    split
    · exact pick_len f r p _ (hl p (by simp)) (fun x hx => hl x (by simp [hx]))
    · exact pick_len f r best _ h (fun x hx => hl x (by simp [hx]))
theorem choose_len (ps : List (Int × Int)) (N : Int) (gs : List Gt) : (choose ps N gs).length ≤ 1073741824 := by
  have := pick_len (fun z => layCost ps N z gs) (perms N) [] (-1) (by simp) (fun x hx => (perms_row N x hx).2)
  unfold choose; omega

set_option maxRecDepth 100000 in
set_option maxHeartbeats 6400000 in
theorem walk (A0 : Option Addr) (n0 c0 : Nat) (x0 : List Gt) (N1 : Int) (A1 : Option Addr) (n1 c1 : Nat) (x1 : List (Int × Int)) (w : World) (r0 : RdG w A0 n0 x0) (l0 : n0 ≤ c0) (m0 : c0 ≤ maxLen) (ok0 : ∀ g ∈ x0, g.ok) (i1 : I64 N1) (r1 : RdP w A1 n1 x1) (l1 : n1 ≤ c1) (m1 : c1 ≤ maxLen) (ok1 : ∀ p ∈ x1, I64 p.1 ∧ I64 p.2) :
    Calls Try.prog 10 #[.slice A0 n0 c0, .agg #[.int .i64 N1, .slice A1 n1 c1]] w fun e w' => e = .returned (.bool true) ∧ Below w.heap.size w w' := by
  unfold maxLen at m0 m1
  have H0 := Lib.hid r0
  have hl0 := r0.1
  have H1 := Lib.hid r1
  have hl1 := r1.1
  obtain ⟨R0, hR0⟩ : ∃ R, choose x1 N1 x0 = R := ⟨_, rfl⟩
  have HR0 := Lib.hid hR0
  obtain ⟨q0, hq0⟩ : ∃ q, R0.length = q := ⟨_, rfl⟩
  have HQ0 := Lib.hid hq0
  clear r0 ok0 i1 r1 ok1
  have X1 := Lib.hid (show Bx (w.alloc (.cells #[.int .i64 N1, .slice A1 n1 c1] 49)) (w.heap.size) 49 #[.int .i64 N1, .slice A1 n1 c1] from Bx.new w _ _)
  have BW := Lib.hid (show Below w.heap.size w (w.alloc (.cells #[.int .i64 N1, .slice A1 n1 c1] 49)) from (Below.refl _ _).alloc (by simp <;> omega) _)
  by_cases hz0 : n0 ≤ 1048576
  rotate_left
  · skip
    go_enter Try.func10, Try.ntmps10
    go_wp2_with fail
    refine (l_szGateS _ _ _ (by omega) _).mono ?_
    rintro e wf_1 ⟨rfl, rfl⟩
    rw [if_neg (by omega)]
    go_wp2_with fail
    go_ret
    exact ⟨rfl, BW.out⟩
  by_cases hz1 : (n1 : Int) ≤ 1048576 - n0
  rotate_left
  · skip
    go_enter Try.func10, Try.ntmps10
    go_wp2_with fail
    refine (l_szGateS _ _ _ (by omega) _).mono ?_
    rintro e wf_2 ⟨rfl, rfl⟩
    rw [if_pos hz0]
    go_wp2_with fail
    refine (l_szGraphx _ _ _ _ _ (by omega) (by omega) (by omega) _).mono ?_
    rintro e wf_3 ⟨rfl, bf_4⟩
    rw [if_neg (by omega)]
    have fX1_5 := Lib.hid (X1.out.below bf_4)
    have fW_6 := Lib.hid (below_trans BW.out bf_4)
    obtain ⟨p_7, p_8, _, _⟩ := fX1_5.out.two
    go_wp2_with fail
    go_ret
    exact ⟨rfl, fW_6.out⟩
  go_enter Try.func10, Try.ntmps10
  go_wp2_with fail
  refine (l_szGateS _ _ _ (by omega) _).mono ?_
  rintro e wa_9 ⟨rfl, rfl⟩
  rw [if_pos hz0]
  go_wp2_with fail
  refine (l_szGraphx _ _ _ _ _ (by omega) (by omega) (by omega) _).mono ?_
  rintro e wa_10 ⟨rfl, b_11⟩
  rw [if_pos hz1]
  have fX1_12 := Lib.hid (X1.out.below b_11)
  have fW_13 := Lib.hid (below_trans BW.out b_11)
  clear X1 BW b_11
  obtain ⟨p_14, p_15, _, _⟩ := fX1_12.out.two
  have hy0 : n0 ≤ 1048576 := hz0
  have hy1 : n1 ≤ 1048576 := by omega
  have hlen0 : q0 ≤ 1073741824 := by rw [← hq0, ← hR0]; exact (choose_len x1 N1 x0)
  clear hq0
  clear hR0
  clear hl0
  clear hl1
  clear p_14 p_15
  obtain ⟨p_16, p_17, _, _⟩ := fX1_12.out.two
  go_wp2_with fail
  have fX1_18 := Lib.hid (fX1_12.out.drew)
  have fW_19 := Lib.hid (fW_13.out.drew)
  go_region_held3 (fun w' => w'.cell? ⟨w.heap.size, 0, none⟩ = some (.int .i64 N1) ∧ w'.cell? ⟨w.heap.size, 1, none⟩ = some (.slice A1 n1 c1))
    (first | go_keep | exact ⟨s_28, s_29⟩ | exact ⟨s_39, s_40⟩ | exact ⟨s_52, s_53⟩)
    (first
      | (go_at_call 43; (with_reducible refine (l_toGateS _ _ _ _ _ (H0.out.below fW_19.out) hy0).mono ?_); rintro e w_24 ⟨A_20, c_21, rfl, o_22, b_23⟩; have fX1_25 := Lib.hid (fX1_18.out.below b_23); have fW_26 := Lib.hid (below_trans fW_19.out b_23); have t_27 := Lib.hid o_22; have ⟨s_28, s_29, _, _⟩ := fX1_25.out.two)
      | (go_at_call 44; (with_reducible refine (l_toGraph _ _ _ _ _ _ (H1.out.below fW_26.out) hy1).mono ?_); rintro e w_34 ⟨A_30, c_31, rfl, o_32, b_33⟩; have fX1_35 := Lib.hid (fX1_25.out.below b_33); have fW_36 := Lib.hid (below_trans fW_26.out b_33); have ft0_37 := Lib.hid (ownsRow_below t_27.out b_33); have t_38 := Lib.hid o_32; have ⟨s_39, s_40, _, _⟩ := fX1_35.out.two)
      | (go_at_call 52; (with_reducible refine (s_ChooseLayout _ _ _ _ _ _ _ _ _ _ (RdG.own ft0_37.out) (by omega) (RdP.own t_38.out) (by omega)).mono ?_); rintro e w_45 ⟨A_42, c_43, rfl, o_44, b_41⟩; rw [HR0.out] at o_44 ⊢; rw [HQ0.out] at o_44 ⊢; have hB_46 := fW_36.out.size; have fX1_47 := Lib.hid (fX1_35.out.below b_41); have fW_48 := Lib.hid (below_trans fW_36.out b_41); have ft0_49 := Lib.hid (ownsRow_below ft0_37.out b_41); have ft1_50 := Lib.hid (ownsRow_below t_38.out b_41); have os0_51 := Lib.hid o_44; have ⟨s_52, s_53, _, _⟩ := fX1_47.out.two)
      | fail)
  clear p_16 p_17
  clear fX1_12 fW_13
  obtain ⟨p_54, p_55, _, _⟩ := fX1_47.out.two
  go_wp2_with fail
  refine (l_toGateS _ _ _ _ _ (H0.out.below fW_48.out) hy0).mono ?_
  rintro e w_60 ⟨A_56, c_57, rfl, o_58, b_59⟩
  have hB_61 := fW_48.out.size
  have ap_62 := Lib.hid (own_apart os0_51.out o_58 (Nat.le_refl _))
  have ap_63 := Lib.hid (own_apart_r os0_51.out o_58 (Nat.le_refl _))
  have fX1_64 := Lib.hid (fX1_47.out.below b_59)
  have fW_65 := Lib.hid (below_trans fW_48.out b_59)
  have fs0_66 := Lib.hid (ownsRow_below os0_51.out b_59)
  have ox_67 := Lib.hid o_58
  clear fX1_47 fW_48 os0_51 o_58 b_59
  clear p_54 p_55
  obtain ⟨p_68, p_69, _, _⟩ := fX1_64.out.two
  go_wp2_with fail
  refine (l_toGraph _ _ _ _ _ _ (H1.out.below fW_65.out) hy1).mono ?_
  rintro e w_74 ⟨A_70, c_71, rfl, o_72, b_73⟩
  have hB_75 := fW_65.out.size
  have ap_76 := Lib.hid (own_apart fs0_66.out o_72 (Nat.le_refl _))
  have ap_77 := Lib.hid (own_apart_r fs0_66.out o_72 (Nat.le_refl _))
  have ap_78 := Lib.hid (own_apart ox_67.out o_72 (Nat.le_refl _))
  have ap_79 := Lib.hid (own_apart_r ox_67.out o_72 (Nat.le_refl _))
  have fX1_80 := Lib.hid (fX1_64.out.below b_73)
  have fW_81 := Lib.hid (below_trans fW_65.out b_73)
  have fs0_82 := Lib.hid (ownsRow_below fs0_66.out b_73)
  have fx0_83 := Lib.hid (ownsRow_below ox_67.out b_73)
  have ox_84 := Lib.hid o_72
  clear fX1_64 fW_65 fs0_66 ox_67 o_72 b_73
  have Y_85 := Lib.hid (Bx.new w_74 38 #[.int .i64 N1, .slice A_70 n1 c_71])
  have fX1_86 := Lib.hid (fX1_80.out.alloc (.cells #[.int .i64 N1, .slice A_70 n1 c_71] 38))
  have fW_87 := Lib.hid (Below.alloc fW_81.out (fW_81.out.size) (.cells #[.int .i64 N1, .slice A_70 n1 c_71] 38))
  have fs0_88 := Lib.hid (World.ownsRow.alloc fs0_82.out (.cells #[.int .i64 N1, .slice A_70 n1 c_71] 38))
  have fx0_89 := Lib.hid (World.ownsRow.alloc fx0_83.out (.cells #[.int .i64 N1, .slice A_70 n1 c_71] 38))
  have fx1_90 := Lib.hid (World.ownsRow.alloc ox_84.out (.cells #[.int .i64 N1, .slice A_70 n1 c_71] 38))
  clear fX1_80 fW_81 fs0_82 fx0_83 ox_84
  clear p_68 p_69
  obtain ⟨p_91, p_92, _, _⟩ := fX1_86.out.two
  obtain ⟨p_93, p_94, _, _⟩ := Y_85.out.two
  go_wp2_with fail
  refine (i_ChooseLayout _ _ _ _ _ _ _ _ _ _ (RdG.own fx0_89.out) (by omega) (RdP.own fx1_90.out) (by omega)).mono ?_
  rintro e w_99 ⟨A_96, c_97, rfl, o_98, b_95⟩
  rw [HR0.out] at o_98 ⊢
  rw [HQ0.out] at o_98 ⊢
  clear p_91 p_92 p_93 p_94
  have hB_100 := fW_87.out.size
  have ap_101 := Lib.hid (own_apart fs0_88.out o_98 (by simp <;> omega))
  have ap_102 := Lib.hid (own_apart_r fs0_88.out o_98 (by simp <;> omega))
  have ap_103 := Lib.hid (own_apart fx0_89.out o_98 (by simp <;> omega))
  have ap_104 := Lib.hid (own_apart_r fx0_89.out o_98 (by simp <;> omega))
  have ap_105 := Lib.hid (own_apart fx1_90.out o_98 (by simp <;> omega))
  have ap_106 := Lib.hid (own_apart_r fx1_90.out o_98 (by simp <;> omega))
  have fX1_107 := Lib.hid (fX1_86.out.below b_95)
  have fW_108 := Lib.hid (below_trans fW_87.out b_95)
  have fs0_109 := Lib.hid (ownsRow_below fs0_88.out b_95)
  have fx0_110 := Lib.hid (ownsRow_below fx0_89.out b_95)
  have fx1_111 := Lib.hid (ownsRow_below fx1_90.out b_95)
  have fY1_112 := Lib.hid (Y_85.out.below b_95)
  have og0_113 := Lib.hid o_98
  clear fX1_86 fW_87 fs0_88 fx0_89 fx1_90 Y_85
  obtain ⟨p_114, p_115, _, _⟩ := fX1_107.out.two
  obtain ⟨p_116, p_117, _, _⟩ := fY1_112.out.two
  go_wp2_with fail
  refine (l_eqIntS_same _ _ _ _ _ _ _ (RdI.own og0_113.out) (RdI.own fs0_109.out) (by omega)).mono ?_
  rintro e w_119 ⟨rfl, b_118⟩
  clear p_114 p_115 p_116 p_117
  have fX1_120 := Lib.hid (fX1_107.out.below b_118)
  have fW_121 := Lib.hid (below_trans fW_108.out b_118)
  have fs0_122 := Lib.hid (ownsRow_below fs0_109.out b_118)
  have fx0_123 := Lib.hid (ownsRow_below fx0_110.out b_118)
  have fx1_124 := Lib.hid (ownsRow_below fx1_111.out b_118)
  have fY1_125 := Lib.hid (fY1_112.out.below b_118)
  have fg0_126 := Lib.hid (ownsRow_below og0_113.out b_118)
  clear fX1_107 fW_108 fs0_109 fx0_110 fx1_111 fY1_112 og0_113 b_118
  obtain ⟨p_127, p_128, _, _⟩ := fX1_120.out.two
  obtain ⟨p_129, p_130, _, _⟩ := fY1_125.out.two
  go_wp2_with fail
  refine (l_toGateS _ _ _ _ _ (H0.out.below fW_121.out) hy0).mono ?_
  rintro e w_135 ⟨A_131, c_132, rfl, o_133, b_134⟩
  clear p_127 p_128 p_129 p_130
  have fX1_136 := Lib.hid (fX1_120.out.below b_134)
  have fW_137 := Lib.hid (below_trans fW_121.out b_134)
  have fs0_138 := Lib.hid (ownsRow_below fs0_122.out b_134)
  have fx0_139 := Lib.hid (ownsRow_below fx0_123.out b_134)
  have fx1_140 := Lib.hid (ownsRow_below fx1_124.out b_134)
  have fY1_141 := Lib.hid (fY1_125.out.below b_134)
  have fg0_142 := Lib.hid (ownsRow_below fg0_126.out b_134)
  have t_143 := Lib.hid o_133
  clear fX1_120 fW_121 fs0_122 fx0_123 fx1_124 fY1_125 fg0_126 o_133 b_134
  obtain ⟨p_144, p_145, _, _⟩ := fX1_136.out.two
  obtain ⟨p_146, p_147, _, _⟩ := fY1_141.out.two
  go_wp2_with fail
  refine (l_eqGateS_same _ _ _ _ _ _ _ (RdG.own fx0_139.out) (RdG.own t_143.out) (by omega)).mono ?_
  rintro e w_149 ⟨rfl, b_148⟩
  clear p_144 p_145 p_146 p_147
  have fX1_150 := Lib.hid (fX1_136.out.below b_148)
  have fW_151 := Lib.hid (below_trans fW_137.out b_148)
  have fs0_152 := Lib.hid (ownsRow_below fs0_138.out b_148)
  have fx0_153 := Lib.hid (ownsRow_below fx0_139.out b_148)
  have fx1_154 := Lib.hid (ownsRow_below fx1_140.out b_148)
  have fY1_155 := Lib.hid (fY1_141.out.below b_148)
  have fg0_156 := Lib.hid (ownsRow_below fg0_142.out b_148)
  have ft_157 := Lib.hid (ownsRow_below t_143.out b_148)
  clear fX1_136 fW_137 fs0_138 fx0_139 fx1_140 fY1_141 fg0_142 t_143 b_148
  obtain ⟨p_158, p_159, _, _⟩ := fX1_150.out.two
  obtain ⟨p_160, p_161, _, _⟩ := fY1_155.out.two
  clear p_158 p_159 p_160 p_161
  obtain ⟨p_162, p_163, _, _⟩ := fX1_150.out.two
  obtain ⟨p_164, p_165, _, _⟩ := fY1_155.out.two
  go_wp2_with fail
  have fX1_166 := Lib.hid (fX1_150.out.drew)
  have fW_167 := Lib.hid (fW_151.out.drew)
  have fs0_168 := Lib.hid (ownsRow_drew fs0_152.out)
  have fx0_169 := Lib.hid (ownsRow_drew fx0_153.out)
  have fx1_170 := Lib.hid (ownsRow_drew fx1_154.out)
  have fY1_171 := Lib.hid (fY1_155.out.drew)
  have fg0_172 := Lib.hid (ownsRow_drew fg0_156.out)
  go_region_held3 (fun w' => w'.cell? ⟨w.heap.size, 0, none⟩ = some (.int .i64 N1) ∧ w'.cell? ⟨w.heap.size, 1, none⟩ = some (.slice A1 n1 c1) ∧ w'.cell? ⟨w_74.heap.size, 0, none⟩ = some (.int .i64 N1) ∧ w'.cell? ⟨w_74.heap.size, 1, none⟩ = some (.slice A_70 n1 c_71))
    (first | go_keep | exact ⟨s_186, s_187, s_188, s_189⟩ | exact ⟨s_200, s_201, s_202, s_203⟩)
    (first
      | (go_at_call 44; (with_reducible refine (l_toGraph _ _ _ _ _ _ (H1.out.below fW_167.out) hy1).mono ?_); rintro e w_177 ⟨A_173, c_174, rfl, o_175, b_176⟩; have fX1_178 := Lib.hid (fX1_166.out.below b_176); have fW_179 := Lib.hid (below_trans fW_167.out b_176); have fs0_180 := Lib.hid (ownsRow_below fs0_168.out b_176); have fx0_181 := Lib.hid (ownsRow_below fx0_169.out b_176); have fx1_182 := Lib.hid (ownsRow_below fx1_170.out b_176); have fY1_183 := Lib.hid (fY1_171.out.below b_176); have fg0_184 := Lib.hid (ownsRow_below fg0_172.out b_176); have t_185 := Lib.hid o_175; have ⟨s_186, s_187, _, _⟩ := fX1_178.out.two; have ⟨s_188, s_189, _, _⟩ := fY1_183.out.two)
      | (go_at_call 47; (with_reducible refine (l_eqGraph_same _ _ _ _ _ _ _ _ (RdP.own fx1_182.out) (RdP.own t_185.out) (by omega)).mono ?_); rintro e w_191 ⟨rfl, b_190⟩; have fX1_192 := Lib.hid (fX1_178.out.below b_190); have fW_193 := Lib.hid (below_trans fW_179.out b_190); have fs0_194 := Lib.hid (ownsRow_below fs0_180.out b_190); have fx0_195 := Lib.hid (ownsRow_below fx0_181.out b_190); have fx1_196 := Lib.hid (ownsRow_below fx1_182.out b_190); have fY1_197 := Lib.hid (fY1_183.out.below b_190); have fg0_198 := Lib.hid (ownsRow_below fg0_184.out b_190); have ft_199 := Lib.hid (ownsRow_below t_185.out b_190); have ⟨s_200, s_201, _, _⟩ := fX1_192.out.two; have ⟨s_202, s_203, _, _⟩ := fY1_197.out.two)
      | fail)
  clear p_162 p_163 p_164 p_165
  clear fX1_150 fW_151 fs0_152 fx0_153 fx1_154 fY1_155 fg0_156
  obtain ⟨p_204, p_205, _, _⟩ := fX1_192.out.two
  obtain ⟨p_206, p_207, _, _⟩ := fY1_197.out.two
  go_wp2_with fail
  refine (l_markGateS _ _ _ _ _ _ _ _ fx0_195.out (by omega) (by omega) (by omega)).mono ?_
  rintro e w_210 ⟨rfl, om_209, gm_208⟩
  clear p_204 p_205 p_206 p_207
  have fX1_211 := Lib.hid (kept_app fx0_195.out gm_208 (fX1_192.out) (by decide))
  have fW_212 := Lib.hid (below_grown (fW_193.out) (Below.size (fW_193.out)) fx0_195.out hB_61 gm_208)
  have fs0_213 := Lib.hid (World.ownsRow.kept (fs0_194.out) gm_208 ap_62.out)
  have fx1_214 := Lib.hid (World.ownsRow.kept (fx1_196.out) gm_208 ap_79.out)
  have fY1_215 := Lib.hid (kept_app fx0_195.out gm_208 (fY1_197.out) (by decide))
  have fg0_216 := Lib.hid (World.ownsRow.kept (fg0_198.out) gm_208 ap_104.out)
  have fx0_217 := Lib.hid om_209
  clear gm_208 fX1_192 fW_193 fs0_194 fx0_195 fx1_196 fY1_197 fg0_198
  obtain ⟨p_218, p_219, _, _⟩ := fX1_211.out.two
  obtain ⟨p_220, p_221, _, _⟩ := fY1_215.out.two
  go_wp2_with fail
  refine (l_markGraph _ _ _ _ _ _ _ _ fx1_214.out (by omega) (by omega) (by omega)).mono ?_
  rintro e w_224 ⟨rfl, gm_222⟩
  clear p_218 p_219 p_220 p_221
  have fX1_225 := Lib.hid (kept_app (World.ownsRow.alloc fx1_214.out _) gm_222 (Bx.alloc fX1_211.out _) (by decide))
  have fW_226 := Lib.hid (below_grown (Below.alloc fW_212.out (Below.size fW_212.out) _) (Below.size (Below.alloc fW_212.out (Below.size fW_212.out) _)) (World.ownsRow.alloc fx1_214.out _) hB_75 gm_222)
  have fs0_227 := Lib.hid (World.ownsRow.kept (World.ownsRow.alloc fs0_213.out _) gm_222 ap_76.out)
  have fx0_228 := Lib.hid (World.ownsRow.kept (World.ownsRow.alloc fx0_217.out _) gm_222 ap_78.out)
  have fY1_229 := Lib.hid (kept_app (World.ownsRow.alloc fx1_214.out _) gm_222 (Bx.alloc fY1_215.out _) (by decide))
  have fg0_230 := Lib.hid (World.ownsRow.kept (World.ownsRow.alloc fg0_216.out _) gm_222 ap_106.out)
  clear gm_222 fX1_211 fW_212 fs0_213 fx0_217 fx1_214 fY1_215 fg0_216
  obtain ⟨p_231, p_232, _, _⟩ := fX1_225.out.two
  obtain ⟨p_233, p_234, _, _⟩ := fY1_229.out.two
  have hk_235 : ¬ (1 + 4 * (n0 : Int) + 2 * (n1 : Int) < 0) := by omega
  go_wp2_with fail
  refine (l_eqIntS_same _ _ _ _ _ _ _ (RdI.own fg0_230.out) (RdI.own fs0_227.out) (by omega)).mono ?_
  rintro e w_237 ⟨rfl, b_236⟩
  clear p_231 p_232 p_233 p_234
  have fX1_238 := Lib.hid (fX1_225.out.below b_236)
  have fW_239 := Lib.hid (below_trans fW_226.out b_236)
  have fs0_240 := Lib.hid (ownsRow_below fs0_227.out b_236)
  have fg0_241 := Lib.hid (ownsRow_below fg0_230.out b_236)
  clear fX1_225 fW_226 fs0_227 fg0_230 b_236
  obtain ⟨p_242, p_243, _, _⟩ := fX1_238.out.two
  clear hk_235
  go_wp2_with fail
  refine (l_markIntS _ _ _ _ _ _ _ _ fg0_241.out (by omega) (by omega) (by omega)).mono ?_
  rintro e w_246 ⟨rfl, om_245, gm_244⟩
  clear p_242 p_243
  have fX1_247 := Lib.hid (kept_app fg0_241.out gm_244 (fX1_238.out) (by decide))
  have fW_248 := Lib.hid (below_grown (fW_239.out) (Below.size (fW_239.out)) fg0_241.out hB_100 gm_244)
  have fs0_249 := Lib.hid (World.ownsRow.kept (fs0_240.out) gm_244 ap_101.out)
  have fg0_250 := Lib.hid om_245
  clear gm_244 fX1_238 fW_239 fs0_240 fg0_241
  obtain ⟨p_251, p_252, _, _⟩ := fX1_247.out.two
  go_wp2_with fail
  refine (l_heldIntS _ _ _ _ _ (RdI.own fg0_250.out) (by omega) (by omega) (by omega)).mono ?_
  rintro e w_253 ⟨rfl, rfl⟩
  clear p_251 p_252
  obtain ⟨p_254, p_255, _, _⟩ := fX1_247.out.two
  go_wp2_with fail
  have fX1_256 := Lib.hid (fX1_247.out.drew)
  have fW_257 := Lib.hid (fW_248.out.drew)
  have fs0_258 := Lib.hid (ownsRow_drew fs0_249.out)
  have fg0_259 := Lib.hid (ownsRow_drew fg0_250.out)
  go_region_held3 (fun w' => w'.cell? ⟨w.heap.size, 0, none⟩ = some (.int .i64 N1) ∧ w'.cell? ⟨w.heap.size, 1, none⟩ = some (.slice A1 n1 c1))
    (first | go_keep | exact ⟨s_270, s_271⟩ | exact ⟨s_283, s_284⟩ | exact ⟨s_302, s_303⟩)
    (first
      | (go_at_call 43; (with_reducible refine (l_toGateS _ _ _ _ _ (H0.out.below fW_257.out) hy0).mono ?_); rintro e w_264 ⟨A_260, c_261, rfl, o_262, b_263⟩; have fX1_265 := Lib.hid (fX1_256.out.below b_263); have fW_266 := Lib.hid (below_trans fW_257.out b_263); have fs0_267 := Lib.hid (ownsRow_below fs0_258.out b_263); have fg0_268 := Lib.hid (ownsRow_below fg0_259.out b_263); have t_269 := Lib.hid o_262; have ⟨s_270, s_271, _, _⟩ := fX1_265.out.two)
      | (go_at_call 44; (with_reducible refine (l_toGraph _ _ _ _ _ _ (H1.out.below fW_266.out) hy1).mono ?_); rintro e w_276 ⟨A_272, c_273, rfl, o_274, b_275⟩; have fX1_277 := Lib.hid (fX1_265.out.below b_275); have fW_278 := Lib.hid (below_trans fW_266.out b_275); have fs0_279 := Lib.hid (ownsRow_below fs0_267.out b_275); have fg0_280 := Lib.hid (ownsRow_below fg0_268.out b_275); have ft0_281 := Lib.hid (ownsRow_below t_269.out b_275); have t_282 := Lib.hid o_274; have ⟨s_283, s_284, _, _⟩ := fX1_277.out.two)
      | (go_at_call 53; (with_reducible refine (i_ChooseLayout _ _ _ _ _ _ _ _ _ _ (RdG.own ft0_281.out) (by omega) (RdP.own t_282.out) (by omega)).mono ?_); rintro e w_289 ⟨A_286, c_287, rfl, o_288, b_285⟩; rw [HR0.out] at o_288 ⊢; rw [HQ0.out] at o_288 ⊢; have hB_290 := fW_278.out.size; have ap_291 := Lib.hid (own_apart fs0_279.out o_288 (Nat.le_refl _)); have ap_292 := Lib.hid (own_apart_r fs0_279.out o_288 (Nat.le_refl _)); have ap_293 := Lib.hid (own_apart fg0_280.out o_288 (Nat.le_refl _)); have ap_294 := Lib.hid (own_apart_r fg0_280.out o_288 (Nat.le_refl _)); have fX1_295 := Lib.hid (fX1_277.out.below b_285); have fW_296 := Lib.hid (below_trans fW_278.out b_285); have fs0_297 := Lib.hid (ownsRow_below fs0_279.out b_285); have fg0_298 := Lib.hid (ownsRow_below fg0_280.out b_285); have ft0_299 := Lib.hid (ownsRow_below ft0_281.out b_285); have ft1_300 := Lib.hid (ownsRow_below t_282.out b_285); have oh0_301 := Lib.hid o_288; have ⟨s_302, s_303, _, _⟩ := fX1_295.out.two)
      | fail)
  clear p_254 p_255
  clear fX1_247 fW_248 fs0_249 fg0_250
  obtain ⟨p_304, p_305, _, _⟩ := fX1_295.out.two
  go_wp2_with fail
  refine (l_eqIntS_same _ _ _ _ _ _ _ (RdI.own oh0_301.out) (RdI.own fs0_297.out) (by omega)).mono ?_
  rintro e w_307 ⟨rfl, b_306⟩
  clear p_304 p_305
  have fX1_308 := Lib.hid (fX1_295.out.below b_306)
  have fW_309 := Lib.hid (below_trans fW_296.out b_306)
  have fs0_310 := Lib.hid (ownsRow_below fs0_297.out b_306)
  have fg0_311 := Lib.hid (ownsRow_below fg0_298.out b_306)
  have fh0_312 := Lib.hid (ownsRow_below oh0_301.out b_306)
  clear fX1_295 fW_296 fs0_297 fg0_298 oh0_301 b_306
  obtain ⟨p_313, p_314, _, _⟩ := fX1_308.out.two
  go_wp2_with fail
  refine (l_heldIntS _ _ _ _ _ (RdI.own fg0_311.out) (by omega) (by omega) (by omega)).mono ?_
  rintro e w_315 ⟨rfl, rfl⟩
  go_wp2_with fail
  go_ret
  exact ⟨rfl, fW_309.out⟩

theorem own : ownKnob Try.prog.godebug = none := by kernel_rfl
theorem laidOut : laidOutB Try.prog = true := by kernel_rfl
set_option maxRecDepth 100000 in
theorem lifted (os : Os) (started : os.Started) (H : Type) (enc : TypeId × Value → H) :
    ReturnsInHanded {} Try.checked os 10 .any (Rows.fnExactChooseLayoutSpec.pre6 enc Try.prog Try.f10 Rows.fnExactChooseLayoutRow.domain false) (Rows.fnExactChooseLayoutSpec.post enc Try.prog Try.f10 false true false false) := by
  refine returnsInHanded_of_change (C := Try.checked) own started (by kernel_rfl) Try.func10
    (ChangeSpec.witness6 (enc := enc) (C := Try.checked) false ⟨#[], #[.slice none 0 0, .agg #[.int .i64 0, .slice none 0 0]], []⟩ 8 (by kernel_rfl) (by kernel_rfl) (by kernel_rfl) (by kernel_rfl)) ?_
  intro W base args ds gs before hval0 hW hcnd _
  have hval : ∀ (j : Nat) t v, Try.f10.params[j]? = some t → args[j]? = some v → Value.okWide Try.prog W .any base t v := hval0
  have hW' := hW
  obtain ⟨p, q, hA0, hV, rfl, hfz, hnd⟩ := hW
  have hA : DataW.TrodAll enc Try.prog W 0 (fun _ => true) true Try.f10.params.toList args.toList ds p := hA0
  rw [Try.params10] at hA hval
  obtain ⟨v0, vs0, d0, ds0, p0, q0, hargs, rfl, rfl, h0, t0⟩ := trodAll_cons hA
  obtain ⟨v1, vs1, d1, ds1, p1, q1, rfl, rfl, rfl, h1, t1⟩ := trodAll_cons t0
  obtain ⟨rfl, rfl, rfl⟩ := trodAll_nil t1
  obtain rfl : args = #[v0, v1] := by cases args; simp_all
  obtain ⟨rfl, rfl⟩ := trodVars_none hV
  have k0 := h0
  have lt0 : ∀ x ∈ p0, x.block < W.heap.size := by obtain ⟨m, hm⟩ := k0; exact DataW.trod_lt m _ _ _ hm
  obtain ⟨A0, n0, c0, rfl⟩ := okWide_slice Try.underlying46 (hval 0 46 v0 rfl rfl)
  obtain ⟨fu0, hf0⟩ := h0
  obtain ⟨_, _, _, x0, e0, r0, l0, m0, ok0⟩ := open_gates Try.underlying46 Try.underlying69 (by kernel_rfl) (by kernel_rfl) Try.underlying3 Try.underlying3 Try.underlying3 Try.underlying3 hf0
  simp only [Value.slice.injEq] at e0
  obtain ⟨rfl, rfl, rfl⟩ := e0
  have k1 := h1
  have lt1 : ∀ x ∈ p1, x.block < W.heap.size := by obtain ⟨m, hm⟩ := k1; exact DataW.trod_lt m _ _ _ hm
  obtain ⟨y0, y1, e0, e1, fu1, rfl, rfl, _, g0, g1⟩ := Joins.open_agg2 Try.underlying49 (by kernel_rfl) (by kernel_rfl) (hval 1 49 v1 rfl rfl) h1
  obtain ⟨N1, f0, _, w1⟩ := DataW.trod_int Try.underlying3 g0
  simp only [List.cons.injEq, and_true] at f0
  subst f0
  obtain ⟨A1, n1, c1, x1, rfl, r1, l1, m1, ok1⟩ := open_pairs Try.underlying47 Try.underlying111 (by kernel_rfl) (by kernel_rfl) Try.underlying3 Try.underlying3 g1
  clear g0 g1
  clear hA0 hval0
  refine (walk A0 n0 c0 x0 N1 A1 n1 c1 x1 W r0 l0 m0 ok0 (i64_of_wf w1) r1 l1 m1 ok1).mono fun e W' ⟨he, bel⟩ => ?_
  subst he
  exact ⟨_, rfl, _, _, _, [], _, [], hW', trodAll_mk1 (shut_bool Try.underlying4 _), (trodAll_cons_mk (Below.trod laidOut (by kernel_rfl) (of_decide_eq_true (by kernel_rfl)) k0 bel lt0) (trodAll_cons_mk (Below.trod laidOut (by kernel_rfl) (of_decide_eq_true (by kernel_rfl)) k1 bel lt1) trodAll_mk0)), rfl, bel.frame _, fun h => by cases h⟩

theorem over : Rows.fnExactChooseLayoutRow.holds Try.pinned (OpenSpec.ofChange Rows.fnExactChooseLayoutSpec) :=
  OpenClaim.holds_of_wide 10 Try.f10 rfl rfl rfl rfl rfl rfl rfl ⟨rfl, rfl, rfl, rfl, rfl⟩ rfl rfl rfl rfl rfl (by kernel_rfl) Try.func10 (by kernel_rfl)
    (of_decide_eq_true (by kernel_rfl)) (by unfold Func.isWrapper; first | (rw [if_pos (by decide +kernel)]; kernel_rfl) | (rw [if_neg (by decide +kernel)]; exact ⟨rfl, rfl⟩))
    (fun os started H enc _ => lifted os started H enc)

theorem proved : Rows.FnExactChooseLayoutSaid := over
#print axioms proved
end Go.Proofs.Ythijgdpnodiceaa.fnExactChooseLayout
