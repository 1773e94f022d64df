/- The law FnExactRouteGates returns true for every input. No condition. -/
import Derived.Test.YthijgdpnodiceaaRows
import Derived.Test.YthijgdpnodiceaaGateT
import Derived.Test.YthijgdpnodiceaaIntS
import Derived.Test.YthijgdpnodiceaaGraphM
import Derived.Test.YthijgdpnodiceaaSzX
import Derived.Test.YthijgdpnodiceaaPairN
import Derived.Test.YthijgdpnodiceaaOpen
import Derived.Test.YthijgdpnodiceaaRouteL
import Derived.Deep.RegionHeld3
import Derived.ChangeOld
namespace Go.Proofs.Ythijgdpnodiceaa.fnExactRouteGates
open Go.ChangeShapes Go.WideShapes Go.ChangeAt Go.RowKit
set_option linter.unusedVariables false

theorem rtsL_len (ps : List (Int × Int)) (N : Int) : ∀ (gs : List Gt) (z : List Int) (acc : List Gt), isLay ps N z = true → (rtsL ps N gs z acc).1.length ≤ acc.length + 4 * gs.length ∧ (rtsL ps N gs z acc).2.1.length ≤ 4
  | [], z, acc, h => by have := isLay_len h; rw [rtsL]; exact ⟨by simp, by show z.length ≤ 4; omega⟩
  | g :: r, z, acc, h => by
    rw [rtsL]
    split
    · have h1 := rtsL_len ps N r _ (acc ++ (routeG ps N z g).1) (routeG_lay (g := g) h)
      have h2 := routeG_len ps N z g
      rw [List.length_append] at h1
      rw [List.length_cons]
      exact ⟨by omega, h1.2⟩
    · exact ⟨by simp, by simp⟩
theorem routeGs_len (ps : List (Int × Int)) (N : Int) (z : List Int) (gs : List Gt) : (routeGs ps N z gs).1.length ≤ 4 * gs.length ∧ (routeGs ps N z gs).2.1.length ≤ 4 := by
  unfold routeGs
  split
  · have := rtsL_len ps N gs z [] (by assumption); simpa using this
  · exact ⟨by simp, by simp⟩

set_option maxRecDepth 100000 in
set_option maxHeartbeats 6400000 in
theorem walk (A0 : Option Addr) (n0 c0 : Nat) (x0 : List Gt) (N1 : Int) (A1 : Option Addr) (n1 c1 : Nat) (x1 : List (Int × Int)) (A2 : Option Addr) (n2 c2 : Nat) (x2 : List Int) (w : World) (r0 : RdG w A0 n0 x0) (l0 : n0 ≤ c0) (m0 : c0 ≤ maxLen) (ok0 : ∀ g ∈ x0, g.ok) (i1 : I64 N1) (r1 : RdP w A1 n1 x1) (l1 : n1 ≤ c1) (m1 : c1 ≤ maxLen) (ok1 : ∀ p ∈ x1, I64 p.1 ∧ I64 p.2) (r2 : RdI w A2 n2 x2) (l2 : n2 ≤ c2) (m2 : c2 ≤ maxLen) (ok2 : ∀ g ∈ x2, I64 g) :
    Calls Try.prog 14 #[.slice A0 n0 c0, .agg #[.int .i64 N1, .slice A1 n1 c1], .slice A2 n2 c2] w fun e w' => e = .returned (.bool true) ∧ Below w.heap.size w w' := by
  unfold maxLen at m0 m1 m2
  have H0 := Lib.hid r0
  have hl0 := r0.1
  have H1 := Lib.hid r1
  have hl1 := r1.1
  have H2 := Lib.hid r2
  have hl2 := r2.1
  obtain ⟨R0, hR0⟩ : ∃ R, (routeGs x1 N1 x2 x0).1 = R := ⟨_, rfl⟩
  have HR0 := Lib.hid hR0
  obtain ⟨q0, hq0⟩ : ∃ q, R0.length = q := ⟨_, rfl⟩
  have HQ0 := Lib.hid hq0
  obtain ⟨R1, hR1⟩ : ∃ R, (routeGs x1 N1 x2 x0).2.1 = R := ⟨_, rfl⟩
  have HR1 := Lib.hid hR1
  obtain ⟨q1, hq1⟩ : ∃ q, R1.length = q := ⟨_, rfl⟩
  have HQ1 := Lib.hid hq1
  obtain ⟨R2, hR2⟩ : ∃ R, (routeGs x1 N1 x2 x0).2.2 = R := ⟨_, rfl⟩
  have HR2 := Lib.hid hR2
  clear r0 ok0 i1 r1 ok1 r2 ok2
  have X1 := Lib.hid (show Bx (w.alloc (.cells #[.int .i64 N1, .slice A1 n1 c1] 49)) (w.heap.size) 49 #[.int .i64 N1, .slice A1 n1 c1] from Bx.new w _ _)
  have BW := Lib.hid (show Below w.heap.size w (w.alloc (.cells #[.int .i64 N1, .slice A1 n1 c1] 49)) from (Below.refl _ _).alloc (by simp <;> omega) _)
  by_cases hz2 : n2 ≤ 1048576
  rotate_left
  · skip
    go_enter Try.func14, Try.ntmps14
    go_wp2_with fail
    go_ret
    exact ⟨rfl, BW.out⟩
  by_cases hz0 : n0 ≤ 1048576
  rotate_left
  · skip
    go_enter Try.func14, Try.ntmps14
    go_wp2_with fail
    refine (l_szGateS _ _ _ (by omega) _).mono ?_
    rintro e wf_1 ⟨rfl, rfl⟩
    rw [if_neg (by omega)]
    go_wp2_with fail
    go_ret
    exact ⟨rfl, BW.out⟩
  by_cases hz1 : (n1 : Int) ≤ 1048576 - n0
  rotate_left
  · skip
    go_enter Try.func14, Try.ntmps14
    go_wp2_with fail
    refine (l_szGateS _ _ _ (by omega) _).mono ?_
    rintro e wf_2 ⟨rfl, rfl⟩
    rw [if_pos hz0]
    go_wp2_with fail
    refine (l_szGraphx _ _ _ _ _ (by omega) (by omega) (by omega) _).mono ?_
    rintro e wf_3 ⟨rfl, bf_4⟩
    rw [if_neg (by omega)]
    have fX1_5 := Lib.hid (X1.out.below bf_4)
    have fW_6 := Lib.hid (below_trans BW.out bf_4)
    obtain ⟨p_7, p_8, _, _⟩ := fX1_5.out.two
    go_wp2_with fail
    go_ret
    exact ⟨rfl, fW_6.out⟩
  go_enter Try.func14, Try.ntmps14
  go_wp2_with fail
  refine (l_szGateS _ _ _ (by omega) _).mono ?_
  rintro e wa_9 ⟨rfl, rfl⟩
  rw [if_pos hz0]
  go_wp2_with fail
  refine (l_szGraphx _ _ _ _ _ (by omega) (by omega) (by omega) _).mono ?_
  rintro e wa_10 ⟨rfl, b_11⟩
  rw [if_pos hz1]
  have fX1_12 := Lib.hid (X1.out.below b_11)
  have fW_13 := Lib.hid (below_trans BW.out b_11)
  clear X1 BW b_11
  obtain ⟨p_14, p_15, _, _⟩ := fX1_12.out.two
  have hy0 : n0 ≤ 1048576 := hz0
  have hy1 : n1 ≤ 1048576 := by omega
  have hy2 : n2 ≤ 1048576 := hz2
  have hlen0 : q0 ≤ 1073741824 := by rw [← hq0, ← hR0]; exact (by have := (routeGs_len x1 N1 x2 x0).1; omega)
  clear hq0
  have hlen1 : q1 ≤ 1073741824 := by rw [← hq1, ← hR1]; exact (by have := (routeGs_len x1 N1 x2 x0).2; omega)
  clear hq1
  clear hR0
  clear hR1
  clear hR2
  clear hl0
  clear hl1
  clear hl2
  clear p_14 p_15
  obtain ⟨p_16, p_17, _, _⟩ := fX1_12.out.two
  go_wp2_with fail
  have fX1_18 := Lib.hid (fX1_12.out.drew)
  have fW_19 := Lib.hid (fW_13.out.drew)
  go_region_held3 (fun w' => w'.cell? ⟨w.heap.size, 0, none⟩ = some (.int .i64 N1) ∧ w'.cell? ⟨w.heap.size, 1, none⟩ = some (.slice A1 n1 c1))
    (first | go_keep | exact ⟨s_28, s_29⟩ | exact ⟨s_39, s_40⟩ | exact ⟨s_51, s_52⟩ | exact ⟨s_74, s_75⟩)
    (first
      | (go_at_call 43; (with_reducible refine (l_toGateS _ _ _ _ _ (H0.out.below fW_19.out) hy0).mono ?_); rintro e w_24 ⟨A_20, c_21, rfl, o_22, b_23⟩; have fX1_25 := Lib.hid (fX1_18.out.below b_23); have fW_26 := Lib.hid (below_trans fW_19.out b_23); have t_27 := Lib.hid o_22; have ⟨s_28, s_29, _, _⟩ := fX1_25.out.two)
      | (go_at_call 44; (with_reducible refine (l_toGraph _ _ _ _ _ _ (H1.out.below fW_26.out) hy1).mono ?_); rintro e w_34 ⟨A_30, c_31, rfl, o_32, b_33⟩; have fX1_35 := Lib.hid (fX1_25.out.below b_33); have fW_36 := Lib.hid (below_trans fW_26.out b_33); have ft0_37 := Lib.hid (ownsRow_below t_27.out b_33); have t_38 := Lib.hid o_32; have ⟨s_39, s_40, _, _⟩ := fX1_35.out.two)
      | (go_at_call 49; (with_reducible refine (l_toIntS _ _ _ _ _ (H2.out.below fW_36.out) hy2).mono ?_); rintro e w_45 ⟨A_41, c_42, rfl, o_43, b_44⟩; have fX1_46 := Lib.hid (fX1_35.out.below b_44); have fW_47 := Lib.hid (below_trans fW_36.out b_44); have ft0_48 := Lib.hid (ownsRow_below ft0_37.out b_44); have ft1_49 := Lib.hid (ownsRow_below t_38.out b_44); have t_50 := Lib.hid o_43; have ⟨s_51, s_52, _, _⟩ := fX1_46.out.two)
      | (go_at_call 65; (with_reducible refine (s_RouteGates _ _ _ x0 _ _ _ _ x1 _ _ _ x2 _ (RdG.own ft0_48.out) (by omega) (RdP.own ft1_49.out) (by omega) (RdI.own t_50.out) (ownsRow_cap t_50.out) (by omega)).mono ?_); rintro e w_63 ⟨A_54, c_55, A_57, c_58, rfl, o_56, o_59, b_53⟩; rw [HR0.out] at o_56 ⊢; rw [HQ0.out] at o_56 ⊢; rw [HR1.out] at o_59 ⊢; rw [HQ1.out] at o_59 ⊢; rw [HR2.out]; have hB_64 := fW_47.out.size; have ap_65 := Lib.hid (own_types o_56 o_59 (by decide)); have ap_66 := Lib.hid (own_types o_59 o_56 (by decide)); have fX1_67 := Lib.hid (fX1_46.out.below b_53); have fW_68 := Lib.hid (below_trans fW_47.out b_53); have ft0_69 := Lib.hid (ownsRow_below ft0_48.out b_53); have ft1_70 := Lib.hid (ownsRow_below ft1_49.out b_53); have ft2_71 := Lib.hid (ownsRow_below t_50.out b_53); have os0_72 := Lib.hid o_56; have os1_73 := Lib.hid o_59; have ⟨s_74, s_75, _, _⟩ := fX1_67.out.two)
      | fail)
  clear p_16 p_17
  clear fX1_12 fW_13
  obtain ⟨p_76, p_77, _, _⟩ := fX1_67.out.two
  go_wp2_with fail
  refine (l_toGateS _ _ _ _ _ (H0.out.below fW_68.out) hy0).mono ?_
  rintro e w_82 ⟨A_78, c_79, rfl, o_80, b_81⟩
  have hB_83 := fW_68.out.size
  have ap_84 := Lib.hid (own_apart os0_72.out o_80 (Nat.le_refl _))
  have ap_85 := Lib.hid (own_apart_r os0_72.out o_80 (Nat.le_refl _))
  have ap_86 := Lib.hid (own_apart os1_73.out o_80 (Nat.le_refl _))
  have ap_87 := Lib.hid (own_apart_r os1_73.out o_80 (Nat.le_refl _))
  have fX1_88 := Lib.hid (fX1_67.out.below b_81)
  have fW_89 := Lib.hid (below_trans fW_68.out b_81)
  have fs0_90 := Lib.hid (ownsRow_below os0_72.out b_81)
  have fs1_91 := Lib.hid (ownsRow_below os1_73.out b_81)
  have ox_92 := Lib.hid o_80
  clear fX1_67 fW_68 os0_72 os1_73 o_80 b_81
  clear p_76 p_77
  obtain ⟨p_93, p_94, _, _⟩ := fX1_88.out.two
  go_wp2_with fail
  refine (l_toGraph _ _ _ _ _ _ (H1.out.below fW_89.out) hy1).mono ?_
  rintro e w_99 ⟨A_95, c_96, rfl, o_97, b_98⟩
  have hB_100 := fW_89.out.size
  have ap_101 := Lib.hid (own_apart fs0_90.out o_97 (Nat.le_refl _))
  have ap_102 := Lib.hid (own_apart_r fs0_90.out o_97 (Nat.le_refl _))
  have ap_103 := Lib.hid (own_apart fs1_91.out o_97 (Nat.le_refl _))
  have ap_104 := Lib.hid (own_apart_r fs1_91.out o_97 (Nat.le_refl _))
  have ap_105 := Lib.hid (own_apart ox_92.out o_97 (Nat.le_refl _))
  have ap_106 := Lib.hid (own_apart_r ox_92.out o_97 (Nat.le_refl _))
  have fX1_107 := Lib.hid (fX1_88.out.below b_98)
  have fW_108 := Lib.hid (below_trans fW_89.out b_98)
  have fs0_109 := Lib.hid (ownsRow_below fs0_90.out b_98)
  have fs1_110 := Lib.hid (ownsRow_below fs1_91.out b_98)
  have fx0_111 := Lib.hid (ownsRow_below ox_92.out b_98)
  have ox_112 := Lib.hid o_97
  clear fX1_88 fW_89 fs0_90 fs1_91 ox_92 o_97 b_98
  have Y_113 := Lib.hid (Bx.new w_99 38 #[.int .i64 N1, .slice A_95 n1 c_96])
  have fX1_114 := Lib.hid (fX1_107.out.alloc (.cells #[.int .i64 N1, .slice A_95 n1 c_96] 38))
  have fW_115 := Lib.hid (Below.alloc fW_108.out (fW_108.out.size) (.cells #[.int .i64 N1, .slice A_95 n1 c_96] 38))
  have fs0_116 := Lib.hid (World.ownsRow.alloc fs0_109.out (.cells #[.int .i64 N1, .slice A_95 n1 c_96] 38))
  have fs1_117 := Lib.hid (World.ownsRow.alloc fs1_110.out (.cells #[.int .i64 N1, .slice A_95 n1 c_96] 38))
  have fx0_118 := Lib.hid (World.ownsRow.alloc fx0_111.out (.cells #[.int .i64 N1, .slice A_95 n1 c_96] 38))
  have fx1_119 := Lib.hid (World.ownsRow.alloc ox_112.out (.cells #[.int .i64 N1, .slice A_95 n1 c_96] 38))
  clear fX1_107 fW_108 fs0_109 fs1_110 fx0_111 ox_112
  clear p_93 p_94
  obtain ⟨p_120, p_121, _, _⟩ := fX1_114.out.two
  obtain ⟨p_122, p_123, _, _⟩ := Y_113.out.two
  go_wp2_with fail
  refine (l_toIntS _ _ _ _ _ (H2.out.below fW_115.out) hy2).mono ?_
  rintro e w_128 ⟨A_124, c_125, rfl, o_126, b_127⟩
  have hB_129 := fW_115.out.size
  have ap_130 := Lib.hid (own_apart fs0_116.out o_126 (Nat.le_refl _))
  have ap_131 := Lib.hid (own_apart_r fs0_116.out o_126 (Nat.le_refl _))
  have ap_132 := Lib.hid (own_apart fs1_117.out o_126 (Nat.le_refl _))
  have ap_133 := Lib.hid (own_apart_r fs1_117.out o_126 (Nat.le_refl _))
  have ap_134 := Lib.hid (own_apart fx0_118.out o_126 (Nat.le_refl _))
  have ap_135 := Lib.hid (own_apart_r fx0_118.out o_126 (Nat.le_refl _))
  have ap_136 := Lib.hid (own_apart fx1_119.out o_126 (Nat.le_refl _))
  have ap_137 := Lib.hid (own_apart_r fx1_119.out o_126 (Nat.le_refl _))
  have fX1_138 := Lib.hid (fX1_114.out.below b_127)
  have fW_139 := Lib.hid (below_trans fW_115.out b_127)
  have fs0_140 := Lib.hid (ownsRow_below fs0_116.out b_127)
  have fs1_141 := Lib.hid (ownsRow_below fs1_117.out b_127)
  have fx0_142 := Lib.hid (ownsRow_below fx0_118.out b_127)
  have fx1_143 := Lib.hid (ownsRow_below fx1_119.out b_127)
  have fY1_144 := Lib.hid (Y_113.out.below b_127)
  have ox_145 := Lib.hid o_126
  clear fX1_114 fW_115 fs0_116 fs1_117 fx0_118 fx1_119 Y_113 o_126 b_127
  clear p_120 p_121 p_122 p_123
  obtain ⟨p_146, p_147, _, _⟩ := fX1_138.out.two
  obtain ⟨p_148, p_149, _, _⟩ := fY1_144.out.two
  go_wp2_with fail
  refine (i_RouteGates _ _ _ x0 _ _ _ _ x1 _ _ _ x2 _ (RdG.own fx0_142.out) (by omega) (RdP.own fx1_143.out) (by omega) (RdI.own ox_145.out) (by omega)).mono ?_
  rintro e w_160 ⟨A_151, c_152, A_154, c_155, rfl, o_153, o_156, b_150⟩
  rw [HR0.out] at o_153 ⊢
  rw [HQ0.out] at o_153 ⊢
  rw [HR1.out] at o_156 ⊢
  rw [HQ1.out] at o_156 ⊢
  rw [HR2.out]
  clear p_146 p_147 p_148 p_149
  have hB_161 := fW_139.out.size
  have ap_162 := Lib.hid (own_apart fs0_140.out o_153 (by simp <;> omega))
  have ap_163 := Lib.hid (own_apart_r fs0_140.out o_153 (by simp <;> omega))
  have ap_164 := Lib.hid (own_apart fs1_141.out o_153 (by simp <;> omega))
  have ap_165 := Lib.hid (own_apart_r fs1_141.out o_153 (by simp <;> omega))
  have ap_166 := Lib.hid (own_apart fx0_142.out o_153 (by simp <;> omega))
  have ap_167 := Lib.hid (own_apart_r fx0_142.out o_153 (by simp <;> omega))
  have ap_168 := Lib.hid (own_apart fx1_143.out o_153 (by simp <;> omega))
  have ap_169 := Lib.hid (own_apart_r fx1_143.out o_153 (by simp <;> omega))
  have ap_170 := Lib.hid (own_apart ox_145.out o_153 (by simp <;> omega))
  have ap_171 := Lib.hid (own_apart_r ox_145.out o_153 (by simp <;> omega))
  have ap_172 := Lib.hid (own_apart fs0_140.out o_156 (by simp <;> omega))
  have ap_173 := Lib.hid (own_apart_r fs0_140.out o_156 (by simp <;> omega))
  have ap_174 := Lib.hid (own_apart fs1_141.out o_156 (by simp <;> omega))
  have ap_175 := Lib.hid (own_apart_r fs1_141.out o_156 (by simp <;> omega))
  have ap_176 := Lib.hid (own_apart fx0_142.out o_156 (by simp <;> omega))
  have ap_177 := Lib.hid (own_apart_r fx0_142.out o_156 (by simp <;> omega))
  have ap_178 := Lib.hid (own_apart fx1_143.out o_156 (by simp <;> omega))
  have ap_179 := Lib.hid (own_apart_r fx1_143.out o_156 (by simp <;> omega))
  have ap_180 := Lib.hid (own_apart ox_145.out o_156 (by simp <;> omega))
  have ap_181 := Lib.hid (own_apart_r ox_145.out o_156 (by simp <;> omega))
  have ap_182 := Lib.hid (own_types o_153 o_156 (by decide))
  have ap_183 := Lib.hid (own_types o_156 o_153 (by decide))
  have fX1_184 := Lib.hid (fX1_138.out.below b_150)
  have fW_185 := Lib.hid (below_trans fW_139.out b_150)
  have fs0_186 := Lib.hid (ownsRow_below fs0_140.out b_150)
  have fs1_187 := Lib.hid (ownsRow_below fs1_141.out b_150)
  have fx0_188 := Lib.hid (ownsRow_below fx0_142.out b_150)
  have fx1_189 := Lib.hid (ownsRow_below fx1_143.out b_150)
  have fY1_190 := Lib.hid (fY1_144.out.below b_150)
  have fx2_191 := Lib.hid (ownsRow_below ox_145.out b_150)
  have og0_192 := Lib.hid o_153
  have og1_193 := Lib.hid o_156
  clear fX1_138 fW_139 fs0_140 fs1_141 fx0_142 fx1_143 fY1_144 ox_145
  obtain ⟨p_194, p_195, _, _⟩ := fX1_184.out.two
  obtain ⟨p_196, p_197, _, _⟩ := fY1_190.out.two
  go_wp2_with fail
  refine (l_eqGateS_same _ _ _ _ _ _ _ (RdG.own og0_192.out) (RdG.own fs0_186.out) (by omega)).mono ?_
  rintro e w_199 ⟨rfl, b_198⟩
  clear p_194 p_195 p_196 p_197
  have fX1_200 := Lib.hid (fX1_184.out.below b_198)
  have fW_201 := Lib.hid (below_trans fW_185.out b_198)
  have fs0_202 := Lib.hid (ownsRow_below fs0_186.out b_198)
  have fs1_203 := Lib.hid (ownsRow_below fs1_187.out b_198)
  have fx0_204 := Lib.hid (ownsRow_below fx0_188.out b_198)
  have fx1_205 := Lib.hid (ownsRow_below fx1_189.out b_198)
  have fY1_206 := Lib.hid (fY1_190.out.below b_198)
  have fx2_207 := Lib.hid (ownsRow_below fx2_191.out b_198)
  have fg0_208 := Lib.hid (ownsRow_below og0_192.out b_198)
  have fg1_209 := Lib.hid (ownsRow_below og1_193.out b_198)
  clear fX1_184 fW_185 fs0_186 fs1_187 fx0_188 fx1_189 fY1_190 fx2_191 og0_192 og1_193 b_198
  obtain ⟨p_210, p_211, _, _⟩ := fX1_200.out.two
  obtain ⟨p_212, p_213, _, _⟩ := fY1_206.out.two
  go_wp2_with fail
  refine (l_eqIntS_same _ _ _ _ _ _ _ (RdI.own fg1_209.out) (RdI.own fs1_203.out) (by omega)).mono ?_
  rintro e w_215 ⟨rfl, b_214⟩
  clear p_210 p_211 p_212 p_213
  have fX1_216 := Lib.hid (fX1_200.out.below b_214)
  have fW_217 := Lib.hid (below_trans fW_201.out b_214)
  have fs0_218 := Lib.hid (ownsRow_below fs0_202.out b_214)
  have fs1_219 := Lib.hid (ownsRow_below fs1_203.out b_214)
  have fx0_220 := Lib.hid (ownsRow_below fx0_204.out b_214)
  have fx1_221 := Lib.hid (ownsRow_below fx1_205.out b_214)
  have fY1_222 := Lib.hid (fY1_206.out.below b_214)
  have fx2_223 := Lib.hid (ownsRow_below fx2_207.out b_214)
  have fg0_224 := Lib.hid (ownsRow_below fg0_208.out b_214)
  have fg1_225 := Lib.hid (ownsRow_below fg1_209.out b_214)
  clear fX1_200 fW_201 fs0_202 fs1_203 fx0_204 fx1_205 fY1_206 fx2_207 fg0_208 fg1_209 b_214
  obtain ⟨p_226, p_227, _, _⟩ := fX1_216.out.two
  obtain ⟨p_228, p_229, _, _⟩ := fY1_222.out.two
  go_wp2_with fail
  refine (l_toGateS _ _ _ _ _ (H0.out.below fW_217.out) hy0).mono ?_
  rintro e w_234 ⟨A_230, c_231, rfl, o_232, b_233⟩
  clear p_226 p_227 p_228 p_229
  have fX1_235 := Lib.hid (fX1_216.out.below b_233)
  have fW_236 := Lib.hid (below_trans fW_217.out b_233)
  have fs0_237 := Lib.hid (ownsRow_below fs0_218.out b_233)
  have fs1_238 := Lib.hid (ownsRow_below fs1_219.out b_233)
  have fx0_239 := Lib.hid (ownsRow_below fx0_220.out b_233)
  have fx1_240 := Lib.hid (ownsRow_below fx1_221.out b_233)
  have fY1_241 := Lib.hid (fY1_222.out.below b_233)
  have fx2_242 := Lib.hid (ownsRow_below fx2_223.out b_233)
  have fg0_243 := Lib.hid (ownsRow_below fg0_224.out b_233)
  have fg1_244 := Lib.hid (ownsRow_below fg1_225.out b_233)
  have t_245 := Lib.hid o_232
  clear fX1_216 fW_217 fs0_218 fs1_219 fx0_220 fx1_221 fY1_222 fx2_223 fg0_224 fg1_225 o_232 b_233
  obtain ⟨p_246, p_247, _, _⟩ := fX1_235.out.two
  obtain ⟨p_248, p_249, _, _⟩ := fY1_241.out.two
  go_wp2_with fail
  refine (l_eqGateS_same _ _ _ _ _ _ _ (RdG.own fx0_239.out) (RdG.own t_245.out) (by omega)).mono ?_
  rintro e w_251 ⟨rfl, b_250⟩
  clear p_246 p_247 p_248 p_249
  have fX1_252 := Lib.hid (fX1_235.out.below b_250)
  have fW_253 := Lib.hid (below_trans fW_236.out b_250)
  have fs0_254 := Lib.hid (ownsRow_below fs0_237.out b_250)
  have fs1_255 := Lib.hid (ownsRow_below fs1_238.out b_250)
  have fx0_256 := Lib.hid (ownsRow_below fx0_239.out b_250)
  have fx1_257 := Lib.hid (ownsRow_below fx1_240.out b_250)
  have fY1_258 := Lib.hid (fY1_241.out.below b_250)
  have fx2_259 := Lib.hid (ownsRow_below fx2_242.out b_250)
  have fg0_260 := Lib.hid (ownsRow_below fg0_243.out b_250)
  have fg1_261 := Lib.hid (ownsRow_below fg1_244.out b_250)
  have ft_262 := Lib.hid (ownsRow_below t_245.out b_250)
  clear fX1_235 fW_236 fs0_237 fs1_238 fx0_239 fx1_240 fY1_241 fx2_242 fg0_243 fg1_244 t_245 b_250
  obtain ⟨p_263, p_264, _, _⟩ := fX1_252.out.two
  obtain ⟨p_265, p_266, _, _⟩ := fY1_258.out.two
  clear p_263 p_264 p_265 p_266
  obtain ⟨p_267, p_268, _, _⟩ := fX1_252.out.two
  obtain ⟨p_269, p_270, _, _⟩ := fY1_258.out.two
  go_wp2_with fail
  have fX1_271 := Lib.hid (fX1_252.out.drew)
  have fW_272 := Lib.hid (fW_253.out.drew)
  have fs0_273 := Lib.hid (ownsRow_drew fs0_254.out)
  have fs1_274 := Lib.hid (ownsRow_drew fs1_255.out)
  have fx0_275 := Lib.hid (ownsRow_drew fx0_256.out)
  have fx1_276 := Lib.hid (ownsRow_drew fx1_257.out)
  have fY1_277 := Lib.hid (fY1_258.out.drew)
  have fx2_278 := Lib.hid (ownsRow_drew fx2_259.out)
  have fg0_279 := Lib.hid (ownsRow_drew fg0_260.out)
  have fg1_280 := Lib.hid (ownsRow_drew fg1_261.out)
  go_region_held3 (fun w' => w'.cell? ⟨w.heap.size, 0, none⟩ = some (.int .i64 N1) ∧ w'.cell? ⟨w.heap.size, 1, none⟩ = some (.slice A1 n1 c1) ∧ w'.cell? ⟨w_99.heap.size, 0, none⟩ = some (.int .i64 N1) ∧ w'.cell? ⟨w_99.heap.size, 1, none⟩ = some (.slice A_95 n1 c_96))
    (first | go_keep | exact ⟨s_297, s_298, s_299, s_300⟩ | exact ⟨s_314, s_315, s_316, s_317⟩)
    (first
      | (go_at_call 44; (with_reducible refine (l_toGraph _ _ _ _ _ _ (H1.out.below fW_272.out) hy1).mono ?_); rintro e w_285 ⟨A_281, c_282, rfl, o_283, b_284⟩; have fX1_286 := Lib.hid (fX1_271.out.below b_284); have fW_287 := Lib.hid (below_trans fW_272.out b_284); have fs0_288 := Lib.hid (ownsRow_below fs0_273.out b_284); have fs1_289 := Lib.hid (ownsRow_below fs1_274.out b_284); have fx0_290 := Lib.hid (ownsRow_below fx0_275.out b_284); have fx1_291 := Lib.hid (ownsRow_below fx1_276.out b_284); have fY1_292 := Lib.hid (fY1_277.out.below b_284); have fx2_293 := Lib.hid (ownsRow_below fx2_278.out b_284); have fg0_294 := Lib.hid (ownsRow_below fg0_279.out b_284); have fg1_295 := Lib.hid (ownsRow_below fg1_280.out b_284); have t_296 := Lib.hid o_283; have ⟨s_297, s_298, _, _⟩ := fX1_286.out.two; have ⟨s_299, s_300, _, _⟩ := fY1_292.out.two)
      | (go_at_call 47; (with_reducible refine (l_eqGraph_same _ _ _ _ _ _ _ _ (RdP.own fx1_291.out) (RdP.own t_296.out) (by omega)).mono ?_); rintro e w_302 ⟨rfl, b_301⟩; have fX1_303 := Lib.hid (fX1_286.out.below b_301); have fW_304 := Lib.hid (below_trans fW_287.out b_301); have fs0_305 := Lib.hid (ownsRow_below fs0_288.out b_301); have fs1_306 := Lib.hid (ownsRow_below fs1_289.out b_301); have fx0_307 := Lib.hid (ownsRow_below fx0_290.out b_301); have fx1_308 := Lib.hid (ownsRow_below fx1_291.out b_301); have fY1_309 := Lib.hid (fY1_292.out.below b_301); have fx2_310 := Lib.hid (ownsRow_below fx2_293.out b_301); have fg0_311 := Lib.hid (ownsRow_below fg0_294.out b_301); have fg1_312 := Lib.hid (ownsRow_below fg1_295.out b_301); have ft_313 := Lib.hid (ownsRow_below t_296.out b_301); have ⟨s_314, s_315, _, _⟩ := fX1_303.out.two; have ⟨s_316, s_317, _, _⟩ := fY1_309.out.two)
      | fail)
  clear p_267 p_268 p_269 p_270
  clear fX1_252 fW_253 fs0_254 fs1_255 fx0_256 fx1_257 fY1_258 fx2_259 fg0_260 fg1_261
  obtain ⟨p_318, p_319, _, _⟩ := fX1_303.out.two
  obtain ⟨p_320, p_321, _, _⟩ := fY1_309.out.two
  go_wp2_with fail
  refine (l_toIntS _ _ _ _ _ (H2.out.below fW_304.out) hy2).mono ?_
  rintro e w_326 ⟨A_322, c_323, rfl, o_324, b_325⟩
  clear p_318 p_319 p_320 p_321
  have fX1_327 := Lib.hid (fX1_303.out.below b_325)
  have fW_328 := Lib.hid (below_trans fW_304.out b_325)
  have fs0_329 := Lib.hid (ownsRow_below fs0_305.out b_325)
  have fs1_330 := Lib.hid (ownsRow_below fs1_306.out b_325)
  have fx0_331 := Lib.hid (ownsRow_below fx0_307.out b_325)
  have fx1_332 := Lib.hid (ownsRow_below fx1_308.out b_325)
  have fY1_333 := Lib.hid (fY1_309.out.below b_325)
  have fx2_334 := Lib.hid (ownsRow_below fx2_310.out b_325)
  have fg0_335 := Lib.hid (ownsRow_below fg0_311.out b_325)
  have fg1_336 := Lib.hid (ownsRow_below fg1_312.out b_325)
  have t_337 := Lib.hid o_324
  clear fX1_303 fW_304 fs0_305 fs1_306 fx0_307 fx1_308 fY1_309 fx2_310 fg0_311 fg1_312 o_324 b_325
  obtain ⟨p_338, p_339, _, _⟩ := fX1_327.out.two
  obtain ⟨p_340, p_341, _, _⟩ := fY1_333.out.two
  go_wp2_with fail
  refine (l_eqIntS_same _ _ _ _ _ _ _ (RdI.own fx2_334.out) (RdI.own t_337.out) (by omega)).mono ?_
  rintro e w_343 ⟨rfl, b_342⟩
  clear p_338 p_339 p_340 p_341
  have fX1_344 := Lib.hid (fX1_327.out.below b_342)
  have fW_345 := Lib.hid (below_trans fW_328.out b_342)
  have fs0_346 := Lib.hid (ownsRow_below fs0_329.out b_342)
  have fs1_347 := Lib.hid (ownsRow_below fs1_330.out b_342)
  have fx0_348 := Lib.hid (ownsRow_below fx0_331.out b_342)
  have fx1_349 := Lib.hid (ownsRow_below fx1_332.out b_342)
  have fY1_350 := Lib.hid (fY1_333.out.below b_342)
  have fx2_351 := Lib.hid (ownsRow_below fx2_334.out b_342)
  have fg0_352 := Lib.hid (ownsRow_below fg0_335.out b_342)
  have fg1_353 := Lib.hid (ownsRow_below fg1_336.out b_342)
  have ft_354 := Lib.hid (ownsRow_below t_337.out b_342)
  clear fX1_327 fW_328 fs0_329 fs1_330 fx0_331 fx1_332 fY1_333 fx2_334 fg0_335 fg1_336 t_337 b_342
  obtain ⟨p_355, p_356, _, _⟩ := fX1_344.out.two
  obtain ⟨p_357, p_358, _, _⟩ := fY1_350.out.two
  go_wp2_with fail
  refine (l_markGateS _ _ _ _ _ _ _ _ fx0_348.out (by omega) (by omega) (by omega)).mono ?_
  rintro e w_361 ⟨rfl, om_360, gm_359⟩
  clear p_355 p_356 p_357 p_358
  have fX1_362 := Lib.hid (kept_app fx0_348.out gm_359 (fX1_344.out) (by decide))
  have fW_363 := Lib.hid (below_grown (fW_345.out) (Below.size (fW_345.out)) fx0_348.out hB_83 gm_359)
  have fs0_364 := Lib.hid (World.ownsRow.kept (fs0_346.out) gm_359 ap_84.out)
  have fs1_365 := Lib.hid (World.ownsRow.kept (fs1_347.out) gm_359 ap_86.out)
  have fx1_366 := Lib.hid (World.ownsRow.kept (fx1_349.out) gm_359 ap_106.out)
  have fY1_367 := Lib.hid (kept_app fx0_348.out gm_359 (fY1_350.out) (by decide))
  have fx2_368 := Lib.hid (World.ownsRow.kept (fx2_351.out) gm_359 ap_135.out)
  have fg0_369 := Lib.hid (World.ownsRow.kept (fg0_352.out) gm_359 ap_167.out)
  have fg1_370 := Lib.hid (World.ownsRow.kept (fg1_353.out) gm_359 ap_177.out)
  have fx0_371 := Lib.hid om_360
  clear gm_359 fX1_344 fW_345 fs0_346 fs1_347 fx0_348 fx1_349 fY1_350 fx2_351 fg0_352 fg1_353
  obtain ⟨p_372, p_373, _, _⟩ := fX1_362.out.two
  obtain ⟨p_374, p_375, _, _⟩ := fY1_367.out.two
  go_wp2_with fail
  refine (l_markGraph _ _ _ _ _ _ _ _ fx1_366.out (by omega) (by omega) (by omega)).mono ?_
  rintro e w_378 ⟨rfl, gm_376⟩
  clear p_372 p_373 p_374 p_375
  have fX1_379 := Lib.hid (kept_app (World.ownsRow.alloc fx1_366.out _) gm_376 (Bx.alloc fX1_362.out _) (by decide))
  have fW_380 := Lib.hid (below_grown (Below.alloc fW_363.out (Below.size fW_363.out) _) (Below.size (Below.alloc fW_363.out (Below.size fW_363.out) _)) (World.ownsRow.alloc fx1_366.out _) hB_100 gm_376)
  have fs0_381 := Lib.hid (World.ownsRow.kept (World.ownsRow.alloc fs0_364.out _) gm_376 ap_101.out)
  have fs1_382 := Lib.hid (World.ownsRow.kept (World.ownsRow.alloc fs1_365.out _) gm_376 ap_103.out)
  have fx0_383 := Lib.hid (World.ownsRow.kept (World.ownsRow.alloc fx0_371.out _) gm_376 ap_105.out)
  have fY1_384 := Lib.hid (kept_app (World.ownsRow.alloc fx1_366.out _) gm_376 (Bx.alloc fY1_367.out _) (by decide))
  have fx2_385 := Lib.hid (World.ownsRow.kept (World.ownsRow.alloc fx2_368.out _) gm_376 ap_137.out)
  have fg0_386 := Lib.hid (World.ownsRow.kept (World.ownsRow.alloc fg0_369.out _) gm_376 ap_169.out)
  have fg1_387 := Lib.hid (World.ownsRow.kept (World.ownsRow.alloc fg1_370.out _) gm_376 ap_179.out)
  clear gm_376 fX1_362 fW_363 fs0_364 fs1_365 fx0_371 fx1_366 fY1_367 fx2_368 fg0_369 fg1_370
  obtain ⟨p_388, p_389, _, _⟩ := fX1_379.out.two
  obtain ⟨p_390, p_391, _, _⟩ := fY1_384.out.two
  go_wp2_with fail
  refine (l_markIntS _ _ _ _ _ _ _ _ fx2_385.out (by omega) (by omega) (by omega)).mono ?_
  rintro e w_394 ⟨rfl, om_393, gm_392⟩
  clear p_388 p_389 p_390 p_391
  have fX1_395 := Lib.hid (kept_app fx2_385.out gm_392 (fX1_379.out) (by decide))
  have fW_396 := Lib.hid (below_grown (fW_380.out) (Below.size (fW_380.out)) fx2_385.out hB_129 gm_392)
  have fs0_397 := Lib.hid (World.ownsRow.kept (fs0_381.out) gm_392 ap_130.out)
  have fs1_398 := Lib.hid (World.ownsRow.kept (fs1_382.out) gm_392 ap_132.out)
  have fx0_399 := Lib.hid (World.ownsRow.kept (fx0_383.out) gm_392 ap_134.out)
  have fg0_400 := Lib.hid (World.ownsRow.kept (fg0_386.out) gm_392 ap_171.out)
  have fg1_401 := Lib.hid (World.ownsRow.kept (fg1_387.out) gm_392 ap_181.out)
  have fx2_402 := Lib.hid om_393
  clear gm_392 fX1_379 fW_380 fs0_381 fs1_382 fx0_383 fx2_385 fg0_386 fg1_387
  obtain ⟨p_403, p_404, _, _⟩ := fX1_395.out.two
  have hk_405 : ¬ (1 + 4 * (n0 : Int) + 2 * (n1 : Int) + (n2 : Int) < 0) := by omega
  go_wp2_with fail
  refine (l_eqGateS_same _ _ _ _ _ _ _ (RdG.own fg0_400.out) (RdG.own fs0_397.out) (by omega)).mono ?_
  rintro e w_407 ⟨rfl, b_406⟩
  clear p_403 p_404
  have fX1_408 := Lib.hid (fX1_395.out.below b_406)
  have fW_409 := Lib.hid (below_trans fW_396.out b_406)
  have fs0_410 := Lib.hid (ownsRow_below fs0_397.out b_406)
  have fs1_411 := Lib.hid (ownsRow_below fs1_398.out b_406)
  have fg0_412 := Lib.hid (ownsRow_below fg0_400.out b_406)
  have fg1_413 := Lib.hid (ownsRow_below fg1_401.out b_406)
  clear fX1_395 fW_396 fs0_397 fs1_398 fg0_400 fg1_401 b_406
  obtain ⟨p_414, p_415, _, _⟩ := fX1_408.out.two
  go_wp2_with fail
  refine (l_eqIntS_same _ _ _ _ _ _ _ (RdI.own fg1_413.out) (RdI.own fs1_411.out) (by omega)).mono ?_
  rintro e w_417 ⟨rfl, b_416⟩
  clear p_414 p_415
  have fX1_418 := Lib.hid (fX1_408.out.below b_416)
  have fW_419 := Lib.hid (below_trans fW_409.out b_416)
  have fs0_420 := Lib.hid (ownsRow_below fs0_410.out b_416)
  have fs1_421 := Lib.hid (ownsRow_below fs1_411.out b_416)
  have fg0_422 := Lib.hid (ownsRow_below fg0_412.out b_416)
  have fg1_423 := Lib.hid (ownsRow_below fg1_413.out b_416)
  clear fX1_408 fW_409 fs0_410 fs1_411 fg0_412 fg1_413 b_416
  obtain ⟨p_424, p_425, _, _⟩ := fX1_418.out.two
  clear hk_405
  go_wp2_with fail
  refine (l_markGateS _ _ _ _ _ _ _ _ fg0_422.out (by omega) (by omega) (by omega)).mono ?_
  rintro e w_428 ⟨rfl, om_427, gm_426⟩
  clear p_424 p_425
  have fX1_429 := Lib.hid (kept_app fg0_422.out gm_426 (fX1_418.out) (by decide))
  have fW_430 := Lib.hid (below_grown (fW_419.out) (Below.size (fW_419.out)) fg0_422.out hB_161 gm_426)
  have fs0_431 := Lib.hid (World.ownsRow.kept (fs0_420.out) gm_426 ap_162.out)
  have fs1_432 := Lib.hid (World.ownsRow.kept (fs1_421.out) gm_426 ap_164.out)
  have fg1_433 := Lib.hid (World.ownsRow.kept (fg1_423.out) gm_426 ap_183.out)
  have fg0_434 := Lib.hid om_427
  clear gm_426 fX1_418 fW_419 fs0_420 fs1_421 fg0_422 fg1_423
  obtain ⟨p_435, p_436, _, _⟩ := fX1_429.out.two
  go_wp2_with fail
  refine (l_markIntS _ _ _ _ _ _ _ _ fg1_433.out (by omega) (by omega) (by omega)).mono ?_
  rintro e w_439 ⟨rfl, om_438, gm_437⟩
  clear p_435 p_436
  have fX1_440 := Lib.hid (kept_app fg1_433.out gm_437 (fX1_429.out) (by decide))
  have fW_441 := Lib.hid (below_grown (fW_430.out) (Below.size (fW_430.out)) fg1_433.out hB_161 gm_437)
  have fs0_442 := Lib.hid (World.ownsRow.kept (fs0_431.out) gm_437 ap_172.out)
  have fs1_443 := Lib.hid (World.ownsRow.kept (fs1_432.out) gm_437 ap_174.out)
  have fg0_444 := Lib.hid (World.ownsRow.kept (fg0_434.out) gm_437 ap_182.out)
  have fg1_445 := Lib.hid om_438
  clear gm_437 fX1_429 fW_430 fs0_431 fs1_432 fg0_434 fg1_433
  obtain ⟨p_446, p_447, _, _⟩ := fX1_440.out.two
  go_wp2_with fail
  refine (l_heldGateS _ _ _ _ _ (RdG.own fg0_444.out) (by omega) (by omega) (by omega)).mono ?_
  rintro e w_448 ⟨rfl, rfl⟩
  go_wp2_with fail
  refine (l_heldIntS _ _ _ _ _ (RdI.own fg1_445.out) (by omega) (by omega) (by omega)).mono ?_
  rintro e w_449 ⟨rfl, rfl⟩
  clear p_446 p_447
  obtain ⟨p_450, p_451, _, _⟩ := fX1_440.out.two
  go_wp2_with fail
  have fX1_452 := Lib.hid (fX1_440.out.drew)
  have fW_453 := Lib.hid (fW_441.out.drew)
  have fs0_454 := Lib.hid (ownsRow_drew fs0_442.out)
  have fs1_455 := Lib.hid (ownsRow_drew fs1_443.out)
  have fg0_456 := Lib.hid (ownsRow_drew fg0_444.out)
  have fg1_457 := Lib.hid (ownsRow_drew fg1_445.out)
  go_region_held3 (fun w' => w'.cell? ⟨w.heap.size, 0, none⟩ = some (.int .i64 N1) ∧ w'.cell? ⟨w.heap.size, 1, none⟩ = some (.slice A1 n1 c1))
    (first | go_keep | exact ⟨s_470, s_471⟩ | exact ⟨s_485, s_486⟩ | exact ⟨s_501, s_502⟩ | exact ⟨s_544, s_545⟩)
    (first
      | (go_at_call 43; (with_reducible refine (l_toGateS _ _ _ _ _ (H0.out.below fW_453.out) hy0).mono ?_); rintro e w_462 ⟨A_458, c_459, rfl, o_460, b_461⟩; have fX1_463 := Lib.hid (fX1_452.out.below b_461); have fW_464 := Lib.hid (below_trans fW_453.out b_461); have fs0_465 := Lib.hid (ownsRow_below fs0_454.out b_461); have fs1_466 := Lib.hid (ownsRow_below fs1_455.out b_461); have fg0_467 := Lib.hid (ownsRow_below fg0_456.out b_461); have fg1_468 := Lib.hid (ownsRow_below fg1_457.out b_461); have t_469 := Lib.hid o_460; have ⟨s_470, s_471, _, _⟩ := fX1_463.out.two)
      | (go_at_call 44; (with_reducible refine (l_toGraph _ _ _ _ _ _ (H1.out.below fW_464.out) hy1).mono ?_); rintro e w_476 ⟨A_472, c_473, rfl, o_474, b_475⟩; have fX1_477 := Lib.hid (fX1_463.out.below b_475); have fW_478 := Lib.hid (below_trans fW_464.out b_475); have fs0_479 := Lib.hid (ownsRow_below fs0_465.out b_475); have fs1_480 := Lib.hid (ownsRow_below fs1_466.out b_475); have fg0_481 := Lib.hid (ownsRow_below fg0_467.out b_475); have fg1_482 := Lib.hid (ownsRow_below fg1_468.out b_475); have ft0_483 := Lib.hid (ownsRow_below t_469.out b_475); have t_484 := Lib.hid o_474; have ⟨s_485, s_486, _, _⟩ := fX1_477.out.two)
      | (go_at_call 49; (with_reducible refine (l_toIntS _ _ _ _ _ (H2.out.below fW_478.out) hy2).mono ?_); rintro e w_491 ⟨A_487, c_488, rfl, o_489, b_490⟩; have fX1_492 := Lib.hid (fX1_477.out.below b_490); have fW_493 := Lib.hid (below_trans fW_478.out b_490); have fs0_494 := Lib.hid (ownsRow_below fs0_479.out b_490); have fs1_495 := Lib.hid (ownsRow_below fs1_480.out b_490); have fg0_496 := Lib.hid (ownsRow_below fg0_481.out b_490); have fg1_497 := Lib.hid (ownsRow_below fg1_482.out b_490); have ft0_498 := Lib.hid (ownsRow_below ft0_483.out b_490); have ft1_499 := Lib.hid (ownsRow_below t_484.out b_490); have t_500 := Lib.hid o_489; have ⟨s_501, s_502, _, _⟩ := fX1_492.out.two)
      | (go_at_call 66; (with_reducible refine (i_RouteGates _ _ _ x0 _ _ _ _ x1 _ _ _ x2 _ (RdG.own ft0_498.out) (by omega) (RdP.own ft1_499.out) (by omega) (RdI.own t_500.out) (by omega)).mono ?_); rintro e w_513 ⟨A_504, c_505, A_507, c_508, rfl, o_506, o_509, b_503⟩; rw [HR0.out] at o_506 ⊢; rw [HQ0.out] at o_506 ⊢; rw [HR1.out] at o_509 ⊢; rw [HQ1.out] at o_509 ⊢; rw [HR2.out]; have hB_514 := fW_493.out.size; have ap_515 := Lib.hid (own_apart fs0_494.out o_506 (Nat.le_refl _)); have ap_516 := Lib.hid (own_apart_r fs0_494.out o_506 (Nat.le_refl _)); have ap_517 := Lib.hid (own_apart fs1_495.out o_506 (Nat.le_refl _)); have ap_518 := Lib.hid (own_apart_r fs1_495.out o_506 (Nat.le_refl _)); have ap_519 := Lib.hid (own_apart fg0_496.out o_506 (Nat.le_refl _)); have ap_520 := Lib.hid (own_apart_r fg0_496.out o_506 (Nat.le_refl _)); have ap_521 := Lib.hid (own_apart fg1_497.out o_506 (Nat.le_refl _)); have ap_522 := Lib.hid (own_apart_r fg1_497.out o_506 (Nat.le_refl _)); have ap_523 := Lib.hid (own_apart fs0_494.out o_509 (Nat.le_refl _)); have ap_524 := Lib.hid (own_apart_r fs0_494.out o_509 (Nat.le_refl _)); have ap_525 := Lib.hid (own_apart fs1_495.out o_509 (Nat.le_refl _)); have ap_526 := Lib.hid (own_apart_r fs1_495.out o_509 (Nat.le_refl _)); have ap_527 := Lib.hid (own_apart fg0_496.out o_509 (Nat.le_refl _)); have ap_528 := Lib.hid (own_apart_r fg0_496.out o_509 (Nat.le_refl _)); have ap_529 := Lib.hid (own_apart fg1_497.out o_509 (Nat.le_refl _)); have ap_530 := Lib.hid (own_apart_r fg1_497.out o_509 (Nat.le_refl _)); have ap_531 := Lib.hid (own_types o_506 o_509 (by decide)); have ap_532 := Lib.hid (own_types o_509 o_506 (by decide)); have fX1_533 := Lib.hid (fX1_492.out.below b_503); have fW_534 := Lib.hid (below_trans fW_493.out b_503); have fs0_535 := Lib.hid (ownsRow_below fs0_494.out b_503); have fs1_536 := Lib.hid (ownsRow_below fs1_495.out b_503); have fg0_537 := Lib.hid (ownsRow_below fg0_496.out b_503); have fg1_538 := Lib.hid (ownsRow_below fg1_497.out b_503); have ft0_539 := Lib.hid (ownsRow_below ft0_498.out b_503); have ft1_540 := Lib.hid (ownsRow_below ft1_499.out b_503); have ft2_541 := Lib.hid (ownsRow_below t_500.out b_503); have oh0_542 := Lib.hid o_506; have oh1_543 := Lib.hid o_509; have ⟨s_544, s_545, _, _⟩ := fX1_533.out.two)
      | fail)
  clear p_450 p_451
  clear fX1_440 fW_441 fs0_442 fs1_443 fg0_444 fg1_445
  obtain ⟨p_546, p_547, _, _⟩ := fX1_533.out.two
  go_wp2_with fail
  refine (l_eqGateS_same _ _ _ _ _ _ _ (RdG.own oh0_542.out) (RdG.own fs0_535.out) (by omega)).mono ?_
  rintro e w_549 ⟨rfl, b_548⟩
  clear p_546 p_547
  have fX1_550 := Lib.hid (fX1_533.out.below b_548)
  have fW_551 := Lib.hid (below_trans fW_534.out b_548)
  have fs0_552 := Lib.hid (ownsRow_below fs0_535.out b_548)
  have fs1_553 := Lib.hid (ownsRow_below fs1_536.out b_548)
  have fg0_554 := Lib.hid (ownsRow_below fg0_537.out b_548)
  have fg1_555 := Lib.hid (ownsRow_below fg1_538.out b_548)
  have fh0_556 := Lib.hid (ownsRow_below oh0_542.out b_548)
  have fh1_557 := Lib.hid (ownsRow_below oh1_543.out b_548)
  clear fX1_533 fW_534 fs0_535 fs1_536 fg0_537 fg1_538 oh0_542 oh1_543 b_548
  obtain ⟨p_558, p_559, _, _⟩ := fX1_550.out.two
  go_wp2_with fail
  refine (l_eqIntS_same _ _ _ _ _ _ _ (RdI.own fh1_557.out) (RdI.own fs1_553.out) (by omega)).mono ?_
  rintro e w_561 ⟨rfl, b_560⟩
  clear p_558 p_559
  have fX1_562 := Lib.hid (fX1_550.out.below b_560)
  have fW_563 := Lib.hid (below_trans fW_551.out b_560)
  have fs0_564 := Lib.hid (ownsRow_below fs0_552.out b_560)
  have fs1_565 := Lib.hid (ownsRow_below fs1_553.out b_560)
  have fg0_566 := Lib.hid (ownsRow_below fg0_554.out b_560)
  have fg1_567 := Lib.hid (ownsRow_below fg1_555.out b_560)
  have fh0_568 := Lib.hid (ownsRow_below fh0_556.out b_560)
  have fh1_569 := Lib.hid (ownsRow_below fh1_557.out b_560)
  clear fX1_550 fW_551 fs0_552 fs1_553 fg0_554 fg1_555 fh0_556 fh1_557 b_560
  obtain ⟨p_570, p_571, _, _⟩ := fX1_562.out.two
  go_wp2_with fail
  refine (l_heldGateS _ _ _ _ _ (RdG.own fg0_566.out) (by omega) (by omega) (by omega)).mono ?_
  rintro e w_572 ⟨rfl, rfl⟩
  go_wp2_with fail
  refine (l_heldIntS _ _ _ _ _ (RdI.own fg1_567.out) (by omega) (by omega) (by omega)).mono ?_
  rintro e w_573 ⟨rfl, rfl⟩
  go_wp2_with fail
  go_ret
  exact ⟨rfl, fW_563.out⟩

theorem own : ownKnob Try.prog.godebug = none := by kernel_rfl
theorem laidOut : laidOutB Try.prog = true := by kernel_rfl
set_option maxRecDepth 100000 in
theorem lifted (os : Os) (started : os.Started) (H : Type) (enc : TypeId × Value → H) :
    ReturnsInHanded {} Try.checked os 14 .any (Rows.fnExactRouteGatesSpec.pre6 enc Try.prog Try.f14 Rows.fnExactRouteGatesRow.domain false) (Rows.fnExactRouteGatesSpec.post enc Try.prog Try.f14 false true false false) := by
  refine returnsInHanded_of_change (C := Try.checked) own started (by kernel_rfl) Try.func14
    (ChangeSpec.witness6 (enc := enc) (C := Try.checked) false ⟨#[], #[.slice none 0 0, .agg #[.int .i64 0, .slice none 0 0], .slice none 0 0], []⟩ 8 (by kernel_rfl) (by kernel_rfl) (by kernel_rfl) (by kernel_rfl)) ?_
  intro W base args ds gs before hval0 hW hcnd _
  have hval : ∀ (j : Nat) t v, Try.f14.params[j]? = some t → args[j]? = some v → Value.okWide Try.prog W .any base t v := hval0
  have hW' := hW
  obtain ⟨p, q, hA0, hV, rfl, hfz, hnd⟩ := hW
  have hA : DataW.TrodAll enc Try.prog W 0 (fun _ => true) true Try.f14.params.toList args.toList ds p := hA0
  rw [Try.params14] at hA hval
  obtain ⟨v0, vs0, d0, ds0, p0, q0, hargs, rfl, rfl, h0, t0⟩ := trodAll_cons hA
  obtain ⟨v1, vs1, d1, ds1, p1, q1, rfl, rfl, rfl, h1, t1⟩ := trodAll_cons t0
  obtain ⟨v2, vs2, d2, ds2, p2, q2, rfl, rfl, rfl, h2, t2⟩ := trodAll_cons t1
  obtain ⟨rfl, rfl, rfl⟩ := trodAll_nil t2
  obtain rfl : args = #[v0, v1, v2] := by cases args; simp_all
  obtain ⟨rfl, rfl⟩ := trodVars_none hV
  have k0 := h0
  have lt0 : ∀ x ∈ p0, x.block < W.heap.size := by obtain ⟨m, hm⟩ := k0; exact DataW.trod_lt m _ _ _ hm
  obtain ⟨A0, n0, c0, rfl⟩ := okWide_slice Try.underlying46 (hval 0 46 v0 rfl rfl)
  obtain ⟨fu0, hf0⟩ := h0
  obtain ⟨_, _, _, x0, e0, r0, l0, m0, ok0⟩ := open_gates Try.underlying46 Try.underlying69 (by kernel_rfl) (by kernel_rfl) Try.underlying3 Try.underlying3 Try.underlying3 Try.underlying3 hf0
  simp only [Value.slice.injEq] at e0
  obtain ⟨rfl, rfl, rfl⟩ := e0
  have k1 := h1
  have lt1 : ∀ x ∈ p1, x.block < W.heap.size := by obtain ⟨m, hm⟩ := k1; exact DataW.trod_lt m _ _ _ hm
  obtain ⟨y0, y1, e0, e1, fu1, rfl, rfl, _, g0, g1⟩ := Joins.open_agg2 Try.underlying49 (by kernel_rfl) (by kernel_rfl) (hval 1 49 v1 rfl rfl) h1
  obtain ⟨N1, f0, _, w1⟩ := DataW.trod_int Try.underlying3 g0
  simp only [List.cons.injEq, and_true] at f0
  subst f0
  obtain ⟨A1, n1, c1, x1, rfl, r1, l1, m1, ok1⟩ := open_pairs Try.underlying47 Try.underlying111 (by kernel_rfl) (by kernel_rfl) Try.underlying3 Try.underlying3 g1
  clear g0 g1
  have k2 := h2
  have lt2 : ∀ x ∈ p2, x.block < W.heap.size := by obtain ⟨m, hm⟩ := k2; exact DataW.trod_lt m _ _ _ hm
  obtain ⟨A2, n2, c2, rfl⟩ := okWide_slice Try.underlying31 (hval 2 31 v2 rfl rfl)
  obtain ⟨fu2, hf2⟩ := h2
  obtain ⟨_, _, _, x2, e2, r2, l2, m2, ok2⟩ := open_nums Try.underlying31 Try.underlying3 (by kernel_rfl) hf2
  simp only [Value.slice.injEq] at e2
  obtain ⟨rfl, rfl, rfl⟩ := e2
  clear hA0 hval0
  refine (walk A0 n0 c0 x0 N1 A1 n1 c1 x1 A2 n2 c2 x2 W r0 l0 m0 ok0 (i64_of_wf w1) r1 l1 m1 ok1 r2 l2 m2 ok2).mono fun e W' ⟨he, bel⟩ => ?_
  subst he
  exact ⟨_, rfl, _, _, _, [], _, [], hW', trodAll_mk1 (shut_bool Try.underlying4 _), (trodAll_cons_mk (Below.trod laidOut (by kernel_rfl) (of_decide_eq_true (by kernel_rfl)) k0 bel lt0) (trodAll_cons_mk (Below.trod laidOut (by kernel_rfl) (of_decide_eq_true (by kernel_rfl)) k1 bel lt1) (trodAll_cons_mk (Below.trod laidOut (by kernel_rfl) (of_decide_eq_true (by kernel_rfl)) k2 bel lt2) trodAll_mk0))), rfl, bel.frame _, fun h => by cases h⟩

theorem over : Rows.fnExactRouteGatesRow.holds Try.pinned (OpenSpec.ofChange Rows.fnExactRouteGatesSpec) :=
  OpenClaim.holds_of_wide 14 Try.f14 rfl rfl rfl rfl rfl rfl rfl ⟨rfl, rfl, rfl, rfl, rfl⟩ rfl rfl rfl rfl rfl (by kernel_rfl) Try.func14 (by kernel_rfl)
    (of_decide_eq_true (by kernel_rfl)) (by unfold Func.isWrapper; first | (rw [if_pos (by decide +kernel)]; kernel_rfl) | (rw [if_neg (by decide +kernel)]; exact ⟨rfl, rfl⟩))
    (fun os started H enc _ => lifted os started H enc)

theorem proved : Rows.FnExactRouteGatesSaid := over
#print axioms proved
end Go.Proofs.Ythijgdpnodiceaa.fnExactRouteGates
