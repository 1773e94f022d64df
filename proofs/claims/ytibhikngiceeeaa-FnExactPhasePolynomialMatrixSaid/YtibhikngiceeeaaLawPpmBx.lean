/- The law FnExactPhasePolynomialMatrix returns true for every input. No condition. -/
import Derived.Test.YtibhikngiceeeaaRows
import Derived.Test.YtibhikngiceeeaaSSqDOmegaBx
import Derived.Test.YtibhikngiceeeaaOpenBx
import Derived.Deep.RegionHeld3
import Derived.ChangeOld
namespace Go.Proofs.Ytibhikngiceeeaa.fnExactPhasePolynomialMatrix
open Go.ChangeShapes Go.WideShapes Go.ChangeAt Go.RowKit
set_option linter.unusedVariables false

theorem ppm_bd (p : Po) : (ppm p).length ≤ 16 ∧ ∀ x ∈ ppm p, x.length ≤ 16 := by
  unfold ppm
  split
  · rename_i h
    have h4 := inB_iff.1 h.1
    have hl := ppmN_len (p := p) (n := p.N.toNat) (by omega)
    refine ⟨hl, fun x hx => ?_⟩
    unfold ppmN at hx
    split at hx
    · simp at hx
    · rw [flipL_rows _ x hx, colsP_len]; exact pow_le16 (by omega)
  · simp
theorem OwnSS.marked {α : Type} {cs : List α → List Value} {sz : Nat} {base eo ei : Nat} {v v1 v2 : Value} {l : List (List α)} {w w' : World} {b1 e1 s1 n1 b2 e2 s2 n2 : Nat} {x1 x2 : List Value} (h : OwnSS cs w base eo ei sz v l) (hm : Marked w w' v1 v2) (h1 : w.ownsRow b1 e1 s1 v1 n1 x1) (h2 : w.ownsRow b2 e2 s2 v2 n2 x2) (q1 : eo ≠ e1) (q2 : eo ≠ e2) (q3 : ei ≠ e1) (q4 : ei ≠ e2) : OwnSS cs w' base eo ei sz v l := by
  obtain ⟨vs, a1, a2, a3⟩ := h
  refine ⟨vs, hm.own a1 (own_own_ne' a1 h1 q1) (own_own_ne' a1 h2 q2), fun j x hx => ?_, a3⟩
  obtain ⟨B, c, k1, k2⟩ := a2 j x hx
  exact ⟨B, c, k1, hm.own k2 (own_own_ne' k2 h1 q3) (own_own_ne' k2 h2 q4)⟩
set_option maxRecDepth 100000 in
set_option maxHeartbeats 6400000 in
theorem walk (N0 H0 : Int) (AT0 : Option Addr) (nT0 cT0 : Nat) (xT0 : List (Int × Int)) (AO0 : Option Addr) (nO0 cO0 : Nat) (xO0 : List (Int × Int)) (w : World) (iN0 : I64 N0) (iH0 : I64 H0) (rT0 : RdP w AT0 nT0 xT0) (lT0 : nT0 ≤ cT0) (mT0 : cT0 ≤ maxLen) (okT0 : ∀ g ∈ xT0, I64 g.1 ∧ I64 g.2) (rO0 : RdP w AO0 nO0 xO0) (lO0 : nO0 ≤ cO0) (mO0 : cO0 ≤ maxLen) (okO0 : ∀ g ∈ xO0, I64 g.1 ∧ I64 g.2) :
    Calls Try.prog 3 #[.agg #[.int .i64 N0, .int .i64 H0, .slice AT0 nT0 cT0, .slice AO0 nO0 cO0]] w fun e w' => e = .returned (.bool true) ∧ Below w.heap.size w w' := by
  unfold maxLen at mT0 mO0
  have RT0 := Lib.hid rT0
  have zT0 : xT0.length ≤ nT0 := by have := rT0.1; omega
  have RO0 := Lib.hid rO0
  have zO0 : xO0.length ≤ nO0 := by have := rO0.1; omega
  clear rT0 rO0 okT0 okO0 iN0 iH0
  obtain ⟨l, hl⟩ : ∃ l, ppm ⟨N0, H0, xT0, xO0⟩ = l := ⟨_, rfl⟩
  have hbd := ppm_bd ⟨N0, H0, xT0, xO0⟩
  rw [hl] at hbd
  obtain ⟨q, hq⟩ : ∃ q, l.length = q := ⟨_, rfl⟩
  obtain ⟨t, htt⟩ : ∃ t, tot (lensDOmega l) = t := ⟨_, rfl⟩
  have hq16 : q ≤ 16 := by rw [← hq]; exact hbd.1
  have ht256 : t ≤ 256 := by
    have h1 := tot_le (lensDOmega l) 16 (fun x hx => by obtain ⟨y, hy, rfl⟩ := List.mem_map.1 hx; exact hbd.2 y hy)
    have h2 : (lensDOmega l).length = q := by rw [lensDOmega, List.length_map, hq]
    rw [htt, h2] at h1
    omega
  have HROW := Lib.hid (show ∀ x ∈ l, x.length ≤ 1099511627776 from fun x hx => by have := hbd.2 x hx; omega)
  have HL := Lib.hid hl
  have HQ := Lib.hid hq
  have HTT := Lib.hid htt
  have HML := Lib.hid (show (marksL markD 5 (lensDOmega l) 1).length = q by rw [marksL_len, lensDOmega, List.length_map, hq])
  have HLL := Lib.hid (show (lensDOmega l).length = q by rw [lensDOmega, List.length_map, hq])
  clear hl hq htt hbd
  have X0 := Lib.hid (Bx.new w 25 #[.int .i64 N0, .int .i64 H0, .slice AT0 nT0 cT0, .slice AO0 nO0 cO0])
  have BZ : Hid (Below w.heap.size w (w.alloc (.cells #[.int .i64 N0, .int .i64 H0, .slice AT0 nT0 cT0, .slice AO0 nO0 cO0] 25))) := Lib.hid ((Below.refl _ _).alloc (Nat.le_refl _) _)
  by_cases hz0 : (nT0 : Int) + nO0 ≤ 1048576
  rotate_left
  · go_enter Try.func3, Try.ntmps3
    go_wp2_with fail
    refine (l_szPoly _ _ _ _ _ _ _ _ _ (by omega) (by omega) (by omega) (by omega) _).mono ?_
    rintro e wa ⟨rfl, ba⟩
    rw [if_neg (by omega)]
    go_wp2_with fail
    go_ret
    exact ⟨rfl, below_trans BZ.out ba⟩
  go_enter Try.func3, Try.ntmps3
  go_wp2_with fail
  refine (l_szPoly _ _ _ _ _ _ _ _ _ (by omega) (by omega) (by omega) (by omega) _).mono ?_
  rintro e wa ⟨rfl, ba⟩
  rw [if_pos hz0]
  have fW_1 := Lib.hid (below_trans BZ.out ba)
  have fX0_2 := Lib.hid (X0.out.below ba)
  clear BZ X0
  clear ba
  obtain ⟨p0, p1, p2, p3, _, _, _, _⟩ := fX0_2.out.four
  go_wp2_with fail
  refine (l_toPoly N0 H0 AT0 nT0 cT0 xT0 AO0 nO0 cO0 xO0 _ (RT0.out.below fW_1.out) (RO0.out.below fW_1.out) (by omega) (by omega)).mono ?_
  rintro e w_10 ⟨v, rfl, ⟨A_3, c_4, B_5, d_6, rfl, t_7, o_8⟩, b_9⟩
  clear p0 p1 p2 p3
  have fW_11 := Lib.hid (below_trans fW_1.out b_9)
  have fX0_12 := Lib.hid (fX0_2.out.below b_9)
  clear fW_1 fX0_2
  obtain ⟨p0, p1, p2, p3, _, _, _, _⟩ := fX0_12.out.four
  go_wp2_with fail
  refine (s_Ppm ⟨N0, H0, xT0, xO0⟩ _ _ _ _ _ _ _ (RdP.own t_7) (RdP.own o_8) (by omega)).mono ?_
  rintro e w_14 ⟨AS, cS, rfl, oS, b_13⟩
  rw [HL.out, HQ.out] at oS ⊢
  clear p0 p1 p2 p3
  have fW_15 := Lib.hid (below_trans fW_11.out b_13)
  have fX0_16 := Lib.hid (fX0_12.out.below b_13)
  clear fW_11 fX0_12
  clear b_13 b_9
  have OS := Lib.hid oS
  clear oS
  have hWV : w.heap.size < w_14.heap.size := Bx.lt fX0_16.out
  have fV_17 := Lib.hid (Below.refl w_14.heap.size w_14)
  obtain ⟨p0, p1, p2, p3, _, _, _, _⟩ := fX0_16.out.four
  go_wp2_with fail
  refine (l_toPoly N0 H0 AT0 nT0 cT0 xT0 AO0 nO0 cO0 xO0 _ (RT0.out.below fW_15.out) (RO0.out.below fW_15.out) (by omega) (by omega)).mono ?_
  rintro e w_25 ⟨v, rfl, ⟨A_18, c_19, B_20, d_21, rfl, t_22, o_23⟩, b_24⟩
  clear p0 p1 p2 p3
  have hT5 := ownsRow_base t_22 (fV_17.out).size
  have hO5 := ownsRow_base o_23 (fV_17.out).size
  have fW_26 := Lib.hid (below_trans fW_15.out b_24)
  have fX0_27 := Lib.hid (fX0_16.out.below b_24)
  have fV_28 := Lib.hid (below_trans fV_17.out b_24)
  clear fW_15 fX0_16 fV_17
  have fW_29 := Lib.hid (Below.alloc fW_26.out (Below.size fW_26.out) (.cells #[.int .i64 N0, .int .i64 H0, .slice A_18 xT0.length c_19, .slice B_20 xO0.length d_21] 32))
  have fX0_30 := Lib.hid (Bx.alloc fX0_27.out (.cells #[.int .i64 N0, .int .i64 H0, .slice A_18 xT0.length c_19, .slice B_20 xO0.length d_21] 32))
  have fV_31 := Lib.hid (Below.alloc fV_28.out (Below.size fV_28.out) (.cells #[.int .i64 N0, .int .i64 H0, .slice A_18 xT0.length c_19, .slice B_20 xO0.length d_21] 32))
  clear fW_26 fX0_27 fV_28
  have fxT_32 := Lib.hid (World.ownsRow.alloc hT5 (.cells #[.int .i64 N0, .int .i64 H0, .slice A_18 xT0.length c_19, .slice B_20 xO0.length d_21] 32))
  have fxO_33 := Lib.hid (World.ownsRow.alloc hO5 (.cells #[.int .i64 N0, .int .i64 H0, .slice A_18 xT0.length c_19, .slice B_20 xO0.length d_21] 32))
  have fxX_34 := Lib.hid (Bx.new w_25 32 #[.int .i64 N0, .int .i64 H0, .slice A_18 xT0.length c_19, .slice B_20 xO0.length d_21])
  clear t_22 o_23 b_24 hT5 hO5
  obtain ⟨q0, q1, q2, q3, _, _, _, _⟩ := fxX_34.out.four
  go_wp2_with fail
  refine (i_Ppm ⟨N0, H0, xT0, xO0⟩ _ _ _ _ _ _ _ (RdP.own fxT_32.out) (RdP.own fxO_33.out) (by omega)).mono ?_
  rintro e w_36 ⟨AG, cG, rfl, oG, b_35⟩
  rw [HL.out, HQ.out] at oG ⊢
  have oG2 := OwnSS.base_ oG (fW_29.out).size
  have oG3 := OwnSS.base_ oG (fV_31.out).size
  clear oG oG2 q0 q1 q2 q3
  have fW_37 := Lib.hid (below_trans fW_29.out b_35)
  have fX0_38 := Lib.hid (fX0_30.out.below b_35)
  have fV_39 := Lib.hid (below_trans fV_31.out b_35)
  have fxT_40 := Lib.hid (ownsRow_below fxT_32.out b_35)
  have fxO_41 := Lib.hid (ownsRow_below fxO_33.out b_35)
  have fxX_42 := Lib.hid (fxX_34.out.below b_35)
  clear fW_29 fX0_30 fV_31 fxT_32 fxO_33 fxX_34
  have fG_43 := Lib.hid (oG3)
  clear oG3 b_35
  go_wp2_with fail
  refine (l_eqDOmegaSS_same _ _ _ _ _ l _ (fG_43.out.rd HQ.out) ((OS.out.below fV_39.out).rd HQ.out) (by omega) HROW.out).mono ?_
  rintro e w_45 ⟨rfl, b_44⟩
  have fW_46 := Lib.hid (below_trans fW_37.out b_44)
  have fX0_47 := Lib.hid (fX0_38.out.below b_44)
  have fV_48 := Lib.hid (below_trans fV_39.out b_44)
  have fxT_49 := Lib.hid (ownsRow_below fxT_40.out b_44)
  have fxO_50 := Lib.hid (ownsRow_below fxO_41.out b_44)
  have fxX_51 := Lib.hid (fxX_42.out.below b_44)
  have fG_52 := Lib.hid (fG_43.out.below b_44)
  clear fW_37 fX0_38 fV_39 fxT_40 fxO_41 fxX_42 fG_43
  clear b_44
  obtain ⟨p0, p1, p2, p3, _, _, _, _⟩ := fX0_47.out.four
  obtain ⟨q0, q1, q2, q3, _, _, _, _⟩ := fxX_51.out.four
  go_wp2_with fail
  have fW_53 := Lib.hid (fW_46.out.drew)
  have fX0_54 := Lib.hid (fX0_47.out.drew)
  have fV_55 := Lib.hid (fV_48.out.drew)
  have fxT_56 := Lib.hid (ownsRow_drew fxT_49.out)
  have fxO_57 := Lib.hid (ownsRow_drew fxO_50.out)
  have fxX_58 := Lib.hid (fxX_51.out.drew)
  have fG_59 := Lib.hid (fG_52.out.drew)
  go_region_held3 (fun w' => w'.cell? ⟨w.heap.size, 0, none⟩ = some (.int .i64 N0) ∧ w'.cell? ⟨w.heap.size, 1, none⟩ = some (.int .i64 H0) ∧ w'.cell? ⟨w.heap.size, 2, none⟩ = some (.slice AT0 nT0 cT0) ∧ w'.cell? ⟨w.heap.size, 3, none⟩ = some (.slice AO0 nO0 cO0) ∧ w'.cell? ⟨w_25.heap.size, 0, none⟩ = some (.int .i64 N0) ∧ w'.cell? ⟨w_25.heap.size, 1, none⟩ = some (.int .i64 H0) ∧ w'.cell? ⟨w_25.heap.size, 2, none⟩ = some (.slice A_18 xT0.length c_19) ∧ w'.cell? ⟨w_25.heap.size, 3, none⟩ = some (.slice B_20 xO0.length d_21))
    (first | with_reducible exact ⟨s_77, s_78, s_79, s_80, s_81, s_82, s_83, s_84⟩ | with_reducible exact ⟨s_94, s_95, s_96, s_97, s_98, s_99, s_100, s_101⟩ | go_keep)
    (first
      | (go_at_call 10; (with_reducible refine (l_toPoly N0 H0 AT0 nT0 cT0 xT0 AO0 nO0 cO0 xO0 _ (RT0.out.below fW_53.out) (RO0.out.below fW_53.out) (by omega) (by omega)).mono ?_); rintro e w_67 ⟨v, rfl, ⟨A_60, c_61, B_62, d_63, rfl, t_64, o_65⟩, b_66⟩; have fW_68 := Lib.hid (below_trans fW_53.out b_66); have fX0_69 := Lib.hid (fX0_54.out.below b_66); have fV_70 := Lib.hid (below_trans fV_55.out b_66); have fxT_71 := Lib.hid (ownsRow_below fxT_56.out b_66); have fxO_72 := Lib.hid (ownsRow_below fxO_57.out b_66); have fxX_73 := Lib.hid (fxX_58.out.below b_66); have fG_74 := Lib.hid (fG_59.out.below b_66); have ft_75 := Lib.hid t_64; have fo_76 := Lib.hid o_65; have ⟨s_77, s_78, s_79, s_80, _, _, _, _⟩ := fX0_69.out.four; have ⟨s_81, s_82, s_83, s_84, _, _, _, _⟩ := fxX_73.out.four)
      | (go_at_call 13; (with_reducible refine (l_eqPoly_same _ _ _ _ _ _ _ xT0 _ _ _ _ _ xO0 _ (RdP.own fxT_71.out) (RdP.own ft_75.out) (RdP.own fxO_72.out) (RdP.own fo_76.out) (by omega) (by omega)).mono ?_); rintro e w_86 ⟨rfl, b_85⟩; have fW_87 := Lib.hid (below_trans fW_68.out b_85); have fX0_88 := Lib.hid (fX0_69.out.below b_85); have fV_89 := Lib.hid (below_trans fV_70.out b_85); have fxT_90 := Lib.hid (ownsRow_below fxT_71.out b_85); have fxO_91 := Lib.hid (ownsRow_below fxO_72.out b_85); have fxX_92 := Lib.hid (fxX_73.out.below b_85); have fG_93 := Lib.hid (fG_74.out.below b_85); have ⟨s_94, s_95, s_96, s_97, _, _, _, _⟩ := fX0_88.out.four; have ⟨s_98, s_99, s_100, s_101, _, _, _, _⟩ := fxX_92.out.four)
      | fail)
  clear p0 p1 p2 p3 q0 q1 q2 q3
  clear fW_46 fX0_47 fV_48 fxT_49 fxO_50 fxX_51 fG_52
  obtain ⟨q0, q1, q2, q3, _, _, _, _⟩ := fxX_92.out.four
  go_wp2_with fail
  refine (l_markPoly _ _ _ _ _ _ _ _ _ _ _ _ _ fxT_90.out fxO_91.out (by omega) (by omega) (by omega) (by omega)).mono ?_
  rintro e wm ⟨rfl, tm, om, hm⟩
  have nV := Lib.hid (hm.below fV_89.out (fV_89.out).size (fun k hk => ((fxT_90.out).lt k hk).1) (fun k hk => ((fxO_91.out).lt k hk).1))
  have nW := Lib.hid (hm.below fW_87.out (fW_87.out).size (fun k hk => Nat.le_trans (Nat.le_of_lt hWV) ((fxT_90.out).lt k hk).1) (fun k hk => Nat.le_trans (Nat.le_of_lt hWV) ((fxO_91.out).lt k hk).1))
  have nG := Lib.hid (OwnSS.marked fG_93.out hm fxT_90.out fxO_91.out (by decide) (by decide) (by decide) (by decide))
  have nX := Lib.hid (hm.bx fX0_88.out (fun h => by have := ((fxT_90.out).lt _ h.symm).1; omega) (fun h => by have := ((fxO_91.out).lt _ h.symm).1; omega))
  clear tm om hm q0 q1 q2 q3 fW_87 fX0_88 fV_89 fxT_90 fxO_91 fxX_92 fG_93
  go_wp2_with fail
  refine (l_eqDOmegaSS_same _ _ _ _ _ l _ (nG.out.rd HQ.out) ((OS.out.below nV.out).rd HQ.out) (by omega) HROW.out).mono ?_
  rintro e w_103 ⟨rfl, b_102⟩
  have fW_104 := Lib.hid (below_trans nW.out b_102)
  have fV_105 := Lib.hid (below_trans nV.out b_102)
  have fG_106 := Lib.hid (nG.out.below b_102)
  have fX0_107 := Lib.hid (nX.out.below b_102)
  clear nW nV nG nX
  clear b_102
  go_wp2_with fail
  refine (l_markDOmegaSS _ _ _ _ _ _ 1 l _ (by decide) (fV_105.out).size fG_106.out HQ.out (by omega) (by rw [HTT.out]; omega) (by omega) (by omega)).mono ?_
  rintro e wk ⟨rfl, oK, bK⟩
  rw [HTT.out]
  have kV := Lib.hid ((fV_105.out).trans bK)
  have kW := Lib.hid ((fW_104.out).trans (bK.mono (Nat.le_of_lt hWV)))
  have kX := Lib.hid (Bx.blockB fX0_107.out bK hWV)
  have kG := Lib.hid oK
  clear oK bK fW_104 fV_105 fG_106 fX0_107
  go_wp2_with fail
  refine (l_heldDOmegaSS _ _ _ 1 _ _ (kG.out.rd HML.out) HLL.out (by omega) (by rw [HTT.out]; omega) (by omega) (by omega)).mono ?_
  rintro e wh ⟨rfl, rfl⟩
  rw [HTT.out]
  obtain ⟨p0, p1, p2, p3, _, _, _, _⟩ := kX.out.four
  go_wp2_with fail
  refine (l_toPoly N0 H0 AT0 nT0 cT0 xT0 AO0 nO0 cO0 xO0 _ (RT0.out.below kW.out) (RO0.out.below kW.out) (by omega) (by omega)).mono ?_
  rintro e w_115 ⟨v, rfl, ⟨A_108, c_109, B_110, d_111, rfl, t_112, o_113⟩, b_114⟩
  clear p0 p1 p2 p3
  have fW_116 := Lib.hid (below_trans kW.out b_114)
  have fV_117 := Lib.hid (below_trans kV.out b_114)
  have fG_118 := Lib.hid (kG.out.below b_114)
  have fX0_119 := Lib.hid (kX.out.below b_114)
  clear kW kV kG kX
  go_wp2_with fail
  refine (i_Ppm ⟨N0, H0, xT0, xO0⟩ _ _ _ _ _ _ _ (RdP.own t_112) (RdP.own o_113) (by omega)).mono ?_
  rintro e w_121 ⟨AH, cH, rfl, oH, b_120⟩
  rw [HL.out, HQ.out] at oH ⊢
  have fW_122 := Lib.hid (below_trans fW_116.out b_120)
  have fV_123 := Lib.hid (below_trans fV_117.out b_120)
  have fG_124 := Lib.hid (fG_118.out.below b_120)
  have fX0_125 := Lib.hid (fX0_119.out.below b_120)
  clear fW_116 fV_117 fG_118 fX0_119
  clear b_120 b_114
  go_wp2_with fail
  refine (l_eqDOmegaSS_same _ _ _ _ _ l _ (oH.rd HQ.out) ((OS.out.below fV_123.out).rd HQ.out) (by omega) HROW.out).mono ?_
  rintro e w_127 ⟨rfl, b_126⟩
  have fW_128 := Lib.hid (below_trans fW_122.out b_126)
  have fV_129 := Lib.hid (below_trans fV_123.out b_126)
  have fG_130 := Lib.hid (fG_124.out.below b_126)
  have fX0_131 := Lib.hid (fX0_125.out.below b_126)
  clear fW_122 fV_123 fG_124 fX0_125
  clear b_126
  go_wp2_with fail
  refine (l_heldDOmegaSS _ _ _ 1 _ _ (fG_130.out.rd HML.out) HLL.out (by omega) (by rw [HTT.out]; omega) (by omega) (by omega)).mono ?_
  rintro e wh ⟨rfl, rfl⟩
  rw [HTT.out]
  go_wp2_with fail
  go_ret
  exact ⟨rfl, fW_128.out⟩

theorem own : ownKnob Try.prog.godebug = none := by kernel_rfl
theorem laidOut : laidOutB Try.prog = true := by kernel_rfl
set_option maxRecDepth 100000 in
theorem lifted (os : Os) (started : os.Started) (H : Type) (enc : TypeId × Value → H) :
    ReturnsInHanded {} Try.checked os 3 .any (Rows.fnExactPhasePolynomialMatrixSpec.pre6 enc Try.prog Try.f3 Rows.fnExactPhasePolynomialMatrixRow.domain false) (Rows.fnExactPhasePolynomialMatrixSpec.post enc Try.prog Try.f3 false true false false) := by
  refine returnsInHanded_of_change (C := Try.checked) own started (by kernel_rfl) Try.func3
    (ChangeSpec.witness6 (enc := enc) (C := Try.checked) false ⟨#[], #[.agg #[.int .i64 0, .int .i64 0, .slice none 0 0, .slice none 0 0]], []⟩ 8 (by kernel_rfl) (by kernel_rfl) (by kernel_rfl) (by kernel_rfl)) ?_
  intro W base args ds gs before hval0 hW hcnd _
  have hval : ∀ (j : Nat) t v, Try.f3.params[j]? = some t → args[j]? = some v → Value.okWide Try.prog W .any base t v := hval0
  have hW' := hW
  obtain ⟨p, q, hA0, hV, rfl, hfz, hnd⟩ := hW
  have hA : DataW.TrodAll enc Try.prog W 0 (fun _ => true) true Try.f3.params.toList args.toList ds p := hA0
  rw [Try.params3] at hA hval
  obtain ⟨v0, vs0, d0, ds0, p0, q0, hargs, rfl, rfl, h0, t0⟩ := trodAll_cons hA
  obtain ⟨rfl, rfl, rfl⟩ := trodAll_nil t0
  obtain rfl : args = #[v0] := by cases args; simp_all
  obtain ⟨rfl, rfl⟩ := trodVars_none hV
  have k0 := h0
  have lt0 : ∀ x ∈ p0, x.block < W.heap.size := by obtain ⟨m, hm⟩ := k0; exact DataW.trod_lt m _ _ _ hm
  obtain ⟨y0, y1, y2, y3, e0, e1, e2, e3, fu0, rfl, rfl, _, g0, g1, g2, g3⟩ := Joins.open_agg4 Try.underlying25 (by kernel_rfl) (by kernel_rfl) (hval 0 25 v0 rfl rfl) h0
  obtain ⟨N0, f0, _, w00⟩ := DataW.trod_int Try.underlying3 g0
  simp only [List.cons.injEq, and_true] at f0
  subst f0
  obtain ⟨H0, f1, _, w01⟩ := DataW.trod_int Try.underlying3 g1
  simp only [List.cons.injEq, and_true] at f1
  subst f1
  obtain ⟨AT0, nT0, cT0, xT0, rfl, rT0, lT0, mT0, okT0⟩ := open_pairs Try.underlying22 Try.underlying133 (by kernel_rfl) (by kernel_rfl) Try.underlying3 Try.underlying3 g2
  obtain ⟨AO0, nO0, cO0, xO0, rfl, rO0, lO0, mO0, okO0⟩ := open_pairs Try.underlying23 Try.underlying135 (by kernel_rfl) (by kernel_rfl) Try.underlying3 Try.underlying3 g3
  clear g0 g1 g2 g3
  clear hA0 hval0
  refine (walk N0 H0 AT0 nT0 cT0 xT0 AO0 nO0 cO0 xO0 W (i64_of_wf w00) (i64_of_wf w01) rT0 lT0 mT0 okT0 rO0 lO0 mO0 okO0).mono fun e W' ⟨he, bel⟩ => ?_
  subst he
  exact ⟨_, rfl, _, _, _, [], _, [], hW', trodAll_mk1 (shut_bool Try.underlying4 _), (trodAll_cons_mk (Below.trod laidOut (by kernel_rfl) (of_decide_eq_true (by kernel_rfl)) k0 bel lt0) trodAll_mk0), rfl, bel.frame _, fun h => by cases h⟩

theorem over : Rows.fnExactPhasePolynomialMatrixRow.holds Try.pinned (OpenSpec.ofChange Rows.fnExactPhasePolynomialMatrixSpec) :=
  OpenClaim.holds_of_wide 3 Try.f3 rfl rfl rfl rfl rfl rfl rfl ⟨rfl, rfl, rfl, rfl, rfl⟩ rfl rfl rfl rfl rfl (by kernel_rfl) Try.func3 (by kernel_rfl)
    (of_decide_eq_true (by kernel_rfl)) (by unfold Func.isWrapper; first | (rw [if_pos (by decide +kernel)]; kernel_rfl) | (rw [if_neg (by decide +kernel)]; exact ⟨rfl, rfl⟩))
    (fun os started H enc _ => lifted os started H enc)

theorem proved : Rows.FnExactPhasePolynomialMatrixSaid := over
#print axioms proved
end Go.Proofs.Ytibhikngiceeeaa.fnExactPhasePolynomialMatrix
