/- The law FnExactEqualPhasePolynomial returns true for every input. No condition. -/
import Derived.Test.YthfacfnknpomcaaRows
import Derived.Test.YthfacfnknpomcaaPolyQ
import Derived.Test.YthfacfnknpomcaaPolyM
import Derived.Test.YthfacfnknpomcaaOpen
import Derived.Deep.RegionHeld3
import Derived.ChangeOld
namespace Go.Proofs.Ythfacfnknpomcaa.fnExactEqualPhasePolynomial
open Go.ChangeShapes Go.WideShapes Go.ChangeAt Go.RowKit
set_option linter.unusedVariables false

set_option maxRecDepth 100000 in
set_option maxHeartbeats 6400000 in
theorem walk (N0 H0 : Int) (AT0 : Option Addr) (nT0 cT0 : Nat) (xT0 : List (Int × Int)) (AO0 : Option Addr) (nO0 cO0 : Nat) (xO0 : List (Int × Int)) (N1 H1 : Int) (AT1 : Option Addr) (nT1 cT1 : Nat) (xT1 : List (Int × Int)) (AO1 : Option Addr) (nO1 cO1 : Nat) (xO1 : List (Int × Int)) (w : World) (iN0 : I64 N0) (iH0 : I64 H0) (rT0 : RdP w AT0 nT0 xT0) (lT0 : nT0 ≤ cT0) (mT0 : cT0 ≤ maxLen) (okT0 : ∀ g ∈ xT0, I64 g.1 ∧ I64 g.2) (rO0 : RdP w AO0 nO0 xO0) (lO0 : nO0 ≤ cO0) (mO0 : cO0 ≤ maxLen) (okO0 : ∀ g ∈ xO0, I64 g.1 ∧ I64 g.2) (iN1 : I64 N1) (iH1 : I64 H1) (rT1 : RdP w AT1 nT1 xT1) (lT1 : nT1 ≤ cT1) (mT1 : cT1 ≤ maxLen) (okT1 : ∀ g ∈ xT1, I64 g.1 ∧ I64 g.2) (rO1 : RdP w AO1 nO1 xO1) (lO1 : nO1 ≤ cO1) (mO1 : cO1 ≤ maxLen) (okO1 : ∀ g ∈ xO1, I64 g.1 ∧ I64 g.2) :
    Calls Try.prog 3 #[.agg #[.int .i64 N0, .int .i64 H0, .slice AT0 nT0 cT0, .slice AO0 nO0 cO0], .agg #[.int .i64 N1, .int .i64 H1, .slice AT1 nT1 cT1, .slice AO1 nO1 cO1]] w fun e w' => e = .returned (.bool true) ∧ Below w.heap.size w w' := by
  unfold maxLen at mT0 mO0 mT1 mO1
  have RT0 := Lib.hid rT0
  have RT1 := Lib.hid rT1
  have RO0 := Lib.hid rO0
  have RO1 := Lib.hid rO1
  have zT0 : xT0.length ≤ nT0 := by have := rT0.1; omega
  have zT1 : xT1.length ≤ nT1 := by have := rT1.1; omega
  have zO0 : xO0.length ≤ nO0 := by have := rO0.1; omega
  have zO1 : xO1.length ≤ nO1 := by have := rO1.1; omega
  clear rT0 rO0 rT1 rO1 okT0 okO0 okT1 okO1 iN0 iH0 iN1 iH1
  obtain ⟨R, hR⟩ : ∃ R, eqP N0 H0 N1 H1 xT0 xO0 xT1 xO1 = R := ⟨_, rfl⟩
  have HR := Lib.hid hR
  clear hR
  have X0 := Lib.hid (show Bx ((w.alloc (.cells #[.int .i64 N0, .int .i64 H0, .slice AT0 nT0 cT0, .slice AO0 nO0 cO0] 25)).alloc (.cells #[.int .i64 N1, .int .i64 H1, .slice AT1 nT1 cT1, .slice AO1 nO1 cO1] 25)) w.heap.size 25 #[.int .i64 N0, .int .i64 H0, .slice AT0 nT0 cT0, .slice AO0 nO0 cO0] from (Bx.new w _ _).alloc _)
  have X1 := Lib.hid (show Bx ((w.alloc (.cells #[.int .i64 N0, .int .i64 H0, .slice AT0 nT0 cT0, .slice AO0 nO0 cO0] 25)).alloc (.cells #[.int .i64 N1, .int .i64 H1, .slice AT1 nT1 cT1, .slice AO1 nO1 cO1] 25)) (w.heap.size + 1) 25 #[.int .i64 N1, .int .i64 H1, .slice AT1 nT1 cT1, .slice AO1 nO1 cO1] from Bx.new' (by simp))
  have BZ : Hid (Below w.heap.size w ((w.alloc (.cells #[.int .i64 N0, .int .i64 H0, .slice AT0 nT0 cT0, .slice AO0 nO0 cO0] 25)).alloc (.cells #[.int .i64 N1, .int .i64 H1, .slice AT1 nT1 cT1, .slice AO1 nO1 cO1] 25))) := Lib.hid (((Below.refl _ _).alloc (Nat.le_refl _) _).alloc (by simp) _)
  by_cases hz0 : (nT0 : Int) + nO0 ≤ 1048576
  rotate_left
  · go_enter Try.func3, Try.ntmps3
    go_wp2_with fail
    refine (l_szPoly _ _ _ _ _ _ _ _ _ (by omega) (by omega) (by omega) (by omega) _).mono ?_
    rintro e wa ⟨rfl, ba⟩
    rw [if_neg (by omega)]
    go_wp2_with fail
    go_ret
    exact ⟨rfl, below_trans BZ.out ba⟩
  by_cases hz1 : (nT1 : Int) + nO1 ≤ 1048576 - nT0 - nO0
  rotate_left
  · go_enter Try.func3, Try.ntmps3
    go_wp2_with fail
    refine (l_szPoly _ _ _ _ _ _ _ _ _ (by omega) (by omega) (by omega) (by omega) _).mono ?_
    rintro e wa ⟨rfl, ba⟩
    rw [if_pos hz0]
    have X1a := Lib.hid (X1.out.below ba)
    obtain ⟨q0, q1, q2, q3, _⟩ := X1a.out.four
    go_wp2_with fail
    refine (l_szPoly _ _ _ _ _ _ _ _ _ (by omega) (by omega) (by omega) (by omega) _).mono ?_
    rintro e wc ⟨rfl, bc⟩
    rw [if_neg (by omega)]
    go_wp2_with fail
    go_ret
    exact ⟨rfl, below_trans (below_trans BZ.out ba) bc⟩
  go_enter Try.func3, Try.ntmps3
  go_wp2_with fail
  refine (l_szPoly _ _ _ _ _ _ _ _ _ (by omega) (by omega) (by omega) (by omega) _).mono ?_
  rintro e wa ⟨rfl, ba⟩
  rw [if_pos hz0]
  have X0a := Lib.hid (X0.out.below ba)
  have X1a := Lib.hid (X1.out.below ba)
  have Ba := Lib.hid (below_trans BZ.out ba)
  obtain ⟨q0, q1, q2, q3, _⟩ := X1a.out.four
  go_wp2_with fail
  refine (l_szPoly _ _ _ _ _ _ _ _ _ (by omega) (by omega) (by omega) (by omega) _).mono ?_
  rintro e wc ⟨rfl, bc⟩
  rw [if_pos hz1]
  have X0c := Lib.hid (X0a.out.below bc)
  have X1c := Lib.hid (X1a.out.below bc)
  have Bc := Lib.hid (below_trans Ba.out bc)
  clear q0 q1 q2 q3 X0 X1 BZ X0a X1a Ba ba bc
  obtain ⟨p0, p1, p2, p3, _⟩ := X0c.out.four
  obtain ⟨q0, q1, q2, q3, _⟩ := X1c.out.four
  go_wp2_with fail
  obtain ⟨wc', hwc⟩ : ∃ wc', wc = wc' := ⟨_, rfl⟩
  subst hwc
  go_region_held3 (fun w' => w'.cell? ⟨w.heap.size, 0, none⟩ = some (.int .i64 N0) ∧ w'.cell? ⟨w.heap.size, 1, none⟩ = some (.int .i64 H0) ∧ w'.cell? ⟨w.heap.size, 2, none⟩ = some (.slice AT0 nT0 cT0) ∧ w'.cell? ⟨w.heap.size, 3, none⟩ = some (.slice AO0 nO0 cO0) ∧ w'.cell? ⟨w.heap.size + 1, 0, none⟩ = some (.int .i64 N1) ∧ w'.cell? ⟨w.heap.size + 1, 1, none⟩ = some (.int .i64 H1) ∧ w'.cell? ⟨w.heap.size + 1, 2, none⟩ = some (.slice AT1 nT1 cT1) ∧ w'.cell? ⟨w.heap.size + 1, 3, none⟩ = some (.slice AO1 nO1 cO1))
    (first | with_reducible exact ⟨k0, k1, k2, k3, j0, j1, j2, j3⟩ | go_keep)
    (first
      | (go_at_call 17; (with_reducible refine (l_toPoly N0 H0 AT0 nT0 cT0 xT0 AO0 nO0 cO0 xO0 _ (RT0.out.below (Below.drew Bc.out)) (RO0.out.below (Below.drew Bc.out)) (by omega) (by omega)).mono ?_); rintro e wE ⟨vE, rfl, ⟨AE, cE, BE, dE, rfl, tE, oE⟩, bE⟩; have zE := below_trans (Below.drew Bc.out) bE; have yE := below_drew bE; have ⟨k0, k1, k2, k3, _, _, _, _⟩ := (X0c.out.below yE).four; have ⟨j0, j1, j2, j3, _, _, _, _⟩ := (X1c.out.below yE).four)
      | (go_at_call 17; (with_reducible refine (l_toPoly N1 H1 AT1 nT1 cT1 xT1 AO1 nO1 cO1 xO1 _ (RT1.out.below zE) (RO1.out.below zE) (by omega) (by omega)).mono ?_); rintro e wG ⟨vG, rfl, ⟨AG, cG, BG, dG, rfl, tG, oG⟩, bG⟩; have zG := below_trans zE bG; have yG := below_trans yE bG; have ⟨k0, k1, k2, k3, _, _, _, _⟩ := (X0c.out.below yG).four; have ⟨j0, j1, j2, j3, _, _, _, _⟩ := (X1c.out.below yG).four; have t6 := ownsRow_below tE bG; have o6 := ownsRow_below oE bG)
      | (go_at_call 16; (with_reducible refine (s_EqualP N0 H0 N1 H1 AE AG BE BG _ cE _ cG _ dE _ dG xT0 xT1 xO0 xO1 _ (RdP.own t6) (RdP.own tG) (RdP.own o6) (RdP.own oG) (by omega) (by omega) (by omega) (by omega)).mono ?_); rintro e wH ⟨rfl, bH⟩; rw [HR.out]; have BH := Lib.hid (below_trans zG bH); have X0H := Lib.hid (X0c.out.below (below_trans yG bH)); have X1H := Lib.hid (X1c.out.below (below_trans yG bH)); have ⟨k0, k1, k2, k3, _, _, _, _⟩ := X0H.out.four; have ⟨j0, j1, j2, j3, _, _, _, _⟩ := X1H.out.four)
      | fail)
  all_goals
    clear X0c X1c Bc
    obtain ⟨p0, p1, p2, p3, _, _, _, _⟩ := X0H.out.four
    go_wp2_with fail
    refine (l_toPoly N0 H0 AT0 nT0 cT0 xT0 AO0 nO0 cO0 xO0 _ (RT0.out.below BH.out) (RO0.out.below BH.out) (by omega) (by omega)).mono ?_
    rintro e w_8 ⟨v, rfl, ⟨A_1, c_2, B_3, d_4, rfl, t_5, o_6⟩, b_7⟩
    have fW_9 := Lib.hid (below_trans BH.out b_7)
    have fX0_10 := Lib.hid (X0H.out.below b_7)
    have fX1_11 := Lib.hid (X1H.out.below b_7)
    clear BH X0H X1H
    clear p0 p1 p2 p3
    have fW_12 := Lib.hid (Below.alloc fW_9.out (Below.size fW_9.out) (.cells #[.int .i64 N0, .int .i64 H0, .slice A_1 xT0.length c_2, .slice B_3 xO0.length d_4] 31))
    have fX0_13 := Lib.hid (Bx.alloc fX0_10.out (.cells #[.int .i64 N0, .int .i64 H0, .slice A_1 xT0.length c_2, .slice B_3 xO0.length d_4] 31))
    have fX1_14 := Lib.hid (Bx.alloc fX1_11.out (.cells #[.int .i64 N0, .int .i64 H0, .slice A_1 xT0.length c_2, .slice B_3 xO0.length d_4] 31))
    clear fW_9 fX0_10 fX1_11
    have fx0T_15 := Lib.hid (World.ownsRow.alloc t_5 (.cells #[.int .i64 N0, .int .i64 H0, .slice A_1 xT0.length c_2, .slice B_3 xO0.length d_4] 31))
    have fx0O_16 := Lib.hid (World.ownsRow.alloc o_6 (.cells #[.int .i64 N0, .int .i64 H0, .slice A_1 xT0.length c_2, .slice B_3 xO0.length d_4] 31))
    have fx0X_17 := Lib.hid (Bx.new w_8 31 #[.int .i64 N0, .int .i64 H0, .slice A_1 xT0.length c_2, .slice B_3 xO0.length d_4])
    clear t_5 o_6 b_7
    obtain ⟨p0, p1, p2, p3, _, _, _, _⟩ := fX1_14.out.four
    obtain ⟨q0, q1, q2, q3, _, _, _, _⟩ := fx0X_17.out.four
    have hl_q := fx0X_17.out.lt
    go_wp2_with fail
    refine (l_toPoly N1 H1 AT1 nT1 cT1 xT1 AO1 nO1 cO1 xO1 _ (RT1.out.below fW_12.out) (RO1.out.below fW_12.out) (by omega) (by omega)).mono ?_
    rintro e w_25 ⟨v, rfl, ⟨A_18, c_19, B_20, d_21, rfl, t_22, o_23⟩, b_24⟩
    have fW_26 := Lib.hid (below_trans fW_12.out b_24)
    have fX0_27 := Lib.hid (fX0_13.out.below b_24)
    have fX1_28 := Lib.hid (fX1_14.out.below b_24)
    have fx0T_29 := Lib.hid (ownsRow_below fx0T_15.out b_24)
    have fx0O_30 := Lib.hid (ownsRow_below fx0O_16.out b_24)
    have fx0X_31 := Lib.hid (fx0X_17.out.below b_24)
    clear fW_12 fX0_13 fX1_14 fx0T_15 fx0O_16 fx0X_17
    clear p0 p1 p2 p3
    clear q0 q1 q2 q3 hl_q
    obtain ⟨q0, q1, q2, q3, _, _, _, _⟩ := fx0X_31.out.four
    have hl_q := fx0X_31.out.lt
    have fW_32 := Lib.hid (Below.alloc fW_26.out (Below.size fW_26.out) (.cells #[.int .i64 N1, .int .i64 H1, .slice A_18 xT1.length c_19, .slice B_20 xO1.length d_21] 31))
    have fX0_33 := Lib.hid (Bx.alloc fX0_27.out (.cells #[.int .i64 N1, .int .i64 H1, .slice A_18 xT1.length c_19, .slice B_20 xO1.length d_21] 31))
    have fX1_34 := Lib.hid (Bx.alloc fX1_28.out (.cells #[.int .i64 N1, .int .i64 H1, .slice A_18 xT1.length c_19, .slice B_20 xO1.length d_21] 31))
    have fx0T_35 := Lib.hid (World.ownsRow.alloc fx0T_29.out (.cells #[.int .i64 N1, .int .i64 H1, .slice A_18 xT1.length c_19, .slice B_20 xO1.length d_21] 31))
    have fx0O_36 := Lib.hid (World.ownsRow.alloc fx0O_30.out (.cells #[.int .i64 N1, .int .i64 H1, .slice A_18 xT1.length c_19, .slice B_20 xO1.length d_21] 31))
    have fx0X_37 := Lib.hid (Bx.alloc fx0X_31.out (.cells #[.int .i64 N1, .int .i64 H1, .slice A_18 xT1.length c_19, .slice B_20 xO1.length d_21] 31))
    clear fW_26 fX0_27 fX1_28 fx0T_29 fx0O_30 fx0X_31
    have fx1T_38 := Lib.hid (World.ownsRow.alloc t_22 (.cells #[.int .i64 N1, .int .i64 H1, .slice A_18 xT1.length c_19, .slice B_20 xO1.length d_21] 31))
    have fx1O_39 := Lib.hid (World.ownsRow.alloc o_23 (.cells #[.int .i64 N1, .int .i64 H1, .slice A_18 xT1.length c_19, .slice B_20 xO1.length d_21] 31))
    have fx1X_40 := Lib.hid (Bx.new w_25 31 #[.int .i64 N1, .int .i64 H1, .slice A_18 xT1.length c_19, .slice B_20 xO1.length d_21])
    clear t_22 o_23 b_24
    go_wp2_with fail
    refine (i_EqualP N0 H0 N1 H1 _ _ _ _ _ _ _ _ _ _ _ _ xT0 xT1 xO0 xO1 _ (RdP.own fx0T_35.out) (RdP.own fx1T_38.out) (RdP.own fx0O_36.out) (RdP.own fx1O_39.out) (by omega) (by omega) (by omega) (by omega)).mono ?_
    rintro e w_42 ⟨rfl, b_41⟩
    rw [HR.out]
    clear q0 q1 q2 q3 hl_q
    have fW_43 := Lib.hid (below_trans fW_32.out b_41)
    have fX0_44 := Lib.hid (fX0_33.out.below b_41)
    have fX1_45 := Lib.hid (fX1_34.out.below b_41)
    have fx0T_46 := Lib.hid (ownsRow_below fx0T_35.out b_41)
    have fx0O_47 := Lib.hid (ownsRow_below fx0O_36.out b_41)
    have fx0X_48 := Lib.hid (fx0X_37.out.below b_41)
    have fx1T_49 := Lib.hid (ownsRow_below fx1T_38.out b_41)
    have fx1O_50 := Lib.hid (ownsRow_below fx1O_39.out b_41)
    have fx1X_51 := Lib.hid (fx1X_40.out.below b_41)
    clear fW_32 fX0_33 fX1_34 fx0T_35 fx0O_36 fx0X_37 fx1T_38 fx1O_39 fx1X_40
    obtain ⟨p0, p1, p2, p3, _, _, _, _⟩ := fX0_44.out.four
    obtain ⟨q0, q1, q2, q3, _, _, _, _⟩ := fx0X_48.out.four
    go_wp2_with fail
    have fW_52 := Lib.hid (fW_43.out.drew)
    have fX0_53 := Lib.hid (fX0_44.out.drew)
    have fX1_54 := Lib.hid (fX1_45.out.drew)
    have fx0T_55 := Lib.hid (ownsRow_drew fx0T_46.out)
    have fx0O_56 := Lib.hid (ownsRow_drew fx0O_47.out)
    have fx0X_57 := Lib.hid (fx0X_48.out.drew)
    have fx1T_58 := Lib.hid (ownsRow_drew fx1T_49.out)
    have fx1O_59 := Lib.hid (ownsRow_drew fx1O_50.out)
    have fx1X_60 := Lib.hid (fx1X_51.out.drew)
    go_region_held3 (fun w' => w'.cell? ⟨w.heap.size, 0, none⟩ = some (.int .i64 N0) ∧ w'.cell? ⟨w.heap.size, 1, none⟩ = some (.int .i64 H0) ∧ w'.cell? ⟨w.heap.size, 2, none⟩ = some (.slice AT0 nT0 cT0) ∧ w'.cell? ⟨w.heap.size, 3, none⟩ = some (.slice AO0 nO0 cO0) ∧ w'.cell? ⟨w_8.heap.size, 0, none⟩ = some (.int .i64 N0) ∧ w'.cell? ⟨w_8.heap.size, 1, none⟩ = some (.int .i64 H0) ∧ w'.cell? ⟨w_8.heap.size, 2, none⟩ = some (.slice A_1 xT0.length c_2) ∧ w'.cell? ⟨w_8.heap.size, 3, none⟩ = some (.slice B_3 xO0.length d_4))
      (first | with_reducible exact ⟨s_80, s_81, s_82, s_83, s_84, s_85, s_86, s_87⟩ | with_reducible exact ⟨s_99, s_100, s_101, s_102, s_103, s_104, s_105, s_106⟩ | go_keep)
      (first
        | (go_at_call 17; (with_reducible refine (l_toPoly N0 H0 AT0 nT0 cT0 xT0 AO0 nO0 cO0 xO0 _ (RT0.out.below fW_52.out) (RO0.out.below fW_52.out) (by omega) (by omega)).mono ?_); rintro e w_68 ⟨v, rfl, ⟨A_61, c_62, B_63, d_64, rfl, t_65, o_66⟩, b_67⟩; have fW_69 := Lib.hid (below_trans fW_52.out b_67); have fX0_70 := Lib.hid (fX0_53.out.below b_67); have fX1_71 := Lib.hid (fX1_54.out.below b_67); have fx0T_72 := Lib.hid (ownsRow_below fx0T_55.out b_67); have fx0O_73 := Lib.hid (ownsRow_below fx0O_56.out b_67); have fx0X_74 := Lib.hid (fx0X_57.out.below b_67); have fx1T_75 := Lib.hid (ownsRow_below fx1T_58.out b_67); have fx1O_76 := Lib.hid (ownsRow_below fx1O_59.out b_67); have fx1X_77 := Lib.hid (fx1X_60.out.below b_67); have ft_78 := Lib.hid t_65; have fo_79 := Lib.hid o_66; have ⟨s_80, s_81, s_82, s_83, _, _, _, _⟩ := fX0_70.out.four; have ⟨s_84, s_85, s_86, s_87, _, _, _, _⟩ := fx0X_74.out.four)
        | (go_at_call 19; (with_reducible refine (l_eqPoly_same _ _ _ _ _ _ _ xT0 _ _ _ _ _ xO0 _ (RdP.own fx0T_72.out) (RdP.own ft_78.out) (RdP.own fx0O_73.out) (RdP.own fo_79.out) (by omega) (by omega)).mono ?_); rintro e w_89 ⟨rfl, b_88⟩; have fW_90 := Lib.hid (below_trans fW_69.out b_88); have fX0_91 := Lib.hid (fX0_70.out.below b_88); have fX1_92 := Lib.hid (fX1_71.out.below b_88); have fx0T_93 := Lib.hid (ownsRow_below fx0T_72.out b_88); have fx0O_94 := Lib.hid (ownsRow_below fx0O_73.out b_88); have fx0X_95 := Lib.hid (fx0X_74.out.below b_88); have fx1T_96 := Lib.hid (ownsRow_below fx1T_75.out b_88); have fx1O_97 := Lib.hid (ownsRow_below fx1O_76.out b_88); have fx1X_98 := Lib.hid (fx1X_77.out.below b_88); have ⟨s_99, s_100, s_101, s_102, _, _, _, _⟩ := fX0_91.out.four; have ⟨s_103, s_104, s_105, s_106, _, _, _, _⟩ := fx0X_95.out.four)
        | fail)
    clear p0 p1 p2 p3 q0 q1 q2 q3
    clear fW_43 fX0_44 fX1_45 fx0T_46 fx0O_47 fx0X_48 fx1T_49 fx1O_50 fx1X_51
    obtain ⟨p0, p1, p2, p3, _, _, _, _⟩ := fX1_92.out.four
    obtain ⟨q0, q1, q2, q3, _, _, _, _⟩ := fx1X_98.out.four
    go_wp2_with fail
    have fW_107 := Lib.hid (fW_90.out.drew)
    have fX0_108 := Lib.hid (fX0_91.out.drew)
    have fX1_109 := Lib.hid (fX1_92.out.drew)
    have fx0T_110 := Lib.hid (ownsRow_drew fx0T_93.out)
    have fx0O_111 := Lib.hid (ownsRow_drew fx0O_94.out)
    have fx0X_112 := Lib.hid (fx0X_95.out.drew)
    have fx1T_113 := Lib.hid (ownsRow_drew fx1T_96.out)
    have fx1O_114 := Lib.hid (ownsRow_drew fx1O_97.out)
    have fx1X_115 := Lib.hid (fx1X_98.out.drew)
    go_region_held3 (fun w' => w'.cell? ⟨w.heap.size + 1, 0, none⟩ = some (.int .i64 N1) ∧ w'.cell? ⟨w.heap.size + 1, 1, none⟩ = some (.int .i64 H1) ∧ w'.cell? ⟨w.heap.size + 1, 2, none⟩ = some (.slice AT1 nT1 cT1) ∧ w'.cell? ⟨w.heap.size + 1, 3, none⟩ = some (.slice AO1 nO1 cO1) ∧ w'.cell? ⟨w_25.heap.size, 0, none⟩ = some (.int .i64 N1) ∧ w'.cell? ⟨w_25.heap.size, 1, none⟩ = some (.int .i64 H1) ∧ w'.cell? ⟨w_25.heap.size, 2, none⟩ = some (.slice A_18 xT1.length c_19) ∧ w'.cell? ⟨w_25.heap.size, 3, none⟩ = some (.slice B_20 xO1.length d_21))
      (first | with_reducible exact ⟨s_135, s_136, s_137, s_138, s_139, s_140, s_141, s_142⟩ | with_reducible exact ⟨s_154, s_155, s_156, s_157, s_158, s_159, s_160, s_161⟩ | go_keep)
      (first
        | (go_at_call 17; (with_reducible refine (l_toPoly N1 H1 AT1 nT1 cT1 xT1 AO1 nO1 cO1 xO1 _ (RT1.out.below fW_107.out) (RO1.out.below fW_107.out) (by omega) (by omega)).mono ?_); rintro e w_123 ⟨v, rfl, ⟨A_116, c_117, B_118, d_119, rfl, t_120, o_121⟩, b_122⟩; have fW_124 := Lib.hid (below_trans fW_107.out b_122); have fX0_125 := Lib.hid (fX0_108.out.below b_122); have fX1_126 := Lib.hid (fX1_109.out.below b_122); have fx0T_127 := Lib.hid (ownsRow_below fx0T_110.out b_122); have fx0O_128 := Lib.hid (ownsRow_below fx0O_111.out b_122); have fx0X_129 := Lib.hid (fx0X_112.out.below b_122); have fx1T_130 := Lib.hid (ownsRow_below fx1T_113.out b_122); have fx1O_131 := Lib.hid (ownsRow_below fx1O_114.out b_122); have fx1X_132 := Lib.hid (fx1X_115.out.below b_122); have ft_133 := Lib.hid t_120; have fo_134 := Lib.hid o_121; have ⟨s_135, s_136, s_137, s_138, _, _, _, _⟩ := fX1_126.out.four; have ⟨s_139, s_140, s_141, s_142, _, _, _, _⟩ := fx1X_132.out.four)
        | (go_at_call 19; (with_reducible refine (l_eqPoly_same _ _ _ _ _ _ _ xT1 _ _ _ _ _ xO1 _ (RdP.own fx1T_130.out) (RdP.own ft_133.out) (RdP.own fx1O_131.out) (RdP.own fo_134.out) (by omega) (by omega)).mono ?_); rintro e w_144 ⟨rfl, b_143⟩; have fW_145 := Lib.hid (below_trans fW_124.out b_143); have fX0_146 := Lib.hid (fX0_125.out.below b_143); have fX1_147 := Lib.hid (fX1_126.out.below b_143); have fx0T_148 := Lib.hid (ownsRow_below fx0T_127.out b_143); have fx0O_149 := Lib.hid (ownsRow_below fx0O_128.out b_143); have fx0X_150 := Lib.hid (fx0X_129.out.below b_143); have fx1T_151 := Lib.hid (ownsRow_below fx1T_130.out b_143); have fx1O_152 := Lib.hid (ownsRow_below fx1O_131.out b_143); have fx1X_153 := Lib.hid (fx1X_132.out.below b_143); have ⟨s_154, s_155, s_156, s_157, _, _, _, _⟩ := fX1_147.out.four; have ⟨s_158, s_159, s_160, s_161, _, _, _, _⟩ := fx1X_153.out.four)
        | fail)
    clear p0 p1 p2 p3 q0 q1 q2 q3
    clear fW_90 fX0_91 fX1_92 fx0T_93 fx0O_94 fx0X_95 fx1T_96 fx1O_97 fx1X_98
    go_wp2_with fail
    go_ret
    exact ⟨rfl, fW_145.out⟩

theorem own : ownKnob Try.prog.godebug = none := by kernel_rfl
theorem laidOut : laidOutB Try.prog = true := by kernel_rfl
set_option maxRecDepth 100000 in
theorem lifted (os : Os) (started : os.Started) (H : Type) (enc : TypeId × Value → H) :
    ReturnsInHanded {} Try.checked os 3 .any (Rows.fnExactEqualPhasePolynomialSpec.pre6 enc Try.prog Try.f3 Rows.fnExactEqualPhasePolynomialRow.domain false) (Rows.fnExactEqualPhasePolynomialSpec.post enc Try.prog Try.f3 false true false false) := by
  refine returnsInHanded_of_change (C := Try.checked) own started (by kernel_rfl) Try.func3
    (ChangeSpec.witness6 (enc := enc) (C := Try.checked) false ⟨#[], #[.agg #[.int .i64 0, .int .i64 0, .slice none 0 0, .slice none 0 0], .agg #[.int .i64 0, .int .i64 0, .slice none 0 0, .slice none 0 0]], []⟩ 8 (by kernel_rfl) (by kernel_rfl) (by kernel_rfl) (by kernel_rfl)) ?_
  intro W base args ds gs before hval0 hW hcnd _
  have hval : ∀ (j : Nat) t v, Try.f3.params[j]? = some t → args[j]? = some v → Value.okWide Try.prog W .any base t v := hval0
  have hW' := hW
  obtain ⟨p, q, hA0, hV, rfl, hfz, hnd⟩ := hW
  have hA : DataW.TrodAll enc Try.prog W 0 (fun _ => true) true Try.f3.params.toList args.toList ds p := hA0
  rw [Try.params3] at hA hval
  obtain ⟨v0, vs0, d0, ds0, p0, q0, hargs, rfl, rfl, h0, t0⟩ := trodAll_cons hA
  obtain ⟨v1, vs1, d1, ds1, p1, q1, rfl, rfl, rfl, h1, t1⟩ := trodAll_cons t0
  obtain ⟨rfl, rfl, rfl⟩ := trodAll_nil t1
  obtain rfl : args = #[v0, v1] := by cases args; simp_all
  obtain ⟨rfl, rfl⟩ := trodVars_none hV
  have k0 := h0
  have lt0 : ∀ x ∈ p0, x.block < W.heap.size := by obtain ⟨m, hm⟩ := k0; exact DataW.trod_lt m _ _ _ hm
  obtain ⟨y0, y1, y2, y3, e0, e1, e2, e3, fu0, rfl, rfl, _, g0, g1, g2, g3⟩ := Joins.open_agg4 Try.underlying25 (by kernel_rfl) (by kernel_rfl) (hval 0 25 v0 rfl rfl) h0
  obtain ⟨N0, f0, _, w00⟩ := DataW.trod_int Try.underlying3 g0
  simp only [List.cons.injEq, and_true] at f0
  subst f0
  obtain ⟨H0, f1, _, w01⟩ := DataW.trod_int Try.underlying3 g1
  simp only [List.cons.injEq, and_true] at f1
  subst f1
  obtain ⟨AT0, nT0, cT0, xT0, rfl, rT0, lT0, mT0, okT0⟩ := open_pairs Try.underlying22 Try.underlying132 (by kernel_rfl) (by kernel_rfl) Try.underlying3 Try.underlying3 g2
  obtain ⟨AO0, nO0, cO0, xO0, rfl, rO0, lO0, mO0, okO0⟩ := open_pairs Try.underlying23 Try.underlying134 (by kernel_rfl) (by kernel_rfl) Try.underlying3 Try.underlying3 g3
  clear g0 g1 g2 g3
  have k1 := h1
  have lt1 : ∀ x ∈ p1, x.block < W.heap.size := by obtain ⟨m, hm⟩ := k1; exact DataW.trod_lt m _ _ _ hm
  obtain ⟨y0, y1, y2, y3, e0, e1, e2, e3, fu1, rfl, rfl, _, g0, g1, g2, g3⟩ := Joins.open_agg4 Try.underlying25 (by kernel_rfl) (by kernel_rfl) (hval 1 25 v1 rfl rfl) h1
  obtain ⟨N1, f0, _, w10⟩ := DataW.trod_int Try.underlying3 g0
  simp only [List.cons.injEq, and_true] at f0
  subst f0
  obtain ⟨H1, f1, _, w11⟩ := DataW.trod_int Try.underlying3 g1
  simp only [List.cons.injEq, and_true] at f1
  subst f1
  obtain ⟨AT1, nT1, cT1, xT1, rfl, rT1, lT1, mT1, okT1⟩ := open_pairs Try.underlying22 Try.underlying132 (by kernel_rfl) (by kernel_rfl) Try.underlying3 Try.underlying3 g2
  obtain ⟨AO1, nO1, cO1, xO1, rfl, rO1, lO1, mO1, okO1⟩ := open_pairs Try.underlying23 Try.underlying134 (by kernel_rfl) (by kernel_rfl) Try.underlying3 Try.underlying3 g3
  clear g0 g1 g2 g3
  clear hA0 hval0
  refine (walk N0 H0 AT0 nT0 cT0 xT0 AO0 nO0 cO0 xO0 N1 H1 AT1 nT1 cT1 xT1 AO1 nO1 cO1 xO1 W (i64_of_wf w00) (i64_of_wf w01) rT0 lT0 mT0 okT0 rO0 lO0 mO0 okO0 (i64_of_wf w10) (i64_of_wf w11) rT1 lT1 mT1 okT1 rO1 lO1 mO1 okO1).mono fun e W' ⟨he, bel⟩ => ?_
  subst he
  exact ⟨_, rfl, _, _, _, [], _, [], hW', trodAll_mk1 (shut_bool Try.underlying4 _), (trodAll_cons_mk (Below.trod laidOut (by kernel_rfl) (of_decide_eq_true (by kernel_rfl)) k0 bel lt0) (trodAll_cons_mk (Below.trod laidOut (by kernel_rfl) (of_decide_eq_true (by kernel_rfl)) k1 bel lt1) trodAll_mk0)), rfl, bel.frame _, fun h => by cases h⟩

theorem over : Rows.fnExactEqualPhasePolynomialRow.holds Try.pinned (OpenSpec.ofChange Rows.fnExactEqualPhasePolynomialSpec) :=
  OpenClaim.holds_of_wide 3 Try.f3 rfl rfl rfl rfl rfl rfl rfl ⟨rfl, rfl, rfl, rfl, rfl⟩ rfl rfl rfl rfl rfl (by kernel_rfl) Try.func3 (by kernel_rfl)
    (of_decide_eq_true (by kernel_rfl)) (by unfold Func.isWrapper; first | (rw [if_pos (by decide +kernel)]; kernel_rfl) | (rw [if_neg (by decide +kernel)]; exact ⟨rfl, rfl⟩))
    (fun os started H enc _ => lifted os started H enc)

theorem proved : Rows.FnExactEqualPhasePolynomialSaid := over
#print axioms proved
end Go.Proofs.Ythfacfnknpomcaa.fnExactEqualPhasePolynomial
