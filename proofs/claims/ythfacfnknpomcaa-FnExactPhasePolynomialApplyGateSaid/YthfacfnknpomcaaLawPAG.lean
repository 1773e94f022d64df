/- The law FnExactPhasePolynomialApplyGate returns true for every input. No condition. -/
import Derived.Test.YthfacfnknpomcaaRows
import Derived.Test.YthfacfnknpomcaaPolyX
import Derived.Test.YthfacfnknpomcaaPolyL
import Derived.Test.YthfacfnknpomcaaPolyG
import Derived.Test.YthfacfnknpomcaaPolyH
import Derived.Test.YthfacfnknpomcaaOpen
import Derived.Deep.RegionHeld3
import Derived.Deep.DeepCutAuto
import Derived.ChangeOld
namespace Go.Proofs.Ythfacfnknpomcaa.fnExactPhasePolynomialApplyGate
open Go.ChangeShapes Go.WideShapes Go.ChangeAt Go.RowKit
set_option linter.unusedVariables false

set_option maxRecDepth 100000 in
set_option maxHeartbeats 12800000 in
theorem walk (N0 H0 : Int) (AT0 : Option Addr) (nT0 cT0 : Nat) (xT0 : List (Int × Int)) (AO0 : Option Addr) (nO0 cO0 : Nat) (xO0 : List (Int × Int)) (g1 : Gt) (w : World) (iN0 : I64 N0) (iH0 : I64 H0) (rT0 : RdP w AT0 nT0 xT0) (lT0 : nT0 ≤ cT0) (mT0 : cT0 ≤ maxLen) (okT0 : ∀ g ∈ xT0, I64 g.1 ∧ I64 g.2) (rO0 : RdP w AO0 nO0 xO0) (lO0 : nO0 ≤ cO0) (mO0 : cO0 ≤ maxLen) (okO0 : ∀ g ∈ xO0, I64 g.1 ∧ I64 g.2) (ok1 : g1.ok) :
    Calls Try.prog 4 #[.agg #[.int .i64 N0, .int .i64 H0, .slice AT0 nT0 cT0, .slice AO0 nO0 cO0], .agg #[.int .i64 g1.k, .int .i64 g1.a, .int .i64 g1.b, .int .i64 g1.c]] w fun e w' => e = .returned (.bool true) ∧ Below w.heap.size w w' := by
  unfold maxLen at mT0 mO0
  have RT0 := Lib.hid rT0
  have zT0 : xT0.length ≤ nT0 := by have := rT0.1; omega
  have RO0 := Lib.hid rO0
  have zO0 : xO0.length ≤ nO0 := by have := rO0.1; omega
  clear rT0 rO0 okT0 okO0 iN0 iH0 ok1
  obtain ⟨⟨⟨N, H, t, o⟩, rb⟩, hR⟩ : ∃ R, applyP ⟨N0, H0, xT0, xO0⟩ g1 = R := ⟨_, rfl⟩
  have HR := Lib.hid hR
  have hbd := applyP_bd ⟨N0, H0, xT0, xO0⟩ g1
  rw [hR] at hbd
  obtain ⟨nT, hnT⟩ : ∃ k, t.length = k := ⟨_, rfl⟩
  obtain ⟨nO, hnO⟩ : ∃ k, o.length = k := ⟨_, rfl⟩
  have HNT := Lib.hid hnT
  have HNO := Lib.hid hnO
  have hb1 : nT ≤ xT0.length + 1 := by rw [← hnT]; exact hbd.1
  have hb2 : nO ≤ xO0.length := by rw [← hnO]; exact hbd.2.1
  clear hR hbd hnT hnO
  have X0 := Lib.hid (show Bx ((w.alloc (.cells #[.int .i64 N0, .int .i64 H0, .slice AT0 nT0 cT0, .slice AO0 nO0 cO0] 25)).alloc (.cells #[.int .i64 g1.k, .int .i64 g1.a, .int .i64 g1.b, .int .i64 g1.c] 35)) w.heap.size 25 #[.int .i64 N0, .int .i64 H0, .slice AT0 nT0 cT0, .slice AO0 nO0 cO0] from (Bx.new w _ _).alloc _)
  have X1 := Lib.hid (show Bx ((w.alloc (.cells #[.int .i64 N0, .int .i64 H0, .slice AT0 nT0 cT0, .slice AO0 nO0 cO0] 25)).alloc (.cells #[.int .i64 g1.k, .int .i64 g1.a, .int .i64 g1.b, .int .i64 g1.c] 35)) (w.heap.size + 1) 35 #[.int .i64 g1.k, .int .i64 g1.a, .int .i64 g1.b, .int .i64 g1.c] from Bx.new' (by simp))
  have BZ : Hid (Below w.heap.size w ((w.alloc (.cells #[.int .i64 N0, .int .i64 H0, .slice AT0 nT0 cT0, .slice AO0 nO0 cO0] 25)).alloc (.cells #[.int .i64 g1.k, .int .i64 g1.a, .int .i64 g1.b, .int .i64 g1.c] 35))) := Lib.hid (((Below.refl _ _).alloc (Nat.le_refl _) _).alloc (by simp) _)
  by_cases hz0 : (nT0 : Int) + nO0 ≤ 1048576
  rotate_left
  · go_enter Try.func4, Try.ntmps4
    go_wp2_with fail
    refine (l_szPoly _ _ _ _ _ _ _ _ _ (by omega) (by omega) (by omega) (by omega) _).mono ?_
    rintro e wa ⟨rfl, ba⟩
    rw [if_neg (by omega)]
    go_wp2_with fail
    go_ret
    exact ⟨rfl, below_trans BZ.out ba⟩
  go_enter Try.func4, Try.ntmps4
  go_wp2_with fail
  refine (l_szPoly _ _ _ _ _ _ _ _ _ (by omega) (by omega) (by omega) (by omega) _).mono ?_
  rintro e wa ⟨rfl, ba⟩
  rw [if_pos hz0]
  have fW_1 := Lib.hid (below_trans BZ.out ba)
  have fX0_2 := Lib.hid (X0.out.below ba)
  have fX1_3 := Lib.hid (X1.out.below ba)
  clear BZ X0 X1
  clear ba
  obtain ⟨p0, p1, p2, p3, _⟩ := fX0_2.out.four
  obtain ⟨r0, r1, r2, r3, _⟩ := fX1_3.out.four
  go_upto_region 5 with fail
  go_cut [6, 7] (fun sp sb wx => PolyBox N H t o nT nO wa sp wx ∧ sb = .bool rb)
  case first =>
    have D0 := Lib.hid (Below.drew fW_1.out)
    have D1 := Lib.hid (Below.drew (Below.alloc fW_1.out (Below.size fW_1.out) (.cells #[.int .i64 0, .int .i64 0, .slice none 0 0, .slice none 0 0] 31)))
    have lX0 := fX0_2.out.lt
    have lX1 := fX1_3.out.lt
    go_region_held3 (fun w' => w'.cell? ⟨w.heap.size, 0, none⟩ = some (.int .i64 N0) ∧ w'.cell? ⟨w.heap.size, 1, none⟩ = some (.int .i64 H0) ∧ w'.cell? ⟨w.heap.size, 2, none⟩ = some (.slice AT0 nT0 cT0) ∧ w'.cell? ⟨w.heap.size, 3, none⟩ = some (.slice AO0 nO0 cO0) ∧ w'.cell? ⟨w.heap.size + 1, 0, none⟩ = some (.int .i64 g1.k) ∧ w'.cell? ⟨w.heap.size + 1, 1, none⟩ = some (.int .i64 g1.a) ∧ w'.cell? ⟨w.heap.size + 1, 2, none⟩ = some (.int .i64 g1.b) ∧ w'.cell? ⟨w.heap.size + 1, 3, none⟩ = some (.int .i64 g1.c))
      (first | with_reducible exact ⟨kX00, kX01, kX02, kX03, kX10, kX11, kX12, kX13⟩ | with_reducible exact ⟨cs4 kX00 (by omega), cs4 kX01 (by omega), cs4 kX02 (by omega), cs4 kX03 (by omega), cs4 kX10 (by omega), cs4 kX11 (by omega), cs4 kX12 (by omega), cs4 kX13 (by omega)⟩ | go_keep)
      (first
        | (go_at_call 17; (with_reducible refine (l_toPoly N0 H0 AT0 nT0 cT0 xT0 AO0 nO0 cO0 xO0 _ (RT0.out.below (by first | exact D0.out | exact D1.out)) (RO0.out.below (by first | exact D0.out | exact D1.out)) (by omega) (by omega)).mono ?_); rintro e wE ⟨vE, rfl, ⟨AE, cE, BE, dE, rfl, tE, oE⟩, bE⟩; have yE : Below wa.heap.size wa wE := (by first | exact below_drew bE | exact below_alloc (below_drew bE)); (try (have XA := ((Bx.new wa 31 #[.int .i64 0, .int .i64 0, .slice none 0 0, .slice none 0 0]).drew.below bE))); have sE := yE.size; have ⟨kX00, kX01, kX02, kX03, _, _, _, _⟩ := (fX0_2.out.below yE).four; have lX0yE := (fX0_2.out.below yE).lt; have ⟨kX10, kX11, kX12, kX13, _, _, _, _⟩ := (fX1_3.out.below yE).four; have lX1yE := (fX1_3.out.below yE).lt)
        | (go_at_call 21; (with_reducible refine (l_toGate _ _ _ _ _).mono ?_); rintro e wG ⟨rfl, bG⟩; have yG : Below wa.heap.size wa wG := (by first | exact below_trans yE bG | exact below_trans yE (below_alloc bG)); have tG : wG.ownsRow _ 70 2 _ _ _ := (by first | exact ownsRow_below tE bG | exact ownsRow_below tE (below_alloc bG)); have oG : wG.ownsRow _ 88 2 _ _ _ := (by first | exact ownsRow_below oE bG | exact ownsRow_below oE (below_alloc bG)); (try (have XA := XA.below bG)); (try (have XB := ((Bx.new wE 31 #[.int .i64 0, .int .i64 0, .slice none 0 0, .slice none 0 0]).below bG))); have ⟨kX00, kX01, kX02, kX03, _, _, _, _⟩ := (fX0_2.out.below yG).four; have lX0yG := (fX0_2.out.below yG).lt; have ⟨kX10, kX11, kX12, kX13, _, _, _, _⟩ := (fX1_3.out.below yG).four; have lX1yG := (fX1_3.out.below yG).lt)
        | (go_at_call 20; (with_reducible refine (s_ApplyP N0 H0 AE _ cE xT0 BE _ dE xO0 g1 _ (RdP.own (by first | exact tG | exact tG.alloc _)) (RdP.own (by first | exact oG | exact oG.alloc _)) (by omega) (by omega) (ownsRow_cap tG)).mono ?_); rintro e wH ⟨vH, rfl, ⟨AH, cH, BH, dH, rfl, tH, oH⟩, bH⟩; rw [HR.out] at tH oH ⊢; simp only [HNT.out, HNO.out] at tH oH ⊢; have yH : Below wa.heap.size wa wH := (by first | exact below_trans yG bH | exact below_trans yG (below_alloc bH)); have sH : wa.heap.size ≤ wG.heap.size := yG.size; have uH := yH.size; (try (have XA := XA.below bH; have ⟨a0, a1, a2, a3, a4, a5, a6, a7⟩ := XA.four; have la := XA.lt)); (try (have XB := XB.below bH; have ⟨b0, b1, b2, b3, b4, b5, b6, b7⟩ := XB.four; have la := XB.lt)); (try (have XC := ((Bx.new wG 31 #[.int .i64 0, .int .i64 0, .slice none 0 0, .slice none 0 0]).below bH); have ⟨c0, c1, c2, c3, c4, c5, c6, c7⟩ := XC.four; have la := XC.lt)); have ⟨kX00, kX01, kX02, kX03, _, _, _, _⟩ := (fX0_2.out.below yH).four; have lX0yH := (fX0_2.out.below yH).lt; have ⟨kX10, kX11, kX12, kX13, _, _, _, _⟩ := (fX1_3.out.below yH).four; have lX1yH := (fX1_3.out.below yH).lt)
        | fail)
    all_goals go_wp2_with fail
    all_goals go_meet
    all_goals first
      | exact ⟨PolyBox.new tH oH yH (by first | omega | (simp only [World.size_alloc]; omega)), rfl⟩
      | exact ⟨PolyBox.old XA rfl (by omega) tH oH yH (by first | omega | (simp only [World.size_alloc]; omega)), rfl⟩
      | exact ⟨PolyBox.old XB rfl (by omega) tH oH yH (by first | omega | (simp only [World.size_alloc]; omega)), rfl⟩
      | exact ⟨PolyBox.old XC rfl (by omega) tH oH yH (by first | omega | (simp only [World.size_alloc]; omega)), rfl⟩
  case rest =>
  clear p0 p1 p2 p3 r0 r1 r2 r3
  obtain ⟨⟨gp_8, A_4, c_5, B_6, d_7, rfl, hx, t_9, o_10, b_11⟩, rfl⟩ := hcut
  have fW_12 := Lib.hid (below_trans fW_1.out b_11)
  have fX0_13 := Lib.hid (fX0_2.out.below b_11)
  have fX1_14 := Lib.hid (fX1_3.out.below b_11)
  clear fW_1 fX0_2 fX1_3
  have fsT_15 := Lib.hid (t_9)
  have fsO_16 := Lib.hid (o_10)
  have fsX_17 := Lib.hid (hx)
  clear hx t_9 o_10 b_11
  have HBx := Lib.hid (Below.size fW_12.out)
  obtain ⟨p0, p1, p2, p3, _, _, _, _⟩ := fX0_13.out.four
  go_wp2_with fail
  refine (l_toPoly N0 H0 AT0 nT0 cT0 xT0 AO0 nO0 cO0 xO0 _ (RT0.out.below fW_12.out) (RO0.out.below fW_12.out) (by omega) (by omega)).mono ?_
  rintro e w_25 ⟨v, rfl, ⟨A_18, c_19, B_20, d_21, rfl, t_22, o_23⟩, b_24⟩
  have ap_26 := Lib.hid (own_apart fsT_15.out t_22 (Nat.le_refl _))
  have ap_27 := Lib.hid (own_apart_r fsT_15.out t_22 (Nat.le_refl _))
  have ap_28 := Lib.hid (own_apart fsT_15.out o_23 (Nat.le_refl _))
  have ap_29 := Lib.hid (own_apart_r fsT_15.out o_23 (Nat.le_refl _))
  have ap_30 := Lib.hid (own_apart fsO_16.out t_22 (Nat.le_refl _))
  have ap_31 := Lib.hid (own_apart_r fsO_16.out t_22 (Nat.le_refl _))
  have ap_32 := Lib.hid (own_apart fsO_16.out o_23 (Nat.le_refl _))
  have ap_33 := Lib.hid (own_apart_r fsO_16.out o_23 (Nat.le_refl _))
  have fW_34 := Lib.hid (below_trans fW_12.out b_24)
  have fX0_35 := Lib.hid (fX0_13.out.below b_24)
  have fX1_36 := Lib.hid (fX1_14.out.below b_24)
  have fsT_37 := Lib.hid (ownsRow_below fsT_15.out b_24)
  have fsO_38 := Lib.hid (ownsRow_below fsO_16.out b_24)
  have fsX_39 := Lib.hid (fsX_17.out.below b_24)
  clear fW_12 fX0_13 fX1_14 fsT_15 fsO_16 fsX_17
  have fW_40 := Lib.hid (Below.alloc fW_34.out (Below.size fW_34.out) (.cells #[.int .i64 N0, .int .i64 H0, .slice A_18 xT0.length c_19, .slice B_20 xO0.length d_21] 31))
  have fX0_41 := Lib.hid (Bx.alloc fX0_35.out (.cells #[.int .i64 N0, .int .i64 H0, .slice A_18 xT0.length c_19, .slice B_20 xO0.length d_21] 31))
  have fX1_42 := Lib.hid (Bx.alloc fX1_36.out (.cells #[.int .i64 N0, .int .i64 H0, .slice A_18 xT0.length c_19, .slice B_20 xO0.length d_21] 31))
  have fsT_43 := Lib.hid (World.ownsRow.alloc fsT_37.out (.cells #[.int .i64 N0, .int .i64 H0, .slice A_18 xT0.length c_19, .slice B_20 xO0.length d_21] 31))
  have fsO_44 := Lib.hid (World.ownsRow.alloc fsO_38.out (.cells #[.int .i64 N0, .int .i64 H0, .slice A_18 xT0.length c_19, .slice B_20 xO0.length d_21] 31))
  have fsX_45 := Lib.hid (Bx.alloc fsX_39.out (.cells #[.int .i64 N0, .int .i64 H0, .slice A_18 xT0.length c_19, .slice B_20 xO0.length d_21] 31))
  clear fW_34 fX0_35 fX1_36 fsT_37 fsO_38 fsX_39
  have fxT_46 := Lib.hid (World.ownsRow.alloc t_22 (.cells #[.int .i64 N0, .int .i64 H0, .slice A_18 xT0.length c_19, .slice B_20 xO0.length d_21] 31))
  have fxO_47 := Lib.hid (World.ownsRow.alloc o_23 (.cells #[.int .i64 N0, .int .i64 H0, .slice A_18 xT0.length c_19, .slice B_20 xO0.length d_21] 31))
  have fxX_48 := Lib.hid (Bx.new w_25 31 #[.int .i64 N0, .int .i64 H0, .slice A_18 xT0.length c_19, .slice B_20 xO0.length d_21])
  clear p0 p1 p2 p3 t_22 o_23 b_24
  obtain ⟨wz_49, hwz_49⟩ : ∃ wz, w_25.alloc (.cells #[.int .i64 N0, .int .i64 H0, .slice A_18 xT0.length c_19, .slice B_20 xO0.length d_21] 31) = wz := ⟨_, rfl⟩
  obtain ⟨gx_50, hgx_50⟩ : ∃ gx, w_25.heap.size = gx := ⟨_, rfl⟩
  have fW_51 := Lib.hid (hwz_49 ▸ fW_40.out)
  have fX0_52 := Lib.hid (hwz_49 ▸ fX0_41.out)
  have fX1_53 := Lib.hid (hwz_49 ▸ fX1_42.out)
  have fsT_54 := Lib.hid (hwz_49 ▸ fsT_43.out)
  have fsO_55 := Lib.hid (hwz_49 ▸ fsO_44.out)
  have fsX_56 := Lib.hid (hwz_49 ▸ fsX_45.out)
  have fxT_57 := Lib.hid (hwz_49 ▸ fxT_46.out)
  have fxO_58 := Lib.hid (hwz_49 ▸ fxO_47.out)
  have fxX_59 := Lib.hid (show Bx wz_49 gx_50 31 #[.int .i64 N0, .int .i64 H0, .slice A_18 xT0.length c_19, .slice B_20 xO0.length d_21] from hwz_49 ▸ hgx_50 ▸ fxX_48.out)
  clear fW_40 fX0_41 fX1_42 fsT_43 fsO_44 fsX_45 fxT_46 fxO_47 fxX_48
  obtain ⟨r0, r1, r2, r3, _, _, _, _⟩ := fX1_53.out.four
  obtain ⟨q0, q1, q2, q3, _, _, _, _⟩ := fxX_59.out.four
  have hl_x := fxX_59.out.lt
  go_upto_region 7 with fail
  go_cut [9, 10] (fun sp sb wx => PolyBox N H t o nT nO wz_49 sp wx ∧ sb = .bool rb)
  case first =>
    have D0 := Lib.hid (Below.drew fW_51.out)
    have D1 := Lib.hid (Below.drew (Below.alloc fW_51.out (Below.size fW_51.out) (.cells #[.int .i64 0, .int .i64 0, .slice none 0 0, .slice none 0 0] 31)))
    have lX1 := fX1_53.out.lt
    have lxX := fxX_59.out.lt
    go_region_held3 (fun w' => w'.cell? ⟨w.heap.size + 1, 0, none⟩ = some (.int .i64 g1.k) ∧ w'.cell? ⟨w.heap.size + 1, 1, none⟩ = some (.int .i64 g1.a) ∧ w'.cell? ⟨w.heap.size + 1, 2, none⟩ = some (.int .i64 g1.b) ∧ w'.cell? ⟨w.heap.size + 1, 3, none⟩ = some (.int .i64 g1.c) ∧ w'.cell? ⟨gx_50, 0, none⟩ = some (.int .i64 N0) ∧ w'.cell? ⟨gx_50, 1, none⟩ = some (.int .i64 H0) ∧ w'.cell? ⟨gx_50, 2, none⟩ = some (.slice A_18 xT0.length c_19) ∧ w'.cell? ⟨gx_50, 3, none⟩ = some (.slice B_20 xO0.length d_21))
      (first | with_reducible exact ⟨kX10, kX11, kX12, kX13, kxX0, kxX1, kxX2, kxX3⟩ | with_reducible exact ⟨cs4 kX10 (by omega), cs4 kX11 (by omega), cs4 kX12 (by omega), cs4 kX13 (by omega), cs4 kxX0 (by omega), cs4 kxX1 (by omega), cs4 kxX2 (by omega), cs4 kxX3 (by omega)⟩ | go_keep)
      (first
        | (go_at_call 21; (with_reducible refine (l_toGate _ _ _ _ _).mono ?_); rintro e wG ⟨rfl, bG⟩; have yG : Below wz_49.heap.size wz_49 wG := (by first | exact below_drew bG | exact below_alloc (below_drew bG)); have tG := ownsRow_below fxT_57.out yG; have oG := ownsRow_below fxO_58.out yG; (try (have XB := ((Bx.new wz_49 31 #[.int .i64 0, .int .i64 0, .slice none 0 0, .slice none 0 0]).drew.below bG))); have ⟨kX10, kX11, kX12, kX13, _, _, _, _⟩ := (fX1_53.out.below yG).four; have lX1yG := (fX1_53.out.below yG).lt; have ⟨kxX0, kxX1, kxX2, kxX3, _, _, _, _⟩ := (fxX_59.out.below yG).four; have lxXyG := (fxX_59.out.below yG).lt)
        | (go_at_call 22; (with_reducible refine (i_ApplyP N0 H0 A_18 _ c_19 xT0 B_20 _ d_21 xO0 g1 _ (RdP.own (by first | exact tG | exact tG.alloc _)) (RdP.own (by first | exact oG | exact oG.alloc _)) (by omega) (by omega) (ownsRow_cap tG)).mono ?_); rintro e wH ⟨vH, rfl, ⟨AH, cH, BH, dH, rfl, tH, oH⟩, bH⟩; rw [HR.out] at tH oH ⊢; simp only [HNT.out, HNO.out] at tH oH ⊢; have yH : Below wz_49.heap.size wz_49 wH := (by first | exact below_trans yG bH | exact below_trans yG (below_alloc bH)); have sH : wz_49.heap.size ≤ wG.heap.size := yG.size; have uH := yH.size; (try (have XA := XA.below bH; have ⟨a0, a1, a2, a3, a4, a5, a6, a7⟩ := XA.four; have la := XA.lt)); (try (have XB := XB.below bH; have ⟨b0, b1, b2, b3, b4, b5, b6, b7⟩ := XB.four; have la := XB.lt)); (try (have XC := ((Bx.new wG 31 #[.int .i64 0, .int .i64 0, .slice none 0 0, .slice none 0 0]).below bH); have ⟨c0, c1, c2, c3, c4, c5, c6, c7⟩ := XC.four; have la := XC.lt)); have ⟨kX10, kX11, kX12, kX13, _, _, _, _⟩ := (fX1_53.out.below yH).four; have lX1yH := (fX1_53.out.below yH).lt; have ⟨kxX0, kxX1, kxX2, kxX3, _, _, _, _⟩ := (fxX_59.out.below yH).four; have lxXyH := (fxX_59.out.below yH).lt)
        | fail)
    all_goals go_wp2_with fail
    all_goals go_meet
    all_goals first
      | exact ⟨PolyBox.new tH oH yH (by first | omega | (simp only [World.size_alloc]; omega)), rfl⟩
      | exact ⟨PolyBox.old XA rfl (by omega) tH oH yH (by first | omega | (simp only [World.size_alloc]; omega)), rfl⟩
      | exact ⟨PolyBox.old XB rfl (by omega) tH oH yH (by first | omega | (simp only [World.size_alloc]; omega)), rfl⟩
      | exact ⟨PolyBox.old XC rfl (by omega) tH oH yH (by first | omega | (simp only [World.size_alloc]; omega)), rfl⟩
  case rest =>
  clear r0 r1 r2 r3 q0 q1 q2 q3 hl_x
  have HBg := Lib.hid (Below.size fW_51.out)
  obtain ⟨⟨gp_64, A_60, c_61, B_62, d_63, rfl, hx, t_65, o_66, b_67⟩, rfl⟩ := hcut
  have ap_68 := Lib.hid (own_apart fsT_54.out t_65 (Nat.le_refl _))
  have ap_69 := Lib.hid (own_apart_r fsT_54.out t_65 (Nat.le_refl _))
  have ap_70 := Lib.hid (own_apart fsT_54.out o_66 (Nat.le_refl _))
  have ap_71 := Lib.hid (own_apart_r fsT_54.out o_66 (Nat.le_refl _))
  have ap_72 := Lib.hid (own_apart fsO_55.out t_65 (Nat.le_refl _))
  have ap_73 := Lib.hid (own_apart_r fsO_55.out t_65 (Nat.le_refl _))
  have ap_74 := Lib.hid (own_apart fsO_55.out o_66 (Nat.le_refl _))
  have ap_75 := Lib.hid (own_apart_r fsO_55.out o_66 (Nat.le_refl _))
  have ap_76 := Lib.hid (own_apart fxT_57.out t_65 (Nat.le_refl _))
  have ap_77 := Lib.hid (own_apart_r fxT_57.out t_65 (Nat.le_refl _))
  have ap_78 := Lib.hid (own_apart fxT_57.out o_66 (Nat.le_refl _))
  have ap_79 := Lib.hid (own_apart_r fxT_57.out o_66 (Nat.le_refl _))
  have ap_80 := Lib.hid (own_apart fxO_58.out t_65 (Nat.le_refl _))
  have ap_81 := Lib.hid (own_apart_r fxO_58.out t_65 (Nat.le_refl _))
  have ap_82 := Lib.hid (own_apart fxO_58.out o_66 (Nat.le_refl _))
  have ap_83 := Lib.hid (own_apart_r fxO_58.out o_66 (Nat.le_refl _))
  have fW_84 := Lib.hid (below_trans fW_51.out b_67)
  have fX0_85 := Lib.hid (fX0_52.out.below b_67)
  have fX1_86 := Lib.hid (fX1_53.out.below b_67)
  have fsT_87 := Lib.hid (ownsRow_below fsT_54.out b_67)
  have fsO_88 := Lib.hid (ownsRow_below fsO_55.out b_67)
  have fsX_89 := Lib.hid (fsX_56.out.below b_67)
  have fxT_90 := Lib.hid (ownsRow_below fxT_57.out b_67)
  have fxO_91 := Lib.hid (ownsRow_below fxO_58.out b_67)
  have fxX_92 := Lib.hid (fxX_59.out.below b_67)
  clear fW_51 fX0_52 fX1_53 fsT_54 fsO_55 fsX_56 fxT_57 fxO_58 fxX_59
  have fgT_93 := Lib.hid (t_65)
  have fgO_94 := Lib.hid (o_66)
  have fgX_95 := Lib.hid (hx)
  clear hx t_65 o_66 b_67
  obtain ⟨q0, q1, q2, q3, _, _, _, _⟩ := fgX_95.out.four
  obtain ⟨p0, p1, p2, p3, _, _, _, _⟩ := fsX_89.out.four
  go_wp2_with fail
  refine (l_eqPoly_same _ _ _ _ _ _ _ t _ _ _ _ _ o _ (RdP.own fgT_93.out) (RdP.own fsT_87.out) (RdP.own fgO_94.out) (RdP.own fsO_88.out) (by omega) (by omega)).mono ?_
  rintro e w_97 ⟨rfl, b_96⟩
  clear q0 q1 q2 q3 p0 p1 p2 p3
  have fW_98 := Lib.hid (below_trans fW_84.out b_96)
  have fX0_99 := Lib.hid (fX0_85.out.below b_96)
  have fX1_100 := Lib.hid (fX1_86.out.below b_96)
  have fsT_101 := Lib.hid (ownsRow_below fsT_87.out b_96)
  have fsO_102 := Lib.hid (ownsRow_below fsO_88.out b_96)
  have fsX_103 := Lib.hid (fsX_89.out.below b_96)
  have fxT_104 := Lib.hid (ownsRow_below fxT_90.out b_96)
  have fxO_105 := Lib.hid (ownsRow_below fxO_91.out b_96)
  have fxX_106 := Lib.hid (fxX_92.out.below b_96)
  have fgT_107 := Lib.hid (ownsRow_below fgT_93.out b_96)
  have fgO_108 := Lib.hid (ownsRow_below fgO_94.out b_96)
  have fgX_109 := Lib.hid (fgX_95.out.below b_96)
  clear fW_84 fX0_85 fX1_86 fsT_87 fsO_88 fsX_89 fxT_90 fxO_91 fxX_92 fgT_93 fgO_94 fgX_95
  clear b_96
  obtain ⟨p0, p1, p2, p3, _, _, _, _⟩ := fX0_99.out.four
  obtain ⟨q0, q1, q2, q3, _, _, _, _⟩ := fxX_106.out.four
  go_wp2_with fail
  have fW_110 := Lib.hid (fW_98.out.drew)
  have fX0_111 := Lib.hid (fX0_99.out.drew)
  have fX1_112 := Lib.hid (fX1_100.out.drew)
  have fsT_113 := Lib.hid (ownsRow_drew fsT_101.out)
  have fsO_114 := Lib.hid (ownsRow_drew fsO_102.out)
  have fsX_115 := Lib.hid (fsX_103.out.drew)
  have fxT_116 := Lib.hid (ownsRow_drew fxT_104.out)
  have fxO_117 := Lib.hid (ownsRow_drew fxO_105.out)
  have fxX_118 := Lib.hid (fxX_106.out.drew)
  have fgT_119 := Lib.hid (ownsRow_drew fgT_107.out)
  have fgO_120 := Lib.hid (ownsRow_drew fgO_108.out)
  have fgX_121 := Lib.hid (fgX_109.out.drew)
  go_region_held3 (fun w' => w'.cell? ⟨w.heap.size, 0, none⟩ = some (.int .i64 N0) ∧ w'.cell? ⟨w.heap.size, 1, none⟩ = some (.int .i64 H0) ∧ w'.cell? ⟨w.heap.size, 2, none⟩ = some (.slice AT0 nT0 cT0) ∧ w'.cell? ⟨w.heap.size, 3, none⟩ = some (.slice AO0 nO0 cO0) ∧ w'.cell? ⟨gx_50, 0, none⟩ = some (.int .i64 N0) ∧ w'.cell? ⟨gx_50, 1, none⟩ = some (.int .i64 H0) ∧ w'.cell? ⟨gx_50, 2, none⟩ = some (.slice A_18 xT0.length c_19) ∧ w'.cell? ⟨gx_50, 3, none⟩ = some (.slice B_20 xO0.length d_21))
    (first | with_reducible exact ⟨s_144, s_145, s_146, s_147, s_148, s_149, s_150, s_151⟩ | with_reducible exact ⟨s_166, s_167, s_168, s_169, s_170, s_171, s_172, s_173⟩ | go_keep)
    (first
      | (go_at_call 17; (with_reducible refine (l_toPoly N0 H0 AT0 nT0 cT0 xT0 AO0 nO0 cO0 xO0 _ (RT0.out.below fW_110.out) (RO0.out.below fW_110.out) (by omega) (by omega)).mono ?_); rintro e w_129 ⟨v, rfl, ⟨A_122, c_123, B_124, d_125, rfl, t_126, o_127⟩, b_128⟩; have fW_130 := Lib.hid (below_trans fW_110.out b_128); have fX0_131 := Lib.hid (fX0_111.out.below b_128); have fX1_132 := Lib.hid (fX1_112.out.below b_128); have fsT_133 := Lib.hid (ownsRow_below fsT_113.out b_128); have fsO_134 := Lib.hid (ownsRow_below fsO_114.out b_128); have fsX_135 := Lib.hid (fsX_115.out.below b_128); have fxT_136 := Lib.hid (ownsRow_below fxT_116.out b_128); have fxO_137 := Lib.hid (ownsRow_below fxO_117.out b_128); have fxX_138 := Lib.hid (fxX_118.out.below b_128); have fgT_139 := Lib.hid (ownsRow_below fgT_119.out b_128); have fgO_140 := Lib.hid (ownsRow_below fgO_120.out b_128); have fgX_141 := Lib.hid (fgX_121.out.below b_128); have ft_142 := Lib.hid t_126; have fo_143 := Lib.hid o_127; have ⟨s_144, s_145, s_146, s_147, _, _, _, _⟩ := fX0_131.out.four; have ⟨s_148, s_149, s_150, s_151, _, _, _, _⟩ := fxX_138.out.four)
      | (go_at_call 19; (with_reducible refine (l_eqPoly_same _ _ _ _ _ _ _ xT0 _ _ _ _ _ xO0 _ (RdP.own fxT_136.out) (RdP.own ft_142.out) (RdP.own fxO_137.out) (RdP.own fo_143.out) (by omega) (by omega)).mono ?_); rintro e w_153 ⟨rfl, b_152⟩; have fW_154 := Lib.hid (below_trans fW_130.out b_152); have fX0_155 := Lib.hid (fX0_131.out.below b_152); have fX1_156 := Lib.hid (fX1_132.out.below b_152); have fsT_157 := Lib.hid (ownsRow_below fsT_133.out b_152); have fsO_158 := Lib.hid (ownsRow_below fsO_134.out b_152); have fsX_159 := Lib.hid (fsX_135.out.below b_152); have fxT_160 := Lib.hid (ownsRow_below fxT_136.out b_152); have fxO_161 := Lib.hid (ownsRow_below fxO_137.out b_152); have fxX_162 := Lib.hid (fxX_138.out.below b_152); have fgT_163 := Lib.hid (ownsRow_below fgT_139.out b_152); have fgO_164 := Lib.hid (ownsRow_below fgO_140.out b_152); have fgX_165 := Lib.hid (fgX_141.out.below b_152); have ⟨s_166, s_167, s_168, s_169, _, _, _, _⟩ := fX0_155.out.four; have ⟨s_170, s_171, s_172, s_173, _, _, _, _⟩ := fxX_162.out.four)
      | fail)
  clear p0 p1 p2 p3 q0 q1 q2 q3
  clear fW_98 fX0_99 fX1_100 fsT_101 fsO_102 fsX_103 fxT_104 fxO_105 fxX_106 fgT_107 fgO_108 fgX_109
  obtain ⟨q0, q1, q2, q3, _, _, _, _⟩ := fxX_162.out.four
  go_wp2_with fail
  refine (l_markPoly _ _ _ _ _ _ _ _ _ _ _ _ _ fxT_160.out fxO_161.out (by omega) (by omega) (by omega) (by omega)).mono ?_
  rintro e w_174 ⟨rfl, t4, o4, m4⟩
  clear q0 q1 q2 q3
  have fW_175 := Lib.hid (m4.below fW_154.out (Below.size fW_154.out) (fun k hk => Nat.le_trans HBx.out (fxT_160.out.lt k hk).1) (fun k hk => Nat.le_trans HBx.out (fxO_161.out.lt k hk).1))
  have fX0_176 := Lib.hid (m4.bx fX0_155.out (own_bx_ne fxT_160.out fX0_155.out (by decide)) (own_bx_ne fxO_161.out fX0_155.out (by decide)))
  have fX1_177 := Lib.hid (m4.bx fX1_156.out (own_bx_ne fxT_160.out fX1_156.out (by decide)) (own_bx_ne fxO_161.out fX1_156.out (by decide)))
  have fsT_178 := Lib.hid (m4.own fsT_157.out ap_26.out (own_types fsT_157.out fxO_161.out (by decide)))
  have fsO_179 := Lib.hid (m4.own fsO_158.out (own_types fsO_158.out fxT_160.out (by decide)) ap_32.out)
  have fsX_180 := Lib.hid (m4.bx fsX_159.out (own_bx_ne fxT_160.out fsX_159.out (by decide)) (own_bx_ne fxO_161.out fsX_159.out (by decide)))
  have fxX_181 := Lib.hid (m4.bx fxX_162.out (own_bx_ne fxT_160.out fxX_162.out (by decide)) (own_bx_ne fxO_161.out fxX_162.out (by decide)))
  have fgT_182 := Lib.hid (m4.own fgT_163.out ap_77.out (own_types fgT_163.out fxO_161.out (by decide)))
  have fgO_183 := Lib.hid (m4.own fgO_164.out (own_types fgO_164.out fxT_160.out (by decide)) ap_83.out)
  have fgX_184 := Lib.hid (m4.bx fgX_165.out (own_bx_ne fxT_160.out fgX_165.out (by decide)) (own_bx_ne fxO_161.out fgX_165.out (by decide)))
  clear fW_154 fX0_155 fX1_156 fsT_157 fsO_158 fsX_159 fxX_162 fgT_163 fgO_164 fgX_165 t4 o4 m4 fxT_160 fxO_161
  have hmk : ¬ ((1 : Int) + 2 * (xT0.length : Int) + 2 * (xO0.length : Int) < 0) := by omega
  obtain ⟨q0, q1, q2, q3, _, _, _, _⟩ := fgX_184.out.four
  obtain ⟨p0, p1, p2, p3, _, _, _, _⟩ := fsX_180.out.four
  go_wp2_with fail
  refine (l_eqPoly_same _ _ _ _ _ _ _ t _ _ _ _ _ o _ (RdP.own fgT_182.out) (RdP.own fsT_178.out) (RdP.own fgO_183.out) (RdP.own fsO_179.out) (by omega) (by omega)).mono ?_
  rintro e w_186 ⟨rfl, b_185⟩
  clear q0 q1 q2 q3 p0 p1 p2 p3
  have fW_187 := Lib.hid (below_trans fW_175.out b_185)
  have fX0_188 := Lib.hid (fX0_176.out.below b_185)
  have fX1_189 := Lib.hid (fX1_177.out.below b_185)
  have fsT_190 := Lib.hid (ownsRow_below fsT_178.out b_185)
  have fsO_191 := Lib.hid (ownsRow_below fsO_179.out b_185)
  have fsX_192 := Lib.hid (fsX_180.out.below b_185)
  have fgT_193 := Lib.hid (ownsRow_below fgT_182.out b_185)
  have fgO_194 := Lib.hid (ownsRow_below fgO_183.out b_185)
  have fgX_195 := Lib.hid (fgX_184.out.below b_185)
  clear fW_175 fX0_176 fX1_177 fsT_178 fsO_179 fsX_180 fgT_182 fgO_183 fgX_184
  clear b_185
  clear hmk
  obtain ⟨q0, q1, q2, q3, _, _, _, _⟩ := fgX_195.out.four
  go_wp2_with fail
  refine (l_markPoly _ _ _ _ _ _ _ _ _ _ _ _ _ fgT_193.out fgO_194.out (by omega) (by omega) (by omega) (by omega)).mono ?_
  rintro e w_196 ⟨rfl, t4, o4, m4⟩
  clear q0 q1 q2 q3
  have fW_197 := Lib.hid (m4.below fW_187.out (Below.size fW_187.out) (fun k hk => Nat.le_trans HBg.out (fgT_193.out.lt k hk).1) (fun k hk => Nat.le_trans HBg.out (fgO_194.out.lt k hk).1))
  have fX0_198 := Lib.hid (m4.bx fX0_188.out (own_bx_ne fgT_193.out fX0_188.out (by decide)) (own_bx_ne fgO_194.out fX0_188.out (by decide)))
  have fX1_199 := Lib.hid (m4.bx fX1_189.out (own_bx_ne fgT_193.out fX1_189.out (by decide)) (own_bx_ne fgO_194.out fX1_189.out (by decide)))
  have fsT_200 := Lib.hid (m4.own fsT_190.out ap_68.out (own_types fsT_190.out fgO_194.out (by decide)))
  have fsO_201 := Lib.hid (m4.own fsO_191.out (own_types fsO_191.out fgT_193.out (by decide)) ap_74.out)
  have fsX_202 := Lib.hid (m4.bx fsX_192.out (own_bx_ne fgT_193.out fsX_192.out (by decide)) (own_bx_ne fgO_194.out fsX_192.out (by decide)))
  have fgX_203 := Lib.hid (m4.bx fgX_195.out (own_bx_ne fgT_193.out fgX_195.out (by decide)) (own_bx_ne fgO_194.out fgX_195.out (by decide)))
  have fgT_204 := Lib.hid (t4)
  have fgO_205 := Lib.hid (o4)
  clear fW_187 fX0_188 fX1_189 fsT_190 fsO_191 fsX_192 fgX_195 t4 o4 m4 fgT_193 fgO_194
  obtain ⟨q0, q1, q2, q3, _, _, _, _⟩ := fgX_203.out.four
  go_wp2_with fail
  refine (l_heldPoly _ _ _ _ _ _ _ _ _ _ (RdP.own fgT_204.out) (RdP.own fgO_205.out) (by omega) (by omega) (by omega) (by omega)).mono ?_
  rintro e w_207 ⟨rfl, b_206⟩
  clear q0 q1 q2 q3
  have fW_208 := Lib.hid (below_trans fW_197.out b_206)
  have fX0_209 := Lib.hid (fX0_198.out.below b_206)
  have fX1_210 := Lib.hid (fX1_199.out.below b_206)
  have fsT_211 := Lib.hid (ownsRow_below fsT_200.out b_206)
  have fsO_212 := Lib.hid (ownsRow_below fsO_201.out b_206)
  have fsX_213 := Lib.hid (fsX_202.out.below b_206)
  have fgX_214 := Lib.hid (fgX_203.out.below b_206)
  have fgT_215 := Lib.hid (ownsRow_below fgT_204.out b_206)
  have fgO_216 := Lib.hid (ownsRow_below fgO_205.out b_206)
  clear fW_197 fX0_198 fX1_199 fsT_200 fsO_201 fsX_202 fgX_203 fgT_204 fgO_205
  clear b_206
  obtain ⟨p0, p1, p2, p3, _⟩ := fX0_209.out.four
  obtain ⟨r0, r1, r2, r3, _⟩ := fX1_210.out.four
  go_upto_region 24 with fail
  go_cut [14, 15] (fun sp sb wx => PolyBox N H t o nT nO w_207 sp wx ∧ sb = .bool rb)
  case first =>
    have D0 := Lib.hid (Below.drew fW_208.out)
    have D1 := Lib.hid (Below.drew (Below.alloc fW_208.out (Below.size fW_208.out) (.cells #[.int .i64 0, .int .i64 0, .slice none 0 0, .slice none 0 0] 31)))
    have lX0 := fX0_209.out.lt
    have lX1 := fX1_210.out.lt
    go_region_held3 (fun w' => w'.cell? ⟨w.heap.size, 0, none⟩ = some (.int .i64 N0) ∧ w'.cell? ⟨w.heap.size, 1, none⟩ = some (.int .i64 H0) ∧ w'.cell? ⟨w.heap.size, 2, none⟩ = some (.slice AT0 nT0 cT0) ∧ w'.cell? ⟨w.heap.size, 3, none⟩ = some (.slice AO0 nO0 cO0) ∧ w'.cell? ⟨w.heap.size + 1, 0, none⟩ = some (.int .i64 g1.k) ∧ w'.cell? ⟨w.heap.size + 1, 1, none⟩ = some (.int .i64 g1.a) ∧ w'.cell? ⟨w.heap.size + 1, 2, none⟩ = some (.int .i64 g1.b) ∧ w'.cell? ⟨w.heap.size + 1, 3, none⟩ = some (.int .i64 g1.c))
      (first | with_reducible exact ⟨kX00, kX01, kX02, kX03, kX10, kX11, kX12, kX13⟩ | with_reducible exact ⟨cs4 kX00 (by omega), cs4 kX01 (by omega), cs4 kX02 (by omega), cs4 kX03 (by omega), cs4 kX10 (by omega), cs4 kX11 (by omega), cs4 kX12 (by omega), cs4 kX13 (by omega)⟩ | go_keep)
      (first
        | (go_at_call 17; (with_reducible refine (l_toPoly N0 H0 AT0 nT0 cT0 xT0 AO0 nO0 cO0 xO0 _ (RT0.out.below (by first | exact D0.out | exact D1.out)) (RO0.out.below (by first | exact D0.out | exact D1.out)) (by omega) (by omega)).mono ?_); rintro e wE ⟨vE, rfl, ⟨AE, cE, BE, dE, rfl, tE, oE⟩, bE⟩; have yE : Below w_207.heap.size w_207 wE := (by first | exact below_drew bE | exact below_alloc (below_drew bE)); (try (have XA := ((Bx.new w_207 31 #[.int .i64 0, .int .i64 0, .slice none 0 0, .slice none 0 0]).drew.below bE))); have sE := yE.size; have ⟨kX00, kX01, kX02, kX03, _, _, _, _⟩ := (fX0_209.out.below yE).four; have lX0yE := (fX0_209.out.below yE).lt; have ⟨kX10, kX11, kX12, kX13, _, _, _, _⟩ := (fX1_210.out.below yE).four; have lX1yE := (fX1_210.out.below yE).lt)
        | (go_at_call 21; (with_reducible refine (l_toGate _ _ _ _ _).mono ?_); rintro e wG ⟨rfl, bG⟩; have yG : Below w_207.heap.size w_207 wG := (by first | exact below_trans yE bG | exact below_trans yE (below_alloc bG)); have tG : wG.ownsRow _ 70 2 _ _ _ := (by first | exact ownsRow_below tE bG | exact ownsRow_below tE (below_alloc bG)); have oG : wG.ownsRow _ 88 2 _ _ _ := (by first | exact ownsRow_below oE bG | exact ownsRow_below oE (below_alloc bG)); (try (have XA := XA.below bG)); (try (have XB := ((Bx.new wE 31 #[.int .i64 0, .int .i64 0, .slice none 0 0, .slice none 0 0]).below bG))); have ⟨kX00, kX01, kX02, kX03, _, _, _, _⟩ := (fX0_209.out.below yG).four; have lX0yG := (fX0_209.out.below yG).lt; have ⟨kX10, kX11, kX12, kX13, _, _, _, _⟩ := (fX1_210.out.below yG).four; have lX1yG := (fX1_210.out.below yG).lt)
        | (go_at_call 22; (with_reducible refine (i_ApplyP N0 H0 AE _ cE xT0 BE _ dE xO0 g1 _ (RdP.own (by first | exact tG | exact tG.alloc _)) (RdP.own (by first | exact oG | exact oG.alloc _)) (by omega) (by omega) (ownsRow_cap tG)).mono ?_); rintro e wH ⟨vH, rfl, ⟨AH, cH, BH, dH, rfl, tH, oH⟩, bH⟩; rw [HR.out] at tH oH ⊢; simp only [HNT.out, HNO.out] at tH oH ⊢; have yH : Below w_207.heap.size w_207 wH := (by first | exact below_trans yG bH | exact below_trans yG (below_alloc bH)); have sH : w_207.heap.size ≤ wG.heap.size := yG.size; have uH := yH.size; (try (have XA := XA.below bH; have ⟨a0, a1, a2, a3, a4, a5, a6, a7⟩ := XA.four; have la := XA.lt)); (try (have XB := XB.below bH; have ⟨b0, b1, b2, b3, b4, b5, b6, b7⟩ := XB.four; have la := XB.lt)); (try (have XC := ((Bx.new wG 31 #[.int .i64 0, .int .i64 0, .slice none 0 0, .slice none 0 0]).below bH); have ⟨c0, c1, c2, c3, c4, c5, c6, c7⟩ := XC.four; have la := XC.lt)); have ⟨kX00, kX01, kX02, kX03, _, _, _, _⟩ := (fX0_209.out.below yH).four; have lX0yH := (fX0_209.out.below yH).lt; have ⟨kX10, kX11, kX12, kX13, _, _, _, _⟩ := (fX1_210.out.below yH).four; have lX1yH := (fX1_210.out.below yH).lt)
        | fail)
    all_goals go_wp2_with fail
    all_goals go_meet
    all_goals first
      | exact ⟨PolyBox.new tH oH yH (by first | omega | (simp only [World.size_alloc]; omega)), rfl⟩
      | exact ⟨PolyBox.old XA rfl (by omega) tH oH yH (by first | omega | (simp only [World.size_alloc]; omega)), rfl⟩
      | exact ⟨PolyBox.old XB rfl (by omega) tH oH yH (by first | omega | (simp only [World.size_alloc]; omega)), rfl⟩
      | exact ⟨PolyBox.old XC rfl (by omega) tH oH yH (by first | omega | (simp only [World.size_alloc]; omega)), rfl⟩
  case rest =>
  clear p0 p1 p2 p3 r0 r1 r2 r3
  obtain ⟨⟨gp_221, A_217, c_218, B_219, d_220, rfl, hx, t_222, o_223, b_224⟩, rfl⟩ := hcut
  have ap_225 := Lib.hid (own_apart fsT_211.out t_222 (Nat.le_refl _))
  have ap_226 := Lib.hid (own_apart_r fsT_211.out t_222 (Nat.le_refl _))
  have ap_227 := Lib.hid (own_apart fsT_211.out o_223 (Nat.le_refl _))
  have ap_228 := Lib.hid (own_apart_r fsT_211.out o_223 (Nat.le_refl _))
  have ap_229 := Lib.hid (own_apart fsO_212.out t_222 (Nat.le_refl _))
  have ap_230 := Lib.hid (own_apart_r fsO_212.out t_222 (Nat.le_refl _))
  have ap_231 := Lib.hid (own_apart fsO_212.out o_223 (Nat.le_refl _))
  have ap_232 := Lib.hid (own_apart_r fsO_212.out o_223 (Nat.le_refl _))
  have ap_233 := Lib.hid (own_apart fgT_215.out t_222 (Nat.le_refl _))
  have ap_234 := Lib.hid (own_apart_r fgT_215.out t_222 (Nat.le_refl _))
  have ap_235 := Lib.hid (own_apart fgT_215.out o_223 (Nat.le_refl _))
  have ap_236 := Lib.hid (own_apart_r fgT_215.out o_223 (Nat.le_refl _))
  have ap_237 := Lib.hid (own_apart fgO_216.out t_222 (Nat.le_refl _))
  have ap_238 := Lib.hid (own_apart_r fgO_216.out t_222 (Nat.le_refl _))
  have ap_239 := Lib.hid (own_apart fgO_216.out o_223 (Nat.le_refl _))
  have ap_240 := Lib.hid (own_apart_r fgO_216.out o_223 (Nat.le_refl _))
  have fW_241 := Lib.hid (below_trans fW_208.out b_224)
  have fX0_242 := Lib.hid (fX0_209.out.below b_224)
  have fX1_243 := Lib.hid (fX1_210.out.below b_224)
  have fsT_244 := Lib.hid (ownsRow_below fsT_211.out b_224)
  have fsO_245 := Lib.hid (ownsRow_below fsO_212.out b_224)
  have fsX_246 := Lib.hid (fsX_213.out.below b_224)
  have fgX_247 := Lib.hid (fgX_214.out.below b_224)
  have fgT_248 := Lib.hid (ownsRow_below fgT_215.out b_224)
  have fgO_249 := Lib.hid (ownsRow_below fgO_216.out b_224)
  clear fW_208 fX0_209 fX1_210 fsT_211 fsO_212 fsX_213 fgX_214 fgT_215 fgO_216
  have fhT_250 := Lib.hid (t_222)
  have fhO_251 := Lib.hid (o_223)
  have fhX_252 := Lib.hid (hx)
  clear hx t_222 o_223 b_224
  obtain ⟨q0, q1, q2, q3, _, _, _, _⟩ := fhX_252.out.four
  obtain ⟨p0, p1, p2, p3, _, _, _, _⟩ := fsX_246.out.four
  go_wp2_with fail
  refine (l_eqPoly_same _ _ _ _ _ _ _ t _ _ _ _ _ o _ (RdP.own fhT_250.out) (RdP.own fsT_244.out) (RdP.own fhO_251.out) (RdP.own fsO_245.out) (by omega) (by omega)).mono ?_
  rintro e w_254 ⟨rfl, b_253⟩
  clear q0 q1 q2 q3 p0 p1 p2 p3
  have fW_255 := Lib.hid (below_trans fW_241.out b_253)
  have fX0_256 := Lib.hid (fX0_242.out.below b_253)
  have fX1_257 := Lib.hid (fX1_243.out.below b_253)
  have fsT_258 := Lib.hid (ownsRow_below fsT_244.out b_253)
  have fsO_259 := Lib.hid (ownsRow_below fsO_245.out b_253)
  have fsX_260 := Lib.hid (fsX_246.out.below b_253)
  have fgX_261 := Lib.hid (fgX_247.out.below b_253)
  have fgT_262 := Lib.hid (ownsRow_below fgT_248.out b_253)
  have fgO_263 := Lib.hid (ownsRow_below fgO_249.out b_253)
  have fhT_264 := Lib.hid (ownsRow_below fhT_250.out b_253)
  have fhO_265 := Lib.hid (ownsRow_below fhO_251.out b_253)
  have fhX_266 := Lib.hid (fhX_252.out.below b_253)
  clear fW_241 fX0_242 fX1_243 fsT_244 fsO_245 fsX_246 fgX_247 fgT_248 fgO_249 fhT_250 fhO_251 fhX_252
  clear b_253
  obtain ⟨q0, q1, q2, q3, _, _, _, _⟩ := fgX_261.out.four
  go_wp2_with fail
  refine (l_heldPoly _ _ _ _ _ _ _ _ _ _ (RdP.own fgT_262.out) (RdP.own fgO_263.out) (by omega) (by omega) (by omega) (by omega)).mono ?_
  rintro e w_268 ⟨rfl, b_267⟩
  clear q0 q1 q2 q3
  have fW_269 := Lib.hid (below_trans fW_255.out b_267)
  have fX0_270 := Lib.hid (fX0_256.out.below b_267)
  have fX1_271 := Lib.hid (fX1_257.out.below b_267)
  have fsT_272 := Lib.hid (ownsRow_below fsT_258.out b_267)
  have fsO_273 := Lib.hid (ownsRow_below fsO_259.out b_267)
  have fsX_274 := Lib.hid (fsX_260.out.below b_267)
  have fgX_275 := Lib.hid (fgX_261.out.below b_267)
  have fgT_276 := Lib.hid (ownsRow_below fgT_262.out b_267)
  have fgO_277 := Lib.hid (ownsRow_below fgO_263.out b_267)
  have fhT_278 := Lib.hid (ownsRow_below fhT_264.out b_267)
  have fhO_279 := Lib.hid (ownsRow_below fhO_265.out b_267)
  have fhX_280 := Lib.hid (fhX_266.out.below b_267)
  clear fW_255 fX0_256 fX1_257 fsT_258 fsO_259 fsX_260 fgX_261 fgT_262 fgO_263 fhT_264 fhO_265 fhX_266
  clear b_267
  go_wp2_with fail
  go_ret
  exact ⟨rfl, fW_269.out⟩

theorem own : ownKnob Try.prog.godebug = none := by kernel_rfl
theorem laidOut : laidOutB Try.prog = true := by kernel_rfl
set_option maxRecDepth 100000 in
theorem lifted (os : Os) (started : os.Started) (H : Type) (enc : TypeId × Value → H) :
    ReturnsInHanded {} Try.checked os 4 .any (Rows.fnExactPhasePolynomialApplyGateSpec.pre6 enc Try.prog Try.f4 Rows.fnExactPhasePolynomialApplyGateRow.domain false) (Rows.fnExactPhasePolynomialApplyGateSpec.post enc Try.prog Try.f4 false true false false) := by
  refine returnsInHanded_of_change (C := Try.checked) own started (by kernel_rfl) Try.func4
    (ChangeSpec.witness6 (enc := enc) (C := Try.checked) false ⟨#[], #[.agg #[.int .i64 0, .int .i64 0, .slice none 0 0, .slice none 0 0], .agg #[.int .i64 0, .int .i64 0, .int .i64 0, .int .i64 0]], []⟩ 8 (by kernel_rfl) (by kernel_rfl) (by kernel_rfl) (by kernel_rfl)) ?_
  intro W base args ds gs before hval0 hW hcnd _
  have hval : ∀ (j : Nat) t v, Try.f4.params[j]? = some t → args[j]? = some v → Value.okWide Try.prog W .any base t v := hval0
  have hW' := hW
  obtain ⟨p, q, hA0, hV, rfl, hfz, hnd⟩ := hW
  have hA : DataW.TrodAll enc Try.prog W 0 (fun _ => true) true Try.f4.params.toList args.toList ds p := hA0
  rw [Try.params4] at hA hval
  obtain ⟨v0, vs0, d0, ds0, p0, q0, hargs, rfl, rfl, h0, t0⟩ := trodAll_cons hA
  obtain ⟨v1, vs1, d1, ds1, p1, q1, rfl, rfl, rfl, h1, t1⟩ := trodAll_cons t0
  obtain ⟨rfl, rfl, rfl⟩ := trodAll_nil t1
  obtain rfl : args = #[v0, v1] := by cases args; simp_all
  obtain ⟨rfl, rfl⟩ := trodVars_none hV
  have k0 := h0
  have lt0 : ∀ x ∈ p0, x.block < W.heap.size := by obtain ⟨m, hm⟩ := k0; exact DataW.trod_lt m _ _ _ hm
  obtain ⟨y0, y1, y2, y3, e0, e1, e2, e3, fu0, rfl, rfl, _, g0, g1, g2, g3⟩ := Joins.open_agg4 Try.underlying25 (by kernel_rfl) (by kernel_rfl) (hval 0 25 v0 rfl rfl) h0
  obtain ⟨N0, f0, _, w00⟩ := DataW.trod_int Try.underlying3 g0
  simp only [List.cons.injEq, and_true] at f0
  subst f0
  obtain ⟨H0, f1, _, w01⟩ := DataW.trod_int Try.underlying3 g1
  simp only [List.cons.injEq, and_true] at f1
  subst f1
  obtain ⟨AT0, nT0, cT0, xT0, rfl, rT0, lT0, mT0, okT0⟩ := open_pairs Try.underlying22 Try.underlying132 (by kernel_rfl) (by kernel_rfl) Try.underlying3 Try.underlying3 g2
  obtain ⟨AO0, nO0, cO0, xO0, rfl, rO0, lO0, mO0, okO0⟩ := open_pairs Try.underlying23 Try.underlying134 (by kernel_rfl) (by kernel_rfl) Try.underlying3 Try.underlying3 g3
  clear g0 g1 g2 g3
  have k1 := h1
  have lt1 : ∀ x ∈ p1, x.block < W.heap.size := by obtain ⟨m, hm⟩ := k1; exact DataW.trod_lt m _ _ _ hm
  obtain ⟨y0, y1, y2, y3, e0, e1, e2, e3, fu1, rfl, rfl, _, g0, g1, g2, g3⟩ := Joins.open_agg4 Try.underlying35 (by kernel_rfl) (by kernel_rfl) (hval 1 35 v1 rfl rfl) h1
  obtain ⟨z10, f0, _, w10⟩ := DataW.trod_int Try.underlying3 g0
  simp only [List.cons.injEq, and_true] at f0
  subst f0
  obtain ⟨z11, f1, _, w11⟩ := DataW.trod_int Try.underlying3 g1
  simp only [List.cons.injEq, and_true] at f1
  subst f1
  obtain ⟨z12, f2, _, w12⟩ := DataW.trod_int Try.underlying3 g2
  simp only [List.cons.injEq, and_true] at f2
  subst f2
  obtain ⟨z13, f3, _, w13⟩ := DataW.trod_int Try.underlying3 g3
  simp only [List.cons.injEq, and_true] at f3
  subst f3
  clear g0 g1 g2 g3
  clear hA0 hval0
  refine (walk N0 H0 AT0 nT0 cT0 xT0 AO0 nO0 cO0 xO0 ⟨z10, z11, z12, z13⟩ W (i64_of_wf w00) (i64_of_wf w01) rT0 lT0 mT0 okT0 rO0 lO0 mO0 okO0 ⟨i64_of_wf w10, i64_of_wf w11, i64_of_wf w12, i64_of_wf w13⟩).mono fun e W' ⟨he, bel⟩ => ?_
  subst he
  exact ⟨_, rfl, _, _, _, [], _, [], hW', trodAll_mk1 (shut_bool Try.underlying4 _), (trodAll_cons_mk (Below.trod laidOut (by kernel_rfl) (of_decide_eq_true (by kernel_rfl)) k0 bel lt0) (trodAll_cons_mk (Below.trod laidOut (by kernel_rfl) (of_decide_eq_true (by kernel_rfl)) k1 bel lt1) trodAll_mk0)), rfl, bel.frame _, fun h => by cases h⟩

theorem over : Rows.fnExactPhasePolynomialApplyGateRow.holds Try.pinned (OpenSpec.ofChange Rows.fnExactPhasePolynomialApplyGateSpec) :=
  OpenClaim.holds_of_wide 4 Try.f4 rfl rfl rfl rfl rfl rfl rfl ⟨rfl, rfl, rfl, rfl, rfl⟩ rfl rfl rfl rfl rfl (by kernel_rfl) Try.func4 (by kernel_rfl)
    (of_decide_eq_true (by kernel_rfl)) (by unfold Func.isWrapper; first | (rw [if_pos (by decide +kernel)]; kernel_rfl) | (rw [if_neg (by decide +kernel)]; exact ⟨rfl, rfl⟩))
    (fun os started H enc _ => lifted os started H enc)

theorem proved : Rows.FnExactPhasePolynomialApplyGateSaid := over
#print axioms proved
end Go.Proofs.Ythfacfnknpomcaa.fnExactPhasePolynomialApplyGate
