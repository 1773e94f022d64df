/- The law FnExactLayoutCost returns true for every list of gates, every graph and every list of numbers. No condition. -/
import Derived.Test.YthijgdpnodiceaaRows
import Derived.Test.YthijgdpnodiceaaLay
import Derived.Test.YthijgdpnodiceaaIntS
import Derived.Test.YthijgdpnodiceaaSzX
import Derived.Test.YthijgdpnodiceaaGateT
import Derived.Test.YthijgdpnodiceaaOpen
import Derived.Deep.RegionWith
import Derived.Deep.DeepCutAuto
import Derived.ChangeOld
namespace Go.Proofs.Ythijgdpnodiceaa.fnExactLayoutCost
open Go.ChangeShapes Go.WideShapes Go.ChangeAt Go.RowKit
set_option linter.unusedVariables false

def St (w : World) (N : Int) (B : Option Addr) (m d : Nat) (wx : World) : Prop := Bx wx w.heap.size 49 #[.int .i64 N, .slice B m d] ∧ Below w.heap.size w wx
theorem St.below {w wx w' : World} {N : Int} {B : Option Addr} {m d : Nat} (s : St w N B m d wx) (hb : Below wx.heap.size wx w') : St w N B m d w' := ⟨s.1.below hb, s.2.trans (hb.mono s.2.size)⟩
theorem St.drew {w wx : World} {N : Int} {B : Option Addr} {m d : Nat} (s : St w N B m d wx) : St w N B m d wx.drew := ⟨s.1, s.2.drew⟩
theorem St.cells {w wx : World} {N : Int} {B : Option Addr} {m d : Nat} (s : St w N B m d wx) : wx.cell? ⟨w.heap.size, 0, none⟩ = some (.int .i64 N) ∧ wx.cell? ⟨w.heap.size, 1, none⟩ = some (.slice B m d) := ⟨s.1.two.1, s.1.two.2.1⟩

set_option maxRecDepth 100000 in
set_option maxHeartbeats 3200000 in
theorem walk (A : Option Addr) (n c : Nat) (gs : List Gt) (N : Int) (B : Option Addr) (m d : Nat) (ps : List (Int × Int)) (Z : Option Addr) (nz cz : Nat) (zs : List Int) (w : World) (h : RdG w A n gs) (hnc : n ≤ c) (hc : c ≤ maxLen) (ok : ∀ g ∈ gs, g.ok) (hN : I64 N) (hp : RdP w B m ps) (hmd : m ≤ d) (hd : d ≤ maxLen) (okp : ∀ p ∈ ps, I64 p.1 ∧ I64 p.2) (hz : RdI w Z nz zs) (hnz : nz ≤ cz) (hcz : cz ≤ maxLen) (okz : ∀ z ∈ zs, I64 z) :
    Calls Try.prog 9 #[.slice A n c, .agg #[.int .i64 N, .slice B m d], .slice Z nz cz] w fun e w' => e = .returned (.bool true) ∧ Below w.heap.size w w' := by
  unfold maxLen at hc hd hcz
  have HZ := Lib.hid hz
  have HG := Lib.hid h
  have HP := Lib.hid hp
  clear h hp hz ok hN okp okz
  have T0 := Lib.hid (show St w N B m d (w.alloc (.cells #[.int .i64 N, .slice B m d] 49)) from ⟨Bx.new w _ _, (Below.refl _ _).alloc (Nat.le_refl _) _⟩)
  obtain ⟨R, hR⟩ : ∃ R, layCost ps N zs gs = R := ⟨_, rfl⟩
  have HR := Lib.hid hR
  clear hR
  by_cases hzn : nz ≤ 1048576
  rotate_left
  · go_enter Try.func9, Try.ntmps9
    go_wp2_with fail
    go_ret
    exact ⟨rfl, (Below.refl _ _).alloc (Nat.le_refl _) _⟩
  by_cases hn : n ≤ 1048576
  · by_cases hm : (m : Int) ≤ 1048576 - n
    · have hm' : m ≤ 1048576 := by omega
      go_enter Try.func9, Try.ntmps9
      go_wp2_with fail
      refine (l_szGateS _ _ _ (by omega) _).mono ?_
      rintro e w' ⟨rfl, rfl⟩
      rw [if_pos hn]
      go_wp2_with fail
      refine (l_szGraphx _ _ _ _ _ (by omega) (by omega) (by omega) _).mono ?_
      rintro e w1 ⟨rfl, b1⟩
      rw [if_pos hm]
      have T1 := Lib.hid (T0.out.below b1)
      clear b1 T0
      obtain ⟨p0, p1⟩ := T1.out.cells
      obtain ⟨wd, rfl⟩ : ∃ wd, wd = w1 := ⟨_, rfl⟩
      go_upto_region 10 with fail
      go_cut [8] (fun v6 wx => v6 = .int .i64 R ∧ St w N B m d wx)
      case first =>
        have U0 := T1.out.drew
        have G0 := HG.out.below U0.2
        go_region_held3 (fun w' => w'.cell? ⟨w.heap.size, 0, none⟩ = some (.int .i64 N) ∧ w'.cell? ⟨w.heap.size, 1, none⟩ = some (.slice B m d))
          (first | go_keep | exact U1.cells | exact U2.cells | exact U3.cells | exact U4.cells)
          (first
            | (go_at_call 43; (with_reducible refine (l_toGateS _ _ _ _ _ G0 hn).mono ?_); rintro e w1 ⟨A1, c1, rfl, o1, b1⟩; have U1 := U0.below b1; have P1 := HP.out.below U1.2; have r1 := RdG.own o1)
            | (go_at_call 44; (with_reducible refine (l_toGraph _ _ _ _ _ _ P1 hm').mono ?_); rintro e w2 ⟨A2, c2, rfl, o2, b2⟩; have U2 := U1.below b2; have r2 := r1.below b2; have e2 := RdP.own o2; have Z2 := HZ.out.below U2.2)
            | (go_at_call 49; (with_reducible refine (l_toIntS _ _ _ _ _ Z2 hzn).mono ?_); rintro e w3 ⟨A3, c3, rfl, o3, b3⟩; have U3 := U2.below b3; have r3 := r2.below b3; have e3 := e2.below b3; have z3 := RdI.own o3; have h3c := own_cap o3)
            | (go_at_call 48; (with_reducible refine (s_LayoutCost _ _ _ _ _ _ _ _ _ _ _ _ _ _ r3 (by omega) e3 (by omega) z3 h3c (by omega)).mono ?_); rintro e w4 ⟨rfl, b4⟩; rw [HR.out]; have U4 := U3.below b4))
        all_goals go_wp2_with fail
        all_goals go_meet
        all_goals exact ⟨rfl, U4⟩
      case rest =>
        obtain ⟨rfl, t1⟩ := hcut
        clear T1 p0 p1
        clear wd
        obtain ⟨wd, rfl⟩ : ∃ wd, wd = wc := ⟨_, rfl⟩
        obtain ⟨p0, p1⟩ := t1.cells
        go_wp2_with fail
        refine (l_toGateS _ _ _ _ _ (HG.out.below t1.2) hn).mono ?_
        rintro e w4 ⟨A4, c4, rfl, o4, b4⟩
        have t4 := t1.below b4
        clear p0 p1
        obtain ⟨p0, p1⟩ := t4.cells
        go_wp2_with fail
        refine (l_toGraph _ _ _ _ _ _ (HP.out.below t4.2) hm').mono ?_
        rintro e w5 ⟨A5, c5, rfl, o5, b5⟩
        have t5 := t4.below b5
        have r4 := (RdG.own o4).below b5
        clear p0 p1 t1 b4 t4 b5 o4
        go_wp2_with fail
        refine (l_toIntS _ _ _ _ _ ((HZ.out.below t5.2).alloc _) hzn).mono ?_
        rintro e w6 ⟨A6, c6, rfl, o6, b6⟩
        have t6 := t5.below (below_alloc b6)
        have r6 := (r4.alloc _).below b6
        have e6 := ((RdP.own o5).alloc _).below b6
        have y6 := (Bx.new w5 38 #[.int .i64 N, .slice A5 m c5]).below b6
        clear t5 r4 o5 b6
        obtain ⟨r0, r1, _, _⟩ := y6.two
        go_wp2_with fail
        refine (i_LayoutCost _ _ _ _ _ _ _ _ _ _ _ _ _ _ r6 (by omega) e6 (by omega) (RdI.own o6) (by omega)).mono ?_
        rintro e w7 ⟨rfl, b7⟩
        rw [HR.out]
        have t7 := t6.below b7
        have e7 := e6.below b7
        have y7 := y6.below b7
        have r7 := r6.below b7
        have z7 := (RdI.own o6).below b7
        clear t6 e6 y6 r6 b7 o6 r0 r1
        go_wp2_with fail
        refine (l_toGateS _ _ _ _ _ (HG.out.below t7.2) hn).mono ?_
        rintro e w8 ⟨A8, c8, rfl, o8, b8⟩
        have t8 := t7.below b8
        have e8 := e7.below b8
        have y8 := y7.below b8
        have r8 := r7.below b8
        have z8 := z7.below b8
        clear t7 e7 y7 r7 b8 z7
        go_wp2_with fail
        refine (l_eqGateS_same _ _ _ _ _ _ _ r8 (RdG.own o8) (by omega)).mono ?_
        rintro e w9 ⟨rfl, b9⟩
        have t9 := Lib.hid (t8.below b9)
        have e9 := Lib.hid (e8.below b9)
        have y9 := Lib.hid (y8.below b9)
        have z9 := Lib.hid (z8.below b9)
        clear t8 e8 y8 r8 o8 b9 z8
        obtain ⟨p0, p1⟩ := t9.out.cells
        obtain ⟨r0, r1, _, _⟩ := y9.out.two
        go_upto_region 19 with fail
        go_cut [55] (fun v wx => v = .bool false ∧ Below w9.heap.size w9 wx)
        case first =>
          go_region_with (first | (go_at_call 44; refine (l_toGraph _ _ _ _ _ _ (HP.out.below t9.out.2).drew hm').mono ?_; rintro e w10 ⟨A10, c10, rfl, o10, b10⟩; obtain ⟨s0, s1, _, _⟩ := (y9.out.drew.below b10).two) | (go_at_call 47; refine (l_eqGraph_same _ _ _ _ _ _ _ _ (e9.out.drew.below (by assumption)) (RdP.own (by assumption)) (by omega)).mono ?_; rintro e w11 ⟨rfl, b11⟩))
          all_goals go_wp2_with fail
          all_goals go_meet
          all_goals exact ⟨rfl, below_trans (below_drew (by assumption)) (by assumption)⟩
        case rest =>
          obtain ⟨rfl, bc⟩ := hcut
          have t10 := t9.out.below bc
          have z10 := z9.out.below bc
          clear t9 e9 y9 z9 bc p0 p1 r0 r1
          go_wp2_with fail
          refine (l_toIntS _ _ _ _ _ (HZ.out.below t10.2) hzn).mono ?_
          rintro e w11 ⟨A11, c11, rfl, o11, b11⟩
          go_wp2_with fail
          refine (l_eqIntS_same _ _ _ _ _ _ _ (z10.below b11) (RdI.own o11) (by omega)).mono ?_
          rintro e w12 ⟨rfl, b12⟩
          go_wp2_with fail
          go_ret
          exact ⟨rfl, below_trans (below_trans t10.2 b11) b12⟩
    · go_enter Try.func9, Try.ntmps9
      go_wp2_with fail
      refine (l_szGateS _ _ _ (by omega) _).mono ?_
      rintro e w' ⟨rfl, rfl⟩
      rw [if_pos hn]
      go_wp2_with fail
      refine (l_szGraphx _ _ _ _ _ (by omega) (by omega) (by omega) _).mono ?_
      rintro e w1 ⟨rfl, b1⟩
      rw [if_neg (by omega)]
      go_wp2_with fail
      go_ret
      exact ⟨rfl, below_alloc b1⟩
  · go_enter Try.func9, Try.ntmps9
    go_wp2_with fail
    refine (l_szGateS _ _ _ (by omega) _).mono ?_
    rintro e w1 ⟨rfl, rfl⟩
    rw [if_neg (by omega)]
    go_wp2_with fail
    go_ret
    exact ⟨rfl, (Below.refl _ _).alloc (Nat.le_refl _) _⟩

theorem own : ownKnob Try.prog.godebug = none := by kernel_rfl
theorem laidOut : laidOutB Try.prog = true := by kernel_rfl
set_option maxRecDepth 100000 in
theorem lifted (os : Os) (started : os.Started) (H : Type) (enc : TypeId × Value → H) :
    ReturnsInHanded {} Try.checked os 9 .any (Rows.fnExactLayoutCostSpec.pre6 enc Try.prog Try.f9 Rows.fnExactLayoutCostRow.domain false) (Rows.fnExactLayoutCostSpec.post enc Try.prog Try.f9 false true false false) := by
  refine returnsInHanded_of_change (C := Try.checked) own started (by kernel_rfl) Try.func9
    (ChangeSpec.witness6 (enc := enc) (C := Try.checked) false ⟨#[], #[.slice none 0 0, .agg #[.int .i64 0, .slice none 0 0], .slice none 0 0], []⟩ 8 (by kernel_rfl) (by kernel_rfl) (by kernel_rfl) (by kernel_rfl)) ?_
  intro W base args ds gs before hval0 hW hcnd _
  have hval : ∀ (j : Nat) t v, Try.f9.params[j]? = some t → args[j]? = some v → Value.okWide Try.prog W .any base t v := hval0
  have hW' := hW
  obtain ⟨p, q, hA0, hV, rfl, hfz, hnd⟩ := hW
  have hA : DataW.TrodAll enc Try.prog W 0 (fun _ => true) true Try.f9.params.toList args.toList ds p := hA0
  rw [Try.params9] at hA hval
  obtain ⟨v0, vs0, d0, ds0, p0, q0, hargs, rfl, rfl, h0, t0⟩ := trodAll_cons hA
  obtain ⟨v1, vs1, d1, ds1, p1, q1, rfl, rfl, rfl, h1, t1⟩ := trodAll_cons t0
  obtain ⟨v2, vs2, d2, ds2, p2, q2, rfl, rfl, rfl, h2, t2⟩ := trodAll_cons t1
  obtain ⟨rfl, rfl, rfl⟩ := trodAll_nil t2
  obtain rfl : args = #[v0, v1, v2] := by cases args; simp_all
  obtain ⟨rfl, rfl⟩ := trodVars_none hV
  have k0 := h0
  have lt0 : ∀ x ∈ p0, x.block < W.heap.size := by obtain ⟨m, hm⟩ := k0; exact DataW.trod_lt m _ _ _ hm
  obtain ⟨A0, n0, c0, rfl⟩ := okWide_slice Try.underlying46 (hval 0 46 v0 rfl rfl)
  obtain ⟨fu0, hf0⟩ := h0
  obtain ⟨_, _, _, x0, e0, r0, l0, m0, ok0⟩ := open_gates Try.underlying46 Try.underlying69 (by kernel_rfl) (by kernel_rfl) Try.underlying3 Try.underlying3 Try.underlying3 Try.underlying3 hf0
  simp only [Value.slice.injEq] at e0
  obtain ⟨rfl, rfl, rfl⟩ := e0
  have k1 := h1
  have lt1 : ∀ x ∈ p1, x.block < W.heap.size := by obtain ⟨m, hm⟩ := k1; exact DataW.trod_lt m _ _ _ hm
  obtain ⟨y0, y1, e0, e1, fu1, rfl, rfl, _, g0, g1⟩ := Joins.open_agg2 Try.underlying49 (by kernel_rfl) (by kernel_rfl) (hval 1 49 v1 rfl rfl) h1
  obtain ⟨N1, f0, _, w1⟩ := DataW.trod_int Try.underlying3 g0
  simp only [List.cons.injEq, and_true] at f0
  subst f0
  obtain ⟨A1, n1, c1, x1, rfl, r1, l1, m1, ok1⟩ := open_pairs Try.underlying47 Try.underlying111 (by kernel_rfl) (by kernel_rfl) Try.underlying3 Try.underlying3 g1
  clear g0 g1
  have k2 := h2
  have lt2 : ∀ x ∈ p2, x.block < W.heap.size := by obtain ⟨m, hm⟩ := k2; exact DataW.trod_lt m _ _ _ hm
  obtain ⟨A2, n2, c2, rfl⟩ := okWide_slice Try.underlying31 (hval 2 31 v2 rfl rfl)
  obtain ⟨fu2, hf2⟩ := h2
  obtain ⟨_, _, _, x2, e2, r2, l2, m2, ok2⟩ := open_nums Try.underlying31 Try.underlying3 (by kernel_rfl) hf2
  simp only [Value.slice.injEq] at e2
  obtain ⟨rfl, rfl, rfl⟩ := e2
  clear hA0 hval0
  refine (walk A0 n0 c0 x0 N1 A1 n1 c1 x1 A2 n2 c2 x2 W r0 l0 m0 ok0 (i64_of_wf w1) r1 l1 m1 ok1 r2 l2 m2 ok2).mono fun e W' ⟨he, bel⟩ => ?_
  subst he
  exact ⟨_, rfl, _, _, _, [], _, [], hW', trodAll_mk1 (shut_bool Try.underlying4 _), (trodAll_cons_mk (Below.trod laidOut (by kernel_rfl) (of_decide_eq_true (by kernel_rfl)) k0 bel lt0) (trodAll_cons_mk (Below.trod laidOut (by kernel_rfl) (of_decide_eq_true (by kernel_rfl)) k1 bel lt1) (trodAll_cons_mk (Below.trod laidOut (by kernel_rfl) (of_decide_eq_true (by kernel_rfl)) k2 bel lt2) trodAll_mk0))), rfl, bel.frame _, fun h => by cases h⟩

theorem over : Rows.fnExactLayoutCostRow.holds Try.pinned (OpenSpec.ofChange Rows.fnExactLayoutCostSpec) :=
  OpenClaim.holds_of_wide 9 Try.f9 rfl rfl rfl rfl rfl rfl rfl ⟨rfl, rfl, rfl, rfl, rfl⟩ rfl rfl rfl rfl rfl (by kernel_rfl) Try.func9 (by kernel_rfl)
    (of_decide_eq_true (by kernel_rfl)) (by unfold Func.isWrapper; first | (rw [if_pos (by decide +kernel)]; kernel_rfl) | (rw [if_neg (by decide +kernel)]; exact ⟨rfl, rfl⟩))
    (fun os started H enc _ => lifted os started H enc)

theorem proved : Rows.FnExactLayoutCostSaid := over
#print axioms proved
end Go.Proofs.Ythijgdpnodiceaa.fnExactLayoutCost
