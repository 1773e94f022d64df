/- The law FnExactRespectsGraph returns true for every list of gates and every graph. No condition. -/
import Derived.Test.YthijgdpnodiceaaRows
import Derived.Test.YthijgdpnodiceaaResp
import Derived.Test.YthijgdpnodiceaaSzX
import Derived.Test.YthijgdpnodiceaaGateT
import Derived.Test.YthijgdpnodiceaaOpen
import Derived.Deep.RegionWith
import Derived.Deep.DeepCutAuto
import Derived.ChangeOld
namespace Go.Proofs.Ythijgdpnodiceaa.fnExactRespectsGraph
open Go.ChangeShapes Go.WideShapes Go.ChangeAt Go.RowKit
set_option linter.unusedVariables false

def St (w : World) (N : Int) (B : Option Addr) (m d : Nat) (wx : World) : Prop := Bx wx w.heap.size 49 #[.int .i64 N, .slice B m d] ∧ Below w.heap.size w wx
theorem St.below {w wx w' : World} {N : Int} {B : Option Addr} {m d : Nat} (s : St w N B m d wx) (hb : Below wx.heap.size wx w') : St w N B m d w' := ⟨s.1.below hb, s.2.trans (hb.mono s.2.size)⟩
theorem St.drew {w wx : World} {N : Int} {B : Option Addr} {m d : Nat} (s : St w N B m d wx) : St w N B m d wx.drew := ⟨s.1, s.2.drew⟩
theorem St.cells {w wx : World} {N : Int} {B : Option Addr} {m d : Nat} (s : St w N B m d wx) : wx.cell? ⟨w.heap.size, 0, none⟩ = some (.int .i64 N) ∧ wx.cell? ⟨w.heap.size, 1, none⟩ = some (.slice B m d) := ⟨s.1.two.1, s.1.two.2.1⟩

set_option maxRecDepth 100000 in
set_option maxHeartbeats 3200000 in
theorem walk (A : Option Addr) (n c : Nat) (gs : List Gt) (N : Int) (B : Option Addr) (m d : Nat) (ps : List (Int × Int)) (w : World) (h : RdG w A n gs) (hnc : n ≤ c) (hc : c ≤ maxLen) (ok : ∀ g ∈ gs, g.ok) (hN : I64 N) (hp : RdP w B m ps) (hmd : m ≤ d) (hd : d ≤ maxLen) (okp : ∀ p ∈ ps, I64 p.1 ∧ I64 p.2) :
    Calls Try.prog 8 #[.slice A n c, .agg #[.int .i64 N, .slice B m d]] w fun e w' => e = .returned (.bool true) ∧ Below w.heap.size w w' := by
  unfold maxLen at hc hd
  have HG := Lib.hid h
  have HP := Lib.hid hp
  clear h hp ok hN okp
  have T0 := Lib.hid (show St w N B m d (w.alloc (.cells #[.int .i64 N, .slice B m d] 49)) from ⟨Bx.new w _ _, (Below.refl _ _).alloc (Nat.le_refl _) _⟩)
  obtain ⟨R, hR⟩ : ∃ R, resp ps N gs = R := ⟨_, rfl⟩
  have HR := Lib.hid hR
  clear hR
  by_cases hn : n ≤ 1048576
  · by_cases hm : (m : Int) ≤ 1048576 - n
    · have hm' : m ≤ 1048576 := by omega
      go_enter Try.func8, Try.ntmps8
      go_wp2_with fail
      refine (l_szGateS _ _ _ (by omega) _).mono ?_
      rintro e w' ⟨rfl, rfl⟩
      rw [if_pos hn]
      go_wp2_with fail
      refine (l_szGraphx _ _ _ _ _ (by omega) (by omega) (by omega) _).mono ?_
      rintro e w1 ⟨rfl, b1⟩
      rw [if_pos hm]
      have T1 := Lib.hid (T0.out.below b1)
      clear b1 T0
      obtain ⟨p0, p1⟩ := T1.out.cells
      obtain ⟨wd, rfl⟩ : ∃ wd, wd = w1 := ⟨_, rfl⟩
      go_upto_region 8 with fail
      go_cut [6] (fun v6 wx => v6 = .bool R ∧ St w N B m d wx)
      case first =>
        have U0 := T1.out.drew
        have G0 := HG.out.below U0.2
        go_region_held3 (fun w' => w'.cell? ⟨w.heap.size, 0, none⟩ = some (.int .i64 N) ∧ w'.cell? ⟨w.heap.size, 1, none⟩ = some (.slice B m d))
          (first | go_keep | exact U1.cells | exact U2.cells | exact U3.cells)
          (first
            | (go_at_call 43; (with_reducible refine (l_toGateS _ _ _ _ _ G0 hn).mono ?_); rintro e w1 ⟨A1, c1, rfl, o1, b1⟩; have U1 := U0.below b1; have P1 := HP.out.below U1.2; have r1 := RdG.own o1)
            | (go_at_call 44; (with_reducible refine (l_toGraph _ _ _ _ _ _ P1 hm').mono ?_); rintro e w2 ⟨A2, c2, rfl, o2, b2⟩; have U2 := U1.below b2; have r2 := r1.below b2; have e2 := RdP.own o2)
            | (go_at_call 42; (with_reducible refine (s_RespectsGraph _ _ _ _ _ _ _ _ _ _ r2 (by omega) e2 (by omega)).mono ?_); rintro e w3 ⟨rfl, b3⟩; rw [HR.out]; have U3 := U2.below b3))
        all_goals go_wp2_with fail
        all_goals go_meet
        all_goals exact ⟨rfl, U3⟩
      case rest =>
        obtain ⟨rfl, t1⟩ := hcut
        clear T1 p0 p1
        clear wd
        obtain ⟨wd, rfl⟩ : ∃ wd, wd = wc := ⟨_, rfl⟩
        obtain ⟨p0, p1⟩ := t1.cells
        go_wp2_with fail
        refine (l_toGateS _ _ _ _ _ (HG.out.below t1.2) hn).mono ?_
        rintro e w4 ⟨A4, c4, rfl, o4, b4⟩
        have t4 := t1.below b4
        clear p0 p1
        obtain ⟨p0, p1⟩ := t4.cells
        go_wp2_with fail
        refine (l_toGraph _ _ _ _ _ _ (HP.out.below t4.2) hm').mono ?_
        rintro e w5 ⟨A5, c5, rfl, o5, b5⟩
        have t5 := t4.below b5
        have r4 := (RdG.own o4).below b5
        clear p0 p1 t1 b4 t4 b5 o4
        go_wp2_with fail
        refine (i_RespectsGraph _ _ _ _ _ _ _ _ _ _ (r4.alloc _) (by omega) ((RdP.own o5).alloc _) (by omega)).mono ?_
        rintro e w6 ⟨rfl, b6⟩
        rw [HR.out]
        have t6 := t5.below (below_alloc b6)
        have r6 := (r4.alloc _).below b6
        have e6 := ((RdP.own o5).alloc _).below b6
        have y6 := (Bx.new w5 38 #[.int .i64 N, .slice A5 m c5]).below b6
        clear t5 r4 o5 b6
        go_wp2_with fail
        refine (l_toGateS _ _ _ _ _ (HG.out.below t6.2) hn).mono ?_
        rintro e w7 ⟨A7, c7, rfl, o7, b7⟩
        have t7 := t6.below b7
        have e7 := e6.below b7
        have y7 := y6.below b7
        have r7 := r6.below b7
        clear t6 e6 y6 r6 b7
        go_wp2_with fail
        refine (l_eqGateS_same _ _ _ _ _ _ _ r7 (RdG.own o7) (by omega)).mono ?_
        rintro e w8 ⟨rfl, b8⟩
        have t8 := t7.below b8
        have e8 := e7.below b8
        have y8 := y7.below b8
        clear t7 e7 y7 r7 o7 b8
        obtain ⟨p0, p1⟩ := t8.cells
        obtain ⟨r0, r1, _, _⟩ := y8.two
        go_wp2_with fail
        go_region_with (first | (go_at_call 44; refine (l_toGraph _ _ _ _ _ _ (HP.out.below t8.2).drew hm').mono ?_; rintro e w9 ⟨A9, c9, rfl, o9, b9⟩; obtain ⟨s0, s1, _, _⟩ := (y8.drew.below b9).two) | (go_at_call 47; refine (l_eqGraph_same _ _ _ _ _ _ _ _ (e8.drew.below (by assumption)) (RdP.own (by assumption)) (by omega)).mono ?_; rintro e w10 ⟨rfl, b10⟩))
        all_goals go_wp2_with fail
        all_goals go_ret
        all_goals exact ⟨rfl, below_trans (below_trans t8.2 (below_drew (by assumption))) (by assumption)⟩
    · go_enter Try.func8, Try.ntmps8
      go_wp2_with fail
      refine (l_szGateS _ _ _ (by omega) _).mono ?_
      rintro e w' ⟨rfl, rfl⟩
      rw [if_pos hn]
      go_wp2_with fail
      refine (l_szGraphx _ _ _ _ _ (by omega) (by omega) (by omega) _).mono ?_
      rintro e w1 ⟨rfl, b1⟩
      rw [if_neg (by omega)]
      go_wp2_with fail
      go_ret
      exact ⟨rfl, below_alloc b1⟩
  · go_enter Try.func8, Try.ntmps8
    go_wp2_with fail
    refine (l_szGateS _ _ _ (by omega) _).mono ?_
    rintro e w1 ⟨rfl, rfl⟩
    rw [if_neg (by omega)]
    go_wp2_with fail
    go_ret
    exact ⟨rfl, (Below.refl _ _).alloc (Nat.le_refl _) _⟩

theorem own : ownKnob Try.prog.godebug = none := by kernel_rfl
theorem laidOut : laidOutB Try.prog = true := by kernel_rfl
set_option maxRecDepth 100000 in
theorem lifted (os : Os) (started : os.Started) (H : Type) (enc : TypeId × Value → H) :
    ReturnsInHanded {} Try.checked os 8 .any (Rows.fnExactRespectsGraphSpec.pre6 enc Try.prog Try.f8 Rows.fnExactRespectsGraphRow.domain false) (Rows.fnExactRespectsGraphSpec.post enc Try.prog Try.f8 false true false false) := by
  refine returnsInHanded_of_change (C := Try.checked) own started (by kernel_rfl) Try.func8
    (ChangeSpec.witness6 (enc := enc) (C := Try.checked) false ⟨#[], #[.slice none 0 0, .agg #[.int .i64 0, .slice none 0 0]], []⟩ 8 (by kernel_rfl) (by kernel_rfl) (by kernel_rfl) (by kernel_rfl)) ?_
  intro W base args ds gs before hval0 hW hcnd _
  have hval : ∀ (j : Nat) t v, Try.f8.params[j]? = some t → args[j]? = some v → Value.okWide Try.prog W .any base t v := hval0
  have hW' := hW
  obtain ⟨p, q, hA0, hV, rfl, hfz, hnd⟩ := hW
  have hA : DataW.TrodAll enc Try.prog W 0 (fun _ => true) true Try.f8.params.toList args.toList ds p := hA0
  rw [Try.params8] at hA hval
  obtain ⟨v0, vs0, d0, ds0, p0, q0, hargs, rfl, rfl, h0, t0⟩ := trodAll_cons hA
  obtain ⟨v1, vs1, d1, ds1, p1, q1, rfl, rfl, rfl, h1, t1⟩ := trodAll_cons t0
  obtain ⟨rfl, rfl, rfl⟩ := trodAll_nil t1
  obtain rfl : args = #[v0, v1] := by cases args; simp_all
  obtain ⟨rfl, rfl⟩ := trodVars_none hV
  have k0 := h0
  have lt0 : ∀ x ∈ p0, x.block < W.heap.size := by obtain ⟨m, hm⟩ := k0; exact DataW.trod_lt m _ _ _ hm
  obtain ⟨A0, n0, c0, rfl⟩ := okWide_slice Try.underlying46 (hval 0 46 v0 rfl rfl)
  obtain ⟨fu0, hf0⟩ := h0
  obtain ⟨_, _, _, x0, e0, r0, l0, m0, ok0⟩ := open_gates Try.underlying46 Try.underlying69 (by kernel_rfl) (by kernel_rfl) Try.underlying3 Try.underlying3 Try.underlying3 Try.underlying3 hf0
  simp only [Value.slice.injEq] at e0
  obtain ⟨rfl, rfl, rfl⟩ := e0
  have k1 := h1
  have lt1 : ∀ x ∈ p1, x.block < W.heap.size := by obtain ⟨m, hm⟩ := k1; exact DataW.trod_lt m _ _ _ hm
  obtain ⟨y0, y1, e0, e1, fu1, rfl, rfl, _, g0, g1⟩ := Joins.open_agg2 Try.underlying49 (by kernel_rfl) (by kernel_rfl) (hval 1 49 v1 rfl rfl) h1
  obtain ⟨N1, f0, _, w1⟩ := DataW.trod_int Try.underlying3 g0
  simp only [List.cons.injEq, and_true] at f0
  subst f0
  obtain ⟨A1, n1, c1, x1, rfl, r1, l1, m1, ok1⟩ := open_pairs Try.underlying47 Try.underlying111 (by kernel_rfl) (by kernel_rfl) Try.underlying3 Try.underlying3 g1
  clear g0 g1
  clear hA0 hval0
  refine (walk A0 n0 c0 x0 N1 A1 n1 c1 x1 W r0 l0 m0 ok0 (i64_of_wf w1) r1 l1 m1 ok1).mono fun e W' ⟨he, bel⟩ => ?_
  subst he
  exact ⟨_, rfl, _, _, _, [], _, [], hW', trodAll_mk1 (shut_bool Try.underlying4 _), (trodAll_cons_mk (Below.trod laidOut (by kernel_rfl) (of_decide_eq_true (by kernel_rfl)) k0 bel lt0) (trodAll_cons_mk (Below.trod laidOut (by kernel_rfl) (of_decide_eq_true (by kernel_rfl)) k1 bel lt1) trodAll_mk0)), rfl, bel.frame _, fun h => by cases h⟩

theorem over : Rows.fnExactRespectsGraphRow.holds Try.pinned (OpenSpec.ofChange Rows.fnExactRespectsGraphSpec) :=
  OpenClaim.holds_of_wide 8 Try.f8 rfl rfl rfl rfl rfl rfl rfl ⟨rfl, rfl, rfl, rfl, rfl⟩ rfl rfl rfl rfl rfl (by kernel_rfl) Try.func8 (by kernel_rfl)
    (of_decide_eq_true (by kernel_rfl)) (by unfold Func.isWrapper; first | (rw [if_pos (by decide +kernel)]; kernel_rfl) | (rw [if_neg (by decide +kernel)]; exact ⟨rfl, rfl⟩))
    (fun os started H enc _ => lifted os started H enc)

theorem proved : Rows.FnExactRespectsGraphSaid := over
#print axioms proved
end Go.Proofs.Ythijgdpnodiceaa.fnExactRespectsGraph
