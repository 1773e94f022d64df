/- The law FnExactMergeGates returns true for every two gates. No condition. -/
import Derived.Test.YtmmpmdolamngnaaRows
import Derived.Test.YtmmpmdolamngnaaMergeI
import Derived.Test.YtmmpmdolamngnaaGateT
import Derived.Test.YtmmpmdolamngnaaOpen
import Derived.ChangeOld
namespace Go.Proofs.Ytmmpmdolamngnaa.fnExactMergeGates
open Go.ChangeShapes Go.WideShapes Go.ChangeAt Go.RowKit
set_option linter.unusedVariables false

/-- Two boxes and the frame. -/
def Two (w : World) (g h : Gt) (wx : World) : Prop := Bx wx w.heap.size 23 #[.int .i64 g.k, .int .i64 g.a, .int .i64 g.b, .int .i64 g.c] ∧ Bx wx (w.heap.size + 1) 23 #[.int .i64 h.k, .int .i64 h.a, .int .i64 h.b, .int .i64 h.c] ∧ Below w.heap.size w wx
theorem Two.below {w wx w' : World} {g h : Gt} (s : Two w g h wx) (hb : Below wx.heap.size wx w') : Two w g h w' := ⟨s.1.below hb, s.2.1.below hb, s.2.2.trans (hb.mono s.2.2.size)⟩
theorem Two.drew {w wx : World} {g h : Gt} (s : Two w g h wx) : Two w g h wx.drew := ⟨s.1, s.2.1, s.2.2.drew⟩
theorem Two.grown {w wx w' : World} {g h : Gt} {base n c : Nat} {A : Option Addr} {xs : List Value} (s : Two w g h wx) (o : wx.ownsRow base 27 4 (.slice A n c) n xs) (hw : w.heap.size ≤ base) (hg : wx.grownBy w' (Value.slice A n c).ownBlock) : Two w g h w' :=
  ⟨kept_app o hg s.1 (by decide), kept_app o hg s.2.1 (by decide), below_grown s.2.2 s.2.2.size o hw hg⟩
theorem Two.cells {w wx : World} {g h : Gt} (s : Two w g h wx) : wx.cell? ⟨w.heap.size, 0, none⟩ = some (.int .i64 g.k) ∧ wx.cell? ⟨w.heap.size, 1, none⟩ = some (.int .i64 g.a) ∧ wx.cell? ⟨w.heap.size, 2, none⟩ = some (.int .i64 g.b) ∧ wx.cell? ⟨w.heap.size, 3, none⟩ = some (.int .i64 g.c) ∧ wx.cell? ⟨w.heap.size + 1, 0, none⟩ = some (.int .i64 h.k) ∧ wx.cell? ⟨w.heap.size + 1, 1, none⟩ = some (.int .i64 h.a) ∧ wx.cell? ⟨w.heap.size + 1, 2, none⟩ = some (.int .i64 h.b) ∧ wx.cell? ⟨w.heap.size + 1, 3, none⟩ = some (.int .i64 h.c) := by
  obtain ⟨p0, p1, p2, p3, _⟩ := s.1.four
  obtain ⟨q0, q1, q2, q3, _⟩ := s.2.1.four
  exact ⟨p0, p1, p2, p3, q0, q1, q2, q3⟩
def Got (w : World) (g h : Gt) (wd : World) (v5 v6 : Value) (wx : World) : Prop := ∃ A c, v5 = .slice A (mergeL g h).length c ∧ v6 = .bool (mergeOk g h) ∧ wx.ownsRow wd.heap.size 27 4 (.slice A (mergeL g h).length c) (mergeL g h).length (cellsG (mergeL g h)) ∧ Two w g h wx ∧ Below wd.heap.size wd wx
theorem mergeL_len (g h : Gt) : (mergeL g h).length ≤ 2 := by
  unfold mergeL
  split
  · simp
  · split
    · rw [rotG_len]; exact rotK_len _
    · simp

set_option maxRecDepth 100000 in
set_option maxHeartbeats 1600000 in
theorem walk (g h : Gt) (w : World) (hg : g.ok) (hh : h.ok) :
    Calls Try.prog 3 #[.agg #[.int .i64 g.k, .int .i64 g.a, .int .i64 g.b, .int .i64 g.c], .agg #[.int .i64 h.k, .int .i64 h.a, .int .i64 h.b, .int .i64 h.c]] w fun e w' => e = .returned (.bool true) ∧ Below w.heap.size w w' := by
  clear hg hh
  have hlen := mergeL_len g h
  have T0 := Lib.hid (show Two w g h ((w.alloc (.cells #[.int .i64 g.k, .int .i64 g.a, .int .i64 g.b, .int .i64 g.c] 23)).alloc (.cells #[.int .i64 h.k, .int .i64 h.a, .int .i64 h.b, .int .i64 h.c] 23)) from ⟨(Bx.new w _ _).alloc _, Bx.new' (by simp), ((Below.refl _ _).alloc (Nat.le_refl _) _).alloc (by simp) _⟩)
  go_enter Try.func3, Try.ntmps3
  go_upto_region 1 with fail
  obtain ⟨wd, hwd⟩ : ∃ wd, wd = (w.alloc (.cells #[.int .i64 g.k, .int .i64 g.a, .int .i64 g.b, .int .i64 g.c] 23)).alloc (.cells #[.int .i64 h.k, .int .i64 h.a, .int .i64 h.b, .int .i64 h.c] 23) := ⟨_, rfl⟩
  rw [← hwd] at T0 ⊢
  clear hwd
  obtain ⟨p0, p1, p2, p3, q0, q1, q2, q3⟩ := T0.out.cells
  go_cut [5, 6] (fun v5 v6 wx => Got w g h wd v5 v6 wx)
  case first =>
    have U0 := T0.out.drew
    have V0 : Below wd.heap.size wd wd.drew := (Below.refl _ _).drew
    go_region_held3 (fun w' => w'.cell? ⟨w.heap.size, 0, none⟩ = some (.int .i64 g.k) ∧ w'.cell? ⟨w.heap.size, 1, none⟩ = some (.int .i64 g.a) ∧ w'.cell? ⟨w.heap.size, 2, none⟩ = some (.int .i64 g.b) ∧ w'.cell? ⟨w.heap.size, 3, none⟩ = some (.int .i64 g.c) ∧ w'.cell? ⟨w.heap.size + 1, 0, none⟩ = some (.int .i64 h.k) ∧ w'.cell? ⟨w.heap.size + 1, 1, none⟩ = some (.int .i64 h.a) ∧ w'.cell? ⟨w.heap.size + 1, 2, none⟩ = some (.int .i64 h.b) ∧ w'.cell? ⟨w.heap.size + 1, 3, none⟩ = some (.int .i64 h.c))
      (first | go_keep | exact U1.cells | exact U2.cells | exact U3.cells)
      (first
        | (go_at_call 13; (with_reducible refine (s_MergeGates g h _).mono ?_); rintro e w4 ⟨A4, c4, rfl, o4, b4⟩; have U3 := U2.below b4; have V3 := below_trans V2 b4)
        | (go_at_call 14; (with_reducible refine (l_toGate _ _ _ _ _).mono ?_); rintro e w1 ⟨rfl, b1⟩; first | (have U2 := U1.below b1; have V2 := below_trans V1 b1) | (have U1 := U0.below b1; have V1 := below_trans V0 b1)))
    all_goals go_wp2_with fail
    all_goals go_meet
    all_goals exact ⟨A4, c4, rfl, rfl, ownsRow_base o4 V2.size, U3, V3⟩
  case rest =>
    obtain ⟨A1, c1, rfl, rfl, o1, t1, b1⟩ := hcut
    have hs1 := t1.2.2.size
    have o1' := ownsRow_base o1 T0.out.2.2.size
    have T1 := Lib.hid t1
    have O1 := Lib.hid o1'
    clear T0 t1 o1 o1' b1 p0 p1 p2 p3 q0 q1 q2 q3 hs1
    clear wd
    obtain ⟨wd, rfl⟩ : ∃ wd, wd = wc := ⟨_, rfl⟩
    obtain ⟨p0, p1, p2, p3, q0, q1, q2, q3⟩ := T1.out.cells
    go_upto_region 2 with fail
    go_cut [7, 8] (fun v5 v6 wx => Got w g h wd v5 v6 wx)
    case first =>
      have U0 := T1.out.drew
      have V0 : Below wd.heap.size wd wd.drew := (Below.refl _ _).drew
      go_region_held3 (fun w' => w'.cell? ⟨w.heap.size, 0, none⟩ = some (.int .i64 g.k) ∧ w'.cell? ⟨w.heap.size, 1, none⟩ = some (.int .i64 g.a) ∧ w'.cell? ⟨w.heap.size, 2, none⟩ = some (.int .i64 g.b) ∧ w'.cell? ⟨w.heap.size, 3, none⟩ = some (.int .i64 g.c) ∧ w'.cell? ⟨w.heap.size + 1, 0, none⟩ = some (.int .i64 h.k) ∧ w'.cell? ⟨w.heap.size + 1, 1, none⟩ = some (.int .i64 h.a) ∧ w'.cell? ⟨w.heap.size + 1, 2, none⟩ = some (.int .i64 h.b) ∧ w'.cell? ⟨w.heap.size + 1, 3, none⟩ = some (.int .i64 h.c))
        (first | go_keep | exact U1.cells | exact U2.cells | exact U3.cells)
        (first
          | (go_at_call 15; (with_reducible refine (i_MergeGates g h _).mono ?_); rintro e w4 ⟨A4, c4, rfl, o4, b4⟩; have U3 := U2.below b4; have V3 := below_trans V2 b4)
          | (go_at_call 14; (with_reducible refine (l_toGate _ _ _ _ _).mono ?_); rintro e w1 ⟨rfl, b1⟩; first | (have U2 := U1.below b1; have V2 := below_trans V1 b1) | (have U1 := U0.below b1; have V1 := below_trans V0 b1)))
      all_goals go_wp2_with fail
      all_goals go_meet
      all_goals exact ⟨A4, c4, rfl, rfl, ownsRow_base o4 V2.size, U3, V3⟩
    case rest =>
      obtain ⟨A2, c2, rfl, rfl, o2, t2, b2⟩ := hcut
      have P1 := Lib.hid (ownsRow_below O1.out b2)
      have P2 := Lib.hid (ownsRow_base o2 T1.out.2.2.size)
      have AP := Lib.hid (own_apart O1.out o2 (Nat.le_refl _))
      have T2 := Lib.hid t2
      clear T1 t2 o2 b2 O1 p0 p1 p2 p3 q0 q1 q2 q3
      clear wd
      go_wp2_with fail
      refine (l_eqGateS_same _ _ _ _ _ _ _ (RdG.own P2.out) (RdG.own P1.out) (by omega)).mono ?_
      rintro e w3 ⟨rfl, b3⟩
      have Q1 := Lib.hid (ownsRow_below P1.out b3)
      have Q2 := Lib.hid (ownsRow_below P2.out b3)
      have T3 := Lib.hid (T2.out.below b3)
      clear b3
      go_wp2_with fail
      refine (l_markGateS _ _ _ _ _ 1 _ _ Q2.out (by omega) (by omega) (by omega)).mono ?_
      rintro e w4 ⟨rfl, o4, g4⟩
      have T4 := Lib.hid (T3.out.grown Q2.out (Nat.le_refl _) g4)
      have R1 := Lib.hid (Q1.out.kept g4 AP.out)
      have O4 := Lib.hid o4
      clear o4 g4
      go_wp2_with fail
      refine (l_heldGateS _ _ _ 1 _ (RdG.own O4.out) (by omega) (by omega) (by omega)).mono ?_
      rintro e w5 ⟨rfl, rfl⟩
      obtain ⟨p0, p1, p2, p3, q0, q1, q2, q3⟩ := T4.out.cells
      obtain ⟨wd, rfl⟩ : ∃ wd, wd = w4 := ⟨_, rfl⟩
      go_upto_region 13 with fail
      go_cut [11, 12] (fun v5 v6 wx => Got w g h wd v5 v6 wx)
      case first =>
        have U0 := T4.out.drew
        have V0 : Below wd.heap.size wd wd.drew := (Below.refl _ _).drew
        go_region_held3 (fun w' => w'.cell? ⟨w.heap.size, 0, none⟩ = some (.int .i64 g.k) ∧ w'.cell? ⟨w.heap.size, 1, none⟩ = some (.int .i64 g.a) ∧ w'.cell? ⟨w.heap.size, 2, none⟩ = some (.int .i64 g.b) ∧ w'.cell? ⟨w.heap.size, 3, none⟩ = some (.int .i64 g.c) ∧ w'.cell? ⟨w.heap.size + 1, 0, none⟩ = some (.int .i64 h.k) ∧ w'.cell? ⟨w.heap.size + 1, 1, none⟩ = some (.int .i64 h.a) ∧ w'.cell? ⟨w.heap.size + 1, 2, none⟩ = some (.int .i64 h.b) ∧ w'.cell? ⟨w.heap.size + 1, 3, none⟩ = some (.int .i64 h.c))
          (first | go_keep | exact U1.cells | exact U2.cells | exact U3.cells)
          (first
            | (go_at_call 15; (with_reducible refine (i_MergeGates g h _).mono ?_); rintro e w4 ⟨A4, c4, rfl, o4, b4⟩; have U3 := U2.below b4; have V3 := below_trans V2 b4)
            | (go_at_call 14; (with_reducible refine (l_toGate _ _ _ _ _).mono ?_); rintro e w1 ⟨rfl, b1⟩; first | (have U2 := U1.below b1; have V2 := below_trans V1 b1) | (have U1 := U0.below b1; have V1 := below_trans V0 b1)))
        all_goals go_wp2_with fail
        all_goals go_meet
        all_goals exact ⟨A4, c4, rfl, rfl, ownsRow_base o4 V2.size, U3, V3⟩
      case rest =>
        obtain ⟨A6, c6, rfl, rfl, o6, t6, b6⟩ := hcut
        have P1 := Lib.hid (ownsRow_below R1.out b6)
        have P4 := Lib.hid (ownsRow_below O4.out b6)
        have P6 := Lib.hid o6
        have T6 := Lib.hid t6
        clear o6 t6 b6 p0 p1 p2 p3 q0 q1 q2 q3
        go_wp2_with fail
        refine (l_eqGateS_same _ _ _ _ _ _ _ (RdG.own P6.out) (RdG.own P1.out) (by omega)).mono ?_
        rintro e w7 ⟨rfl, b7⟩
        have R4 := Lib.hid (ownsRow_below P4.out b7)
        have T7 := Lib.hid (T6.out.below b7)
        clear b7
        go_wp2_with fail
        refine (l_heldGateS _ _ _ 1 _ (RdG.own R4.out) (by omega) (by omega) (by omega)).mono ?_
        rintro e w8 ⟨rfl, rfl⟩
        go_wp2_with fail
        go_ret
        exact ⟨rfl, T7.out.2.2⟩

theorem own : ownKnob Try.prog.godebug = none := by kernel_rfl
theorem laidOut : laidOutB Try.prog = true := by kernel_rfl
set_option maxRecDepth 100000 in
theorem lifted (os : Os) (started : os.Started) (H : Type) (enc : TypeId × Value → H) :
    ReturnsInHanded {} Try.checked os 3 .any (Rows.fnExactMergeGatesSpec.pre6 enc Try.prog Try.f3 Rows.fnExactMergeGatesRow.domain false) (Rows.fnExactMergeGatesSpec.post enc Try.prog Try.f3 false true false false) := by
  refine returnsInHanded_of_change (C := Try.checked) own started (by kernel_rfl) Try.func3
    (ChangeSpec.witness6 (enc := enc) (C := Try.checked) false ⟨#[], #[.agg #[.int .i64 0, .int .i64 0, .int .i64 0, .int .i64 0], .agg #[.int .i64 0, .int .i64 0, .int .i64 0, .int .i64 0]], []⟩ 8 (by kernel_rfl) (by kernel_rfl) (by kernel_rfl) (by kernel_rfl)) ?_
  intro W base args ds gs before hval0 hW hcnd _
  have hval : ∀ (j : Nat) t v, Try.f3.params[j]? = some t → args[j]? = some v → Value.okWide Try.prog W .any base t v := hval0
  have hW' := hW
  obtain ⟨p, q, hA0, hV, rfl, hfz, hnd⟩ := hW
  have hA : DataW.TrodAll enc Try.prog W 0 (fun _ => true) true Try.f3.params.toList args.toList ds p := hA0
  rw [Try.params3] at hA hval
  obtain ⟨v0, vs0, d0, ds0, p0, q0, hargs, rfl, rfl, h0, t0⟩ := trodAll_cons hA
  obtain ⟨v1, vs1, d1, ds1, p1, q1, rfl, rfl, rfl, h1, t1⟩ := trodAll_cons t0
  obtain ⟨rfl, rfl, rfl⟩ := trodAll_nil t1
  obtain rfl : args = #[v0, v1] := by cases args; simp_all
  obtain ⟨rfl, rfl⟩ := trodVars_none hV
  have k0 := h0
  have lt0 : ∀ x ∈ p0, x.block < W.heap.size := by obtain ⟨m, hm⟩ := k0; exact DataW.trod_lt m _ _ _ hm
  obtain ⟨y0, y1, y2, y3, e0, e1, e2, e3, fu0, rfl, rfl, _, g0, g1, g2, g3⟩ := Joins.open_agg4 Try.underlying23 (by kernel_rfl) (by kernel_rfl) (hval 0 23 v0 rfl rfl) h0
  obtain ⟨z00, f0, _, w00⟩ := DataW.trod_int Try.underlying3 g0
  simp only [List.cons.injEq, and_true] at f0
  subst f0
  obtain ⟨z01, f1, _, w01⟩ := DataW.trod_int Try.underlying3 g1
  simp only [List.cons.injEq, and_true] at f1
  subst f1
  obtain ⟨z02, f2, _, w02⟩ := DataW.trod_int Try.underlying3 g2
  simp only [List.cons.injEq, and_true] at f2
  subst f2
  obtain ⟨z03, f3, _, w03⟩ := DataW.trod_int Try.underlying3 g3
  simp only [List.cons.injEq, and_true] at f3
  subst f3
  clear g0 g1 g2 g3
  have k1 := h1
  have lt1 : ∀ x ∈ p1, x.block < W.heap.size := by obtain ⟨m, hm⟩ := k1; exact DataW.trod_lt m _ _ _ hm
  obtain ⟨y0, y1, y2, y3, e0, e1, e2, e3, fu1, rfl, rfl, _, g0, g1, g2, g3⟩ := Joins.open_agg4 Try.underlying23 (by kernel_rfl) (by kernel_rfl) (hval 1 23 v1 rfl rfl) h1
  obtain ⟨z10, f0, _, w10⟩ := DataW.trod_int Try.underlying3 g0
  simp only [List.cons.injEq, and_true] at f0
  subst f0
  obtain ⟨z11, f1, _, w11⟩ := DataW.trod_int Try.underlying3 g1
  simp only [List.cons.injEq, and_true] at f1
  subst f1
  obtain ⟨z12, f2, _, w12⟩ := DataW.trod_int Try.underlying3 g2
  simp only [List.cons.injEq, and_true] at f2
  subst f2
  obtain ⟨z13, f3, _, w13⟩ := DataW.trod_int Try.underlying3 g3
  simp only [List.cons.injEq, and_true] at f3
  subst f3
  clear g0 g1 g2 g3
  clear hA0 hval0
  refine (walk ⟨z00, z01, z02, z03⟩ ⟨z10, z11, z12, z13⟩ W ⟨i64_of_wf w00, i64_of_wf w01, i64_of_wf w02, i64_of_wf w03⟩ ⟨i64_of_wf w10, i64_of_wf w11, i64_of_wf w12, i64_of_wf w13⟩).mono fun e W' ⟨he, bel⟩ => ?_
  subst he
  exact ⟨_, rfl, _, _, _, [], _, [], hW', trodAll_mk1 (shut_bool Try.underlying4 _), (trodAll_cons_mk (Below.trod laidOut (by kernel_rfl) (of_decide_eq_true (by kernel_rfl)) k0 bel lt0) (trodAll_cons_mk (Below.trod laidOut (by kernel_rfl) (of_decide_eq_true (by kernel_rfl)) k1 bel lt1) trodAll_mk0)), rfl, bel.frame _, fun h => by cases h⟩

theorem over : Rows.fnExactMergeGatesRow.holds Try.pinned (OpenSpec.ofChange Rows.fnExactMergeGatesSpec) :=
  OpenClaim.holds_of_wide 3 Try.f3 rfl rfl rfl rfl rfl rfl rfl ⟨rfl, rfl, rfl, rfl, rfl⟩ rfl rfl rfl rfl rfl (by kernel_rfl) Try.func3 (by kernel_rfl)
    (of_decide_eq_true (by kernel_rfl)) (by unfold Func.isWrapper; first | (rw [if_pos (by decide +kernel)]; kernel_rfl) | (rw [if_neg (by decide +kernel)]; exact ⟨rfl, rfl⟩))
    (fun os started H enc _ => lifted os started H enc)

theorem proved : Rows.FnExactMergeGatesSaid := over
#print axioms proved

end Go.Proofs.Ytmmpmdolamngnaa.fnExactMergeGates
