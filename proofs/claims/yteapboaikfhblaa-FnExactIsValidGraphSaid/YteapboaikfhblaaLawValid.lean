/- The law FnExactIsValidGraph returns true for every graph. No condition. -/
import Derived.Test.YteapboaikfhblaaRows
import Derived.Test.YteapboaikfhblaaGraphL
import Derived.Test.YteapboaikfhblaaValid
import Derived.Test.YteapboaikfhblaaOpen
import Derived.Deep.RegionWith
import Derived.ChangeOld
namespace Go.Proofs.Yteapboaikfhblaa.fnExactIsValidGraph
open Go.ChangeShapes Go.WideShapes Go.ChangeAt Go.RowKit
set_option linter.unusedVariables false

set_option maxHeartbeats 800000 in
theorem walk (N : Int) (A : Option Addr) (n c : Nat) (ps : List (Int × Int)) (w : World) (hN : I64 N) (h : RdP w A n ps) (hnc : n ≤ c) (hc : c ≤ maxLen) (ok : ∀ p ∈ ps, I64 p.1 ∧ I64 p.2) :
    Calls Try.prog 9 #[.agg #[.int .i64 N, .slice A n c]] w fun e w' => e = .returned (.bool true) ∧ Below w.heap.size w w' := by
  unfold maxLen at hc
  have H := Lib.hid h
  clear h ok hN
  have X0 := Lib.hid (Bx.new w 24 #[.int .i64 N, .slice A n c])
  by_cases hn : n ≤ 1048576
  · go_enter Try.func9, Try.ntmps9
    go_wp2_with fail
    refine (l_szGraph _ _ _ _ (by omega) _).mono ?_
    rintro e w1 ⟨rfl, b1⟩
    rw [if_pos hn]
    have X1 := X0.out.below b1
    obtain ⟨p0, p1, _, _⟩ := X1.two
    have H1 := (H.out.alloc _).below b1
    have b01 := below_alloc b1
    clear b1
    go_wp2_with fail
    refine (l_toGraph _ _ _ _ _ _ H1 hn).mono ?_
    rintro e w2 ⟨A2, c2, rfl, o2, b2⟩
    clear p0 p1
    go_wp2_with fail
    refine (s_IsValidGraph _ _ _ _ _ _ (RdP.own o2) (by omega)).mono ?_
    rintro e w3 ⟨rfl, b3⟩
    have b13 := below_trans b2 b3
    have X3 := X1.below b13
    have H3 := H1.below b13
    have b03 := below_trans b01 b13
    obtain ⟨p0, p1, _, _⟩ := X3.two
    clear X1 H1 b2 b3 o2 b13 b01
    go_wp2_with fail
    refine (l_toGraph _ _ _ _ _ _ H3 hn).mono ?_
    rintro e w4 ⟨A4, c4, rfl, o4, b4⟩
    clear p0 p1
    have X4 := X3.below b4
    have H4 := H3.below b4
    have b04 := below_trans b03 b4
    clear X3 H3 b4 b03
    go_wp2_with fail
    refine (i_IsValidGraph _ _ _ _ _ _ ((RdP.own o4).alloc _) (by omega)).mono ?_
    rintro e w5 ⟨rfl, b5⟩
    have Y5 := (Bx.new w4 29 #[.int .i64 N, .slice A4 n c4]).below b5
    have X5 := (X4.alloc _).below b5
    have H5 := (H4.alloc _).below b5
    have R5 := ((RdP.own o4).alloc _).below b5
    have b05 := below_trans b04 (below_alloc b5)
    obtain ⟨p0, p1, _, _⟩ := X5.two
    obtain ⟨r0, r1, _, _⟩ := Y5.two
    clear X4 H4 b5 b04 o4
    go_wp2_with fail
    go_region_with (first | (go_at_call 17; refine (l_toGraph _ _ _ _ _ _ H5.drew hn).mono ?_; rintro e w6 ⟨A6, c6, rfl, o6, b6⟩; obtain ⟨s0, s1, _, _⟩ := (Y5.drew.below b6).two) | (go_at_call 19; refine (l_eqGraph_same _ _ _ _ _ _ _ _ (R5.drew.below (by assumption)) (RdP.own (by assumption)) (by omega)).mono ?_; rintro e w7 ⟨rfl, b7⟩))
    all_goals go_wp2_with fail
    all_goals go_ret
    all_goals exact ⟨rfl, below_trans (below_trans b05 (below_drew (by assumption))) (by assumption)⟩
  · go_enter Try.func9, Try.ntmps9
    go_wp2_with fail
    refine (l_szGraph _ _ _ _ (by omega) _).mono ?_
    rintro e w1 ⟨rfl, b1⟩
    rw [if_neg hn]
    go_wp2_with fail
    go_ret
    exact ⟨rfl, below_alloc b1⟩

theorem own : ownKnob Try.prog.godebug = none := by kernel_rfl
theorem laidOut : laidOutB Try.prog = true := by kernel_rfl
set_option maxRecDepth 100000 in
theorem lifted (os : Os) (started : os.Started) (H : Type) (enc : TypeId × Value → H) :
    ReturnsInHanded {} Try.checked os 9 .any (Rows.fnExactIsValidGraphSpec.pre6 enc Try.prog Try.f9 Rows.fnExactIsValidGraphRow.domain false) (Rows.fnExactIsValidGraphSpec.post enc Try.prog Try.f9 false true false false) := by
  refine returnsInHanded_of_change (C := Try.checked) own started (by kernel_rfl) Try.func9
    (ChangeSpec.witness6 (enc := enc) (C := Try.checked) false ⟨#[], #[.agg #[.int .i64 0, .slice none 0 0]], []⟩ 8 (by kernel_rfl) (by kernel_rfl) (by kernel_rfl) (by kernel_rfl)) ?_
  intro W base args ds gs before hval0 hW hcnd _
  have hval : ∀ (j : Nat) t v, Try.f9.params[j]? = some t → args[j]? = some v → Value.okWide Try.prog W .any base t v := hval0
  have hW' := hW
  obtain ⟨p, q, hA0, hV, rfl, hfz, hnd⟩ := hW
  have hA : DataW.TrodAll enc Try.prog W 0 (fun _ => true) true Try.f9.params.toList args.toList ds p := hA0
  rw [Try.params9] at hA hval
  obtain ⟨v0, vs0, d0, ds0, p0, q0, hargs, rfl, rfl, h0, t0⟩ := trodAll_cons hA
  obtain ⟨rfl, rfl, rfl⟩ := trodAll_nil t0
  obtain rfl : args = #[v0] := by cases args; simp_all
  obtain ⟨rfl, rfl⟩ := trodVars_none hV
  have k0 := h0
  have lt0 : ∀ x ∈ p0, x.block < W.heap.size := by obtain ⟨m, hm⟩ := k0; exact DataW.trod_lt m _ _ _ hm
  obtain ⟨y0, y1, e0, e1, fu0, rfl, rfl, _, g0, g1⟩ := Joins.open_agg2 Try.underlying24 (by kernel_rfl) (by kernel_rfl) (hval 0 24 v0 rfl rfl) h0
  obtain ⟨N0, f0, _, w0⟩ := DataW.trod_int Try.underlying3 g0
  simp only [List.cons.injEq, and_true] at f0
  subst f0
  obtain ⟨A0, n0, c0, x0, rfl, r0, l0, m0, ok0⟩ := open_pairs Try.underlying22 Try.underlying119 (by kernel_rfl) (by kernel_rfl) Try.underlying3 Try.underlying3 g1
  clear g0 g1
  clear hA0 hval0
  refine (walk N0 A0 n0 c0 x0 W (i64_of_wf w0) r0 l0 m0 ok0).mono fun e W' ⟨he, bel⟩ => ?_
  subst he
  exact ⟨_, rfl, _, _, _, [], _, [], hW', trodAll_mk1 (shut_bool Try.underlying4 _), (trodAll_cons_mk (Below.trod laidOut (by kernel_rfl) (of_decide_eq_true (by kernel_rfl)) k0 bel lt0) trodAll_mk0), rfl, bel.frame _, fun h => by cases h⟩

theorem over : Rows.fnExactIsValidGraphRow.holds Try.pinned (OpenSpec.ofChange Rows.fnExactIsValidGraphSpec) :=
  OpenClaim.holds_of_wide 9 Try.f9 rfl rfl rfl rfl rfl rfl rfl ⟨rfl, rfl, rfl, rfl, rfl⟩ rfl rfl rfl rfl rfl (by kernel_rfl) Try.func9 (by kernel_rfl)
    (of_decide_eq_true (by kernel_rfl)) (by unfold Func.isWrapper; first | (rw [if_pos (by decide +kernel)]; kernel_rfl) | (rw [if_neg (by decide +kernel)]; exact ⟨rfl, rfl⟩))
    (fun os started H enc _ => lifted os started H enc)

theorem proved : Rows.FnExactIsValidGraphSaid := over
#print axioms proved
end Go.Proofs.Yteapboaikfhblaa.fnExactIsValidGraph
