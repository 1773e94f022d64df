/- The law FnExactShortestPath returns true for every graph and every two numbers. No condition. -/
import Derived.Test.YteapboaikfhblaaRows
import Derived.Test.YteapboaikfhblaaGraphM
import Derived.Test.YteapboaikfhblaaIntS
import Derived.Test.YteapboaikfhblaaPathI
import Derived.Test.YteapboaikfhblaaOpen
import Derived.Deep.RegionWith
import Derived.Deep.DeepCutAuto
import Derived.ChangeOld
namespace Go.Proofs.Yteapboaikfhblaa.fnExactShortestPath
open Go.ChangeShapes Go.WideShapes Go.ChangeAt Go.RowKit
set_option linter.unusedVariables false

set_option maxHeartbeats 3200000 in
theorem walk (N : Int) (A : Option Addr) (n c : Nat) (ps : List (Int × Int)) (a b : Int) (w : World) (hN : I64 N) (h : RdP w A n ps) (hnc : n ≤ c) (hc : c ≤ maxLen) (ok : ∀ p ∈ ps, I64 p.1 ∧ I64 p.2) (ha : I64 a) (hb : I64 b) :
    Calls Try.prog 13 #[.agg #[.int .i64 N, .slice A n c], .int .i64 a, .int .i64 b] w fun e w' => e = .returned (.bool true) ∧ Below w.heap.size w w' := by
  unfold maxLen at hc
  have H := Lib.hid h
  clear h ok hN ha hb
  have hlen : spN ps N a b ≤ 1099511627776 := by have := gd_lt ps N a b; unfold spN; omega
  have X0 := Lib.hid (Bx.new w 24 #[.int .i64 N, .slice A n c])
  by_cases hn : n ≤ 1048576
  · go_enter Try.func13, Try.ntmps13
    go_wp2_with fail
    refine (l_szGraph _ _ _ _ (by omega) _).mono ?_
    rintro e w1 ⟨rfl, b1⟩
    rw [if_pos hn]
    have X1 := X0.out.below b1
    obtain ⟨p0, p1, _, _⟩ := X1.two
    have H1 := (H.out.alloc _).below b1
    have b01 := below_alloc b1
    clear b1
    go_wp2_with fail
    refine (l_toGraph _ _ _ _ _ _ H1 hn).mono ?_
    rintro e w2 ⟨A2, c2, rfl, o2, b2⟩
    clear p0 p1
    go_wp2_with fail
    refine (s_ShortestPath _ _ _ _ _ _ _ _ (RdP.own o2) (by omega)).mono ?_
    rintro e w3 ⟨As, cs, rfl, os, b3⟩
    have b13 := below_trans b2 b3
    have X3 := X1.below b13
    have b03 := below_trans b01 b13
    have H3 := H.out.below b03
    obtain ⟨p0, p1, _, _⟩ := X3.two
    clear X1 H1 b2 b3 o2 b13 b01
    go_wp2_with fail
    refine (l_toGraph _ _ _ _ _ _ H3 hn).mono ?_
    rintro e w4 ⟨A4, c4, rfl, o4, b4⟩
    clear p0 p1
    have X4 := X3.below b4
    have b04 := below_trans b03 b4
    go_wp2_with fail
    refine (i_ShortestPath _ _ _ _ _ _ _ _ ((RdP.own o4).alloc _) (by omega)).mono ?_
    rintro e w5 ⟨A5, c5, rfl, o5, b5⟩
    have b45 := below_alloc b5
    have b35 := below_trans b4 b45
    have b05 := below_trans b04 b45
    have s04 : w.heap.size ≤ (w4.alloc (.cells #[.int .i64 N, .slice A4 n c4] 29)).heap.size := by have := b04.size; simp <;> omega
    have Y5 := (Bx.new w4 29 #[.int .i64 N, .slice A4 n c4]).below b5
    have X5 := (X4.alloc _).below b5
    have q4 := ownsRow_below o4 b45
    have qs := ownsRow_below os b35
    have a4s := own_apart os o4 (Nat.le_refl _)
    have a45 := own_apart_r o4 o5 (by simp)
    have a5s := own_apart os o5 (by have := b4.size; simp <;> omega)
    clear b4 b45 b35 X3 X4 H3 os o4 b04
    go_wp2_with fail
    refine (l_eqIntS_same _ _ _ _ _ _ _ (RdI.own o5) (RdI.own qs) hlen).mono ?_
    rintro e w6 ⟨rfl, b6⟩
    have b06 := below_trans b05 b6
    have Y6 := Y5.below b6
    have X6 := X5.below b6
    have H6 := H.out.below b06
    have t4 := ownsRow_below q4 b6
    have ts := ownsRow_below qs b6
    have t5 := ownsRow_below o5 b6
    clear Y5 X5 q4 qs b6 b05 b5 o5
    obtain ⟨p0, p1, _, _⟩ := X6.two
    obtain ⟨r0, r1, _, _⟩ := Y6.two
    go_upto_region 10 with fail
    go_cut [39] (fun v wx => v = .bool false ∧ Below w6.heap.size w6 wx)
    case first =>
      go_region_with (first | (go_at_call 17; refine (l_toGraph _ _ _ _ _ _ H6.drew hn).mono ?_; rintro e w7 ⟨A7, c7, rfl, o7, b7⟩; obtain ⟨s0, s1, _, _⟩ := (Y6.drew.below b7).two) | (go_at_call 19; refine (l_eqGraph_same _ _ _ _ _ _ _ _ ((RdP.own t4).drew.below (by assumption)) (RdP.own (by assumption)) (by omega)).mono ?_; rintro e w8 ⟨rfl, b8⟩))
      all_goals go_wp2_with fail
      all_goals go_meet
      all_goals exact ⟨rfl, below_trans (below_drew (by assumption)) (by assumption)⟩
    case rest =>
      obtain ⟨rfl, bz⟩ := hcut
      have b0z := below_trans b06 bz
      have Yz := Y6.below bz
      have Xz := X6.below bz
      have z4 := ownsRow_below t4 bz
      have zs := ownsRow_below ts bz
      have z5 := ownsRow_below t5 bz
      clear p0 p1 r0 r1 Y6 X6 H6 t4 ts t5 bz b06
      obtain ⟨r0, r1, _, _⟩ := Yz.two
      go_wp2_with fail
      refine (l_markGraph _ _ _ _ _ 1 _ _ z4 (by omega) (by omega) (by omega)).mono ?_
      rintro e wm ⟨rfl, gm⟩
      clear r0 r1
      have b0m : Below w.heap.size w wm := below_grown (b0z.alloc b0z.size _) (by have := b0z.size; simp <;> omega) (z4.alloc _) b03.size gm
      have Xm := kept_app (z4.alloc _) gm (Xz.alloc _) (by decide)
      have ms := (zs.alloc _).kept gm a4s
      have m5 := (z5.alloc _).kept gm a45
      have hm1 : ¬ ((1 : Int) + 2 * n < 0) := by omega
      clear Yz Xz z4 zs z5 gm b0z
      go_wp2_with fail
      refine (l_eqIntS_same _ _ _ _ _ _ _ (RdI.own m5) (RdI.own ms) hlen).mono ?_
      rintro e wn ⟨rfl, bn⟩
      have b0n := below_trans b0m bn
      have Xn := Xm.below bn
      have ns := ownsRow_below ms bn
      have n5 := ownsRow_below m5 bn
      clear Xm ms m5 bn b0m
      go_wp2_with fail
      refine (l_markIntS _ _ _ _ _ 1 _ _ n5 hlen (by omega) (by omega)).mono ?_
      rintro e wq ⟨rfl, oq, gq⟩
      have b0q : Below w.heap.size w wq := below_grown b0n b0n.size n5 s04 gq
      have Xq := kept_app n5 gq Xn (by decide)
      have us := ns.kept gq a5s
      have Hq := H.out.below b0q
      clear Xn ns n5 gq b0n
      obtain ⟨p0, p1, _, _⟩ := Xq.two
      go_wp2_with fail
      refine (l_heldIntS _ _ _ 1 _ (RdI.own oq) hlen (by omega) (by omega)).mono ?_
      rintro e w9 ⟨rfl, rfl⟩
      go_wp2_with fail
      refine (l_toGraph _ _ _ _ _ _ Hq hn).mono ?_
      rintro e wb ⟨Ab, cb, rfl, ob, bb⟩
      go_wp2_with fail
      refine (i_ShortestPath _ _ _ _ _ _ _ _ (RdP.own ob) (by omega)).mono ?_
      rintro e wc ⟨Ac, cc, rfl, oc, bc⟩
      have bqc := below_trans bb bc
      go_wp2_with fail
      refine (l_eqIntS_same _ _ _ _ _ _ _ (RdI.own oc) (RdI.own (ownsRow_below us bqc)) hlen).mono ?_
      rintro e wd ⟨rfl, bd⟩
      go_wp2_with fail
      refine (l_heldIntS _ _ _ 1 _ (RdI.own (ownsRow_below (ownsRow_below oq bqc) bd)) hlen (by omega) (by omega)).mono ?_
      rintro e wf ⟨rfl, rfl⟩
      go_wp2_with fail
      go_ret
      exact ⟨rfl, below_trans (below_trans b0q bqc) bd⟩
  · go_enter Try.func13, Try.ntmps13
    go_wp2_with fail
    refine (l_szGraph _ _ _ _ (by omega) _).mono ?_
    rintro e w1 ⟨rfl, b1⟩
    rw [if_neg hn]
    go_wp2_with fail
    go_ret
    exact ⟨rfl, below_alloc b1⟩

theorem own : ownKnob Try.prog.godebug = none := by kernel_rfl
theorem laidOut : laidOutB Try.prog = true := by kernel_rfl
set_option maxRecDepth 100000 in
theorem lifted (os : Os) (started : os.Started) (H : Type) (enc : TypeId × Value → H) :
    ReturnsInHanded {} Try.checked os 13 .any (Rows.fnExactShortestPathSpec.pre6 enc Try.prog Try.f13 Rows.fnExactShortestPathRow.domain false) (Rows.fnExactShortestPathSpec.post enc Try.prog Try.f13 false true false false) := by
  refine returnsInHanded_of_change (C := Try.checked) own started (by kernel_rfl) Try.func13
    (ChangeSpec.witness6 (enc := enc) (C := Try.checked) false ⟨#[], #[.agg #[.int .i64 0, .slice none 0 0], .int .i64 0, .int .i64 0], []⟩ 8 (by kernel_rfl) (by kernel_rfl) (by kernel_rfl) (by kernel_rfl)) ?_
  intro W base args ds gs before hval0 hW hcnd _
  have hval : ∀ (j : Nat) t v, Try.f13.params[j]? = some t → args[j]? = some v → Value.okWide Try.prog W .any base t v := hval0
  have hW' := hW
  obtain ⟨p, q, hA0, hV, rfl, hfz, hnd⟩ := hW
  have hA : DataW.TrodAll enc Try.prog W 0 (fun _ => true) true Try.f13.params.toList args.toList ds p := hA0
  rw [Try.params13] at hA hval
  obtain ⟨v0, vs0, d0, ds0, p0, q0, hargs, rfl, rfl, h0, t0⟩ := trodAll_cons hA
  obtain ⟨v1, vs1, d1, ds1, p1, q1, rfl, rfl, rfl, h1, t1⟩ := trodAll_cons t0
  obtain ⟨v2, vs2, d2, ds2, p2, q2, rfl, rfl, rfl, h2, t2⟩ := trodAll_cons t1
  obtain ⟨rfl, rfl, rfl⟩ := trodAll_nil t2
  obtain rfl : args = #[v0, v1, v2] := by cases args; simp_all
  obtain ⟨rfl, rfl⟩ := trodVars_none hV
  have k0 := h0
  have lt0 : ∀ x ∈ p0, x.block < W.heap.size := by obtain ⟨m, hm⟩ := k0; exact DataW.trod_lt m _ _ _ hm
  obtain ⟨y0, y1, e0, e1, fu0, rfl, rfl, _, g0, g1⟩ := Joins.open_agg2 Try.underlying24 (by kernel_rfl) (by kernel_rfl) (hval 0 24 v0 rfl rfl) h0
  obtain ⟨N0, f0, _, w0⟩ := DataW.trod_int Try.underlying3 g0
  simp only [List.cons.injEq, and_true] at f0
  subst f0
  obtain ⟨A0, n0, c0, x0, rfl, r0, l0, m0, ok0⟩ := open_pairs Try.underlying22 Try.underlying119 (by kernel_rfl) (by kernel_rfl) Try.underlying3 Try.underlying3 g1
  clear g0 g1
  have k1 := h1
  have lt1 : ∀ x ∈ p1, x.block < W.heap.size := by obtain ⟨m, hm⟩ := k1; exact DataW.trod_lt m _ _ _ hm
  obtain ⟨a1, rfl, rfl, rfl, w1⟩ := open_int Try.underlying3 (hval 1 3 v1 rfl rfl) h1
  have k2 := h2
  have lt2 : ∀ x ∈ p2, x.block < W.heap.size := by obtain ⟨m, hm⟩ := k2; exact DataW.trod_lt m _ _ _ hm
  obtain ⟨a2, rfl, rfl, rfl, w2⟩ := open_int Try.underlying3 (hval 2 3 v2 rfl rfl) h2
  clear hA0 hval0
  refine (walk N0 A0 n0 c0 x0 a1 a2 W (i64_of_wf w0) r0 l0 m0 ok0 (i64_of_wf w1) (i64_of_wf w2)).mono fun e W' ⟨he, bel⟩ => ?_
  subst he
  exact ⟨_, rfl, _, _, _, [], _, [], hW', trodAll_mk1 (shut_bool Try.underlying4 _), (trodAll_cons_mk (Below.trod laidOut (by kernel_rfl) (of_decide_eq_true (by kernel_rfl)) k0 bel lt0) (trodAll_cons_mk (shut_int Try.underlying3 w1) (trodAll_cons_mk (shut_int Try.underlying3 w2) trodAll_mk0))), rfl, bel.frame _, fun h => by cases h⟩

theorem over : Rows.fnExactShortestPathRow.holds Try.pinned (OpenSpec.ofChange Rows.fnExactShortestPathSpec) :=
  OpenClaim.holds_of_wide 13 Try.f13 rfl rfl rfl rfl rfl rfl rfl ⟨rfl, rfl, rfl, rfl, rfl⟩ rfl rfl rfl rfl rfl (by kernel_rfl) Try.func13 (by kernel_rfl)
    (of_decide_eq_true (by kernel_rfl)) (by unfold Func.isWrapper; first | (rw [if_pos (by decide +kernel)]; kernel_rfl) | (rw [if_neg (by decide +kernel)]; exact ⟨rfl, rfl⟩))
    (fun os started H enc _ => lifted os started H enc)

theorem proved : Rows.FnExactShortestPathSaid := over
#print axioms proved
end Go.Proofs.Yteapboaikfhblaa.fnExactShortestPath
