/- The law FnRouteCounts returns true for every code. No condition. -/
import Derived.Test.YtgnallcfahpjmaaRRows
import Derived.Test.YtgnallcfahpjmaaRDrawW
import Derived.Test.YtgnallcfahpjmaaRRouteL
import Derived.Test.YtgnallcfahpjmaaRRouteC
import Derived.Test.YtgnallcfahpjmaaRTurn
import Derived.Test.YtgnallcfahpjmaaROpen
import Derived.ChangeOld
namespace Go.Proofs.YtgnallcfahpjmaaR.fnRouteCounts
open Go.ChangeShapes Go.WideShapes Go.ChangeAt Go.RowKit
set_option linter.unusedVariables false

/-- The law's graph in its box, the gates drawn, the layout. -/
def LBx (w : World) (g : Nat) (N : Int) (B : Option Addr) (m c : Nat) (ps : List (Int × Int)) (G : Option Addr) (q : Nat) (gs : List Gt) (Z : Option Addr) (nz : Nat) (ys : List Int) (wx : World) : Prop :=
  Bx wx g 41 #[.int .i64 N, .slice B m c] ∧ RdP wx B m ps ∧ RdG wx G q gs ∧ RdI wx Z nz ys ∧ Below w.heap.size w wx
theorem LBx.below {w wx w' : World} {g : Nat} {N : Int} {B : Option Addr} {m c : Nat} {ps : List (Int × Int)} {G : Option Addr} {q : Nat} {gs : List Gt} {Z : Option Addr} {nz : Nat} {ys : List Int} (h : LBx w g N B m c ps G q gs Z nz ys wx) (hb : Below wx.heap.size wx w') : LBx w g N B m c ps G q gs Z nz ys w' := ⟨h.1.below hb, h.2.1.below hb, h.2.2.1.below hb, h.2.2.2.1.below hb, below_trans h.2.2.2.2 hb⟩
theorem rtsL_no' {ps : List (Int × Int)} {N : Int} : ∀ (gs : List Gt) (z : List Int) (acc : List Gt), ¬ (rtsL ps N gs z acc).2.2 = true → (rtsL ps N gs z acc).1 = []
  | [], z, acc, h => absurd rfl h
  | g :: r, z, acc, h => by
    rw [rtsL] at h ⊢
    by_cases hm : mayR ps N z g = true
    · rw [if_pos hm] at h ⊢
      exact rtsL_no' r _ _ h
    · rw [if_neg hm]
theorem rts_no {ps : List (Int × Int)} {N : Int} {zs : List Int} {gs : List Gt} (h : ¬ (routeGs ps N zs gs).2.2 = true) : (routeGs ps N zs gs).1 = [] := by
  unfold routeGs at h ⊢
  by_cases hl : isLay ps N zs = true
  · rw [if_pos hl] at h ⊢
    exact rtsL_no' gs zs [] h
  · rw [if_neg hl]
theorem rts_bd {ps : List (Int × Int)} {N : Int} {zs : List Int} {gs : List Gt} : (routeGs ps N zs gs).1.length ≤ 3 * gs.length := by
  by_cases h : (routeGs ps N zs gs).2.2 = true
  · obtain ⟨h1, h2, _, _⟩ := routeGs_cnt h
    omega
  · rw [rts_no h]
    simp

set_option maxRecDepth 100000 in
set_option maxHeartbeats 3200000 in
theorem walk (A : Option Addr) (n cap : Nat) (zs : List Int) (w : World) (h : zs.length = n ∧ Rd w 1 A n (zs.map (Value.int .u8))) (hnc : n ≤ cap) (hc : cap ≤ maxLen) (ok : ∀ z ∈ zs, 0 ≤ z ∧ z ≤ 255) :
    Calls Try.prog 7 #[.slice A n cap] w fun e w' => e = .returned (.bool true) ∧ Below w.heap.size w w' := by
  unfold maxLen at hc
  have H : Hid (RdB w A n zs) := h
  have OK := Lib.hid ok
  clear h ok
  by_cases hn : 1048576 < n
  · go_enter Try.func7, Try.ntmps7
    go_wp2_with fail
    refine (l_big _ _ _ _ (by omega)).mono ?_
    rintro e w1 ⟨rfl, rfl⟩
    rw [decide_eq_true hn]
    go_wp2_with fail
    go_ret
    exact ⟨rfl, Below.refl _ _⟩
  · go_enter Try.func7, Try.ntmps7
    go_wp2_with fail
    refine (l_big _ _ _ _ (by omega)).mono ?_
    rintro e w1 ⟨rfl, rfl⟩
    rw [decide_eq_false hn]
    go_wp2_with fail
    refine (s_DrawRG _ _ _ _ _ H.out OK.out (by omega)).mono ?_
    rintro e w1 ⟨G, q, d, gs, N, B, m, c, ps, Z, nz, cz, ys, rfl, hl, hq, hl2, hm, hlz, hnz, og, oe, oz, b1⟩
    have hzc := ownsRow_cap oz
    have S1 := Lib.hid (show LBx w w1.heap.size N B m c ps G q gs Z nz ys (w1.alloc (.cells #[.int .i64 N, .slice B m c] 41)) from ⟨Bx.new w1 _ _, (RdP.own oe).alloc _, (RdG.own og).alloc _, (RdI.own oz).alloc _, b1.alloc b1.size _⟩)
    have HL := Lib.hid hl
    clear og oe oz b1 hl2 hlz
    obtain ⟨q0, q1, _⟩ := S1.out.1.two
    obtain ⟨r1, hr1⟩ : ∃ r, (routeGs ps N ys gs).1 = r := ⟨_, rfl⟩
    obtain ⟨r2, hr2⟩ : ∃ r, (routeGs ps N ys gs).2.1 = r := ⟨_, rfl⟩
    obtain ⟨r3, hr3⟩ : ∃ r, (routeGs ps N ys gs).2.2 = r := ⟨_, rfl⟩
    have hbd : r1.length ≤ 3 * gs.length := by rw [← hr1]; exact rts_bd
    have hlaw : r3 = true → (r1.length : Int) = gs.length + cnt 11 r1 ∧ cnt 11 r1 ≤ 2 * gs.length ∧ cnt 7 r1 = cnt 7 gs ∧ cnt 8 r1 = cnt 8 gs := by
      intro hh
      rw [← hr1]
      exact routeGs_cnt (by rw [hr3]; exact hh)
    have HR1 := Lib.hid hr1
    have HR2 := Lib.hid hr2
    have HR3 := Lib.hid hr3
    have LAW := Lib.hid hlaw
    obtain ⟨L, hL⟩ : ∃ L, r1.length = L := ⟨_, rfl⟩
    have HLL := Lib.hid hL
    rw [hl] at hbd
    rw [hL] at hbd
    clear hl hr1 hr2 hr3 hlaw hL
    go_wp2_with fail
    refine (i_RouteGates _ _ _ gs _ _ _ _ ps _ _ _ ys _ S1.out.2.2.1 (by omega) S1.out.2.1 (by omega) S1.out.2.2.2.1 (by omega)).mono ?_
    rintro e w2 ⟨A2, c2, B2, d2, rfl, o2, oi2, b2⟩
    rw [HR1.out, HR3.out]
    rw [HR1.out] at o2
    rw [HLL.out] at o2 ⊢
    have R2 := Lib.hid (RdG.own o2)
    have S2 := Lib.hid (S1.out.below b2)
    clear o2 oi2 b2 S1 q0 q1
    obtain ⟨q0, q1, _⟩ := S2.out.1.two
    go_wp2_with fail
    refine (s_RouteGates _ _ _ gs _ _ _ _ ps _ _ _ ys _ S2.out.2.2.1 (by omega) S2.out.2.1 (by omega) S2.out.2.2.2.1 hzc (by omega)).mono ?_
    rintro e w3 ⟨A3, c3, B3, d3, rfl, o3, oi3, b3⟩
    rw [HR3.out]
    have R3 := Lib.hid (R2.out.below b3)
    have S3 := Lib.hid (S2.out.below b3)
    clear o3 oi3 b3 S2 R2 q0 q1
    cases r3
    · go_wp2_with fail
      go_ret
      exact ⟨rfl, S3.out.2.2.2.2⟩
    · obtain ⟨l1, l2, l3, l4⟩ := LAW.out rfl
      have L1 : (L : Int) = q + cnt 11 r1 := by rw [← HLL.out, l1, HL.out]
      have L2 : cnt 11 r1 ≤ 2 * q := by rw [← HL.out]; exact l2
      have L3 : tcnt r1 = tcnt gs := by unfold tcnt; rw [l3, l4]
      have bd := tcnt_bd gs
      rw [HL.out] at bd
      have bd2 := (cnt_bd 11 r1).1
      have HL3 := Lib.hid L3
      clear l1 l2 l3 l4 LAW L3
      obtain ⟨N11, hN⟩ : ∃ k, cnt 11 r1 = k := ⟨_, rfl⟩
      rw [hN] at L1 L2 bd2
      have HN := Lib.hid hN
      obtain ⟨T, hT⟩ : ∃ k, tcnt gs = k := ⟨_, rfl⟩
      rw [hT] at bd
      have HT := Lib.hid hT
      clear hN hT
      go_wp2_with fail
      refine (i_SwapCount _ _ _ r1 _ R3.out (by omega)).mono ?_
      rintro e w4 ⟨rfl, b4⟩
      rw [HN.out]
      have R4 := Lib.hid (R3.out.below b4)
      have S4 := Lib.hid (S3.out.below b4)
      clear b4 R3 S3
      go_wp2_with fail
      refine (s_SwapCount _ _ _ r1 _ R4.out (by omega)).mono ?_
      rintro e w5 ⟨rfl, b5⟩
      rw [HN.out]
      have R5 := Lib.hid (R4.out.below b5)
      have S5 := Lib.hid (S4.out.below b5)
      clear b5 R4 S4
      go_wp2_with fail
      refine (l_tCount _ _ _ r1 _ R5.out (by omega)).mono ?_
      rintro e w6 ⟨rfl, b6⟩
      rw [HL3.out, HT.out]
      have S6 := Lib.hid (S5.out.below b6)
      clear b6 R5 S5
      go_wp2_with fail
      refine (l_tCount _ _ _ gs _ S6.out.2.2.1 (by omega)).mono ?_
      rintro e w7 ⟨rfl, b7⟩
      rw [HT.out]
      have S7 := Lib.hid (S6.out.below b7)
      go_wp2_with fail
      go_ret
      exact ⟨rfl, S7.out.2.2.2.2⟩

theorem own : ownKnob Try.prog.godebug = none := by kernel_rfl
theorem laidOut : laidOutB Try.prog = true := by kernel_rfl
set_option maxRecDepth 100000 in
theorem lifted (os : Os) (started : os.Started) (H : Type) (enc : TypeId × Value → H) :
    ReturnsInHanded {} Try.checked os 7 .any (Rows.fnRouteCountsSpec.pre6 enc Try.prog Try.f7 Rows.fnRouteCountsRow.domain false) (Rows.fnRouteCountsSpec.post enc Try.prog Try.f7 false true false false) := by
  refine returnsInHanded_of_change (C := Try.checked) own started (by kernel_rfl) Try.func7
    (ChangeSpec.witness6 (enc := enc) (C := Try.checked) false ⟨#[], #[.slice none 0 0], []⟩ 8 (by kernel_rfl) (by kernel_rfl) (by kernel_rfl) (by kernel_rfl)) ?_
  intro W base args ds gs before hval0 hW hcnd _
  have hval : ∀ (j : Nat) t v, Try.f7.params[j]? = some t → args[j]? = some v → Value.okWide Try.prog W .any base t v := hval0
  have hW' := hW
  obtain ⟨p, q, hA0, hV, rfl, hfz, hnd⟩ := hW
  have hA : DataW.TrodAll enc Try.prog W 0 (fun _ => true) true Try.f7.params.toList args.toList ds p := hA0
  rw [Try.params7] at hA hval
  obtain ⟨v0, vs0, d0, ds0, p0, q0, hargs, rfl, rfl, h0, t0⟩ := trodAll_cons hA
  obtain ⟨rfl, rfl, rfl⟩ := trodAll_nil t0
  obtain rfl : args = #[v0] := by cases args; simp_all
  obtain ⟨rfl, rfl⟩ := trodVars_none hV
  have k0 := h0
  have lt0 : ∀ x ∈ p0, x.block < W.heap.size := by obtain ⟨m, hm⟩ := k0; exact DataW.trod_lt m _ _ _ hm
  obtain ⟨A0, n0, c0, rfl⟩ := okWide_slice Try.underlying22 (hval 0 22 v0 rfl rfl)
  obtain ⟨fu0, hf0⟩ := h0
  obtain ⟨_, _, _, x0, e0, r0, l0, m0, ok0⟩ := open_bytes Try.underlying22 Try.underlying5 (by kernel_rfl) hf0
  simp only [Value.slice.injEq] at e0
  obtain ⟨rfl, rfl, rfl⟩ := e0
  clear hA0 hval0
  refine (walk A0 n0 c0 x0 W r0 l0 m0 ok0).mono fun e W' ⟨he, bel⟩ => ?_
  subst he
  exact ⟨_, rfl, _, _, _, [], _, [], hW', trodAll_mk1 (shut_bool Try.underlying4 _), (trodAll_cons_mk (Below.trod laidOut (by kernel_rfl) (of_decide_eq_true (by kernel_rfl)) k0 bel lt0) trodAll_mk0), rfl, bel.frame _, fun h => by cases h⟩

theorem over : Rows.fnRouteCountsRow.holds Try.pinned (OpenSpec.ofChange Rows.fnRouteCountsSpec) :=
  OpenClaim.holds_of_wide 7 Try.f7 rfl rfl rfl rfl rfl rfl rfl ⟨rfl, rfl, rfl, rfl, rfl⟩ rfl rfl rfl rfl rfl (by kernel_rfl) Try.func7 (by kernel_rfl)
    (of_decide_eq_true (by kernel_rfl)) (by unfold Func.isWrapper; first | (rw [if_pos (by decide +kernel)]; kernel_rfl) | (rw [if_neg (by decide +kernel)]; exact ⟨rfl, rfl⟩))
    (fun os started H enc _ => lifted os started H enc)

theorem proved : Rows.FnRouteCountsSaid := over
#print axioms proved
end Go.Proofs.YtgnallcfahpjmaaR.fnRouteCounts
