/- The law FnPolyAt returns true for every code. No condition. -/
import Derived.Test.YthfacfnknpomcaaRows
import Derived.Test.YthfacfnknpomcaaDrawM
import Derived.Test.YthfacfnknpomcaaEval
import Derived.Test.YthfacfnknpomcaaOpen
import Derived.ChangeOld
namespace Go.Proofs.Ythfacfnknpomcaa.fnPolyAt
open Go.ChangeShapes Go.WideShapes Go.ChangeAt Go.RowKit
set_option linter.unusedVariables false

theorem evT_add (i : Int) : ∀ (l : List (Int × Int)) (a b c : Int), b % 8 = (a + c) % 8 → evT i l b % 8 = (evT i l a + c) % 8
  | [], a, b, c, h => h
  | p :: r, a, b, c, h => by
    rw [evT, evT]
    split
    · have h1 := wrap_mod8 (b + p.2)
      have h2 := wrap_mod8 (a + p.2)
      exact evT_add i r _ _ c (by omega)
    · exact evT_add i r _ _ c h

set_option maxRecDepth 100000 in
set_option maxHeartbeats 3200000 in
theorem walk (A : Option Addr) (n cap : Nat) (zs : List Int) (w : World) (h : zs.length = n ∧ Rd w 1 A n (zs.map (Value.int .u8))) (hnc : n ≤ cap) (hc : cap ≤ maxLen) (ok : ∀ z ∈ zs, 0 ≤ z ∧ z ≤ 255) :
    Calls Try.prog 10 #[.slice A n cap] w fun e w' => e = .returned (.bool true) ∧ Below w.heap.size w w' := by
  unfold maxLen at hc
  have H : Hid (RdB w A n zs) := h
  have OK := Lib.hid ok
  clear h ok
  by_cases hn : 1048576 < n
  · go_enter Try.func10, Try.ntmps10
    go_wp2_with fail
    refine (l_big _ _ _ _ (by omega)).mono ?_
    rintro e w1 ⟨rfl, rfl⟩
    rw [decide_eq_true hn]
    go_wp2_with fail
    go_ret
    exact ⟨rfl, Below.refl _ _⟩
  · go_enter Try.func10, Try.ntmps10
    go_wp2_with fail
    refine (l_big _ _ _ _ (by omega)).mono ?_
    rintro e w1 ⟨rfl, rfl⟩
    rw [decide_eq_false hn]
    go_wp2_with fail
    refine (s_DrawEval _ _ _ _ _ H.out OK.out (by omega)).mono ?_
    rintro e w1 ⟨N, HH, A2, nT, c, t, B2, nO, d, o, i, rfl, hnT, hnO, t1, o1, b1⟩
    have T1 := Lib.hid (t1.alloc (.cells #[.int .i64 N, .int .i64 HH, .slice A2 nT c, .slice B2 nO d] 31))
    have O1 := Lib.hid (o1.alloc (.cells #[.int .i64 N, .int .i64 HH, .slice A2 nT c, .slice B2 nO d] 31))
    have X1 := Lib.hid (Bx.new w1 31 #[.int .i64 N, .int .i64 HH, .slice A2 nT c, .slice B2 nO d])
    have B1 := Lib.hid (b1.alloc b1.size (.cells #[.int .i64 N, .int .i64 HH, .slice A2 nT c, .slice B2 nO d] 31))
    have hw1 : w.heap.size ≤ w1.heap.size := b1.size
    clear t1 o1 b1
    obtain ⟨R1, hR1⟩ : ∃ R, evO i 0 o 0 = R := ⟨_, rfl⟩
    obtain ⟨R2, hR2⟩ : ∃ R, evT i t HH % 8 = R := ⟨_, rfl⟩
    have hb0 : 0 ≤ R2 := by omega
    have hb7 : R2 ≤ 7 := by omega
    have HR1 := Lib.hid hR1
    have HR2 := Lib.hid hR2
    have HE := Lib.hid (show evT i t (wrap64 (HH + 3)) % 8 = (R2 + 3) % 8 from by
      have h1 := evT_add i t HH (wrap64 (HH + 3)) 3 (wrap_mod8 _)
      omega)
    clear hR1 hR2
    go_wp2_with fail
    refine (i_EvalP N HH _ _ _ _ _ _ t o i _ (RdP.own T1.out) (RdP.own O1.out) (by omega) (by omega)).mono ?_
    rintro e w2 ⟨rfl, b2⟩
    rw [HR1.out, HR2.out]
    have T2 := Lib.hid (ownsRow_below T1.out b2)
    have O2 := Lib.hid (ownsRow_below O1.out b2)
    have X2 := Lib.hid (X1.out.below b2)
    have B2' := Lib.hid (below_trans B1.out b2)
    clear b2 T1 O1 X1 B1
    generalize hgx : w1.heap.size = gx at X2 hw1 ⊢
    clear hgx
    obtain ⟨p0, p1, p2, p3, _⟩ := X2.out.four
    go_wp2_with fail
    refine (s_EvalP N HH _ _ _ _ _ _ t o i _ (RdP.own T2.out) (RdP.own O2.out) (by omega) (by omega)).mono ?_
    rintro e w3 ⟨rfl, b3⟩
    rw [HR1.out, HR2.out]
    have X3 := Lib.hid (X2.out.below b3)
    have B3 := Lib.hid (below_trans B2'.out b3)
    have T4 := Lib.hid ((ownsRow_below T2.out b3).alloc (.cells #[.int .i64 N, .int .i64 (wrap64 (HH + 3)), .slice A2 nT c, .slice B2 nO d] 31))
    have O4 := Lib.hid ((ownsRow_below O2.out b3).alloc (.cells #[.int .i64 N, .int .i64 (wrap64 (HH + 3)), .slice A2 nT c, .slice B2 nO d] 31))
    have B4 := Lib.hid (B3.out.alloc B3.out.size (.cells #[.int .i64 N, .int .i64 (wrap64 (HH + 3)), .slice A2 nT c, .slice B2 nO d] 31))
    clear b3 X2 T2 O2 B2' p0 p1 p2 p3
    obtain ⟨p0, p1, p2, p3, _⟩ := X3.out.four
    have l3 := X3.out.lt
    go_wp2_with fail
    refine (i_EvalP N (wrap64 (HH + 3)) _ _ _ _ _ _ t o i _ (RdP.own T4.out) (RdP.own O4.out) (by omega) (by omega)).mono ?_
    rintro e w5 ⟨rfl, b5⟩
    rw [HE.out]
    go_wp2_with fail
    go_ret
    exact ⟨by simp, below_trans B4.out b5⟩

theorem own : ownKnob Try.prog.godebug = none := by kernel_rfl
theorem laidOut : laidOutB Try.prog = true := by kernel_rfl
set_option maxRecDepth 100000 in
theorem lifted (os : Os) (started : os.Started) (H : Type) (enc : TypeId × Value → H) :
    ReturnsInHanded {} Try.checked os 10 .any (Rows.fnPolyAtSpec.pre6 enc Try.prog Try.f10 Rows.fnPolyAtRow.domain false) (Rows.fnPolyAtSpec.post enc Try.prog Try.f10 false true false false) := by
  refine returnsInHanded_of_change (C := Try.checked) own started (by kernel_rfl) Try.func10
    (ChangeSpec.witness6 (enc := enc) (C := Try.checked) false ⟨#[], #[.slice none 0 0], []⟩ 8 (by kernel_rfl) (by kernel_rfl) (by kernel_rfl) (by kernel_rfl)) ?_
  intro W base args ds gs before hval0 hW hcnd _
  have hval : ∀ (j : Nat) t v, Try.f10.params[j]? = some t → args[j]? = some v → Value.okWide Try.prog W .any base t v := hval0
  have hW' := hW
  obtain ⟨p, q, hA0, hV, rfl, hfz, hnd⟩ := hW
  have hA : DataW.TrodAll enc Try.prog W 0 (fun _ => true) true Try.f10.params.toList args.toList ds p := hA0
  rw [Try.params10] at hA hval
  obtain ⟨v0, vs0, d0, ds0, p0, q0, hargs, rfl, rfl, h0, t0⟩ := trodAll_cons hA
  obtain ⟨rfl, rfl, rfl⟩ := trodAll_nil t0
  obtain rfl : args = #[v0] := by cases args; simp_all
  obtain ⟨rfl, rfl⟩ := trodVars_none hV
  have k0 := h0
  have lt0 : ∀ x ∈ p0, x.block < W.heap.size := by obtain ⟨m, hm⟩ := k0; exact DataW.trod_lt m _ _ _ hm
  obtain ⟨A0, n0, c0, rfl⟩ := okWide_slice Try.underlying59 (hval 0 59 v0 rfl rfl)
  obtain ⟨fu0, hf0⟩ := h0
  obtain ⟨_, _, _, x0, e0, r0, l0, m0, ok0⟩ := open_bytes Try.underlying59 Try.underlying5 (by kernel_rfl) hf0
  simp only [Value.slice.injEq] at e0
  obtain ⟨rfl, rfl, rfl⟩ := e0
  clear hA0 hval0
  refine (walk A0 n0 c0 x0 W r0 l0 m0 ok0).mono fun e W' ⟨he, bel⟩ => ?_
  subst he
  exact ⟨_, rfl, _, _, _, [], _, [], hW', trodAll_mk1 (shut_bool Try.underlying4 _), (trodAll_cons_mk (Below.trod laidOut (by kernel_rfl) (of_decide_eq_true (by kernel_rfl)) k0 bel lt0) trodAll_mk0), rfl, bel.frame _, fun h => by cases h⟩

theorem over : Rows.fnPolyAtRow.holds Try.pinned (OpenSpec.ofChange Rows.fnPolyAtSpec) :=
  OpenClaim.holds_of_wide 10 Try.f10 rfl rfl rfl rfl rfl rfl rfl ⟨rfl, rfl, rfl, rfl, rfl⟩ rfl rfl rfl rfl rfl (by kernel_rfl) Try.func10 (by kernel_rfl)
    (of_decide_eq_true (by kernel_rfl)) (by unfold Func.isWrapper; first | (rw [if_pos (by decide +kernel)]; kernel_rfl) | (rw [if_neg (by decide +kernel)]; exact ⟨rfl, rfl⟩))
    (fun os started H enc _ => lifted os started H enc)

theorem proved : Rows.FnPolyAtSaid := over
#print axioms proved
end Go.Proofs.Ythfacfnknpomcaa.fnPolyAt
