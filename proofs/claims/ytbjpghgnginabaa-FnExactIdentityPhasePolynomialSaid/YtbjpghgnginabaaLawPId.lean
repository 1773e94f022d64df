/- The law FnExactIdentityPhasePolynomial returns true for every input. No condition. -/
import Derived.Test.YtbjpghgnginabaaRows
import Derived.Test.YtbjpghgnginabaaPolyI
import Derived.Test.YtbjpghgnginabaaPolyM
import Derived.Test.YtbjpghgnginabaaOpen
import Derived.ChangeOld
namespace Go.Proofs.Ytbjpghgnginabaa.fnExactIdentityPhasePolynomial
open Go.ChangeShapes Go.WideShapes Go.ChangeAt Go.RowKit

theorem idP_len (n : Int) : (idP n).t.length ≤ 4 ∧ (idP n).o.length ≤ 4 := by
  unfold idP
  split
  · have h := inB_iff.1 ‹_›
    exact ⟨by simp, by rw [idO_len]; omega⟩
  · exact ⟨by simp [Po.zero], by simp [Po.zero]⟩

set_option maxHeartbeats 1600000 in
theorem walk (a0 : Int) (w : World) (_ : I64 a0) :
    Calls Try.prog 3 #[.int .i64 a0] w fun e w' => e = .returned (.bool true) ∧ Below w.heap.size w w' := by
  obtain ⟨p, hp⟩ : ∃ p, idP a0 = p := ⟨_, rfl⟩
  have hl := idP_len a0
  rw [hp] at hl
  have HP := Lib.hid hp
  clear hp
  obtain ⟨N, H, t, o⟩ := p
  obtain ⟨nT, hnT⟩ : ∃ k, t.length = k := ⟨_, rfl⟩
  obtain ⟨nO, hnO⟩ : ∃ k, o.length = k := ⟨_, rfl⟩
  obtain ⟨hl1, hl2⟩ : nT ≤ 4 ∧ nO ≤ 4 := by rw [← hnT, ← hnO]; exact hl
  have HNT := Lib.hid hnT
  have HNO := Lib.hid hnO
  clear hl hnT hnO
  go_enter Try.func3, Try.ntmps3
  go_wp2_with fail
  refine (s_IdP _ _).mono ?_
  rintro e w1 ⟨v, rfl, q, b1⟩
  rw [HP.out] at q
  obtain ⟨A1, c1, B1, d1, rfl, t1, o1⟩ := q
  simp only [HNT.out, HNO.out] at t1 o1 ⊢
  have T1 := Lib.hid t1
  have O1 := Lib.hid o1
  have B1w := Lib.hid b1
  have X1 := Lib.hid (Bx.new w1 25 #[.int .i64 N, .int .i64 H, .slice A1 nT c1, .slice B1 nO d1])
  clear t1 o1 b1
  go_wp2_with fail
  refine (i_IdP _ _).mono ?_
  rintro e w2 ⟨v, rfl, q, b2⟩
  rw [HP.out] at q
  obtain ⟨A2, c2, B2, d2, rfl, t2, o2⟩ := q
  simp only [HNT.out, HNO.out] at t2 o2 ⊢
  have T1' := Lib.hid ((ownsRow_below (T1.out.alloc _) b2).alloc (.cells #[.int .i64 N, .int .i64 H, .slice A2 nT c2, .slice B2 nO d2] 25))
  have O1' := Lib.hid ((ownsRow_below (O1.out.alloc _) b2).alloc (.cells #[.int .i64 N, .int .i64 H, .slice A2 nT c2, .slice B2 nO d2] 25))
  have X1' := Lib.hid ((X1.out.below b2).alloc (.cells #[.int .i64 N, .int .i64 H, .slice A2 nT c2, .slice B2 nO d2] 25))
  have X2 := Lib.hid (Bx.new w2 25 #[.int .i64 N, .int .i64 H, .slice A2 nT c2, .slice B2 nO d2])
  have T2 := Lib.hid (t2.alloc (.cells #[.int .i64 N, .int .i64 H, .slice A2 nT c2, .slice B2 nO d2] 25))
  have O2 := Lib.hid (o2.alloc (.cells #[.int .i64 N, .int .i64 H, .slice A2 nT c2, .slice B2 nO d2] 25))
  have hs1 : w1.heap.size < w2.heap.size := by have := b2.size; simp at this; omega
  have B2w := Lib.hid (below_trans (B1w.out.alloc B1w.out.size (.cells #[.int .i64 N, .int .i64 H, .slice A1 nT c1, .slice B1 nO d1] 25)) b2)
  have BB2 := Lib.hid (B2w.out.alloc B2w.out.size (.cells #[.int .i64 N, .int .i64 H, .slice A2 nT c2, .slice B2 nO d2] 25))
  obtain ⟨p0, p1, p2, p3, _⟩ := (X1.out.below b2).four
  have AT12 := Lib.hid (own_apart T1.out t2 (by simp))
  have AO12 := Lib.hid (own_apart O1.out o2 (by simp))
  have B0 := Lib.hid B1w.out
  clear t2 o2 b2 X1 T1 O1 B1w B2w
  go_wp2_with fail
  refine (l_eqPoly_same _ _ _ _ _ _ _ t _ _ _ _ _ o _ (RdP.own T2.out) (RdP.own T1'.out) (RdP.own O2.out) (RdP.own O1'.out) (by omega) (by omega)).mono ?_
  rintro e w3 ⟨rfl, b3⟩
  have T13 := Lib.hid (ownsRow_below T1'.out b3)
  have O13 := Lib.hid (ownsRow_below O1'.out b3)
  have X13 := Lib.hid (X1'.out.below b3)
  have T23 := Lib.hid (ownsRow_below T2.out b3)
  have O23 := Lib.hid (ownsRow_below O2.out b3)
  have X23 := Lib.hid (X2.out.below b3)
  have B3 := Lib.hid (below_trans BB2.out b3)
  clear b3 T1' O1' X1' T2 O2 X2 BB2 p0 p1 p2 p3
  obtain ⟨p0, p1, p2, p3, _⟩ := X23.out.four
  go_wp2_with fail
  refine (l_markPoly _ _ _ _ _ _ _ _ _ _ _ _ _ T23.out O23.out (by omega) (by omega) (by omega) (by omega)).mono ?_
  rintro e w4 ⟨rfl, t4, o4, m4⟩
  have X24 := Lib.hid (m4.bx X23.out (own_bx_ne T23.out X23.out (by decide)) (own_bx_ne O23.out X23.out (by decide)))
  have X14 := Lib.hid (m4.bx X13.out (own_bx_ne T23.out X13.out (by decide)) (own_bx_ne O23.out X13.out (by decide)))
  have T14 := Lib.hid (m4.own T13.out AT12.out (own_types T13.out O23.out (by decide)))
  have O14 := Lib.hid (m4.own O13.out (own_types O13.out T23.out (by decide)) AO12.out)
  have hsb : w.heap.size ≤ (w1.alloc (.cells #[.int .i64 N, .int .i64 H, .slice A1 nT c1, .slice B1 nO d1] 25)).heap.size := by have := X13.out.lt; have := B0.out.size; simp; omega
  have B4 := Lib.hid (m4.below B3.out B3.out.size (fun k hk => Nat.le_trans hsb (T23.out.lt k hk).1) (fun k hk => Nat.le_trans hsb (O23.out.lt k hk).1))
  have T24 := Lib.hid t4
  have O24 := Lib.hid o4
  clear t4 o4 m4 T13 O13 X13 T23 O23 X23 B3 p0 p1 p2 p3
  obtain ⟨p0, p1, p2, p3, _⟩ := X24.out.four
  go_wp2_with fail
  refine (l_heldPoly _ _ _ _ _ _ _ _ _ _ (RdP.own T24.out) (RdP.own O24.out) (by omega) (by omega) (by omega) (by omega)).mono ?_
  rintro e w5 ⟨rfl, b5⟩
  have T15 := Lib.hid (ownsRow_below T14.out b5)
  have O15 := Lib.hid (ownsRow_below O14.out b5)
  have X15 := Lib.hid (X14.out.below b5)
  have T25 := Lib.hid (ownsRow_below T24.out b5)
  have O25 := Lib.hid (ownsRow_below O24.out b5)
  have X25 := Lib.hid (X24.out.below b5)
  have B5 := Lib.hid (below_trans B4.out b5)
  clear b5 T14 O14 X14 T24 O24 X24 B4 p0 p1 p2 p3
  go_wp2_with fail
  refine (i_IdP _ _).mono ?_
  rintro e w6 ⟨v, rfl, q, b6⟩
  rw [HP.out] at q
  obtain ⟨A6, c6, B6, d6, rfl, t6, o6⟩ := q
  simp only [HNT.out, HNO.out] at t6 o6 ⊢
  have T6 := Lib.hid (t6.alloc (.cells #[.int .i64 N, .int .i64 H, .slice A6 nT c6, .slice B6 nO d6] 25))
  have O6 := Lib.hid (o6.alloc (.cells #[.int .i64 N, .int .i64 H, .slice A6 nT c6, .slice B6 nO d6] 25))
  have T16 := Lib.hid ((ownsRow_below T15.out b6).alloc (.cells #[.int .i64 N, .int .i64 H, .slice A6 nT c6, .slice B6 nO d6] 25))
  have O16 := Lib.hid ((ownsRow_below O15.out b6).alloc (.cells #[.int .i64 N, .int .i64 H, .slice A6 nT c6, .slice B6 nO d6] 25))
  have T26 := Lib.hid ((ownsRow_below T25.out b6).alloc (.cells #[.int .i64 N, .int .i64 H, .slice A6 nT c6, .slice B6 nO d6] 25))
  have O26 := Lib.hid ((ownsRow_below O25.out b6).alloc (.cells #[.int .i64 N, .int .i64 H, .slice A6 nT c6, .slice B6 nO d6] 25))
  have X26 := Lib.hid ((X25.out.below b6).alloc (.cells #[.int .i64 N, .int .i64 H, .slice A6 nT c6, .slice B6 nO d6] 25))
  have B6w := Lib.hid (below_trans B5.out b6)
  have B6 := Lib.hid (B6w.out.alloc B6w.out.size (.cells #[.int .i64 N, .int .i64 H, .slice A6 nT c6, .slice B6 nO d6] 25))
  obtain ⟨p0, p1, p2, p3, _⟩ := (X15.out.below b6).four
  have hs6 : w1.heap.size < w6.heap.size := (X15.out.below b6).lt
  clear t6 o6 b6 T15 O15 X15 T25 O25 X25 B5 B6w
  go_wp2_with fail
  refine (l_eqPoly_same _ _ _ _ _ _ _ t _ _ _ _ _ o _ (RdP.own T6.out) (RdP.own T16.out) (RdP.own O6.out) (RdP.own O16.out) (by omega) (by omega)).mono ?_
  rintro e w7 ⟨rfl, b7⟩
  obtain ⟨q0, q1, q2, q3, _⟩ := (X26.out.below b7).four
  clear p0 p1 p2 p3
  go_wp2_with fail
  refine (l_heldPoly _ _ _ _ _ _ _ _ _ _ (RdP.own (ownsRow_below T26.out b7)) (RdP.own (ownsRow_below O26.out b7)) (by omega) (by omega) (by omega) (by omega)).mono ?_
  rintro e w8 ⟨rfl, b8⟩
  go_wp2_with fail
  go_ret
  exact ⟨rfl, below_trans (below_trans B6.out b7) b8⟩

theorem own : ownKnob Try.prog.godebug = none := by kernel_rfl
theorem laidOut : laidOutB Try.prog = true := by kernel_rfl
set_option maxRecDepth 100000 in
theorem lifted (os : Os) (started : os.Started) (H : Type) (enc : TypeId × Value → H) :
    ReturnsInHanded {} Try.checked os 3 .any (Rows.fnExactIdentityPhasePolynomialSpec.pre6 enc Try.prog Try.f3 Rows.fnExactIdentityPhasePolynomialRow.domain false) (Rows.fnExactIdentityPhasePolynomialSpec.post enc Try.prog Try.f3 false true false false) := by
  refine returnsInHanded_of_change (C := Try.checked) own started (by kernel_rfl) Try.func3
    (ChangeSpec.witness6 (enc := enc) (C := Try.checked) false ⟨#[], #[.int .i64 0], []⟩ 8 (by kernel_rfl) (by kernel_rfl) (by kernel_rfl) (by kernel_rfl)) ?_
  intro W base args ds gs before hval0 hW hcnd _
  have hval : ∀ (j : Nat) t v, Try.f3.params[j]? = some t → args[j]? = some v → Value.okWide Try.prog W .any base t v := hval0
  have hW' := hW
  obtain ⟨p, q, hA0, hV, rfl, hfz, hnd⟩ := hW
  have hA : DataW.TrodAll enc Try.prog W 0 (fun _ => true) true Try.f3.params.toList args.toList ds p := hA0
  rw [Try.params3] at hA hval
  obtain ⟨v0, vs0, d0, ds0, p0, q0, hargs, rfl, rfl, h0, t0⟩ := trodAll_cons hA
  obtain ⟨rfl, rfl, rfl⟩ := trodAll_nil t0
  obtain rfl : args = #[v0] := by cases args; simp_all
  obtain ⟨rfl, rfl⟩ := trodVars_none hV
  have k0 := h0
  have lt0 : ∀ x ∈ p0, x.block < W.heap.size := by obtain ⟨m, hm⟩ := k0; exact DataW.trod_lt m _ _ _ hm
  obtain ⟨a0, rfl, rfl, rfl, w0⟩ := open_int Try.underlying3 (hval 0 3 v0 rfl rfl) h0
  clear hA0 hval0
  refine (walk a0 W (i64_of_wf w0)).mono fun e W' ⟨he, bel⟩ => ?_
  subst he
  exact ⟨_, rfl, _, _, _, [], _, [], hW', trodAll_mk1 (shut_bool Try.underlying4 _), (trodAll_cons_mk (shut_int Try.underlying3 w0) trodAll_mk0), rfl, bel.frame _, fun h => by cases h⟩

theorem over : Rows.fnExactIdentityPhasePolynomialRow.holds Try.pinned (OpenSpec.ofChange Rows.fnExactIdentityPhasePolynomialSpec) :=
  OpenClaim.holds_of_wide 3 Try.f3 rfl rfl rfl rfl rfl rfl rfl ⟨rfl, rfl, rfl, rfl, rfl⟩ rfl rfl rfl rfl rfl (by kernel_rfl) Try.func3 (by kernel_rfl)
    (of_decide_eq_true (by kernel_rfl)) (by unfold Func.isWrapper; first | (rw [if_pos (by decide +kernel)]; kernel_rfl) | (rw [if_neg (by decide +kernel)]; exact ⟨rfl, rfl⟩))
    (fun os started H enc _ => lifted os started H enc)

theorem proved : Rows.FnExactIdentityPhasePolynomialSaid := over
#print axioms proved
end Go.Proofs.Ytbjpghgnginabaa.fnExactIdentityPhasePolynomial
