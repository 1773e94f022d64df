/- The law FnPoly returns true for every code. No condition. -/
import Derived.Test.YtibhikngiceeeaaRows
import Derived.Test.YtibhikngiceeeaaDrawFBx
import Derived.Test.YtibhikngiceeeaaOpenBx
import Derived.Test.YtibhikngiceeeaaPolyQ
import Derived.ChangeOld
namespace Go.Proofs.Ytibhikngiceeeaa.fnPoly
open Go.ChangeShapes Go.WideShapes Go.ChangeAt Go.RowKit
set_option linter.unusedVariables false

set_option maxRecDepth 100000 in
set_option maxHeartbeats 6400000 in
theorem walk (A : Option Addr) (n cap : Nat) (zs : List Int) (w : World) (h : zs.length = n ∧ Rd w 1 A n (zs.map (Value.int .u8))) (hnc : n ≤ cap) (hc : cap ≤ maxLen) (ok : ∀ z ∈ zs, 0 ≤ z ∧ z ≤ 255) :
    Calls Try.prog 5 #[.slice A n cap] w fun e w' => e = .returned (.bool true) ∧ Below w.heap.size w w' := by
  unfold maxLen at hc
  have H : Hid (RdB w A n zs) := h
  have OK := Lib.hid ok
  clear h ok
  by_cases hn : 1048576 < n
  · go_enter Try.func5, Try.ntmps5
    go_wp2_with fail
    refine (l_big _ _ _ _ (by omega)).mono ?_
    rintro e w1 ⟨rfl, rfl⟩
    rw [decide_eq_true hn]
    go_wp2_with fail
    go_ret
    exact ⟨rfl, Below.refl _ _⟩
  · go_enter Try.func5, Try.ntmps5
    go_wp2_with fail
    refine (l_big _ _ _ _ (by omega)).mono ?_
    rintro e w1 ⟨rfl, rfl⟩
    rw [decide_eq_false hn]
    go_wp2_with fail
    refine (s_DrawComp _ _ _ _ _ H.out OK.out (by omega)).mono ?_
    rintro e w1 ⟨A1, n1, c1, gs, N, rfl, hl, h13, o1, b1⟩
    have R1 := Lib.hid (RdG.own o1)
    have B1 := Lib.hid b1
    have HL := Lib.hid hl
    obtain ⟨⟨M, mb⟩, hM⟩ : ∃ r, compP gs N = r := ⟨_, rfl⟩
    have hMb := compP_bd gs N
    rw [hM] at hMb
    have hMt : M.t.length ≤ 13 := Nat.le_trans hMb.1 (by omega)
    have hMo : M.o.length ≤ 4 := hMb.2
    have HM := Lib.hid hM
    clear hMb hM o1 b1 hl
    go_wp2_with fail
    refine (i_CompP _ _ _ gs N _ R1.out (by omega)).mono ?_
    rintro e w5 ⟨v, rfl, ⟨A5, c5, B5, d5, rfl, t5, o5⟩, b5⟩
    rw [HM.out] at t5 o5 ⊢
    dsimp only at t5 o5 ⊢
    have B5b := Lib.hid ((below_trans B1.out b5).alloc (below_trans B1.out b5).size (.cells #[.int .i64 M.N, .int .i64 M.H, .slice A5 M.t.length c5, .slice B5 M.o.length d5] 32))
    have R5 := Lib.hid ((R1.out.below b5).alloc (.cells #[.int .i64 M.N, .int .i64 M.H, .slice A5 M.t.length c5, .slice B5 M.o.length d5] 32))
    have T5 := Lib.hid (t5.alloc (.cells #[.int .i64 M.N, .int .i64 M.H, .slice A5 M.t.length c5, .slice B5 M.o.length d5] 32))
    have O5 := Lib.hid (o5.alloc (.cells #[.int .i64 M.N, .int .i64 M.H, .slice A5 M.t.length c5, .slice B5 M.o.length d5] 32))
    have X5 := Lib.hid (Bx.new w5 32 #[.int .i64 M.N, .int .i64 M.H, .slice A5 M.t.length c5, .slice B5 M.o.length d5])
    clear t5 o5 b5 R1 B1
    go_wp2_with fail
    refine (s_CompP _ _ _ gs N _ R5.out (by omega)).mono ?_
    rintro e w6 ⟨v, rfl, ⟨A6, c6, B6, d6, rfl, t6, o6⟩, b6⟩
    rw [HM.out] at t6 o6 ⊢
    dsimp only at t6 o6 ⊢
    have B6b := Lib.hid ((below_trans B5b.out b6).alloc (below_trans B5b.out b6).size (.cells #[.int .i64 M.N, .int .i64 M.H, .slice A6 M.t.length c6, .slice B6 M.o.length d6] 32))
    have R6 := Lib.hid ((R5.out.below b6).alloc (.cells #[.int .i64 M.N, .int .i64 M.H, .slice A6 M.t.length c6, .slice B6 M.o.length d6] 32))
    have T6 := Lib.hid (RdP.own ((ownsRow_below T5.out b6).alloc (.cells #[.int .i64 M.N, .int .i64 M.H, .slice A6 M.t.length c6, .slice B6 M.o.length d6] 32)))
    have O6 := Lib.hid (RdP.own ((ownsRow_below O5.out b6).alloc (.cells #[.int .i64 M.N, .int .i64 M.H, .slice A6 M.t.length c6, .slice B6 M.o.length d6] 32)))
    have X6 := Lib.hid ((X5.out.below b6).alloc (.cells #[.int .i64 M.N, .int .i64 M.H, .slice A6 M.t.length c6, .slice B6 M.o.length d6] 32))
    have U6 := Lib.hid (RdP.own (t6.alloc (.cells #[.int .i64 M.N, .int .i64 M.H, .slice A6 M.t.length c6, .slice B6 M.o.length d6] 32)))
    have V6 := Lib.hid (RdP.own (o6.alloc (.cells #[.int .i64 M.N, .int .i64 M.H, .slice A6 M.t.length c6, .slice B6 M.o.length d6] 32)))
    have Y6 := Lib.hid (Bx.new w6 32 #[.int .i64 M.N, .int .i64 M.H, .slice A6 M.t.length c6, .slice B6 M.o.length d6])
    clear t6 o6 b6 T5 O5 X5 R5 B5b
    have hmm : (mb != mb) = false := by cases mb <;> rfl
    obtain ⟨p0, p1, p2, p3, _⟩ := X6.out.four
    obtain ⟨s0, s1, s2, s3, _⟩ := Y6.out.four
    go_wp2_with fail
    refine (s_EqualP M.N M.H M.N M.H _ _ _ _ _ _ _ _ _ _ _ _ M.t M.t M.o M.o _ T6.out U6.out O6.out V6.out (by omega) (by omega) (by omega) (by omega)).mono ?_
    rintro e w8 ⟨rfl, b8⟩
    rw [eqP_self]
    have T8 := Lib.hid (T6.out.below b8)
    have U8 := Lib.hid (U6.out.below b8)
    have O8 := Lib.hid (O6.out.below b8)
    have V8 := Lib.hid (V6.out.below b8)
    have R8 := Lib.hid (R6.out.below b8)
    have X8 := Lib.hid (X6.out.below b8)
    have Y8 := Lib.hid (Y6.out.below b8)
    have B8 := Lib.hid (below_trans B6b.out b8)
    clear p0 p1 p2 p3 s0 s1 s2 s3 b8 T6 U6 O6 V6 R6 X6 Y6 B6b
    obtain ⟨p0, p1, p2, p3, _⟩ := X8.out.four
    obtain ⟨s0, s1, s2, s3, _⟩ := Y8.out.four
    go_wp2_with fail
    refine (i_EqualP M.N M.H M.N M.H _ _ _ _ _ _ _ _ _ _ _ _ M.t M.t M.o M.o _ T8.out U8.out O8.out V8.out (by omega) (by omega) (by omega) (by omega)).mono ?_
    rintro e w9 ⟨rfl, b9⟩
    rw [eqP_self]
    have T9 := Lib.hid (T8.out.below b9)
    have O9 := Lib.hid (O8.out.below b9)
    have R9 := Lib.hid (R8.out.below b9)
    have X9 := Lib.hid (X8.out.below b9)
    have B9 := Lib.hid (below_trans B8.out b9)
    clear p0 p1 p2 p3 s0 s1 s2 s3 b9 T8 U8 O8 V8 R8 X8 Y8 B8
    obtain ⟨p0, p1, p2, p3, _⟩ := X9.out.four
    cases mb
    · have hz := compP_no HM.out
      subst hz
      have hz0 : (Po.zero.o.length : Nat) = 0 := rfl
      rw [hz0] at p3
      go_wp2_with fail
      go_ret
      exact ⟨rfl, B9.out⟩
    · obtain ⟨hin, _⟩ := compP_in HM.out
      obtain ⟨hN1, hN4⟩ := inB_iff.1 hin
      obtain ⟨q, rfl⟩ : ∃ q : Nat, N = q := ⟨N.toNat, by omega⟩
      by_cases h3 : 3 < (q : Int)
      · go_wp2_with fail
        go_ret
        exact ⟨rfl, B9.out⟩
      · obtain ⟨hq, c2, c3⟩ := comp_outs HM.out
        have C2 := Lib.hid c2
        have C3 := Lib.hid c3
        have HPM := Lib.hid (ppm_comp HM.out)
        have hml := matG_len gs q
        have h16 := pow_le16 hq.2
        clear c2 c3
        go_wp2_with fail
        refine (s_CirMat q (fun i => NV (actG gs (eN (2 ^ q) i)) 0) _ _ _ gs _ hq.1 hq.2 R9.out (by omega) C2.out C3.out).mono ?_
        rintro e wa ⟨Aa, ca, rfl, oa, ba⟩
        have OA := Lib.hid (show OwnSS cellsD wa w9.heap.size 79 83 5 (.slice Aa (2 ^ q) ca) (matG gs q) from oa)
        have TA := Lib.hid (T9.out.below ba)
        have OOA := Lib.hid (O9.out.below ba)
        have XA := Lib.hid (X9.out.below ba)
        have BA := Lib.hid (below_trans B9.out ba)
        clear oa ba p0 p1 p2 p3 T9 O9 R9 X9 B9
        obtain ⟨p0, p1, p2, p3, _⟩ := XA.out.four
        go_wp2_with fail
        refine (i_Ppm M _ _ _ _ _ _ _ TA.out OOA.out (by omega)).mono ?_
        rintro e wb ⟨Ab, cb, rfl, ob, bb⟩
        rw [HPM.out, hml] at ob ⊢
        have OB := Lib.hid (ob.rd hml)
        have OA2 := Lib.hid ((OA.out.below bb).rd hml)
        have HRW := Lib.hid (show ∀ x ∈ matG gs q, x.length = 2 ^ q from fun x hx => by rw [← hml]; exact matG_rows gs q x hx)
        have BB := Lib.hid (below_trans BA.out bb)
        clear ob bb OA TA OOA XA BA p0 p1 p2 p3
        go_wp2_with fail
        refine (s_EqMat _ (2 ^ q) _ _ _ (matG gs q) (matG gs q) _ OB.out OA2.out h16 HRW.out HRW.out).mono ?_
        rintro e wc ⟨rfl, bc⟩
        go_wp2_with fail
        go_ret
        exact ⟨ret_bool (by simp), below_trans BB.out bc⟩

theorem own : ownKnob Try.prog.godebug = none := by kernel_rfl
theorem laidOut : laidOutB Try.prog = true := by kernel_rfl
set_option maxRecDepth 100000 in
theorem lifted (os : Os) (started : os.Started) (H : Type) (enc : TypeId × Value → H) :
    ReturnsInHanded {} Try.checked os 5 .any (Rows.fnPolySpec.pre6 enc Try.prog Try.f5 Rows.fnPolyRow.domain false) (Rows.fnPolySpec.post enc Try.prog Try.f5 false true false false) := by
  refine returnsInHanded_of_change (C := Try.checked) own started (by kernel_rfl) Try.func5
    (ChangeSpec.witness6 (enc := enc) (C := Try.checked) false ⟨#[], #[.slice none 0 0], []⟩ 8 (by kernel_rfl) (by kernel_rfl) (by kernel_rfl) (by kernel_rfl)) ?_
  intro W base args ds gs before hval0 hW hcnd _
  have hval : ∀ (j : Nat) t v, Try.f5.params[j]? = some t → args[j]? = some v → Value.okWide Try.prog W .any base t v := hval0
  have hW' := hW
  obtain ⟨p, q, hA0, hV, rfl, hfz, hnd⟩ := hW
  have hA : DataW.TrodAll enc Try.prog W 0 (fun _ => true) true Try.f5.params.toList args.toList ds p := hA0
  rw [Try.params5] at hA hval
  obtain ⟨v0, vs0, d0, ds0, p0, q0, hargs, rfl, rfl, h0, t0⟩ := trodAll_cons hA
  obtain ⟨rfl, rfl, rfl⟩ := trodAll_nil t0
  obtain rfl : args = #[v0] := by cases args; simp_all
  obtain ⟨rfl, rfl⟩ := trodVars_none hV
  have k0 := h0
  have lt0 : ∀ x ∈ p0, x.block < W.heap.size := by obtain ⟨m, hm⟩ := k0; exact DataW.trod_lt m _ _ _ hm
  obtain ⟨A0, n0, c0, rfl⟩ := okWide_slice Try.underlying39 (hval 0 39 v0 rfl rfl)
  obtain ⟨fu0, hf0⟩ := h0
  obtain ⟨_, _, _, x0, e0, r0, l0, m0, ok0⟩ := open_bytes Try.underlying39 Try.underlying5 (by kernel_rfl) hf0
  simp only [Value.slice.injEq] at e0
  obtain ⟨rfl, rfl, rfl⟩ := e0
  clear hA0 hval0
  refine (walk A0 n0 c0 x0 W r0 l0 m0 ok0).mono fun e W' ⟨he, bel⟩ => ?_
  subst he
  exact ⟨_, rfl, _, _, _, [], _, [], hW', trodAll_mk1 (shut_bool Try.underlying4 _), (trodAll_cons_mk (Below.trod laidOut (by kernel_rfl) (of_decide_eq_true (by kernel_rfl)) k0 bel lt0) trodAll_mk0), rfl, bel.frame _, fun h => by cases h⟩

theorem over : Rows.fnPolyRow.holds Try.pinned (OpenSpec.ofChange Rows.fnPolySpec) :=
  OpenClaim.holds_of_wide 5 Try.f5 rfl rfl rfl rfl rfl rfl rfl ⟨rfl, rfl, rfl, rfl, rfl⟩ rfl rfl rfl rfl rfl (by kernel_rfl) Try.func5 (by kernel_rfl)
    (of_decide_eq_true (by kernel_rfl)) (by unfold Func.isWrapper; first | (rw [if_pos (by decide +kernel)]; kernel_rfl) | (rw [if_neg (by decide +kernel)]; exact ⟨rfl, rfl⟩))
    (fun os started H enc _ => lifted os started H enc)

theorem proved : Rows.FnPolySaid := over
#print axioms proved
end Go.Proofs.Ytibhikngiceeeaa.fnPoly
