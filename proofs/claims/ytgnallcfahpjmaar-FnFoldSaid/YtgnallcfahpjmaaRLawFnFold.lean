/- The law FnFold returns true for every code. No condition. -/
import Derived.Test.YtgnallcfahpjmaaRRows
import Derived.Test.YtgnallcfahpjmaaRDrawF
import Derived.Test.YtgnallcfahpjmaaRFoldR
import Derived.Test.YtgnallcfahpjmaaRFoldI
import Derived.Test.YtgnallcfahpjmaaRFoldS
import Derived.Test.YtgnallcfahpjmaaRPolyQ
import Derived.Test.YtgnallcfahpjmaaRPolyM
import Derived.Test.YtgnallcfahpjmaaROpen
import Derived.ChangeOld
namespace Go.Proofs.YtgnallcfahpjmaaR.fnFold
open Go.ChangeShapes Go.WideShapes Go.ChangeAt Go.RowKit
set_option linter.unusedVariables false

theorem canon_mem : ∀ {t : List (Int × Int)} {q : Int × Int}, Canon t → q ∈ t → 1 ≤ q.2 ∧ q.2 ≤ 7
  | p :: r, q, h, hq => by
    rcases List.mem_cons.1 hq with h1 | h1
    · rw [h1]; exact ⟨h.2.1, h.2.2.1⟩
    · exact canon_mem h.2.2.2 h1
set_option maxHeartbeats 800000 in
theorem s_DrawFold (A : Option Addr) (n cap : Nat) (zs : List Int) (w : World) (h : RdB w A n zs) (hz : ∀ z ∈ zs, 0 ≤ z ∧ z ≤ 255) (hn : n ≤ 1048576) :
    Calls Try.prog 15 #[.slice A n cap] w (RetDCP w) := by
  have H := Lib.hid h
  have HZ := Lib.hid hz
  clear h hz
  go_enter Try.func15, Try.ntmps15
  go_wp2_with fail
  refine (s_DrawComp A n cap zs _ H.out HZ.out hn).mono ?_
  rintro e w1 ⟨A2, n2, c2, gs, N, rfl, hl, h5, o1, b1⟩
  have OO := Lib.hid o1
  have BB := Lib.hid b1
  have HL := Lib.hid hl
  clear o1 b1 hl
  go_wp2_with fail
  go_ret2
  exact ⟨A2, n2, c2, gs, N, rfl, HL.out, h5, OO.out, BB.out⟩

set_option maxRecDepth 100000 in
set_option maxHeartbeats 6400000 in
theorem walk (A : Option Addr) (n cap : Nat) (zs : List Int) (w : World) (h : zs.length = n ∧ Rd w 1 A n (zs.map (Value.int .u8))) (hnc : n ≤ cap) (hc : cap ≤ maxLen) (ok : ∀ z ∈ zs, 0 ≤ z ∧ z ≤ 255) :
    Calls Try.prog 3 #[.slice A n cap] w fun e w' => e = .returned (.bool true) ∧ Below w.heap.size w w' := by
  unfold maxLen at hc
  have H : Hid (RdB w A n zs) := h
  have OK := Lib.hid ok
  clear h ok
  by_cases hn : 1048576 < n
  · go_enter Try.func3, Try.ntmps3
    go_wp2_with fail
    refine (l_big _ _ _ _ (by omega)).mono ?_
    rintro e w1 ⟨rfl, rfl⟩
    rw [decide_eq_true hn]
    go_wp2_with fail
    go_ret
    exact ⟨rfl, Below.refl _ _⟩
  · go_enter Try.func3, Try.ntmps3
    go_wp2_with fail
    refine (l_big _ _ _ _ (by omega)).mono ?_
    rintro e w1 ⟨rfl, rfl⟩
    rw [decide_eq_false hn]
    go_wp2_with fail
    refine (s_DrawFold _ _ _ _ _ H.out OK.out (by omega)).mono ?_
    rintro e w1 ⟨A1, n1, c1, gs, N, rfl, hl, h13, o1, b1⟩
    subst hl
    obtain ⟨⟨F, fk⟩, hF⟩ : ∃ r, foldP gs N = r := ⟨_, rfl⟩
    have hFl := foldP_len gs N
    rw [hF] at hFl
    have hFl' : F.length ≤ 26 := by have : F.length ≤ 2 * gs.length := hFl; omega
    have HF := Lib.hid hF
    have R1 := Lib.hid (RdG.own o1)
    have B1 := Lib.hid b1
    clear hFl o1 b1 hF
    go_wp2_with fail
    refine (i_FoldP _ _ _ gs N _ R1.out (by omega)).mono ?_
    rintro e w2 ⟨A2, c2, rfl, o2, b2⟩
    rw [HF.out] at o2 ⊢
    dsimp only at o2 ⊢
    have R2 := Lib.hid (R1.out.below b2)
    have F2 := Lib.hid (RdG.own o2)
    have B2 := Lib.hid (below_trans B1.out b2)
    clear o2 b2 R1 B1
    go_wp2_with fail
    refine (s_FoldP _ _ _ gs N _ R2.out (by omega)).mono ?_
    rintro e w3 ⟨A3, c3, rfl, o3, b3⟩
    rw [HF.out] at o3 ⊢
    dsimp only at o3 ⊢
    have R3 := Lib.hid (R2.out.below b3)
    have F3 := Lib.hid (F2.out.below b3)
    have S3 := Lib.hid (RdG.own o3)
    have B3 := Lib.hid (below_trans B2.out b3)
    clear o3 b3 R2 F2 B2
    go_wp2_with fail
    refine (l_sameGates_same _ _ _ _ _ F _ F3.out S3.out (by omega)).mono ?_
    rintro e w4 ⟨rfl, b4⟩
    have R4 := Lib.hid (R3.out.below b4)
    have F4 := Lib.hid (F3.out.below b4)
    have B4 := Lib.hid (below_trans B3.out b4)
    clear b4 R3 F3 S3 B3
    obtain ⟨⟨M, mb⟩, hM⟩ : ∃ r, compP gs N = r := ⟨_, rfl⟩
    have hMb := compP_bd gs N
    rw [hM] at hMb
    have hMt : M.t.length ≤ 13 := Nat.le_trans hMb.1 h13
    have hMo : M.o.length ≤ 4 := hMb.2
    have HM := Lib.hid hM
    clear hMb hM
    go_wp2_with fail
    refine (s_CompP _ _ _ gs N _ R4.out (by omega)).mono ?_
    rintro e w5 ⟨v, rfl, ⟨A5, c5, B5, d5, rfl, t5, o5⟩, b5⟩
    rw [HM.out] at t5 o5 ⊢
    dsimp only at t5 o5 ⊢
    have B5b := Lib.hid ((below_trans B4.out b5).alloc (below_trans B4.out b5).size (.cells #[.int .i64 M.N, .int .i64 M.H, .slice A5 M.t.length c5, .slice B5 M.o.length d5] 32))
    have R5 := Lib.hid ((R4.out.below b5).alloc (.cells #[.int .i64 M.N, .int .i64 M.H, .slice A5 M.t.length c5, .slice B5 M.o.length d5] 32))
    have F5 := Lib.hid ((F4.out.below b5).alloc (.cells #[.int .i64 M.N, .int .i64 M.H, .slice A5 M.t.length c5, .slice B5 M.o.length d5] 32))
    have T5 := Lib.hid (t5.alloc (.cells #[.int .i64 M.N, .int .i64 M.H, .slice A5 M.t.length c5, .slice B5 M.o.length d5] 32))
    have O5 := Lib.hid (o5.alloc (.cells #[.int .i64 M.N, .int .i64 M.H, .slice A5 M.t.length c5, .slice B5 M.o.length d5] 32))
    have X5 := Lib.hid (Bx.new w5 32 #[.int .i64 M.N, .int .i64 M.H, .slice A5 M.t.length c5, .slice B5 M.o.length d5])
    have hw5 : w.heap.size ≤ w5.heap.size := (below_trans B4.out b5).size
    clear t5 o5 b5 R4 F4 B4
    cases mb
    · have hno := foldP_no (gs := gs) (n := N) (by rw [HM.out])
      rw [HF.out] at hno
      injection hno with hn1 hn2
      subst hn1 hn2
      go_wp2_with fail
      refine (l_sameGates_same _ _ _ _ _ F _ F5.out R5.out (by omega)).mono ?_
      rintro e w6 ⟨rfl, b6⟩
      go_wp2_with fail
      go_ret
      exact ⟨rfl, below_trans B5b.out b6⟩
    · obtain ⟨Q, q1, q2, q3, q4, q5, q6, q7, q8, q9, q10, q11, hMi⟩ := fold_law HM.out
      rw [HF.out] at q1 q5 q8 q9 q10
      dsimp only at q1 q5 q8 q9 q10
      obtain ⟨QN, QH, Qt, Qo⟩ := Q
      dsimp only at q2 q3 q4 q5 q6 q7
      subst q2 q3 q4
      have HQ := Lib.hid q1
      clear q1
      go_wp2_with fail
      refine (i_CompP _ _ _ F N _ F5.out (by omega)).mono ?_
      rintro e w6 ⟨v, rfl, ⟨A6, c6, B6, d6, rfl, t6, o6⟩, b6⟩
      rw [HQ.out] at t6 o6 ⊢
      dsimp only at t6 o6 ⊢
      have B6b := Lib.hid ((below_trans B5b.out b6).alloc (below_trans B5b.out b6).size (.cells #[.int .i64 M.N, .int .i64 QH, .slice A6 M.t.length c6, .slice B6 M.o.length d6] 32))
      have R6 := Lib.hid ((R5.out.below b6).alloc (.cells #[.int .i64 M.N, .int .i64 QH, .slice A6 M.t.length c6, .slice B6 M.o.length d6] 32))
      have F6 := Lib.hid ((F5.out.below b6).alloc (.cells #[.int .i64 M.N, .int .i64 QH, .slice A6 M.t.length c6, .slice B6 M.o.length d6] 32))
      have T6 := Lib.hid ((ownsRow_below T5.out b6).alloc (.cells #[.int .i64 M.N, .int .i64 QH, .slice A6 M.t.length c6, .slice B6 M.o.length d6] 32))
      have O6 := Lib.hid ((ownsRow_below O5.out b6).alloc (.cells #[.int .i64 M.N, .int .i64 QH, .slice A6 M.t.length c6, .slice B6 M.o.length d6] 32))
      have X6 := Lib.hid ((X5.out.below b6).alloc (.cells #[.int .i64 M.N, .int .i64 QH, .slice A6 M.t.length c6, .slice B6 M.o.length d6] 32))
      have U6 := Lib.hid (t6.alloc (.cells #[.int .i64 M.N, .int .i64 QH, .slice A6 M.t.length c6, .slice B6 M.o.length d6] 32))
      have V6 := Lib.hid (o6.alloc (.cells #[.int .i64 M.N, .int .i64 QH, .slice A6 M.t.length c6, .slice B6 M.o.length d6] 32))
      have Y6 := Lib.hid (Bx.new w6 32 #[.int .i64 M.N, .int .i64 QH, .slice A6 M.t.length c6, .slice B6 M.o.length d6])
      have hne : w5.heap.size < w6.heap.size := (X5.out.below b6).lt
      have BZ : Hid (∀ u, Below w6.heap.size w6 ((w6.alloc (.cells #[.int .i64 M.N, .int .i64 QH, .slice A6 M.t.length c6, .slice B6 M.o.length d6] 32)).setCell ⟨w6.heap.size, 1, none⟩ u)) := Lib.hid fun u => ((Below.refl _ _).alloc (Nat.le_refl _) _).setCell (Nat.le_refl _) u
      have RW := Lib.hid fun (u : Value) => (R5.out.below b6).below (BZ.out u)
      have FW := Lib.hid fun (u : Value) => (F5.out.below b6).below (BZ.out u)
      have BW := Lib.hid fun (u : Value) => below_trans (below_trans B5b.out b6) (BZ.out u)
      clear BZ
      have hod := oddS_bd hMi
      have HC := Lib.hid hMi
      have Q10 := Lib.hid q10
      have Q5 := Lib.hid q5
      clear t6 o6 b6 T5 O5 X5 R5 F5 B5b q10 hMi q5
      go_wp2_with fail
      generalize hwz : w6.alloc (.cells #[.int .i64 M.N, .int .i64 QH, .slice A6 M.t.length c6, .slice B6 M.o.length d6] 32) = wz at B6b R6 F6 T6 O6 X6 U6 V6 Y6 RW FW BW ⊢
      generalize hg5 : w5.heap.size = g5 at X6 hne hw5 ⊢
      generalize hg6 : w6.heap.size = g6 at Y6 hne U6 V6 RW FW BW ⊢
      clear hwz hg5 hg6
      obtain ⟨p0, p1, p2, p3, _⟩ := X6.out.four
      go_loopg [13, 14] M.t.length (fun r s i wr => ∃ (j : Nat) (x : Int), j + r = M.t.length ∧ i = .int .i64 j ∧ s = .int .i64 x ∧ 0 ≤ x ∧ x ≤ j ∧ x + oddS (M.t.drop j) = oddS M.t ∧ wr = wz)
      case atStart => exact ⟨0, 0, by omega, rfl, rfl, by omega, by omega, by simp, rfl⟩
      case round =>
        obtain ⟨j, x, hj, rfl, rfl, hx0, hx1, hx, rfl⟩ := hrel
        have HX := Lib.hid hx
        clear hx
        by_cases hlt : j < M.t.length
        · obtain ⟨b, off, a, c, rfl, hB, hd, k0, k1⟩ := (RdP.own T6.out).at_ hlt
          obtain ⟨hc1, hc7⟩ := canon_mem HC.out (List.mem_of_mem_drop (i := j) (by rw [hd]; exact List.mem_cons_self) : (a, c) ∈ M.t)
          have HD := Lib.hid hd
          have hjI : (j : Int) < (M.t.length : Int) := by omega
          clear hd
          go_wp2_with fail
          go_roundg (gk - 1)
          case measure => omega
          case rel =>
            have h2 := HX.out
            rw [HD.out, oddS] at h2
            exact ⟨j + 1, x + c % 2, by omega, by go_num, rfl, by omega, by omega, by omega, rfl⟩
        · have hxe : x = oddS M.t := by
            have h2 := HX.out
            rw [List.drop_eq_nil_of_le (by omega), oddS] at h2
            omega
          have HXE := Lib.hid hxe
          clear hxe HX
          obtain ⟨s0, s1, s2, s3, u0, u1, u2, u3⟩ := Y6.out.four
          have ly := Y6.out.lt
          have q5 := Q5.out
          go_wp2_with fail
          have T7 := own_set_ne T6.out (p := ⟨g6, 1, none⟩) (own_bx_ne T6.out Y6.out (by decide)) (.int .i64 M.H)
          have O7 := own_set_ne O6.out (p := ⟨g6, 1, none⟩) (own_bx_ne O6.out Y6.out (by decide)) (.int .i64 M.H)
          have U7 := own_set_ne U6.out (p := ⟨g6, 1, none⟩) (own_bx_ne U6.out Y6.out (by decide)) (.int .i64 M.H)
          have V7 := own_set_ne V6.out (p := ⟨g6, 1, none⟩) (own_bx_ne V6.out Y6.out (by decide)) (.int .i64 M.H)
          have R7 := Lib.hid (RW.out (.int .i64 M.H))
          have F7 := Lib.hid (FW.out (.int .i64 M.H))
          have B7 := Lib.hid (BW.out (.int .i64 M.H))
          refine (s_EqualP M.N M.H M.N M.H _ _ _ _ _ _ _ _ _ _ _ _ M.t M.t M.o M.o _ (RdP.own T7) (RdP.own U7) (RdP.own O7) (RdP.own V7) (by omega) (by omega) (by omega) (by omega)).mono ?_
          rintro e w8 ⟨rfl, b8⟩
          rw [eqP_self]
          have R8 := Lib.hid (R7.out.below b8)
          have F8 := Lib.hid (F7.out.below b8)
          have B8 := Lib.hid (below_trans B7.out b8)
          clear T7 O7 U7 V7 R7 F7 B7 b8
          go_wp2_with fail
          refine (l_tCount _ _ _ F _ F8.out (by omega)).mono ?_
          rintro e w9 ⟨rfl, b9⟩
          rw [Q10.out, HXE.out]
          have R9 := Lib.hid (R8.out.below b9)
          have B9 := Lib.hid (below_trans B8.out b9)
          clear R8 F8 B8 b9
          go_wp2_with fail
          refine (l_tCount _ _ _ gs _ R9.out (by omega)).mono ?_
          rintro e wA ⟨rfl, bA⟩
          have BA := Lib.hid (below_trans B9.out bA)
          clear R9 B9 bA
          go_wp2_with fail
          go_ret
          exact ⟨rfl, BA.out⟩

theorem own : ownKnob Try.prog.godebug = none := by kernel_rfl
theorem laidOut : laidOutB Try.prog = true := by kernel_rfl
set_option maxRecDepth 100000 in
theorem lifted (os : Os) (started : os.Started) (H : Type) (enc : TypeId × Value → H) :
    ReturnsInHanded {} Try.checked os 3 .any (Rows.fnFoldSpec.pre6 enc Try.prog Try.f3 Rows.fnFoldRow.domain false) (Rows.fnFoldSpec.post enc Try.prog Try.f3 false true false false) := by
  refine returnsInHanded_of_change (C := Try.checked) own started (by kernel_rfl) Try.func3
    (ChangeSpec.witness6 (enc := enc) (C := Try.checked) false ⟨#[], #[.slice none 0 0], []⟩ 8 (by kernel_rfl) (by kernel_rfl) (by kernel_rfl) (by kernel_rfl)) ?_
  intro W base args ds gs before hval0 hW hcnd _
  have hval : ∀ (j : Nat) t v, Try.f3.params[j]? = some t → args[j]? = some v → Value.okWide Try.prog W .any base t v := hval0
  have hW' := hW
  obtain ⟨p, q, hA0, hV, rfl, hfz, hnd⟩ := hW
  have hA : DataW.TrodAll enc Try.prog W 0 (fun _ => true) true Try.f3.params.toList args.toList ds p := hA0
  rw [Try.params3] at hA hval
  obtain ⟨v0, vs0, d0, ds0, p0, q0, hargs, rfl, rfl, h0, t0⟩ := trodAll_cons hA
  obtain ⟨rfl, rfl, rfl⟩ := trodAll_nil t0
  obtain rfl : args = #[v0] := by cases args; simp_all
  obtain ⟨rfl, rfl⟩ := trodVars_none hV
  have k0 := h0
  have lt0 : ∀ x ∈ p0, x.block < W.heap.size := by obtain ⟨m, hm⟩ := k0; exact DataW.trod_lt m _ _ _ hm
  obtain ⟨A0, n0, c0, rfl⟩ := okWide_slice Try.underlying22 (hval 0 22 v0 rfl rfl)
  obtain ⟨fu0, hf0⟩ := h0
  obtain ⟨_, _, _, x0, e0, r0, l0, m0, ok0⟩ := open_bytes Try.underlying22 Try.underlying5 (by kernel_rfl) hf0
  simp only [Value.slice.injEq] at e0
  obtain ⟨rfl, rfl, rfl⟩ := e0
  clear hA0 hval0
  refine (walk A0 n0 c0 x0 W r0 l0 m0 ok0).mono fun e W' ⟨he, bel⟩ => ?_
  subst he
  exact ⟨_, rfl, _, _, _, [], _, [], hW', trodAll_mk1 (shut_bool Try.underlying4 _), (trodAll_cons_mk (Below.trod laidOut (by kernel_rfl) (of_decide_eq_true (by kernel_rfl)) k0 bel lt0) trodAll_mk0), rfl, bel.frame _, fun h => by cases h⟩

theorem over : Rows.fnFoldRow.holds Try.pinned (OpenSpec.ofChange Rows.fnFoldSpec) :=
  OpenClaim.holds_of_wide 3 Try.f3 rfl rfl rfl rfl rfl rfl rfl ⟨rfl, rfl, rfl, rfl, rfl⟩ rfl rfl rfl rfl rfl (by kernel_rfl) Try.func3 (by kernel_rfl)
    (of_decide_eq_true (by kernel_rfl)) (by unfold Func.isWrapper; first | (rw [if_pos (by decide +kernel)]; kernel_rfl) | (rw [if_neg (by decide +kernel)]; exact ⟨rfl, rfl⟩))
    (fun os started H enc _ => lifted os started H enc)

theorem proved : Rows.FnFoldSaid := over
#print axioms proved
end Go.Proofs.YtgnallcfahpjmaaR.fnFold
