/- Contract of PeepholeStep (impl). -/
import Derived.Test.YtjmgpgppammhhaaPeepT
import Derived.Test.YtjmgpgppammhhaaMergeI
namespace Go.Proofs.Ytjmgpgppammhhaa
open Go.RowKit

theorem step_out {l r s : List Gt} {g h : Gt} {i k : Nat} (hd : l.drop i = g :: r) (hdk : l.drop k = h :: s) (hik : i < k) (hk : k < l.length) (hf : findStep l 0 = some (i, k)) :
    cellsG (stepL l) = ((cellsG (l.take i) ++ cellsG ((l.drop (i + 1)).take (k - (i + 1)))) ++ cellsG (mergeL g h)) ++ cellsG (l.drop (k + 1)) ∧
    (stepL l).length = i + (k - (i + 1)) + (mergeL g h).length + (l.length - (k + 1)) ∧ stepOk l = true := by
  have e : stepL l = l.take i ++ ((l.drop (i + 1)).take (k - (i + 1)) ++ (mergeL g h ++ l.drop (k + 1))) := by
    simp only [stepL, hf]; unfold outOf; rw [getD_drop hd, getD_drop hdk]
  refine ⟨by rw [e]; simp [cellsG_append], ?_, by simp [stepOk, hf]⟩
  rw [e]
  simp only [List.length_append, List.length_take, List.length_drop]
  omega

set_option maxRecDepth 100000 in
set_option maxHeartbeats 3200000 in
theorem i_PeepholeStep (A : Option Addr) (n c : Nat) (l : List Gt) (w : World) (h : RdG w A n l) (hnc : n ≤ c) (hn : n ≤ 1099511627776) :
    Calls Try.prog 14 #[.slice A n c] w (RetGB (stepL l) (stepOk l) w) := by
  have H := Lib.hid h
  clear h
  go_enter Try.func14, Try.ntmps14
  go_wp2_with fail
  go_loopg [12] n (fun m j wr => ∃ i : Nat, i + m = n ∧ j = .int .i64 i ∧ findStep (l.drop i) i = findStep l 0 ∧ Below w.heap.size w wr)
  case atStart => exact ⟨0, by omega, rfl, rfl, Below.refl _ _⟩
  case round =>
    obtain ⟨i, hi, rfl, hs, hb⟩ := hrel
    have HS := Lib.hid hs
    clear hs
    by_cases hlt : i < n
    · obtain ⟨b, off, g, rfl, hB, hd, c0, c1, c2, c3⟩ := (H.out.below hb).at_ hlt
      have HD := Lib.hid hd
      clear hd
      have BX := Lib.hid (Bx.new wr 33 #[.int .i64 g.k, .int .i64 g.a, .int .i64 g.b, .int .i64 g.c])
      have HB0 := hb.alloc hb.size (.cells #[.int .i64 g.k, .int .i64 g.a, .int .i64 g.b, .int .i64 g.c] 33)
      go_wp2_with fail
      clear c0 c1 c2 c3
      obtain ⟨wo, rfl⟩ : ∃ wo, wo = wr := ⟨_, rfl⟩
      obtain ⟨go, rfl⟩ : ∃ go, go = gk := ⟨_, rfl⟩
      go_loopg [6] (n - (i + 1)) (fun m j wr => ∃ k : Nat, k + m = n ∧ i + 1 ≤ k ∧ j = .int .i64 k ∧ scanB g (l.drop k) k = scanB g (l.drop (i + 1)) (i + 1) ∧ Bx wr wo.heap.size 33 #[.int .i64 g.k, .int .i64 g.a, .int .i64 g.b, .int .i64 g.c] ∧ Below w.heap.size w wr)
      case atStart => exact ⟨i + 1, by omega, by omega, by go_num, rfl, BX.out, HB0⟩
      case round =>
        obtain ⟨k, hk, hik, rfl, hs, bx, hb⟩ := hrel
        have HSC := Lib.hid hs
        have BXX := Lib.hid bx
        clear hs bx
        have NXT : Hid (scanB g (l.drop (i + 1)) (i + 1) = none → findStep (l.drop (i + 1)) (i + 1) = findStep l 0) := Lib.hid fun hsc => by
          rw [← HS.out, HD.out, findStep, hsc]
        by_cases hlk : k < n
        · obtain ⟨p0, p1, p2, p3, _, _, _, _⟩ := BXX.out.four
          have hd2 := drop_cons (l := l) (k := k) (by have := H.out.1; omega)
          obtain ⟨h, hh⟩ : ∃ h, l[k]'(by have := H.out.1; omega) = h := ⟨_, rfl⟩
          rw [hh] at hd2
          have HD2 := Lib.hid hd2
          clear hd2 hh
          obtain ⟨_, q0, q1, q2, q3⟩ := (H.out.below hb).cellsAt HD2.out
          have hk1 : (k : Int) < (n : Int) := by omega
          have hml := mergeL_short g h
          go_wp2_with fail
          go_region_held3 (fun w' => w'.cell? ⟨wo.heap.size, 0, none⟩ = some (.int .i64 g.k) ∧ w'.cell? ⟨wo.heap.size, 1, none⟩ = some (.int .i64 g.a) ∧ w'.cell? ⟨wo.heap.size, 2, none⟩ = some (.int .i64 g.b) ∧ w'.cell? ⟨wo.heap.size, 3, none⟩ = some (.int .i64 g.c) ∧ w'.cell? ⟨b, off + k * 4, none⟩ = some (.int .i64 h.k) ∧ w'.cell? ⟨b, off + k * 4 + 1, none⟩ = some (.int .i64 h.a) ∧ w'.cell? ⟨b, off + k * 4 + 2, none⟩ = some (.int .i64 h.b) ∧ w'.cell? ⟨b, off + k * 4 + 3, none⟩ = some (.int .i64 h.c))
            (first | go_keep | exact ⟨x0, x1, x2, x3, y0, y1, y2, y3⟩)
            (first | (go_at_call 50; (with_reducible refine (i_MergeGates g h _).mono ?_); rintro e w1 ⟨A1, c1, rfl, o1, b1⟩; have b01 := hb.drew.trans (b1.mono hb.size); have bx1 := BXX.out.drew.below b1; have ⟨x0, x1, x2, x3, _⟩ := bx1.four; have ⟨_, y0, y1, y2, y3⟩ := (H.out.below b01).cellsAt HD2.out))
          clear p0 p1 p2 p3 q0 q1 q2 q3
          cases hm : mergeOk g h
          · have HM := Lib.hid hm
            clear hm
            go_wp2_with fail
            go_still_tail 5, (by kernel_rfl)
            go_wp2_with fail
            refine (i_GatesCommute g h _).mono ?_
            rintro e w2 ⟨rfl, b2⟩
            have b02 := b01.drew.trans (b2.mono b01.size)
            have BX2 := Lib.hid (bx1.drew.below b2)
            clear x0 x1 x2 x3 y0 y1 y2 y3
            cases hc : comm g h
            · have FIN := Lib.hid (NXT.out (by rw [← HSC.out, HD2.out, scanB_no HM.out hc]))
              clear hc
              go_wp2_with fail
              go_roundg (go - 1)
              case measure => omega
              case rel => exact ⟨i + 1, by omega, by go_num, FIN.out, b02⟩
            · have FIN := Lib.hid (show scanB g (l.drop (k + 1)) (k + 1) = scanB g (l.drop (i + 1)) (i + 1) by
                rw [← HSC.out, HD2.out, scanB_on HM.out hc])
              clear hc
              go_wp2_with fail
              go_roundg (gk - 1)
              case measure => omega
              case rel => exact ⟨k + 1, by omega, by omega, by go_num, FIN.out, BX2.out, b02⟩
          · have hl := H.out.1
            have FIN := Lib.hid (step_out HD.out HD2.out (by omega) (by omega) (show findStep l 0 = some (i, k) by rw [← HS.out, HD.out, findStep, ← HSC.out, HD2.out, scanB_yes hm]))
            clear hm x0 x1 x2 x3 y0 y1 y2 y3
            have hi0 : (0 : Int) ≤ (i : Int) := by omega
            have hic : (i : Int) ≤ (c : Int) := by omega
            have hik0 : (i : Int) + 1 ≤ (k : Int) := by omega
            have hkc : (k : Int) ≤ (c : Int) := by omega
            have hkn : (k : Int) + 1 ≤ (n : Int) := by omega
            have hwi : IntKind.i64.wrap ((i : Int) + 1) = (i : Int) + 1 := by rw [IntKind.wrap_i64]; omega
            obtain ⟨AA, hAA⟩ : ∃ AA, (some ⟨b, off, none⟩ : Option Addr) = AA := ⟨_, rfl⟩
            rw [hAA] at H ⊢
            have hsl1 := sl_h AA n c i (by omega)
            have hsl2 := sl_lh AA n c (i + 1) k (by omega) (by omega)
            rw [Int.natCast_succ] at hsl2
            obtain ⟨A2, hA2⟩ : ∃ A2, (if c = i + 1 then AA else AA.map (·.add ((i + 1) * 4))) = A2 := ⟨_, rfl⟩
            obtain ⟨m2, hm2⟩ : ∃ m2, k - (i + 1) = m2 := ⟨_, rfl⟩
            rw [hA2, hm2] at hsl2
            have R1 := Lib.hid ((H.out.below b01).pre (k := i) (by omega))
            have R2 := Lib.hid (show ∀ wx, Below w.heap.size w wx → Rd wx 4 A2 m2 (cellsG ((l.drop (i + 1)).take (k - (i + 1)))) from fun wx bx => by
              have h2 := (H.out.below bx).mid (lo := i + 1) (hi := k) (cap := c) (by omega) (by omega) hnc
              rw [hA2] at h2
              have h3 := h2.2
              rw [hm2] at h3 ⊢
              exact h3)
            have hsl3 := sl_l AA n c (k + 1) (by omega)
            rw [Int.natCast_succ] at hsl3
            obtain ⟨A4, hA4⟩ : ∃ A4, (if c = k + 1 then AA else AA.map (·.add ((k + 1) * 4))) = A4 := ⟨_, rfl⟩
            obtain ⟨m4, hm4⟩ : ∃ m4, n - (k + 1) = m4 := ⟨_, rfl⟩
            rw [hA4, hm4] at hsl3
            have R4 := Lib.hid (show ∀ wx, Below w.heap.size w wx → Rd wx 4 A4 m4 (cellsG (l.drop (k + 1))) from fun wx bx => by
              have h4 := (H.out.below bx).cut (k := k + 1) (cap := c) (by omega) hnc
              rw [hA4, hm4] at h4
              exact h4.2)
            obtain ⟨m1, hm1⟩ : ∃ m1, (mergeL g h).length = m1 := ⟨_, rfl⟩
            have LEN := Lib.hid (show (stepL l).length = i + m2 + m1 + m4 by rw [FIN.out.2.1, hm2, hm1, hl, hm4])
            have GLUE := Lib.hid FIN.out.1
            have SB := Lib.hid FIN.out.2.2
            have hbd : i + m2 + m1 + m4 ≤ n := by omega
            rw [hm1] at o1 hml ⊢
            have O1 := Lib.hid o1
            clear hm1 hm2 hm4 hA4 hA2 hAA FIN o1 hl
            have hz4 : (Value.agg #[.int .i64 0, .int .i64 0, .int .i64 0, .int .i64 0]).cells.size = 4 := rfl
            have RC : RdG w1.drew AA i (l.take i) := R1.out.drew
            go_wp2_with fail
            go_region_held3 (fun w' => True) (first | trivial | skip)
              (first
                | (go_at_call 48; (with_reducible refine (i_copyGates _ _ _ _ _ RC (by omega)).mono ?_); rintro e w2 ⟨A3, c3, rfl, o2, b2⟩; have B2 : Below w1.heap.size w1 w2 := below_drew b2; have SRC1 := R2.out w2 (b01.trans (B2.mono b01.size)))
                | (refine step_app (by rfl) (.tmp 38) (.tmp 43) 24 (by rfl) Try.underlying24 infoGate hz4 (by decide) (by simp [Act.eval] <;> rfl) o2 (by simp [Act.eval] <;> rfl) SRC1 one_cellsG (by omega) (by decide) B2.size ?_; intro A5 c5 w3 o3 g3; have B3 : Below w1.heap.size w1 w3 := below_grown B2 B2.size o2 (Nat.le_refl _) g3; have P1 := ownsRow_below O1.out B3))
            go_wp2_with (first
              | (at_builtin; refine wpList_app rfl (.tmp 45) (.tmp 46) 24 rfl Try.underlying24 infoGate rfl (by decide) rfl o3 rfl (Rd.own P1) one_cellsG (by omega) (by decide) B3.size ?_; intro A6 c6 w4 o4 g4; have B4 : Below w1.heap.size w1 w4 := below_grown B3 B3.size o3 (Nat.le_refl _) g4; have SRC2 := R4.out w4 (b01.trans (B4.mono b01.size)))
              | (at_builtin; refine wpList_app rfl (.tmp 48) (.tmp 52) 24 rfl Try.underlying24 infoGate rfl (by decide) rfl o4 rfl SRC2 one_cellsG (by omega) (by decide) B4.size ?_; intro A7 c7 w5 o5 g5))
            go_ret2
            rw [SB.out]
            exact ⟨A7, c7, by rw [LEN.out]; rfl, by rw [LEN.out, GLUE.out]; exact ownsRow_base o5 b01.size, b01.trans ((below_grown B4 B4.size o4 (Nat.le_refl _) g5).mono b01.size)⟩
        · have FIN := Lib.hid (NXT.out (by rw [← HSC.out, List.drop_eq_nil_of_le (by have := H.out.1; omega)]; rfl))
          go_wp2_with fail
          go_roundg (go - 1)
          case measure => omega
          case rel => exact ⟨i + 1, by omega, by go_num, FIN.out, hb⟩
    · have HO := Lib.hid (show stepL l = l ∧ stepOk l = false by
        have e : findStep l 0 = none := by rw [← HS.out, List.drop_eq_nil_of_le (by have := H.out.1; omega)]; rfl
        simp [stepL, stepOk, e])
      go_wp2_with fail
      refine (i_copyGates _ _ _ _ _ (H.out.below hb) hn).mono ?_
      rintro e w2 ⟨A2, c2, rfl, o2, b2⟩
      go_wp2_with fail
      go_ret2
      have hl := H.out.1
      rw [HO.out.1, HO.out.2]
      exact ⟨A2, c2, by rw [hl]; rfl, by rw [hl]; exact ownsRow_base o2 hb.size, hb.trans (b2.mono hb.size)⟩
end Go.Proofs.Ytjmgpgppammhhaa
