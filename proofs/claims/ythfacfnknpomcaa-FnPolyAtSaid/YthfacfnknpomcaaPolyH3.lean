/- Contract of PhasePolynomialApplyGate (impl), a theorem a way. At most 2^38 terms. -/
import Derived.Test.YthfacfnknpomcaaPolyB
import Derived.Test.YthfacfnknpomcaaPolyR
import Derived.Test.YthfacfnknpomcaaSmall
namespace Go.Proofs.Ythfacfnknpomcaa
open Go.RowKit
set_option linter.unusedVariables false

set_option maxRecDepth 100000 in
set_option maxHeartbeats 3200000 in
theorem i_AG_cx (N H : Int) (AT : Option Addr) (nT cT : Nat) (t : List (Int × Int)) (AO : Option Addr) (nO cO : Nat) (o : List (Int × Int)) (a b c : Int) (w : World) (hT : RdP w AT nT t) (hO : RdP w AO nO o) (hnT : nT ≤ 274877906944) (hnO : nO ≤ 274877906944) (hcT : nT ≤ cT) (hok : okP ⟨N, H, t, o⟩ ⟨9, a, b, c⟩ = true)  :
    Calls Try.prog 22 #[.agg #[.int .i64 N, .int .i64 H, .slice AT nT cT, .slice AO nO cO], .agg #[.int .i64 9, .int .i64 a, .int .i64 b, .int .i64 c]] w (RetPB (actP ⟨N, H, t, o⟩ ⟨9, a, b, c⟩) w) := by
  have hol := hO.1
  have HT := Lib.hid hT
  have HO := Lib.hid hO
  clear hT hO
  have X0 := Lib.hid (show Bx (((w.alloc (.cells #[.int .i64 N, .int .i64 H, .slice AT nT cT, .slice AO nO cO] 31)).alloc (.cells #[.int .i64 9, .int .i64 a, .int .i64 b, .int .i64 c] 38)).alloc (.cells #[.int .i64 0, .int .i64 0, .slice none 0 0, .slice none 0 0] 31)) w.heap.size 31 #[.int .i64 N, .int .i64 H, .slice AT nT cT, .slice AO nO cO] from ((Bx.new w _ _).alloc _).alloc _)
  have X1 := Lib.hid (show Bx (((w.alloc (.cells #[.int .i64 N, .int .i64 H, .slice AT nT cT, .slice AO nO cO] 31)).alloc (.cells #[.int .i64 9, .int .i64 a, .int .i64 b, .int .i64 c] 38)).alloc (.cells #[.int .i64 0, .int .i64 0, .slice none 0 0, .slice none 0 0] 31)) (w.heap.size + 1) 38 #[.int .i64 9, .int .i64 a, .int .i64 b, .int .i64 c] from (Bx.new' (by simp)).alloc _)
  have X2 := Lib.hid (show Bx (((w.alloc (.cells #[.int .i64 N, .int .i64 H, .slice AT nT cT, .slice AO nO cO] 31)).alloc (.cells #[.int .i64 9, .int .i64 a, .int .i64 b, .int .i64 c] 38)).alloc (.cells #[.int .i64 0, .int .i64 0, .slice none 0 0, .slice none 0 0] 31)) (w.heap.size + 1 + 1) 31 #[.int .i64 0, .int .i64 0, .slice none 0 0, .slice none 0 0] from Bx.new' (by simp))
  have BZ : Hid (Below w.heap.size w (((w.alloc (.cells #[.int .i64 N, .int .i64 H, .slice AT nT cT, .slice AO nO cO] 31)).alloc (.cells #[.int .i64 9, .int .i64 a, .int .i64 b, .int .i64 c] 38)).alloc (.cells #[.int .i64 0, .int .i64 0, .slice none 0 0, .slice none 0 0] 31))) := Lib.hid ((((Below.refl _ _).alloc (Nat.le_refl _) _).alloc (by simp) _).alloc (by simp <;> omega) _)
  obtain ⟨hk, hN⟩ := okP_parts hok
  dsimp only at hk hN
  obtain ⟨_, hN4, ha0, haN, hb0, hbN⟩ := okG_abn hk
  have HK := Lib.hid hk
  obtain ⟨ka, hka⟩ : ∃ k : Nat, a = k := ⟨a.toNat, by omega⟩
  obtain ⟨kb, hkb⟩ : ∃ k : Nat, b = k := ⟨b.toNat, by omega⟩
  rw [hol] at hN
  subst hN
  have HOL := Lib.hid hol
  have hkan : ka < nO := by omega
  have hkbn : kb < nO := by omega
  have hka0 : (0 : Int) ≤ (ka : Int) := by omega
  have hkaI : (ka : Int) < (nO : Int) := by omega
  have hkb0 : (0 : Int) ≤ (kb : Int) := by omega
  have hkbI : (kb : Int) < (nO : Int) := by omega
  have hnOO : ((nO : Int) != (nO : Int)) = false := by simp
  subst hka hkb
  clear hok hk hol ha0 haN hb0 hbN
  have HTL : Hid (t.length = nT) := Lib.hid HT.out.1
  obtain ⟨xa, ya, hxa⟩ : ∃ x y, o.getD ka (0, 0) = (x, y) := ⟨_, _, rfl⟩
  have HXA : Hid (at2 o (ka : Int) = (xa, ya)) := Lib.hid (by unfold at2; rw [Int.toNat_natCast]; exact hxa)
  obtain ⟨xb, yb, hxb⟩ : ∃ x y, o.getD kb (0, 0) = (x, y) := ⟨_, _, rfl⟩
  have HXB : Hid (at2 o (kb : Int) = (xb, yb)) := Lib.hid (by unfold at2; rw [Int.toNat_natCast]; exact hxb)
  have HOLL : Hid ((o.set kb (bits .xor .i64 xb xa, bits .xor .i64 yb ya)).length = nO) := Lib.hid (by rw [List.length_set, HOL.out])
  have HACT : actP ⟨(nO : Int), H, t, o⟩ ⟨9, (ka : Int), (kb : Int), c⟩ = (⟨(nO : Int), H, t, o.set kb (bits .xor .i64 xb xa, bits .xor .i64 yb ya)⟩, true) := by
    unfold actP
    rw [if_neg (by simp), if_pos (by rfl), HXA.out, HXB.out, Int.toNat_natCast, xor_comm64 xa, xor_comm64 ya]
  rw [HACT]
  clear HACT
  go_enter Try.func22, Try.ntmps22
  go_wp2_with fail
  refine (i_IsValidGate _ _ _ _ _ _).mono ?_
  rintro e w1 ⟨rfl, b1⟩
  rw [HK.out]
  have X0a := Lib.hid (X0.out.below b1)
  have X1a := Lib.hid (X1.out.below b1)
  have X2a := Lib.hid (X2.out.below b1)
  have B1 := Lib.hid (below_trans BZ.out b1)
  have hl2 : w.heap.size + 1 + 1 < w1.heap.size := X2a.out.lt
  have hl1 : w.heap.size + 1 < w1.heap.size := by omega
  have hl0 : w.heap.size < w1.heap.size := by omega
  clear b1 X0 X1 X2 BZ
  obtain ⟨p0, p1, p2, p3, pf0, pf1, pf2, pf3⟩ := X0a.out.four
  obtain ⟨q0, q1, q2, q3, qf0, qf1, qf2, qf3⟩ := X1a.out.four
  obtain ⟨r0, r1, r2, r3, rf0, rf1, rf2, rf3⟩ := X2a.out.four
  go_wp2_with fail
  refine (i_copyPoly _ _ _ _ _ t _ _ _ o _ (HT.out.below B1.out) (HO.out.below B1.out) (by omega) (by omega)).mono ?_
  rintro e w2 ⟨v, rfl, ⟨A2, c2, B2, d2, rfl, t2, o2⟩, b2⟩
  rw [HT.out.1] at t2 ⊢
  rw [HO.out.1] at o2 ⊢
  have X0b := Lib.hid ((X0a.out.below b2).alloc (.cells #[.int .i64 (nO : Int), .int .i64 H, .slice A2 nT c2, .slice B2 nO d2] 31))
  have X1b := Lib.hid ((X1a.out.below b2).alloc (.cells #[.int .i64 (nO : Int), .int .i64 H, .slice A2 nT c2, .slice B2 nO d2] 31))
  have X2b := Lib.hid ((X2a.out.below b2).alloc (.cells #[.int .i64 (nO : Int), .int .i64 H, .slice A2 nT c2, .slice B2 nO d2] 31))
  have XO := Lib.hid (Bx.new w2 31 #[.int .i64 (nO : Int), .int .i64 H, .slice A2 nT c2, .slice B2 nO d2])
  have TO := Lib.hid (t2.alloc (.cells #[.int .i64 (nO : Int), .int .i64 H, .slice A2 nT c2, .slice B2 nO d2] 31))
  have OO := Lib.hid (o2.alloc (.cells #[.int .i64 (nO : Int), .int .i64 H, .slice A2 nT c2, .slice B2 nO d2] 31))
  have BW2 := Lib.hid (show Below w.heap.size w (w2.alloc (.cells #[.int .i64 (nO : Int), .int .i64 H, .slice A2 nT c2, .slice B2 nO d2] 31)) from (below_trans B1.out b2).alloc (below_trans B1.out b2).size _)
  have hbg : w1.heap.size ≤ w2.heap.size := b2.size
  clear p0 p1 p2 p3 pf0 pf1 pf2 pf3 q0 q1 q2 q3 qf0 qf1 qf2 qf3 r0 r1 r2 r3 rf0 rf1 rf2 rf3
  obtain ⟨p0, p1, p2, p3, _⟩ := (X0a.out.below b2).four
  obtain ⟨q0, q1, q2, q3, _⟩ := (X1a.out.below b2).four
  obtain ⟨r0, r1, r2, r3, _⟩ := (X2a.out.below b2).four
  have hv0 : w.heap.size < w2.heap.size := by omega
  have hv1 : w.heap.size + 1 < w2.heap.size := by omega
  have hv2 : w.heap.size + 1 + 1 < w2.heap.size := by omega
  clear t2 o2 b2 X0a X1a X2a
  go_upto_region 4 with fail
  clear p0 p1 p2 p3 q0 q1 q2 q3 r0 r1 r2 r3
  generalize w2.alloc (.cells #[.int .i64 (nO : Int), .int .i64 H, .slice A2 nT c2, .slice B2 nO d2] 31) = wz at X0b X1b X2b XO TO OO BW2 ⊢
  generalize w2.heap.size = gp at XO hbg ⊢
  have HOz := Lib.hid (HO.out.below BW2.out)
  have HTz := Lib.hid (HT.out.below BW2.out)
  obtain ⟨p0, p1, p2, p3, pf0, pf1, pf2, pf3⟩ := X0b.out.four
  obtain ⟨q0, q1, q2, q3, qf0, qf1, qf2, qf3⟩ := X1b.out.four
  obtain ⟨r0, r1, r2, r3, rf0, rf1, rf2, rf3⟩ := X2b.out.four
  obtain ⟨s0, s1, s2, s3, sf0, sf1, sf2, sf3⟩ := XO.out.four
  have hz0 := X0b.out.lt
  have hz1 := X1b.out.lt
  have hz2 := X2b.out.lt
  have hzg := XO.out.lt
  have hz2x : w.heap.size + 1 + 1 < wz.heap.size + 1 := by omega
  have hgr : gp ≠ w.heap.size + 1 + 1 := by omega
  have hgr' : w.heap.size + 1 + 1 ≠ gp := by omega
  have hg0 : gp ≠ w.heap.size := by omega
  have hg1 : gp ≠ w.heap.size + 1 := by omega
  obtain ⟨gB, rfl, hgB0, hgBl, m0, m1, n0, n1⟩ := own2At OO.out hkan
  rw [hxa] at m0 m1
  have hngB : some gp ≠ some gB := own_bx_ne OO.out XO.out (by decide)
  have hgB1 : gB ≠ gp := fun e => hngB (by rw [e])
  have hgB2 : gp ≠ gB := fun e => hngB (by rw [e])
  have hgB3 : w.heap.size + 1 + 1 ≠ gB := by omega
  have hgB4 : w.heap.size ≠ gB := by omega
  have hgB5 : w.heap.size + 1 ≠ gB := by omega
  obtain ⟨gB', hGB, _, _, m2, m3, n2, n3⟩ := own2At OO.out hkbn
  injection hGB with hGB
  injection hGB with hG1 _ _
  subst hG1
  rw [hxb] at m2 m3
  have HTN : Hid (some gB ≠ (Value.slice A2 nT c2).ownBlock) := Lib.hid (fun e => by rcases own_types OO.out TO.out (by decide) with h | h; exact absurd h (by simp [Value.ownBlock]); exact h e)
  have X0c := Lib.hid (Bx.drew (Bx.far (X0b.out) (p := ⟨gB, kb * 2, none⟩) hgB4 (.int .i64 (bits .xor .i64 xb xa))))
  have X1c := Lib.hid (Bx.drew (Bx.far (X1b.out) (p := ⟨gB, kb * 2, none⟩) hgB5 (.int .i64 (bits .xor .i64 xb xa))))
  have X2c := Lib.hid (Bx.drew (Bx.far (X2b.out) (p := ⟨gB, kb * 2, none⟩) hgB3 (.int .i64 (bits .xor .i64 xb xa))))
  have XOc := Lib.hid (Bx.drew (Bx.far (XO.out) (p := ⟨gB, kb * 2, none⟩) hgB2 (.int .i64 (bits .xor .i64 xb xa))))
  have TOc := Lib.hid (ownsRow_drew (own_set_ne (TO.out) (p := ⟨gB, kb * 2, none⟩) HTN.out (.int .i64 (bits .xor .i64 xb xa))))
  have OOc := Lib.hid (ownsRow_drew ((World.ownsRow.stored (OO.out) (kb * 2) (.int .i64 (bits .xor .i64 xb xa))).1))
  have BWc := Lib.hid (Below.drew (Below.setCell (BW2.out) (p := ⟨gB, kb * 2, none⟩) (show w.heap.size ≤ gB by omega) (.int .i64 (bits .xor .i64 xb xa))))
  dsimp only at m0 m1 m2 m3
  have hab : kb ≠ ka := by have := okG_ne HK.out (by decide); omega
  have l1 : (cellsP o)[kb * 2 + 1]? = some (.int .i64 yb) := by rw [← OO.out.cellAt _ (by omega)]; exact m3
  have l2 : (cellsP o)[ka * 2 + 1]? = some (.int .i64 ya) := by rw [← OO.out.cellAt _ (by omega)]; exact m1
  have L1 := Lib.hid l1
  have L2 := Lib.hid l2
  clear l1 l2
  go_wp2_with fail
  go_still_tail 12, (by kernel_rfl)
  change wpList Try.prog _ _ _ _ wz.drew
  go_wp2_with fail
  clear p0 p1 p2 p3 pf0 pf1 pf2 pf3 q0 q1 q2 q3 qf0 qf1 qf2 qf3 r0 r1 r2 r3 rf0 rf1 rf2 rf3 s0 s1 s2 s3 sf0 sf1 sf2 sf3 m0 m1 m2 m3 n0 n1 n2 n3
  generalize (wz.setCell ⟨gB, kb * 2, none⟩ (.int .i64 (bits .xor .i64 xb xa))).drew = wy at X0c X1c X2c XOc TOc OOc BWc ⊢
  obtain ⟨p0, p1, p2, p3, pf0, pf1, pf2, pf3⟩ := X0c.out.four
  obtain ⟨q0, q1, q2, q3, qf0, qf1, qf2, qf3⟩ := X1c.out.four
  obtain ⟨r0, r1, r2, r3, rf0, rf1, rf2, rf3⟩ := X2c.out.four
  obtain ⟨s0, s1, s2, s3, sf0, sf1, sf2, sf3⟩ := XOc.out.four
  have m3 := (OOc.out.cellAt (kb * 2 + 1) (by omega)).trans (show ((cellsP o).set (kb * 2) (.int .i64 (bits .xor .i64 xb xa)))[kb * 2 + 1]? = some (.int .i64 yb) from by rw [List.getElem?_set_ne (by omega)]; exact L1.out)
  have m1 := (OOc.out.cellAt (ka * 2 + 1) (by omega)).trans (show ((cellsP o).set (kb * 2) (.int .i64 (bits .xor .i64 xb xa)))[ka * 2 + 1]? = some (.int .i64 ya) from by rw [List.getElem?_set_ne (by omega)]; exact L2.out)
  have n3 := OOc.out.frozenAt (kb * 2 + 1)
  have S2 := Lib.hid (OOc.out.stored (kb * 2 + 1) (.int .i64 (bits .xor .i64 yb ya)))
  have T1 := Lib.hid (own_set_ne TOc.out (p := ⟨gB, kb * 2 + 1, none⟩) HTN.out (.int .i64 (bits .xor .i64 yb ya)))
  have O1 := Lib.hid (show (wy.setCell ⟨gB, kb * 2 + 1, none⟩ (.int .i64 (bits .xor .i64 yb ya))).ownsRow w1.heap.size 88 2 (.slice (some ⟨gB, 0, none⟩) nO d2) nO (cellsP (o.set kb (bits .xor .i64 xb xa, bits .xor .i64 yb ya))) from by rw [← set_pair _ _ _ _ (by have := HOL.out; omega)]; exact S2.out.1)
  have B1w := Lib.hid (BWc.out.setCell (p := ⟨gB, kb * 2 + 1, none⟩) (show w.heap.size ≤ gB by omega) (.int .i64 (bits .xor .i64 yb ya)))
  clear hxa hxb
  go_still_tail 12, (by kernel_rfl)
  change wpList Try.prog _ _ _ _ wy.drew
  go_wp2_with fail
  refine bodyPost_ret (v := .tuple #[.agg #[.int .i64 (nO : Int), .int .i64 H, .slice A2 nT c2, .slice (some ⟨gB, 0, none⟩) nO d2], .bool true]) (by simp [results, Try.results22, go_sem, r0, r1, r2, r3]) rfl ⟨_, rfl, ⟨A2, c2, (some ⟨gB, 0, none⟩), d2, ?_, ?_, ?_⟩, ?_⟩
  rotate_left
  · rw [HTL.out]
    refine ownsRow_drew ?_
    exact ownsRow_base (own_set4 (T1.out) (by omega)) (by omega)
  · rw [HOLL.out]
    refine ownsRow_drew ?_
    exact ownsRow_base (own_set4 (O1.out) (by omega)) (by omega)
  · refine Below.drew ?_
    exact below_set4 (B1w.out) (by omega)
  · rw [HTL.out, HOLL.out]

end Go.Proofs.Ythfacfnknpomcaa
