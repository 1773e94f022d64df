/- Contract of PhasePolynomialApplyGate (spec), a theorem a way. At most 2^38 terms. -/
import Derived.Test.YthfacfnknpomcaaPolyB
import Derived.Test.YthfacfnknpomcaaPolyA
import Derived.Test.YthfacfnknpomcaaSmall
import Derived.Deep.RegionHeld3
namespace Go.Proofs.Ythfacfnknpomcaa
open Go.RowKit
set_option linter.unusedVariables false

set_option maxRecDepth 100000 in
set_option maxHeartbeats 3200000 in
theorem s_AG_r1 (N H : Int) (AT : Option Addr) (nT cT : Nat) (t : List (Int × Int)) (AO : Option Addr) (nO cO : Nat) (o : List (Int × Int)) (k a b c : Int) (w : World) (hT : RdP w AT nT t) (hO : RdP w AO nO o) (hnT : nT ≤ 274877906944) (hnO : nO ≤ 274877906944) (hcT : nT ≤ cT) (hok : okP ⟨N, H, t, o⟩ ⟨k, a, b, c⟩ = true) (h1 : (k == 1) = false) (h9 : (k == 9) = false) (h11 : (k == 11) = false) (hu0 : units k ≠ 0) (hf : (at2 o a).2 ≠ 0) :
    Calls Try.prog 20 #[.agg #[.int .i64 N, .int .i64 H, .slice AT nT cT, .slice AO nO cO], .agg #[.int .i64 k, .int .i64 a, .int .i64 b, .int .i64 c]] w (RetPB (actP ⟨N, H, t, o⟩ ⟨k, a, b, c⟩) w) := by
  have hol := hO.1
  have HT := Lib.hid hT
  have HO := Lib.hid hO
  clear hT hO
  have X0 := Lib.hid (show Bx (((w.alloc (.cells #[.int .i64 N, .int .i64 H, .slice AT nT cT, .slice AO nO cO] 31)).alloc (.cells #[.int .i64 k, .int .i64 a, .int .i64 b, .int .i64 c] 38)).alloc (.cells #[.int .i64 0, .int .i64 0, .slice none 0 0, .slice none 0 0] 31)) w.heap.size 31 #[.int .i64 N, .int .i64 H, .slice AT nT cT, .slice AO nO cO] from ((Bx.new w _ _).alloc _).alloc _)
  have X1 := Lib.hid (show Bx (((w.alloc (.cells #[.int .i64 N, .int .i64 H, .slice AT nT cT, .slice AO nO cO] 31)).alloc (.cells #[.int .i64 k, .int .i64 a, .int .i64 b, .int .i64 c] 38)).alloc (.cells #[.int .i64 0, .int .i64 0, .slice none 0 0, .slice none 0 0] 31)) (w.heap.size + 1) 38 #[.int .i64 k, .int .i64 a, .int .i64 b, .int .i64 c] from (Bx.new' (by simp)).alloc _)
  have X2 := Lib.hid (show Bx (((w.alloc (.cells #[.int .i64 N, .int .i64 H, .slice AT nT cT, .slice AO nO cO] 31)).alloc (.cells #[.int .i64 k, .int .i64 a, .int .i64 b, .int .i64 c] 38)).alloc (.cells #[.int .i64 0, .int .i64 0, .slice none 0 0, .slice none 0 0] 31)) (w.heap.size + 1 + 1) 31 #[.int .i64 0, .int .i64 0, .slice none 0 0, .slice none 0 0] from Bx.new' (by simp))
  have BZ : Hid (Below w.heap.size w (((w.alloc (.cells #[.int .i64 N, .int .i64 H, .slice AT nT cT, .slice AO nO cO] 31)).alloc (.cells #[.int .i64 k, .int .i64 a, .int .i64 b, .int .i64 c] 38)).alloc (.cells #[.int .i64 0, .int .i64 0, .slice none 0 0, .slice none 0 0] 31))) := Lib.hid ((((Below.refl _ _).alloc (Nat.le_refl _) _).alloc (by simp) _).alloc (by simp <;> omega) _)
  obtain ⟨hk, hN⟩ := okP_parts hok
  dsimp only at hk hN
  obtain ⟨_, hN4, ha0, haN, hb0, hbN⟩ := okG_abn hk
  have HK := Lib.hid hk
  obtain ⟨ka, hka⟩ : ∃ k : Nat, a = k := ⟨a.toNat, by omega⟩
  obtain ⟨kb, hkb⟩ : ∃ k : Nat, b = k := ⟨b.toNat, by omega⟩
  rw [hol] at hN
  subst hN
  have HOL := Lib.hid hol
  have hkan : ka < nO := by omega
  have hkbn : kb < nO := by omega
  have hka0 : (0 : Int) ≤ (ka : Int) := by omega
  have hkaI : (ka : Int) < (nO : Int) := by omega
  have hkb0 : (0 : Int) ≤ (kb : Int) := by omega
  have hkbI : (kb : Int) < (nO : Int) := by omega
  have hnOO : ((nO : Int) != (nO : Int)) = false := by simp
  subst hka hkb
  clear hok hk hol ha0 haN hb0 hbN
  obtain ⟨xa, ya, hxa⟩ : ∃ x y, o.getD ka (0, 0) = (x, y) := ⟨_, _, rfl⟩
  have HXA : Hid (at2 o (ka : Int) = (xa, ya)) := Lib.hid (by unfold at2; rw [Int.toNat_natCast]; exact hxa)
  obtain ⟨u, hu⟩ : ∃ u, units k = u := ⟨_, rfl⟩
  have hub := units_bd k
  rw [hu] at hub hu0
  have hu1 : 0 < u := by omega
  have hu8 : u ≤ 7 := hub.2
  have HU := Lib.hid hu
  have hya : (ya == 0) = false := by rw [HXA.out] at hf; simpa using hf
  have HYA := Lib.hid hya
  have HOLL := HOL
  have HACT : actP ⟨(nO : Int), H, t, o⟩ ⟨k, (ka : Int), (kb : Int), c⟩ = (⟨(nO : Int), (H + u) % 8, addT t xa (-u), o⟩, true) := by
    unfold actP
    rw [if_neg (by rw [h1]; simp), if_neg (by rw [h9]; simp), if_neg (by rw [h11]; simp)]
    rw [if_neg (by show ¬ (units k == 0) = true; rw [hu]; simpa using hu0), HXA.out, hu]
    rw [if_neg (by rw [hya]; simp)]
  rw [HACT]
  clear HACT hu hub hu0 hf
  go_enter Try.func20, Try.ntmps20
  go_wp2_with fail
  refine (s_IsValidGate _ _ _ _ _ _).mono ?_
  rintro e w1 ⟨rfl, b1⟩
  rw [HK.out]
  have X0a := Lib.hid (X0.out.below b1)
  have X1a := Lib.hid (X1.out.below b1)
  have X2a := Lib.hid (X2.out.below b1)
  have B1 := Lib.hid (below_trans BZ.out b1)
  have hl2 : w.heap.size + 1 + 1 < w1.heap.size := X2a.out.lt
  have hl1 : w.heap.size + 1 < w1.heap.size := by omega
  have hl0 : w.heap.size < w1.heap.size := by omega
  clear b1 X0 X1 X2 BZ
  obtain ⟨p0, p1, p2, p3, pf0, pf1, pf2, pf3⟩ := X0a.out.four
  obtain ⟨q0, q1, q2, q3, qf0, qf1, qf2, qf3⟩ := X1a.out.four
  obtain ⟨r0, r1, r2, r3, rf0, rf1, rf2, rf3⟩ := X2a.out.four
  go_wp2_with fail
  refine (s_l32Copy _ _ _ _ _ t _ _ _ o _ (HT.out.below B1.out) (HO.out.below B1.out) (by omega) (by omega)).mono ?_
  rintro e w2 ⟨v, rfl, ⟨A2, c2, B2, d2, rfl, t2, o2⟩, b2⟩
  rw [HT.out.1] at t2 ⊢
  rw [HO.out.1] at o2 ⊢
  have X0b := Lib.hid ((X0a.out.below b2).alloc (.cells #[.int .i64 (nO : Int), .int .i64 H, .slice A2 nT c2, .slice B2 nO d2] 31))
  have X1b := Lib.hid ((X1a.out.below b2).alloc (.cells #[.int .i64 (nO : Int), .int .i64 H, .slice A2 nT c2, .slice B2 nO d2] 31))
  have X2b := Lib.hid ((X2a.out.below b2).alloc (.cells #[.int .i64 (nO : Int), .int .i64 H, .slice A2 nT c2, .slice B2 nO d2] 31))
  have XO := Lib.hid (Bx.new w2 31 #[.int .i64 (nO : Int), .int .i64 H, .slice A2 nT c2, .slice B2 nO d2])
  have TO := Lib.hid (t2.alloc (.cells #[.int .i64 (nO : Int), .int .i64 H, .slice A2 nT c2, .slice B2 nO d2] 31))
  have OO := Lib.hid (o2.alloc (.cells #[.int .i64 (nO : Int), .int .i64 H, .slice A2 nT c2, .slice B2 nO d2] 31))
  have BW2 := Lib.hid (show Below w.heap.size w (w2.alloc (.cells #[.int .i64 (nO : Int), .int .i64 H, .slice A2 nT c2, .slice B2 nO d2] 31)) from (below_trans B1.out b2).alloc (below_trans B1.out b2).size _)
  have hbg : w1.heap.size ≤ w2.heap.size := b2.size
  clear p0 p1 p2 p3 pf0 pf1 pf2 pf3 q0 q1 q2 q3 qf0 qf1 qf2 qf3 r0 r1 r2 r3 rf0 rf1 rf2 rf3
  obtain ⟨p0, p1, p2, p3, _⟩ := (X0a.out.below b2).four
  obtain ⟨q0, q1, q2, q3, _⟩ := (X1a.out.below b2).four
  obtain ⟨r0, r1, r2, r3, _⟩ := (X2a.out.below b2).four
  have hv0 : w.heap.size < w2.heap.size := by omega
  have hv1 : w.heap.size + 1 < w2.heap.size := by omega
  have hv2 : w.heap.size + 1 + 1 < w2.heap.size := by omega
  clear t2 o2 b2 X0a X1a X2a
  go_wp2_with fail
  clear p0 p1 p2 p3 q0 q1 q2 q3 r0 r1 r2 r3
  generalize w2.alloc (.cells #[.int .i64 (nO : Int), .int .i64 H, .slice A2 nT c2, .slice B2 nO d2] 31) = wz at X0b X1b X2b XO TO OO BW2 ⊢
  generalize w2.heap.size = gp at XO hbg ⊢
  have HOz := Lib.hid (HO.out.below BW2.out)
  have HTz := Lib.hid (HT.out.below BW2.out)
  obtain ⟨p0, p1, p2, p3, pf0, pf1, pf2, pf3⟩ := X0b.out.four
  obtain ⟨q0, q1, q2, q3, qf0, qf1, qf2, qf3⟩ := X1b.out.four
  obtain ⟨r0, r1, r2, r3, rf0, rf1, rf2, rf3⟩ := X2b.out.four
  obtain ⟨s0, s1, s2, s3, sf0, sf1, sf2, sf3⟩ := XO.out.four
  have hz0 := X0b.out.lt
  have hz1 := X1b.out.lt
  have hz2 := X2b.out.lt
  have hzg := XO.out.lt
  have hz2x : w.heap.size + 1 + 1 < wz.heap.size + 1 := by omega
  have hgr : gp ≠ w.heap.size + 1 + 1 := by omega
  have hgr' : w.heap.size + 1 + 1 ≠ gp := by omega
  have hg0 : gp ≠ w.heap.size := by omega
  have hg1 : gp ≠ w.heap.size + 1 := by omega
  refine (s_RotationUnits _ _).mono ?_
  rintro e w' ⟨rfl, rfl⟩
  rw [HU.out]
  obtain ⟨bo, off, rfl, hbo, e0, e1⟩ := rd2At HOz.out hkan
  rw [hxa] at e0 e1
  dsimp only at e0 e1
  go_wp2_with fail
  refine (s_l32Rest _ _).mono ?_
  rintro e w' ⟨rfl, rfl⟩
  rw [wrap_mod8]
  go_wp2_with fail
  have X0c := Lib.hid ((X0b.out.far (p := ⟨gp, 1, none⟩) (by show w.heap.size ≠ gp; omega) (.int .i64 ((H + u) % 8))).alloc (.cells #[.int .i64 xa, .int .i64 ya] 88))
  have X2c := Lib.hid ((X2b.out.far (p := ⟨gp, 1, none⟩) (by show w.heap.size + 1 + 1 ≠ gp; omega) (.int .i64 ((H + u) % 8))).alloc (.cells #[.int .i64 xa, .int .i64 ya] 88))
  have XOc := Lib.hid ((XO.out.s1 (.int .i64 ((H + u) % 8))).alloc (.cells #[.int .i64 xa, .int .i64 ya] 88))
  have OOc := Lib.hid ((own_set_ne OO.out (p := ⟨gp, 1, none⟩) (own_bx_ne OO.out XO.out (by decide)) (.int .i64 ((H + u) % 8))).alloc (.cells #[.int .i64 xa, .int .i64 ya] 88))
  have BWc := Lib.hid ((BW2.out.setCell (p := ⟨gp, 1, none⟩) (show w.heap.size ≤ gp by omega) (.int .i64 ((H + u) % 8))).alloc (by simp [World.setCell]; omega) (.cells #[.int .i64 xa, .int .i64 ya] 88))
  have XAc := Lib.hid (show Bx ((wz.setCell ⟨gp, 1, none⟩ (.int .i64 ((H + u) % 8))).alloc (.cells #[.int .i64 xa, .int .i64 ya] 88)) wz.heap.size 88 #[.int .i64 xa, .int .i64 ya] from Bx.new' (by simp [World.setCell]))
  have HTc := Lib.hid (HT.out.below BWc.out)
  have hsz : ((wz.setCell ⟨gp, 1, none⟩ (.int .i64 ((H + u) % 8))).alloc (.cells #[.int .i64 xa, .int .i64 ya] 88)).heap.size = wz.heap.size + 1 := by simp [World.setCell]
  clear p0 p1 p2 p3 pf0 pf1 pf2 pf3 q0 q1 q2 q3 qf0 qf1 qf2 qf3 r0 r1 r2 r3 rf0 rf1 rf2 rf3 s0 s1 s2 s3 sf0 sf1 sf2 sf3 e0 e1 X0b X1b X2b XO TO OO HOz HTz BW2
  generalize (wz.setCell ⟨gp, 1, none⟩ (.int .i64 ((H + u) % 8))).alloc (.cells #[.int .i64 xa, .int .i64 ya] 88) = wy at X0c X2c XOc OOc HTc BWc XAc hsz ⊢
  have hga : gp < wz.heap.size := hzg
  have hgz : w.heap.size + 1 + 1 < wz.heap.size := hz2
  have hw0 : w.heap.size < wz.heap.size := hz0
  clear hz0 hz1 hz2 hzg hz2x
  generalize wz.heap.size = ga at XAc hga hgz hw0 hsz ⊢
  obtain ⟨p0, p1, p2, p3, _⟩ := X0c.out.four
  obtain ⟨a0, a1, _⟩ := XAc.out.two
  have hzz0 := X0c.out.lt
  have hzza := XAc.out.lt
  have hzzg := XOc.out.lt
  have hwu : IntKind.i64.wrap (-u) = -u := IntWalk.i64_in _ (by omega)
  have hwu' : wrap64 (-u) = -u := by unfold wrap64; omega
  have hne1 : w.heap.size ≠ gp := by omega
  have hne2 : ga ≠ gp := by omega
  go_region_held3 (fun w' => w'.cell? ⟨w.heap.size, 2, none⟩ = some (.slice AT nT cT) ∧ w'.cell? ⟨ga, 0, none⟩ = some (.int .i64 xa))
    (first | exact ⟨y2, ya0⟩ | exact ⟨p2, a0⟩ | exact ⟨((X0c.out.below b5).far (p := ⟨gp, 2, none⟩) hne1 _).four.2.2.1, ((XAc.out.below b5).far (p := ⟨gp, 2, none⟩) hne2 _).two.1⟩ | go_keep)
    (first
      | (go_at_call 81; (with_reducible refine (s_l32Rest _ _).mono ?_); rintro e w' ⟨rfl, rfl⟩)
      | (go_at_call 80; (with_reducible refine (s_l32Add AT nT cT t xa _ _ (RdP.drew HTc.out) (by omega) hcT).mono ?_); rintro e w5 ⟨A5, c5, rfl, o5, b5'⟩; have b5 := below_drew b5'; have ⟨_, _, y2, _, _⟩ := (X0c.out.below b5).four; have ⟨ya0, _⟩ := (XAc.out.below b5).two; have ⟨s0, s1, s2, s3, sf0, sf1, sf2, sf3⟩ := (XOc.out.below b5).four; have ⟨r0, r1, r2, r3, rf0, rf1, rf2, rf3⟩ := (X2c.out.below b5).four)
      | fail)
  have XOe := Lib.hid (XOc.out.below b5)
  have OOe := Lib.hid (ownsRow_below OOc.out b5)
  have BWe := Lib.hid (below_trans BWc.out b5)
  have hs5 := b5.size
  rw [addT_mod t xa ((-u) % 8) (-u) (by omega)] at o5 ⊢
  have T1 := Lib.hid (ownsRow_base (own_set o5 (p := ⟨gp, 2, none⟩) (by show gp < wy.heap.size; omega) (.slice A5 (addT t xa (-u)).length c5)) (show w1.heap.size ≤ wy.heap.size by omega))
  have O1 := Lib.hid (own_set_ne OOe.out (p := ⟨gp, 2, none⟩) (own_bx_ne OOe.out XOe.out (by decide)) (.slice A5 (addT t xa (-u)).length c5))
  have B1w := Lib.hid (BWe.out.setCell (p := ⟨gp, 2, none⟩) (show w.heap.size ≤ gp by omega) (.slice A5 (addT t xa (-u)).length c5))
  go_wp2_with fail
  refine bodyPost_ret (v := .tuple #[.agg #[.int .i64 (nO : Int), .int .i64 ((H + u) % 8), .slice A5 (addT t xa (-u)).length c5, .slice B2 nO d2], .bool true]) (by simp [results, Try.results20, go_sem, r0, r1, r2, r3]) rfl ⟨_, rfl, ⟨A5, c5, B2, d2, ?_, ?_, ?_⟩, ?_⟩
  rotate_left
  · skip
    exact ownsRow_base (own_set4 (T1.out) (by omega)) (by omega)
  · rw [HOLL.out]
    exact ownsRow_base (own_set4 (O1.out) (by omega)) (by omega)
  · exact below_set4 (B1w.out) (by omega)
  · rw [HOLL.out]

end Go.Proofs.Ythfacfnknpomcaa
