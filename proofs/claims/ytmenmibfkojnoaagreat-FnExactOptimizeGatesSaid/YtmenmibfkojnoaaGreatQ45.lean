/- Contract of rotate (impl). At most 2^38 terms. -/
import Derived.Test.YtmenmibfkojnoaaGreatQ42
import Derived.Test.YtmenmibfkojnoaaGreatQ44
import Derived.Laws.BitsLemmas
set_option maxHeartbeats 16000000
namespace Go.Proofs.YtmenmibfkojnoaaGreat
open Go.RowKit
set_option linter.unusedVariables false
def PAt (W : World) (gp base : Nat) (N H : Int) (t o : List (Int × Int)) : Prop :=
 ∃ (A : Option Addr) (c : Nat) (B : Option Addr) (d : Nat), Bx W gp 88 #[.int .i64 N, .int .i64 H, .slice A t.length c, .slice B o.length d] /\ W.ownsRow base 128 2 (.slice A t.length c) t.length (cellsP t) /\ W.ownsRow base 93 2 (.slice B o.length d) o.length (cellsP o)
theorem PAt.below {W W' : World} {gp base : Nat} {N H : Int} {t o : List (Int × Int)} (h : PAt W gp base N H t o) (hb : Below W.heap.size W W') : PAt W' gp base N H t o := by
 obtain ⟨A, c, B, d, h1, h2, h3⟩ := h
 exact ⟨A, c, B, d, h1.below hb, ownsRow_below h2 hb, ownsRow_below h3 hb⟩
theorem wrapk_eq (n : Int) : IntKind.i64.wrap n = wrap64 n := by rw [IntKind.wrap_i64]; unfold wrap64; omega
theorem wrapk_mod8 (n : Int) : IntKind.i64.wrap n % 8 = n % 8 := by rw [IntKind.wrap_i64]; omega
theorem rd_l2 (c : Array Value) (W : World) (e : TypeId) (x y : Value) : Rd ((W.alloc (.cells c e)).alloc (.cells #[x, y] e)) 2 (some ⟨W.heap.size + 1, 0, none⟩) 1 [x, y] := by
 have := Rd.lit (W.alloc (.cells c e)) e #[x, y] 1 2 rfl
 rw [World.size_alloc] at this
 exact this
def rotT (t : List (Int × Int)) (p : Int × Int) (u : Int) : List (Int × Int) := if (p.2 == 0) = true then addT t p.1 u else addT t p.1 (-u)
def rotH (H : Int) (p : Int × Int) (u : Int) : Int := if (p.2 == 0) = true then H else (H + u) % 8
set_option maxRecDepth 100000 in
theorem i_rotate0 (gp base : Nat) (N H : Int) (t o : List (Int × Int)) (m u : Int) (w : World) (hp : PAt w gp base N H t o) (hb : base <= w.heap.size) (hbg : base <= gp) (hn : t.length <= 274877906944)  :
  Calls Tryz.prog 125 #[.pointer (some ⟨gp, 0, none⟩), .agg #[.int .i64 m, .int .i64 0], .int .i64 u] w fun e w' => e = .returned (.tuple #[]) /\ PAt w' gp base N H (addT t m u) o /\ Below base w w' := by
 obtain ⟨A, c, B, d, hx, ht, ho⟩ := hp
 obtain ⟨n, hnl⟩ : ∃ n, t.length = n := ⟨_, rfl⟩
 obtain ⟨no, hno⟩ : ∃ n, o.length = n := ⟨_, rfl⟩
 rw [hnl] at hx ht hn
 rw [hno] at hx ho
 have HNO := zH hno
 have HNL := zH hnl
 have HX := zH (hx.alloc (.cells #[.int .i64 m, .int .i64 0] 93))
 have HT := zH (ht.alloc (.cells #[.int .i64 m, .int .i64 0] 93))
 have HO := zH (ho.alloc (.cells #[.int .i64 m, .int .i64 0] 93))
 have XL := zH (Bx.new w 93 #[.int .i64 m, .int .i64 0])
 have hgp := hx.lt
 have BW := zH (show Below base w (w.alloc (.cells #[.int .i64 m, .int .i64 0] 93)) from (zW).alloc hb _)
 have hb1 : base <= (w.alloc (.cells #[.int .i64 m, .int .i64 0] 93)).heap.size := by simp; omega
 obtain ⟨R, hR⟩ : ∃ R, addT t m u = R := ⟨_, rfl⟩
 have HR := zH hR
 rw [hR]
 obtain ⟨ka, hka⟩ : ∃ k, atT t m = k := ⟨_, rfl⟩
 have HKA := zH hka
 have HKL := zH (show ka < (withT t m).length from by rw [<- hka]; exact atT_lt t m)
 have hWL := (withT_len t m).2
 have hkaL0 := HKL.out
 obtain ⟨LL, hLL⟩ : ∃ k, (withT t m).length = k := ⟨_, rfl⟩
 rw [hLL, hnl] at hWL
 rw [hLL] at hkaL0
 have hka0 : (0 : Int) <= (ka : Int) := by omega
 have hkaI : (ka : Int) < (LL : Int) := by omega
 have HLL := zH hLL
 clear hx ht ho hnl hno hR hka hLL
 go_enter Tryz.func125, Tryz.ntmps125
 go_wp2_with fail
 refine (i_termAt gp base N H A n c t _ m _ HX.out HT.out hb1 (by omega)).mono ?_
 rintro e w1 ⟨A1, c1, rfl, x1, t1, g1⟩
 rw [HKA.out]
 rw [HLL.out] at x1 t1
 have O1 := zH (HO.out.kept g1 (.inr (fun e => own_bx_ne HO.out HX.out (by decide) e.symm)))
 have XL1 := zH (XL.out.grown g1 (by intro e; injection e; omega))
 have B1 := zH (show Below base w w1 from BW.out.grown g1 hb1 (fun k hk => by injection hk; omega))
 have hs1 : w.heap.size < w1.heap.size := XL1.out.lt
 have hg1 : gp < w1.heap.size := x1.lt
 have hngl : w.heap.size ≠ gp := by omega
 obtain ⟨p0, p1, p2, p3, f0, f1, f2, f3⟩ := x1.four
 obtain ⟨l0, l1, _⟩ := XL1.out.two
 have X1 := zH x1
 have T1 := zH t1
 clear x1 t1
 go_wp2_with fail
 have x2 := X1.out
 have t2 := T1.out
 have O2 := O1
 have B2 := B1
 clear X1 T1 O1 B1 XL1 p0 p1 p2 p3 f0 f1 f2 f3 l0 l1
 generalize w1 = wz at x2 t2 O2 B2 ⊢
 have X2 := zH x2
 have hgz : gp < wz.heap.size := x2.lt
 obtain ⟨p0, p1, p2, p3, f0, f1, f2, f3⟩ := x2.four
 have HP := bump_prep ka u _ t2 HKL.out B2.out zR
 obtain ⟨gx, x, y, rfl, e0, e1, z1, hgx, hL, SO, SB, SG⟩ := HP
 have hngx : gx ≠ gp := by have := own_bx_ne t2 x2 (by decide); intro e; exact this (by rw [e]; rfl)
 have hngx' : gp ≠ gx := fun e => hngx e.symm
 have OT := zH (O2.out.kept SG (own_types O2.out t2 (by decide)))
 have XT := zH (X2.out.far (p := ⟨gx, ka * 2 + 1, none⟩) hngx' (.int .i64 ((y + u) % 8)))
 clear x2 t2 O2 B2 SG hngl
 go_still_tail 18, (by kernel_rfl)
 still_call ((i_mod8 _ _).mono fun _ _ h => ⟨h.1, h.2.symm⟩)
 repeat still_step
 refine wpStill_nil ?_
 change wpList Tryz.prog _ _ _ _ wz.drew
 rw [wrapk_mod8]
 rw [wrapk_eq]
 skip
 obtain ⟨b, hb'⟩ : ∃ b, bump (withT t m) ka u = b := ⟨_, rfl⟩
 rw [hb'] at SO
 have HBL : Hid (b.length = LL) := zH (by rw [<- hb', bump_len, HLL.out])
 have HRB : Hid (nz b = R) := zH (by rw [<- hb', <- HR.out]; unfold addT; rw [HKA.out])
 have SR := zH (RdP.own SO.out)
 clear hb'
 go_wp2_with fail
 clear e0 e1 z1 p0 p1 p2 p3 f0 f1 f2 f3 X2
 obtain ⟨wy, hwy⟩ : ∃ wy, wy = wz.setCell ⟨gx, ka * 2 + 1, none⟩ (.int .i64 ((y + u) % 8)) := ⟨_, rfl⟩
 rw [<- hwy] at SR SB SO OT XT ⊢
 have HSY : Hid (wy.heap.size = wz.heap.size) := zH (by rw [hwy]; simp [World.setCell])
 clear hwy
 have hgy : gp < wy.heap.size := XT.out.lt
 go_loopg [7, 69] LL (fun r v i wr => ∃ (k q : Nat) (A0 : Option Addr) (c0 : Nat), k + r = LL /\ i = .int .i64 k /\ v = .slice A0 q c0 /\ q <= k /\ (nz (b.take k)).length = q /\ wr.ownsRow wy.heap.size 128 2 (.slice A0 q c0) q (cellsP (nz (b.take k))) /\ Below wy.heap.size wy wr)
 case atStart => exact ⟨0, 0, _, _, by omega, rfl, rfl, zR, by simp [nz], by rw [<- HSY.out]; simpa [nz, cellsP] using ownsRow_drew (World.ownsRow_lit wy #[] 0 (size := 2) (e := 128) zR (by simp [maxLen]) rfl), ((zW).alloc zR _).drew⟩
 case round =>
  obtain ⟨k, q, A0, c0, hk, rfl, rfl, hqk, hq, ho, hbw⟩ := hrel
  have HQ := zH hq
  have HO := zH ho
  have HB := zH hbw
  have hbs := hbw.size
  clear hq ho hbw
  by_cases hlt : k < LL
  ·obtain ⟨bb, off, u', v, hA, hBb, hd, d0, d1⟩ := (SR.out.below HB.out).at_ hlt
   injection hA with hA
   injection hA with hA1 hA2 _
   subst hA1 hA2
   rw [Nat.zero_add] at d0 d1
   have HD := zH hd
   have HN : Hid (nz (b.take (k + 1)) = nz (b.take k) ++ (if (v == 0) = true then [] else [(u', v)])) := zH (by rw [take_snoc HD.out, nz_snoc])
   have hkI : (k : Int) < (LL : Int) := by omega
   have hk0 : (0 : Int) <= (k : Int) := by omega
   clear hd
   by_cases hv : v = 0
   ·subst hv
    go_wp2_with fail
    go_roundg (gk - 1)
    case measure => omega
    case rel => exact ⟨k + 1, q, A0, c0, by omega, by go_num, rfl, by omega, by rw [HN.out]; simpa using HQ.out, by rw [HN.out]; simpa using World.ownsRow.alloc HO.out _, HB.out.alloc hbs _⟩
   ·have hv1 : (v == 0) = false := by simpa using hv
    have HV := zH hv1
    have hv2 : (v != 0) = true := by simp [bne, hv1]
    have DA := zH ((HO.out.alloc (.cells #[.int .i64 u', .int .i64 v] 128)).alloc (.cells #[.int .i64 u', .int .i64 v] 128))
    go_wp2_with (at_builtin; refine wpList_app rfl (.tmp 76) (.tmp 78) 85 rfl Tryz.underlying85 infoPhaseTerm rfl (by decide) rfl DA.out rfl (rd_l2 _ wr 128 _ _) (by simp [Value.oneCell']) (by omega) (by decide) (by simp <;> omega) ?_; intro A5 c5 w5 o5 g5)
    go_roundg (gk - 1)
    case measure => omega
    case rel =>
     refine ⟨k + 1, q + 1, A5, c5, by omega, by go_num, rfl, by omega, by rw [HN.out, HV.out]; simp [HQ.out], ?_, below_grown ((HB.out.alloc hbs _).alloc (by simp; omega) _) (by simp; omega) DA.out zR g5⟩
     rw [HN.out, HV.out]
     rw [show nz (b.take k) ++ (if false = true then [] else [(u', v)]) = nz (b.take k) ++ [(u', v)] from rfl, cellsP_append]
     exact o5
  ·have hkL : k = LL := by omega
   have XE := zH (XT.out.below HB.out)
   obtain ⟨p0, p1, p2, p3, f0, f1, f2, f3⟩ := XE.out.four
   go_wp2_with fail
   have e : nz (b.take k) = R := by rw [List.take_of_length_le (by have := HBL.out; omega), HRB.out]
   have HOO := HO.out
   have HQQ := HQ.out
   rw [e] at HOO HQQ
   subst HQQ
   have hbz : base <= wy.heap.size := by have := SB.out.size; omega
   have e1 : some gp ≠ (Value.slice A0 R.length c0).ownBlock := by intro e; have := (HOO.lt gp e.symm).1; omega
   go_end0
   refine ⟨rfl, ⟨A0, c0, B, d, by rw [HNO.out]; exact XE.out.s2 _, own_set_ne (ownsRow_base HOO hbz) e1 _, by rw [HNO.out]; exact own_set_ne (ownsRow_below OT.out HB.out) (own_bx_ne (ownsRow_below OT.out HB.out) XE.out (by decide)) _⟩, (SB.out.trans (HB.out.mono hbz)).setCell (show base <= gp from hbg) _⟩
set_option maxRecDepth 100000 in
theorem i_rotate1 (gp base : Nat) (N H : Int) (t o : List (Int × Int)) (m f u : Int) (w : World) (hp : PAt w gp base N H t o) (hb : base <= w.heap.size) (hbg : base <= gp) (hn : t.length <= 274877906944) (hf : (f == 0) = false) :
  Calls Tryz.prog 125 #[.pointer (some ⟨gp, 0, none⟩), .agg #[.int .i64 m, .int .i64 f], .int .i64 u] w fun e w' => e = .returned (.tuple #[]) /\ PAt w' gp base N ((H + u) % 8) (addT t m (-u)) o /\ Below base w w' := by
 obtain ⟨A, c, B, d, hx, ht, ho⟩ := hp
 obtain ⟨n, hnl⟩ : ∃ n, t.length = n := ⟨_, rfl⟩
 obtain ⟨no, hno⟩ : ∃ n, o.length = n := ⟨_, rfl⟩
 rw [hnl] at hx ht hn
 rw [hno] at hx ho
 have HNO := zH hno
 have HNL := zH hnl
 have HX := zH (hx.alloc (.cells #[.int .i64 m, .int .i64 f] 93))
 have HT := zH (ht.alloc (.cells #[.int .i64 m, .int .i64 f] 93))
 have HO := zH (ho.alloc (.cells #[.int .i64 m, .int .i64 f] 93))
 have XL := zH (Bx.new w 93 #[.int .i64 m, .int .i64 f])
 have hgp := hx.lt
 have BW := zH (show Below base w (w.alloc (.cells #[.int .i64 m, .int .i64 f] 93)) from (zW).alloc hb _)
 have hb1 : base <= (w.alloc (.cells #[.int .i64 m, .int .i64 f] 93)).heap.size := by simp; omega
 obtain ⟨R, hR⟩ : ∃ R, addT t m (-u) = R := ⟨_, rfl⟩
 have HR := zH hR
 rw [hR]
 obtain ⟨ka, hka⟩ : ∃ k, atT t m = k := ⟨_, rfl⟩
 have HKA := zH hka
 have HKL := zH (show ka < (withT t m).length from by rw [<- hka]; exact atT_lt t m)
 have hWL := (withT_len t m).2
 have hkaL0 := HKL.out
 obtain ⟨LL, hLL⟩ : ∃ k, (withT t m).length = k := ⟨_, rfl⟩
 rw [hLL, hnl] at hWL
 rw [hLL] at hkaL0
 have hka0 : (0 : Int) <= (ka : Int) := by omega
 have hkaI : (ka : Int) < (LL : Int) := by omega
 have HLL := zH hLL
 clear hx ht ho hnl hno hR hka hLL
 go_enter Tryz.func125, Tryz.ntmps125
 go_wp2_with fail
 refine (i_termAt gp base N H A n c t _ m _ HX.out HT.out hb1 (by omega)).mono ?_
 rintro e w1 ⟨A1, c1, rfl, x1, t1, g1⟩
 rw [HKA.out]
 rw [HLL.out] at x1 t1
 have O1 := zH (HO.out.kept g1 (.inr (fun e => own_bx_ne HO.out HX.out (by decide) e.symm)))
 have XL1 := zH (XL.out.grown g1 (by intro e; injection e; omega))
 have B1 := zH (show Below base w w1 from BW.out.grown g1 hb1 (fun k hk => by injection hk; omega))
 have hs1 : w.heap.size < w1.heap.size := XL1.out.lt
 have hg1 : gp < w1.heap.size := x1.lt
 have hngl : w.heap.size ≠ gp := by omega
 obtain ⟨p0, p1, p2, p3, f0, f1, f2, f3⟩ := x1.four
 obtain ⟨l0, l1, _⟩ := XL1.out.two
 have X1 := zH x1
 have T1 := zH t1
 clear x1 t1
 go_wp2_with fail
 refine (i_mod8 _ _).mono ?_
 rintro e wq ⟨rfl, rfl⟩
 rw [wrap_mod8]
 go_wp2_with fail
 have x2 := X1.out.s1 (.int .i64 ((H + u) % 8))
 have t2 := own_set_ne T1.out (p := ⟨gp, 1, none⟩) (own_bx_ne T1.out X1.out (by decide)) (.int .i64 ((H + u) % 8))
 have O2 := zH (own_set_ne O1.out (p := ⟨gp, 1, none⟩) (own_bx_ne O1.out X1.out (by decide)) (.int .i64 ((H + u) % 8)))
 have B2 := zH (B1.out.setCell (p := ⟨gp, 1, none⟩) (show base <= gp from hbg) (.int .i64 ((H + u) % 8)))
 clear X1 T1 O1 B1 XL1 p0 p1 p2 p3 f0 f1 f2 f3 l0 l1
 generalize w1.setCell ⟨gp, 1, none⟩ (.int .i64 ((H + u) % 8)) = wz at x2 t2 O2 B2 ⊢
 have X2 := zH x2
 have hgz : gp < wz.heap.size := x2.lt
 obtain ⟨p0, p1, p2, p3, f0, f1, f2, f3⟩ := x2.four
 have HP := bump_prep ka (-u) _ t2 HKL.out B2.out zR
 obtain ⟨gx, x, y, rfl, e0, e1, z1, hgx, hL, SO, SB, SG⟩ := HP
 have hngx : gx ≠ gp := by have := own_bx_ne t2 x2 (by decide); intro e; exact this (by rw [e]; rfl)
 have hngx' : gp ≠ gx := fun e => hngx e.symm
 have OT := zH (O2.out.kept SG (own_types O2.out t2 (by decide)))
 have XT := zH (X2.out.far (p := ⟨gx, ka * 2 + 1, none⟩) hngx' (.int .i64 ((y + (-u)) % 8)))
 clear x2 t2 O2 B2 SG hngl
 go_still_tail 18, (by kernel_rfl)
 still_call ((i_mod8 _ _).mono fun _ _ h => ⟨h.1, h.2.symm⟩)
 repeat still_step
 refine wpStill_nil ?_
 change wpList Tryz.prog _ _ _ _ wz.drew
 rw [wrapk_mod8]
 rw [wrapk_eq]
 simp only [<- Int.sub_eq_add_neg] at SO SB OT XT
 obtain ⟨b, hb'⟩ : ∃ b, bump (withT t m) ka (-u) = b := ⟨_, rfl⟩
 rw [hb'] at SO
 have HBL : Hid (b.length = LL) := zH (by rw [<- hb', bump_len, HLL.out])
 have HRB : Hid (nz b = R) := zH (by rw [<- hb', <- HR.out]; unfold addT; rw [HKA.out])
 have SR := zH (RdP.own SO.out)
 clear hb'
 go_wp2_with fail
 clear e0 e1 z1 p0 p1 p2 p3 f0 f1 f2 f3 X2
 obtain ⟨wy, hwy⟩ : ∃ wy, wy = wz.setCell ⟨gx, ka * 2 + 1, none⟩ (.int .i64 ((y - u) % 8)) := ⟨_, rfl⟩
 rw [<- hwy] at SR SB SO OT XT ⊢
 have HSY : Hid (wy.heap.size = wz.heap.size) := zH (by rw [hwy]; simp [World.setCell])
 clear hwy
 have hgy : gp < wy.heap.size := XT.out.lt
 go_loopg [7, 69] LL (fun r v i wr => ∃ (k q : Nat) (A0 : Option Addr) (c0 : Nat), k + r = LL /\ i = .int .i64 k /\ v = .slice A0 q c0 /\ q <= k /\ (nz (b.take k)).length = q /\ wr.ownsRow wy.heap.size 128 2 (.slice A0 q c0) q (cellsP (nz (b.take k))) /\ Below wy.heap.size wy wr)
 case atStart => exact ⟨0, 0, _, _, by omega, rfl, rfl, zR, by simp [nz], by rw [<- HSY.out]; simpa [nz, cellsP] using ownsRow_drew (World.ownsRow_lit wy #[] 0 (size := 2) (e := 128) zR (by simp [maxLen]) rfl), ((zW).alloc zR _).drew⟩
 case round =>
  obtain ⟨k, q, A0, c0, hk, rfl, rfl, hqk, hq, ho, hbw⟩ := hrel
  have HQ := zH hq
  have HO := zH ho
  have HB := zH hbw
  have hbs := hbw.size
  clear hq ho hbw
  by_cases hlt : k < LL
  ·obtain ⟨bb, off, u', v, hA, hBb, hd, d0, d1⟩ := (SR.out.below HB.out).at_ hlt
   injection hA with hA
   injection hA with hA1 hA2 _
   subst hA1 hA2
   rw [Nat.zero_add] at d0 d1
   have HD := zH hd
   have HN : Hid (nz (b.take (k + 1)) = nz (b.take k) ++ (if (v == 0) = true then [] else [(u', v)])) := zH (by rw [take_snoc HD.out, nz_snoc])
   have hkI : (k : Int) < (LL : Int) := by omega
   have hk0 : (0 : Int) <= (k : Int) := by omega
   clear hd
   by_cases hv : v = 0
   ·subst hv
    go_wp2_with fail
    go_roundg (gk - 1)
    case measure => omega
    case rel => exact ⟨k + 1, q, A0, c0, by omega, by go_num, rfl, by omega, by rw [HN.out]; simpa using HQ.out, by rw [HN.out]; simpa using World.ownsRow.alloc HO.out _, HB.out.alloc hbs _⟩
   ·have hv1 : (v == 0) = false := by simpa using hv
    have HV := zH hv1
    have hv2 : (v != 0) = true := by simp [bne, hv1]
    have DA := zH ((HO.out.alloc (.cells #[.int .i64 u', .int .i64 v] 128)).alloc (.cells #[.int .i64 u', .int .i64 v] 128))
    go_wp2_with (at_builtin; refine wpList_app rfl (.tmp 76) (.tmp 78) 85 rfl Tryz.underlying85 infoPhaseTerm rfl (by decide) rfl DA.out rfl (rd_l2 _ wr 128 _ _) (by simp [Value.oneCell']) (by omega) (by decide) (by simp <;> omega) ?_; intro A5 c5 w5 o5 g5)
    go_roundg (gk - 1)
    case measure => omega
    case rel =>
     refine ⟨k + 1, q + 1, A5, c5, by omega, by go_num, rfl, by omega, by rw [HN.out, HV.out]; simp [HQ.out], ?_, below_grown ((HB.out.alloc hbs _).alloc (by simp; omega) _) (by simp; omega) DA.out zR g5⟩
     rw [HN.out, HV.out]
     rw [show nz (b.take k) ++ (if false = true then [] else [(u', v)]) = nz (b.take k) ++ [(u', v)] from rfl, cellsP_append]
     exact o5
  ·have hkL : k = LL := by omega
   have XE := zH (XT.out.below HB.out)
   obtain ⟨p0, p1, p2, p3, f0, f1, f2, f3⟩ := XE.out.four
   go_wp2_with fail
   have e : nz (b.take k) = R := by rw [List.take_of_length_le (by have := HBL.out; omega), HRB.out]
   have HOO := HO.out
   have HQQ := HQ.out
   rw [e] at HOO HQQ
   subst HQQ
   have hbz : base <= wy.heap.size := by have := SB.out.size; omega
   have e1 : some gp ≠ (Value.slice A0 R.length c0).ownBlock := by intro e; have := (HOO.lt gp e.symm).1; omega
   go_end0
   refine ⟨rfl, ⟨A0, c0, B, d, by rw [HNO.out]; exact XE.out.s2 _, own_set_ne (ownsRow_base HOO hbz) e1 _, by rw [HNO.out]; exact own_set_ne (ownsRow_below OT.out HB.out) (own_bx_ne (ownsRow_below OT.out HB.out) XE.out (by decide)) _⟩, (SB.out.trans (HB.out.mono hbz)).setCell (show base <= gp from hbg) _⟩
theorem i_rotate (gp base : Nat) (N H : Int) (t o : List (Int × Int)) (p : Int × Int) (u : Int) (w : World) (hp : PAt w gp base N H t o) (hb : base <= w.heap.size) (hbg : base <= gp) (hn : t.length <= 274877906944) :
  Calls Tryz.prog 125 #[.pointer (some ⟨gp, 0, none⟩), .agg #[.int .i64 p.1, .int .i64 p.2], .int .i64 u] w fun e w' => e = .returned (.tuple #[]) /\ PAt w' gp base N (rotH H p u) (rotT t p u) o /\ Below base w w' := by
 obtain ⟨m, f⟩ := p
 unfold rotH rotT
 cases hf : (f == 0)
 ·rw [if_neg (by simp), if_neg (by simp)]
  exact i_rotate1 gp base N H t o m f u w hp hb hbg hn hf
 ·obtain rfl : f = 0 := by simpa using hf
  rw [if_pos (by rfl), if_pos (by rfl)]
  exact i_rotate0 gp base N H t o m u w hp hb hbg hn
end Go.Proofs.YtmenmibfkojnoaaGreat
