/- Contracts of l7Row, ApplyMatrix, MulMatrix (spec). Asked: square matrices of 2, 4, 8 or 16 rows of valid numbers; each sum of products succeeds. -/
import Derived.Test.YtibhikngiceeeaaStN
import Derived.Test.YtibhikngiceeeaaStM
import Derived.Test.YtibhikngiceeeaaMatF
import Derived.Test.YtibhikngiceeeaaCirM
namespace Go.Proofs.Ytibhikngiceeeaa
open Go.RowKit
set_option linter.unusedVariables false

/-- A sum of products, terms with a zero left out. -/
def rowD : List Dw → List Dw → Dw → Option Dw
  | x :: r, y :: s, acc => if (decide (x = Dw.zero) || decide (y = Dw.zero)) = true then rowD r s acc else
    match mulD x y with
    | some z => match addD acc z with
      | some a => rowD r s a
      | none => none
    | none => none
  | _, _, acc => some acc
theorem rowD_skip {x y : Dw} {r s : List Dw} {acc : Dw} (h : (decide (x = Dw.zero) || decide (y = Dw.zero)) = true) : rowD (x :: r) (y :: s) acc = rowD r s acc := by rw [rowD, if_pos h]
theorem rowD_step {x y a : Dw} {r s : List Dw} {acc : Dw} (h : (decide (x = Dw.zero) || decide (y = Dw.zero)) = false) (hr : rowD (x :: r) (y :: s) acc = some a) : ∃ z b, mulD x y = some z ∧ addD acc z = some b ∧ rowD r s b = some a := by
  rw [rowD, if_neg (by rw [h]; simp)] at hr
  cases hz : mulD x y with
  | none => rw [hz] at hr; cases hr
  | some z =>
    rw [hz] at hr
    simp only at hr
    cases hb : addD acc z with
    | none => rw [hb] at hr; cases hr
    | some b => rw [hb] at hr; exact ⟨z, b, rfl, hb, hr⟩
theorem orz_1 {a b : Bool} (h : true = a) : true = (a || b) := by rw [← h]; rfl
theorem orz_2 {a b c : Bool} (h : false = a) (h' : c = b) : c = (a || b) := by rw [← h, h']; rfl

set_option maxRecDepth 100000 in
set_option maxHeartbeats 6400000 in
theorem s_l7Row (A : Option Addr) (n ca : Nat) (B : Option Addr) (cb : Nat) (xs ys : List Dw) (r : Dw) (w : World) (h : RdD w A n xs) (h' : RdD w B n ys) (hn : n ≤ 16) (hr : rowD xs ys Dw.zero = some r) :
    Calls Try.prog 153 #[.slice A n ca, .slice B n cb] w fun e w' => e = .returned (.tuple #[.agg #[.int .i64 r.n.a, .int .i64 r.n.b, .int .i64 r.n.c, .int .i64 r.n.d, .int .i64 r.e], .bool true]) ∧ Below w.heap.size w w' := by
  have H := Lib.hid h
  have H' := Lib.hid h'
  have HR := Lib.hid hr
  have R0 := Lib.hid (show Bx ((w.alloc (.cells #[.int .i64 0, .int .i64 0, .int .i64 0, .int .i64 0, .int .i64 0] 83)).alloc (.cells #[.int .i64 0, .int .i64 0, .int .i64 0, .int .i64 0, .int .i64 0] 83)) w.heap.size 83 #[.int .i64 0, .int .i64 0, .int .i64 0, .int .i64 0, .int .i64 0] from (Bx.new w _ _).alloc _)
  have S0 := Lib.hid (show Bx ((w.alloc (.cells #[.int .i64 0, .int .i64 0, .int .i64 0, .int .i64 0, .int .i64 0] 83)).alloc (.cells #[.int .i64 0, .int .i64 0, .int .i64 0, .int .i64 0, .int .i64 0] 83)) (w.heap.size + 1) 83 #[.int .i64 0, .int .i64 0, .int .i64 0, .int .i64 0, .int .i64 0] from Bx.new' (by simp))
  have B0 := Lib.hid (show Below w.heap.size w ((w.alloc (.cells #[.int .i64 0, .int .i64 0, .int .i64 0, .int .i64 0, .int .i64 0] 83)).alloc (.cells #[.int .i64 0, .int .i64 0, .int .i64 0, .int .i64 0, .int .i64 0] 83)) from ((Below.refl _ _).alloc (Nat.le_refl _) _).alloc (by simp) _)
  clear h h' hr
  go_enter Try.func153, Try.ntmps153
  go_wp2_with fail
  go_loopg [7] n (fun m i wr => ∃ (k : Nat) (acc : Dw), k + m = n ∧ i = .int .i64 k ∧ rowD (xs.drop k) (ys.drop k) acc = some r ∧ Bx wr w.heap.size 83 #[.int .i64 0, .int .i64 0, .int .i64 0, .int .i64 0, .int .i64 0] ∧ Bx wr (w.heap.size + 1) 83 #[.int .i64 acc.n.a, .int .i64 acc.n.b, .int .i64 acc.n.c, .int .i64 acc.n.d, .int .i64 acc.e] ∧ Below w.heap.size w wr)
  case atStart => exact ⟨0, Dw.zero, by omega, rfl, by simpa using HR.out, R0.out, S0.out, B0.out⟩
  case round =>
    obtain ⟨k, acc, hk, rfl, hrow, hrb, hsb, hb⟩ := hrel
    have HW := Lib.hid hrow
    have RB := Lib.hid hrb
    have SB := Lib.hid hsb
    have HB := Lib.hid hb
    have hs0 := hb.size
    have hsl := hsb.lt
    clear hrow hrb hsb hb R0 S0 B0 HR
    by_cases hlt : k < n
    · obtain ⟨b, off, x, rfl, hBb, hd, c0, c1, c2, c3, c4⟩ := (H.out.below HB.out).at_ hlt
      obtain ⟨b', off', y, rfl, hBb', hd', d0, d1, d2, d3, d4⟩ := (H'.out.below HB.out).at_ hlt
      have hi0 : (0 : Int) ≤ (k : Int) := by omega
      have hi1 : (k : Int) < (n : Int) := by omega
      have HD := Lib.hid hd
      have HD' := Lib.hid hd'
      clear hd hd'
      go_upto_region 5 with fail
      go_cut [32] (fun v wx => v = .bool (decide (x = Dw.zero) || decide (y = Dw.zero)) ∧ wr = wx)
      case first =>
        go_wp2_with fail
        all_goals go_meet
        all_goals first
          | exact ⟨congrArg Value.bool (orz_1 (dz_t (by assumption) (by assumption) (by assumption) (by assumption) (by assumption))), rfl⟩
          | (refine ⟨congrArg Value.bool (orz_2 ?_ ?_), rfl⟩
             all_goals first
               | exact dz_t (by assumption) (by assumption) (by assumption) (by assumption) (by assumption)
               | exact dz_f (.inl (by assumption))
               | exact dz_f (.inr (.inl (by assumption)))
               | exact dz_f (.inr (.inr (.inl (by assumption))))
               | exact dz_f (.inr (.inr (.inr (.inl (by assumption)))))
               | exact dz_f (.inr (.inr (.inr (.inr (by assumption)))))
               | fail)
          | fail
      case rest =>
        obtain ⟨rfl, rfl⟩ := hcut
        obtain ⟨w0, rfl⟩ : ∃ w0, w0 = wr := ⟨_, rfl⟩
        cases hz : (decide (x = Dw.zero) || decide (y = Dw.zero))
        · obtain ⟨z, acc2, m1, m2, m3⟩ := rowD_step hz (by have := HW.out; rwa [HD.out, HD'.out] at this)
          have M1 := Lib.hid m1
          have M2 := Lib.hid m2
          have M3 := Lib.hid m3
          clear m1 m2 m3 hz HD HD' HW
          go_upto_region 6 with fail
          go_cut [8, 9] (fun v10 v11 wx => v11 = .bool true ∧ ∃ X, v10 = .pointer (some ⟨X, 0, none⟩) ∧ Bx wx X 83 #[.int .i64 z.n.a, .int .i64 z.n.b, .int .i64 z.n.c, .int .i64 z.n.d, .int .i64 z.e] ∧ Below w0.heap.size w0 wx ∧ w0.heap.size ≤ X)
          case first =>
            have HSS := Lib.hid (show ∀ wx : World, Below w0.heap.size w0 wx → (wx.cell? ⟨b, off + k * 5, none⟩ = some (.int .i64 x.n.a) ∧ wx.cell? ⟨b, off + k * 5 + 1, none⟩ = some (.int .i64 x.n.b) ∧ wx.cell? ⟨b, off + k * 5 + 2, none⟩ = some (.int .i64 x.n.c) ∧ wx.cell? ⟨b, off + k * 5 + 3, none⟩ = some (.int .i64 x.n.d) ∧ wx.cell? ⟨b, off + k * 5 + 4, none⟩ = some (.int .i64 x.e)) ∧ (wx.cell? ⟨b', off' + k * 5, none⟩ = some (.int .i64 y.n.a) ∧ wx.cell? ⟨b', off' + k * 5 + 1, none⟩ = some (.int .i64 y.n.b) ∧ wx.cell? ⟨b', off' + k * 5 + 2, none⟩ = some (.int .i64 y.n.c) ∧ wx.cell? ⟨b', off' + k * 5 + 3, none⟩ = some (.int .i64 y.n.d) ∧ wx.cell? ⟨b', off' + k * 5 + 4, none⟩ = some (.int .i64 y.e)) from fun wx hb => ⟨⟨(hb.cell (p := ⟨b, off + k * 5, none⟩) hBb).trans c0, (hb.cell (p := ⟨b, off + k * 5 + 1, none⟩) hBb).trans c1, (hb.cell (p := ⟨b, off + k * 5 + 2, none⟩) hBb).trans c2, (hb.cell (p := ⟨b, off + k * 5 + 3, none⟩) hBb).trans c3, (hb.cell (p := ⟨b, off + k * 5 + 4, none⟩) hBb).trans c4⟩, (hb.cell (p := ⟨b', off' + k * 5, none⟩) hBb').trans d0, (hb.cell (p := ⟨b', off' + k * 5 + 1, none⟩) hBb').trans d1, (hb.cell (p := ⟨b', off' + k * 5 + 2, none⟩) hBb').trans d2, (hb.cell (p := ⟨b', off' + k * 5 + 3, none⟩) hBb').trans d3, (hb.cell (p := ⟨b', off' + k * 5 + 4, none⟩) hBb').trans d4⟩)
            have V0 : Below w0.heap.size w0 w0.drew := (Below.refl _ _).drew
            have VA : Below w0.heap.size w0 (w0.alloc (.cells #[.int .i64 0, .int .i64 0, .int .i64 0, .int .i64 0, .int .i64 0] 83)).drew := ((Below.refl _ _).alloc (Nat.le_refl _) _).drew
            go_region_held3 (fun w' => (w'.cell? ⟨b, off + k * 5, none⟩ = some (.int .i64 x.n.a) ∧ w'.cell? ⟨b, off + k * 5 + 1, none⟩ = some (.int .i64 x.n.b) ∧ w'.cell? ⟨b, off + k * 5 + 2, none⟩ = some (.int .i64 x.n.c) ∧ w'.cell? ⟨b, off + k * 5 + 3, none⟩ = some (.int .i64 x.n.d) ∧ w'.cell? ⟨b, off + k * 5 + 4, none⟩ = some (.int .i64 x.e)) ∧ (w'.cell? ⟨b', off' + k * 5, none⟩ = some (.int .i64 y.n.a) ∧ w'.cell? ⟨b', off' + k * 5 + 1, none⟩ = some (.int .i64 y.n.b) ∧ w'.cell? ⟨b', off' + k * 5 + 2, none⟩ = some (.int .i64 y.n.c) ∧ w'.cell? ⟨b', off' + k * 5 + 3, none⟩ = some (.int .i64 y.n.d) ∧ w'.cell? ⟨b', off' + k * 5 + 4, none⟩ = some (.int .i64 y.e)))
              (first | exact HSS.out _ V6 | exact HSS.out _ (V6.alloc (Below.size V6) _) | exact HSS.out _ (set5b V6 (Nat.le_refl _)) | exact HSS.out _ VA | exact HSS.out _ V0 | go_keep)
              (first
                | (go_at_call 161; refine (s_MulD x y z _ M1.out).mono ?_; rintro e w6 ⟨rfl, b6⟩; have V6 : Below w0.heap.size w0 w6 := (by first | exact below_trans VA b6 | exact below_trans V0 b6); (try (have ZX := (Bx.new w0 83 #[.int .i64 0, .int .i64 0, .int .i64 0, .int .i64 0, .int .i64 0]).drew.below b6; have ⟨z0, z1, z2, z3, z4, f0, f1, f2, f3, f4⟩ := bx5 ZX)))
                | fail)
            all_goals go_wp2_with fail
            all_goals go_meet
            all_goals refine ⟨rfl, _, rfl, ?_, ?_, ?_⟩
            all_goals first
              | (with_reducible exact Bx.new w6 _ _)
              | (with_reducible exact bx5_set ZX)
              | (with_reducible exact V6.alloc (Below.size V6) _)
              | (with_reducible exact set5b V6 (Nat.le_refl _))
              | (with_reducible exact Below.size V6)
              | (with_reducible exact Nat.le_refl _)
          case rest =>
            obtain ⟨rfl, X, rfl, xb, bb, hX⟩ := hcut
            have XB := Lib.hid xb
            have RB2 := Lib.hid (RB.out.below bb)
            have SB2 := Lib.hid (SB.out.below bb)
            have HB2 := Lib.hid (HB.out.trans (bb.mono hs0))
            clear c0 c1 c2 c3 c4 d0 d1 d2 d3 d4 hBb hBb' xb bb RB SB HB M1
            obtain ⟨w1, rfl⟩ : ∃ w1, w1 = wc := ⟨_, rfl⟩
            obtain ⟨s0, s1, s2, s3, s4, _⟩ := bx5 SB2.out
            obtain ⟨x0, x1, x2, x3, x4, _⟩ := bx5 XB.out
            go_wp2_with fail
            refine (s_AddD acc z acc2 _ M2.out).mono ?_
            rintro e w2 ⟨rfl, b2⟩
            have RB3 := Lib.hid (RB2.out.below b2)
            have SB3 := Lib.hid (SB2.out.below b2)
            have hs2 := b2.size
            have HB3 := Lib.hid (HB2.out.trans (b2.mono HB2.out.size))
            have hl3 := SB3.out.lt
            have hs3 := HB3.out.size
            clear s0 s1 s2 s3 s4 x0 x1 x2 x3 x4 b2 RB2 SB2 HB2 XB
            obtain ⟨s0, s1, s2, s3, s4, g0, g1, g2, g3, g4⟩ := bx5 SB3.out
            go_wp2_with fail
            go_roundg (gk - 1)
            case measure => omega
            case rel =>
              have hne : w.heap.size ≠ w.heap.size + 1 := by omega
              refine ⟨k + 1, acc2, by omega, by go_num, M3.out, ?_, ?_, ?_⟩
              · exact (((((RB3.out.far hne _).far hne _).far hne _).far hne _).far hne _).alloc _
              · exact (bx5_set SB3.out).alloc _
              · exact (set5b HB3.out (by omega)).alloc (by simp; omega) _
        · have HW2 := Lib.hid (show rowD (xs.drop (k + 1)) (ys.drop (k + 1)) acc = some r by have := HW.out; rwa [HD.out, HD'.out, rowD_skip hz] at this)
          clear c0 c1 c2 c3 c4 d0 d1 d2 d3 d4 HD HD' HW hz
          go_wp2_with fail
          go_roundg (gk - 1)
          case measure => omega
          case rel => exact ⟨k + 1, acc, by omega, by go_num, HW2.out, RB.out, SB.out, HB.out⟩
    · have hacc : acc = r := by
        have := HW.out
        rw [List.drop_eq_nil_of_le (by have := H.out.1; omega), List.drop_eq_nil_of_le (by have := H'.out.1; omega)] at this
        injection this
      subst hacc
      obtain ⟨s0, s1, s2, s3, s4, _⟩ := bx5 SB.out
      obtain ⟨r0, r1, r2, r3, r4, g0, g1, g2, g3, g4⟩ := bx5 RB.out
      have hrl := RB.out.lt
      have E := Lib.hid (bx5_set (a' := .int .i64 acc.n.a) (b' := .int .i64 acc.n.b) (c' := .int .i64 acc.n.c) (d' := .int .i64 acc.n.d) (e' := .int .i64 acc.e) RB.out)
      have hs := HB.out.size
      obtain ⟨q0, q1, q2, q3, q4, _⟩ := bx5 E.out
      go_wp2_with fail
      exact bodyPost_ret (v := .tuple #[.agg #[.int .i64 acc.n.a, .int .i64 acc.n.b, .int .i64 acc.n.c, .int .i64 acc.n.d, .int .i64 acc.e], .bool true]) (by simp [results, Try.results153, go_sem, q0, q1, q2, q3, q4]) rfl ⟨rfl, set5b HB.out (Nat.le_refl _)⟩
set_option maxRecDepth 100000 in
set_option maxHeartbeats 6400000 in
theorem s_ApplyM (q : Nat) (F : Nat → Dw) (A : Option Addr) (n ca : Nat) (B : Option Addr) (cb : Nat) (l : List (List Dw)) (v : List Dw) (w : World) (h : RdSS cellsD w 5 A n l) (h' : RdD w B n v) (h1 : 1 ≤ q) (h4 : q ≤ 4) (hn : n = 2 ^ q) (hl : ∀ x ∈ l, x.length = n ∧ ∀ u ∈ x, okD u = true) (hv : ∀ u ∈ v, okD u = true)
    (hF : ∀ (k : Nat) (x : List Dw), l[k]? = some x → rowD x v Dw.zero = some (F k)) :
    Calls Try.prog 100 #[.slice A n ca, .slice B n cb] w (RetDB n ((List.range n).map F) w) := by
  have H := Lib.hid h
  have H' := Lib.hid h'
  have HL := Lib.hid hl
  have HV := Lib.hid hv
  have HF := Lib.hid hF
  have HN := Lib.hid hn
  have HLL := Lib.hid h.1
  have hn16 : n ≤ 16 ∧ 2 ≤ n := by rw [hn]; exact pow_16 h1 h4
  clear h h' hl hv hF hn
  go_enter Try.func100, Try.ntmps100
  go_wp2_with fail
  refine (s_IsMatrix _ n _ q l _ H.out h1 h4 HN.out HL.out).mono ?_
  rintro e w1 ⟨rfl, b1⟩
  have B1 := Lib.hid b1
  clear b1
  go_wp2_with fail
  refine (s_IsState _ n _ q v _ (H'.out.below B1.out) h1 h4 HN.out HV.out).mono ?_
  rintro e w2 ⟨rfl, b2⟩
  have B2 := Lib.hid (below_trans B1.out b2)
  have O0 := Lib.hid (show (w2.alloc (.cells #[] 83)).ownsRow w.heap.size 83 5 (.slice (some ⟨w2.heap.size, 0, none⟩) 0 0) 0 (cellsD []) from World.ownsRow_lit w2 #[] 0 B2.out.size (by simp [maxLen]) rfl)
  clear b2 B1
  go_wp2_with fail
  go_loopg [6, 7] n (fun m s i wr => ∃ (k : Nat) (D : Option Addr) (c : Nat), k + m = n ∧ i = .int .i64 k ∧ s = .slice D k c ∧ wr.ownsRow w.heap.size 83 5 (.slice D k c) k (cellsD ((List.range k).map F)) ∧ Below w.heap.size w wr)
  case atStart => exact ⟨0, _, 0, by omega, rfl, rfl, O0.out, B2.out.alloc B2.out.size _⟩
  case round =>
    obtain ⟨k, D, c, hk, rfl, rfl, ho, hb⟩ := hrel
    have HO := Lib.hid ho
    have HB := Lib.hid hb
    have hs0 := hb.size
    clear ho hb O0 B2
    by_cases hlt : k < n
    · obtain ⟨b, off, x, B3, cx, rfl, hBb, hd, c0, hxc, hxr⟩ := (H.out.below HB.out).at_ hlt
      have hx := HL.out x (List.mem_of_mem_drop (i := k) (by rw [hd]; simp))
      have hxk : l[k]? = some x := by
        have := congrArg (fun r => r[0]?) hd
        simpa using this
      have HFX := Lib.hid (HF.out k x hxk)
      rw [hx.1] at c0 hxc hxr
      have RX := Lib.hid (show RdD wr B3 n x from ⟨hx.1, hxr⟩)
      obtain ⟨y, hy⟩ : ∃ y, F k = y := ⟨_, rfl⟩
      rw [hy] at HFX
      have HY := Lib.hid hy
      clear hd hx hxk hxr hy
      have hi0 : (0 : Int) ≤ (k : Int) := by omega
      have hi1 : (k : Int) < (n : Int) := by omega
      go_wp2_with fail
      refine (s_l7Row _ n _ _ _ x v y _ RX.out (H'.out.below HB.out) (by omega) HFX.out).mono ?_
      rintro e w3 ⟨rfl, b3⟩
      have HO3 := Lib.hid (ownsRow_below HO.out b3)
      have HB3 := Lib.hid (HB.out.trans (b3.mono hs0))
      have hs3 := HB3.out.size
      clear b3 c0
      have HO4 := Lib.hid (HO3.out.alloc (.cells #[.int .i64 y.n.a, .int .i64 y.n.b, .int .i64 y.n.c, .int .i64 y.n.d, .int .i64 y.e] 83))
      have HB4 := Lib.hid (HB3.out.alloc hs3 (.cells #[.int .i64 y.n.a, .int .i64 y.n.b, .int .i64 y.n.c, .int .i64 y.n.d, .int .i64 y.e] 83))
      have NB4 := Lib.hid (Bx.new w3 83 #[.int .i64 y.n.a, .int .i64 y.n.b, .int .i64 y.n.c, .int .i64 y.n.d, .int .i64 y.e])
      obtain ⟨x0, x1, x2, x3, x4, _⟩ := bx5 NB4.out
      have RL := Lib.hid (show Rd ((w3.alloc (.cells #[.int .i64 y.n.a, .int .i64 y.n.b, .int .i64 y.n.c, .int .i64 y.n.d, .int .i64 y.e] 83)).alloc (.cells #[.int .i64 y.n.a, .int .i64 y.n.b, .int .i64 y.n.c, .int .i64 y.n.d, .int .i64 y.e] 83)) 5 (some ⟨w3.heap.size + 1, 0, none⟩) 1 [.int .i64 y.n.a, .int .i64 y.n.b, .int .i64 y.n.c, .int .i64 y.n.d, .int .i64 y.e] from by
        have := Rd.lit (w3.alloc (.cells #[.int .i64 y.n.a, .int .i64 y.n.b, .int .i64 y.n.c, .int .i64 y.n.d, .int .i64 y.e] 83)) 83 #[.int .i64 y.n.a, .int .i64 y.n.b, .int .i64 y.n.c, .int .i64 y.n.d, .int .i64 y.e] 1 5 rfl
        rw [show (w3.alloc (.cells #[.int .i64 y.n.a, .int .i64 y.n.b, .int .i64 y.n.c, .int .i64 y.n.d, .int .i64 y.e] 83)).heap.size = w3.heap.size + 1 by simp] at this
        exact this)
      go_wp2_with (at_builtin; refine wpList_app rfl (.tmp 45) (.tmp 47) 79 rfl Try.underlying79 infoDOmega rfl (by decide) rfl (HO4.out.alloc _) rfl RL.out (by simp [Value.oneCell']) (by omega) (by decide) (by simp <;> omega) ?_; intro A9 c9 w9 o9 g9)
      go_roundg (gk - 1)
      case measure => omega
      case rel =>
        refine ⟨k + 1, A9, c9, by omega, by go_num, rfl, ?_, below_grown (HB4.out.alloc (by simp; omega) _) (by simp <;> omega) (HO4.out.alloc _) (Nat.le_refl _) g9⟩
        rw [List.range_succ, List.map_append, cellsD_append]
        have e : cellsD (List.map F [k]) = [.int .i64 y.n.a, .int .i64 y.n.b, .int .i64 y.n.c, .int .i64 y.n.d, .int .i64 y.e] := by rw [← HY.out]; rfl
        rw [e]
        exact o9
    · obtain rfl : k = n := by omega
      go_wp2_with fail
      exact bodyPost_ret (v := .tuple #[.slice D k c, .bool true]) (by simp [results, Try.results100, go_sem]) rfl ⟨_, _, rfl, HO.out, HB.out⟩
set_option maxRecDepth 100000 in
set_option maxHeartbeats 6400000 in
theorem s_MulM (q : Nat) (F : Nat → Nat → Dw) (A : Option Addr) (n ca : Nat) (B : Option Addr) (cb : Nat) (l l' : List (List Dw)) (w : World) (h : RdSS cellsD w 5 A n l) (h' : RdSS cellsD w 5 B n l') (h1 : 1 ≤ q) (h4 : q ≤ 4) (hn : n = 2 ^ q) (hl : ∀ x ∈ l, x.length = n ∧ ∀ u ∈ x, okD u = true) (hl' : ∀ x ∈ l', x.length = n ∧ ∀ u ∈ x, okD u = true)
    (hF : ∀ j, j < n → ∀ (k : Nat) (x : List Dw), l[k]? = some x → rowD x (l'.map fun r => r.getD j Dw.zero) Dw.zero = some (F j k)) :
    Calls Try.prog 39 #[.slice A n ca, .slice B n cb] w (RetSDB n (flipL (colsU (fun j => (List.range n).map (F j)) n)) w) := by
  have H := Lib.hid h
  have H' := Lib.hid h'
  have HL := Lib.hid hl
  have HL' := Lib.hid hl'
  have HF := Lib.hid hF
  have HN := Lib.hid hn
  have HLL' := Lib.hid h'.1
  have hn16 : n ≤ 16 ∧ 2 ≤ n := by rw [hn]; exact pow_16 h1 h4
  have HLEN := Lib.hid (show ∀ x ∈ l', x.length = n from fun x hx => (hl' x hx).1)
  have HCV := Lib.hid (show ∀ j, ∀ u ∈ (l'.map fun r => r.getD j Dw.zero), okD u = true from fun j u hu => by
    obtain ⟨r, hr, rfl⟩ := List.mem_map.1 hu
    rw [List.getD_eq_getElem?_getD]
    cases e : r[j]? with
    | none => decide
    | some u => exact (hl' r hr).2 u (List.mem_of_getElem? e))
  clear h h' hl hl' hF hn
  go_enter Try.func39, Try.ntmps39
  go_wp2_with fail
  refine (s_IsMatrix _ n _ q l _ H.out h1 h4 HN.out HL.out).mono ?_
  rintro e w1 ⟨rfl, b1⟩
  have B1 := Lib.hid b1
  clear b1
  go_wp2_with fail
  refine (s_IsMatrix _ n _ q l' _ (H'.out.below B1.out) h1 h4 HN.out HL'.out).mono ?_
  rintro e w2 ⟨rfl, b2⟩
  have B2 := Lib.hid (below_trans B1.out b2)
  have O0 := Lib.hid (OwnSS.lit0 w2 (base := w.heap.size) B2.out.size 79 83 5 cellsD)
  clear b2 B1
  go_wp2_with fail
  go_loopg [6, 7] n (fun m s j wr => ∃ (i : Nat) (D : Option Addr) (c : Nat), i + m = n ∧ j = .int .i64 i ∧ s = .slice D i c ∧ OwnSS cellsD wr w.heap.size 79 83 5 (.slice D i c) (colsU (fun j => (List.range n).map (F j)) i) ∧ Below w.heap.size w wr)
  case atStart => exact ⟨0, _, 0, by omega, rfl, rfl, O0.out, B2.out.alloc B2.out.size _⟩
  case round =>
    obtain ⟨i, D, c, hi, rfl, rfl, ho, hb⟩ := hrel
    have HO := Lib.hid ho
    have HB := Lib.hid hb
    have hs0 := hb.size
    clear ho hb O0 B2
    by_cases hlt : i < n
    · have HFI := Lib.hid (HF.out i hlt)
      go_wp2_with fail
      refine (s_l7Col _ n _ i l' _ (H'.out.below HB.out) hn16.1 HLEN.out hlt).mono ?_
      rintro e w3 ⟨D3, c3, rfl, o3, b3⟩
      have R3 := Lib.hid (show RdD w3 D3 n (l'.map fun r => r.getD i Dw.zero) from ⟨by rw [List.length_map]; exact HLL'.out, Rd.own o3⟩)
      clear o3
      go_wp2_with fail
      refine (s_ApplyM q (F i) _ n _ _ _ l _ _ ((H.out.below HB.out).below b3) R3.out h1 h4 HN.out HL.out (HCV.out i) HFI.out).mono ?_
      rintro e w4 ⟨A4, c4, rfl, o4, b4⟩
      have B4 := Lib.hid (below_trans b3 b4)
      have HR := Lib.hid (ownsRow_base o4 b3.size)
      have hs4 := B4.out.size
      clear o4 b3 b4 R3
      have HW := Lib.hid (HO.out.below B4.out)
      obtain ⟨vs, a1, a2, a3⟩ := HW.out
      rw [colsU_len] at a1
      have A1 := Lib.hid a1
      clear a1 a2 a3
      go_wp2_with (at_builtin; refine wpList_app rfl (.tmp 44) (.tmp 46) 27 rfl Try.underlying27 infoDOmegaS rfl (by decide) rfl (A1.out.alloc _) rfl (Rd.lit w4 79 #[.slice A4 n c4] 1 1 rfl) (by simp [Value.oneCell']) (by omega) (by decide) (by simp <;> omega) ?_; intro A9 c9 w9 o9 g9)
      go_roundg (gk - 1)
      case measure => omega
      case rel =>
        refine ⟨i + 1, A9, c9, by omega, by go_num, rfl, ?_, below_grown ((HB.out.trans (B4.out.mono hs0)).alloc (by omega) _) (by simp <;> omega) (A1.out.alloc _) (Nat.le_refl _) g9⟩
        rw [colsU_succ]
        exact OwnSS.app1 (by decide) HO.out (Nat.le_refl _) hs0 (B4.out.alloc hs4 _) (by rw [List.length_map, List.length_range]) (HR.out.alloc _) (colsU_len _ i) (A1.out.alloc _) g9 o9
    · obtain rfl : i = n := by omega
      have HA := Lib.hid (colsU_all (U := fun j => (List.range i).map (F j)) (k := i) (n := i) fun j _ => by rw [List.length_map, List.length_range])
      have hfl : (flipL (colsU (fun j => (List.range i).map (F j)) i)).length = i := by rw [flipL_len, colsU_len]
      have HFL := Lib.hid hfl
      clear hfl
      go_wp2_with fail
      refine (s_l7Cols _ i _ (colsU (fun j => (List.range i).map (F j)) i) _ (HO.out.rd (colsU_len _ _)) hn16.1 HA.out).mono ?_
      rintro e w6 ⟨A6, c6, rfl, o6, b6⟩
      rw [HFL.out] at o6 ⊢
      go_wp2_with fail
      exact bodyPost_ret (v := .tuple #[.slice A6 i c6, .bool true]) (by simp [results, Try.results39, go_sem]) rfl ⟨_, _, rfl, o6.base_ hs0, HB.out.trans (b6.mono hs0)⟩
end Go.Proofs.Ytibhikngiceeeaa
