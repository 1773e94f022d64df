/- Contract of FoldPhases (spec). At most 2^20 gates. -/
import Derived.Test.YtmenmibfkojnoaaGreatQ04
import Derived.Test.YtmenmibfkojnoaaGreatQ29
import Derived.Test.YtmenmibfkojnoaaGreatQ47
import Derived.Test.YtmenmibfkojnoaaGreatQ48
import Derived.Outline
import Derived.WideMake
set_option maxHeartbeats 16000000
namespace Go.Proofs.YtmenmibfkojnoaaGreat
open Go.RowKit
set_option linter.unusedVariables false
set_option maxRecDepth 100000 in
theorem s_FoldP (A : Option Addr) (n cap : Nat) (gs : List Gt) (N : Int) (w : World) (h : RdG w A n gs) (hn : n <= 1073741824) :
  Calls Tryz.prog 57 #[.slice A n cap, .int .i64 N] w (RetGI (foldP gs N) w) := by
 have H := zH h
 have HL := zH h.1
 clear h
 obtain ⟨⟨M, mb⟩, hM⟩ : ∃ R, compP gs N = R := ⟨_, rfl⟩
 have HM := zH hM
 have hbd := compP_bd gs N
 rw [hM, HL.out] at hbd
 obtain ⟨hb1, hb2⟩ : M.t.length <= n /\ M.o.length <= 4 := hbd
 cases mb
 ·have HF := zH (foldP_no (gs := gs) (n := N) (by rw [hM]))
  clear hM
  rw [HF.out]
  go_enter Tryz.func57, Tryz.ntmps57
  go_wp2_with fail
  refine (s_CompP _ _ _ gs N _ H.out (by omega)).mono ?_
  rintro e w1 ⟨v, rfl, ⟨A1, c1, B1, d1, rfl, t1, o1⟩, b1⟩
  rw [HM.out] at t1 o1 ⊢
  dsimp only at t1 o1 ⊢
  have BX := zH (b1.alloc b1.size (.cells #[.int .i64 M.N, .int .i64 M.H, .slice A1 M.t.length c1, .slice B1 M.o.length d1] 88))
  have OG := zH (show ((w1.alloc (.cells #[.int .i64 M.N, .int .i64 M.H, .slice A1 M.t.length c1, .slice B1 M.o.length d1] 88)).alloc (.cells #[] 39)).ownsRow w.heap.size 39 4 (.slice (some ⟨w1.heap.size + 1, 0, none⟩) 0 0) 0 [] from own0_bx (by have := b1.size; omega) (Bx.new' (by simp)))
  have HA := zH (H.out.below (BX.out.alloc BX.out.size (.cells #[] 39)))
  have hz4 : (Value.agg #[.int .i64 0, .int .i64 0, .int .i64 0, .int .i64 0]).cells.size = 4 := rfl
  have hl := HL.out
  subst hl
  go_wp2_with (at_builtin; refine wpList_app0 rfl (.tmp 25) (.tmp 26) 24 rfl Tryz.underlying24 infoGate hz4 (by decide) rfl OG.out rfl HA.out.2 one_cellsG (by omega) (by decide) (by have := b1.size; simp <;> omega) ?_; intro A7 c7 w7 o7 g7)
  go_ret2
  exact ⟨A7, c7, rfl, o7, below_grown (BX.out.alloc BX.out.size _) (by have := b1.size; simp <;> omega) OG.out zR g7⟩
 ·have HF := zH (foldP_yes (gs := gs) (n := N) (by rw [hM]))
  obtain ⟨hin, hcl⟩ := compP_in hM
  obtain ⟨i1, i2⟩ := idP_len hin
  have I1 := zH i1
  clear i1
  have HC := zH hcl
  clear hM hin hcl
  rw [HF.out, HM.out]
  dsimp only
  have hOl := foldL_len M.t gs (idP N) [] []
  rw [HL.out, List.length_nil, Nat.zero_add] at hOl
  obtain ⟨OUT, hO⟩ : ∃ O, foldL M.t (idP N) [] [] gs = O := ⟨_, rfl⟩
  rw [hO] at hOl ⊢
  have HO := zH hO
  clear hO
  obtain ⟨Q, hQ⟩ : ∃ Q, compP OUT N = Q := ⟨_, rfl⟩
  rw [hQ]
  have HQ := zH hQ
  clear hQ
  go_enter Tryz.func57, Tryz.ntmps57
  go_wp2_with fail
  refine (s_CompP _ _ _ gs N _ H.out (by omega)).mono ?_
  rintro e w1 ⟨v, rfl, ⟨A1, c1, B1, d1, rfl, t1, o1⟩, b1⟩
  rw [HM.out] at t1 o1 ⊢
  dsimp only at t1 o1 ⊢
  have hs1 := b1.size
  obtain ⟨w3, hw3⟩ : ∃ w3, w3 = ((w1.alloc (.cells #[.int .i64 M.N, .int .i64 M.H, .slice A1 M.t.length c1, .slice B1 M.o.length d1] 88)).alloc (.cells #[] 39)).alloc (.cells #[] 3) := ⟨_, rfl⟩
  have X6 := zH (show Bx w3 w1.heap.size 88 #[.int .i64 M.N, .int .i64 M.H, .slice A1 M.t.length c1, .slice B1 M.o.length d1] from hw3 ▸ ((Bx.new w1 _ _).alloc _).alloc _)
  have T1 := zH (show w3.ownsRow w.heap.size 128 2 (.slice A1 M.t.length c1) M.t.length (cellsP M.t) from hw3 ▸ ((t1.alloc _).alloc _).alloc _)
  have B3 := zH (show Below w.heap.size w w3 from hw3 ▸ ((b1.alloc (by omega) _).alloc (by simp <;> omega) _).alloc (by simp <;> omega) _)
  have OG := zH (show w3.ownsRow w.heap.size 39 4 (.slice (some ⟨w1.heap.size + 1, 0, none⟩) 0 0) 0 (cellsG []) from hw3 ▸ (own0_bx (by omega) (Bx.new' (by simp))).alloc _)
  have MP := zH (show w3.ownsRow w.heap.size 3 1 (.slice (some ⟨w1.heap.size + 1 + 1, 0, none⟩) 0 0) 0 (cellsI []) from hw3 ▸ own0_bx (by omega) (Bx.new' (by simp)))
  go_wp2_with fail
  rw [<- hw3]
  clear hw3 t1 o1 b1
  refine (s_IdP _ _).mono ?_
  rintro e w4 ⟨v, rfl, ⟨A4, c4, B4, d4, rfl, t4, o4⟩, b4⟩
  have hs3 := B3.out.size
  have l6 := (X6.out.below b4).lt
  have hw1 : w.heap.size <= w4.heap.size := (below_trans B3.out b4).size
  have ST := zH (show FS w1.heap.size w4.heap.size M A1 c1 B1 d1 w (idP N) A4 c4 B4 d4 (some ⟨w1.heap.size + 1 + 1, 0, none⟩) 0 [] (some ⟨w1.heap.size + 1, 0, none⟩) 0 [] (w4.alloc (.cells #[.int .i64 (idP N).N, .int .i64 (idP N).H, .slice A4 (idP N).t.length c4, .slice B4 (idP N).o.length d4] 88)) from ⟨(X6.out.below b4).alloc _, Bx.new _ _ _, (ownsRow_below T1.out b4).alloc _, (ownsRow_base t4 hs3).alloc _, (ownsRow_base o4 hs3).alloc _, (ownsRow_below OG.out b4).alloc _, (ownsRow_below MP.out b4).alloc _, (below_trans B3.out b4).alloc hw1 _, hw1, by omega⟩)
  clear t4 o4 b4 X6 T1 B3 OG MP
  go_wp2_with fail
  generalize idP N = p0 at HC HO I1 i2 ST ⊢
  generalize hg6 : w1.heap.size = g6 at ST l6 ⊢
  generalize hg10 : w4.heap.size = g10 at ST l6 hw1 ⊢
  clear hs1 hs3 hg6 hg10
  obtain ⟨w5, hw5⟩ : ∃ w5, w5 = w4.alloc (.cells #[.int .i64 p0.N, .int .i64 p0.H, .slice A4 p0.t.length c4, .slice B4 p0.o.length d4] 88) := ⟨_, rfl⟩
  rw [<- hw5] at ST ⊢
  clear hw5
  go_loopg [8, 9, 11] n (fun r s mt i wr => ∃ (k : Nat) (p : Po) (A2 : Option Addr) (c2 : Nat) (B2 : Option Addr) (d2 : Nat) (A9 : Option Addr) (c9 : Nat) (met : List Int) (A3 : Option Addr) (c3 : Nat) (acc : List Gt), k + r = n /\ i = .int .i64 k /\ s = .slice A3 acc.length c3 /\ mt = .slice A9 met.length c9 /\ foldL M.t p met acc (gs.drop k) = OUT /\ (compL p (gs.drop k)).2 = true /\ p.t.length <= k /\ p.o.length <= 4 /\ acc.length <= 2 * k /\ met.length <= k /\ FS g6 g10 M A1 c1 B1 d1 w p A2 c2 B2 d2 A9 c9 met A3 c3 acc wr)
  case atStart => exact ⟨0, p0, A4, c4, B4, d4, _, 0, [], _, 0, [], by omega, rfl, rfl, rfl, HO.out, by rw [List.drop_zero, HC.out], by have := I1.out; omega, i2, by simp, by simp, ST.out⟩
  case round =>
   clear ST HC HO I1 i2 l6
   obtain ⟨k, p, A2, c2, B2, d2, A9, c9, met, A3, c3, acc, hk, rfl, rfl, rfl, hf, hcl, htl, hol, hal, hml, hst⟩ := hrel
   have HFL := zH hf
   have HCL := zH hcl
   have ST := zH hst
   clear hf hcl hst
   by_cases hlt : k < n
   ·have HB := zH ST.out.2.2.2.2.2.2.2.1
    have hbs := HB.out.size
    have h10 := ST.out.2.2.2.2.2.2.2.2.1
    obtain ⟨bb, off, g, rfl, hBb, hd, c0, c1', c2', c3'⟩ := (H.out.below HB.out).at_ hlt
    have HD := zH hd
    clear hd
    have hkI : (k : Int) < (n : Int) := by omega
    have hk0 : (0 : Int) <= (k : Int) := by omega
    have hfit := compL_fit (p := p) (g := g) (r := gs.drop (k + 1)) (by rw [<- HD.out]; exact HCL.out)
    have hap := (compL_ok (p := p) (g := g) (r := gs.drop (k + 1)) (by rw [<- HD.out]; exact HCL.out)).1
    obtain ⟨gk', ga', gb', gc'⟩ := g
    dsimp only at c0 c1' c2' c3' hfit
    obtain ⟨a, rfl⟩ : ∃ a : Nat, ga' = a := ⟨ga'.toNat, by omega⟩
    obtain ⟨q, hq⟩ : ∃ q, applyP p ⟨gk', a, gb', gc'⟩ = (q, true) := ⟨_, Prod.ext rfl hap⟩
    have hbd := applyP_bd p ⟨gk', a, gb', gc'⟩
    rw [hq] at hbd
    have hq1 : q.t.length <= p.t.length + 1 := hbd.1
    have hq2 : q.o.length <= p.o.length := hbd.2.1
    have HQ1 := zH hq
    have HC1 := zH (compL_next (by rw [<- HD.out]; exact HCL.out) hq)
    obtain ⟨ha0, ha1, ha2⟩ := hfit
    have haN : a < p.o.length := by omega
    have haI : (a : Int) < (p.o.length : Int) := by omega
    have ha0' : (0 : Int) <= (a : Int) := by omega
    obtain ⟨gB, hB2, hgB1, hgB2, u0, u1, _, _⟩ := own2At ST.out.2.2.2.2.1 haN
    subst hB2
    obtain ⟨⟨x, y⟩, hxy⟩ : ∃ z, p.o.getD a (0, 0) = z := ⟨_, rfl⟩
    rw [hxy] at u0 u1
    dsimp only at u0 u1
    have HXY : Hid (at2 p.o (a : Int) = (x, y)) := zH (by show p.o.getD (Int.toNat a) _ = _; rw [Int.toNat_natCast]; exact hxy)
    clear hap hq hbd hxy ha0 ha1 ha2
    have lg6 := ST.out.1.lt
    have lg10 := ST.out.2.1.lt
    obtain ⟨s0, s1, s2, s3, t0, t1, t2, t3⟩ := ST.out.2.1.four
    have hz4 : (Value.agg #[.int .i64 0, .int .i64 0, .int .i64 0, .int .i64 0]).cells.size = 4 := rfl
    have HNE := zH (own_new_ne ST.out.2.2.2.2.2.1)
    have S2 := zH (FS.alloc (FS.alloc ST.out (.cells #[.int .i64 gk', .int .i64 (a : Int), .int .i64 gb', .int .i64 gc'] 39)) (.cells #[.int .i64 x, .int .i64 y] 93))
    have G2 := zH ((Bx.new wr 39 #[.int .i64 gk', .int .i64 (a : Int), .int .i64 gb', .int .i64 gc']).alloc (.cells #[.int .i64 x, .int .i64 y] 93))
    have V2 := zH (Bx.new (wr.alloc (.cells #[.int .i64 gk', .int .i64 (a : Int), .int .i64 gb', .int .i64 gc'] 39)) 93 #[.int .i64 x, .int .i64 y])
    obtain ⟨W2, hW2⟩ : ∃ W2, W2 = (wr.alloc (.cells #[.int .i64 gk', .int .i64 (a : Int), .int .i64 gb', .int .i64 gc'] 39)).alloc (.cells #[.int .i64 x, .int .i64 y] 93) := ⟨_, rfl⟩
    rw [<- hW2] at S2 G2 V2
    have HW2 := zH hW2
    clear hW2
    have hgs : (wr.alloc (.cells #[.int .i64 gk', .int .i64 (a : Int), .int .i64 gb', .int .i64 gc'] 39)).heap.size = wr.heap.size + 1 := by simp
    rw [hgs] at V2
    clear hgs
    go_wp2_with fail
    rw [<- HW2.out]
    have ST := S2
    refine (s_ApplyP p.N p.H A2 p.t.length c2 p.t _ p.o.length d2 p.o ⟨gk', a, gb', gc'⟩ _ (RdP.own ST.out.2.2.2.1) (RdP.own ST.out.2.2.2.2.1) (by omega) (by omega) (ownsRow_cap ST.out.2.2.2.1)).mono ?_
    rintro e w8 ⟨v, rfl, ⟨A8, c8, B8, d8, rfl, t8, o8⟩, b8⟩
    rw [show applyP ⟨p.N, p.H, p.t, p.o⟩ ⟨gk', a, gb', gc'⟩ = (q, true) from HQ1.out] at t8 o8 ⊢
    dsimp only at t8 o8 ⊢
    clear s0 s1 s2 s3 t0 t1 t2 t3 u0 u1 c0 c1' c2' c3'
    have hs8 := ST.out.2.2.2.2.2.2.2.1.size
    have S8 := zH (FS.below ST.out b8)
    obtain ⟨s0, s1, s2, s3, t0, t1, t2, t3⟩ := S8.out.2.1.four
    have l8 := S8.out.2.1.lt
    have S9 := zH (FS.poly S8.out t8 o8 hs8)
    have G9 := zH (show Bx ((((w8.setCell ⟨g10, 0, none⟩ (.int .i64 q.N)).setCell ⟨g10, 1, none⟩ (.int .i64 q.H)).setCell ⟨g10, 2, none⟩ (.slice A8 q.t.length c8)).setCell ⟨g10, 3, none⟩ (.slice B8 q.o.length d8)) wr.heap.size 39 _ from set4K (G2.out.below b8) (by omega))
    have V9 := zH (show Bx ((((w8.setCell ⟨g10, 0, none⟩ (.int .i64 q.N)).setCell ⟨g10, 1, none⟩ (.int .i64 q.H)).setCell ⟨g10, 2, none⟩ (.slice A8 q.t.length c8)).setCell ⟨g10, 3, none⟩ (.slice B8 q.o.length d8)) (wr.heap.size + 1) 93 _ from Bx.far (Bx.far (Bx.far (Bx.far (V2.out.below b8) (by show _ ≠ g10; omega) _) (by show _ ≠ g10; omega) _) (by show _ ≠ g10; omega) _) (by show _ ≠ g10; omega) _)
    clear t8 o8 b8 S2 ST S8 G2 V2
    go_upto_region 13 with fail
    generalize ((((w8.setCell ⟨g10, 0, none⟩ (.int .i64 q.N)).setCell ⟨g10, 1, none⟩ (.int .i64 q.H)).setCell ⟨g10, 2, none⟩ (.slice A8 q.t.length c8)).setCell ⟨g10, 3, none⟩ (.slice B8 q.o.length d8)) = W9 at S9 G9 V9 ⊢
    clear s0 s1 s2 s3 t0 t1 t2 t3 l8 hs8
    obtain ⟨z0, z1, _, _⟩ := V9.out.two
    obtain ⟨y0, y1, y2, y3, _, _, _, _⟩ := G9.out.four
    have hs9 := S9.out.2.2.2.2.2.2.2.1.size
    have hz4 : (Value.agg #[.int .i64 0, .int .i64 0, .int .i64 0, .int .i64 0]).cells.size = 4 := rfl
    have hz1 : (Value.int .i64 0).cells.size = 1 := rfl
    cases hu : (units gk' == 0)
    rotate_left
    ·have HU := zH hu
     go_wp2_with fail
     refine (s_RotationUnits _ _).mono ?_
     rintro e w' ⟨rfl, rfl⟩
     have SA := zH (FS.alloc S9.out (.cells #[.int .i64 gk', .int .i64 (a : Int), .int .i64 gb', .int .i64 gc'] 39))
     have RL2 := zH (Rd.lit W9 39 #[.int .i64 gk', .int .i64 (a : Int), .int .i64 gb', .int .i64 gc'] 1 4 rfl)
     go_wp2_with (at_builtin; refine wpList_app rfl (.tmp 58) (.tmp 60) 24 rfl Tryz.underlying24 infoGate hz4 (by decide) rfl SA.out.2.2.2.2.2.1 rfl RL2.out (by simp [Value.oneCell']) (by omega) (by decide) (by simp <;> omega) ?_; intro A7 c7 w7 o7 g7; have S7 := zH (FS.app SA.out (acc' := acc ++ [⟨gk', a, gb', gc'⟩]) g7 (by rw [cellsG_append]; exact o7)))
     go_roundg (gk - 1)
     case measure => omega
     case rel => exact ⟨k + 1, q, A8, c8, B8, d8, _, _, met, _, _, acc ++ [⟨gk', a, gb', gc'⟩], by omega, by go_num, (by first | rfl | (rw [HTC.out]; simp [rotG]) | simp), (by first | rfl | simp), by rw [<- HFL.out, HD.out, foldL_0 HU.out HQ1.out], HC1.out, by omega, by omega, by have := hal; simp; omega, by omega, S7.out⟩
    ·have HU := zH hu
     have MR := zH S9.out.2.2.2.2.2.2.1
     go_wp2_with fail
     refine (s_RotationUnits _ _).mono ?_
     rintro e w' ⟨rfl, rfl⟩
     go_wp2_with fail
     refine (s_hasI _ _ _ met x _ (RdI.own MR.out) (by omega)).mono ?_
     rintro e w' ⟨rfl, rfl⟩
     cases hm : met.any (· == x)
     rotate_left
     ·have HMT := zH hm
      rw [show hasI met x = true from hm]
      clear hm
      go_wp2_with fail
      go_roundg (gk - 1)
      case measure => omega
      case rel => exact ⟨k + 1, q, A8, c8, B8, d8, _, _, met, _, _, acc, by omega, by go_num, (by first | rfl | (rw [HTC.out]; simp [rotG]) | simp), (by first | rfl | simp), by rw [<- HFL.out, HD.out, foldL_old HU.out HXY.out HMT.out HQ1.out], HC1.out, by omega, by omega, by omega, by omega, S9.out⟩
     ·have HMT := zH hm
      rw [show hasI met x = false from hm]
      clear hm
      obtain ⟨cv, hcv⟩ : ∃ c, coefT M.t x = c := ⟨_, rfl⟩
      have HCV := zH hcv
      have SA := zH (FS.alloc S9.out (.cells #[.int .i64 x] 3))
      have GA := zH (G9.out.alloc (.cells #[.int .i64 x] 3))
      have VA := zH (V9.out.alloc (.cells #[.int .i64 x] 3))
      have RL2 := zH (Rd.lit W9 3 #[.int .i64 x] 1 1 rfl)
      go_wp2_with (at_builtin; refine wpList_app rfl (.tmp 66) (.tmp 69) 58 rfl Tryz.underlying58 infoInt1 hz1 (by decide) rfl SA.out.2.2.2.2.2.2.1 rfl RL2.out (by simp [Value.oneCell']) (by omega) (by decide) (by simp <;> omega) ?_; intro A6 c6 w6 o6 g6'; have S6 := zH (FS.metApp SA.out (met' := met ++ [x]) g6' (by rw [cellsI_append]; exact o6)); have G6 := zH (kept_app SA.out.2.2.2.2.2.2.1 g6' GA.out (by decide)); have V6 := zH (kept_app SA.out.2.2.2.2.2.2.1 g6' VA.out (by decide)); have ⟨r0, r1, r2, r3, _, _, _, _⟩ := S6.out.1.four; have ⟨z0', z1', _, _⟩ := V6.out.two)
      refine (s_coef _ _ _ _ _ _ _ _ M.t x _ (RdP.own S6.out.2.2.1) (by omega)).mono ?_
      rintro e w4 ⟨rfl, bk⟩
      rw [hcv]
      clear hcv
      have S4 := zH (FS.below S6.out bk)
      have G4 := zH (G6.out.below bk)
      have V4 := zH (V6.out.below bk)
      clear z0 z1 y0 y1 y2 y3
      obtain ⟨z0, z1, _, _⟩ := V4.out.two
      obtain ⟨y0, y1, y2, y3, _, _, _, _⟩ := G4.out.four
      clear bk S9 G9 V9 SA GA VA RL2 S6 G6 V6 MR
      cases hy1 : (y == 1)
      ·have HY1 := zH hy1
       have HTC : Hid (turnC (coefT M.t x) y = cv) := zH (by rw [HCV.out]; exact turnC_0 hy1)
       obtain ⟨cc, hcc⟩ : ∃ c, cv = c := ⟨_, rfl⟩
       subst hcc
       have hrk := rotK_len cv
       go_wp2_with fail
       refine (s_RotationGates _ _ _).mono ?_
       rintro e w5 ⟨A5, c5, rfl, o5, b5⟩
       have O5 := zH o5
       have S5 := zH (FS.below S4.out b5)
       have hs5 := S5.out.2.2.2.2.2.2.2.1.size
       clear o5 b5 z0 z1 y0 y1 y2 y3 hy1
       go_wp2_with (at_builtin; refine wpList_app rfl (.tmp 81) (.tmp 85) 24 rfl Tryz.underlying24 infoGate hz4 (by decide) rfl S5.out.2.2.2.2.2.1 rfl (Rd.own O5.out) one_cellsG (by omega) (by decide) (by omega) ?_; intro A7 c7 w7 o7 g7; have S7 := zH (FS.app S5.out (acc' := acc ++ rotG (turnC (coefT M.t x) y) (a : Int)) g7 (by rw [HTC.out, cellsG_append]; exact o7)))
       go_roundg (gk - 1)
       case measure => omega
       case rel => exact ⟨k + 1, q, A8, c8, B8, d8, _, _, met ++ [x], _, _, acc ++ rotG (turnC (coefT M.t x) y) (a : Int), by omega, by go_num, (by first | rfl | (rw [HTC.out]; simp [rotG]) | simp), (by first | rfl | simp), by rw [<- HFL.out, HD.out, foldL_new HU.out HXY.out HMT.out HQ1.out], HC1.out, by omega, by omega, by have h1 := rotG_len (turnC (coefT M.t x) y) (a : Int); have h2 := rotK_len (turnC (coefT M.t x) y); rw [List.length_append]; omega, by rw [List.length_append, List.length_singleton]; omega, S7.out⟩
      ·have HY1 := zH hy1
       have HTC : Hid (turnC (coefT M.t x) y = ((-cv) % 8)) := zH (by rw [HCV.out]; exact turnC_1 hy1)
       go_wp2_with fail
       refine (s_l32Rest _ _).mono ?_
       rintro e w' ⟨rfl, rfl⟩
       rw [wrap_mod8]
       obtain ⟨cc, hcc⟩ : ∃ c, ((-cv) % 8) = c := ⟨_, rfl⟩
       rw [hcc] at HTC ⊢
       clear hcc
       have hrk := rotK_len cc
       go_wp2_with fail
       refine (s_RotationGates _ _ _).mono ?_
       rintro e w5 ⟨A5, c5, rfl, o5, b5⟩
       have O5 := zH o5
       have S5 := zH (FS.below S4.out b5)
       have hs5 := S5.out.2.2.2.2.2.2.2.1.size
       clear o5 b5 z0 z1 y0 y1 y2 y3 hy1
       go_wp2_with (at_builtin; refine wpList_app rfl (.tmp 81) (.tmp 85) 24 rfl Tryz.underlying24 infoGate hz4 (by decide) rfl S5.out.2.2.2.2.2.1 rfl (Rd.own O5.out) one_cellsG (by omega) (by decide) (by omega) ?_; intro A7 c7 w7 o7 g7; have S7 := zH (FS.app S5.out (acc' := acc ++ rotG (turnC (coefT M.t x) y) (a : Int)) g7 (by rw [HTC.out, cellsG_append]; exact o7)))
       go_roundg (gk - 1)
       case measure => omega
       case rel => exact ⟨k + 1, q, A8, c8, B8, d8, _, _, met ++ [x], _, _, acc ++ rotG (turnC (coefT M.t x) y) (a : Int), by omega, by go_num, (by first | rfl | (rw [HTC.out]; simp [rotG]) | simp), (by first | rfl | simp), by rw [<- HFL.out, HD.out, foldL_new HU.out HXY.out HMT.out HQ1.out], HC1.out, by omega, by omega, by have h1 := rotG_len (turnC (coefT M.t x) y) (a : Int); have h2 := rotK_len (turnC (coefT M.t x) y); rw [List.length_append]; omega, by rw [List.length_append, List.length_singleton]; omega, S7.out⟩
   ·have hkn : k = n := by omega
    have hE : acc = OUT := by have e := HFL.out; rw [List.drop_eq_nil_of_le (by have := HL.out; omega)] at e; exact e
    subst hE
    clear HFL HCL hkn
    have GA := zH ST.out.2.2.2.2.2.1
    go_wp2_with fail
    refine (s_CompP _ _ _ acc N _ (RdG.own GA.out) (by omega)).mono ?_
    rintro e w8 ⟨v, rfl, ⟨A8, c8, B8, d8, rfl, t8, o8⟩, b8⟩
    rw [HQ.out] at t8 o8 ⊢
    have S8 := zH (FS.below ST.out b8)
    obtain ⟨r0, r1, r2, r3, _, _, _, _⟩ := S8.out.1.four
    have l8 := S8.out.1.lt
    have hb8 := S8.out.2.2.2.2.2.2.2.1.size
    clear t8 o8 b8
    go_wp2_with fail
    refine (s_l32Rest _ _).mono ?_
    rintro e w' ⟨rfl, rfl⟩
    rw [wrap_mod8]
    go_wp2_with fail
    go_ret2
    exact ⟨A3, c3, rfl, S8.out.2.2.2.2.2.1.alloc _, S8.out.2.2.2.2.2.2.2.1.alloc hb8 _⟩
end Go.Proofs.YtmenmibfkojnoaaGreat
