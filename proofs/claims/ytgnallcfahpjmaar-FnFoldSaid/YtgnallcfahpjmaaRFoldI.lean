/- Contract of FoldPhases (impl). At most 2^20 gates. -/
import Derived.Test.YtgnallcfahpjmaaRFoldE
import Derived.Test.YtgnallcfahpjmaaRPolyL
import Derived.Test.YtgnallcfahpjmaaRReads
import Derived.Test.YtgnallcfahpjmaaRIntS
import Derived.Outline
import Derived.WideMake
namespace Go.Proofs.YtgnallcfahpjmaaR
open Go.RowKit
set_option linter.unusedVariables false

set_option maxRecDepth 100000 in
set_option maxHeartbeats 12800000 in
theorem i_FoldP (A : Option Addr) (n cap : Nat) (gs : List Gt) (N : Int) (w : World) (h : RdG w A n gs) (hn : n ≤ 1048576) :
    Calls Try.prog 16 #[.slice A n cap, .int .i64 N] w (RetGI (foldP gs N) w) := by
  have H := Lib.hid h
  have HL := Lib.hid h.1
  clear h
  obtain ⟨⟨M, mb⟩, hM⟩ : ∃ R, compP gs N = R := ⟨_, rfl⟩
  have HM := Lib.hid hM
  have hbd := compP_bd gs N
  rw [hM, HL.out] at hbd
  obtain ⟨hb1, hb2⟩ : M.t.length ≤ n ∧ M.o.length ≤ 4 := hbd
  cases mb
  · have HF := Lib.hid (foldP_no (gs := gs) (n := N) (by rw [hM]))
    clear hM
    rw [HF.out]
    go_enter Try.func16, Try.ntmps16
    go_wp2_with fail
    refine (i_CompP _ _ _ gs N _ H.out (by omega)).mono ?_
    rintro e w1 ⟨v, rfl, ⟨A1, c1, B1, d1, rfl, t1, o1⟩, b1⟩
    rw [HM.out] at t1 o1 ⊢
    dsimp only at t1 o1 ⊢
    have BX := Lib.hid (b1.alloc b1.size (.cells #[.int .i64 M.N, .int .i64 M.H, .slice A1 M.t.length c1, .slice B1 M.o.length d1] 32))
    go_wp2_with fail
    refine (i_copyGates _ _ _ _ _ (H.out.below BX.out) (by omega)).mono ?_
    rintro e w2 ⟨A2, c2, rfl, o2, b2⟩
    go_wp2_with fail
    go_ret2
    have hl := HL.out
    subst hl
    exact ⟨A2, c2, rfl, ownsRow_base o2 BX.out.size, below_trans BX.out b2⟩
  · have HF := Lib.hid (foldP_yes (gs := gs) (n := N) (by rw [hM]))
    obtain ⟨hin, hcl⟩ := compP_in hM
    obtain ⟨i1, i2⟩ := idP_len hin
    have I1 := Lib.hid i1
    clear i1
    have HC := Lib.hid hcl
    clear hM hin hcl
    rw [HF.out, HM.out]
    dsimp only
    have hOl := foldL_len M.t gs (idP N) [] []
    rw [HL.out, List.length_nil, Nat.zero_add] at hOl
    obtain ⟨OUT, hO⟩ : ∃ O, foldL M.t (idP N) [] [] gs = O := ⟨_, rfl⟩
    rw [hO] at hOl ⊢
    have HO := Lib.hid hO
    clear hO
    obtain ⟨Q, hQ⟩ : ∃ Q, compP OUT N = Q := ⟨_, rfl⟩
    rw [hQ]
    have HQ := Lib.hid hQ
    clear hQ
    go_enter Try.func16, Try.ntmps16
    go_wp2_with fail
    refine (i_CompP _ _ _ gs N _ H.out (by omega)).mono ?_
    rintro e w1 ⟨v, rfl, ⟨A1, c1, B1, d1, rfl, t1, o1⟩, b1⟩
    rw [HM.out] at t1 o1 ⊢
    dsimp only at t1 o1 ⊢
    have hs1 := b1.size
    have hmk := run_makeMap_plain (P := Try.prog) (w := (w1.alloc (.cells #[.int .i64 M.N, .int .i64 M.H, .slice A1 M.t.length c1, .slice B1 M.o.length d1] 32)).alloc (.cells #[] 63)) 89
    obtain ⟨w3, hw3⟩ : ∃ w3, w3 = ((w1.alloc (.cells #[.int .i64 M.N, .int .i64 M.H, .slice A1 M.t.length c1, .slice B1 M.o.length d1] 32)).alloc (.cells #[] 63)).alloc (.map #[] 0) := ⟨_, rfl⟩
    have X6 := Lib.hid (show Bx w3 w1.heap.size 32 #[.int .i64 M.N, .int .i64 M.H, .slice A1 M.t.length c1, .slice B1 M.o.length d1] from hw3 ▸ ((Bx.new w1 _ _).alloc _).alloc _)
    have T1 := Lib.hid (show w3.ownsRow w.heap.size 36 2 (.slice A1 M.t.length c1) M.t.length (cellsP M.t) from hw3 ▸ ((t1.alloc _).alloc _).alloc _)
    have B3 := Lib.hid (show Below w.heap.size w w3 from hw3 ▸ ((b1.alloc (by omega) _).alloc (by simp <;> omega) _).alloc (by simp <;> omega) _)
    have OG := Lib.hid (show w3.ownsRow w.heap.size 63 4 (.slice (some ⟨w1.heap.size + 1, 0, none⟩) 0 0) 0 (cellsG []) from hw3 ▸ (own0_bx (by omega) (Bx.new' (by simp))).alloc _)
    have MP := Lib.hid (show w3.heap[w1.heap.size + 1 + 1]? = some (.map #[] 0) from by rw [hw3]; have := heap_alloc_new ((w1.alloc (.cells #[.int .i64 M.N, .int .i64 M.H, .slice A1 M.t.length c1, .slice B1 M.o.length d1] 32)).alloc (.cells #[] 63)) (.map #[] 0); simpa using this)
    go_wp2_with fail
    rw [← hw3]
    clear hw3 t1 o1 b1 hmk
    refine (i_IdP _ _).mono ?_
    rintro e w4 ⟨v, rfl, ⟨A4, c4, B4, d4, rfl, t4, o4⟩, b4⟩
    have hs3 := B3.out.size
    have l6 := (X6.out.below b4).lt
    have hw1 : w.heap.size ≤ w4.heap.size := (below_trans B3.out b4).size
    have ST := Lib.hid (show FI w1.heap.size w4.heap.size M A1 c1 B1 d1 w (idP N) A4 c4 B4 d4 (w1.heap.size + 1 + 1) #[] 0 [] (some ⟨w1.heap.size + 1, 0, none⟩) 0 [] (w4.alloc (.cells #[.int .i64 (idP N).N, .int .i64 (idP N).H, .slice A4 (idP N).t.length c4, .slice B4 (idP N).o.length d4] 32)) from ⟨(X6.out.below b4).alloc _, Bx.new _ _ _, (ownsRow_below T1.out b4).alloc _, (ownsRow_base t4 hs3).alloc _, (ownsRow_base o4 hs3).alloc _, (ownsRow_below OG.out b4).alloc _, ⟨map_allocI (map_belowI MP.out b4), by simp [EntsI], by omega⟩, (below_trans B3.out b4).alloc hw1 _, hw1, by omega⟩)
    clear t4 o4 b4 X6 T1 B3 OG MP
    go_wp2_with fail
    generalize idP N = p0 at HC HO I1 i2 ST ⊢
    generalize hg6 : w1.heap.size = g6 at ST l6 ⊢
    generalize hg10 : w4.heap.size = g10 at ST l6 hw1 ⊢
    clear hs1 hs3 hg6 hg10
    obtain ⟨w5, hw5⟩ : ∃ w5, w5 = w4.alloc (.cells #[.int .i64 p0.N, .int .i64 p0.H, .slice A4 p0.t.length c4, .slice B4 p0.o.length d4] 32) := ⟨_, rfl⟩
    rw [← hw5] at ST ⊢
    clear hw5
    go_loopg [8, 33] n (fun r s i wr => ∃ (k : Nat) (p : Po) (A2 : Option Addr) (c2 : Nat) (B2 : Option Addr) (d2 : Nat) (es : Array MapEntry) (ck : Nat) (met : List Int) (A3 : Option Addr) (c3 : Nat) (acc : List Gt), k + r = n ∧ i = .int .i64 k ∧ s = .slice A3 acc.length c3 ∧ foldL M.t p met acc (gs.drop k) = OUT ∧ (compL p (gs.drop k)).2 = true ∧ p.t.length ≤ k ∧ p.o.length ≤ 4 ∧ acc.length ≤ 2 * k ∧ met.length ≤ k ∧ FI g6 g10 M A1 c1 B1 d1 w p A2 c2 B2 d2 (g6 + 1 + 1) es ck met A3 c3 acc wr)
    case atStart => exact ⟨0, p0, A4, c4, B4, d4, #[], 0, [], _, 0, [], by omega, rfl, rfl, HO.out, by rw [List.drop_zero, HC.out], by have := I1.out; omega, i2, by simp, by simp, ST.out⟩
    case round =>
      clear ST HC HO I1 i2 l6
      obtain ⟨k, p, A2, c2, B2, d2, es, ck, met, A3, c3, acc, hk, rfl, rfl, hf, hcl, htl, hol, hal, hml, hst⟩ := hrel
      have HFL := Lib.hid hf
      have HCL := Lib.hid hcl
      have ST := Lib.hid hst
      clear hf hcl hst
      by_cases hlt : k < n
      · have HB := Lib.hid ST.out.2.2.2.2.2.2.2.1
        have hbs := HB.out.size
        have h10 := ST.out.2.2.2.2.2.2.2.2.1
        obtain ⟨bb, off, g, rfl, hBb, hd, c0, c1', c2', c3'⟩ := (H.out.below HB.out).at_ hlt
        have HD := Lib.hid hd
        clear hd
        have hkI : (k : Int) < (n : Int) := by omega
        have hk0 : (0 : Int) ≤ (k : Int) := by omega
        have hfit := compL_fit (p := p) (g := g) (r := gs.drop (k + 1)) (by rw [← HD.out]; exact HCL.out)
        have hap := (compL_ok (p := p) (g := g) (r := gs.drop (k + 1)) (by rw [← HD.out]; exact HCL.out)).1
        obtain ⟨gk', ga', gb', gc'⟩ := g
        dsimp only at c0 c1' c2' c3' hfit
        obtain ⟨a, rfl⟩ : ∃ a : Nat, ga' = a := ⟨ga'.toNat, by omega⟩
        obtain ⟨q, hq⟩ : ∃ q, applyP p ⟨gk', a, gb', gc'⟩ = (q, true) := ⟨_, Prod.ext rfl hap⟩
        have hbd := applyP_bd p ⟨gk', a, gb', gc'⟩
        rw [hq] at hbd
        have hq1 : q.t.length ≤ p.t.length + 1 := hbd.1
        have hq2 : q.o.length ≤ p.o.length := hbd.2.1
        have HQ1 := Lib.hid hq
        have HC1 := Lib.hid (compL_next (by rw [← HD.out]; exact HCL.out) hq)
        obtain ⟨ha0, ha1, ha2⟩ := hfit
        have haN : a < p.o.length := by omega
        have haI : (a : Int) < (p.o.length : Int) := by omega
        have ha0' : (0 : Int) ≤ (a : Int) := by omega
        obtain ⟨gB, hB2, hgB1, hgB2, u0, u1, _, _⟩ := own2At ST.out.2.2.2.2.1 haN
        subst hB2
        obtain ⟨⟨x, y⟩, hxy⟩ : ∃ z, p.o.getD a (0, 0) = z := ⟨_, rfl⟩
        rw [hxy] at u0 u1
        dsimp only at u0 u1
        have HXY : Hid (at2 p.o (a : Int) = (x, y)) := Lib.hid (by show p.o.getD (Int.toNat a) _ = _; rw [Int.toNat_natCast]; exact hxy)
        clear hap hq hbd hxy ha0 ha1 ha2
        have lg6 := ST.out.1.lt
        have lg10 := ST.out.2.1.lt
        obtain ⟨s0, s1, s2, s3, t0, t1, t2, t3⟩ := ST.out.2.1.four
        have hz4 : (Value.agg #[.int .i64 0, .int .i64 0, .int .i64 0, .int .i64 0]).cells.size = 4 := rfl
        cases hu : (units gk' == 0)
        rotate_left
        · have HU := Lib.hid hu
          go_wp2_with fail
          refine (i_RotationUnits _ _).mono ?_
          rintro e w' ⟨rfl, rfl⟩
          have SA := Lib.hid (FI.alloc (FI.alloc ST.out (.cells #[.int .i64 gk', .int .i64 (a : Int), .int .i64 gb', .int .i64 gc'] 63)) (.cells #[.int .i64 gk', .int .i64 (a : Int), .int .i64 gb', .int .i64 gc'] 63))
          have GX := Lib.hid ((Bx.new wr 63 #[.int .i64 gk', .int .i64 (a : Int), .int .i64 gb', .int .i64 gc']).alloc (.cells #[.int .i64 gk', .int .i64 (a : Int), .int .i64 gb', .int .i64 gc'] 63))
          have RL := Rd.lit (wr.alloc (.cells #[.int .i64 gk', .int .i64 (a : Int), .int .i64 gb', .int .i64 gc'] 63)) 63 #[.int .i64 gk', .int .i64 (a : Int), .int .i64 gb', .int .i64 gc'] 1 4 rfl
          rw [World.size_alloc] at RL
          have RL2 := Lib.hid RL
          clear RL
          go_wp2_with (at_builtin; refine wpList_app rfl (.tmp 41) (.tmp 43) 24 rfl Try.underlying24 infoGate hz4 (by decide) rfl SA.out.2.2.2.2.2.1 rfl RL2.out (by simp [Value.oneCell']) (by omega) (by decide) (by simp <;> omega) ?_; intro A7 c7 w7 o7 g7; have G7 := Lib.hid (GX.out.grown g7 (own_new_ne ST.out.2.2.2.2.2.1)); have S7 := Lib.hid (FI.app SA.out (acc' := acc ++ [⟨gk', a, gb', gc'⟩]) g7 (by rw [cellsG_append]; exact o7)); have ⟨s0, s1, s2, s3, t0, t1, t2, t3⟩ := S7.out.2.1.four; have ⟨y0, y1, y2, y3, _, _, _, _⟩ := G7.out.four)
          have ST := S7
          refine (i_ApplyP p.N p.H A2 p.t.length c2 p.t _ p.o.length d2 p.o ⟨gk', a, gb', gc'⟩ _ (RdP.own ST.out.2.2.2.1) (RdP.own ST.out.2.2.2.2.1) (by omega) (by omega) (ownsRow_cap ST.out.2.2.2.1)).mono ?_
          rintro e w8 ⟨v, rfl, ⟨A8, c8, B8, d8, rfl, t8, o8⟩, b8⟩
          rw [show applyP ⟨p.N, p.H, p.t, p.o⟩ ⟨gk', a, gb', gc'⟩ = (q, true) from HQ1.out] at t8 o8 ⊢
          dsimp only at t8 o8 ⊢
          have hs8 := ST.out.2.2.2.2.2.2.2.1.size
          have S8 := Lib.hid (FI.below ST.out b8)
          obtain ⟨s0, s1, s2, s3, t0, t1, t2, t3⟩ := S8.out.2.1.four
          have l8 := S8.out.2.1.lt
          have S9 := Lib.hid (FI.poly S8.out t8 o8 hs8)
          clear t8 o8
          go_wp2_with fail
          go_roundg (gk - 1)
          case measure => omega
          case rel => exact ⟨k + 1, q, A8, c8, B8, d8, _, _, met, _, _, acc ++ [⟨gk', a, gb', gc'⟩], by omega, by go_num, (by first | rfl | (rw [HTC.out]; simp [rotG]) | simp), by rw [← HFL.out, HD.out, foldL_0 HU.out HQ1.out], HC1.out, by omega, by omega, by have := hal; simp; omega, by omega, S9.out⟩
        · have HU := Lib.hid hu
          have S2 := Lib.hid (FI.alloc (FI.alloc ST.out (.cells #[.int .i64 gk', .int .i64 (a : Int), .int .i64 gb', .int .i64 gc'] 63)) (.cells #[.int .i64 x, .int .i64 y] 93))
          have G2 := Lib.hid ((Bx.new wr 63 #[.int .i64 gk', .int .i64 (a : Int), .int .i64 gb', .int .i64 gc']).alloc (.cells #[.int .i64 x, .int .i64 y] 93))
          have V2 := Lib.hid (Bx.new (wr.alloc (.cells #[.int .i64 gk', .int .i64 (a : Int), .int .i64 gb', .int .i64 gc'] 63)) 93 #[.int .i64 x, .int .i64 y])
          obtain ⟨W2, hW2⟩ : ∃ W2, W2 = (wr.alloc (.cells #[.int .i64 gk', .int .i64 (a : Int), .int .i64 gb', .int .i64 gc'] 63)).alloc (.cells #[.int .i64 x, .int .i64 y] 93) := ⟨_, rfl⟩
          rw [← hW2] at S2 G2 V2
          have HW2 := Lib.hid hW2
          clear hW2
          have hgs : (wr.alloc (.cells #[.int .i64 gk', .int .i64 (a : Int), .int .i64 gb', .int .i64 gc'] 63)).heap.size = wr.heap.size + 1 := by simp
          rw [hgs] at V2
          clear hgs
          cases hm : met.any (· == x)
          · have HMT := Lib.hid hm
            have hl := run_lookup_i (g6 + 1 + 1) ck x es met W2 S2.out.2.2.2.2.2.2.1.1 S2.out.2.2.2.2.2.2.1.2.1
            rw [hm] at hl
            obtain ⟨W3, hW3⟩ : ∃ W3, W3 = ({ W2 with heap := W2.heap.setIfInBounds (g6 + 1 + 1) (.map (es.push { key := .int .i64 x, val := .bool true, born := ck }) (ck + 1)) } : World) := ⟨_, rfl⟩
            have hu2 := run_update_i (g6 + 1 + 1) ck x es met W2 S2.out.2.2.2.2.2.2.1.1 S2.out.2.2.2.2.2.2.1.2.1 hm
            rw [← hW3] at hu2
            have S3 := Lib.hid (FI.upd S2.out x)
            have G3 := Lib.hid (G2.out.setObjI (r := g6 + 1 + 1) (bx_map_ne G2.out S2.out.2.2.2.2.2.2.1.1) (.map (es.push { key := .int .i64 x, val := .bool true, born := ck }) (ck + 1)))
            have V3 := Lib.hid (V2.out.setObjI (r := g6 + 1 + 1) (bx_map_ne V2.out S2.out.2.2.2.2.2.2.1.1) (.map (es.push { key := .int .i64 x, val := .bool true, born := ck }) (ck + 1)))
            rw [← hW3] at S3 G3 V3
            clear hW3
            clear hm
            go_upto_region 12 with (go_at_call 77; refine (i_RotationUnits _ _).mono ?_; rintro e w' ⟨rfl, rfl⟩)
            go_upto_region 13 with fail
            rw [← HW2.out]
            obtain ⟨z0, z1, _, _⟩ := V2.out.two
            obtain ⟨y0, y1, y2, y3, _, _, _, _⟩ := G2.out.four
            obtain ⟨r0, r1, r2, r3, _, _, _, _⟩ := S3.out.1.four
            obtain ⟨z0', z1', _, _⟩ := V3.out.two
            obtain ⟨y0', y1', y2', y3', _, _, _, _⟩ := G3.out.four
            obtain ⟨cv, hcv⟩ : ∃ c, coefT M.t x = c := ⟨_, rfl⟩
            have HCV := Lib.hid hcv
            have HNE := Lib.hid (own_new_ne ST.out.2.2.2.2.2.1)
            go_wp2_with fail
            refine (i_coef _ _ _ _ _ _ _ _ M.t x _ (RdP.own S3.out.2.2.1) (by omega)).mono ?_
            rintro e w4 ⟨rfl, bk⟩
            rw [hcv]
            clear hcv z0 z1 y0 y1 y2 y3 z0' z1' y0' y1' y2' y3' r0 r1 r2 r3 hl hu2
            have S4 := Lib.hid (FI.below S3.out bk)
            have G4 := Lib.hid (G3.out.below bk)
            have V4 := Lib.hid (V3.out.below bk)
            obtain ⟨z0, z1, _, _⟩ := V4.out.two
            obtain ⟨y0, y1, y2, y3, _, _, _, _⟩ := G4.out.four
            clear bk S2 G2 V2 S3 G3 V3
            cases hy1 : (y == 1)
            · have HY1 := Lib.hid hy1
              have HTC : Hid (turnC (coefT M.t x) y = cv) := Lib.hid (by rw [HCV.out]; exact turnC_0 hy1)
              obtain ⟨cc, hcc⟩ : ∃ c, cv = c := ⟨_, rfl⟩
              subst hcc
              have hrk := rotK_len cv
              go_wp2_with fail
              refine (i_RotationGates _ _ _).mono ?_
              rintro e w5 ⟨A5, c5, rfl, o5, b5⟩
              have O5 := Lib.hid o5
              have S5 := Lib.hid (FI.below S4.out b5)
              have G5 := Lib.hid (G4.out.below b5)
              have hs5 := S5.out.2.2.2.2.2.2.2.1.size
              clear o5 b5 z0 z1 y0 y1 y2 y3 hy1
              go_wp2_with (at_builtin; refine wpList_app rfl (.tmp 69) (.tmp 73) 24 rfl Try.underlying24 infoGate hz4 (by decide) rfl S5.out.2.2.2.2.2.1 rfl (Rd.own O5.out) one_cellsG (by omega) (by decide) (by omega) ?_; intro A7 c7 w7 o7 g7; have G7 := Lib.hid (G5.out.grown g7 HNE.out); have S7 := Lib.hid (FI.app S5.out (acc' := acc ++ rotG (turnC (coefT M.t x) y) (a : Int)) g7 (by rw [HTC.out, cellsG_append]; exact o7)); have ⟨s0, s1, s2, s3, t0, t1, t2, t3⟩ := S7.out.2.1.four; have ⟨y0, y1, y2, y3, _, _, _, _⟩ := G7.out.four)
              have ST := S7
              refine (i_ApplyP p.N p.H A2 p.t.length c2 p.t _ p.o.length d2 p.o ⟨gk', a, gb', gc'⟩ _ (RdP.own ST.out.2.2.2.1) (RdP.own ST.out.2.2.2.2.1) (by omega) (by omega) (ownsRow_cap ST.out.2.2.2.1)).mono ?_
              rintro e w8 ⟨v, rfl, ⟨A8, c8, B8, d8, rfl, t8, o8⟩, b8⟩
              rw [show applyP ⟨p.N, p.H, p.t, p.o⟩ ⟨gk', a, gb', gc'⟩ = (q, true) from HQ1.out] at t8 o8 ⊢
              dsimp only at t8 o8 ⊢
              have hs8 := ST.out.2.2.2.2.2.2.2.1.size
              have S8 := Lib.hid (FI.below ST.out b8)
              obtain ⟨s0, s1, s2, s3, t0, t1, t2, t3⟩ := S8.out.2.1.four
              have l8 := S8.out.2.1.lt
              have S9 := Lib.hid (FI.poly S8.out t8 o8 hs8)
              clear t8 o8
              go_wp2_with fail
              go_roundg (gk - 1)
              case measure => omega
              case rel => exact ⟨k + 1, q, A8, c8, B8, d8, _, _, met ++ [x], _, _, acc ++ rotG (turnC (coefT M.t x) y) (a : Int), by omega, by go_num, (by first | rfl | (rw [HTC.out]; simp [rotG]) | simp), by rw [← HFL.out, HD.out, foldL_new HU.out HXY.out HMT.out HQ1.out], HC1.out, by omega, by omega, by have h1 := rotG_len (turnC (coefT M.t x) y) (a : Int); have h2 := rotK_len (turnC (coefT M.t x) y); rw [List.length_append]; omega, by rw [List.length_append, List.length_singleton]; omega, S9.out⟩
            · have HY1 := Lib.hid hy1
              have HTC : Hid (turnC (coefT M.t x) y = ((-cv) % 8)) := Lib.hid (by rw [HCV.out]; exact turnC_1 hy1)
              go_wp2_with fail
              refine (i_mod8 _ _).mono ?_
              rintro e w' ⟨rfl, rfl⟩
              rw [wrap_mod8]
              obtain ⟨cc, hcc⟩ : ∃ c, ((-cv) % 8) = c := ⟨_, rfl⟩
              rw [hcc] at HTC ⊢
              clear hcc
              have hrk := rotK_len cc
              go_wp2_with fail
              refine (i_RotationGates _ _ _).mono ?_
              rintro e w5 ⟨A5, c5, rfl, o5, b5⟩
              have O5 := Lib.hid o5
              have S5 := Lib.hid (FI.below S4.out b5)
              have G5 := Lib.hid (G4.out.below b5)
              have hs5 := S5.out.2.2.2.2.2.2.2.1.size
              clear o5 b5 z0 z1 y0 y1 y2 y3 hy1
              go_wp2_with (at_builtin; refine wpList_app rfl (.tmp 69) (.tmp 73) 24 rfl Try.underlying24 infoGate hz4 (by decide) rfl S5.out.2.2.2.2.2.1 rfl (Rd.own O5.out) one_cellsG (by omega) (by decide) (by omega) ?_; intro A7 c7 w7 o7 g7; have G7 := Lib.hid (G5.out.grown g7 HNE.out); have S7 := Lib.hid (FI.app S5.out (acc' := acc ++ rotG (turnC (coefT M.t x) y) (a : Int)) g7 (by rw [HTC.out, cellsG_append]; exact o7)); have ⟨s0, s1, s2, s3, t0, t1, t2, t3⟩ := S7.out.2.1.four; have ⟨y0, y1, y2, y3, _, _, _, _⟩ := G7.out.four)
              have ST := S7
              refine (i_ApplyP p.N p.H A2 p.t.length c2 p.t _ p.o.length d2 p.o ⟨gk', a, gb', gc'⟩ _ (RdP.own ST.out.2.2.2.1) (RdP.own ST.out.2.2.2.2.1) (by omega) (by omega) (ownsRow_cap ST.out.2.2.2.1)).mono ?_
              rintro e w8 ⟨v, rfl, ⟨A8, c8, B8, d8, rfl, t8, o8⟩, b8⟩
              rw [show applyP ⟨p.N, p.H, p.t, p.o⟩ ⟨gk', a, gb', gc'⟩ = (q, true) from HQ1.out] at t8 o8 ⊢
              dsimp only at t8 o8 ⊢
              have hs8 := ST.out.2.2.2.2.2.2.2.1.size
              have S8 := Lib.hid (FI.below ST.out b8)
              obtain ⟨s0, s1, s2, s3, t0, t1, t2, t3⟩ := S8.out.2.1.four
              have l8 := S8.out.2.1.lt
              have S9 := Lib.hid (FI.poly S8.out t8 o8 hs8)
              clear t8 o8
              go_wp2_with fail
              go_roundg (gk - 1)
              case measure => omega
              case rel => exact ⟨k + 1, q, A8, c8, B8, d8, _, _, met ++ [x], _, _, acc ++ rotG (turnC (coefT M.t x) y) (a : Int), by omega, by go_num, (by first | rfl | (rw [HTC.out]; simp [rotG]) | simp), by rw [← HFL.out, HD.out, foldL_new HU.out HXY.out HMT.out HQ1.out], HC1.out, by omega, by omega, by have h1 := rotG_len (turnC (coefT M.t x) y) (a : Int); have h2 := rotK_len (turnC (coefT M.t x) y); rw [List.length_append]; omega, by rw [List.length_append, List.length_singleton]; omega, S9.out⟩
          · have HMT := Lib.hid hm
            have hl := run_lookup_i (g6 + 1 + 1) ck x es met W2 S2.out.2.2.2.2.2.2.1.1 S2.out.2.2.2.2.2.2.1.2.1
            rw [hm] at hl
            clear hm
            go_upto_region 12 with (go_at_call 77; refine (i_RotationUnits _ _).mono ?_; rintro e w' ⟨rfl, rfl⟩)
            go_upto_region 13 with fail
            rw [← HW2.out]
            obtain ⟨z0, z1, _, _⟩ := V2.out.two
            obtain ⟨y0, y1, y2, y3, _, _, _, _⟩ := G2.out.four
            obtain ⟨r0, r1, r2, r3, _, _, _, _⟩ := S2.out.2.1.four
            go_wp2_with fail
            have ST := S2
            refine (i_ApplyP p.N p.H A2 p.t.length c2 p.t _ p.o.length d2 p.o ⟨gk', a, gb', gc'⟩ _ (RdP.own ST.out.2.2.2.1) (RdP.own ST.out.2.2.2.2.1) (by omega) (by omega) (ownsRow_cap ST.out.2.2.2.1)).mono ?_
            rintro e w8 ⟨v, rfl, ⟨A8, c8, B8, d8, rfl, t8, o8⟩, b8⟩
            rw [show applyP ⟨p.N, p.H, p.t, p.o⟩ ⟨gk', a, gb', gc'⟩ = (q, true) from HQ1.out] at t8 o8 ⊢
            dsimp only at t8 o8 ⊢
            have hs8 := ST.out.2.2.2.2.2.2.2.1.size
            have S8 := Lib.hid (FI.below ST.out b8)
            obtain ⟨s0, s1, s2, s3, t0, t1, t2, t3⟩ := S8.out.2.1.four
            have l8 := S8.out.2.1.lt
            have S9 := Lib.hid (FI.poly S8.out t8 o8 hs8)
            clear t8 o8
            go_wp2_with fail
            go_roundg (gk - 1)
            case measure => omega
            case rel => exact ⟨k + 1, q, A8, c8, B8, d8, _, _, met, _, _, acc, by omega, by go_num, (by first | rfl | (rw [HTC.out]; simp [rotG]) | simp), by rw [← HFL.out, HD.out, foldL_old HU.out HXY.out HMT.out HQ1.out], HC1.out, by omega, by omega, by omega, by omega, S9.out⟩
      · have hkn : k = n := by omega
        have hE : acc = OUT := by have e := HFL.out; rw [List.drop_eq_nil_of_le (by have := HL.out; omega)] at e; exact e
        subst hE
        clear HFL HCL hkn
        have GA := Lib.hid ST.out.2.2.2.2.2.1
        go_wp2_with fail
        refine (i_CompP _ _ _ acc N _ (RdG.own GA.out) (by omega)).mono ?_
        rintro e w8 ⟨v, rfl, ⟨A8, c8, B8, d8, rfl, t8, o8⟩, b8⟩
        rw [HQ.out] at t8 o8 ⊢
        have S8 := Lib.hid (FI.below ST.out b8)
        obtain ⟨r0, r1, r2, r3, _, _, _, _⟩ := S8.out.1.four
        have l8 := S8.out.1.lt
        have hb8 := S8.out.2.2.2.2.2.2.2.1.size
        clear t8 o8 b8
        go_wp2_with fail
        refine (i_mod8 _ _).mono ?_
        rintro e w' ⟨rfl, rfl⟩
        rw [wrap_mod8]
        go_wp2_with fail
        go_ret2
        exact ⟨A3, c3, rfl, S8.out.2.2.2.2.2.1.alloc _, S8.out.2.2.2.2.2.2.2.1.alloc hb8 _⟩
end Go.Proofs.YtgnallcfahpjmaaR
