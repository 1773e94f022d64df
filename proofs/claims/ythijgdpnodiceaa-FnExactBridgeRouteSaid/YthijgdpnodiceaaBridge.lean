/- Contracts of BridgeRoute (impl and spec). At most 2^40 edges, 2^20 gates and numbers. -/
import Derived.Test.YthijgdpnodiceaaRouteL
import Derived.Test.YthijgdpnodiceaaLong
namespace Go.Proofs.Ythijgdpnodiceaa
open Go.RowKit

/-- What a function that hands back new gates and a bool comes to. -/
def RetGB2 (gs : List Gt) (b : Bool) (w : World) (e : Ending) (w' : World) : Prop :=
  ∃ (A : Option Addr) (c : Nat), e = .returned (.tuple #[.slice A gs.length c, .bool b]) ∧ w'.ownsRow w.heap.size 72 4 (.slice A gs.length c) gs.length (cellsG gs) ∧ Below w.heap.size w w'
theorem retGB2 {r : List Gt × Bool} {gs : List Gt} {b : Bool} {w w' : World} {A : Option Addr} {n c : Nat} (hr : r = (gs, b)) (hn : gs.length = n) (h1 : w'.ownsRow w.heap.size 72 4 (.slice A n c) n (cellsG gs)) (hB : Below w.heap.size w w') :
    RetGB2 r.1 r.2 w (.returned (.tuple #[.slice A n c, .bool b])) w' := by
  subst hr hn
  exact ⟨A, c, rfl, h1, hB⟩
theorem brL_no {ps : List (Int × Int)} {N : Int} {gs : List Gt} {z : List Int} {acc : List Gt} {k : Nat} {g : Gt} (hd : gs.drop k = g :: gs.drop (k + 1)) (h : mayR ps N z g = false) : brL ps N z (gs.drop k) acc = ([], false) := by rw [hd, brL, if_neg (by rw [h]; simp)]
theorem brL_one {ps : List (Int × Int)} {N : Int} {gs : List Gt} {z : List Int} {acc : List Gt} {k : Nat} {g : Gt} (hd : gs.drop k = g :: gs.drop (k + 1)) (h : mayR ps N z g = true) (h1 : (arity g.k == 1) = true) : brL ps N z (gs.drop k) acc = brL ps N z (gs.drop (k + 1)) (acc ++ [⟨g.k, zAt z g.a, 0, 0⟩]) := by rw [hd, brL, if_pos h, if_pos h1]
theorem brL_two {ps : List (Int × Int)} {N : Int} {gs : List Gt} {z : List Int} {acc : List Gt} {k : Nat} {g : Gt} (hd : gs.drop k = g :: gs.drop (k + 1)) (h : mayR ps N z g = true) (h1 : (arity g.k == 1) = false) : brL ps N z (gs.drop k) acc = brL ps N z (gs.drop (k + 1)) (acc ++ longCX (spath ps N (zAt z g.a) (zAt z g.b))) := by rw [hd, brL, if_pos h, if_neg (by rw [h1]; simp)]
theorem bridgeGs_yes {ps : List (Int × Int)} {N : Int} {zs : List Int} {gs : List Gt} (h : isLay ps N zs = true) : bridgeGs ps N zs gs = brL ps N zs gs [] := by unfold bridgeGs; rw [if_pos h]
theorem bridgeGs_no {ps : List (Int × Int)} {N : Int} {zs : List Int} {gs : List Gt} (h : isLay ps N zs = false) : bridgeGs ps N zs gs = ([], false) := by unfold bridgeGs; rw [if_neg (by rw [h]; simp)]
theorem spN_len {ps : List (Int × Int)} {N a b : Int} : spN ps N a b = (spath ps N a b).length := by
  rcases gd_sign ps N a b with h | h
  · unfold spN spath
    rw [h]
    rfl
  · exact spN_eq h
theorem RdI.cellAt {w : World} {A : Option Addr} {n b f k : Nat} {zl : List Int} (h : RdI w A n zl) (hA : A = some ⟨b, f, none⟩) (hk : k < n) {q x : Int} (hq : q = k) (hx : zAt zl q = x) : b < w.heap.size ∧ w.cell? ⟨b, f + k, none⟩ = some (.int .i64 x) := by
  obtain ⟨b', f', y, e, hb, hd, hc⟩ := h.at_ hk
  rw [hA] at e
  injection e with e
  injection e with e1 e2 _
  subst e1 e2
  rw [← hx, zAt_nat zl hq, drop_getD hd]
  exact ⟨hb, hc⟩

set_option maxRecDepth 100000 in
set_option maxHeartbeats 6400000 in
theorem i_BridgeRoute (A : Option Addr) (n cap : Nat) (gs : List Gt) (N : Int) (B : Option Addr) (m d : Nat) (ps : List (Int × Int)) (Z : Option Addr) (nz cz : Nat) (zs : List Int) (w : World) (h : RdG w A n gs) (hng : n ≤ 1048576) (hp : RdP w B m ps) (hm : m ≤ 1099511627776) (hz : RdI w Z nz zs) (hn : nz ≤ 1048576) :
    Calls Try.prog 64 #[.slice A n cap, .agg #[.int .i64 N, .slice B m d], .slice Z nz cz] w (RetGB2 (bridgeGs ps N zs gs).1 (bridgeGs ps N zs gs).2 w) := by
  have H := Lib.hid h
  have HP := Lib.hid hp
  have HZ := Lib.hid hz
  have HZL := Lib.hid hz.1
  clear h hp hz
  obtain ⟨R, hR⟩ : ∃ R, bridgeGs ps N zs gs = R := ⟨_, rfl⟩
  have HRR := Lib.hid hR
  have T0 := Lib.hid (show OneBx w N B m d (w.alloc (.cells #[.int .i64 N, .slice B m d] 38)) from ⟨Bx.new w _ _, (Below.refl _ _).alloc (Nat.le_refl _) _⟩)
  go_enter Try.func64, Try.ntmps64
  go_wp2_with fail
  refine (i_isLayout N _ _ _ ps _ _ _ zs _ (HP.out.below T0.out.2) hm (HZ.out.below T0.out.2) (by omega)).mono ?_
  rintro e w1 ⟨rfl, b1⟩
  have T1 := Lib.hid (T0.out.below b1)
  clear b1 T0
  cases hly : isLay ps N zs
  · have HN := Lib.hid (bridgeGs_no (gs := gs) hly)
    clear hly
    go_wp2_with fail
    go_ret2
    exact retGB2 HN.out rfl (World.ownsRow_nil _ _ _ _) T1.out.2
  · have HLAY := Lib.hid hly
    have HRL : Hid (brL ps N zs gs [] = R) := Lib.hid (by rw [← hR, bridgeGs_yes hly])
    clear hly hR
    have hs1 := T1.out.2.size
    have T2 := Lib.hid (T1.out.below ((Below.refl _ _).alloc (Nat.le_refl _) (.cells #[] 72)))
    have G2 := Lib.hid (show (w1.alloc (.cells #[] 72)).ownsRow w.heap.size 72 4 (.slice (some ⟨w1.heap.size, 0, none⟩) 0 0) 0 (cellsG []) from World.ownsRow_lit w1 #[] 0 hs1 (by simp [maxLen]) rfl)
    go_wp2_with fail
    clear T1 hs1
    go_loopg [8, 18] n (fun r o i wr => ∃ (k : Nat) (ol : List Gt) (Ao : Option Addr) (no co : Nat), k + r = n ∧ i = .int .i64 k ∧ o = .slice Ao no co ∧ ol.length = no ∧ no ≤ 10 * k ∧ brL ps N zs (gs.drop k) ol = R ∧ wr.ownsRow w.heap.size 72 4 (.slice Ao no co) no (cellsG ol) ∧ OneBx w N B m d wr)
    case atStart => exact ⟨0, [], _, 0, 0, by omega, rfl, rfl, rfl, by omega, HRL.out, G2.out, T2.out⟩
    case round =>
      clear T2 G2 HRL
      obtain ⟨k, ol, Ao, no, co, hk, rfl, rfl, hol, hno, hq, oo, tt⟩ := hrel
      have HOL := Lib.hid hol
      have HQ := Lib.hid hq
      have OO := Lib.hid oo
      have TT := Lib.hid tt
      clear hol hq oo tt
      have hs0 := TT.out.2.size
      by_cases hlt : k < n
      · obtain ⟨bg, fg, gt, hA, hBg, hd, q0, q1, q2, q3⟩ := (H.out.below TT.out.2).at_ hlt
        subst hA
        have HD := Lib.hid hd
        clear hd
        have hi0 : (0 : Int) ≤ (k : Int) := by omega
        have hi1 : (k : Int) < (n : Int) := by omega
        obtain ⟨p0, p1⟩ := TT.out.cells
        have hsl : w.heap.size < wr.heap.size := TT.out.1.lt
        go_wp2_with fail
        clear hsl
        have TA := Lib.hid (TT.out.below ((Below.refl _ _).alloc (Nat.le_refl _) (.cells #[.int .i64 gt.k, .int .i64 gt.a, .int .i64 gt.b, .int .i64 gt.c] 72)))
        have OA := Lib.hid (OO.out.alloc (.cells #[.int .i64 gt.k, .int .i64 gt.a, .int .i64 gt.b, .int .i64 gt.c] 72))
        have XA := Lib.hid (Bx.new wr 72 #[.int .i64 gt.k, .int .i64 gt.a, .int .i64 gt.b, .int .i64 gt.c])
        refine (i_mayRoute gt N B m d ps _ nz _ zs _ (HP.out.below TA.out.2) hm (HZ.out.below TA.out.2) (by omega)).mono ?_
        rintro e w3 ⟨rfl, b3⟩
        have X3 := Lib.hid (XA.out.below b3)
        have T3 := Lib.hid (TA.out.below b3)
        have O3 := Lib.hid (ownsRow_below OA.out b3)
        have hs3 := T3.out.2.size
        have HNE := Lib.hid (show some wr.heap.size ≠ (Value.slice Ao no co).ownBlock from fun he => by have := (OO.out.lt _ he.symm).2; omega)
        clear p0 p1 q0 q1 q2 q3 b3 TA OA TT OO hs0 XA
        cases hmay : mayR ps N zs gt
        · have HN := Lib.hid (show R = ([], false) from by rw [← HQ.out, brL_no HD.out hmay])
          clear hmay
          go_wp2_with fail
          go_ret2
          exact retGB2 (HRR.out.trans HN.out) rfl (World.ownsRow_nil _ _ _ _) T3.out.2
        · have HMAY := Lib.hid hmay
          obtain ⟨ha0, ha1⟩ := mayR_a hmay
          obtain ⟨hNz, _, _, _⟩ := isLay_len (mayR_parts hmay).1
          rw [HZL.out] at hNz
          obtain ⟨ka, hka⟩ : ∃ ka : Nat, gt.a = ka := ⟨gt.a.toNat, by omega⟩
          have HKA := Lib.hid hka
          rw [hka] at ha0 ha1
          have hkan : ka < nz := by omega
          have hka1 : (ka : Int) < (nz : Int) := by omega
          have HNN := Lib.hid hNz
          clear hmay hka hNz
          obtain ⟨q0, q1, q2, q3, _, _, _, _⟩ := X3.out.four
          rw [HKA.out] at q1
          obtain ⟨p0, p1⟩ := T3.out.cells
          obtain ⟨bz, fz, xa', hAz, h_1, h_2, h_3⟩ := (HZ.out.below T3.out.2).at_ hkan
          subst hAz
          clear h_1 h_2 h_3
          obtain ⟨xa, hxa⟩ : ∃ v, zAt zs gt.a = v := ⟨_, rfl⟩
          have HXA := Lib.hid hxa
          clear hxa
          obtain ⟨hBz, ca⟩ := RdI.cellAt (HZ.out.below T3.out.2) rfl hkan HKA.out HXA.out
          obtain ⟨hBz0, ca0⟩ := RdI.cellAt HZ.out rfl hkan HKA.out HXA.out
          have hz4 : (Value.agg #[.int .i64 0, .int .i64 0, .int .i64 0, .int .i64 0]).cells.size = 4 := rfl
          have hgb : wr.heap.size < w3.heap.size := X3.out.lt
          have hgl : w.heap.size < w3.heap.size := T3.out.1.lt
          have hia : (0 : Int) ≤ (ka : Int) := by omega
          have HKAc := Lib.hid (show some (Value.int .i64 gt.a) = some (Value.int .i64 (ka : Int)) from by rw [HKA.out])
          cases har : (arity gt.k == 1)
          · have HAR := Lib.hid har
            obtain ⟨hb0, hb1⟩ := mayR_b HMAY.out har
            obtain ⟨kb, hkb⟩ : ∃ kb : Nat, gt.b = kb := ⟨gt.b.toNat, by omega⟩
            have HKB := Lib.hid hkb
            rw [hkb] at hb0 hb1
            have hkbn : kb < nz := by have := HNN.out; omega
            have hkb1 : (kb : Int) < (nz : Int) := by omega
            clear hkb
            rw [HKB.out] at q2
            obtain ⟨xb, hxb⟩ : ∃ v, zAt zs gt.b = v := ⟨_, rfl⟩
            have HXB := Lib.hid hxb
            clear hxb
            obtain ⟨_, cb⟩ := RdI.cellAt (HZ.out.below T3.out.2) rfl hkbn HKB.out HXB.out
            obtain ⟨_, cb0⟩ := RdI.cellAt HZ.out rfl hkbn HKB.out HXB.out
            have HST := Lib.hid (show brL ps N zs (gs.drop (k + 1)) (ol ++ longCX (spath ps N xa xb)) = R from by rw [← HQ.out, brL_two HD.out HMAY.out HAR.out, HXA.out, HXB.out])
            have hln := longCX_len (spath ps N xa xb)
            obtain ⟨S, hS⟩ : ∃ S, spath ps N xa xb = S := ⟨_, rfl⟩
            rw [hS] at HST hln
            have HS := Lib.hid hS
            have HSN := Lib.hid (show spN ps N xa xb = S.length from by rw [spN_len, hS])
            clear hS
            obtain ⟨q, hq⟩ : ∃ q, (longCX S).length = q := ⟨_, rfl⟩
            rw [hq] at hln
            have HQ1 := Lib.hid hq
            clear hq
            have hib : (0 : Int) ≤ (kb : Int) := by omega
            have HKBc := Lib.hid (show some (Value.int .i64 gt.b) = some (Value.int .i64 (kb : Int)) from by rw [HKB.out])
            go_wp2_with fail
            refine (i_Arity _ _).mono ?_
            rintro e w' ⟨rfl, rfl⟩
            go_wp2_with fail
            clear har
            have HPd := Lib.hid (HP.out.below T3.out.2).drew
            have T3d := Lib.hid T3.out.drew
            have O3d := Lib.hid (ownsRow_drew O3.out)
            have X3d := Lib.hid X3.out.drew
            go_region_held3 (fun w' => w'.cell? ⟨wr.heap.size, 1, none⟩ = some (.int .i64 (ka : Int)) ∧ w'.cell? ⟨wr.heap.size, 2, none⟩ = some (.int .i64 (kb : Int)) ∧ w'.cell? ⟨w.heap.size, 0, none⟩ = some (.int .i64 N) ∧ w'.cell? ⟨w.heap.size, 1, none⟩ = some (.slice B m d) ∧ w'.cell? ⟨bz, fz + ka, none⟩ = some (.int .i64 xa) ∧ w'.cell? ⟨bz, fz + kb, none⟩ = some (.int .i64 xb))
              (first | exact ⟨m0, m1, m2, m3, m4, m5⟩ | exact ⟨j0, j1, j2, j3, j4, j5⟩ | exact ⟨k0, k1, k2, k3, k4, k5⟩ | go_keep)
              (first
                | (go_at_call 35; (with_reducible refine (i_ShortestPath N _ _ _ xa xb ps _ HPd.out hm).mono ?_); rintro e w4 ⟨A4, c4, rfl, o4, b4⟩; rw [HS.out] at o4; rw [HSN.out] at o4 ⊢; have b34 := below_drew b4; have k0 := (b34.cell (p := ⟨wr.heap.size, 1, none⟩) hgb).trans q1; have k1 := (b34.cell (p := ⟨wr.heap.size, 2, none⟩) hgb).trans q2; have k2 := (b34.cell (p := ⟨w.heap.size, 0, none⟩) hgl).trans p0; have k3 := (b34.cell (p := ⟨w.heap.size, 1, none⟩) hgl).trans p1; have k4 := (b34.cell (p := ⟨bz, fz + ka, none⟩) hBz).trans ca; have k5 := (b34.cell (p := ⟨bz, fz + kb, none⟩) hBz).trans cb; have RW := RdI.own o4; have cap4 := ownsRow_cap o4)
                | (go_at_call 96; (with_reducible refine (i_LongRangeCX _ _ _ S _ RW cap4).mono ?_); rintro e w5 ⟨A5, c5, rfl, o5, b5⟩; rw [HQ1.out] at o5 ⊢; have b35 := below_trans b34 b5; have j0 := (b35.cell (p := ⟨wr.heap.size, 1, none⟩) hgb).trans q1; have j1 := (b35.cell (p := ⟨wr.heap.size, 2, none⟩) hgb).trans q2; have j2 := (b35.cell (p := ⟨w.heap.size, 0, none⟩) hgl).trans p0; have j3 := (b35.cell (p := ⟨w.heap.size, 1, none⟩) hgl).trans p1; have j4 := (b35.cell (p := ⟨bz, fz + ka, none⟩) hBz).trans ca; have j5 := (b35.cell (p := ⟨bz, fz + kb, none⟩) hBz).trans cb; have O5 := ownsRow_below (ownsRow_below O3d.out b4) b5; have T5 := (T3d.out.below b4).below b5; have X5 := (X3d.out.below b4).below b5; have hs5 := T5.2.size)
                | (refine step_app (by rfl) (.tmp 42) (.tmp 55) 53 (by rfl) Try.underlying53 infoGate hz4 (by decide) (by simp [Act.eval] <;> rfl) O5 (by simp [Act.eval] <;> rfl) (Rd.own o5) one_cellsG (by omega) (by decide) hs5 ?_; intro A6 c6 w6 o6 g6; have T6 := T5.grown O5 g6 (by decide) (Nat.le_refl _); have ⟨m2, m3⟩ := T6.cells; have X6 := X5.grown g6 HNE.out; have m4 := (T6.2.cell (p := ⟨bz, fz + ka, none⟩) hBz0).trans ca0; have m5 := (T6.2.cell (p := ⟨bz, fz + kb, none⟩) hBz0).trans cb0; have ⟨_, m1', m2', _, _, _, _, _⟩ := X6.four; have m0 := m1'.trans HKAc.out; have m1 := m2'.trans HKBc.out)
                | fail)
            all_goals go_wp2_with fail
            all_goals go_roundg (gk - 1)
            all_goals first
              | omega
              | exact ⟨k + 1, ol ++ longCX S, A6, no + q, c6, by omega, by go_num, rfl, by rw [List.length_append, HOL.out, HQ1.out], by omega, HST.out, by rw [cellsG_append]; exact o6, T6⟩
          · have HAR := Lib.hid har
            have HST := Lib.hid (show brL ps N zs (gs.drop (k + 1)) (ol ++ [⟨gt.k, xa, 0, 0⟩]) = R from by rw [← HQ.out, brL_one HD.out HMAY.out HAR.out, HXA.out])
            go_wp2_with fail
            refine (i_Arity _ _).mono ?_
            rintro e w' ⟨rfl, rfl⟩
            go_wp2_with fail
            clear har
            have T3d := Lib.hid T3.out.drew
            have O3d := Lib.hid (ownsRow_drew O3.out)
            have X3d := Lib.hid X3.out.drew
            go_region_held3 (fun w' => w'.cell? ⟨wr.heap.size, 0, none⟩ = some (.int .i64 gt.k) ∧ w'.cell? ⟨wr.heap.size, 1, none⟩ = some (.int .i64 (ka : Int)) ∧ w'.cell? ⟨bz, fz + ka, none⟩ = some (.int .i64 xa))
              (first | exact ⟨m0, m1, m2⟩ | exact ⟨k0, k1, k2⟩ | go_keep)
              (first
                | (go_at_call 93; (with_reducible refine (i_one gt.k xa _).mono ?_); rintro e w5 ⟨rfl, b5⟩; have b35 := below_drew b5; have k0 := (b35.cell (p := ⟨wr.heap.size, 0, none⟩) hgb).trans q0; have k1 := (b35.cell (p := ⟨wr.heap.size, 1, none⟩) hgb).trans q1; have k2 := (b35.cell (p := ⟨bz, fz + ka, none⟩) hBz).trans ca; have nn0 := World.new_ne w5 _ k0; have nn1 := World.new_ne w5 _ k1; have nn2 := World.new_ne w5 _ k2; have O5 := (ownsRow_below O3d.out b5).alloc (.cells #[.int .i64 gt.k, .int .i64 xa, .int .i64 0, .int .i64 0] 72); have T5 := (T3d.out.below b5).below ((Below.refl _ _).alloc (Nat.le_refl _) (.cells #[.int .i64 gt.k, .int .i64 xa, .int .i64 0, .int .i64 0] 72)); have X5 := (X3d.out.below b5).alloc (.cells #[.int .i64 gt.k, .int .i64 xa, .int .i64 0, .int .i64 0] 72); have hs5 := T5.2.size)
                | (refine step_app (by rfl) (.tmp 31) (.tmp 40) 53 (by rfl) Try.underlying53 infoGate hz4 (by decide) (by simp [Act.eval] <;> rfl) O5 (by simp [Act.eval] <;> rfl) (Rd.lit w5 72 #[.int .i64 gt.k, .int .i64 xa, .int .i64 0, .int .i64 0] 1 4 rfl) (by simp [Value.oneCell']) (by omega) (by decide) hs5 ?_; intro A6 c6 w6 o6 g6; have T6 := T5.grown O5 g6 (by decide) (Nat.le_refl _); have X6 := X5.grown g6 HNE.out; have m2 := (T6.2.cell (p := ⟨bz, fz + ka, none⟩) hBz0).trans ca0; have ⟨m0, m1', _, _, _, _, _, _⟩ := X6.four; have m1 := m1'.trans HKAc.out)
                | fail)
            all_goals go_wp2_with fail
            all_goals go_roundg (gk - 1)
            all_goals first
              | omega
              | exact ⟨k + 1, ol ++ [⟨gt.k, xa, 0, 0⟩], A6, no + 1, c6, by omega, by go_num, rfl, by rw [List.length_append, HOL.out]; rfl, by omega, HST.out, by rw [cellsG_append]; exact o6, T6⟩
      · go_wp2_with fail
        go_ret2
        have hend : R = (ol, true) := by rw [← HQ.out, List.drop_eq_nil_of_le (by have := H.out.1; omega), brL]
        exact retGB2 (HRR.out.trans hend) HOL.out OO.out TT.out.2

set_option maxRecDepth 100000 in
set_option maxHeartbeats 6400000 in
theorem s_BridgeRoute (A : Option Addr) (n cap : Nat) (gs : List Gt) (N : Int) (B : Option Addr) (m d : Nat) (ps : List (Int × Int)) (Z : Option Addr) (nz cz : Nat) (zs : List Int) (w : World) (h : RdG w A n gs) (hng : n ≤ 1048576) (hp : RdP w B m ps) (hm : m ≤ 1099511627776) (hz : RdI w Z nz zs) (hzc : nz ≤ cz) (hn : nz ≤ 1048576) :
    Calls Try.prog 63 #[.slice A n cap, .agg #[.int .i64 N, .slice B m d], .slice Z nz cz] w (RetGB2 (bridgeGs ps N zs gs).1 (bridgeGs ps N zs gs).2 w) := by
  have H := Lib.hid h
  have HP := Lib.hid hp
  have HZ := Lib.hid hz
  have HZL := Lib.hid hz.1
  have HL : Hid (isLay ps N zs = (valid ps N && (isPerm zs && ((nz : Int) == N)))) := Lib.hid (by rw [isLay_alt, hz.1])
  clear h hp hz
  obtain ⟨R, hR⟩ : ∃ R, bridgeGs ps N zs gs = R := ⟨_, rfl⟩
  have HRR := Lib.hid hR
  have T0 := Lib.hid (show OneBx w N B m d (w.alloc (.cells #[.int .i64 N, .slice B m d] 38)) from ⟨Bx.new w _ _, (Below.refl _ _).alloc (Nat.le_refl _) _⟩)
  have G0 := Lib.hid (show ((w.alloc (.cells #[.int .i64 N, .slice B m d] 38)).alloc (.cells #[] 72)).ownsRow w.heap.size 72 4 (.slice (some ⟨w.heap.size + 1, 0, none⟩) 0 0) 0 (cellsG []) from by have := (World.ownsRow_lit (e := 72) (size := 4) (base := w.heap.size) (w.alloc (.cells #[.int .i64 N, .slice B m d] 38)) #[] 0 (by simp) (by simp [maxLen]) rfl); rw [World.size_alloc] at this; exact this)
  have T2 := Lib.hid (T0.out.below ((Below.refl _ _).alloc (Nat.le_refl _) (.cells #[] 72)))
  go_enter Try.func63, Try.ntmps63
  go_wp2_with fail
  refine (s_IsValidGraph N _ _ _ ps _ (HP.out.below T2.out.2) hm).mono ?_
  rintro e w3 ⟨rfl, b3⟩
  have T3 := Lib.hid (T2.out.below b3)
  have G3 := Lib.hid (ownsRow_below G0.out b3)
  clear T2 G0 b3 T0
  cases h3 : valid ps N
  · have H3 := Lib.hid h3
    clear h3
    go_wp2_with fail
    go_ret2
    exact retGB2 (bridgeGs_no (by rw [HL.out, H3.out, Bool.false_and])) rfl G3.out T3.out.2
  · have H3 := Lib.hid h3
    clear h3
    go_wp2_with fail
    refine (s_IsPermutation _ _ _ zs _ (HZ.out.below T3.out.2) hzc (by omega)).mono ?_
    rintro e w4 ⟨rfl, b4⟩
    have T4 := Lib.hid (T3.out.below b4)
    have G4 := Lib.hid (ownsRow_below G3.out b4)
    clear T3 G3 b4
    cases h4 : isPerm zs
    · have H4 := Lib.hid h4
      clear h4
      go_wp2_with fail
      go_ret2
      exact retGB2 (bridgeGs_no (by rw [HL.out, H4.out, Bool.false_and, Bool.and_false])) rfl G4.out T4.out.2
    · have H4 := Lib.hid h4
      clear h4
      obtain ⟨p0, p1⟩ := T4.out.cells
      cases h5 : ((nz : Int) == N)
      · have H5 := Lib.hid h5
        have h5n : ((nz : Int) != N) = true := by simp [bne, h5]
        clear h5
        go_wp2_with fail
        go_ret2
        exact retGB2 (bridgeGs_no (by rw [HL.out, H5.out, Bool.and_false, Bool.and_false])) rfl G4.out T4.out.2
      · have H5 := Lib.hid h5
        have h5n : ((nz : Int) != N) = false := by simp [bne, h5]
        clear h5
        have hly : isLay ps N zs = true := by rw [HL.out, H3.out, H4.out, H5.out]; rfl
        have HLAY := Lib.hid hly
        have HRL : Hid (brL ps N zs gs [] = R) := Lib.hid (by rw [← hR, bridgeGs_yes hly])
        clear hly hR
        go_wp2_with fail
        clear h5n p0 p1
        have T2 := T4
        have G2 := G4
        clear T4 G4
        go_loopg [8, 9] n (fun r o i wr => ∃ (k : Nat) (ol : List Gt) (Ao : Option Addr) (no co : Nat), k + r = n ∧ i = .int .i64 k ∧ o = .slice Ao no co ∧ ol.length = no ∧ no ≤ 10 * k ∧ brL ps N zs (gs.drop k) ol = R ∧ wr.ownsRow w.heap.size 72 4 (.slice Ao no co) no (cellsG ol) ∧ OneBx w N B m d wr)
        case atStart => exact ⟨0, [], _, 0, 0, by omega, rfl, rfl, rfl, by omega, HRL.out, G2.out, T2.out⟩
        case round =>
          clear T2 G2 HRL
          obtain ⟨k, ol, Ao, no, co, hk, rfl, rfl, hol, hno, hq, oo, tt⟩ := hrel
          have HOL := Lib.hid hol
          have HQ := Lib.hid hq
          have OO := Lib.hid oo
          have TT := Lib.hid tt
          clear hol hq oo tt
          have hs0 := TT.out.2.size
          by_cases hlt : k < n
          · obtain ⟨bg, fg, gt, hA, hBg, hd, q0, q1, q2, q3⟩ := (H.out.below TT.out.2).at_ hlt
            subst hA
            have HD := Lib.hid hd
            clear hd
            have hi0 : (0 : Int) ≤ (k : Int) := by omega
            have hi1 : (k : Int) < (n : Int) := by omega
            obtain ⟨p0, p1⟩ := TT.out.cells
            have hsl : w.heap.size < wr.heap.size := TT.out.1.lt
            go_wp2_with fail
            clear hsl
            have TA := Lib.hid (TT.out.below ((Below.refl _ _).alloc (Nat.le_refl _) (.cells #[.int .i64 gt.k, .int .i64 gt.a, .int .i64 gt.b, .int .i64 gt.c] 72)))
            have OA := Lib.hid (OO.out.alloc (.cells #[.int .i64 gt.k, .int .i64 gt.a, .int .i64 gt.b, .int .i64 gt.c] 72))
            have XA := Lib.hid (Bx.new wr 72 #[.int .i64 gt.k, .int .i64 gt.a, .int .i64 gt.b, .int .i64 gt.c])
            refine (s_l38Right gt N B m d ps _ nz _ zs _ (HP.out.below TA.out.2) hm (HZ.out.below TA.out.2) hzc (by omega)).mono ?_
            rintro e w3 ⟨rfl, b3⟩
            have X3 := Lib.hid (XA.out.below b3)
            have T3 := Lib.hid (TA.out.below b3)
            have O3 := Lib.hid (ownsRow_below OA.out b3)
            have hs3 := T3.out.2.size
            have HNE := Lib.hid (show some wr.heap.size ≠ (Value.slice Ao no co).ownBlock from fun he => by have := (OO.out.lt _ he.symm).2; omega)
            clear p0 p1 q0 q1 q2 q3 b3 TA OA TT OO hs0 XA
            cases hmay : mayR ps N zs gt
            · have HN := Lib.hid (show R = ([], false) from by rw [← HQ.out, brL_no HD.out hmay])
              clear hmay
              go_wp2_with fail
              go_ret2
              exact retGB2 (HRR.out.trans HN.out) rfl (World.ownsRow_lit w3 #[] 0 hs3 (by simp [maxLen]) rfl) (T3.out.2.alloc hs3 _)
            · have HMAY := Lib.hid hmay
              obtain ⟨ha0, ha1⟩ := mayR_a hmay
              obtain ⟨hNz, _, _, _⟩ := isLay_len (mayR_parts hmay).1
              rw [HZL.out] at hNz
              obtain ⟨ka, hka⟩ : ∃ ka : Nat, gt.a = ka := ⟨gt.a.toNat, by omega⟩
              have HKA := Lib.hid hka
              rw [hka] at ha0 ha1
              have hkan : ka < nz := by omega
              have hka1 : (ka : Int) < (nz : Int) := by omega
              have HNN := Lib.hid hNz
              clear hmay hka hNz
              obtain ⟨q0, q1, q2, q3, _, _, _, _⟩ := X3.out.four
              rw [HKA.out] at q1
              obtain ⟨p0, p1⟩ := T3.out.cells
              obtain ⟨bz, fz, xa', hAz, h_1, h_2, h_3⟩ := (HZ.out.below T3.out.2).at_ hkan
              subst hAz
              clear h_1 h_2 h_3
              obtain ⟨xa, hxa⟩ : ∃ v, zAt zs gt.a = v := ⟨_, rfl⟩
              have HXA := Lib.hid hxa
              clear hxa
              obtain ⟨hBz, ca⟩ := RdI.cellAt (HZ.out.below T3.out.2) rfl hkan HKA.out HXA.out
              obtain ⟨hBz0, ca0⟩ := RdI.cellAt HZ.out rfl hkan HKA.out HXA.out
              have hz4 : (Value.agg #[.int .i64 0, .int .i64 0, .int .i64 0, .int .i64 0]).cells.size = 4 := rfl
              have hgb : wr.heap.size < w3.heap.size := X3.out.lt
              have hgl : w.heap.size < w3.heap.size := T3.out.1.lt
              have hia : (0 : Int) ≤ (ka : Int) := by omega
              have HKAc := Lib.hid (show some (Value.int .i64 gt.a) = some (Value.int .i64 (ka : Int)) from by rw [HKA.out])
              cases har : (arity gt.k == 1)
              · have HAR := Lib.hid har
                obtain ⟨hb0, hb1⟩ := mayR_b HMAY.out har
                obtain ⟨kb, hkb⟩ : ∃ kb : Nat, gt.b = kb := ⟨gt.b.toNat, by omega⟩
                have HKB := Lib.hid hkb
                rw [hkb] at hb0 hb1
                have hkbn : kb < nz := by have := HNN.out; omega
                have hkb1 : (kb : Int) < (nz : Int) := by omega
                clear hkb
                rw [HKB.out] at q2
                obtain ⟨xb, hxb⟩ : ∃ v, zAt zs gt.b = v := ⟨_, rfl⟩
                have HXB := Lib.hid hxb
                clear hxb
                obtain ⟨_, cb⟩ := RdI.cellAt (HZ.out.below T3.out.2) rfl hkbn HKB.out HXB.out
                obtain ⟨_, cb0⟩ := RdI.cellAt HZ.out rfl hkbn HKB.out HXB.out
                have HST := Lib.hid (show brL ps N zs (gs.drop (k + 1)) (ol ++ longCX (spath ps N xa xb)) = R from by rw [← HQ.out, brL_two HD.out HMAY.out HAR.out, HXA.out, HXB.out])
                have hln := longCX_len (spath ps N xa xb)
                obtain ⟨S, hS⟩ : ∃ S, spath ps N xa xb = S := ⟨_, rfl⟩
                rw [hS] at HST hln
                have HS := Lib.hid hS
                have HSN := Lib.hid (show spN ps N xa xb = S.length from by rw [spN_len, hS])
                clear hS
                obtain ⟨q, hq⟩ : ∃ q, (longCX S).length = q := ⟨_, rfl⟩
                rw [hq] at hln
                have HQ1 := Lib.hid hq
                clear hq
                have hib : (0 : Int) ≤ (kb : Int) := by omega
                have HKBc := Lib.hid (show some (Value.int .i64 gt.b) = some (Value.int .i64 (kb : Int)) from by rw [HKB.out])
                have hk9 : (gt.k == 9) = true := by have := basic_kind (mayR_parts HMAY.out).2.1 har; simp [this]
                clear har
                go_wp2_with fail
                clear hk9
                have HPd := Lib.hid (HP.out.below T3.out.2).drew
                have T3d := Lib.hid T3.out.drew
                have O3d := Lib.hid (ownsRow_drew O3.out)
                have X3d := Lib.hid X3.out.drew
                go_region_held3 (fun w' => w'.cell? ⟨wr.heap.size, 1, none⟩ = some (.int .i64 (ka : Int)) ∧ w'.cell? ⟨wr.heap.size, 2, none⟩ = some (.int .i64 (kb : Int)) ∧ w'.cell? ⟨w.heap.size, 0, none⟩ = some (.int .i64 N) ∧ w'.cell? ⟨w.heap.size, 1, none⟩ = some (.slice B m d) ∧ w'.cell? ⟨bz, fz + ka, none⟩ = some (.int .i64 xa) ∧ w'.cell? ⟨bz, fz + kb, none⟩ = some (.int .i64 xb))
                  (first | exact ⟨m0, m1, m2, m3, m4, m5⟩ | exact ⟨j0, j1, j2, j3, j4, j5⟩ | exact ⟨k0, k1, k2, k3, k4, k5⟩ | go_keep)
                  (first
                    | (go_at_call 36; (with_reducible refine (s_ShortestPath N _ _ _ xa xb ps _ HPd.out hm).mono ?_); rintro e w4 ⟨A4, c4, rfl, o4, b4⟩; rw [HS.out] at o4; rw [HSN.out] at o4 ⊢; have b34 := below_drew b4; have k0 := (b34.cell (p := ⟨wr.heap.size, 1, none⟩) hgb).trans q1; have k1 := (b34.cell (p := ⟨wr.heap.size, 2, none⟩) hgb).trans q2; have k2 := (b34.cell (p := ⟨w.heap.size, 0, none⟩) hgl).trans p0; have k3 := (b34.cell (p := ⟨w.heap.size, 1, none⟩) hgl).trans p1; have k4 := (b34.cell (p := ⟨bz, fz + ka, none⟩) hBz).trans ca; have k5 := (b34.cell (p := ⟨bz, fz + kb, none⟩) hBz).trans cb; have RW := RdI.own o4; have cap4 := ownsRow_cap o4)
                    | (go_at_call 95; (with_reducible refine (s_LongRangeCX _ _ _ S _ RW cap4).mono ?_); rintro e w5 ⟨A5, c5, rfl, o5, b5⟩; rw [HQ1.out] at o5 ⊢; have b35 := below_trans b34 b5; have j0 := (b35.cell (p := ⟨wr.heap.size, 1, none⟩) hgb).trans q1; have j1 := (b35.cell (p := ⟨wr.heap.size, 2, none⟩) hgb).trans q2; have j2 := (b35.cell (p := ⟨w.heap.size, 0, none⟩) hgl).trans p0; have j3 := (b35.cell (p := ⟨w.heap.size, 1, none⟩) hgl).trans p1; have j4 := (b35.cell (p := ⟨bz, fz + ka, none⟩) hBz).trans ca; have j5 := (b35.cell (p := ⟨bz, fz + kb, none⟩) hBz).trans cb; have O5 := ownsRow_below (ownsRow_below O3d.out b4) b5; have T5 := (T3d.out.below b4).below b5; have X5 := (X3d.out.below b4).below b5; have hs5 := T5.2.size)
                    | (refine step_app (by rfl) (.tmp 47) (.tmp 60) 53 (by rfl) Try.underlying53 infoGate hz4 (by decide) (by simp [Act.eval] <;> rfl) O5 (by simp [Act.eval] <;> rfl) (Rd.own o5) one_cellsG (by omega) (by decide) hs5 ?_; intro A6 c6 w6 o6 g6; have T6 := T5.grown O5 g6 (by decide) (Nat.le_refl _); have ⟨m2, m3⟩ := T6.cells; have X6 := X5.grown g6 HNE.out; have m4 := (T6.2.cell (p := ⟨bz, fz + ka, none⟩) hBz0).trans ca0; have m5 := (T6.2.cell (p := ⟨bz, fz + kb, none⟩) hBz0).trans cb0; have ⟨_, m1', m2', _, _, _, _, _⟩ := X6.four; have m0 := m1'.trans HKAc.out; have m1 := m2'.trans HKBc.out)
                    | fail)
                all_goals go_wp2_with fail
                all_goals go_roundg (gk - 1)
                all_goals first
                  | omega
                  | exact ⟨k + 1, ol ++ longCX S, A6, no + q, c6, by omega, by go_num, rfl, by rw [List.length_append, HOL.out, HQ1.out], by omega, HST.out, by rw [cellsG_append]; exact o6, T6⟩
              · have HAR := Lib.hid har
                have HST := Lib.hid (show brL ps N zs (gs.drop (k + 1)) (ol ++ [⟨gt.k, xa, 0, 0⟩]) = R from by rw [← HQ.out, brL_one HD.out HMAY.out HAR.out, HXA.out])
                have hk9 : (gt.k == 9) = false := by have := basic_ne har; simpa using this
                clear har
                go_wp2_with fail
                clear hk9
                have T3d := Lib.hid T3.out.drew
                have O3d := Lib.hid (ownsRow_drew O3.out)
                have X3d := Lib.hid X3.out.drew
                go_region_held3 (fun w' => w'.cell? ⟨wr.heap.size, 0, none⟩ = some (.int .i64 gt.k) ∧ w'.cell? ⟨wr.heap.size, 1, none⟩ = some (.int .i64 (ka : Int)) ∧ w'.cell? ⟨bz, fz + ka, none⟩ = some (.int .i64 xa))
                  (first | exact ⟨m0, m1, m2⟩ | exact ⟨k0, k1, k2⟩ | go_keep)
                  (first
                    | (go_at_call 90; (with_reducible refine (s_one gt.k xa _).mono ?_); rintro e w5 ⟨rfl, b5⟩; have b35 := below_drew b5; have k0 := (b35.cell (p := ⟨wr.heap.size, 0, none⟩) hgb).trans q0; have k1 := (b35.cell (p := ⟨wr.heap.size, 1, none⟩) hgb).trans q1; have k2 := (b35.cell (p := ⟨bz, fz + ka, none⟩) hBz).trans ca; have nn0 := World.new_ne w5 _ k0; have nn1 := World.new_ne w5 _ k1; have nn2 := World.new_ne w5 _ k2; have O5 := (ownsRow_below O3d.out b5).alloc (.cells #[.int .i64 gt.k, .int .i64 xa, .int .i64 0, .int .i64 0] 72); have T5 := (T3d.out.below b5).below ((Below.refl _ _).alloc (Nat.le_refl _) (.cells #[.int .i64 gt.k, .int .i64 xa, .int .i64 0, .int .i64 0] 72)); have X5 := (X3d.out.below b5).alloc (.cells #[.int .i64 gt.k, .int .i64 xa, .int .i64 0, .int .i64 0] 72); have hs5 := T5.2.size)
                    | (refine step_app (by rfl) (.tmp 62) (.tmp 71) 53 (by rfl) Try.underlying53 infoGate hz4 (by decide) (by simp [Act.eval] <;> rfl) O5 (by simp [Act.eval] <;> rfl) (Rd.lit w5 72 #[.int .i64 gt.k, .int .i64 xa, .int .i64 0, .int .i64 0] 1 4 rfl) (by simp [Value.oneCell']) (by omega) (by decide) hs5 ?_; intro A6 c6 w6 o6 g6; have T6 := T5.grown O5 g6 (by decide) (Nat.le_refl _); have X6 := X5.grown g6 HNE.out; have m2 := (T6.2.cell (p := ⟨bz, fz + ka, none⟩) hBz0).trans ca0; have ⟨m0, m1', _, _, _, _, _, _⟩ := X6.four; have m1 := m1'.trans HKAc.out)
                    | fail)
                all_goals go_wp2_with fail
                all_goals go_roundg (gk - 1)
                all_goals first
                  | omega
                  | exact ⟨k + 1, ol ++ [⟨gt.k, xa, 0, 0⟩], A6, no + 1, c6, by omega, by go_num, rfl, by rw [List.length_append, HOL.out]; rfl, by omega, HST.out, by rw [cellsG_append]; exact o6, T6⟩
          · go_wp2_with fail
            go_ret2
            have hend : R = (ol, true) := by rw [← HQ.out, List.drop_eq_nil_of_le (by have := H.out.1; omega), brL]
            exact retGB2 (HRR.out.trans hend) HOL.out OO.out TT.out.2
end Go.Proofs.Ythijgdpnodiceaa
