/- Contracts of RouteGates (impl and spec). At most 2^40 edges, 2^20 gates and numbers. -/
import Derived.Test.YtgnallcfahpjmaaRRouteG
namespace Go.Proofs.YtgnallcfahpjmaaR
open Go.RowKit

/-- What a function that hands back new gates, new numbers and a bool comes to. -/
def RetGIB (gs : List Gt) (zs : List Int) (b : Bool) (w : World) (e : Ending) (w' : World) : Prop :=
  ∃ (A : Option Addr) (c : Nat) (A' : Option Addr) (c' : Nat), e = .returned (.tuple #[.slice A gs.length c, .slice A' zs.length c', .bool b]) ∧ w'.ownsRow w.heap.size 63 4 (.slice A gs.length c) gs.length (cellsG gs) ∧ w'.ownsRow w.heap.size 3 1 (.slice A' zs.length c') zs.length (cellsI zs) ∧ Below w.heap.size w w'
theorem retGIB {r : List Gt × List Int × Bool} {gs : List Gt} {zs : List Int} {b : Bool} {w w' : World} {A A' : Option Addr} {n n' c c' : Nat} (hr : r = (gs, zs, b)) (hn : gs.length = n) (hn' : zs.length = n') (h1 : w'.ownsRow w.heap.size 63 4 (.slice A n c) n (cellsG gs)) (h2 : w'.ownsRow w.heap.size 3 1 (.slice A' n' c') n' (cellsI zs)) (hB : Below w.heap.size w w') :
    RetGIB r.1 r.2.1 r.2.2 w (.returned (.tuple #[.slice A n c, .slice A' n' c', .bool b])) w' := by
  subst hr hn hn'
  exact ⟨A, c, A', c', rfl, h1, h2, hB⟩
def OneBx (w : World) (N : Int) (B : Option Addr) (m d : Nat) (wx : World) : Prop := Bx wx w.heap.size 41 #[.int .i64 N, .slice B m d] ∧ Below w.heap.size w wx
theorem OneBx.below {w wx w' : World} {N : Int} {B : Option Addr} {m d : Nat} (h : OneBx w N B m d wx) (hb : Below wx.heap.size wx w') : OneBx w N B m d w' := ⟨h.1.below hb, below_trans h.2 hb⟩
theorem OneBx.drew {w wx : World} {N : Int} {B : Option Addr} {m d : Nat} (h : OneBx w N B m d wx) : OneBx w N B m d wx.drew := ⟨h.1, h.2.drew⟩
theorem OneBx.grown {w wx w' : World} {N : Int} {B : Option Addr} {m d : Nat} (h : OneBx w N B m d wx) {base e sz n : Nat} {v : Value} {xs : List Value} (ho : wx.ownsRow base e sz v n xs) (hg : wx.grownBy w' v.ownBlock) (h2 : e ≠ 41) (hb : w.heap.size ≤ base) : OneBx w N B m d w' :=
  ⟨h.1.grown hg (own_bx_ne ho h.1 h2), below_grown h.2 h.2.size ho hb hg⟩
theorem OneBx.cells {w wx : World} {N : Int} {B : Option Addr} {m d : Nat} (h : OneBx w N B m d wx) : wx.cell? ⟨w.heap.size, 0, none⟩ = some (.int .i64 N) ∧ wx.cell? ⟨w.heap.size, 1, none⟩ = some (.slice B m d) := ⟨h.1.cell 0, h.1.cell 1⟩
theorem rtsL_step {ps : List (Int × Int)} {N : Int} {gs : List Gt} {z : List Int} {acc : List Gt} {k : Nat} {g : Gt} (hd : gs.drop k = g :: gs.drop (k + 1)) (h : mayR ps N z g = true) : rtsL ps N (gs.drop k) z acc = rtsL ps N (gs.drop (k + 1)) (routeG ps N z g).2 (acc ++ (routeG ps N z g).1) := by rw [hd, rtsL, if_pos h]
theorem rtsL_no {ps : List (Int × Int)} {N : Int} {gs : List Gt} {z : List Int} {acc : List Gt} {k : Nat} {g : Gt} (hd : gs.drop k = g :: gs.drop (k + 1)) (h : mayR ps N z g = false) : rtsL ps N (gs.drop k) z acc = ([], [], false) := by rw [hd, rtsL, if_neg (by rw [h]; simp)]
theorem routeG_rowN {ps : List (Int × Int)} {N : Int} {z : List Int} {g : Gt} {n : Nat} (h : isLay ps N z = true) (hn : z.length = n) : (routeG ps N z g).2.length = n := by
  have h1 := isLay_len (routeG_lay (g := g) h)
  have h2 := isLay_len h
  omega
theorem routeGs_yes {ps : List (Int × Int)} {N : Int} {zs : List Int} {gs : List Gt} (h : isLay ps N zs = true) : routeGs ps N zs gs = rtsL ps N gs zs [] := by unfold routeGs; rw [if_pos h]
theorem routeGs_no {ps : List (Int × Int)} {N : Int} {zs : List Int} {gs : List Gt} (h : isLay ps N zs = false) : routeGs ps N zs gs = ([], [], false) := by unfold routeGs; rw [if_neg (by rw [h]; simp)]

set_option maxRecDepth 100000 in
set_option maxHeartbeats 6400000 in
theorem i_RouteGates (A : Option Addr) (n cap : Nat) (gs : List Gt) (N : Int) (B : Option Addr) (m d : Nat) (ps : List (Int × Int)) (Z : Option Addr) (nz cz : Nat) (zs : List Int) (w : World) (h : RdG w A n gs) (hng : n ≤ 1048576) (hp : RdP w B m ps) (hm : m ≤ 1099511627776) (hz : RdI w Z nz zs) (hn : nz ≤ 1048576) :
    Calls Try.prog 44 #[.slice A n cap, .agg #[.int .i64 N, .slice B m d], .slice Z nz cz] w (RetGIB (routeGs ps N zs gs).1 (routeGs ps N zs gs).2.1 (routeGs ps N zs gs).2.2 w) := by
  have H := Lib.hid h
  have HP := Lib.hid hp
  have HZ := Lib.hid hz
  have HZL := Lib.hid hz.1
  clear h hp hz
  obtain ⟨R, hR⟩ : ∃ R, routeGs ps N zs gs = R := ⟨_, rfl⟩
  have HRR := Lib.hid hR
  have T0 := Lib.hid (show OneBx w N B m d (w.alloc (.cells #[.int .i64 N, .slice B m d] 41)) from ⟨Bx.new w _ _, (Below.refl _ _).alloc (Nat.le_refl _) _⟩)
  go_enter Try.func44, Try.ntmps44
  go_wp2_with fail
  refine (i_isLayout N _ _ _ ps _ _ _ zs _ (HP.out.below T0.out.2) hm (HZ.out.below T0.out.2) (by omega)).mono ?_
  rintro e w1 ⟨rfl, b1⟩
  have T1 := Lib.hid (T0.out.below b1)
  clear b1 T0
  cases hly : isLay ps N zs
  · have HN := Lib.hid (routeGs_no (gs := gs) hly)
    clear hly
    go_wp2_with fail
    go_ret3
    exact retGIB HN.out rfl rfl (World.ownsRow_nil _ _ _ _) (World.ownsRow_nil _ _ _ _) T1.out.2
  · have HLAY := Lib.hid hly
    have HRL : Hid (rtsL ps N gs zs [] = R) := Lib.hid (by rw [← hR, routeGs_yes hly])
    clear hly hR
    have OL := Lib.hid (show (w1.alloc (.cells #[] 3)).ownsRow w.heap.size 3 1 (.slice (some ⟨w1.heap.size, 0, none⟩) 0 0) 0 [] from World.ownsRow_lit w1 #[] 0 T1.out.2.size (by simp [maxLen]) rfl)
    have TL := Lib.hid (T1.out.below ((Below.refl _ _).alloc (Nat.le_refl _) (.cells #[] 3)))
    have hs1 := T1.out.2.size
    go_wp2_with (at_builtin; refine wpList_app0 rfl (.tmp 19) (.tmp 20) 47 rfl Try.underlying47 infoInt1 rfl (by decide) rfl OL.out rfl (HZ.out.below TL.out.2).2 one_cellsI (by omega) (by decide) (by simp <;> omega) ?_; intro A2 c2 w2 o2 g2)
    have T2' := TL.out.grown OL.out g2 (by decide) (Nat.le_refl _)
    have hs2 := T2'.2.size
    have T2 := Lib.hid (T2'.below ((Below.refl _ _).alloc (Nat.le_refl _) (.cells #[] 63)))
    have O2 := Lib.hid (o2.alloc (.cells #[] 63))
    have G2 := Lib.hid (show (w2.alloc (.cells #[] 63)).ownsRow w.heap.size 63 4 (.slice (some ⟨w2.heap.size, 0, none⟩) 0 0) 0 (cellsG []) from World.ownsRow_lit w2 #[] 0 hs2 (by simp [maxLen]) rfl)
    clear T1 OL TL hs1 o2 g2 T2' hs2
    go_loopg [9, 10, 25] n (fun r z o i wr => ∃ (k : Nat) (zl : List Int) (ol : List Gt) (Az : Option Addr) (cz' : Nat) (Ao : Option Addr) (no co : Nat), k + r = n ∧ i = .int .i64 k ∧ z = .slice Az nz cz' ∧ o = .slice Ao no co ∧ ol.length = no ∧ no ≤ 4 * k ∧ zl.length = nz ∧ isLay ps N zl = true ∧ rtsL ps N (gs.drop k) zl ol = R ∧ wr.ownsRow w.heap.size 3 1 (.slice Az nz cz') nz (cellsI zl) ∧ wr.ownsRow w.heap.size 63 4 (.slice Ao no co) no (cellsG ol) ∧ OneBx w N B m d wr)
    case atStart => exact ⟨0, zs, [], _, _, _, 0, 0, by omega, rfl, rfl, rfl, rfl, by omega, HZL.out, HLAY.out, HRL.out, O2.out, G2.out, T2.out⟩
    case round =>
      clear T2 O2 G2 HRL HLAY
      obtain ⟨k, zl, ol, Az, cz', Ao, no, co, hk, rfl, rfl, rfl, hol, hno, hzl, hly, hq, oz, oo, tt⟩ := hrel
      have HOL := Lib.hid hol
      have HZL2 := Lib.hid hzl
      have HLAY := Lib.hid hly
      have HQ := Lib.hid hq
      have OZ := Lib.hid oz
      have OO := Lib.hid oo
      have TT := Lib.hid tt
      clear hol hzl hly hq oz oo tt
      have hs0 := TT.out.2.size
      by_cases hlt : k < n
      · obtain ⟨bg, fg, gt, hA, hBg, hd, q0, q1, q2, q3⟩ := (H.out.below TT.out.2).at_ hlt
        subst hA
        have HD := Lib.hid hd
        clear hd
        have hi0 : (0 : Int) ≤ (k : Int) := by omega
        have hi1 : (k : Int) < (n : Int) := by omega
        obtain ⟨p0, p1⟩ := TT.out.cells
        have hsl : w.heap.size < wr.heap.size := TT.out.1.lt
        go_wp2_with fail
        clear hsl
        have TA := Lib.hid (TT.out.below ((Below.refl _ _).alloc (Nat.le_refl _) (.cells #[.int .i64 gt.k, .int .i64 gt.a, .int .i64 gt.b, .int .i64 gt.c] 63)))
        have ZA := Lib.hid (OZ.out.alloc (.cells #[.int .i64 gt.k, .int .i64 gt.a, .int .i64 gt.b, .int .i64 gt.c] 63))
        have OA := Lib.hid (OO.out.alloc (.cells #[.int .i64 gt.k, .int .i64 gt.a, .int .i64 gt.b, .int .i64 gt.c] 63))
        have XA := Lib.hid (Bx.new wr 63 #[.int .i64 gt.k, .int .i64 gt.a, .int .i64 gt.b, .int .i64 gt.c])
        refine (i_mayRoute gt N B m d ps _ nz _ zl _ (HP.out.below TA.out.2) hm (RdI.own ZA.out) (by omega)).mono ?_
        rintro e w3 ⟨rfl, b3⟩
        have X3 := Lib.hid (XA.out.below b3)
        have T3 := Lib.hid (TA.out.below b3)
        have Z3 := Lib.hid (ownsRow_below ZA.out b3)
        have O3 := Lib.hid (ownsRow_below OA.out b3)
        have hs3 := T3.out.2.size
        clear p0 p1 q0 q1 q2 q3 b3 TA ZA OA TT OZ OO hs0 XA
        cases hmay : mayR ps N zl gt
        · have HN := Lib.hid (show R = ([], [], false) from by rw [← HQ.out, rtsL_no HD.out hmay])
          clear hmay
          go_wp2_with fail
          go_ret3
          have hs3' : w.heap.size ≤ (w3.alloc (.cells #[] 63)).heap.size := Nat.le_trans hs3 (by simp)
          exact retGIB (HRR.out.trans HN.out) rfl rfl (World.ownsRow_nil _ _ _ _) (World.ownsRow_nil _ _ _ _) T3.out.2
        · have HST := Lib.hid (show rtsL ps N (gs.drop (k + 1)) (routeG ps N zl gt).2 (ol ++ (routeG ps N zl gt).1) = R from by rw [← HQ.out, rtsL_step HD.out hmay])
          have HL2 := Lib.hid (routeG_lay (g := gt) HLAY.out)
          have hl1 := routeG_len ps N zl gt
          have hl2 := routeG_rowN (g := gt) HLAY.out HZL2.out
          obtain ⟨L1, e1⟩ : ∃ L, (routeG ps N zl gt).1 = L := ⟨_, rfl⟩
          obtain ⟨L2, e2⟩ : ∃ L, (routeG ps N zl gt).2 = L := ⟨_, rfl⟩
          rw [e1] at hl1 HST
          rw [e2] at hl2 HST HL2
          obtain ⟨q, hq⟩ : ∃ q, L1.length = q := ⟨_, rfl⟩
          rw [hq] at hl1
          have E1 := Lib.hid e1
          have E2 := Lib.hid e2
          have HQ1 := Lib.hid hq
          have HLL := Lib.hid hl2
          clear e1 e2 hq hl2 hmay
          obtain ⟨p0, p1⟩ := T3.out.cells
          obtain ⟨q0, q1, q2, q3, _, _, _, _⟩ := X3.out.four
          go_wp2_with fail
          refine (i_RouteGate gt N B m d ps _ nz _ zl _ (HP.out.below T3.out.2) hm (RdI.own Z3.out) hn).mono ?_
          rintro e w4 ⟨A4, c4, A5, c5, rfl, o4, o5, b4⟩
          rw [E1.out] at o4 ⊢
          rw [E2.out] at o5 ⊢
          rw [HQ1.out] at o4 ⊢
          rw [HLL.out] at o5 ⊢
          have T4 := Lib.hid (T3.out.below b4)
          have O4 := Lib.hid (ownsRow_below O3.out b4)
          have S4 := Lib.hid o4
          have Z4 := Lib.hid (ownsRow_base o5 hs3)
          have hs4 := T4.out.2.size
          clear p0 p1 q0 q1 q2 q3 o4 o5 b4 T3 O3 Z3 X3
          go_wp2_with (at_builtin; refine wpList_app rfl (.tmp 41) (.tmp 42) 24 rfl Try.underlying24 infoGate rfl (by decide) rfl O4.out rfl (Rd.own S4.out) one_cellsG (by omega) (by decide) hs4 ?_; intro A6 c6 w6 o6 g6)
          go_roundg (gk - 1)
          case measure => omega
          case rel =>
            refine ⟨k + 1, L2, ol ++ L1, A5, c5, A6, no + q, c6, by omega, by go_num, rfl, rfl, by rw [List.length_append, HOL.out, HQ1.out], by omega, HLL.out, HL2.out, HST.out, Z4.out.kept g6 (own_types Z4.out O4.out (by decide)), by rw [cellsG_append]; exact o6, T4.out.grown O4.out g6 (by decide) (Nat.le_refl _)⟩
      · go_wp2_with fail
        go_ret3
        have hend : R = (ol, zl, true) := by rw [← HQ.out, List.drop_eq_nil_of_le (by have := H.out.1; omega), rtsL]
        exact retGIB (HRR.out.trans hend) HOL.out HZL2.out OO.out OZ.out TT.out.2

set_option maxRecDepth 100000 in
set_option maxHeartbeats 6400000 in
theorem s_RouteGates (A : Option Addr) (n cap : Nat) (gs : List Gt) (N : Int) (B : Option Addr) (m d : Nat) (ps : List (Int × Int)) (Z : Option Addr) (nz cz : Nat) (zs : List Int) (w : World) (h : RdG w A n gs) (hng : n ≤ 1048576) (hp : RdP w B m ps) (hm : m ≤ 1099511627776) (hz : RdI w Z nz zs) (hzc : nz ≤ cz) (hn : nz ≤ 1048576) :
    Calls Try.prog 45 #[.slice A n cap, .agg #[.int .i64 N, .slice B m d], .slice Z nz cz] w (RetGIB (routeGs ps N zs gs).1 (routeGs ps N zs gs).2.1 (routeGs ps N zs gs).2.2 w) := by
  have H := Lib.hid h
  have HP := Lib.hid hp
  have HZ := Lib.hid hz
  have HZL := Lib.hid hz.1
  have HL : Hid (isLay ps N zs = (valid ps N && (isPerm zs && ((nz : Int) == N)))) := Lib.hid (by rw [isLay_alt, hz.1])
  clear h hp hz
  obtain ⟨R, hR⟩ : ∃ R, routeGs ps N zs gs = R := ⟨_, rfl⟩
  have HRR := Lib.hid hR
  have T0 := Lib.hid (show OneBx w N B m d (w.alloc (.cells #[.int .i64 N, .slice B m d] 41)) from ⟨Bx.new w _ _, (Below.refl _ _).alloc (Nat.le_refl _) _⟩)
  have G0 := Lib.hid (show (((w.alloc (.cells #[.int .i64 N, .slice B m d] 41)).alloc (.cells #[] 63)).alloc (.cells #[] 3)).ownsRow w.heap.size 63 4 (.slice (some ⟨w.heap.size + 1, 0, none⟩) 0 0) 0 (cellsG []) from by have := (World.ownsRow_lit (e := 63) (size := 4) (base := w.heap.size) (w.alloc (.cells #[.int .i64 N, .slice B m d] 41)) #[] 0 (by simp) (by simp [maxLen]) rfl).alloc (.cells #[] 3); rw [World.size_alloc] at this; exact this)
  have OL := Lib.hid (show (((w.alloc (.cells #[.int .i64 N, .slice B m d] 41)).alloc (.cells #[] 63)).alloc (.cells #[] 3)).ownsRow w.heap.size 3 1 (.slice (some ⟨w.heap.size + 1 + 1, 0, none⟩) 0 0) 0 [] from by have := World.ownsRow_lit (e := 3) (size := 1) (base := w.heap.size) ((w.alloc (.cells #[.int .i64 N, .slice B m d] 41)).alloc (.cells #[] 63)) #[] 0 (by simp; omega) (by simp [maxLen]) rfl; rw [World.size_alloc, World.size_alloc] at this; exact this)
  have TL := Lib.hid (T0.out.below (((Below.refl _ _).alloc (Nat.le_refl _) (.cells #[] 63)).alloc (by simp) (.cells #[] 3)))
  go_enter Try.func45, Try.ntmps45
  go_wp2_with (at_builtin; refine wpList_app0 rfl (.tmp 15) (.tmp 16) 47 rfl Try.underlying47 infoInt1 rfl (by decide) rfl OL.out rfl (HZ.out.below TL.out.2).2 one_cellsI (by omega) (by decide) (by simp <;> omega) ?_; intro A2 c2 w2 o2 g2; have T2 := Lib.hid (TL.out.grown OL.out g2 (by decide) (Nat.le_refl _)); have ⟨p0, p1⟩ := T2.out.cells)
  have O2 := Lib.hid o2
  have G2 := Lib.hid (G0.out.kept g2 (own_types G0.out OL.out (by decide)))
  clear o2 g2 G0 OL TL T0
  refine (s_IsValidGraph N _ _ _ ps _ (HP.out.below T2.out.2) hm).mono ?_
  rintro e w3 ⟨rfl, b3⟩
  have T3 := Lib.hid (T2.out.below b3)
  have O3 := Lib.hid (ownsRow_below O2.out b3)
  have G3 := Lib.hid (ownsRow_below G2.out b3)
  clear T2 O2 G2 b3 p0 p1
  cases h3 : valid ps N
  · have H3 := Lib.hid h3
    clear h3
    go_wp2_with fail
    go_ret3
    have hsz := T3.out.2.size
    exact retGIB (routeGs_no (by rw [HL.out, H3.out, Bool.false_and])) rfl rfl (G3.out.alloc _) (World.ownsRow_lit (e := 3) (size := 1) _ #[] 0 hsz (by simp [maxLen]) rfl) (T3.out.2.alloc hsz _)
  · have H3 := Lib.hid h3
    clear h3
    go_wp2_with fail
    refine (s_IsPermutation _ _ _ zs _ (HZ.out.below T3.out.2) hzc (by omega)).mono ?_
    rintro e w4 ⟨rfl, b4⟩
    have T4 := Lib.hid (T3.out.below b4)
    have O4 := Lib.hid (ownsRow_below O3.out b4)
    have G4 := Lib.hid (ownsRow_below G3.out b4)
    clear T3 O3 G3 b4
    cases h4 : isPerm zs
    · have H4 := Lib.hid h4
      clear h4
      go_wp2_with fail
      go_ret3
      have hsz := T4.out.2.size
      exact retGIB (routeGs_no (by rw [HL.out, H4.out, Bool.false_and, Bool.and_false])) rfl rfl (G4.out.alloc _) (World.ownsRow_lit (e := 3) (size := 1) _ #[] 0 hsz (by simp [maxLen]) rfl) (T4.out.2.alloc hsz _)
    · have H4 := Lib.hid h4
      clear h4
      obtain ⟨p0, p1⟩ := T4.out.cells
      cases h5 : ((nz : Int) == N)
      · have H5 := Lib.hid h5
        have h5n : ((nz : Int) != N) = true := by simp [bne, h5]
        clear h5
        go_wp2_with fail
        go_ret3
        have hsz := T4.out.2.size
        exact retGIB (routeGs_no (by rw [HL.out, H5.out, Bool.and_false, Bool.and_false])) rfl rfl (G4.out.alloc _) (World.ownsRow_lit (e := 3) (size := 1) _ #[] 0 hsz (by simp [maxLen]) rfl) (T4.out.2.alloc hsz _)
      · have H5 := Lib.hid h5
        have h5n : ((nz : Int) != N) = false := by simp [bne, h5]
        clear h5
        have hly : isLay ps N zs = true := by rw [HL.out, H3.out, H4.out, H5.out]; rfl
        have HLAY := Lib.hid hly
        have HRL : Hid (rtsL ps N gs zs [] = R) := Lib.hid (by rw [← hR, routeGs_yes hly])
        clear hly hR
        go_wp2_with fail
        clear h5n p0 p1
        have T2 := T4
        have O2 := O4
        have G2 := G4
        clear T4 O4 G4
        go_loopg [9, 10, 11] n (fun r o z i wr => ∃ (k : Nat) (zl : List Int) (ol : List Gt) (Az : Option Addr) (cz' : Nat) (Ao : Option Addr) (no co : Nat), k + r = n ∧ i = .int .i64 k ∧ z = .slice Az nz cz' ∧ o = .slice Ao no co ∧ ol.length = no ∧ no ≤ 4 * k ∧ zl.length = nz ∧ isLay ps N zl = true ∧ rtsL ps N (gs.drop k) zl ol = R ∧ wr.ownsRow w.heap.size 3 1 (.slice Az nz cz') nz (cellsI zl) ∧ wr.ownsRow w.heap.size 63 4 (.slice Ao no co) no (cellsG ol) ∧ OneBx w N B m d wr)
        case atStart => exact ⟨0, zs, [], _, _, _, 0, 0, by omega, rfl, rfl, rfl, rfl, by omega, HZL.out, HLAY.out, HRL.out, O2.out, G2.out, T2.out⟩
        case round =>
          clear T2 O2 G2 HRL HLAY
          obtain ⟨k, zl, ol, Az, cz', Ao, no, co, hk, rfl, rfl, rfl, hol, hno, hzl, hly, hq, oz, oo, tt⟩ := hrel
          have HOL := Lib.hid hol
          have HZL2 := Lib.hid hzl
          have HLAY := Lib.hid hly
          have HQ := Lib.hid hq
          have OZ := Lib.hid oz
          have OO := Lib.hid oo
          have TT := Lib.hid tt
          clear hol hzl hly hq oz oo tt
          have hs0 := TT.out.2.size
          by_cases hlt : k < n
          · obtain ⟨bg, fg, gt, hA, hBg, hd, q0, q1, q2, q3⟩ := (H.out.below TT.out.2).at_ hlt
            subst hA
            have HD := Lib.hid hd
            clear hd
            have hi0 : (0 : Int) ≤ (k : Int) := by omega
            have hi1 : (k : Int) < (n : Int) := by omega
            obtain ⟨p0, p1⟩ := TT.out.cells
            have hsl : w.heap.size < wr.heap.size := TT.out.1.lt
            go_wp2_with fail
            clear hsl
            go_still_tail 6, (by kernel_rfl)
            go_wp2_with fail
            have TA := Lib.hid TT.out.drew
            have ZA := Lib.hid (ownsRow_drew OZ.out)
            have OA := Lib.hid (ownsRow_drew OO.out)
            refine (s_l38Right gt N B m d ps _ nz _ zl _ (HP.out.below TA.out.2) hm (RdI.own ZA.out) (ownsRow_cap ZA.out) (by omega)).mono ?_
            rintro e w3 ⟨rfl, b3⟩
            have T3 := Lib.hid (TA.out.below b3)
            have Z3 := Lib.hid (ownsRow_below ZA.out b3)
            have O3 := Lib.hid (ownsRow_below OA.out b3)
            have hs3 := T3.out.2.size
            clear p0 p1 q0 q1 q2 q3 b3 TA ZA OA TT OZ OO hs0
            cases hmay : mayR ps N zl gt
            · have HN := Lib.hid (show R = ([], [], false) from by rw [← HQ.out, rtsL_no HD.out hmay])
              clear hmay
              go_wp2_with fail
              go_ret3
              have hs3' : w.heap.size ≤ (w3.alloc (.cells #[] 63)).heap.size := Nat.le_trans hs3 (by simp)
              exact retGIB (HRR.out.trans HN.out) rfl rfl ((World.ownsRow_lit w3 #[] 0 hs3 (by simp [maxLen]) rfl).alloc _) (by have := World.ownsRow_lit (e := 3) (size := 1) (w3.alloc (.cells #[] 63)) #[] 0 hs3' (by simp [maxLen]) rfl; rw [World.size_alloc] at this; exact this) ((T3.out.2.alloc hs3 (.cells #[] 63)).alloc hs3' _)
            · have HST := Lib.hid (show rtsL ps N (gs.drop (k + 1)) (routeG ps N zl gt).2 (ol ++ (routeG ps N zl gt).1) = R from by rw [← HQ.out, rtsL_step HD.out hmay])
              have HL2 := Lib.hid (routeG_lay (g := gt) HLAY.out)
              have hl1 := routeG_len ps N zl gt
              have hl2 := routeG_rowN (g := gt) HLAY.out HZL2.out
              obtain ⟨L1, e1⟩ : ∃ L, (routeG ps N zl gt).1 = L := ⟨_, rfl⟩
              obtain ⟨L2, e2⟩ : ∃ L, (routeG ps N zl gt).2 = L := ⟨_, rfl⟩
              rw [e1] at hl1 HST
              rw [e2] at hl2 HST HL2
              obtain ⟨q, hq⟩ : ∃ q, L1.length = q := ⟨_, rfl⟩
              rw [hq] at hl1
              have E1 := Lib.hid e1
              have E2 := Lib.hid e2
              have HQ1 := Lib.hid hq
              have HLL := Lib.hid hl2
              clear e1 e2 hq hl2 hmay
              obtain ⟨p0, p1⟩ := T3.out.cells
              obtain ⟨bg', fg', gt', hA', hBg3, hd', q0, q1, q2, q3⟩ := (H.out.below T3.out.2).at_ hlt
              injection hA' with hA'
              injection hA' with e3 e4 _
              subst e3 e4
              obtain rfl : gt = gt' := by rw [HD.out] at hd'; injection hd'
              clear hd'
              have hgl : w.heap.size < w3.heap.size := T3.out.1.lt
              have HPd := Lib.hid (HP.out.below T3.out.2).drew
              go_wp2_with fail
              go_region_held3 (fun w' => w'.cell? ⟨bg, fg + k * 4, none⟩ = some (.int .i64 gt.k) ∧ w'.cell? ⟨bg, fg + k * 4 + 1, none⟩ = some (.int .i64 gt.a) ∧ w'.cell? ⟨bg, fg + k * 4 + 2, none⟩ = some (.int .i64 gt.b) ∧ w'.cell? ⟨bg, fg + k * 4 + 3, none⟩ = some (.int .i64 gt.c) ∧ w'.cell? ⟨w.heap.size, 0, none⟩ = some (.int .i64 N) ∧ w'.cell? ⟨w.heap.size, 1, none⟩ = some (.slice B m d))
                (first | go_keep | exact ⟨k0, k1, k2, k3, k4, k5⟩)
                ((go_at_call 108; (with_reducible refine (s_RouteGate gt N B m d ps _ nz _ zl _ HPd.out hm (RdI.own Z3.out).drew (ownsRow_cap Z3.out) hn).mono ?_); rintro e w4 ⟨A4, c4, A5, c5, rfl, o4, o5, b4⟩; rw [E1.out] at o4 ⊢; rw [E2.out] at o5 ⊢; rw [HQ1.out] at o4 ⊢; rw [HLL.out] at o5 ⊢; have k0 := (b4.cell (p := ⟨bg, fg + k * 4, none⟩) hBg3).trans q0; have k1 := (b4.cell (p := ⟨bg, fg + k * 4 + 1, none⟩) hBg3).trans q1; have k2 := (b4.cell (p := ⟨bg, fg + k * 4 + 2, none⟩) hBg3).trans q2; have k3 := (b4.cell (p := ⟨bg, fg + k * 4 + 3, none⟩) hBg3).trans q3; have k4 := (b4.cell (p := ⟨w.heap.size, 0, none⟩) hgl).trans p0; have k5 := (b4.cell (p := ⟨w.heap.size, 1, none⟩) hgl).trans p1))
              have T4 := Lib.hid (T3.out.drew.below b4)
              have O4 := Lib.hid (ownsRow_below (ownsRow_drew O3.out) b4)
              have S4 := Lib.hid o4
              have Z4 := Lib.hid (ownsRow_base o5 (show w.heap.size ≤ w3.drew.heap.size from hs3))
              have hs4 := T4.out.2.size
              clear p0 p1 q0 q1 q2 q3 o4 o5 b4 T3 O3 Z3 k0 k1 k2 k3 k4 k5
              go_wp2_with (at_builtin; refine wpList_app rfl (.tmp 61) (.tmp 62) 24 rfl Try.underlying24 infoGate rfl (by decide) rfl O4.out rfl (Rd.own S4.out) one_cellsG (by omega) (by decide) hs4 ?_; intro A6 c6 w6 o6 g6)
              go_roundg (gk - 1)
              case measure => omega
              case rel =>
                refine ⟨k + 1, L2, ol ++ L1, A5, c5, A6, no + q, c6, by omega, by go_num, rfl, rfl, by rw [List.length_append, HOL.out, HQ1.out], by omega, HLL.out, HL2.out, HST.out, Z4.out.kept g6 (own_types Z4.out O4.out (by decide)), by rw [cellsG_append]; exact o6, T4.out.grown O4.out g6 (by decide) (Nat.le_refl _)⟩
          · go_wp2_with fail
            go_ret3
            have hend : R = (ol, zl, true) := by rw [← HQ.out, List.drop_eq_nil_of_le (by have := H.out.1; omega), rtsL]
            exact retGIB (HRR.out.trans hend) HOL.out HZL2.out OO.out OZ.out TT.out.2
end Go.Proofs.YtgnallcfahpjmaaR
