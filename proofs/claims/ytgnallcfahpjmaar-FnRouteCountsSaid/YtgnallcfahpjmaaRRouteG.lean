/- Contracts of RouteGate (impl and spec). At most 2^40 edges, 2^20 numbers. -/
import Derived.Test.YtgnallcfahpjmaaRMay
import Derived.Test.YtgnallcfahpjmaaRPath
import Derived.Test.YtgnallcfahpjmaaRPathI
import Derived.Test.YtgnallcfahpjmaaRSwapL
import Derived.Test.YtgnallcfahpjmaaRGateS
import Derived.Test.YtgnallcfahpjmaaRIntS
import Derived.Test.YtgnallcfahpjmaaRReads
import Derived.Test.YtgnallcfahpjmaaRPairN
import Derived.StillTailTactics
import Derived.Deep.RegionHeld3
namespace Go.Proofs.YtgnallcfahpjmaaR
open Go.RowKit

/-- What a function that hands back new gates and new numbers comes to. -/
def RetGI (gs : List Gt) (zs : List Int) (w : World) (e : Ending) (w' : World) : Prop :=
  ∃ (A : Option Addr) (c : Nat) (A' : Option Addr) (c' : Nat), e = .returned (.tuple #[.slice A gs.length c, .slice A' zs.length c']) ∧ w'.ownsRow w.heap.size 63 4 (.slice A gs.length c) gs.length (cellsG gs) ∧ w'.ownsRow w.heap.size 3 1 (.slice A' zs.length c') zs.length (cellsI zs) ∧ Below w.heap.size w w'
theorem retGI {gs : List Gt} {zs : List Int} {w w' : World} {A A' : Option Addr} {n n' c c' b b' : Nat} (hn : gs.length = n) (hn' : zs.length = n') (h1 : w'.ownsRow b 63 4 (.slice A n c) n (cellsG gs)) (hb : w.heap.size ≤ b) (h2 : w'.ownsRow b' 3 1 (.slice A' n' c') n' (cellsI zs)) (hb' : w.heap.size ≤ b') (hB : Below w.heap.size w w') :
    RetGI gs zs w (.returned (.tuple #[.slice A n c, .slice A' n' c'])) w' := by
  subst hn hn'
  exact ⟨A, c, A', c', rfl, ownsRow_base h1 hb, ownsRow_base h2 hb', hB⟩
theorem routeG_no {ps : List (Int × Int)} {N : Int} {z : List Int} {g : Gt} (h : mayR ps N z g = false) : routeG ps N z g = ([], z) := by unfold routeG; rw [if_neg (by rw [h]; simp)]
theorem routeG_one {ps : List (Int × Int)} {N : Int} {z : List Int} {g : Gt} (h : mayR ps N z g = true) (h1 : (arity g.k == 1) = true) : routeG ps N z g = ([⟨g.k, zAt z g.a, 0, 0⟩], z) := by unfold routeG; rw [if_pos h, if_pos h1]
theorem routeG_two {ps : List (Int × Int)} {N : Int} {z : List Int} {g : Gt} (h : mayR ps N z g = true) (h1 : (arity g.k == 1) = false) : routeG ps N z g = rt ps N g.a g.b 3 z := by unfold routeG; rw [if_pos h, if_neg (by rw [h1]; simp)]
theorem zAt_nat (z : List Int) {q : Int} {k : Nat} (h : q = k) : zAt z q = z.getD k 0 := by subst h; unfold zAt; rw [Int.toNat_natCast]
theorem swapN_perm {z : List Int} (h : isPerm z = true) : swapN z = z.length := by unfold swapN; rw [if_pos h]
theorem spN_eq {ps : List (Int × Int)} {N a b : Int} (h : 0 ≤ gd ps N a b) : spN ps N a b = (spath ps N a b).length := by
  unfold spN spath
  rw [if_neg (by omega), List.length_cons, spath_len]
  omega
theorem way_cells {w : World} {base e n c : Nat} {A : Option Addr} {x y : Int} {r : List Int} (h : w.ownsRow base e 1 (.slice A n c) n (cellsI (x :: y :: r))) : ∃ b f, A = some ⟨b, f, none⟩ ∧ b < w.heap.size ∧ w.cell? ⟨b, f, none⟩ = some (.int .i64 x) ∧ w.cell? ⟨b, f + 1, none⟩ = some (.int .i64 y) := by
  have hr := RdI.own h
  have hl := hr.1
  simp only [List.length_cons] at hl
  obtain ⟨b, f, e, hb, hc⟩ := hr.2.2 (by omega)
  exact ⟨b, f, e, hb, hc 0 _ rfl, hc 1 _ rfl⟩
theorem way_at {w : World} {base e n c b f : Nat} {x y : Int} {r : List Int} (h : w.ownsRow base e 1 (.slice (some ⟨b, f, none⟩) n c) n (cellsI (x :: y :: r))) : b < w.heap.size ∧ w.cell? ⟨b, f, none⟩ = some (.int .i64 x) ∧ w.cell? ⟨b, f + 1, none⟩ = some (.int .i64 y) := by
  obtain ⟨b', f', e, hb, h0, h1⟩ := way_cells h
  injection e with e
  injection e with e1 e2 _
  subst e1 e2
  exact ⟨hb, h0, h1⟩
theorem row_at {w : World} {base e n c b f k : Nat} {zl : List Int} (h : w.ownsRow base e 1 (.slice (some ⟨b, f, none⟩) n c) n (cellsI zl)) (hk : k < n) : b < w.heap.size ∧ w.cell? ⟨b, f + k, none⟩ = some (.int .i64 (zl.getD k 0)) := by
  obtain ⟨b', f', x, e, hb, hd, hc⟩ := (RdI.own h).at_ hk
  injection e with e
  injection e with e1 e2 _
  subst e1 e2
  rw [drop_getD hd]
  exact ⟨hb, hc⟩
theorem TwoBx.cellA {w wx : World} {g : Gt} {N : Int} {B : Option Addr} {m d k : Nat} (h : TwoBx w g N B m d wx) (hk : g.a = k) : wx.cell? ⟨w.heap.size, 1, none⟩ = some (.int .i64 (k : Int)) := by rw [h.cells.2.1, hk]
theorem TwoBx.cellB {w wx : World} {g : Gt} {N : Int} {B : Option Addr} {m d k : Nat} (h : TwoBx w g N B m d wx) (hk : g.b = k) : wx.cell? ⟨w.heap.size, 2, none⟩ = some (.int .i64 (k : Int)) := by rw [h.cells.2.2.1, hk]
theorem row_atz {w : World} {base e n c b f k : Nat} {zl : List Int} {q x : Int} (h : w.ownsRow base e 1 (.slice (some ⟨b, f, none⟩) n c) n (cellsI zl)) (hk : k < n) (hq : q = k) (hx : zAt zl q = x) : w.cell? ⟨b, f + k, none⟩ = some (.int .i64 x) := by
  rw [(row_at h hk).2, ← hx, zAt_nat zl hq]
theorem one_cellsG1 (k a b c : Int) : [Value.int .i64 k, .int .i64 a, .int .i64 b, .int .i64 c] = cellsG [⟨k, a, b, c⟩] := rfl

set_option maxRecDepth 100000 in
set_option maxHeartbeats 6400000 in
theorem i_RouteGate (g : Gt) (N : Int) (B : Option Addr) (m d : Nat) (ps : List (Int × Int)) (Z : Option Addr) (nz cz : Nat) (zs : List Int) (w : World) (hp : RdP w B m ps) (hm : m ≤ 1099511627776) (hz : RdI w Z nz zs) (hn : nz ≤ 1048576) :
    Calls Try.prog 106 #[.agg #[.int .i64 g.k, .int .i64 g.a, .int .i64 g.b, .int .i64 g.c], .agg #[.int .i64 N, .slice B m d], .slice Z nz cz] w (RetGI (routeG ps N zs g).1 (routeG ps N zs g).2 w) := by
  have T0 := Lib.hid (TwoBx.new w g N B m d)
  have HP := Lib.hid hp
  have HZ := Lib.hid hz
  have hzl := hz.1
  have HZL := Lib.hid hzl
  clear hp hz hzl
  have OL := Lib.hid (show (((w.alloc (.cells #[.int .i64 g.k, .int .i64 g.a, .int .i64 g.b, .int .i64 g.c] 63)).alloc (.cells #[.int .i64 N, .slice B m d] 41)).alloc (.cells #[] 3)).ownsRow w.heap.size 3 1 (.slice (some ⟨w.heap.size + 1 + 1, 0, none⟩) 0 0) 0 [] from by have := World.ownsRow_lit (e := 3) (size := 1) (base := w.heap.size) ((w.alloc (.cells #[.int .i64 g.k, .int .i64 g.a, .int .i64 g.b, .int .i64 g.c] 63)).alloc (.cells #[.int .i64 N, .slice B m d] 41)) #[] 0 (by simp <;> omega) (by simp [maxLen]) rfl; simpa using this)
  have TL := Lib.hid (T0.out.below (((Below.refl _ _).alloc (Nat.le_refl _) (.cells #[] 3))))
  clear T0
  go_enter Try.func106, Try.ntmps106
  go_wp2_with (at_builtin; refine wpList_app0 rfl (.tmp 11) (.tmp 12) 47 rfl Try.underlying47 infoInt1 rfl (by decide) rfl OL.out rfl (HZ.out.below TL.out.2.2).2 one_cellsI (by omega) (by decide) (by simp <;> omega) ?_; intro A1 c1 w1 o1 g1; have T1 := Lib.hid (TL.out.grown OL.out g1 (.inl (by decide)) (by decide) (Nat.le_refl _)); have ⟨p0, p1, p2, p3, p4, p5⟩ := T1.out.cells)
  have O1 := Lib.hid o1
  have hs1 : w.heap.size + 2 ≤ w1.heap.size := by have := T1.out.2.1.lt; omega
  clear OL TL o1 g1
  refine (i_mayRoute g N B m d ps Z nz cz zs _ (HP.out.below T1.out.2.2) hm (HZ.out.below T1.out.2.2) (by omega)).mono ?_
  rintro e w2 ⟨rfl, b2⟩
  have T2 := Lib.hid (T1.out.below b2)
  have O2 := Lib.hid (ownsRow_below O1.out b2)
  have hs2 : w.heap.size + 2 ≤ w2.heap.size := by have := b2.size; omega
  clear b2 T1 O1 p0 p1 p2 p3 p4 p5 hs1
  cases hmay : mayR ps N zs g
  · have HM := Lib.hid (routeG_no hmay)
    clear hmay
    go_wp2_with fail
    go_ret2
    rw [HM.out]
    exact retGI rfl HZL.out (World.ownsRow_nil _ w.heap.size _ _) (Nat.le_refl _) O2.out (Nat.le_refl _) T2.out.2.2
  · have HMAY := Lib.hid hmay
    have hlay := (mayR_parts hmay).1
    have HLAY := Lib.hid hlay
    obtain ⟨hN, _, hN1, hN4⟩ := isLay_len hlay
    rw [HZL.out] at hN
    obtain ⟨ha0, ha1⟩ := mayR_a hmay
    obtain ⟨ka, hka⟩ : ∃ ka : Nat, g.a = ka := ⟨g.a.toNat, by omega⟩
    have HKA := Lib.hid hka
    rw [hka] at ha0 ha1
    have hka1 : (ka : Int) < (nz : Int) := by omega
    have HNN := Lib.hid hN
    clear hlay hmay hka hN
    obtain ⟨p0, p1, p2, p3, p4, p5⟩ := T2.out.cells
    rw [HKA.out] at p1
    cases har : (arity g.k == 1)
    · have HAR := Lib.hid har
      obtain ⟨hb0, hb1⟩ := mayR_b HMAY.out har
      obtain ⟨kb, hkb⟩ : ∃ kb : Nat, g.b = kb := ⟨g.b.toNat, by omega⟩
      have HKB := Lib.hid hkb
      rw [hkb] at hb0 hb1
      have hkb1 : (kb : Int) < (nz : Int) := by have := HNN.out; omega
      clear hkb
      rw [HKB.out] at p2
      obtain ⟨R1, hR1⟩ : ∃ R, (routeG ps N zs g).1 = R := ⟨_, rfl⟩
      obtain ⟨R2, hR2⟩ : ∃ R, (routeG ps N zs g).2 = R := ⟨_, rfl⟩
      have HRT1 := Lib.hid hR1
      have HRT2 := Lib.hid hR2
      have HR1 : Hid ((rt ps N g.a g.b 3 zs).1 = R1) := Lib.hid (by rw [← hR1, routeG_two HMAY.out HAR.out])
      have HR2 : Hid ((rt ps N g.a g.b 3 zs).2 = R2) := Lib.hid (by rw [← hR2, routeG_two HMAY.out HAR.out])
      clear hR1 hR2
      go_wp2_with fail
      refine (i_Arity _ _).mono ?_
      rintro e w' ⟨rfl, rfl⟩
      go_wp2_with fail
      have OG3 := Lib.hid (show (w2.alloc (.cells #[] 63)).ownsRow (w.heap.size + 2) 63 4 (.slice (some ⟨w2.heap.size, 0, none⟩) 0 0) 0 (cellsG []) from World.ownsRow_lit w2 #[] 0 hs2 (by simp [maxLen]) rfl)
      have T3 := Lib.hid (T2.out.below ((Below.refl _ _).alloc (Nat.le_refl _) (.cells #[] 63)))
      have O3 := Lib.hid (O2.out.alloc (.cells #[] 63))
      clear p0 p1 p2 p3 p4 p5
      clear har
      go_loopg [8, 9, 10] 3 (fun r z o y wr => ∃ (zl : List Int) (ol : List Gt) (Az : Option Addr) (cz' : Nat) (Ao : Option Addr) (no co : Nat) (r' : Nat), z = .slice Az nz cz' ∧ o = .slice Ao no co ∧ r' = r ∧ ol.length = no ∧ no + r ≤ 3 ∧ gd ps N (zAt zl g.a) (zAt zl g.b) ≤ r' ∧ isLay ps N zl = true ∧ ol ++ (rt ps N g.a g.b r' zl).1 = R1 ∧ (rt ps N g.a g.b r' zl).2 = R2 ∧ wr.ownsRow w.heap.size 3 1 (.slice Az nz cz') nz (cellsI zl) ∧ wr.ownsRow (w.heap.size + 2) 63 4 (.slice Ao no co) no (cellsG ol) ∧ TwoBx w g N B m d wr)
      case atStart =>
        refine ⟨zs, [], _, _, _, 0, 0, 3, rfl, rfl, rfl, rfl, by omega, ?_, HLAY.out, HR1.out, HR2.out, O3.out, OG3.out, T3.out⟩
        have := gd_bd ps N (zAt zs g.a) (zAt zs g.b)
        omega
      case round =>
        clear T3 O3 OG3 HR1 HR2 HLAY
        obtain ⟨zl, ol, Az, cz', Ao, no, co, r', rfl, rfl, hr', hol, hno, hgd, hlay, hq1, hq2, oz, oo, tt⟩ := hrel
        subst hr'
        have HOL := Lib.hid hol
        have HLAY := Lib.hid hlay
        have HQ1 := Lib.hid hq1
        have HQ2 := Lib.hid hq2
        have OZ := Lib.hid oz
        have OO := Lib.hid oo
        have TT := Lib.hid tt
        have hsr : w.heap.size + 2 ≤ wr.heap.size := by have := tt.2.1.lt; omega
        have hzl : zl.length = nz := (RdI.own oz).1
        have HZL2 := Lib.hid hzl
        obtain ⟨za, hza⟩ : ∃ v, zAt zl g.a = v := ⟨_, rfl⟩
        obtain ⟨zb, hzb⟩ : ∃ v, zAt zl g.b = v := ⟨_, rfl⟩
        have HZA := Lib.hid hza
        have HZB := Lib.hid hzb
        obtain ⟨bz, fz, xa, hAz, hBz, hda, ca⟩ := (RdI.own oz).at_ (show ka < nz by omega)
        obtain ⟨bz', fz', xb, hAz', _, hdb, cb⟩ := (RdI.own oz).at_ (show kb < nz by omega)
        subst hAz
        injection hAz' with hAz'
        injection hAz' with e1 e2 _
        subst e1 e2
        obtain rfl : xa = za := by rw [← hza, zAt_nat zl HKA.out]; exact (drop_getD hda).symm
        obtain rfl : xb = zb := by rw [← hzb, zAt_nat zl HKB.out]; exact (drop_getD hdb).symm
        rw [hza, hzb] at hgd
        obtain ⟨D, hD⟩ : ∃ D, gd ps N xa xb = D := ⟨_, rfl⟩
        rw [hD] at hgd
        have HD := Lib.hid hD
        obtain ⟨p0, p1, p2, p3, p4, p5⟩ := tt.cells
        rw [HKA.out] at p1
        rw [HKB.out] at p2
        clear hol hlay hq1 hq2 oz oo tt hzl hza hzb hda hdb hD
        go_wp2_with fail
        go_still_tail 11, (by kernel_rfl)
        go_wp2_with fail
        refine (i_GraphDistance N _ _ _ xa xb ps _ (HP.out.below TT.out.2.2).drew hm).mono ?_
        rintro e w4 ⟨rfl, b4⟩
        rw [HD.out]
        have TT4 := Lib.hid (TT.out.drew.below b4)
        have OZ4 := Lib.hid (ownsRow_below (ownsRow_drew OZ.out) b4)
        have OO4 := Lib.hid (ownsRow_below (ownsRow_drew OO.out) b4)
        have ca4 := (b4.cell (p := ⟨bz, fz + ka, none⟩) hBz).trans ca
        have cb4 := (b4.cell (p := ⟨bz, fz + kb, none⟩) hBz).trans cb
        have hB4 : bz < w4.heap.size := Nat.lt_of_lt_of_le hBz b4.size
        have hs4 : w.heap.size + 2 ≤ w4.heap.size := Nat.le_trans hsr b4.size
        clear b4 TT OZ OO ca cb hBz hsr p0 p1 p2 p3 p4 p5
        obtain ⟨p0, p1, p2, p3, p4, p5⟩ := TT4.out.cells
        rw [HKA.out] at p1
        rw [HKB.out] at p2
        by_cases hfar : 1 < D
        · obtain ⟨r0, rfl⟩ : ∃ r0, r' = r0 + 1 := ⟨r' - 1, by omega⟩
          obtain ⟨rest, hsp, hx0, hx1, hly, hg⟩ := step_ok HLAY.out (qa := g.a) (qb := g.b) (by rw [HKA.out]; omega) (by rw [HKA.out]; omega) (by rw [HKB.out]; omega) (by rw [HKB.out]; omega) (by rw [HZA.out, HZB.out, HD.out]; exact hfar)
          have hrf := rt_far (ps := ps) (N := N) (qa := g.a) (qb := g.b) (f := r0) (z := zl) (by rw [HZA.out, HZB.out, HD.out]; exact hfar)
          rw [HZA.out, HZB.out] at hsp hx0 hx1 hly hg hrf
          rw [HD.out] at hg
          obtain ⟨x, hx⟩ : ∃ x, way1 ps N xa xb = x := ⟨_, rfl⟩
          rw [hx] at hsp hx0 hx1 hly hg hrf
          have hspn := spN_eq (ps := ps) (N := N) (a := xa) (b := xb) (by rw [HD.out]; omega)
          rw [hsp] at hspn
          simp only [List.length_cons] at hspn
          have hspb : spN ps N xa xb ≤ 5 := by have := gd_bd ps N xa xb; unfold spN; omega
          rw [hspn] at hspb
          obtain ⟨q, hq⟩ : ∃ q, rest.length + 1 + 1 = q := ⟨_, rfl⟩
          rw [hq] at hspn hspb
          have hq2 : 2 ≤ q := by omega
          have HSN := Lib.hid hspn
          have HSP := Lib.hid hsp
          have HLY := Lib.hid hly
          have HG := Lib.hid hg
          have HRF := Lib.hid hrf
          clear hspn hsp hly hg hrf hx hq
          go_wp2_with fail
          go_still_tail 11, (by kernel_rfl)
          go_wp2_with fail
          refine (i_ShortestPath N _ _ _ xa xb ps _ (HP.out.below TT4.out.2.2).drew hm).mono ?_
          rintro e w5 ⟨A5, c5, rfl, o5, b5⟩
          rw [HSN.out] at o5 ⊢
          rw [HSP.out] at o5
          have TT5 := Lib.hid (TT4.out.drew.below b5)
          have OZ5 := Lib.hid (ownsRow_below (ownsRow_drew OZ4.out) b5)
          have OO5 := Lib.hid (ownsRow_below (ownsRow_drew OO4.out) b5)
          have hs5 : w.heap.size + 2 ≤ w5.heap.size := Nat.le_trans hs4 b5.size
          have W5 := Lib.hid o5
          obtain ⟨bw, fw, hAw, hBw, cw0, cw1⟩ := way_cells o5
          subst hAw
          clear b5 o5 TT4 OZ4 OO4 ca4 cb4 hB4 hs4 p0 p1 p2 p3 p4 p5
          have hqi : 1 < q := by omega
          have hqj : 0 < q := by omega
          have hqk : (1 : Int) < (q : Int) := by omega
          have OA := Lib.hid (show (w5.alloc (.cells #[.int .i64 11, .int .i64 xa, .int .i64 x, .int .i64 0] 63)).drew.ownsRow (w.heap.size + 2) 63 4 (.slice Ao no co) no (cellsG ol) from OO5.out.alloc _)
          have WA := Lib.hid (show (w5.alloc (.cells #[.int .i64 11, .int .i64 xa, .int .i64 x, .int .i64 0] 63)).drew.ownsRow _ 3 1 (.slice (some ⟨bw, fw, none⟩) q c5) q (cellsI (xa :: x :: rest)) from W5.out.alloc _)
          have ZA := Lib.hid (show (w5.alloc (.cells #[.int .i64 11, .int .i64 xa, .int .i64 x, .int .i64 0] 63)).drew.ownsRow w.heap.size 3 1 (.slice (some ⟨bz, fz, none⟩) nz cz') nz (cellsI zl) from OZ5.out.alloc _)
          have TA := Lib.hid (show TwoBx w g N B m d (w5.alloc (.cells #[.int .i64 11, .int .i64 xa, .int .i64 x, .int .i64 0] 63)).drew from (TT5.out.below ((Below.refl _ _).alloc (Nat.le_refl _) _)).drew)
          have RA := Lib.hid (show Rd (w5.alloc (.cells #[.int .i64 11, .int .i64 xa, .int .i64 x, .int .i64 0] 63)).drew 4 (some ⟨w5.heap.size, 0, none⟩) 1 [.int .i64 11, .int .i64 xa, .int .i64 x, .int .i64 0] from Rd.lit w5 63 #[.int .i64 11, .int .i64 xa, .int .i64 x, .int .i64 0] 1 4 rfl)
          have hz4 : (Value.agg #[.int .i64 0, .int .i64 0, .int .i64 0, .int .i64 0]).cells.size = 4 := rfl
          have nn0 := World.new_ne w5 _ cw0
          have nn1 := World.new_ne w5 _ cw1
          clear OO5 W5 OZ5 TT5
          go_wp2_with fail
          go_region_held3 (fun w' => w'.cell? ⟨bw, fw, none⟩ = some (.int .i64 xa) ∧ w'.cell? ⟨bw, fw + 1, none⟩ = some (.int .i64 x))
            (first | go_keep | exact ⟨k0, k1⟩)
            (first | (refine step_app (by rfl) (.tmp 60) (.tmp 68) 24 (by rfl) Try.underlying24 infoGate hz4 (by decide) (by simp [Act.eval] <;> rfl) OA.out (by simp [Act.eval] <;> rfl) RA.out (by simp [Value.oneCell']) (by omega) (by decide) (by simp <;> omega) ?_; intro A6 c6 w6 o6 g6; have W6 := Lib.hid (WA.out.kept g6 (own_types WA.out OA.out (by decide))); have ⟨hw6, k0, k1⟩ := way_at W6.out) | fail)
          have Z6 := Lib.hid (ZA.out.kept g6 (own_types ZA.out OA.out (by decide)))
          have T6 := Lib.hid (TA.out.grown OA.out g6 (.inr (Nat.le_refl _)) (by decide) (by omega))
          have O6 := Lib.hid (show w6.ownsRow (w.heap.size + 2) 63 4 (.slice A6 (no + 1) c6) (no + 1) (cellsG (ol ++ [⟨11, xa, x, 0⟩])) from by rw [cellsG_append]; exact o6)
          clear o6 g6 OA WA ZA TA RA nn0 nn1 cw0 cw1 hBw hz4
          go_wp2_with fail
          go_still_tail 7, (by kernel_rfl)
          go_wp2_with fail
          have hprm := (isLay_len HLAY.out).2.1
          refine (i_SwapLayout _ _ _ zl xa x _ (RdI.own Z6.out).drew (by omega)).mono ?_
          rintro e w7 ⟨A7, c7, rfl, o7, b7⟩
          rw [swapN_perm hprm, HZL2.out] at o7 ⊢
          have T7 := T6.out.drew.below b7
          have O7 := ownsRow_below (ownsRow_drew O6.out) b7
          have Z7 := ownsRow_base o7 (show w.heap.size ≤ w6.drew.heap.size from T6.out.2.2.size)
          have TT7 := Lib.hid T7
          have OO7 := Lib.hid O7
          have ZZ7 := Lib.hid Z7
          clear T6 O6 Z6 W6 b7 o7 T7 O7 Z7 hprm k0 k1 hw6
          go_wp2_with fail
          go_roundg r0
          case measure => omega
          case rel =>
            refine ⟨swapL zl xa x, ol ++ [⟨11, xa, x, 0⟩], A7, c7, A6, no + 1, c6, r0, rfl, rfl, rfl, by rw [List.length_append, HOL.out]; rfl, by omega, by rw [HG.out]; omega, HLY.out, ?_, ?_, ZZ7.out, OO7.out, TT7.out⟩
            · rw [← HQ1.out, HRF.out, List.append_assoc]; rfl
            · rw [← HQ2.out, HRF.out]
        · have hnr := rt_near (ps := ps) (N := N) (qa := g.a) (qb := g.b) (f := r') (z := zl) (by rw [HZA.out, HZB.out, HD.out]; omega)
          rw [HZA.out, HZB.out] at hnr
          have HNR := Lib.hid hnr
          clear hnr
          have hz4 : (Value.agg #[.int .i64 0, .int .i64 0, .int .i64 0, .int .i64 0]).cells.size = 4 := rfl
          have hi0 : (0 : Int) ≤ (ka : Int) := by omega
          have hi1 : (0 : Int) ≤ (kb : Int) := by omega
          have hgl : w.heap.size < w4.heap.size := by omega
          have hkan : ka < nz := by omega
          have hkbn : kb < nz := by omega
          go_wp2_with fail
          go_region_held3 (fun w' => w'.cell? ⟨w.heap.size, 1, none⟩ = some (.int .i64 (ka : Int)) ∧ w'.cell? ⟨w.heap.size, 2, none⟩ = some (.int .i64 (kb : Int)) ∧ w'.cell? ⟨bz, fz + ka, none⟩ = some (.int .i64 xa) ∧ w'.cell? ⟨bz, fz + kb, none⟩ = some (.int .i64 xb))
            (first | go_keep | exact ⟨k0, k1, k2, k3⟩ | exact ⟨j0, j1, j2, j3⟩)
            (first
              | (go_at_call 125; (with_reducible refine (i_cx xa xb _).mono ?_); rintro e w5 ⟨rfl, b5⟩; have k0 := (b5.cell (p := ⟨w.heap.size, 1, none⟩) hgl).trans p1; have k1 := (b5.cell (p := ⟨w.heap.size, 2, none⟩) hgl).trans p2; have k2 := (b5.cell (p := ⟨bz, fz + ka, none⟩) hB4).trans ca4; have k3 := (b5.cell (p := ⟨bz, fz + kb, none⟩) hB4).trans cb4; have nn0 := World.new_ne w5 _ k0; have nn1 := World.new_ne w5 _ k1; have nn2 := World.new_ne w5 _ k2; have nn3 := World.new_ne w5 _ k3; have OO5 := ownsRow_below (ownsRow_drew OO4.out) b5; have OA := OO5.alloc (.cells #[.int .i64 9, .int .i64 xa, .int .i64 xb, .int .i64 0] 63); have TA := (TT4.out.drew.below b5).below ((Below.refl _ _).alloc (Nat.le_refl _) (.cells #[.int .i64 9, .int .i64 xa, .int .i64 xb, .int .i64 0] 63)); have ZA := (ownsRow_below (ownsRow_drew OZ4.out) b5).alloc (.cells #[.int .i64 9, .int .i64 xa, .int .i64 xb, .int .i64 0] 63); have hs5 : w.heap.size + 2 ≤ w5.heap.size := Nat.le_trans hs4 b5.size)
              | (refine step_app (by rfl) (.tmp 78) (.tmp 90) 24 (by rfl) Try.underlying24 infoGate hz4 (by decide) (by simp [Act.eval] <;> rfl) OA (by simp [Act.eval] <;> rfl) (Rd.lit w5 63 #[.int .i64 9, .int .i64 xa, .int .i64 xb, .int .i64 0] 1 4 rfl) (by simp [Value.oneCell']) (by omega) (by decide) (by simp <;> omega) ?_; intro A6 c6 w6 o6 g6; have Z6 := ZA.kept g6 (own_types ZA OA (by decide)); have T6 := TA.grown OA g6 (.inr (Nat.le_refl _)) (by decide) (by omega); have j0 := T6.cellA HKA.out; have j1 := T6.cellB HKB.out; have j2 := row_atz Z6 hkan HKA.out HZA.out; have j3 := row_atz Z6 hkbn HKB.out HZB.out) | fail)
          all_goals go_wp2_with fail
          all_goals go_ret2
          all_goals rw [HRT1.out, HRT2.out, ← HQ1.out, ← HQ2.out, HNR.out]
          all_goals exact retGI (by rw [List.length_append, HOL.out]; rfl) HZL2.out (by rw [cellsG_append]; exact o6) (by omega) Z6 (Nat.le_refl _) T6.2.2
    · have HAR := Lib.hid har
      have HRR := Lib.hid (routeG_one HMAY.out har)
      obtain ⟨za, hza⟩ : ∃ v, zAt zs g.a = v := ⟨_, rfl⟩
      rw [hza] at HRR
      obtain ⟨bz, fz, xa, hAz, hBz, hda, ca⟩ := (HZ.out.below T2.out.2.2).at_ (show ka < nz by omega)
      subst hAz
      obtain rfl : xa = za := by rw [← hza, zAt_nat zs HKA.out]; exact (drop_getD hda).symm
      clear hza hda
      obtain ⟨bz0, fz0, xa0, hAz0, hbw, hda0, ca0⟩ := HZ.out.at_ (show ka < nz by omega)
      injection hAz0 with hAz0
      injection hAz0 with e1 e2 _
      subst e1 e2
      rw [T2.out.2.2.cell (p := ⟨bz, fz + ka, none⟩) hbw] at ca
      rw [ca] at ca0
      injection ca0 with ca0
      injection ca0 with _ ca0
      subst ca0
      have ca0 := ca
      rw [← T2.out.2.2.cell (p := ⟨bz, fz + ka, none⟩) hbw] at ca
      clear hda0
      have hz4 : (Value.agg #[.int .i64 0, .int .i64 0, .int .i64 0, .int .i64 0]).cells.size = 4 := rfl
      have hi0 : (0 : Int) ≤ (ka : Int) := by omega
      have hgl : w.heap.size < w2.heap.size := by omega
      go_wp2_with fail
      refine (i_Arity _ _).mono ?_
      rintro e w' ⟨rfl, rfl⟩
      go_wp2_with fail
      clear har
      go_region_held3 (fun w' => w'.cell? ⟨w.heap.size, 0, none⟩ = some (.int .i64 g.k) ∧ w'.cell? ⟨w.heap.size, 1, none⟩ = some (.int .i64 (ka : Int)) ∧ w'.cell? ⟨bz, fz + ka, none⟩ = some (.int .i64 xa))
        (first | go_keep | exact ⟨k0, k1, k2⟩ | exact ⟨j0, j1, j2⟩)
        (first | (go_at_call 149; (with_reducible refine (i_one g.k xa _).mono ?_); rintro e w5 ⟨rfl, b5⟩; have k0 := (b5.cell (p := ⟨w.heap.size, 0, none⟩) hgl).trans p0; have k1 := (b5.cell (p := ⟨w.heap.size, 1, none⟩) hgl).trans p1; have k2 := (b5.cell (p := ⟨bz, fz + ka, none⟩) hBz).trans ca; have nn0 := World.new_ne w5 _ k0; have nn1 := World.new_ne w5 _ k1; have nn2 := World.new_ne w5 _ k2; have TT5 := T2.out.drew.below b5; have ZZ5 := ownsRow_below (ownsRow_drew O2.out) b5; have hs5 : w.heap.size + 2 ≤ w5.heap.size := Nat.le_trans hs2 b5.size) | fail)
      all_goals go_wp2_with fail
      all_goals go_ret2
      all_goals rw [HRR.out]
      all_goals exact retGI rfl HZL.out (World.ownsRow_lit w5 #[.int .i64 g.k, .int .i64 xa, .int .i64 0, .int .i64 0] 1 (Nat.le_refl _) (by simp [maxLen]) rfl) (by omega) (ZZ5.alloc _) (Nat.le_refl _) (TT5.2.2.alloc (by omega) _)

set_option maxRecDepth 100000 in
set_option maxHeartbeats 6400000 in
theorem s_RouteGate (g : Gt) (N : Int) (B : Option Addr) (m d : Nat) (ps : List (Int × Int)) (Z : Option Addr) (nz cz : Nat) (zs : List Int) (w : World) (hp : RdP w B m ps) (hm : m ≤ 1099511627776) (hz : RdI w Z nz zs) (hzc : nz ≤ cz) (hn : nz ≤ 1048576) :
    Calls Try.prog 108 #[.agg #[.int .i64 g.k, .int .i64 g.a, .int .i64 g.b, .int .i64 g.c], .agg #[.int .i64 N, .slice B m d], .slice Z nz cz] w (RetGI (routeG ps N zs g).1 (routeG ps N zs g).2 w) := by
  have T0 := Lib.hid (TwoBx.new w g N B m d)
  have HP := Lib.hid hp
  have HZ := Lib.hid hz
  have hzl := hz.1
  have HZL := Lib.hid hzl
  clear hp hz hzl
  have OG := Lib.hid (show ((((w.alloc (.cells #[.int .i64 g.k, .int .i64 g.a, .int .i64 g.b, .int .i64 g.c] 63)).alloc (.cells #[.int .i64 N, .slice B m d] 41)).alloc (.cells #[] 63)).alloc (.cells #[] 3)).ownsRow (w.heap.size + 2) 63 4 (.slice (some ⟨w.heap.size + 1 + 1, 0, none⟩) 0 0) 0 (cellsG []) from by have := (World.ownsRow_lit (e := 63) (size := 4) (base := w.heap.size + 2) ((w.alloc (.cells #[.int .i64 g.k, .int .i64 g.a, .int .i64 g.b, .int .i64 g.c] 63)).alloc (.cells #[.int .i64 N, .slice B m d] 41)) #[] 0 (by simp) (by simp [maxLen]) rfl).alloc (.cells #[] 3); rw [World.size_alloc, World.size_alloc] at this; exact this)
  have OL := Lib.hid (show ((((w.alloc (.cells #[.int .i64 g.k, .int .i64 g.a, .int .i64 g.b, .int .i64 g.c] 63)).alloc (.cells #[.int .i64 N, .slice B m d] 41)).alloc (.cells #[] 63)).alloc (.cells #[] 3)).ownsRow w.heap.size 3 1 (.slice (some ⟨w.heap.size + 1 + 1 + 1, 0, none⟩) 0 0) 0 [] from by have := World.ownsRow_lit (e := 3) (size := 1) (base := w.heap.size) (((w.alloc (.cells #[.int .i64 g.k, .int .i64 g.a, .int .i64 g.b, .int .i64 g.c] 63)).alloc (.cells #[.int .i64 N, .slice B m d] 41)).alloc (.cells #[] 63)) #[] 0 (by simp <;> omega) (by simp [maxLen]) rfl; simpa using this)
  have TL := Lib.hid (T0.out.below (((Below.refl _ _).alloc (Nat.le_refl _) (.cells #[] 63)).alloc (by simp) (.cells #[] 3)))
  clear T0
  go_enter Try.func108, Try.ntmps108
  go_wp2_with (at_builtin; refine wpList_app0 rfl (.tmp 12) (.tmp 13) 47 rfl Try.underlying47 infoInt1 rfl (by decide) rfl OL.out rfl (HZ.out.below TL.out.2.2).2 one_cellsI (by omega) (by decide) (by simp <;> omega) ?_; intro A1 c1 w1 o1 g1; have T1 := Lib.hid (TL.out.grown OL.out g1 (.inl (by decide)) (by decide) (Nat.le_refl _)); have ⟨p0, p1, p2, p3, p4, p5⟩ := T1.out.cells)
  have O1 := Lib.hid o1
  have OG1 := Lib.hid (OG.out.kept g1 (own_types OG.out OL.out (by decide)))
  clear OG
  have hs1 : w.heap.size + 2 ≤ w1.heap.size := by have := T1.out.2.1.lt; omega
  clear OL TL o1 g1
  refine (s_l38Right g N B m d ps Z nz cz zs _ (HP.out.below T1.out.2.2) hm (HZ.out.below T1.out.2.2) hzc (by omega)).mono ?_
  rintro e w2 ⟨rfl, b2⟩
  have T2 := Lib.hid (T1.out.below b2)
  have O2 := Lib.hid (ownsRow_below O1.out b2)
  have OG2 := Lib.hid (ownsRow_below OG1.out b2)
  have hs2 : w.heap.size + 2 ≤ w2.heap.size := by have := b2.size; omega
  clear b2 T1 O1 p0 p1 p2 p3 p4 p5 hs1 OG1
  cases hmay : mayR ps N zs g
  · have HM := Lib.hid (routeG_no hmay)
    clear hmay
    go_wp2_with fail
    go_ret2
    rw [HM.out]
    exact retGI rfl HZL.out OG2.out (by omega) O2.out (Nat.le_refl _) T2.out.2.2
  · have HMAY := Lib.hid hmay
    have hlay := (mayR_parts hmay).1
    have HLAY := Lib.hid hlay
    obtain ⟨hN, _, hN1, hN4⟩ := isLay_len hlay
    rw [HZL.out] at hN
    obtain ⟨ha0, ha1⟩ := mayR_a hmay
    obtain ⟨ka, hka⟩ : ∃ ka : Nat, g.a = ka := ⟨g.a.toNat, by omega⟩
    have HKA := Lib.hid hka
    rw [hka] at ha0 ha1
    have hka1 : (ka : Int) < (nz : Int) := by omega
    have HNN := Lib.hid hN
    clear hlay hmay hka hN
    obtain ⟨p0, p1, p2, p3, p4, p5⟩ := T2.out.cells
    rw [HKA.out] at p1
    cases har : (arity g.k == 1)
    · have HAR := Lib.hid har
      obtain ⟨hb0, hb1⟩ := mayR_b HMAY.out har
      obtain ⟨kb, hkb⟩ : ∃ kb : Nat, g.b = kb := ⟨g.b.toNat, by omega⟩
      have HKB := Lib.hid hkb
      rw [hkb] at hb0 hb1
      have hkb1 : (kb : Int) < (nz : Int) := by have := HNN.out; omega
      clear hkb
      rw [HKB.out] at p2
      have hk9 : (g.k != 9) = false := by have := basic_kind (mayR_parts HMAY.out).2.1 har; simp [this]
      clear har
      obtain ⟨R1, hR1⟩ : ∃ R, (routeG ps N zs g).1 = R := ⟨_, rfl⟩
      obtain ⟨R2, hR2⟩ : ∃ R, (routeG ps N zs g).2 = R := ⟨_, rfl⟩
      have HRT1 := Lib.hid hR1
      have HRT2 := Lib.hid hR2
      have HR1 : Hid ((rt ps N g.a g.b 3 zs).1 = R1) := Lib.hid (by rw [← hR1, routeG_two HMAY.out HAR.out])
      have HR2 : Hid ((rt ps N g.a g.b 3 zs).2 = R2) := Lib.hid (by rw [← hR2, routeG_two HMAY.out HAR.out])
      clear hR1 hR2
      go_wp2_with fail
      have OG3 := OG2
      have T3 := T2
      have O3 := O2
      clear hk9
      clear p0 p1 p2 p3 p4 p5
      go_loopg [8, 9, 10] 3 (fun r o z y wr => ∃ (zl : List Int) (ol : List Gt) (Az : Option Addr) (cz' : Nat) (Ao : Option Addr) (no co : Nat) (r' : Nat), z = .slice Az nz cz' ∧ o = .slice Ao no co ∧ r' = r ∧ ol.length = no ∧ no + r ≤ 3 ∧ gd ps N (zAt zl g.a) (zAt zl g.b) ≤ r' ∧ isLay ps N zl = true ∧ ol ++ (rt ps N g.a g.b r' zl).1 = R1 ∧ (rt ps N g.a g.b r' zl).2 = R2 ∧ wr.ownsRow w.heap.size 3 1 (.slice Az nz cz') nz (cellsI zl) ∧ wr.ownsRow (w.heap.size + 2) 63 4 (.slice Ao no co) no (cellsG ol) ∧ TwoBx w g N B m d wr)
      case atStart =>
        refine ⟨zs, [], _, _, _, 0, 0, 3, rfl, rfl, rfl, rfl, by omega, ?_, HLAY.out, HR1.out, HR2.out, O3.out, OG3.out, T3.out⟩
        have := gd_bd ps N (zAt zs g.a) (zAt zs g.b)
        omega
      case round =>
        clear T3 O3 OG3 HR1 HR2 HLAY
        obtain ⟨zl, ol, Az, cz', Ao, no, co, r', rfl, rfl, hr', hol, hno, hgd, hlay, hq1, hq2, oz, oo, tt⟩ := hrel
        subst hr'
        have HOL := Lib.hid hol
        have HLAY := Lib.hid hlay
        have HQ1 := Lib.hid hq1
        have HQ2 := Lib.hid hq2
        have OZ := Lib.hid oz
        have OO := Lib.hid oo
        have TT := Lib.hid tt
        have hsr : w.heap.size + 2 ≤ wr.heap.size := by have := tt.2.1.lt; omega
        have hzl : zl.length = nz := (RdI.own oz).1
        have HZL2 := Lib.hid hzl
        obtain ⟨za, hza⟩ : ∃ v, zAt zl g.a = v := ⟨_, rfl⟩
        obtain ⟨zb, hzb⟩ : ∃ v, zAt zl g.b = v := ⟨_, rfl⟩
        have HZA := Lib.hid hza
        have HZB := Lib.hid hzb
        obtain ⟨bz, fz, xa, hAz, hBz, hda, ca⟩ := (RdI.own oz).at_ (show ka < nz by omega)
        obtain ⟨bz', fz', xb, hAz', _, hdb, cb⟩ := (RdI.own oz).at_ (show kb < nz by omega)
        subst hAz
        injection hAz' with hAz'
        injection hAz' with e1 e2 _
        subst e1 e2
        obtain rfl : xa = za := by rw [← hza, zAt_nat zl HKA.out]; exact (drop_getD hda).symm
        obtain rfl : xb = zb := by rw [← hzb, zAt_nat zl HKB.out]; exact (drop_getD hdb).symm
        rw [hza, hzb] at hgd
        obtain ⟨D, hD⟩ : ∃ D, gd ps N xa xb = D := ⟨_, rfl⟩
        rw [hD] at hgd
        have HD := Lib.hid hD
        obtain ⟨p0, p1, p2, p3, p4, p5⟩ := tt.cells
        rw [HKA.out] at p1
        rw [HKB.out] at p2
        clear hol hlay hq1 hq2 oz oo tt hzl hza hzb hda hdb hD
        go_wp2_with fail
        go_still_tail 11, (by kernel_rfl)
        go_wp2_with fail
        refine (s_GraphDistance N _ _ _ xa xb ps _ (HP.out.below TT.out.2.2).drew hm).mono ?_
        rintro e w4 ⟨rfl, b4⟩
        rw [HD.out]
        have TT4 := Lib.hid (TT.out.drew.below b4)
        have OZ4 := Lib.hid (ownsRow_below (ownsRow_drew OZ.out) b4)
        have OO4 := Lib.hid (ownsRow_below (ownsRow_drew OO.out) b4)
        have ca4 := (b4.cell (p := ⟨bz, fz + ka, none⟩) hBz).trans ca
        have cb4 := (b4.cell (p := ⟨bz, fz + kb, none⟩) hBz).trans cb
        have hB4 : bz < w4.heap.size := Nat.lt_of_lt_of_le hBz b4.size
        have hs4 : w.heap.size + 2 ≤ w4.heap.size := Nat.le_trans hsr b4.size
        clear b4 TT OZ OO ca cb hBz hsr p0 p1 p2 p3 p4 p5
        obtain ⟨p0, p1, p2, p3, p4, p5⟩ := TT4.out.cells
        rw [HKA.out] at p1
        rw [HKB.out] at p2
        by_cases hfar : 1 < D
        · obtain ⟨r0, rfl⟩ : ∃ r0, r' = r0 + 1 := ⟨r' - 1, by omega⟩
          obtain ⟨rest, hsp, hx0, hx1, hly, hg⟩ := step_ok HLAY.out (qa := g.a) (qb := g.b) (by rw [HKA.out]; omega) (by rw [HKA.out]; omega) (by rw [HKB.out]; omega) (by rw [HKB.out]; omega) (by rw [HZA.out, HZB.out, HD.out]; exact hfar)
          have hrf := rt_far (ps := ps) (N := N) (qa := g.a) (qb := g.b) (f := r0) (z := zl) (by rw [HZA.out, HZB.out, HD.out]; exact hfar)
          rw [HZA.out, HZB.out] at hsp hx0 hx1 hly hg hrf
          rw [HD.out] at hg
          obtain ⟨x, hx⟩ : ∃ x, way1 ps N xa xb = x := ⟨_, rfl⟩
          rw [hx] at hsp hx0 hx1 hly hg hrf
          have hspn := spN_eq (ps := ps) (N := N) (a := xa) (b := xb) (by rw [HD.out]; omega)
          rw [hsp] at hspn
          simp only [List.length_cons] at hspn
          have hspb : spN ps N xa xb ≤ 5 := by have := gd_bd ps N xa xb; unfold spN; omega
          rw [hspn] at hspb
          obtain ⟨q, hq⟩ : ∃ q, rest.length + 1 + 1 = q := ⟨_, rfl⟩
          rw [hq] at hspn hspb
          have hq2 : 2 ≤ q := by omega
          have HSN := Lib.hid hspn
          have HSP := Lib.hid hsp
          have HLY := Lib.hid hly
          have HG := Lib.hid hg
          have HRF := Lib.hid hrf
          clear hspn hsp hly hg hrf hx hq
          go_wp2_with fail
          go_still_tail 11, (by kernel_rfl)
          go_wp2_with fail
          refine (s_ShortestPath N _ _ _ xa xb ps _ (HP.out.below TT4.out.2.2).drew hm).mono ?_
          rintro e w5 ⟨A5, c5, rfl, o5, b5⟩
          rw [HSN.out] at o5 ⊢
          rw [HSP.out] at o5
          have TT5 := Lib.hid (TT4.out.drew.below b5)
          have OZ5 := Lib.hid (ownsRow_below (ownsRow_drew OZ4.out) b5)
          have OO5 := Lib.hid (ownsRow_below (ownsRow_drew OO4.out) b5)
          have hs5 : w.heap.size + 2 ≤ w5.heap.size := Nat.le_trans hs4 b5.size
          have W5 := Lib.hid o5
          obtain ⟨bw, fw, hAw, hBw, cw0, cw1⟩ := way_cells o5
          subst hAw
          clear b5 o5 TT4 OZ4 OO4 ca4 cb4 hB4 hs4 p0 p1 p2 p3 p4 p5
          have hqi : 1 < q := by omega
          have hqj : 0 < q := by omega
          have hqk : (1 : Int) < (q : Int) := by omega
          have OA := Lib.hid (show (w5.alloc (.cells #[.int .i64 11, .int .i64 xa, .int .i64 x, .int .i64 0] 63)).drew.ownsRow (w.heap.size + 2) 63 4 (.slice Ao no co) no (cellsG ol) from OO5.out.alloc _)
          have WA := Lib.hid (show (w5.alloc (.cells #[.int .i64 11, .int .i64 xa, .int .i64 x, .int .i64 0] 63)).drew.ownsRow _ 3 1 (.slice (some ⟨bw, fw, none⟩) q c5) q (cellsI (xa :: x :: rest)) from W5.out.alloc _)
          have ZA := Lib.hid (show (w5.alloc (.cells #[.int .i64 11, .int .i64 xa, .int .i64 x, .int .i64 0] 63)).drew.ownsRow w.heap.size 3 1 (.slice (some ⟨bz, fz, none⟩) nz cz') nz (cellsI zl) from OZ5.out.alloc _)
          have TA := Lib.hid (show TwoBx w g N B m d (w5.alloc (.cells #[.int .i64 11, .int .i64 xa, .int .i64 x, .int .i64 0] 63)).drew from (TT5.out.below ((Below.refl _ _).alloc (Nat.le_refl _) _)).drew)
          have RA := Lib.hid (show Rd (w5.alloc (.cells #[.int .i64 11, .int .i64 xa, .int .i64 x, .int .i64 0] 63)).drew 4 (some ⟨w5.heap.size, 0, none⟩) 1 [.int .i64 11, .int .i64 xa, .int .i64 x, .int .i64 0] from Rd.lit w5 63 #[.int .i64 11, .int .i64 xa, .int .i64 x, .int .i64 0] 1 4 rfl)
          have hz4 : (Value.agg #[.int .i64 0, .int .i64 0, .int .i64 0, .int .i64 0]).cells.size = 4 := rfl
          have nn0 := World.new_ne w5 _ cw0
          have nn1 := World.new_ne w5 _ cw1
          clear OO5 W5 OZ5 TT5
          go_wp2_with fail
          go_region_held3 (fun w' => w'.cell? ⟨bw, fw, none⟩ = some (.int .i64 xa) ∧ w'.cell? ⟨bw, fw + 1, none⟩ = some (.int .i64 x))
            (first | go_keep | exact ⟨k0, k1⟩)
            (first | (refine step_app (by rfl) (.tmp 62) (.tmp 70) 24 (by rfl) Try.underlying24 infoGate hz4 (by decide) (by simp [Act.eval] <;> rfl) OA.out (by simp [Act.eval] <;> rfl) RA.out (by simp [Value.oneCell']) (by omega) (by decide) (by simp <;> omega) ?_; intro A6 c6 w6 o6 g6; have W6 := Lib.hid (WA.out.kept g6 (own_types WA.out OA.out (by decide))); have ⟨hw6, k0, k1⟩ := way_at W6.out) | fail)
          have Z6 := Lib.hid (ZA.out.kept g6 (own_types ZA.out OA.out (by decide)))
          have T6 := Lib.hid (TA.out.grown OA.out g6 (.inr (Nat.le_refl _)) (by decide) (by omega))
          have O6 := Lib.hid (show w6.ownsRow (w.heap.size + 2) 63 4 (.slice A6 (no + 1) c6) (no + 1) (cellsG (ol ++ [⟨11, xa, x, 0⟩])) from by rw [cellsG_append]; exact o6)
          clear o6 g6 OA WA ZA TA RA nn0 nn1 cw0 cw1 hBw hz4
          go_wp2_with fail
          go_still_tail 7, (by kernel_rfl)
          go_wp2_with fail
          have hprm := (isLay_len HLAY.out).2.1
          refine (s_SwapLayout _ _ _ zl xa x _ (RdI.own Z6.out).drew (ownsRow_cap Z6.out) (by omega)).mono ?_
          rintro e w7 ⟨A7, c7, rfl, o7, b7⟩
          rw [swapN_perm hprm, HZL2.out] at o7 ⊢
          have T7 := T6.out.drew.below b7
          have O7 := ownsRow_below (ownsRow_drew O6.out) b7
          have Z7 := ownsRow_base o7 (show w.heap.size ≤ w6.drew.heap.size from T6.out.2.2.size)
          have TT7 := Lib.hid T7
          have OO7 := Lib.hid O7
          have ZZ7 := Lib.hid Z7
          clear T6 O6 Z6 W6 b7 o7 T7 O7 Z7 hprm k0 k1 hw6
          go_wp2_with fail
          go_roundg r0
          case measure => omega
          case rel =>
            refine ⟨swapL zl xa x, ol ++ [⟨11, xa, x, 0⟩], A7, c7, A6, no + 1, c6, r0, rfl, rfl, rfl, by rw [List.length_append, HOL.out]; rfl, by omega, by rw [HG.out]; omega, HLY.out, ?_, ?_, ZZ7.out, OO7.out, TT7.out⟩
            · rw [← HQ1.out, HRF.out, List.append_assoc]; rfl
            · rw [← HQ2.out, HRF.out]
        · have hnr := rt_near (ps := ps) (N := N) (qa := g.a) (qb := g.b) (f := r') (z := zl) (by rw [HZA.out, HZB.out, HD.out]; omega)
          rw [HZA.out, HZB.out] at hnr
          have HNR := Lib.hid hnr
          clear hnr
          have hz4 : (Value.agg #[.int .i64 0, .int .i64 0, .int .i64 0, .int .i64 0]).cells.size = 4 := rfl
          have hi0 : (0 : Int) ≤ (ka : Int) := by omega
          have hi1 : (0 : Int) ≤ (kb : Int) := by omega
          have hgl : w.heap.size < w4.heap.size := by omega
          have hkan : ka < nz := by omega
          have hkbn : kb < nz := by omega
          go_wp2_with fail
          go_region_held3 (fun w' => w'.cell? ⟨w.heap.size, 1, none⟩ = some (.int .i64 (ka : Int)) ∧ w'.cell? ⟨w.heap.size, 2, none⟩ = some (.int .i64 (kb : Int)) ∧ w'.cell? ⟨bz, fz + ka, none⟩ = some (.int .i64 xa) ∧ w'.cell? ⟨bz, fz + kb, none⟩ = some (.int .i64 xb))
            (first | go_keep | exact ⟨k0, k1, k2, k3⟩ | exact ⟨j0, j1, j2, j3⟩)
            (first
              | (go_at_call 126; (with_reducible refine (s_cx xa xb _).mono ?_); rintro e w5 ⟨rfl, b5⟩; have k0 := (b5.cell (p := ⟨w.heap.size, 1, none⟩) hgl).trans p1; have k1 := (b5.cell (p := ⟨w.heap.size, 2, none⟩) hgl).trans p2; have k2 := (b5.cell (p := ⟨bz, fz + ka, none⟩) hB4).trans ca4; have k3 := (b5.cell (p := ⟨bz, fz + kb, none⟩) hB4).trans cb4; have nn0 := World.new_ne w5 _ k0; have nn1 := World.new_ne w5 _ k1; have nn2 := World.new_ne w5 _ k2; have nn3 := World.new_ne w5 _ k3; have OO5 := ownsRow_below (ownsRow_drew OO4.out) b5; have OA := OO5.alloc (.cells #[.int .i64 9, .int .i64 xa, .int .i64 xb, .int .i64 0] 63); have TA := (TT4.out.drew.below b5).below ((Below.refl _ _).alloc (Nat.le_refl _) (.cells #[.int .i64 9, .int .i64 xa, .int .i64 xb, .int .i64 0] 63)); have ZA := (ownsRow_below (ownsRow_drew OZ4.out) b5).alloc (.cells #[.int .i64 9, .int .i64 xa, .int .i64 xb, .int .i64 0] 63); have hs5 : w.heap.size + 2 ≤ w5.heap.size := Nat.le_trans hs4 b5.size)
              | (refine step_app (by rfl) (.tmp 80) (.tmp 92) 24 (by rfl) Try.underlying24 infoGate hz4 (by decide) (by simp [Act.eval] <;> rfl) OA (by simp [Act.eval] <;> rfl) (Rd.lit w5 63 #[.int .i64 9, .int .i64 xa, .int .i64 xb, .int .i64 0] 1 4 rfl) (by simp [Value.oneCell']) (by omega) (by decide) (by simp <;> omega) ?_; intro A6 c6 w6 o6 g6; have Z6 := ZA.kept g6 (own_types ZA OA (by decide)); have T6 := TA.grown OA g6 (.inr (Nat.le_refl _)) (by decide) (by omega); have j0 := T6.cellA HKA.out; have j1 := T6.cellB HKB.out; have j2 := row_atz Z6 hkan HKA.out HZA.out; have j3 := row_atz Z6 hkbn HKB.out HZB.out) | fail)
          all_goals go_wp2_with fail
          all_goals go_ret2
          all_goals rw [HRT1.out, HRT2.out, ← HQ1.out, ← HQ2.out, HNR.out]
          all_goals exact retGI (by rw [List.length_append, HOL.out]; rfl) HZL2.out (by rw [cellsG_append]; exact o6) (by omega) Z6 (Nat.le_refl _) T6.2.2
    · have HAR := Lib.hid har
      have HRR := Lib.hid (routeG_one HMAY.out har)
      have hk9 : (g.k != 9) = true := by have := basic_ne har; simpa using this
      clear har
      obtain ⟨za, hza⟩ : ∃ v, zAt zs g.a = v := ⟨_, rfl⟩
      rw [hza] at HRR
      obtain ⟨bz, fz, xa, hAz, hBz, hda, ca⟩ := (HZ.out.below T2.out.2.2).at_ (show ka < nz by omega)
      subst hAz
      obtain rfl : xa = za := by rw [← hza, zAt_nat zs HKA.out]; exact (drop_getD hda).symm
      clear hza hda
      obtain ⟨bz0, fz0, xa0, hAz0, hbw, hda0, ca0⟩ := HZ.out.at_ (show ka < nz by omega)
      injection hAz0 with hAz0
      injection hAz0 with e1 e2 _
      subst e1 e2
      rw [T2.out.2.2.cell (p := ⟨bz, fz + ka, none⟩) hbw] at ca
      rw [ca] at ca0
      injection ca0 with ca0
      injection ca0 with _ ca0
      subst ca0
      have ca0 := ca
      rw [← T2.out.2.2.cell (p := ⟨bz, fz + ka, none⟩) hbw] at ca
      clear hda0
      have hz4 : (Value.agg #[.int .i64 0, .int .i64 0, .int .i64 0, .int .i64 0]).cells.size = 4 := rfl
      have hi0 : (0 : Int) ≤ (ka : Int) := by omega
      have hgl : w.heap.size < w2.heap.size := by omega
      go_wp2_with fail
      go_region_held3 (fun w' => w'.cell? ⟨w.heap.size, 0, none⟩ = some (.int .i64 g.k) ∧ w'.cell? ⟨w.heap.size, 1, none⟩ = some (.int .i64 (ka : Int)) ∧ w'.cell? ⟨bz, fz + ka, none⟩ = some (.int .i64 xa))
        (first | go_keep | exact ⟨k0, k1, k2⟩ | exact ⟨j0, j1, j2⟩)
        (first
          | (go_at_call 154; (with_reducible refine (s_one g.k xa _).mono ?_); rintro e w5 ⟨rfl, b5⟩; have k0 := (b5.cell (p := ⟨w.heap.size, 0, none⟩) hgl).trans p0; have k1 := (b5.cell (p := ⟨w.heap.size, 1, none⟩) hgl).trans p1; have k2 := (b5.cell (p := ⟨bz, fz + ka, none⟩) hBz).trans ca; have nn0 := World.new_ne w5 _ k0; have nn1 := World.new_ne w5 _ k1; have nn2 := World.new_ne w5 _ k2; have TT5 := T2.out.drew.below b5; have ZZ5 := ownsRow_below (ownsRow_drew O2.out) b5; have hs5 : w.heap.size + 2 ≤ w5.heap.size := Nat.le_trans hs2 b5.size; have GA := (ownsRow_below (ownsRow_drew OG2.out) b5).alloc (.cells #[.int .i64 g.k, .int .i64 xa, .int .i64 0, .int .i64 0] 63); have ZA := ZZ5.alloc (.cells #[.int .i64 g.k, .int .i64 xa, .int .i64 0, .int .i64 0] 63); have TA := TT5.below ((Below.refl _ _).alloc (Nat.le_refl _) (.cells #[.int .i64 g.k, .int .i64 xa, .int .i64 0, .int .i64 0] 63)); have SZ := (HZ.out.below TA.2.2))
          | (refine step_app0 (by rfl) (.tmp 25) (.tmp 34) 24 (by rfl) Try.underlying24 infoGate hz4 (by decide) (by simp [Act.eval] <;> rfl) GA (by simp [Act.eval] <;> rfl) (Rd.lit w5 63 #[.int .i64 g.k, .int .i64 xa, .int .i64 0, .int .i64 0] 1 4 rfl) (by simp [Value.oneCell']) (by omega) (by decide) (by simp <;> omega) ?_; intro A6 c6 w6 o6 g6; have Z6 := ZA.kept g6 (own_types ZA GA (by decide)); have T6 := TA.grown GA g6 (.inr (Nat.le_refl _)) (by decide) (by omega); have j0 := T6.1.cell 0; have j1 := T6.cellA HKA.out; have j2 := (T6.2.2.cell (p := ⟨bz, fz + ka, none⟩) hbw).trans ca0) | fail)
      all_goals go_wp2_with fail
      all_goals go_ret2
      all_goals rw [HRR.out]
      all_goals exact retGI rfl HZL.out o6 (by omega) Z6 (Nat.le_refl _) T6.2.2
end Go.Proofs.YtgnallcfahpjmaaR
