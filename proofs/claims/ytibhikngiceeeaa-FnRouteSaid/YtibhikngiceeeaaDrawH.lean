/- Contract of the drawing of graphs: l36Right. The cursor stands; 1 to 4 places. -/
import Derived.Test.YtibhikngiceeeaaDrawC
import Derived.Test.YtibhikngiceeeaaHasEdge
import Derived.Test.YtibhikngiceeeaaDrawD
import Derived.Deep.RegionWith
import Derived.Deep.RegionLaw
import Derived.Deep.RegionHeld3
import Derived.Deep.DeepCutAuto
namespace Go.Proofs.Ytibhikngiceeeaa
open Go.RowKit
set_option linter.unusedVariables false

theorem infoEdge : (Try.prog.info? 167).map (fun i => (i.zero, i.size, i.bytes)) = some (some (.agg #[.int .i64 0, .int .i64 0]), 2, 16) := by kernel_rfl
def DrawnGr (P : Int → Prop) (B : Nat) (g : Nat) (w : World) (e : Ending) (w' : World) : Prop :=
  ∃ (N : Int) (A : Option Addr) (m c : Nat) (ps : List (Int × Int)), e = .returned (.agg #[.int .i64 N, .slice A m c]) ∧ ps.length = m ∧ m ≤ B ∧ P N ∧ w'.ownsRow w.heap.size 167 2 (.slice A m c) m (cellsP ps) ∧ Cur w' g ∧ w.grownBy w' (some g)
/-- What stands while l36Right runs: the result's box, the graph's box, its edges, the row of places, the cursor. -/
def RSt (w : World) (R E g B n : Nat) (pb cz : Nat) (zs : List Int) (A : Option Addr) (m c : Nat) (ps : List (Int × Int)) (wr : World) : Prop :=
  Bx wr R 61 #[.int .i64 0, .slice none 0 0] ∧ Bx wr E 61 #[.int .i64 n, .slice A m c] ∧ wr.ownsRow B 167 2 (.slice A m c) m (cellsP ps) ∧ wr.ownsRow w.heap.size 3 1 (.slice (some ⟨pb, 0, none⟩) n cz) n (cellsI zs) ∧ Cur wr g ∧ w.grownBy wr (some g) ∧ (ps.length = m ∧ B ≤ wr.heap.size) ∧ (g < w.heap.size ∧ w.heap.size ≤ R ∧ R < E ∧ E < B ∧ w.heap.size ≤ pb ∧ pb < B)
section
variable {w : World} {R E g B n pb cz : Nat} {zs : List Int} {A : Option Addr} {m c : Nat} {ps : List (Int × Int)} {wr w' : World}
theorem RSt.draw (h : RSt w R E g B n pb cz zs A m c ps wr) (hc : Cur w' g) (gg : wr.grownBy w' (some g)) : RSt w R E g B n pb cz zs A m c ps w' := by
  obtain ⟨h1, h2, h3, h4, h5, h6, ⟨h7, h8⟩, h9⟩ := h
  have := gg.size
  exact ⟨dr_bx gg h1 (by omega), dr_bx gg h2 (by omega), dr_own gg h5 h3 (by decide), dr_own gg h5 h4 (by decide), hc, dr_trans h6 gg, ⟨h7, by omega⟩, h9⟩
theorem RSt.below (h : RSt w R E g B n pb cz zs A m c ps wr) (hb : Below wr.heap.size wr w') : RSt w R E g B n pb cz zs A m c ps w' := by
  obtain ⟨h1, h2, h3, h4, h5, h6, ⟨h7, h8⟩, h9⟩ := h
  have := hb.size
  exact ⟨h1.below hb, h2.below hb, ownsRow_below h3 hb, ownsRow_below h4 hb, h5.below hb, dr_below h6 hb, ⟨h7, by omega⟩, h9⟩
theorem RSt.alloc (h : RSt w R E g B n pb cz zs A m c ps wr) (o : Obj) : RSt w R E g B n pb cz zs A m c ps (wr.alloc o) := h.below ((Below.refl _ _).alloc (Nat.le_refl _) _)
theorem RSt.drew (h : RSt w R E g B n pb cz zs A m c ps wr) : RSt w R E g B n pb cz zs A m c ps wr.drew := h.below ((Below.refl _ _).drew)
theorem RSt.far (h : RSt w R E g B n pb cz zs A m c ps wr) {p : Addr} (hp : B ≤ p.block) (hA : some p.block ≠ (Value.slice A m c).ownBlock) (u : Value) : RSt w R E g B n pb cz zs A m c ps (wr.setCell p u) := by
  obtain ⟨h1, h2, h3, h4, h5, h6, ⟨h7, h8⟩, h9⟩ := h
  exact ⟨h1.far (by omega) _, h2.far (by omega) _, own_set_neD h3 hA _, own_set_neD h4 (by simp [Value.ownBlock]; omega) _, h5.setCell (by omega) _, dr_set h6 (by omega) _, ⟨h7, by simpa [World.setCell] using h8⟩, h9⟩
theorem RSt.app {A' : Option Addr} {c' : Nat} {p : Int × Int} (h : RSt w R E g B n pb cz zs A m c ps wr) (o7 : w'.ownsRow B 167 2 (.slice A' (m + 1) c') (m + 1) (cellsP ps ++ [.int .i64 p.1, .int .i64 p.2])) (g7 : wr.grownBy w' (Value.slice A m c).ownBlock) : RSt w R E g B n pb cz zs A' (m + 1) c' (ps ++ [p]) (w'.setCell ⟨E, 1, none⟩ (.slice A' (m + 1) c')) := by
  obtain ⟨h1, h2, h3, h4, h5, h6, ⟨h7, h8⟩, h9⟩ := h
  have hl := fun q hq => (h3.lt q hq).1
  have e7 := kept_app h3 g7 h2 (by decide)
  have r7 := kept_app h3 g7 h1 (by decide)
  have p7 : w'.ownsRow w.heap.size 3 1 (.slice (some ⟨pb, 0, none⟩) n cz) n (cellsI zs) := h4.kept g7 (.inr fun he => by have := hl pb (by rw [← he]; rfl); omega)
  have c7 : Cur w' g := h5.row g7 (fun q hq => by have := hl q hq; omega)
  have d7 : w.grownBy w' (some g) := dr_row h6 g7 (fun q hq => by have := hl q hq; omega)
  have := g7.size
  refine ⟨r7.far (show R ≠ E by omega) _, e7.t1 _, ?_, own_set_neD p7 (own_bx_ne p7 e7 (by decide)) _, c7.setCell (by show g < E; omega) _, dr_set d7 (by show w.heap.size ≤ E; omega) _, ⟨by simp [h7], by simp [World.setCell]; omega⟩, h9⟩
  rw [cellsP_append]
  exact own_set_neD o7 (own_bx_ne o7 e7 (by decide)) _
theorem RSt.cells (h : RSt w R E g B n pb cz zs A m c ps wr) : wr.cell? ⟨E, 0, none⟩ = some (.int .i64 n) ∧ wr.cell? ⟨E, 1, none⟩ = some (.slice A m c) ∧ wr.frozen? ⟨E, 0, none⟩ = false ∧ wr.frozen? ⟨E, 1, none⟩ = false := h.2.1.two
theorem RSt.row (h : RSt w R E g B n pb cz zs A m c ps wr) (hz : zs.length = n) {k : Nat} (hk : k < n) : wr.cell? ⟨pb, k, none⟩ = some (.int .i64 (zs[k]'(by omega))) := by
  have h4 := (h.2.2.2.1.cellAt k (by omega)).trans (show (cellsI zs)[k]? = some (.int .i64 (zs[k]'(by omega))) from by simp [cellsI, hz, hk])
  exact h4
theorem RSt.perm_ne (h : RSt w R E g B n pb cz zs A m c ps wr) : some pb ≠ (Value.slice A m c).ownBlock := fun he => by
  have := (h.2.2.1.lt _ he.symm).1
  have := h.2.2.2.2.2.2.2
  omega
theorem RSt.row2 (h : RSt w R E g B n pb cz zs A m c ps wr) (hz : zs.length = n) {k : Nat} (hk : k < n) : ∃ x : Int, wr.cell? ⟨pb, k, none⟩ = some (.int .i64 x) ∧ ∀ o, (wr.alloc o).cell? ⟨pb, k, none⟩ = some (.int .i64 x) := ⟨_, h.row hz hk, fun o => (h.alloc o).row hz hk⟩
end
set_option maxRecDepth 100000 in
set_option maxHeartbeats 6400000 in
theorem s_l36Right (g n : Nat) (w : World) (h : Cur w g) (h1 : 1 ≤ n) (h4 : n ≤ 4) :
    Calls Try.prog 163 #[.pointer (some ⟨g, 0, none⟩), .int .i64 n] w (DrawnGr (fun N => N = n) 16 g w) := by
  have hg := h.lt
  have hz2 : (Value.agg #[.int .i64 0, .int .i64 0]).cells.size = 2 := rfl
  obtain ⟨W1, hW1⟩ : ∃ W1, W1 = (w.alloc (.cells #[.int .i64 0, .slice none 0 0] 61)).alloc (.cells #[.int .i64 n, .slice none 0 0] 61) := ⟨_, rfl⟩
  have C1 := Lib.hid (show Cur W1 g from hW1 ▸ cur_alloc (cur_alloc h _) _)
  have R1 := Lib.hid (show Bx W1 w.heap.size 61 #[.int .i64 0, .slice none 0 0] from hW1 ▸ (Bx.new w _ _).alloc _)
  have E1 := Lib.hid (show Bx W1 (w.heap.size + 1) 61 #[.int .i64 n, .slice none 0 0] from hW1 ▸ Bx.new' (by simp))
  have G1 := Lib.hid (show w.grownBy W1 (some g) from hW1 ▸ dr_alloc (dr_alloc (dr_refl w g) _) _)
  have hs1 : W1.heap.size = w.heap.size + 2 := by rw [hW1]; simp
  have HW := Lib.hid hW1
  clear h hW1
  go_enter Try.func163, Try.ntmps163
  go_wp2_with fail
  rw [← HW.out]
  refine (s_l8Perm g n _ C1.out h1 h4).mono ?_
  rintro e w2 ⟨A2, n2, cz, zs, rfl, hl2, ⟨hl2', hp2⟩, o2, hc, gg⟩
  obtain rfl : n2 = n := by rw [← hl2, hl2']
  obtain ⟨pb, hA2⟩ : ∃ b, A2 = some ⟨b, 0, none⟩ := by
    rcases o2.2 with ⟨_, h0⟩ | ⟨b, cap, cur, hv, _⟩
    · omega
    · injection hv with hv _ _; exact ⟨b, hv⟩
  subst hA2
  have hpb := o2.lt pb rfl
  have hgs := gg.size
  have S2 := Lib.hid (show RSt w w.heap.size (w.heap.size + 1) g w2.heap.size n2 pb cz zs none 0 0 [] w2 from
    ⟨dr_bx gg R1.out (by omega), dr_bx gg E1.out (by omega), World.ownsRow_nil _ _ _ _, ownsRow_base o2 (by omega), hc, dr_trans G1.out gg, ⟨rfl, Nat.le_refl _⟩, by omega⟩)
  have HZL := Lib.hid hl2
  obtain ⟨R, hR⟩ : ∃ R, w.heap.size = R := ⟨_, rfl⟩
  obtain ⟨B, hB⟩ : ∃ B, w2.heap.size = B := ⟨_, rfl⟩
  have hlts : g < R ∧ R + 1 < B := by omega
  have S2' := Lib.hid (show RSt w R (R + 1) g B n2 pb cz zs none 0 0 [] w2 from by rw [← hR, ← hB]; exact S2.out)
  clear S2 hl2 hl2' hp2 o2 hc gg C1 R1 E1 G1 HW hgs
  rw [hR]
  go_wp2_with fail
  go_loopg [7] (n2 - 1) (fun r i wr => ∃ (k : Nat) (A : Option Addr) (m c : Nat) (ps : List (Int × Int)), k + r = n2 ∧ 1 ≤ k ∧ i = .int .i64 k ∧ m ≤ 2 * (k - 1) ∧ RSt w R (R + 1) g B n2 pb cz zs A m c ps wr)
  case atStart => exact ⟨1, none, 0, 0, [], by omega, Nat.le_refl _, rfl, by omega, S2'.out⟩
  case round =>
    clear S2'
    obtain ⟨k, A, m, c, ps, hk, hk1, rfl, hm, hst⟩ := hrel
    have HS := Lib.hid hst
    have hsz := hst.2.2.2.2.2.2.1.2
    clear hst
    by_cases hlt : k < n2
    · have ck := HS.out.row HZL.out hlt
      obtain ⟨xk, hxk⟩ : ∃ x, zs[k]'(by have := HZL.out; omega) = x := ⟨_, rfl⟩
      rw [hxk] at ck
      clear hxk
      have hkI : (k : Int) < (n2 : Int) := by omega
      have hk0 : (0 : Int) ≤ (k : Int) := by omega
      go_upto_region 6 with fail
      go_cut [8] (fun v wx => ∃ (x y : Int) (G : Nat), v = .pointer (some ⟨G, 0, none⟩) ∧ B ≤ G ∧ Bx wx G 167 #[.int .i64 x, .int .i64 y] ∧ some G ≠ (Value.slice A m c).ownBlock ∧ RSt w R (R + 1) g B n2 pb cz zs A m c ps wx)
      case first =>
        have CD := Lib.hid (show Cur wr.drew g from HS.out.2.2.2.2.1)
        have HA := Lib.hid ((HS.out.alloc (.cells #[.int .i64 0, .int .i64 0] 167)).drew)
        have CA := Lib.hid (show Cur (wr.alloc (.cells #[.int .i64 0, .int .i64 0] 167)).drew g from HA.out.2.2.2.2.1)
        have BA := Lib.hid ((Bx.new wr 167 #[.int .i64 0, .int .i64 0]).drew)
        have ck2 := HA.out.row HZL.out hlt
        have hown := fun q hq => (HS.out.2.2.1.lt q hq)
        go_region_law (first
          | (go_simp; go_at_call 62; (with_reducible refine (s_l1Below g k _ CD.out (by omega)).mono ?_); rintro e w5 ⟨y5, rfl, ⟨hy5, _⟩, hc5, g5⟩; have ⟨hy0, hy1⟩ := hy5 (by omega); have ⟨j, hj⟩ : ∃ j : Nat, y5 = j := ⟨y5.toNat, by omega⟩; subst hj; have S5 := HS.out.draw hc5 (und_grownD g5); have ⟨xj, cj, cja⟩ := S5.row2 HZL.out (show j < n2 by omega); have cja := cja (.cells #[.int .i64 0, .int .i64 0] 167); have ck5 := S5.row HZL.out hlt; have ck6 := (S5.alloc (.cells #[.int .i64 0, .int .i64 0] 167)).row HZL.out hlt; have hjn : (j : Int) < (n2 : Int) := (by omega))
          | (go_simp; go_at_call 62; (with_reducible refine (s_l1Below g k _ CA.out (by omega)).mono ?_); rintro e w5 ⟨y5, rfl, ⟨hy5, _⟩, hc5, g5⟩; have ⟨hy0, hy1⟩ := hy5 (by omega); have ⟨j, hj⟩ : ∃ j : Nat, y5 = j := ⟨y5.toNat, by omega⟩; subst hj; have S5 := HA.out.draw hc5 g5; have B5 := dr_bx g5 BA.out (by have := HS.out.2.2.2.2.1.lt; omega); have ⟨xj, cj, cja⟩ := S5.row2 HZL.out (show j < n2 by omega); have cja := cja (.cells #[.int .i64 0, .int .i64 0] 167); have ck5 := S5.row HZL.out hlt; have hjn : (j : Int) < (n2 : Int) := (by omega); have ⟨p0, p1, p2, p3⟩ := B5.two)
          | fail)
        all_goals go_wp2_with fail
        all_goals go_meet
        all_goals first
          | exact ⟨_, _, w5.heap.size, rfl, S5.2.2.2.2.2.2.1.2, Bx.new _ _ _, (fun he => by have := (S5.2.2.1.lt _ he.symm).2; omega), S5.alloc _⟩
          | exact ⟨_, _, wr.heap.size, rfl, hsz, (B5.t0 _).t1 _, (fun he => by have := (hown _ he.symm).2; omega), (S5.far (by show B ≤ wr.heap.size; omega) (fun he => by have := (hown _ he.symm).2; simp only at this; omega) _).far (by show B ≤ wr.heap.size; omega) (fun he => by have := (hown _ he.symm).2; simp only at this; omega) _⟩
      case rest =>
        obtain ⟨x, y, G, rfl, hBG, bg, hG, hs⟩ := hcut
        have HE := Lib.hid bg
        have HC := Lib.hid hs
        have HGN := Lib.hid hG
        clear bg hs hG ck HS
        go_wp2_with fail
        refine (s_l1Once g 2 _ HC.out.2.2.2.2.1 (by omega)).mono ?_
        rintro e w7 ⟨b7, rfl, hc7, g7⟩
        have hGg : G ≠ g := by omega
        have hGE : G ≠ R + 1 := by omega
        have S7 := Lib.hid (HC.out.draw hc7 g7)
        have E7 := Lib.hid (dr_bx g7 HE.out hGg)
        have HN7 := Lib.hid (show some G ≠ (Value.slice A m c).ownBlock from HGN.out)
        have hm40 : m ≤ 40 := by omega
        clear hc7 g7 HC HE hsz
        have hs7 := S7.out.2.2.2.2.2.2.1.2
        obtain ⟨e0, e1, e2, e3⟩ := E7.out.two
        obtain ⟨q0, q1, q2, q3⟩ := S7.out.cells
        cases b7
        · have S8 := S7
          have E8 := E7
          have RL8 := Lib.hid (show Rd (w7.alloc (.cells #[.int .i64 x, .int .i64 y] 167)) 2 (some ⟨w7.heap.size, 0, none⟩) 1 [.int .i64 x, .int .i64 y] from by simpa [World.setCell] using Rd.lit w7 167 #[.int .i64 x, .int .i64 y] 1 2 rfl)
          go_wp2_with (at_builtin; refine wpList_app rfl (.tmp 38) (.tmp 40) 59 rfl Try.underlying59 infoEdge rfl (by decide) rfl (S8.out.2.2.1.alloc _) rfl RL8.out (by simp [Value.oneCell']) (by omega) (by decide) (by simp <;> omega) ?_; intro A9 c9 w9 o9 g9; have E9 := Lib.hid ((E8.out.alloc _).grown g9 HN7.out); have ⟨u0, u1, u2, u3⟩ := (kept_app (S8.out.2.2.1.alloc _) g9 (S8.out.2.1.alloc _) (by decide)).two; have S9 := Lib.hid ((S8.out.alloc _).app (p := (x, y)) o9 g9))
          have F9 := Lib.hid (E9.out.far (p := ⟨R + 1, 1, none⟩) hGE (.slice A9 (m + 1) c9))
          refine (s_l1Once g 4 _ S9.out.2.2.2.2.1 (by omega)).mono ?_
          rintro e w10 ⟨b10, rfl, hc10, g10⟩
          have S10 := Lib.hid (S9.out.draw hc10 g10)
          have E10 := Lib.hid (dr_bx g10 F9.out hGg)
          have hs10 := S10.out.2.2.2.2.2.2.1.2
          obtain ⟨v0, v1, v2, v3⟩ := E10.out.two
          obtain ⟨x0, x1, x2, x3⟩ := S10.out.cells
          cases b10
          · go_wp2_with fail
            go_roundg (gk - 1)
            case measure => omega
            case rel => exact ⟨k + 1, A9, m + 1, c9, ps ++ [(x, y)], by omega, by omega, by go_num, by omega, S10.out⟩
          · go_wp2_with (at_builtin; refine wpList_app rfl (.tmp 46) (.tmp 52) 59 rfl Try.underlying59 infoEdge rfl (by decide) rfl (S10.out.2.2.1.alloc _) rfl (Rd.lit _ 167 #[.int .i64 y, .int .i64 x] 1 2 rfl) (by simp [Value.oneCell']) (by omega) (by decide) (by simp <;> omega) ?_; intro A11 c11 w11 o11 g11; have ⟨y0, y1, y2, y3⟩ := (kept_app (S10.out.2.2.1.alloc _) g11 (S10.out.2.1.alloc _) (by decide)).two; have S11 := Lib.hid ((S10.out.alloc _).app (p := (y, x)) o11 g11))
            go_roundg (gk - 1)
            case measure => omega
            case rel => exact ⟨k + 1, A11, m + 1 + 1, c11, ps ++ [(x, y)] ++ [(y, x)], by omega, by omega, by go_num, by omega, S11.out⟩
        · have S8 := Lib.hid ((S7.out.far (p := ⟨G, 0, none⟩) hBG HN7.out (.int .i64 y)).far (p := ⟨G, 1, none⟩) hBG HN7.out (.int .i64 x))
          have E8 := Lib.hid ((E7.out.t0 (.int .i64 y)).t1 (.int .i64 x))
          have lG := E7.out.lt
          obtain ⟨e4, e5, e6, e7⟩ := E8.out.two
          obtain ⟨q4, q5, q6, q7⟩ := S8.out.cells
          have RL8 := Lib.hid (show Rd (((w7.setCell ⟨G, 0, none⟩ (.int .i64 y)).setCell ⟨G, 1, none⟩ (.int .i64 x)).alloc (.cells #[.int .i64 y, .int .i64 x] 167)) 2 (some ⟨w7.heap.size, 0, none⟩) 1 [.int .i64 y, .int .i64 x] from by simpa [World.setCell] using Rd.lit ((w7.setCell ⟨G, 0, none⟩ (.int .i64 y)).setCell ⟨G, 1, none⟩ (.int .i64 x)) 167 #[.int .i64 y, .int .i64 x] 1 2 rfl)
          go_wp2_with (at_builtin; refine wpList_app rfl (.tmp 38) (.tmp 40) 59 rfl Try.underlying59 infoEdge rfl (by decide) rfl (S8.out.2.2.1.alloc _) rfl RL8.out (by simp [Value.oneCell']) (by omega) (by decide) (by simp <;> omega) ?_; intro A9 c9 w9 o9 g9; have E9 := Lib.hid ((E8.out.alloc _).grown g9 HN7.out); have ⟨u0, u1, u2, u3⟩ := (kept_app (S8.out.2.2.1.alloc _) g9 (S8.out.2.1.alloc _) (by decide)).two; have S9 := Lib.hid ((S8.out.alloc _).app (p := (y, x)) o9 g9))
          have F9 := Lib.hid (E9.out.far (p := ⟨R + 1, 1, none⟩) hGE (.slice A9 (m + 1) c9))
          refine (s_l1Once g 4 _ S9.out.2.2.2.2.1 (by omega)).mono ?_
          rintro e w10 ⟨b10, rfl, hc10, g10⟩
          have S10 := Lib.hid (S9.out.draw hc10 g10)
          have E10 := Lib.hid (dr_bx g10 F9.out hGg)
          have hs10 := S10.out.2.2.2.2.2.2.1.2
          obtain ⟨v0, v1, v2, v3⟩ := E10.out.two
          obtain ⟨x0, x1, x2, x3⟩ := S10.out.cells
          cases b10
          · go_wp2_with fail
            go_roundg (gk - 1)
            case measure => omega
            case rel => exact ⟨k + 1, A9, m + 1, c9, ps ++ [(y, x)], by omega, by omega, by go_num, by omega, S10.out⟩
          · go_wp2_with (at_builtin; refine wpList_app rfl (.tmp 46) (.tmp 52) 59 rfl Try.underlying59 infoEdge rfl (by decide) rfl (S10.out.2.2.1.alloc _) rfl (Rd.lit _ 167 #[.int .i64 x, .int .i64 y] 1 2 rfl) (by simp [Value.oneCell']) (by omega) (by decide) (by simp <;> omega) ?_; intro A11 c11 w11 o11 g11; have ⟨y0, y1, y2, y3⟩ := (kept_app (S10.out.2.2.1.alloc _) g11 (S10.out.2.1.alloc _) (by decide)).two; have S11 := Lib.hid ((S10.out.alloc _).app (p := (x, y)) o11 g11))
            go_roundg (gk - 1)
            case measure => omega
            case rel => exact ⟨k + 1, A11, m + 1 + 1, c11, ps ++ [(y, x)] ++ [(x, y)], by omega, by omega, by go_num, by omega, S11.out⟩
    · obtain rfl : k = n2 := by omega
      obtain ⟨q0, q1, q2, q3⟩ := HS.out.cells
      have CN := Lib.hid (show Cur wr.drew g from HS.out.2.2.2.2.1)
      by_cases hn2 : 2 < k
      · obtain ⟨b0, hb0⟩ := s_l1OnceD g 3 wr.drew CN.out (by omega) (by omega)
        have HB0 := Lib.hid hb0
        clear hb0
        obtain rfl | rfl : k = 3 ∨ k = 4 := by omega
        · obtain ⟨z0, c0, d0⟩ := HS.out.row2 HZL.out (show 0 < 3 by omega)
          obtain ⟨z1, c1, d1⟩ := HS.out.row2 HZL.out (show 2 < 3 by omega)
          have HZ01 := Lib.hid (show ∀ wx : World, RSt w R (R + 1) g B 3 pb cz zs A m c ps wx → wx.cell? ⟨pb, 0, none⟩ = some (.int .i64 z0) ∧ wx.cell? ⟨pb, 2, none⟩ = some (.int .i64 z1) from fun wx h => ⟨(h.row HZL.out (show 0 < 3 by omega)).trans ((HS.out.row HZL.out (show 0 < 3 by omega)).symm.trans c0), (h.row HZL.out (show 2 < 3 by omega)).trans ((HS.out.row HZL.out (show 2 < 3 by omega)).symm.trans c1)⟩)
          have hwr : IntKind.i64.wrap ((3 : Int) - 1) = 2 := by decide
          have hwr2 : IntKind.i64.wrap 2 = 2 := by decide
          have hwr3 : IntKind.i64.wrap 3 = 3 := by decide
          have hwrc : IntKind.i64.wrap (((3 : Nat) : Int) - 1) = 2 := by decide
          have hwrc4 : IntKind.i64.wrap (((4 : Nat) : Int) - 1) = 3 := by decide
          have hwr4 : IntKind.i64.wrap ((4 : Int) - 1) = 3 := by decide
          go_upto_region 12 with fail
          go_cut [73] (fun v wx => ∃ b : Bool, v = .bool b ∧ RSt w R (R + 1) g B 3 pb cz zs A m c ps wx)
          case first =>
            cases b0
            · refine wp_region_any (by kernel_rfl) ?_
              change wpAny _ _ _ _ _ _ _ (World.drew _)
              refine wpAny_take (i := 0) (v := ?_) rfl (by kernel_rfl) (by kernel_rfl) (by kernel_rfl) (fun _ _ _ h => h) (Or.inl ⟨by rfl, ?_⟩) ?_
              rotate_left
              · intro w; go_simp; try with_reducible rfl
              change wpAny _ _ _ _ _ _ (Act.put _ (some 55) _) _
              refine wpAny_take (i := 1) (v := ?_) rfl (by kernel_rfl) (by kernel_rfl) (by kernel_rfl) (fun _ _ _ h => h) (Or.inl ⟨by rfl, ?_⟩) ?_
              rotate_left
              · intro w; go_simp; try with_reducible rfl
              change wpAny _ _ _ _ _ _ (Act.put _ (some 56) _) _
              refine wpAny_take (i := 2) (v := ?_) rfl (by kernel_rfl) (by kernel_rfl) (by kernel_rfl) (fun _ _ _ h => h) (Or.inl ⟨by rfl, ?_⟩) ?_
              rotate_left
              · intro w; go_simp; try with_reducible rfl
              change wpAny _ _ _ _ _ _ (Act.put _ (some 57) _) _
              refine wpAny_take (i := 3) (v := ?_) rfl (by kernel_rfl) (by kernel_rfl) (by kernel_rfl) (fun _ _ _ h => h) (Or.inl ⟨by rfl, ?_⟩) ?_
              rotate_left
              · intro w; go_simp; try with_reducible rfl
              change wpAny _ _ _ _ _ _ (Act.put _ (some 58) _) _
              refine wpAny_ready (rs := [4]) (by kernel_rfl) (by simp) ?_
              refine AllReady.cons rfl (fun K hK => ?_) AllReady.nil
              go_simp
              go_wp2_with (go_at_call 64; (with_reducible refine HB0.out.mono ?_); rintro e w5 ⟨rfl, hc5, g5⟩; have S5 := HS.out.draw hc5 (und_grownD g5))
              first | (refine hK _ _ ?_; clear hK K) | skip
              refine wpAny_take (i := 5) (v := ?_) rfl (by kernel_rfl) (by kernel_rfl) (by kernel_rfl) (fun _ _ _ h => h) (Or.inl ⟨by rfl, ?_⟩) ?_
              rotate_left
              · intro w; go_simp; try with_reducible rfl
              change wpAny _ _ _ _ _ _ (Act.put _ (some 60) _) _
              refine wpAny_take (i := 6) (v := ?_) rfl (by kernel_rfl) (by kernel_rfl) (by kernel_rfl) (fun _ _ _ h => h) (Or.inl ⟨by rfl, ?_⟩) ?_
              rotate_left
              · intro w; go_simp; try with_reducible rfl
              change wpAny _ _ _ _ _ _ (Act.put _ (some 61) _) _
              refine wpAny_take (i := 7) (v := undef) rfl (by kernel_rfl) (by kernel_rfl) (by kernel_rfl) (fun _ _ _ h => h) (Or.inr ⟨by kernel_rfl, rfl⟩) ?_
              change wpAny _ _ _ _ _ _ (Act.put _ (some 62) _) _
              refine wpAny_take (i := 8) (v := undef) rfl (by kernel_rfl) (by kernel_rfl) (by kernel_rfl) (fun _ _ _ h => h) (Or.inr ⟨by kernel_rfl, rfl⟩) ?_
              change wpAny _ _ _ _ _ _ (Act.put _ (some 63) _) _
              refine wpAny_take (i := 9) (v := undef) rfl (by kernel_rfl) (by kernel_rfl) (by kernel_rfl) (fun _ _ _ h => h) (Or.inr ⟨by kernel_rfl, rfl⟩) ?_
              change wpAny _ _ _ _ _ _ (Act.put _ (some 64) _) _
              refine wpAny_take (i := 10) (v := undef) rfl (by kernel_rfl) (by kernel_rfl) (by kernel_rfl) (fun _ _ _ h => h) (Or.inr ⟨by kernel_rfl, rfl⟩) ?_
              change wpAny _ _ _ _ _ _ (Act.put _ (some 65) _) _
              refine wpAny_take (i := 11) (v := undef) rfl (by kernel_rfl) (by kernel_rfl) (by kernel_rfl) (fun _ _ _ h => h) (Or.inr ⟨by kernel_rfl, rfl⟩) ?_
              change wpAny _ _ _ _ _ _ (Act.put _ (some 66) _) _
              refine wpAny_take (i := 12) (v := undef) rfl (by kernel_rfl) (by kernel_rfl) (by kernel_rfl) (fun _ _ _ h => h) (Or.inr ⟨by kernel_rfl, rfl⟩) ?_
              change wpAny _ _ _ _ _ _ (Act.put _ (some 67) _) _
              refine wpAny_take (i := 13) (v := undef) rfl (by kernel_rfl) (by kernel_rfl) (by kernel_rfl) (fun _ _ _ h => h) (Or.inr ⟨by kernel_rfl, rfl⟩) ?_
              change wpAny _ _ _ _ _ _ (Act.put _ (some 68) _) _
              refine wpAny_take (i := 14) (v := undef) rfl (by kernel_rfl) (by kernel_rfl) (by kernel_rfl) (fun _ _ _ h => h) (Or.inr ⟨by kernel_rfl, rfl⟩) ?_
              change wpAny _ _ _ _ _ _ (Act.put _ (some 69) _) _
              refine wpAny_take (i := 15) (v := undef) rfl (by kernel_rfl) (by kernel_rfl) (by kernel_rfl) (fun _ _ _ h => h) (Or.inr ⟨by kernel_rfl, rfl⟩) ?_
              change wpAny _ _ _ _ _ _ (Act.put _ (some 70) _) _
              refine wpAny_take (i := 16) (v := undef) rfl (by kernel_rfl) (by kernel_rfl) (by kernel_rfl) (fun _ _ _ h => h) (Or.inr ⟨by kernel_rfl, rfl⟩) ?_
              change wpAny _ _ _ _ _ _ (Act.put _ (some 71) _) _
              refine wpAny_take (i := 17) (v := undef) rfl (by kernel_rfl) (by kernel_rfl) (by kernel_rfl) (fun _ _ _ h => h) (Or.inr ⟨by kernel_rfl, rfl⟩) ?_
              change wpAny _ _ _ _ _ _ (Act.put _ (some 72) _) _
              refine wpAny_take (i := 18) (v := ?_) rfl (by kernel_rfl) (by kernel_rfl) (by kernel_rfl) (fun _ _ _ h => h) (Or.inl ⟨by rfl, ?_⟩) ?_
              rotate_left
              · intro w; go_simp; try with_reducible rfl
              change wpAny _ _ _ _ _ _ (Act.put _ (some 73) _) _
              refine wpAny_done (by kernel_rfl) ?_ _
              go_wp2_with fail
              go_simp
              go_meet
              all_goals exact ⟨_, rfl, S5⟩
            · go_region_held3 (fun w' => w'.cell? ⟨R + 1, 0, none⟩ = some (.int .i64 ((3 : Nat) : Int)) ∧ w'.cell? ⟨R + 1, 1, none⟩ = some (.slice A m c) ∧ w'.cell? ⟨pb, 0, none⟩ = some (.int .i64 z0) ∧ w'.cell? ⟨pb, 2, none⟩ = some (.int .i64 z1))
                (first
                  | exact ⟨S6.cells.1, S6.cells.2.1, K6.1, K6.2⟩
                  | exact ⟨S5.cells.1, S5.cells.2.1, K5.1, K5.2⟩
                  | exact ⟨q0, q1, c0, c1⟩
                  | go_keep)
                (first
                | (go_at_call 64; (with_reducible refine HB0.out.mono ?_); rintro e w5 ⟨rfl, hc5, g5⟩; have S5 := HS.out.draw hc5 (und_grownD g5); have K5 := HZ01.out _ S5)
                | (go_at_call 168; refine (s_AreCoupled _ _ _ _ _ _ ps _ (RdP.own S5.2.2.1) (by omega)).mono ?_; rintro e w6 ⟨rfl, b6⟩; have S6 := S5.below b6; have K6 := HZ01.out _ S6))
              all_goals go_wp2_with fail
              all_goals go_meet
              all_goals exact ⟨_, rfl, S6⟩
          case rest =>
            obtain ⟨bb, rfl, hs⟩ := hcut
            have HT := Lib.hid hs
            have lit1 := Lib.hid hs.2.2.2.2.2.2.1
            clear hs
            obtain ⟨t0, t1, t2, t3⟩ := HT.out.cells
            obtain ⟨r0, r1, r2, r3⟩ := HT.out.1.two
            cases bb
            · go_wp2_with fail
              exact bodyPost_ret (v := .agg #[.int .i64 (3), .slice A m c]) (by simp [results, Try.results163, go_sem, r0, r1]) rfl ⟨_, A, _, _, ps, rfl, lit1.out.1, by omega, rfl, own_set2 (ownsRow_base HT.out.2.2.1 (by omega)) (own_bx_ne HT.out.2.2.1 HT.out.1 (by decide)), cur2 HT.out.2.2.2.2.1 (by omega), dr2 HT.out.2.2.2.2.2.1 (by omega)⟩
            · have K0 := (HZ01.out _ HT.out).1
              have K1 := (HZ01.out _ HT.out).2
              have HA := Lib.hid (HT.out.alloc (.cells #[.int .i64 z0, .int .i64 z1] 167))
              have KA0 := (HZ01.out _ HA.out).1
              have KA1 := (HZ01.out _ HA.out).2
              have ⟨a0, a1, a2, a3⟩ := HA.out.cells
              have hwB := lit1.out.2
              have HA2 := Lib.hid HA.out.drew
              have OA1 := Lib.hid HA.out.2.2.1
              have OA2 := Lib.hid HA.out.drew.2.2.1
              have RL1 := Lib.hid (Rd.lit wc 167 #[.int .i64 z0, .int .i64 z1] 1 2 rfl)
              have RL2 := Lib.hid (show Rd (wc.alloc (.cells #[.int .i64 z0, .int .i64 z1] 167)).drew 2 (some ⟨wc.heap.size, 0, none⟩) 1 [.int .i64 z0, .int .i64 z1] from Rd.lit wc 167 #[.int .i64 z0, .int .i64 z1] 1 2 rfl)
              go_wp2_with fail
              go_region_law (first
                  | (refine step_app (by rfl) (.tmp 75) (.tmp 85) 59 (by rfl) Try.underlying59 infoEdge hz2 (by decide) (by simp [Act.eval] <;> rfl) OA1.out (by simp [Act.eval] <;> rfl) RL1.out (by simp [Value.oneCell']) (by omega) (by decide) (by simp <;> omega) ?_; intro A7 c7 w7 o7 g7; have S7 := HA.out.app (p := (z0, z1)) o7 g7; have ⟨e0, e1, e2, e3⟩ := (kept_app HA.out.2.2.1 g7 HA.out.2.1 (by decide)).two; have m0 := g7.cell KA0 HA.out.perm_ne; have m1 := g7.cell KA1 HA.out.perm_ne)
                  | (refine step_app (by rfl) (.tmp 75) (.tmp 85) 59 (by rfl) Try.underlying59 infoEdge hz2 (by decide) (by simp [Act.eval] <;> rfl) OA2.out (by simp [Act.eval] <;> rfl) RL2.out (by simp [Value.oneCell']) (by omega) (by decide) (by simp <;> omega) ?_; intro A7 c7 w7 o7 g7; have S7 := HA2.out.app (p := (z0, z1)) o7 g7; have ⟨e0, e1, e2, e3⟩ := (kept_app HA2.out.2.2.1 g7 HA2.out.2.1 (by decide)).two; have m0 := g7.cell (HZ01.out _ HA2.out).1 HA2.out.perm_ne; have m1 := g7.cell (HZ01.out _ HA2.out).2 HA2.out.perm_ne))
              all_goals have ⟨t0, t1, t2, t3⟩ := S7.cells
              all_goals have ⟨r0, r1, r2, r3⟩ := S7.1.two
              all_goals go_wp2_with fail
              all_goals exact bodyPost_ret (v := .agg #[.int .i64 (3), .slice A7 (m + 1) c7]) (by simp [results, Try.results163, go_sem, r0, r1]) rfl ⟨_, A7, _, _, ps ++ [(z0, z1)], rfl, S7.2.2.2.2.2.2.1.1, by omega, rfl, own_set2 (ownsRow_base S7.2.2.1 (by omega)) (own_bx_ne S7.2.2.1 S7.1 (by decide)), cur2 S7.2.2.2.2.1 (by omega), dr2 S7.2.2.2.2.2.1 (by omega)⟩
        · obtain ⟨z0, c0, d0⟩ := HS.out.row2 HZL.out (show 0 < 4 by omega)
          obtain ⟨z1, c1, d1⟩ := HS.out.row2 HZL.out (show 3 < 4 by omega)
          have HZ01 := Lib.hid (show ∀ wx : World, RSt w R (R + 1) g B 4 pb cz zs A m c ps wx → wx.cell? ⟨pb, 0, none⟩ = some (.int .i64 z0) ∧ wx.cell? ⟨pb, 3, none⟩ = some (.int .i64 z1) from fun wx h => ⟨(h.row HZL.out (show 0 < 4 by omega)).trans ((HS.out.row HZL.out (show 0 < 4 by omega)).symm.trans c0), (h.row HZL.out (show 3 < 4 by omega)).trans ((HS.out.row HZL.out (show 3 < 4 by omega)).symm.trans c1)⟩)
          have hwr : IntKind.i64.wrap ((3 : Int) - 1) = 2 := by decide
          have hwr2 : IntKind.i64.wrap 2 = 2 := by decide
          have hwr3 : IntKind.i64.wrap 3 = 3 := by decide
          have hwrc : IntKind.i64.wrap (((3 : Nat) : Int) - 1) = 2 := by decide
          have hwrc4 : IntKind.i64.wrap (((4 : Nat) : Int) - 1) = 3 := by decide
          have hwr4 : IntKind.i64.wrap ((4 : Int) - 1) = 3 := by decide
          go_upto_region 12 with fail
          go_cut [73] (fun v wx => ∃ b : Bool, v = .bool b ∧ RSt w R (R + 1) g B 4 pb cz zs A m c ps wx)
          case first =>
            cases b0
            · refine wp_region_any (by kernel_rfl) ?_
              change wpAny _ _ _ _ _ _ _ (World.drew _)
              refine wpAny_take (i := 0) (v := ?_) rfl (by kernel_rfl) (by kernel_rfl) (by kernel_rfl) (fun _ _ _ h => h) (Or.inl ⟨by rfl, ?_⟩) ?_
              rotate_left
              · intro w; go_simp; try with_reducible rfl
              change wpAny _ _ _ _ _ _ (Act.put _ (some 55) _) _
              refine wpAny_take (i := 1) (v := ?_) rfl (by kernel_rfl) (by kernel_rfl) (by kernel_rfl) (fun _ _ _ h => h) (Or.inl ⟨by rfl, ?_⟩) ?_
              rotate_left
              · intro w; go_simp; try with_reducible rfl
              change wpAny _ _ _ _ _ _ (Act.put _ (some 56) _) _
              refine wpAny_take (i := 2) (v := ?_) rfl (by kernel_rfl) (by kernel_rfl) (by kernel_rfl) (fun _ _ _ h => h) (Or.inl ⟨by rfl, ?_⟩) ?_
              rotate_left
              · intro w; go_simp; try with_reducible rfl
              change wpAny _ _ _ _ _ _ (Act.put _ (some 57) _) _
              refine wpAny_take (i := 3) (v := ?_) rfl (by kernel_rfl) (by kernel_rfl) (by kernel_rfl) (fun _ _ _ h => h) (Or.inl ⟨by rfl, ?_⟩) ?_
              rotate_left
              · intro w; go_simp; try with_reducible rfl
              change wpAny _ _ _ _ _ _ (Act.put _ (some 58) _) _
              refine wpAny_ready (rs := [4]) (by kernel_rfl) (by simp) ?_
              refine AllReady.cons rfl (fun K hK => ?_) AllReady.nil
              go_simp
              go_wp2_with (go_at_call 64; (with_reducible refine HB0.out.mono ?_); rintro e w5 ⟨rfl, hc5, g5⟩; have S5 := HS.out.draw hc5 (und_grownD g5))
              first | (refine hK _ _ ?_; clear hK K) | skip
              refine wpAny_take (i := 5) (v := ?_) rfl (by kernel_rfl) (by kernel_rfl) (by kernel_rfl) (fun _ _ _ h => h) (Or.inl ⟨by rfl, ?_⟩) ?_
              rotate_left
              · intro w; go_simp; try with_reducible rfl
              change wpAny _ _ _ _ _ _ (Act.put _ (some 60) _) _
              refine wpAny_take (i := 6) (v := ?_) rfl (by kernel_rfl) (by kernel_rfl) (by kernel_rfl) (fun _ _ _ h => h) (Or.inl ⟨by rfl, ?_⟩) ?_
              rotate_left
              · intro w; go_simp; try with_reducible rfl
              change wpAny _ _ _ _ _ _ (Act.put _ (some 61) _) _
              refine wpAny_take (i := 7) (v := undef) rfl (by kernel_rfl) (by kernel_rfl) (by kernel_rfl) (fun _ _ _ h => h) (Or.inr ⟨by kernel_rfl, rfl⟩) ?_
              change wpAny _ _ _ _ _ _ (Act.put _ (some 62) _) _
              refine wpAny_take (i := 8) (v := undef) rfl (by kernel_rfl) (by kernel_rfl) (by kernel_rfl) (fun _ _ _ h => h) (Or.inr ⟨by kernel_rfl, rfl⟩) ?_
              change wpAny _ _ _ _ _ _ (Act.put _ (some 63) _) _
              refine wpAny_take (i := 9) (v := undef) rfl (by kernel_rfl) (by kernel_rfl) (by kernel_rfl) (fun _ _ _ h => h) (Or.inr ⟨by kernel_rfl, rfl⟩) ?_
              change wpAny _ _ _ _ _ _ (Act.put _ (some 64) _) _
              refine wpAny_take (i := 10) (v := undef) rfl (by kernel_rfl) (by kernel_rfl) (by kernel_rfl) (fun _ _ _ h => h) (Or.inr ⟨by kernel_rfl, rfl⟩) ?_
              change wpAny _ _ _ _ _ _ (Act.put _ (some 65) _) _
              refine wpAny_take (i := 11) (v := undef) rfl (by kernel_rfl) (by kernel_rfl) (by kernel_rfl) (fun _ _ _ h => h) (Or.inr ⟨by kernel_rfl, rfl⟩) ?_
              change wpAny _ _ _ _ _ _ (Act.put _ (some 66) _) _
              refine wpAny_take (i := 12) (v := undef) rfl (by kernel_rfl) (by kernel_rfl) (by kernel_rfl) (fun _ _ _ h => h) (Or.inr ⟨by kernel_rfl, rfl⟩) ?_
              change wpAny _ _ _ _ _ _ (Act.put _ (some 67) _) _
              refine wpAny_take (i := 13) (v := undef) rfl (by kernel_rfl) (by kernel_rfl) (by kernel_rfl) (fun _ _ _ h => h) (Or.inr ⟨by kernel_rfl, rfl⟩) ?_
              change wpAny _ _ _ _ _ _ (Act.put _ (some 68) _) _
              refine wpAny_take (i := 14) (v := undef) rfl (by kernel_rfl) (by kernel_rfl) (by kernel_rfl) (fun _ _ _ h => h) (Or.inr ⟨by kernel_rfl, rfl⟩) ?_
              change wpAny _ _ _ _ _ _ (Act.put _ (some 69) _) _
              refine wpAny_take (i := 15) (v := undef) rfl (by kernel_rfl) (by kernel_rfl) (by kernel_rfl) (fun _ _ _ h => h) (Or.inr ⟨by kernel_rfl, rfl⟩) ?_
              change wpAny _ _ _ _ _ _ (Act.put _ (some 70) _) _
              refine wpAny_take (i := 16) (v := undef) rfl (by kernel_rfl) (by kernel_rfl) (by kernel_rfl) (fun _ _ _ h => h) (Or.inr ⟨by kernel_rfl, rfl⟩) ?_
              change wpAny _ _ _ _ _ _ (Act.put _ (some 71) _) _
              refine wpAny_take (i := 17) (v := undef) rfl (by kernel_rfl) (by kernel_rfl) (by kernel_rfl) (fun _ _ _ h => h) (Or.inr ⟨by kernel_rfl, rfl⟩) ?_
              change wpAny _ _ _ _ _ _ (Act.put _ (some 72) _) _
              refine wpAny_take (i := 18) (v := ?_) rfl (by kernel_rfl) (by kernel_rfl) (by kernel_rfl) (fun _ _ _ h => h) (Or.inl ⟨by rfl, ?_⟩) ?_
              rotate_left
              · intro w; go_simp; try with_reducible rfl
              change wpAny _ _ _ _ _ _ (Act.put _ (some 73) _) _
              refine wpAny_done (by kernel_rfl) ?_ _
              go_wp2_with fail
              go_simp
              go_meet
              all_goals exact ⟨_, rfl, S5⟩
            · go_region_held3 (fun w' => w'.cell? ⟨R + 1, 0, none⟩ = some (.int .i64 ((4 : Nat) : Int)) ∧ w'.cell? ⟨R + 1, 1, none⟩ = some (.slice A m c) ∧ w'.cell? ⟨pb, 0, none⟩ = some (.int .i64 z0) ∧ w'.cell? ⟨pb, 3, none⟩ = some (.int .i64 z1))
                (first
                  | exact ⟨S6.cells.1, S6.cells.2.1, K6.1, K6.2⟩
                  | exact ⟨S5.cells.1, S5.cells.2.1, K5.1, K5.2⟩
                  | exact ⟨q0, q1, c0, c1⟩
                  | go_keep)
                (first
                | (go_at_call 64; (with_reducible refine HB0.out.mono ?_); rintro e w5 ⟨rfl, hc5, g5⟩; have S5 := HS.out.draw hc5 (und_grownD g5); have K5 := HZ01.out _ S5)
                | (go_at_call 168; refine (s_AreCoupled _ _ _ _ _ _ ps _ (RdP.own S5.2.2.1) (by omega)).mono ?_; rintro e w6 ⟨rfl, b6⟩; have S6 := S5.below b6; have K6 := HZ01.out _ S6))
              all_goals go_wp2_with fail
              all_goals go_meet
              all_goals exact ⟨_, rfl, S6⟩
          case rest =>
            obtain ⟨bb, rfl, hs⟩ := hcut
            have HT := Lib.hid hs
            have lit1 := Lib.hid hs.2.2.2.2.2.2.1
            clear hs
            obtain ⟨t0, t1, t2, t3⟩ := HT.out.cells
            obtain ⟨r0, r1, r2, r3⟩ := HT.out.1.two
            cases bb
            · go_wp2_with fail
              exact bodyPost_ret (v := .agg #[.int .i64 (4), .slice A m c]) (by simp [results, Try.results163, go_sem, r0, r1]) rfl ⟨_, A, _, _, ps, rfl, lit1.out.1, by omega, rfl, own_set2 (ownsRow_base HT.out.2.2.1 (by omega)) (own_bx_ne HT.out.2.2.1 HT.out.1 (by decide)), cur2 HT.out.2.2.2.2.1 (by omega), dr2 HT.out.2.2.2.2.2.1 (by omega)⟩
            · have K0 := (HZ01.out _ HT.out).1
              have K1 := (HZ01.out _ HT.out).2
              have HA := Lib.hid (HT.out.alloc (.cells #[.int .i64 z0, .int .i64 z1] 167))
              have KA0 := (HZ01.out _ HA.out).1
              have KA1 := (HZ01.out _ HA.out).2
              have ⟨a0, a1, a2, a3⟩ := HA.out.cells
              have hwB := lit1.out.2
              have HA2 := Lib.hid HA.out.drew
              have OA1 := Lib.hid HA.out.2.2.1
              have OA2 := Lib.hid HA.out.drew.2.2.1
              have RL1 := Lib.hid (Rd.lit wc 167 #[.int .i64 z0, .int .i64 z1] 1 2 rfl)
              have RL2 := Lib.hid (show Rd (wc.alloc (.cells #[.int .i64 z0, .int .i64 z1] 167)).drew 2 (some ⟨wc.heap.size, 0, none⟩) 1 [.int .i64 z0, .int .i64 z1] from Rd.lit wc 167 #[.int .i64 z0, .int .i64 z1] 1 2 rfl)
              go_wp2_with fail
              go_region_law (first
                  | (refine step_app (by rfl) (.tmp 75) (.tmp 85) 59 (by rfl) Try.underlying59 infoEdge hz2 (by decide) (by simp [Act.eval] <;> rfl) OA1.out (by simp [Act.eval] <;> rfl) RL1.out (by simp [Value.oneCell']) (by omega) (by decide) (by simp <;> omega) ?_; intro A7 c7 w7 o7 g7; have S7 := HA.out.app (p := (z0, z1)) o7 g7; have ⟨e0, e1, e2, e3⟩ := (kept_app HA.out.2.2.1 g7 HA.out.2.1 (by decide)).two; have m0 := g7.cell KA0 HA.out.perm_ne; have m1 := g7.cell KA1 HA.out.perm_ne)
                  | (refine step_app (by rfl) (.tmp 75) (.tmp 85) 59 (by rfl) Try.underlying59 infoEdge hz2 (by decide) (by simp [Act.eval] <;> rfl) OA2.out (by simp [Act.eval] <;> rfl) RL2.out (by simp [Value.oneCell']) (by omega) (by decide) (by simp <;> omega) ?_; intro A7 c7 w7 o7 g7; have S7 := HA2.out.app (p := (z0, z1)) o7 g7; have ⟨e0, e1, e2, e3⟩ := (kept_app HA2.out.2.2.1 g7 HA2.out.2.1 (by decide)).two; have m0 := g7.cell (HZ01.out _ HA2.out).1 HA2.out.perm_ne; have m1 := g7.cell (HZ01.out _ HA2.out).2 HA2.out.perm_ne))
              all_goals have ⟨t0, t1, t2, t3⟩ := S7.cells
              all_goals have ⟨r0, r1, r2, r3⟩ := S7.1.two
              all_goals go_wp2_with fail
              all_goals exact bodyPost_ret (v := .agg #[.int .i64 (4), .slice A7 (m + 1) c7]) (by simp [results, Try.results163, go_sem, r0, r1]) rfl ⟨_, A7, _, _, ps ++ [(z0, z1)], rfl, S7.2.2.2.2.2.2.1.1, by omega, rfl, own_set2 (ownsRow_base S7.2.2.1 (by omega)) (own_bx_ne S7.2.2.1 S7.1 (by decide)), cur2 S7.2.2.2.2.1 (by omega), dr2 S7.2.2.2.2.2.1 (by omega)⟩
      · have lit1 := Lib.hid HS.out.2.2.2.2.2.2.1
        obtain ⟨r0, r1, r2, r3⟩ := HS.out.1.two
        have HD := Lib.hid HS.out.drew
        obtain rfl | rfl : k = 1 ∨ k = 2 := by omega
        · go_upto_region 12 with fail
          go_cut [73] (fun v wx => v = .bool false ∧ RSt w R (R + 1) g B 1 pb cz zs A m c ps wx)
          case first =>
            refine wp_region_any (by kernel_rfl) ?_
            change wpAny _ _ _ _ _ _ _ (World.drew _)
            refine wpAny_take (i := 0) (v := ?_) rfl (by kernel_rfl) (by kernel_rfl) (by kernel_rfl) (fun _ _ _ h => h) (Or.inl ⟨by rfl, ?_⟩) ?_
            rotate_left
            · intro w; go_simp; try with_reducible rfl
            change wpAny _ _ _ _ _ _ (Act.put _ (some 55) _) _
            refine wpAny_take (i := 1) (v := ?_) rfl (by kernel_rfl) (by kernel_rfl) (by kernel_rfl) (fun _ _ _ h => h) (Or.inl ⟨by rfl, ?_⟩) ?_
            rotate_left
            · intro w; go_simp; try with_reducible rfl
            change wpAny _ _ _ _ _ _ (Act.put _ (some 56) _) _
            refine wpAny_take (i := 2) (v := ?_) rfl (by kernel_rfl) (by kernel_rfl) (by kernel_rfl) (fun _ _ _ h => h) (Or.inl ⟨by rfl, ?_⟩) ?_
            rotate_left
            · intro w; go_simp; try with_reducible rfl
            change wpAny _ _ _ _ _ _ (Act.put _ (some 57) _) _
            refine wpAny_take (i := 3) (v := undef) rfl (by kernel_rfl) (by kernel_rfl) (by kernel_rfl) (fun _ _ _ h => h) (Or.inr ⟨by kernel_rfl, rfl⟩) ?_
            change wpAny _ _ _ _ _ _ (Act.put _ (some 58) _) _
            refine wpAny_take (i := 4) (v := undef) rfl (by kernel_rfl) (by kernel_rfl) (by kernel_rfl) (fun _ _ _ h => h) (Or.inr ⟨by kernel_rfl, rfl⟩) ?_
            change wpAny _ _ _ _ _ _ (Act.put _ (some 59) _) _
            refine wpAny_take (i := 5) (v := ?_) rfl (by kernel_rfl) (by kernel_rfl) (by kernel_rfl) (fun _ _ _ h => h) (Or.inl ⟨by rfl, ?_⟩) ?_
            rotate_left
            · intro w; go_simp; try with_reducible rfl
            change wpAny _ _ _ _ _ _ (Act.put _ (some 60) _) _
            refine wpAny_take (i := 6) (v := ?_) rfl (by kernel_rfl) (by kernel_rfl) (by kernel_rfl) (fun _ _ _ h => h) (Or.inl ⟨by rfl, ?_⟩) ?_
            rotate_left
            · intro w; go_simp; try with_reducible rfl
            change wpAny _ _ _ _ _ _ (Act.put _ (some 61) _) _
            refine wpAny_take (i := 7) (v := undef) rfl (by kernel_rfl) (by kernel_rfl) (by kernel_rfl) (fun _ _ _ h => h) (Or.inr ⟨by kernel_rfl, rfl⟩) ?_
            change wpAny _ _ _ _ _ _ (Act.put _ (some 62) _) _
            refine wpAny_take (i := 8) (v := undef) rfl (by kernel_rfl) (by kernel_rfl) (by kernel_rfl) (fun _ _ _ h => h) (Or.inr ⟨by kernel_rfl, rfl⟩) ?_
            change wpAny _ _ _ _ _ _ (Act.put _ (some 63) _) _
            refine wpAny_take (i := 9) (v := undef) rfl (by kernel_rfl) (by kernel_rfl) (by kernel_rfl) (fun _ _ _ h => h) (Or.inr ⟨by kernel_rfl, rfl⟩) ?_
            change wpAny _ _ _ _ _ _ (Act.put _ (some 64) _) _
            refine wpAny_take (i := 10) (v := undef) rfl (by kernel_rfl) (by kernel_rfl) (by kernel_rfl) (fun _ _ _ h => h) (Or.inr ⟨by kernel_rfl, rfl⟩) ?_
            change wpAny _ _ _ _ _ _ (Act.put _ (some 65) _) _
            refine wpAny_take (i := 11) (v := undef) rfl (by kernel_rfl) (by kernel_rfl) (by kernel_rfl) (fun _ _ _ h => h) (Or.inr ⟨by kernel_rfl, rfl⟩) ?_
            change wpAny _ _ _ _ _ _ (Act.put _ (some 66) _) _
            refine wpAny_take (i := 12) (v := undef) rfl (by kernel_rfl) (by kernel_rfl) (by kernel_rfl) (fun _ _ _ h => h) (Or.inr ⟨by kernel_rfl, rfl⟩) ?_
            change wpAny _ _ _ _ _ _ (Act.put _ (some 67) _) _
            refine wpAny_take (i := 13) (v := undef) rfl (by kernel_rfl) (by kernel_rfl) (by kernel_rfl) (fun _ _ _ h => h) (Or.inr ⟨by kernel_rfl, rfl⟩) ?_
            change wpAny _ _ _ _ _ _ (Act.put _ (some 68) _) _
            refine wpAny_take (i := 14) (v := undef) rfl (by kernel_rfl) (by kernel_rfl) (by kernel_rfl) (fun _ _ _ h => h) (Or.inr ⟨by kernel_rfl, rfl⟩) ?_
            change wpAny _ _ _ _ _ _ (Act.put _ (some 69) _) _
            refine wpAny_take (i := 15) (v := undef) rfl (by kernel_rfl) (by kernel_rfl) (by kernel_rfl) (fun _ _ _ h => h) (Or.inr ⟨by kernel_rfl, rfl⟩) ?_
            change wpAny _ _ _ _ _ _ (Act.put _ (some 70) _) _
            refine wpAny_take (i := 16) (v := undef) rfl (by kernel_rfl) (by kernel_rfl) (by kernel_rfl) (fun _ _ _ h => h) (Or.inr ⟨by kernel_rfl, rfl⟩) ?_
            change wpAny _ _ _ _ _ _ (Act.put _ (some 71) _) _
            refine wpAny_take (i := 17) (v := undef) rfl (by kernel_rfl) (by kernel_rfl) (by kernel_rfl) (fun _ _ _ h => h) (Or.inr ⟨by kernel_rfl, rfl⟩) ?_
            change wpAny _ _ _ _ _ _ (Act.put _ (some 72) _) _
            refine wpAny_take (i := 18) (v := ?_) rfl (by kernel_rfl) (by kernel_rfl) (by kernel_rfl) (fun _ _ _ h => h) (Or.inl ⟨by rfl, ?_⟩) ?_
            rotate_left
            · intro w; go_simp; try with_reducible rfl
            change wpAny _ _ _ _ _ _ (Act.put _ (some 73) _) _
            refine wpAny_done (by kernel_rfl) ?_ _
            go_wp2_with fail
            go_simp
            go_meet
            exact ⟨rfl, HD.out⟩
          case rest =>
            obtain ⟨rfl, hs⟩ := hcut
            have HT := Lib.hid hs
            have lit1 := Lib.hid hs.2.2.2.2.2.2.1
            clear hs
            obtain ⟨t0, t1, t2, t3⟩ := HT.out.cells
            obtain ⟨r0, r1, r2, r3⟩ := HT.out.1.two
            go_wp2_with fail
            exact bodyPost_ret (v := .agg #[.int .i64 (1), .slice A m c]) (by simp [results, Try.results163, go_sem, r0, r1]) rfl ⟨_, A, _, _, ps, rfl, lit1.out.1, by omega, rfl, own_set2 (ownsRow_base HT.out.2.2.1 (by omega)) (own_bx_ne HT.out.2.2.1 HT.out.1 (by decide)), cur2 HT.out.2.2.2.2.1 (by omega), dr2 HT.out.2.2.2.2.2.1 (by omega)⟩
        · go_upto_region 12 with fail
          go_cut [73] (fun v wx => v = .bool false ∧ RSt w R (R + 1) g B 2 pb cz zs A m c ps wx)
          case first =>
            refine wp_region_any (by kernel_rfl) ?_
            change wpAny _ _ _ _ _ _ _ (World.drew _)
            refine wpAny_take (i := 0) (v := ?_) rfl (by kernel_rfl) (by kernel_rfl) (by kernel_rfl) (fun _ _ _ h => h) (Or.inl ⟨by rfl, ?_⟩) ?_
            rotate_left
            · intro w; go_simp; try with_reducible rfl
            change wpAny _ _ _ _ _ _ (Act.put _ (some 55) _) _
            refine wpAny_take (i := 1) (v := ?_) rfl (by kernel_rfl) (by kernel_rfl) (by kernel_rfl) (fun _ _ _ h => h) (Or.inl ⟨by rfl, ?_⟩) ?_
            rotate_left
            · intro w; go_simp; try with_reducible rfl
            change wpAny _ _ _ _ _ _ (Act.put _ (some 56) _) _
            refine wpAny_take (i := 2) (v := ?_) rfl (by kernel_rfl) (by kernel_rfl) (by kernel_rfl) (fun _ _ _ h => h) (Or.inl ⟨by rfl, ?_⟩) ?_
            rotate_left
            · intro w; go_simp; try with_reducible rfl
            change wpAny _ _ _ _ _ _ (Act.put _ (some 57) _) _
            refine wpAny_take (i := 3) (v := undef) rfl (by kernel_rfl) (by kernel_rfl) (by kernel_rfl) (fun _ _ _ h => h) (Or.inr ⟨by kernel_rfl, rfl⟩) ?_
            change wpAny _ _ _ _ _ _ (Act.put _ (some 58) _) _
            refine wpAny_take (i := 4) (v := undef) rfl (by kernel_rfl) (by kernel_rfl) (by kernel_rfl) (fun _ _ _ h => h) (Or.inr ⟨by kernel_rfl, rfl⟩) ?_
            change wpAny _ _ _ _ _ _ (Act.put _ (some 59) _) _
            refine wpAny_take (i := 5) (v := ?_) rfl (by kernel_rfl) (by kernel_rfl) (by kernel_rfl) (fun _ _ _ h => h) (Or.inl ⟨by rfl, ?_⟩) ?_
            rotate_left
            · intro w; go_simp; try with_reducible rfl
            change wpAny _ _ _ _ _ _ (Act.put _ (some 60) _) _
            refine wpAny_take (i := 6) (v := ?_) rfl (by kernel_rfl) (by kernel_rfl) (by kernel_rfl) (fun _ _ _ h => h) (Or.inl ⟨by rfl, ?_⟩) ?_
            rotate_left
            · intro w; go_simp; try with_reducible rfl
            change wpAny _ _ _ _ _ _ (Act.put _ (some 61) _) _
            refine wpAny_take (i := 7) (v := undef) rfl (by kernel_rfl) (by kernel_rfl) (by kernel_rfl) (fun _ _ _ h => h) (Or.inr ⟨by kernel_rfl, rfl⟩) ?_
            change wpAny _ _ _ _ _ _ (Act.put _ (some 62) _) _
            refine wpAny_take (i := 8) (v := undef) rfl (by kernel_rfl) (by kernel_rfl) (by kernel_rfl) (fun _ _ _ h => h) (Or.inr ⟨by kernel_rfl, rfl⟩) ?_
            change wpAny _ _ _ _ _ _ (Act.put _ (some 63) _) _
            refine wpAny_take (i := 9) (v := undef) rfl (by kernel_rfl) (by kernel_rfl) (by kernel_rfl) (fun _ _ _ h => h) (Or.inr ⟨by kernel_rfl, rfl⟩) ?_
            change wpAny _ _ _ _ _ _ (Act.put _ (some 64) _) _
            refine wpAny_take (i := 10) (v := undef) rfl (by kernel_rfl) (by kernel_rfl) (by kernel_rfl) (fun _ _ _ h => h) (Or.inr ⟨by kernel_rfl, rfl⟩) ?_
            change wpAny _ _ _ _ _ _ (Act.put _ (some 65) _) _
            refine wpAny_take (i := 11) (v := undef) rfl (by kernel_rfl) (by kernel_rfl) (by kernel_rfl) (fun _ _ _ h => h) (Or.inr ⟨by kernel_rfl, rfl⟩) ?_
            change wpAny _ _ _ _ _ _ (Act.put _ (some 66) _) _
            refine wpAny_take (i := 12) (v := undef) rfl (by kernel_rfl) (by kernel_rfl) (by kernel_rfl) (fun _ _ _ h => h) (Or.inr ⟨by kernel_rfl, rfl⟩) ?_
            change wpAny _ _ _ _ _ _ (Act.put _ (some 67) _) _
            refine wpAny_take (i := 13) (v := undef) rfl (by kernel_rfl) (by kernel_rfl) (by kernel_rfl) (fun _ _ _ h => h) (Or.inr ⟨by kernel_rfl, rfl⟩) ?_
            change wpAny _ _ _ _ _ _ (Act.put _ (some 68) _) _
            refine wpAny_take (i := 14) (v := undef) rfl (by kernel_rfl) (by kernel_rfl) (by kernel_rfl) (fun _ _ _ h => h) (Or.inr ⟨by kernel_rfl, rfl⟩) ?_
            change wpAny _ _ _ _ _ _ (Act.put _ (some 69) _) _
            refine wpAny_take (i := 15) (v := undef) rfl (by kernel_rfl) (by kernel_rfl) (by kernel_rfl) (fun _ _ _ h => h) (Or.inr ⟨by kernel_rfl, rfl⟩) ?_
            change wpAny _ _ _ _ _ _ (Act.put _ (some 70) _) _
            refine wpAny_take (i := 16) (v := undef) rfl (by kernel_rfl) (by kernel_rfl) (by kernel_rfl) (fun _ _ _ h => h) (Or.inr ⟨by kernel_rfl, rfl⟩) ?_
            change wpAny _ _ _ _ _ _ (Act.put _ (some 71) _) _
            refine wpAny_take (i := 17) (v := undef) rfl (by kernel_rfl) (by kernel_rfl) (by kernel_rfl) (fun _ _ _ h => h) (Or.inr ⟨by kernel_rfl, rfl⟩) ?_
            change wpAny _ _ _ _ _ _ (Act.put _ (some 72) _) _
            refine wpAny_take (i := 18) (v := ?_) rfl (by kernel_rfl) (by kernel_rfl) (by kernel_rfl) (fun _ _ _ h => h) (Or.inl ⟨by rfl, ?_⟩) ?_
            rotate_left
            · intro w; go_simp; try with_reducible rfl
            change wpAny _ _ _ _ _ _ (Act.put _ (some 73) _) _
            refine wpAny_done (by kernel_rfl) ?_ _
            go_wp2_with fail
            go_simp
            go_meet
            exact ⟨rfl, HD.out⟩
          case rest =>
            obtain ⟨rfl, hs⟩ := hcut
            have HT := Lib.hid hs
            have lit1 := Lib.hid hs.2.2.2.2.2.2.1
            clear hs
            obtain ⟨t0, t1, t2, t3⟩ := HT.out.cells
            obtain ⟨r0, r1, r2, r3⟩ := HT.out.1.two
            go_wp2_with fail
            exact bodyPost_ret (v := .agg #[.int .i64 (2), .slice A m c]) (by simp [results, Try.results163, go_sem, r0, r1]) rfl ⟨_, A, _, _, ps, rfl, lit1.out.1, by omega, rfl, own_set2 (ownsRow_base HT.out.2.2.1 (by omega)) (own_bx_ne HT.out.2.2.1 HT.out.1 (by decide)), cur2 HT.out.2.2.2.2.1 (by omega), dr2 HT.out.2.2.2.2.2.1 (by omega)⟩
end Go.Proofs.Ytibhikngiceeeaa
