/- Contracts of the drawing of graphs: l36Bent, l36Args. The cursor stands; the code has at most 2^20 bytes. -/
import Derived.Test.YtgnallcfahpjmaaRDrawH
import Derived.Test.YtgnallcfahpjmaaRDrawQ
namespace Go.Proofs.YtgnallcfahpjmaaR
open Go.RowKit
set_option linter.unusedVariables false

/-- What stands while l36Bent runs: the result's box, the graph's box, its edges, the cursor. -/
def QSt (w : World) (R E g : Nat) (N : Int) (A : Option Addr) (m c : Nat) (ps : List (Int × Int)) (wr : World) : Prop :=
  Bx wr R 41 #[.int .i64 0, .slice none 0 0] ∧ Bx wr E 41 #[.int .i64 N, .slice A m c] ∧ wr.ownsRow w.heap.size 103 2 (.slice A m c) m (cellsP ps) ∧ Cur wr g ∧ w.grownBy wr (some g) ∧ ps.length = m ∧ (g < w.heap.size ∧ w.heap.size ≤ R ∧ R < E)
section
variable {w : World} {R E g : Nat} {N : Int} {A : Option Addr} {m c : Nat} {ps : List (Int × Int)} {wr w' : World}
theorem QSt.draw (h : QSt w R E g N A m c ps wr) (hc : Cur w' g) (gg : wr.grownBy w' (some g)) : QSt w R E g N A m c ps w' := by
  obtain ⟨h1, h2, h3, h5, h6, h7, h9⟩ := h
  exact ⟨dr_bx gg h1 (by omega), dr_bx gg h2 (by omega), dr_own gg h5 h3 (by decide), hc, dr_trans h6 gg, h7, h9⟩
theorem QSt.below (h : QSt w R E g N A m c ps wr) (hb : Below wr.heap.size wr w') : QSt w R E g N A m c ps w' := by
  obtain ⟨h1, h2, h3, h5, h6, h7, h9⟩ := h
  exact ⟨h1.below hb, h2.below hb, ownsRow_below h3 hb, h5.below hb, dr_below h6 hb, h7, h9⟩
theorem QSt.alloc (h : QSt w R E g N A m c ps wr) (o : Obj) : QSt w R E g N A m c ps (wr.alloc o) := h.below ((Below.refl _ _).alloc (Nat.le_refl _) _)
theorem QSt.drew (h : QSt w R E g N A m c ps wr) : QSt w R E g N A m c ps wr.drew := h.below ((Below.refl _ _).drew)
theorem QSt.app {A' : Option Addr} {c' : Nat} {p : Int × Int} (h : QSt w R E g N A m c ps wr) (o7 : w'.ownsRow w.heap.size 103 2 (.slice A' (m + 1) c') (m + 1) (cellsP ps ++ [.int .i64 p.1, .int .i64 p.2])) (g7 : wr.grownBy w' (Value.slice A m c).ownBlock) : QSt w R E g N A' (m + 1) c' (ps ++ [p]) (w'.setCell ⟨E, 1, none⟩ (.slice A' (m + 1) c')) := by
  obtain ⟨h1, h2, h3, h5, h6, h7, h9⟩ := h
  have hl := fun q hq => (h3.lt q hq).1
  have e7 := kept_app h3 g7 h2 (by decide)
  have r7 := kept_app h3 g7 h1 (by decide)
  have c7 : Cur w' g := h5.row g7 (fun q hq => by have := hl q hq; omega)
  have d7 : w.grownBy w' (some g) := dr_row h6 g7 (fun q hq => by have := hl q hq; omega)
  refine ⟨r7.far (show R ≠ E by omega) _, e7.t1 _, ?_, c7.setCell (by show g < E; omega) _, dr_set d7 (by show w.heap.size ≤ E; omega) _, by simp [h7], h9⟩
  rw [cellsP_append]
  exact own_set_neD o7 (own_bx_ne o7 e7 (by decide)) _
theorem QSt.num (h : QSt w R E g N A m c ps wr) (x : Int) : QSt w R E g x A m c ps (wr.setCell ⟨E, 0, none⟩ (.int .i64 x)) := by
  obtain ⟨h1, h2, h3, h5, h6, h7, h9⟩ := h
  exact ⟨h1.far (show R ≠ E by omega) _, h2.t0 _, own_set_neD h3 (own_bx_ne h3 h2 (by decide)) _, h5.setCell (by show g < E; omega) _, dr_set h6 (by show w.heap.size ≤ E; omega) _, h7, h9⟩
theorem QSt.cut (h : QSt w R E g N A m c ps wr) {k : Nat} (hk : k ≤ m) : QSt w R E g N A k c (ps.take k) (wr.setCell ⟨E, 1, none⟩ (.slice A k c)) := by
  obtain ⟨h1, h2, h3, h5, h6, h7, h9⟩ := h
  have o := ownsRow_pre h3 hk
  rw [← cellsP_take] at o
  exact ⟨h1.far (show R ≠ E by omega) _, h2.t1 _, own_set_neD o (own_bx_ne o h2 (by decide)) _, h5.setCell (by show g < E; omega) _, dr_set h6 (by show w.heap.size ≤ E; omega) _, by simp [h7]; omega, h9⟩
theorem QSt.cells (h : QSt w R E g N A m c ps wr) : wr.cell? ⟨E, 0, none⟩ = some (.int .i64 N) ∧ wr.cell? ⟨E, 1, none⟩ = some (.slice A m c) ∧ wr.frozen? ⟨E, 0, none⟩ = false ∧ wr.frozen? ⟨E, 1, none⟩ = false := h.2.1.two
end
theorem wrapk_small {x : Int} (h : -9223372036854775808 ≤ x) (h2 : x ≤ 9223372036854775807) : IntKind.i64.wrap x = x := by
  rw [IntKind.wrap_i64]
  omega
theorem sl_hP (A : Option Addr) (n c hi : Nat) (h2 : hi ≤ c) (w : World) :
    (Instr.slice 39 (.slice A n c) none (some (.int .i64 (hi : Int))) none).run Try.prog w = .ok (.slice A hi c) w := by
  have hz : (sizeOf (Try.prog.elem 39)).run Try.prog w = .ok 2 w := by kernel_rfl
  rw [run_slice_h w 39 A n c (by kernel_rfl) .i64 hi (by omega) (by omega), hz]
  simp only [Result.andThen, sliced, Int.toNat_natCast]
  cases A <;> simp [Addr.add]

set_option maxRecDepth 100000 in
set_option maxHeartbeats 6400000 in
theorem s_l36Bent (g : Nat) (w : World) (h : Cur w g) : Calls Try.prog 155 #[.pointer (some ⟨g, 0, none⟩)] w (DrawnGr (fun _ => True) 17 g w) := by
  have hg := h.lt
  have hz2 : (Value.agg #[.int .i64 0, .int .i64 0]).cells.size = 2 := rfl
  have C1 := Lib.hid (cur_alloc h (.cells #[.int .i64 0, .slice none 0 0] 41))
  have R1 := Lib.hid (Bx.new w 41 #[.int .i64 0, .slice none 0 0])
  have G1 := Lib.hid (dr_alloc (dr_refl w g) (.cells #[.int .i64 0, .slice none 0 0] 41))
  clear h
  go_enter Try.func155, Try.ntmps155
  go_wp2_with fail
  refine (s_l1Below g 4 _ C1.out (by omega)).mono ?_
  rintro e w2 ⟨y, rfl, ⟨hy, _⟩, hc, gg⟩
  obtain ⟨hy0, hy1⟩ := hy (by omega)
  obtain ⟨q, hq⟩ : ∃ q : Nat, 1 + y = q := ⟨(1 + y).toNat, by omega⟩
  have hq1 : 1 ≤ q := by omega
  have hq4 : q ≤ 4 := by omega
  have C2 := Lib.hid hc
  have R2 := Lib.hid (dr_bx gg R1.out (show w.heap.size ≠ g by omega))
  have G2 := Lib.hid (dr_trans G1.out gg)
  have hs2 := (dr_un gg).size
  clear hy hc gg C1 R1 G1
  go_wp2_with fail
  clear hq hy0 hy1
  refine (s_l36Right g q _ C2.out hq1 hq4).mono ?_
  rintro e w3 ⟨N, A, m, c, ps, rfl, hl, hm, hNq, o3, hc, gg⟩
  clear hNq
  have hR3 := (dr_bx gg R2.out (show w.heap.size ≠ g by omega)).lt
  have SB := Lib.hid (show QSt w w.heap.size w3.heap.size g N A m c ps (w3.alloc (.cells #[.int .i64 N, .slice A m c] 41)) from
    ⟨(dr_bx gg R2.out (show w.heap.size ≠ g by omega)).alloc _, Bx.new w3 _ _, (ownsRow_base o3 (by omega)).alloc _, cur_alloc hc _, dr_alloc (dr_trans G2.out gg) _, hl, hg, Nat.le_refl _, hR3⟩)
  clear hl o3 hc gg C2 R2 G2
  go_wp2_with fail
  refine (s_l1Below g 8 _ SB.out.2.2.2.1 (by omega)).mono ?_
  rintro e w4 ⟨z, rfl, _, hc, gg⟩
  have HS := Lib.hid (SB.out.draw hc gg)
  have hgs : g + 1 ≤ w4.heap.size := hc.lt
  clear hc gg SB
  generalize hgE : w3.heap.size = E at HS hR3 ⊢
  clear hgE
  by_cases z0 : z = 0
  · subst z0
    have OL := Lib.hid (show (w4.alloc (.cells #[.int .i64 0, .int .i64 1, .int .i64 4, .int .i64 5, .int .i64 (-1)] 3)).ownsRow (g + 1) 3 1 (.slice (some ⟨w4.heap.size, 0, none⟩) 5 5) 5 (cellsI [0, 1, 4, 5, -1]) from World.ownsRow_lit w4 #[.int .i64 0, .int .i64 1, .int .i64 4, .int .i64 5, .int .i64 (-1)] 5 hgs (by simp [maxLen]) rfl)
    have SA := Lib.hid (HS.out.alloc (.cells #[.int .i64 0, .int .i64 1, .int .i64 4, .int .i64 5, .int .i64 (-1)] 3))
    go_wp2_with fail
    refine (s_l1PickInt g _ 5 5 [0, 1, 4, 5, -1] _ SA.out.2.2.2.1 OL.out (by omega) (by omega)).mono ?_
    rintro e w5 ⟨x, rfl, _, hc, gg⟩
    have S5 := Lib.hid (SA.out.draw hc gg)
    have S6 := Lib.hid (S5.out.num x)
    clear hc gg OL SA
    obtain ⟨u0, u1, v0, v1⟩ := S5.out.cells
    obtain ⟨e0, e1, f0, f1⟩ := S6.out.cells
    obtain ⟨r0, r1, _, _⟩ := S6.out.1.two
    go_wp2_with fail
    exact bodyPost_ret (v := .agg #[.int .i64 x, .slice A m c]) (by simp [results, Try.results155, go_sem, r0, r1]) rfl ⟨x, A, m, c, ps, rfl, S6.out.2.2.2.2.2.1, by omega, trivial, own_set2 S6.out.2.2.1 (own_bx_ne S6.out.2.2.1 S6.out.1 (by decide)), cur2 S6.out.2.2.2.1 hg, dr2 S6.out.2.2.2.2.1 (Nat.le_refl _)⟩
  · by_cases z1 : z = 1
    · subst z1
      obtain ⟨u0, u1, v0, v1⟩ := HS.out.cells
      have CD := Lib.hid (show Cur w4.drew g from HS.out.2.2.2.1)
      go_wp2_with fail
      go_region_law (first
        | (go_simp; go_at_call 124; (with_reducible refine (s_l1Below g 6 _ CD.out (by omega)).mono ?_); rintro e w5 ⟨y5, rfl, _, hc5, g5⟩; have S5 := HS.out.draw hc5 (und_grownD g5); have ⟨p0, p1, p2, p3⟩ := S5.cells)
        | (go_simp; go_at_call 124; (with_reducible refine (s_l1Below g 5 _ hc5 (by omega)).mono ?_); rintro e w6 ⟨y6, rfl, _, hc6, g6⟩; have S6 := S5.draw hc6 g6; have ⟨k0, k1, k2, k3⟩ := S6.cells; have SA := S6.alloc (.cells #[.int .i64 (IntKind.i64.wrap (y5 - 1)), .int .i64 y6] 103); have ⟨j0, j1, j2, j3⟩ := SA.cells; have hs6 := dr_trans HS.out.2.2.2.2.1 (dr_trans (und_grownD g5) g6); have hs6 := hs6.size)
        | (refine step_app (by rfl) (.tmp 20) (.tmp 27) 39 (by rfl) Try.underlying39 infoEdge hz2 (by decide) (by simp [Act.eval] <;> rfl) SA.2.2.1 (by simp [Act.eval] <;> rfl) (Rd.lit w6 103 #[.int .i64 (IntKind.i64.wrap (y5 - 1)), .int .i64 y6] 1 2 rfl) (by simp [Value.oneCell']) (by omega) (by decide) (by simp <;> omega) ?_; intro A7 c7 w7 o7 g7; have S7 := SA.app (p := (IntKind.i64.wrap (y5 - 1), y6)) o7 g7; have ⟨e0, e1, e2, e3⟩ := (kept_app SA.2.2.1 g7 SA.2.1 (by decide)).two)
        | fail)
      all_goals have ⟨t0, t1, t2, t3⟩ := S7.cells
      all_goals have ⟨r0, r1, r2, r3⟩ := S7.1.two
      all_goals go_wp2_with fail
      all_goals exact bodyPost_ret (v := .agg #[.int .i64 N, .slice A7 (m + 1) c7]) (by simp [results, Try.results155, go_sem, r0, r1]) rfl ⟨N, A7, m + 1, c7, _, rfl, S7.2.2.2.2.2.1, by omega, trivial, own_set2 S7.2.2.1 (own_bx_ne S7.2.2.1 S7.1 (by decide)), cur2 S7.2.2.2.1 hg, dr2 S7.2.2.2.2.1 (Nat.le_refl _)⟩
    · by_cases z2 : z = 2
      · subst z2
        obtain ⟨u0, u1, v0, v1⟩ := HS.out.cells
        have CD := Lib.hid (show Cur w4.drew g from HS.out.2.2.2.1)
        have hcap := ownsRow_cap HS.out.2.2.1
        have hwr : IntKind.i64.wrap ((m : Int) + 1) = (m : Int) + 1 := wrapk_small (by omega) (by omega)
        go_wp2_with fail
        go_region_law (first
          | (go_simp; go_at_call 124; (with_reducible refine (s_l1Below g _ _ CD.out (by omega)).mono ?_); rintro e w5 ⟨y5, rfl, ⟨hy5, _⟩, hc5, g5⟩; have ⟨hy0, hy1⟩ := hy5 (by omega); have ⟨j, hj⟩ : ∃ j : Nat, y5 = j := ⟨y5.toNat, by omega⟩; subst hj; have S5 := HS.out.draw hc5 (und_grownD g5); have ⟨p0, p1, p2, p3⟩ := S5.cells; have hjm : j ≤ m := (by omega); have hsl := sl_hP A m c j (by omega))
          | fail)
        all_goals have S7 := S5.cut hjm
        all_goals have ⟨t0, t1, t2, t3⟩ := S7.cells
        all_goals have ⟨r0, r1, r2, r3⟩ := S7.1.two
        all_goals go_wp2_with fail
        all_goals exact bodyPost_ret (v := .agg #[.int .i64 N, .slice A j c]) (by simp [results, Try.results155, go_sem, r0, r1]) rfl ⟨N, A, j, c, _, rfl, S7.2.2.2.2.2.1, by omega, trivial, own_set2 S7.2.2.1 (own_bx_ne S7.2.2.1 S7.1 (by decide)), cur2 S7.2.2.2.1 hg, dr2 S7.2.2.2.2.1 (Nat.le_refl _)⟩
      · have e0 : (z == 0) = false := by simpa using z0
        have e1 : (z == 1) = false := by simpa using z1
        have e2 : (z == 2) = false := by simpa using z2
        clear z0 z1 z2
        obtain ⟨u0, u1, v0, v1⟩ := HS.out.cells
        obtain ⟨r0, r1, r2, r3⟩ := HS.out.1.two
        go_wp2_with fail
        exact bodyPost_ret (v := .agg #[.int .i64 N, .slice A m c]) (by simp [results, Try.results155, go_sem, r0, r1]) rfl ⟨N, A, m, c, ps, rfl, HS.out.2.2.2.2.2.1, by omega, trivial, own_set2 HS.out.2.2.1 (own_bx_ne HS.out.2.2.1 HS.out.1 (by decide)), cur2 HS.out.2.2.2.1 hg, dr2 HS.out.2.2.2.2.1 (Nat.le_refl _)⟩

/-- A graph and two numbers, drawn from a code. -/
def RetGr2 (w : World) (e : Ending) (w' : World) : Prop :=
  ∃ (N : Int) (A : Option Addr) (m c : Nat) (ps : List (Int × Int)) (a b : Int), e = .returned (.tuple #[.agg #[.int .i64 N, .slice A m c], .int .i64 a, .int .i64 b]) ∧ ps.length = m ∧ m ≤ 17 ∧ w'.ownsRow w.heap.size 103 2 (.slice A m c) m (cellsP ps) ∧ Below w.heap.size w w'
set_option maxRecDepth 100000 in
set_option maxHeartbeats 1600000 in
theorem s_l36Args (A : Option Addr) (n cap : Nat) (zs : List Int) (w : World) (h : RdB w A n zs) (hz : ∀ z ∈ zs, 0 ≤ z ∧ z ≤ 255) (hn : n ≤ 1048576) :
    Calls Try.prog 91 #[.slice A n cap] w (RetGr2 w) := by
  have H := Lib.hid (show RdB (w.alloc (.cells #[.int .i64 0, .slice none 0 0] 41)) A n zs from ⟨h.1, h.2.alloc _⟩)
  have HZ := Lib.hid hz
  have R0 := Lib.hid (Bx.new w 41 #[.int .i64 0, .slice none 0 0])
  clear h hz
  go_enter Try.func91, Try.ntmps91
  go_wp2_with fail
  refine (s_l1New _ _ _ _ _ H.out HZ.out hn).mono ?_
  rintro e w1 ⟨g, rfl, hc1, hg, b1⟩
  go_wp2_with fail
  refine (s_l36Bent _ _ hc1).mono ?_
  rintro e w2 ⟨N, B, m, c, ps, rfl, hl, hm, _, o2, hc2, g2⟩
  go_wp2_with fail
  refine (s_l1Below _ _ _ hc2 (by omega)).mono ?_
  rintro e w3 ⟨x, rfl, ⟨hx, _⟩, hc3, g3⟩
  obtain ⟨hx0, hx1⟩ := hx (by omega)
  have o3 := dr_own g3 hc2 o2 (by decide)
  clear hx
  go_wp2_with fail
  refine (s_l1Below _ _ _ hc3 (by omega)).mono ?_
  rintro e w4 ⟨y, rfl, ⟨hy, _⟩, hc4, g4⟩
  obtain ⟨hy0, hy1⟩ := hy (by omega)
  have o4 := dr_own g4 hc3 o3 (by decide)
  clear hy
  have hg1 : w.heap.size + 1 ≤ g := by simpa using hg
  have B1 := below_alloc b1
  have hs1 := B1.size
  have R1 := R0.out.below b1
  have R4 := Lib.hid (dr_bx g4 (dr_bx g3 (dr_bx g2 R1 (show w.heap.size ≠ g by omega)) (show w.heap.size ≠ g by omega)) (show w.heap.size ≠ g by omega))
  have bw := Lib.hid (show Below w.heap.size w w4 from B1.trans (below_of_grown (dr_trans (dr_trans g2 g3) g4) hs1 (fun k hk => (by injection hk with hk; omega))))
  have O4 := Lib.hid (ownsRow_base o4 hs1)
  clear o2 o3 o4 hc2 hc3 hc4 g2 g3 g4 R1 B1 b1 hc1
  obtain ⟨q0, q1, f0, f1⟩ := R4.out.two
  have l4 := R4.out.lt
  go_wp2_with fail
  exact bodyPost_ret (v := .tuple #[.agg #[.int .i64 N, .slice B m c], .int .i64 (x - 1), .int .i64 (y - 1)]) (by simp [results, Try.results91, go_sem, q0, q1]) rfl ⟨N, B, m, c, ps, x - 1, y - 1, rfl, hl, hm, own_set2 O4.out (own_bx_ne O4.out R4.out (by decide)), (bw.out.setCell (Nat.le_refl _) _).setCell (Nat.le_refl _) _⟩
set_option maxHeartbeats 1600000 in
theorem s_DrawDist (A : Option Addr) (n cap : Nat) (zs : List Int) (w : World) (h : RdB w A n zs) (hz : ∀ z ∈ zs, 0 ≤ z ∧ z ≤ 255) (hn : n ≤ 1048576) :
    Calls Try.prog 23 #[.slice A n cap] w (RetGr2 w) := by
  have H := Lib.hid (show RdB (w.alloc (.cells #[.int .i64 0, .slice none 0 0] 41)) A n zs from ⟨h.1, h.2.alloc _⟩)
  have HZ := Lib.hid hz
  have R0 := Lib.hid (Bx.new w 41 #[.int .i64 0, .slice none 0 0])
  clear h hz
  go_enter Try.func23, Try.ntmps23
  go_wp2_with fail
  refine (s_l36Args _ _ _ _ _ H.out HZ.out hn).mono ?_
  rintro e w2 ⟨N, B, m, c, ps, x, y, rfl, hl, hm, o2, b2⟩
  have B1 := below_alloc b2
  have R2 := Lib.hid (R0.out.below b2)
  have O2 := Lib.hid (ownsRow_base o2 (show w.heap.size ≤ (w.alloc (.cells #[.int .i64 0, .slice none 0 0] 41)).heap.size by simp))
  have bw := Lib.hid B1
  clear o2 B1 b2
  obtain ⟨q0, q1, f0, f1⟩ := R2.out.two
  have l4 := R2.out.lt
  go_wp2_with fail
  exact bodyPost_ret (v := .tuple #[.agg #[.int .i64 N, .slice B m c], .int .i64 x, .int .i64 y]) (by simp [results, Try.results23, go_sem, q0, q1]) rfl ⟨N, B, m, c, ps, x, y, rfl, hl, hm, own_set2 O2.out (own_bx_ne O2.out R2.out (by decide)), (bw.out.setCell (Nat.le_refl _) _).setCell (Nat.le_refl _) _⟩
set_option maxHeartbeats 1600000 in
theorem s_DrawShort (A : Option Addr) (n cap : Nat) (zs : List Int) (w : World) (h : RdB w A n zs) (hz : ∀ z ∈ zs, 0 ≤ z ∧ z ≤ 255) (hn : n ≤ 1048576) :
    Calls Try.prog 29 #[.slice A n cap] w (RetGr2 w) := by
  have H := Lib.hid (show RdB (w.alloc (.cells #[.int .i64 0, .slice none 0 0] 41)) A n zs from ⟨h.1, h.2.alloc _⟩)
  have HZ := Lib.hid hz
  have R0 := Lib.hid (Bx.new w 41 #[.int .i64 0, .slice none 0 0])
  clear h hz
  go_enter Try.func29, Try.ntmps29
  go_wp2_with fail
  refine (s_l36Args _ _ _ _ _ H.out HZ.out hn).mono ?_
  rintro e w2 ⟨N, B, m, c, ps, x, y, rfl, hl, hm, o2, b2⟩
  have B1 := below_alloc b2
  have R2 := Lib.hid (R0.out.below b2)
  have O2 := Lib.hid (ownsRow_base o2 (show w.heap.size ≤ (w.alloc (.cells #[.int .i64 0, .slice none 0 0] 41)).heap.size by simp))
  have bw := Lib.hid B1
  clear o2 B1 b2
  obtain ⟨q0, q1, f0, f1⟩ := R2.out.two
  have l4 := R2.out.lt
  go_wp2_with fail
  exact bodyPost_ret (v := .tuple #[.agg #[.int .i64 N, .slice B m c], .int .i64 x, .int .i64 y]) (by simp [results, Try.results29, go_sem, q0, q1]) rfl ⟨N, B, m, c, ps, x, y, rfl, hl, hm, own_set2 O2.out (own_bx_ne O2.out R2.out (by decide)), (bw.out.setCell (Nat.le_refl _) _).setCell (Nat.le_refl _) _⟩
end Go.Proofs.YtgnallcfahpjmaaR
