/- Contracts of the drawing of Clifford gates and of l35Args: l25Cliff, l26Circ, l35Args, DrawGateCost. -/
import Derived.Test.YthfacfnknpomcaaDrawC
namespace Go.Proofs.Ythfacfnknpomcaa
open Go.RowKit
set_option linter.unusedVariables false

theorem cl_pick {y : Int} (h : y ∈ [(1 : Int), 2, 3, 4, 5, 6, 9, 10, 11, 4, 9]) : 1 ≤ arity y := by
  have h2 : y = 1 ∨ y = 2 ∨ y = 3 ∨ y = 4 ∨ y = 5 ∨ y = 6 ∨ y = 9 ∨ y = 10 ∨ y = 11 := by simp at h; omega
  rcases h2 with h | h | h | h | h | h | h | h | h <;> subst h <;> decide
set_option maxRecDepth 100000 in
set_option maxHeartbeats 3200000 in
theorem s_l25Cliff (g n : Nat) (w : World) (h : Cur w g) (h1 : 1 ≤ n) (h4 : n ≤ 4) :
    Calls Try.prog 156 #[.pointer (some ⟨g, 0, none⟩), .int .i64 n] w (DrawnG (fun x => okG x.k x.a x.b x.c n = true) g w) := by
  have hg := h.lt
  obtain ⟨W1, hW1⟩ : ∃ W1, W1 = (w.alloc (.cells #[.int .i64 0, .int .i64 0, .int .i64 0, .int .i64 0] 38)).alloc (.cells #[.int .i64 1, .int .i64 2, .int .i64 3, .int .i64 4, .int .i64 5, .int .i64 6, .int .i64 9, .int .i64 10, .int .i64 11, .int .i64 4, .int .i64 9] 3) := ⟨_, rfl⟩
  have C1 := Lib.hid (show Cur W1 g from hW1 ▸ cur_alloc (cur_alloc h _) _)
  have X1 := Lib.hid (show Bx W1 w.heap.size 38 #[.int .i64 0, .int .i64 0, .int .i64 0, .int .i64 0] from hW1 ▸ (Bx.new w _ _).alloc _)
  have G1 := Lib.hid (show w.grownBy W1 (some g) from hW1 ▸ dr_alloc (dr_alloc (dr_refl w g) _) _)
  have OL := Lib.hid (show W1.ownsRow (g + 1) 3 1 (.slice (some ⟨w.heap.size + 1, 0, none⟩) 11 11) 11 (cellsI [1, 2, 3, 4, 5, 6, 9, 10, 11, 4, 9]) from by
    have : ((w.alloc (.cells #[.int .i64 0, .int .i64 0, .int .i64 0, .int .i64 0] 38)).alloc (.cells #[.int .i64 1, .int .i64 2, .int .i64 3, .int .i64 4, .int .i64 5, .int .i64 6, .int .i64 9, .int .i64 10, .int .i64 11, .int .i64 4, .int .i64 9] 3)).ownsRow (g + 1) 3 1 (.slice (some ⟨(w.alloc (.cells #[.int .i64 0, .int .i64 0, .int .i64 0, .int .i64 0] 38)).heap.size, 0, none⟩) 11 11) 11 (cellsI [1, 2, 3, 4, 5, 6, 9, 10, 11, 4, 9]) := World.ownsRow_lit (w.alloc (.cells #[.int .i64 0, .int .i64 0, .int .i64 0, .int .i64 0] 38)) #[.int .i64 1, .int .i64 2, .int .i64 3, .int .i64 4, .int .i64 5, .int .i64 6, .int .i64 9, .int .i64 10, .int .i64 11, .int .i64 4, .int .i64 9] 11 (by simp; omega) (by simp [maxLen]) rfl
    rw [World.size_alloc] at this
    rw [hW1]; exact this)
  have HW := Lib.hid hW1
  clear h hW1
  go_enter Try.func156, Try.ntmps156
  go_wp2_with fail
  rw [← HW.out]
  refine (s_l1PickInt g _ 11 11 [1, 2, 3, 4, 5, 6, 9, 10, 11, 4, 9] _ C1.out OL.out (by omega) (by omega)).mono ?_
  rintro e w5 ⟨y, rfl, hy, hc5, g5⟩
  have hk1 := cl_pick hy
  have C5 := Lib.hid hc5
  have X5 := Lib.hid (dr_bx g5 X1.out (show w.heap.size ≠ g by omega))
  have G5 := Lib.hid (dr_trans G1.out g5)
  clear hy hc5 g5 X1 C1 G1 OL HW
  obtain ⟨ar, har⟩ : ∃ a, arity y = a := ⟨_, rfl⟩
  rw [har] at hk1
  have HAR := Lib.hid har
  have HA7 := Lib.hid (show arity 4 = 1 by decide)
  clear har
  by_cases ht : (n : Int) < ar
  · go_wp2_with fail
    refine (s_Arity _ _).mono ?_
    rintro e w' ⟨rfl, rfl⟩
    rw [HAR.out]
    go_wp2_with fail
    refine (s_l9On g n 4 _ C5.out h1 h4 (by rw [HA7.out]; omega) (by rw [HA7.out]; omega)).mono ?_
    rintro e w9 ⟨k, a, b, c, rfl, ⟨hk', hok⟩, hc9, g9⟩
    have HOK := Lib.hid hok
    have C9 := Lib.hid hc9
    have X9 := Lib.hid (dr_bx g9 X5.out (show w.heap.size ≠ g by omega))
    have G9 := Lib.hid (dr_trans G5.out g9)
    obtain ⟨q0, q1, q2, q3, f0, f1, f2, f3⟩ := X9.out.four
    have l9 := X9.out.lt
    clear hk' hok hc9 g9 ht hk1
    go_wp2_with fail
    exact bodyPost_ret (v := .agg #[.int .i64 k, .int .i64 a, .int .i64 b, .int .i64 c]) (by simp [results, Try.results156, go_sem, q0, q1, q2, q3]) rfl ⟨k, a, b, c, rfl, HOK.out, cur4 C9.out hg, dr4 G9.out (Nat.le_refl _)⟩
  · go_wp2_with fail
    refine (s_Arity _ _).mono ?_
    rintro e w' ⟨rfl, rfl⟩
    rw [HAR.out]
    go_wp2_with fail
    refine (s_l9On g n y _ C5.out h1 h4 (by rw [HAR.out]; omega) (by rw [HAR.out]; omega)).mono ?_
    rintro e w9 ⟨k, a, b, c, rfl, ⟨hk', hok⟩, hc9, g9⟩
    have HOK := Lib.hid hok
    have C9 := Lib.hid hc9
    have X9 := Lib.hid (dr_bx g9 X5.out (show w.heap.size ≠ g by omega))
    have G9 := Lib.hid (dr_trans G5.out g9)
    obtain ⟨q0, q1, q2, q3, f0, f1, f2, f3⟩ := X9.out.four
    have l9 := X9.out.lt
    clear hk' hok hc9 g9 ht hk1
    go_wp2_with fail
    exact bodyPost_ret (v := .agg #[.int .i64 k, .int .i64 a, .int .i64 b, .int .i64 c]) (by simp [results, Try.results156, go_sem, q0, q1, q2, q3]) rfl ⟨k, a, b, c, rfl, HOK.out, cur4 C9.out hg, dr4 G9.out (Nat.le_refl _)⟩

set_option maxRecDepth 100000 in
set_option maxHeartbeats 3200000 in
theorem s_l26Circ (g n : Nat) (most : Nat) (w : World) (h : Cur w g) (h1 : 1 ≤ n) (h4 : n ≤ 4) (hm : most ≤ 60) :
    Calls Try.prog 149 #[.pointer (some ⟨g, 0, none⟩), .int .i64 n, .int .i64 most] w (DrawnC (fun N => N = n) most g w) := by
  have hg := h.lt
  have hz4 : (Value.agg #[.int .i64 0, .int .i64 0, .int .i64 0, .int .i64 0]).cells.size = 4 := rfl
  obtain ⟨W1, hW1⟩ : ∃ W1, W1 = (w.alloc (.cells #[.int .i64 0, .slice none 0 0] 119)).alloc (.cells #[.int .i64 n, .slice none 0 0] 119) := ⟨_, rfl⟩
  have C1 := Lib.hid (show Cur W1 g from hW1 ▸ cur_alloc (cur_alloc h _) _)
  have R1 := Lib.hid (show Bx W1 w.heap.size 119 #[.int .i64 0, .slice none 0 0] from hW1 ▸ (Bx.new w _ _).alloc _)
  have E1 := Lib.hid (show Bx W1 (w.heap.size + 1) 119 #[.int .i64 n, .slice none 0 0] from hW1 ▸ Bx.new' (by simp))
  have G1 := Lib.hid (show w.grownBy W1 (some g) from hW1 ▸ dr_alloc (dr_alloc (dr_refl w g) _) _)
  have HW := Lib.hid hW1
  clear h hW1
  go_enter Try.func149, Try.ntmps149
  go_wp2_with fail
  rw [← HW.out]
  refine (s_l1Below g _ _ C1.out (by omega)).mono ?_
  rintro e w2 ⟨y, rfl, ⟨hy, _⟩, hc, gg⟩
  obtain ⟨hy0, hy1⟩ := hy (by omega)
  obtain ⟨m, rfl⟩ : ∃ m : Nat, y = m := ⟨y.toNat, by omega⟩
  have C2 := Lib.hid hc
  have R2 := Lib.hid (dr_bx gg R1.out (show w.heap.size ≠ g by omega))
  have E2 := Lib.hid (dr_bx gg E1.out (show w.heap.size + 1 ≠ g by omega))
  have G2 := Lib.hid (dr_trans G1.out gg)
  clear hy hc gg C1 R1 E1 G1 HW
  go_wp2_with fail
  go_loopg [9] m (fun r i wr => ∃ (k : Nat) (A : Option Addr) (c : Nat) (gs : List Gt), k + r = m ∧ i = .int .i64 k ∧ gs.length = k ∧ Bx wr w.heap.size 119 #[.int .i64 0, .slice none 0 0] ∧ Bx wr (w.heap.size + 1) 119 #[.int .i64 n, .slice A k c] ∧ wr.ownsRow w.heap.size 38 4 (.slice A k c) k (cellsG gs) ∧ Cur wr g ∧ w.grownBy wr (some g))
  case atStart => exact ⟨0, none, 0, [], by omega, rfl, rfl, R2.out, E2.out, World.ownsRow_nil _ _ _ _, C2.out, G2.out⟩
  case round =>
    clear C2 R2 E2 G2
    obtain ⟨k, A, c, gs, hk, rfl, hl, hr, he, ho, hc, hgr⟩ := hrel
    have HL := Lib.hid hl
    have HR := Lib.hid hr
    have HE := Lib.hid he
    have HO := Lib.hid ho
    have HC := Lib.hid hc
    have HG := Lib.hid hgr
    have lr := hr.lt
    have le := he.lt
    clear hl hr he ho hc hgr
    obtain ⟨q0, q1, f0, f1⟩ := HE.out.two
    by_cases hlt : k < m
    · have CD := Lib.hid (show Cur wr.drew g from HC.out)
      go_wp2_with fail
      go_region_law (first
        | (go_simp; go_at_call 156; (with_reducible refine (s_l25Cliff g n _ (by first | exact CD.out | exact HC.out) h1 h4).mono ?_); rintro e w5 ⟨k5, a5, b5, c5, rfl, _, hc5, g5⟩; have g5 := und_grownD g5; have E5 := dr_bx g5 HE.out (show w.heap.size + 1 ≠ g by omega); have R5 := dr_bx g5 HR.out (show w.heap.size ≠ g by omega); have O5 := dr_own g5 HC.out HO.out (by decide); have s5 := g5.size; have ⟨p0, p1, p2, p3⟩ := E5.two; have e5 := E5.lt; have OA := O5.alloc (.cells #[.int .i64 k5, .int .i64 a5, .int .i64 b5, .int .i64 c5] 38); have CA := cur_alloc hc5 (.cells #[.int .i64 k5, .int .i64 a5, .int .i64 b5, .int .i64 c5] 38); have GA := dr_alloc (dr_trans HG.out g5) (.cells #[.int .i64 k5, .int .i64 a5, .int .i64 b5, .int .i64 c5] 38))
        | (refine step_app (by rfl) (.tmp 22) (.tmp 26) 47 (by rfl) Try.underlying47 infoGate hz4 (by decide) (by simp [Act.eval] <;> rfl) OA (by simp [Act.eval] <;> rfl) (Rd.lit w5 38 #[.int .i64 k5, .int .i64 a5, .int .i64 b5, .int .i64 c5] 1 4 rfl) (by simp [Value.oneCell']) (by omega) (by decide) (by simp <;> omega) ?_; intro A7 c7 w7 o7 g7; have E7 := kept_app OA g7 (E5.alloc _) (by decide); have R7 := kept_app OA g7 (R5.alloc _) (by decide); have C7 := CA.row g7 (fun q hq => (by have := (OA.lt q hq).1; omega)); have G7 := dr_row GA g7 (fun q hq => (OA.lt q hq).1); have ⟨t0, t1, t2, t3⟩ := E7.two; have e7 := E7.lt)
        | fail)
      all_goals go_wp2_with fail
      all_goals go_roundg (gk - 1)
      all_goals first
        | omega
        | exact ⟨k + 1, A7, c7, gs ++ [⟨k5, a5, b5, c5⟩], by omega, by go_num, by simp [HL.out], R7.far (show w.heap.size ≠ w.heap.size + 1 by omega) _, E7.t1 _, by rw [cellsG_append]; exact own_set_neD o7 (own_bx_ne o7 E7 (by decide)) _, C7.setCell (by show g < w.heap.size + 1; omega) _, dr_set G7 (by show w.heap.size ≤ w.heap.size + 1; omega) _⟩
    · obtain rfl : k = m := by omega
      obtain ⟨r0, r1, g0, g1⟩ := HR.out.two
      go_wp2_with fail
      refine bodyPost_ret (v := .agg #[.int .i64 n, .slice A k c]) (by simp [results, Try.results149, go_sem, r0, r1]) rfl ⟨n, A, k, c, gs, rfl, HL.out, by omega, rfl, own_set2 HO.out (own_bx_ne HO.out HR.out (by decide)), cur2 HC.out hg, dr2 HG.out (Nat.le_refl _)⟩

def RetAR (w : World) (e : Ending) (w' : World) : Prop := ∃ (A : Option Addr) (n c : Nat) (gs : List Gt) (N : Int), e = .returned (.tuple #[.slice A n c, .int .i64 N]) ∧ gs.length = n ∧ n ≤ 64 ∧ w'.ownsRow w.heap.size 38 4 (.slice A n c) n (cellsG gs) ∧ Below w.heap.size w w'
set_option maxRecDepth 100000 in
set_option maxHeartbeats 1600000 in
theorem s_l35Args (A : Option Addr) (n cap most : Nat) (zs : List Int) (w : World) (h : RdB w A n zs) (hz : ∀ z ∈ zs, 0 ≤ z ∧ z ≤ 255) (hn : n ≤ 1048576) (hm : most ≤ 58) :
    Calls Try.prog 121 #[.slice A n cap, .int .i64 most] w (RetAR w) := by
  have H := Lib.hid h
  have HZ := Lib.hid hz
  clear h hz
  go_enter Try.func121, Try.ntmps121
  go_wp2_with fail
  refine (s_l1New _ _ _ _ _ H.out HZ.out hn).mono ?_
  rintro e w1 ⟨g, rfl, hc1, hg, b1⟩
  have B1 := Lib.hid b1
  clear b1
  go_wp2_with fail
  refine (s_l1Once g 3 _ hc1 (by omega)).mono ?_
  rintro e w2 ⟨bb, rfl, hc2, g2⟩
  cases bb
  · go_wp2_with fail
    refine (s_l11Bent g most _ hc2 hm).mono ?_
    rintro e w3 ⟨N, A2, n2, c2, gs, rfl, hl, h5, _, o3, hc3, g3⟩
    have hs1 := B1.out.size
    have hs2 := g2.size
    have OO := Lib.hid ((ownsRow_base o3 (show w.heap.size ≤ w2.heap.size by omega)).alloc (.cells #[.int .i64 N, .slice A2 n2 c2] 119))
    have BB := Lib.hid (B1.out.trans (below_of_grown (dr_trans g2 g3) hs1 (fun k hk => (by injection hk with hk; omega))))
    have B3 := Lib.hid (BB.out.alloc BB.out.size (.cells #[.int .i64 N, .slice A2 n2 c2] 119))
    have HL := Lib.hid hl
    clear hc3 g3 o3 hl g2 hc2 hc1
    go_wp2_with fail
    go_quiet (fail)
    go_wp2_with fail
    go_ret2
    exact ⟨A2, n2, c2, gs, N, rfl, HL.out, by omega, OO.out, below_drewN B3.out _⟩
  · go_wp2_with fail
    refine (s_l1Below g 3 _ hc2 (by omega)).mono ?_
    rintro e w3 ⟨y, rfl, ⟨hy, _⟩, hc3, g3⟩
    obtain ⟨hy0, hy1⟩ := hy (by omega)
    obtain ⟨q, hq⟩ : ∃ q : Nat, 1 + y = q := ⟨(1 + y).toNat, by omega⟩
    have hq1 : 1 ≤ q := by omega
    have hq4 : q ≤ 3 := by omega
    clear hy
    go_wp2_with fail
    clear hq hy0 hy1
    refine (s_l26Circ g q most _ hc3 hq1 (by omega) (by omega)).mono ?_
    rintro e w4 ⟨N, A2, n2, c2, gs, rfl, hl, h5, rfl, o4, hc4, g4⟩
    have hs1 := B1.out.size
    have hs2 := (dr_trans g2 g3).size
    have OO := Lib.hid ((ownsRow_base o4 (show w.heap.size ≤ w3.heap.size by omega)).alloc (.cells #[.int .i64 (q : Int), .slice A2 n2 c2] 119))
    have BB := Lib.hid (B1.out.trans (below_of_grown (dr_trans (dr_trans g2 g3) g4) hs1 (fun k hk => (by injection hk with hk; omega))))
    have B3 := Lib.hid (BB.out.alloc BB.out.size (.cells #[.int .i64 (q : Int), .slice A2 n2 c2] 119))
    have HL := Lib.hid hl
    clear hc4 g4 o4 hl g2 g3 hc3 hc2 hc1
    go_wp2_with fail
    go_quiet (fail)
    go_wp2_with fail
    go_ret2
    exact ⟨A2, n2, c2, gs, (q : Int), rfl, HL.out, by omega, OO.out, below_drewN B3.out _⟩
def RetDG2 (w : World) (e : Ending) (w' : World) : Prop := ∃ (A : Option Addr) (n c : Nat) (gs : List Gt), e = .returned (.slice A n c) ∧ gs.length = n ∧ n ≤ 64 ∧ w'.ownsRow w.heap.size 38 4 (.slice A n c) n (cellsG gs) ∧ Below w.heap.size w w'
set_option maxHeartbeats 800000 in
theorem s_DrawGateCost (A : Option Addr) (n cap : Nat) (zs : List Int) (w : World) (h : RdB w A n zs) (hz : ∀ z ∈ zs, 0 ≤ z ∧ z ≤ 255) (hn : n ≤ 1048576) :
    Calls Try.prog 64 #[.slice A n cap] w (RetDG2 w) := by
  have H := Lib.hid h
  have HZ := Lib.hid hz
  clear h hz
  go_enter Try.func64, Try.ntmps64
  go_wp2_with fail
  refine (s_l35Args A n cap 10 zs _ H.out HZ.out hn (by omega)).mono ?_
  rintro e w1 ⟨A2, n2, c2, gs, N, rfl, hl, h5, o1, b1⟩
  have OO := Lib.hid o1
  have BB := Lib.hid b1
  have HL := Lib.hid hl
  clear o1 b1 hl
  go_wp2_with fail
  go_ret
  exact ⟨A2, n2, c2, gs, rfl, HL.out, h5, OO.out, BB.out⟩
end Go.Proofs.Ythfacfnknpomcaa
