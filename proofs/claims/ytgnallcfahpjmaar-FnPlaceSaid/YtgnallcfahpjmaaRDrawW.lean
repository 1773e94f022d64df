/- Contracts of the drawing of layouts' arguments: l37Args, DrawLayoutCost, DrawRouteGates, DrawChooseLayout. The code has at most 2^20 bytes. -/
import Derived.Test.YtgnallcfahpjmaaRDrawN
import Derived.Test.YtgnallcfahpjmaaRDecG
import Derived.RegionTactic
namespace Go.Proofs.YtgnallcfahpjmaaR
open Go.RowKit
set_option linter.unusedVariables false

theorem own_own_ne {w : World} {b b' : Nat} {e e' : TypeId} {sz sz' n n' : Nat} {v v' : Value} {xs xs' : List Value} (h : w.ownsRow b e sz v n xs) (h' : w.ownsRow b' e' sz' v' n' xs') (hne : e ≠ e') : v.ownBlock = none ∨ v.ownBlock ≠ v'.ownBlock := by
  rcases h.2 with ⟨rfl, _⟩ | ⟨g, cap, cur, rfl, _, hh, _⟩
  · exact .inl rfl
  · right
    intro he
    rcases h'.2 with ⟨rfl, _⟩ | ⟨g', cap', cur', rfl, _, hh', _⟩
    · cases he
    · simp only [Value.ownBlock, Option.some.injEq] at he
      subst he
      rw [hh] at hh'
      injection hh' with hh'
      injection hh' with _ h2
      exact hne h2
/-- A graph's box, its edges, a list of gates, the cursor. -/
def WSt (w : World) (R E g : Nat) (N : Int) (A : Option Addr) (m c : Nat) (ps : List (Int × Int)) (G : Option Addr) (q d : Nat) (gs : List Gt) (wr : World) : Prop :=
  Bx wr R 41 #[.int .i64 0, .slice none 0 0] ∧ Bx wr E 41 #[.int .i64 N, .slice A m c] ∧ wr.ownsRow w.heap.size 103 2 (.slice A m c) m (cellsP ps) ∧ wr.ownsRow w.heap.size 63 4 (.slice G q d) q (cellsG gs) ∧ Cur wr g ∧ w.grownBy wr (some g) ∧ (ps.length = m ∧ gs.length = q ∧ m ≤ 17) ∧ (g < w.heap.size ∧ w.heap.size ≤ R ∧ R < E)
section
variable {w : World} {R E g : Nat} {N : Int} {A : Option Addr} {m c : Nat} {ps : List (Int × Int)} {G : Option Addr} {q d : Nat} {gs : List Gt} {wr w' : World}
theorem WSt.draw (h : WSt w R E g N A m c ps G q d gs wr) (hc : Cur w' g) (gg : wr.grownBy w' (some g)) : WSt w R E g N A m c ps G q d gs w' := by
  obtain ⟨h1, h2, h3, h4, h5, h6, h7, h9⟩ := h
  exact ⟨dr_bx gg h1 (by omega), dr_bx gg h2 (by omega), dr_own gg h5 h3 (by decide), dr_own gg h5 h4 (by decide), hc, dr_trans h6 gg, h7, h9⟩
theorem WSt.below (h : WSt w R E g N A m c ps G q d gs wr) (hb : Below wr.heap.size wr w') : WSt w R E g N A m c ps G q d gs w' := by
  obtain ⟨h1, h2, h3, h4, h5, h6, h7, h9⟩ := h
  exact ⟨h1.below hb, h2.below hb, ownsRow_below h3 hb, ownsRow_below h4 hb, h5.below hb, dr_below h6 hb, h7, h9⟩
theorem WSt.alloc (h : WSt w R E g N A m c ps G q d gs wr) (o : Obj) : WSt w R E g N A m c ps G q d gs (wr.alloc o) := h.below ((Below.refl _ _).alloc (Nat.le_refl _) _)
theorem WSt.drew (h : WSt w R E g N A m c ps G q d gs wr) : WSt w R E g N A m c ps G q d gs wr.drew := h.below ((Below.refl _ _).drew)
theorem WSt.gates {G' : Option Addr} {q' d' : Nat} {gs' : List Gt} (h : WSt w R E g N A m c ps G q d gs wr) (o : wr.ownsRow w.heap.size 63 4 (.slice G' q' d') q' (cellsG gs')) (hl : gs'.length = q') : WSt w R E g N A m c ps G' q' d' gs' wr :=
  ⟨h.1, h.2.1, h.2.2.1, o, h.2.2.2.2.1, h.2.2.2.2.2.1, ⟨h.2.2.2.2.2.2.1.1, hl, h.2.2.2.2.2.2.1.2.2⟩, h.2.2.2.2.2.2.2⟩
theorem WSt.app {G' : Option Addr} {d' : Nat} {x : Gt} (h : WSt w R E g N A m c ps G q d gs wr) (o7 : w'.ownsRow w.heap.size 63 4 (.slice G' (q + 1) d') (q + 1) (cellsG gs ++ cellsG [x])) (g7 : wr.grownBy w' (Value.slice G q d).ownBlock) : WSt w R E g N A m c ps G' (q + 1) d' (gs ++ [x]) w' := by
  obtain ⟨h1, h2, h3, h4, h5, h6, h7, h9⟩ := h
  have hl := fun q hq => (h4.lt q hq).1
  exact ⟨kept_app h4 g7 h1 (by decide), kept_app h4 g7 h2 (by decide), h3.kept g7 (own_own_ne h3 h4 (by decide)), by rw [cellsG_append]; exact o7, h5.row g7 (fun q hq => by have := hl q hq; omega), dr_row h6 g7 (fun q hq => by have := hl q hq; omega), ⟨h7.1, by simp [h7.2.1], h7.2.2⟩, h9⟩
theorem WSt.graph {N' : Int} {A' : Option Addr} {m' c' : Nat} {ps' : List (Int × Int)} (h : WSt w R E g N A m c ps G q d gs wr) (o : wr.ownsRow w.heap.size 103 2 (.slice A' m' c') m' (cellsP ps')) (hl : ps'.length = m') (hm : m' ≤ 17) : WSt w R E g N' A' m' c' ps' G q d gs ((wr.setCell ⟨E, 0, none⟩ (.int .i64 N')).setCell ⟨E, 1, none⟩ (.slice A' m' c')) := by
  obtain ⟨h1, h2, h3, h4, h5, h6, h7, h9⟩ := h
  exact ⟨(h1.far (show R ≠ E by omega) _).far (show R ≠ E by omega) _, (h2.t0 _).t1 _, own_set2 o (own_bx_ne o h2 (by decide)), own_set2 h4 (own_bx_ne h4 h2 (by decide)), (h5.setCell (by show g < E; omega) _).setCell (by show g < E; omega) _, dr_set (dr_set h6 (by show w.heap.size ≤ E; omega) _) (by show w.heap.size ≤ E; omega) _, ⟨hl, h7.2.1, hm⟩, h9⟩
theorem WSt.cells (h : WSt w R E g N A m c ps G q d gs wr) : wr.cell? ⟨E, 0, none⟩ = some (.int .i64 N) ∧ wr.cell? ⟨E, 1, none⟩ = some (.slice A m c) ∧ wr.frozen? ⟨E, 0, none⟩ = false ∧ wr.frozen? ⟨E, 1, none⟩ = false := h.2.1.two
theorem WSt.res (h : WSt w R E g N A m c ps G q d gs wr) : wr.cell? ⟨R, 0, none⟩ = some (.int .i64 0) ∧ wr.cell? ⟨R, 1, none⟩ = some (.slice none 0 0) ∧ wr.frozen? ⟨R, 0, none⟩ = false ∧ wr.frozen? ⟨R, 1, none⟩ = false := h.1.two
end
/-- Gates and a graph, drawn. -/
def RetW (B g : Nat) (w : World) (e : Ending) (w' : World) : Prop :=
  ∃ (G : Option Addr) (q d : Nat) (gs : List Gt) (N : Int) (A : Option Addr) (m c : Nat) (ps : List (Int × Int)), e = .returned (.tuple #[.slice G q d, .agg #[.int .i64 N, .slice A m c]]) ∧ gs.length = q ∧ q ≤ B ∧ ps.length = m ∧ m ≤ 17 ∧
    w'.ownsRow w.heap.size 63 4 (.slice G q d) q (cellsG gs) ∧ w'.ownsRow w.heap.size 103 2 (.slice A m c) m (cellsP ps) ∧ Cur w' g ∧ w.grownBy w' (some g)
theorem retW {B g : Nat} {w wr : World} {R E : Nat} {N : Int} {A : Option Addr} {m c : Nat} {ps : List (Int × Int)} {G : Option Addr} {q d : Nat} {gs : List Gt} (h : WSt w R E g N A m c ps G q d gs wr) (hq : q ≤ B) : RetW B g w (.returned (.tuple #[.slice G q d, .agg #[.int .i64 N, .slice A m c]])) ((wr.setCell ⟨R, 0, none⟩ (.int .i64 N)).setCell ⟨R, 1, none⟩ (.slice A m c)) := by
  obtain ⟨h1, h2, h3, h4, h5, h6, h7, h9⟩ := h
  exact ⟨G, q, d, gs, N, A, m, c, ps, rfl, h7.2.1, hq, h7.1, h7.2.2, own_set2 h4 (own_bx_ne h4 h1 (by decide)), own_set2 h3 (own_bx_ne h3 h1 (by decide)), cur2 h5 (by omega), dr2 h6 (by omega)⟩

theorem RetW.drew {B g : Nat} {w w' : World} {e : Ending} (h : RetW B g w e w') : RetW B g w e w'.drew := by
  obtain ⟨G, q, d, gs, N, A, m, c, ps, h1, h2, h3, h4, h5, h6, h7, h8, h9⟩ := h
  exact ⟨G, q, d, gs, N, A, m, c, ps, h1, h2, h3, h4, h5, ownsRow_drew h6, ownsRow_drew h7, h8.below (Below.refl _ _).drew, dr_below h9 (Below.refl _ _).drew⟩
theorem run_gates (N : Int) (A : Option Addr) (q c : Nat) (w : World) : Sem.run Try.prog (Instr.field 100 (.agg #[.int .i64 N, .slice A q c]) 1) w = .ok (.slice A q c) w := by kernel_rfl
set_option maxRecDepth 100000 in
set_option maxHeartbeats 6400000 in
theorem s_l37Args (g most : Nat) (w : World) (h : Cur w g) (hm : most ≤ 60) : Calls Try.prog 95 #[.pointer (some ⟨g, 0, none⟩), .int .i64 most] w (RetW (15 * most + 1) g w) := by
  have hg := h.lt
  have C1 := Lib.hid (cur_alloc h (.cells #[.int .i64 0, .slice none 0 0] 41))
  have R1 := Lib.hid (Bx.new w 41 #[.int .i64 0, .slice none 0 0])
  have G1 := Lib.hid (dr_alloc (dr_refl w g) (.cells #[.int .i64 0, .slice none 0 0] 41))
  clear h
  go_enter Try.func95, Try.ntmps95
  go_wp2_with fail
  refine (s_l1Below g 4 _ C1.out (by omega)).mono ?_
  rintro e w2 ⟨y, rfl, ⟨hy, _⟩, hc, gg⟩
  obtain ⟨hy0, hy1⟩ := hy (by omega)
  obtain ⟨n, hn⟩ : ∃ n : Nat, 1 + y = n := ⟨(1 + y).toNat, by omega⟩
  have hn1 : 1 ≤ n := by omega
  have hn4 : n ≤ 4 := by omega
  have C2 := Lib.hid hc
  have R2 := Lib.hid (dr_bx gg R1.out (show w.heap.size ≠ g by omega))
  have G2 := Lib.hid (dr_trans G1.out gg)
  have hs2 := (dr_un gg).size
  clear hy hc gg C1 R1 G1
  go_wp2_with fail
  clear hn hy0 hy1
  refine (s_l36Right g n _ C2.out hn1 hn4).mono ?_
  rintro e w3 ⟨N, A, m, c, ps, rfl, hl, hm16, hNn, o3, hc, gg⟩
  clear hNn
  have hR3 := (dr_bx gg R2.out (show w.heap.size ≠ g by omega)).lt
  have SB := Lib.hid (show WSt w w.heap.size w3.heap.size g N A m c ps none 0 0 [] (w3.alloc (.cells #[.int .i64 N, .slice A m c] 41)) from
    ⟨(dr_bx gg R2.out (show w.heap.size ≠ g by omega)).alloc _, Bx.new w3 _ _, (ownsRow_base o3 (by omega)).alloc _, World.ownsRow_nil _ _ _ _, cur_alloc hc _, dr_alloc (dr_trans G2.out gg) _, ⟨hl, rfl, by omega⟩, hg, Nat.le_refl _, hR3⟩)
  clear hl o3 hc gg C2 R2 G2
  go_wp2_with fail
  refine (s_l11Right g n most _ SB.out.2.2.2.2.1 hn1 hn4 hm).mono ?_
  rintro e w4 ⟨N4, A4, q4, c4, g4, rfl, hl4, hq4, hN4, o4, hc, gg⟩
  have S4 := Lib.hid (SB.out.draw hc gg)
  have O4 := Lib.hid (RdG.own o4)
  have hL4 := Lib.hid hl4
  clear o4 hc gg SB hN4 hl4
  go_wp2_with fail
  rw [run_gates]
  go_wp2_with fail
  refine (s_DecomposeGates _ _ _ g4 _ O4.out (by omega)).mono ?_
  rintro e w5 ⟨A5, q, d, gs, rfl, hl5, hq5, o5, b5⟩
  have S5 := Lib.hid ((S4.out.below b5).gates (ownsRow_base o5 (by have := S4.out.2.2.2.2.2.1.size; omega)) hl5)
  have hq : q ≤ 15 * most := by omega
  clear O4 S4 o5 b5 hl5 hL4 hq5 hq4
  generalize hgE : w3.heap.size = E at S5 hR3 ⊢
  clear hgE
  go_wp2_with fail
  refine (s_l1Once g 12 _ S5.out.2.2.2.2.1 (by omega)).mono ?_
  rintro e w6 ⟨b6, rfl, hc, gg⟩
  have S6 := Lib.hid (S5.out.draw hc gg)
  clear hc gg S5
  cases b6
  · have ST := S6
    go_wp2_with fail
    refine (s_l1Once g 12 _ ST.out.2.2.2.2.1 (by omega)).mono ?_
    rintro e w8 ⟨b8, rfl, hc, gg⟩
    have S8 := Lib.hid (ST.out.draw hc gg)
    obtain ⟨x0, x1, x2, x3⟩ := S8.out.cells
    obtain ⟨r0, r1, r2, r3⟩ := S8.out.res
    clear hc gg
    cases b8
    · go_wp2_with fail
      go_region
      all_goals go_wp2_with fail
      all_goals exact bodyPost_ret (v := .tuple #[.slice A5 q d, .agg #[.int .i64 N, .slice A m c]]) (by simp [results, Try.results95, go_sem, r0, r1]) rfl (retW S8.out (by omega)).drew
    · go_wp2_with fail
      refine (s_l9Bent g n _ S8.out.2.2.2.2.1 hn1 hn4).mono ?_
      rintro e w9 ⟨k9, a9, b9, c9, rfl, _, hc, gg⟩
      have S9 := Lib.hid (S8.out.draw hc gg)
      have hs9 := S9.out.2.2.2.2.2.1.size
      clear hc gg
      go_wp2_with (at_builtin; refine wpList_app rfl (.tmp 27) (.tmp 31) 24 rfl Try.underlying24 infoGate rfl (by decide) rfl (S9.out.2.2.2.1.alloc _) rfl (Rd.lit w9 63 #[.int .i64 k9, .int .i64 a9, .int .i64 b9, .int .i64 c9] 1 4 rfl) (by simp [Value.oneCell']) (by omega) (by decide) (by simp <;> omega) ?_; intro A10 c10 w10 o10 g10; have S10 := Lib.hid ((S9.out.alloc _).app (x := ⟨k9, a9, b9, c9⟩) o10 g10); have ⟨y0, y1, y2, y3⟩ := S10.out.cells; have ⟨z0, z1, z2, z3⟩ := S10.out.res)
      go_region
      all_goals go_wp2_with fail
      all_goals exact bodyPost_ret (v := .tuple #[.slice A10 (q + 1) c10, .agg #[.int .i64 N, .slice A m c]]) (by simp [results, Try.results95, go_sem, z0, z1]) rfl (retW S10.out (by omega)).drew
  · go_wp2_with fail
    refine (s_l36Bent g _ S6.out.2.2.2.2.1).mono ?_
    rintro e w7 ⟨N7, A7, m7, c7, p7, rfl, hl7, hm7, _, o7, hc, gg⟩
    have S7 := Lib.hid (S6.out.draw hc gg)
    have ST := Lib.hid (S7.out.graph (N' := N7) (ownsRow_base o7 S6.out.2.2.2.2.2.1.size) hl7 hm7)
    obtain ⟨u0, u1, u2, u3⟩ := S7.out.cells
    clear o7 hc gg
    go_wp2_with fail
    refine (s_l1Once g 12 _ ST.out.2.2.2.2.1 (by omega)).mono ?_
    rintro e w8 ⟨b8, rfl, hc, gg⟩
    have S8 := Lib.hid (ST.out.draw hc gg)
    obtain ⟨x0, x1, x2, x3⟩ := S8.out.cells
    obtain ⟨r0, r1, r2, r3⟩ := S8.out.res
    clear hc gg
    cases b8
    · go_wp2_with fail
      go_region
      all_goals go_wp2_with fail
      all_goals exact bodyPost_ret (v := .tuple #[.slice A5 q d, .agg #[.int .i64 N7, .slice A7 m7 c7]]) (by simp [results, Try.results95, go_sem, r0, r1]) rfl (retW S8.out (by omega)).drew
    · go_wp2_with fail
      refine (s_l9Bent g n _ S8.out.2.2.2.2.1 hn1 hn4).mono ?_
      rintro e w9 ⟨k9, a9, b9, c9, rfl, _, hc, gg⟩
      have S9 := Lib.hid (S8.out.draw hc gg)
      have hs9 := S9.out.2.2.2.2.2.1.size
      clear hc gg
      go_wp2_with (at_builtin; refine wpList_app rfl (.tmp 27) (.tmp 31) 24 rfl Try.underlying24 infoGate rfl (by decide) rfl (S9.out.2.2.2.1.alloc _) rfl (Rd.lit w9 63 #[.int .i64 k9, .int .i64 a9, .int .i64 b9, .int .i64 c9] 1 4 rfl) (by simp [Value.oneCell']) (by omega) (by decide) (by simp <;> omega) ?_; intro A10 c10 w10 o10 g10; have S10 := Lib.hid ((S9.out.alloc _).app (x := ⟨k9, a9, b9, c9⟩) o10 g10); have ⟨y0, y1, y2, y3⟩ := S10.out.cells; have ⟨z0, z1, z2, z3⟩ := S10.out.res)
      go_region
      all_goals go_wp2_with fail
      all_goals exact bodyPost_ret (v := .tuple #[.slice A10 (q + 1) c10, .agg #[.int .i64 N7, .slice A7 m7 c7]]) (by simp [results, Try.results95, go_sem, z0, z1]) rfl (retW S10.out (by omega)).drew
/-- What l37Args comes to is read off: gates and a graph beside a new cursor. -/
def RetGG (w : World) (e : Ending) (w' : World) : Prop :=
  ∃ (G : Option Addr) (q d : Nat) (gs : List Gt) (N : Int) (A : Option Addr) (m c : Nat) (ps : List (Int × Int)), e = .returned (.tuple #[.slice G q d, .agg #[.int .i64 N, .slice A m c]]) ∧ gs.length = q ∧ q ≤ 91 ∧ ps.length = m ∧ m ≤ 17 ∧
    w'.ownsRow w.heap.size 63 4 (.slice G q d) q (cellsG gs) ∧ w'.ownsRow w.heap.size 103 2 (.slice A m c) m (cellsP ps) ∧ Below w.heap.size w w'
set_option maxRecDepth 100000 in
set_option maxHeartbeats 1600000 in
theorem s_DrawChoose (A : Option Addr) (n cap : Nat) (zs : List Int) (w : World) (h : RdB w A n zs) (hz : ∀ z ∈ zs, 0 ≤ z ∧ z ≤ 255) (hn : n ≤ 1048576) :
    Calls Try.prog 36 #[.slice A n cap] w (RetGG w) := by
  have H := Lib.hid (show RdB (w.alloc (.cells #[.int .i64 0, .slice none 0 0] 41)) A n zs from ⟨h.1, h.2.alloc _⟩)
  have HZ := Lib.hid hz
  have R0 := Lib.hid (Bx.new w 41 #[.int .i64 0, .slice none 0 0])
  clear h hz
  go_enter Try.func36, Try.ntmps36
  go_wp2_with fail
  refine (s_l1New _ _ _ _ _ H.out HZ.out hn).mono ?_
  rintro e w1 ⟨g, rfl, hc1, hg, b1⟩
  have hg1 : w.heap.size + 1 ≤ g := by simpa using hg
  go_wp2_with fail
  refine (s_l37Args g 5 _ hc1 (by omega)).mono ?_
  rintro e w2 ⟨G, q, d, gs, N, B, m, c, ps, rfl, hl, hq, hl2, hm, og, oe, hc2, g2⟩
  have B1 := below_alloc b1
  have hs1 := B1.size
  have R2 := Lib.hid (dr_bx g2 (R0.out.below b1) (show w.heap.size ≠ g by omega))
  have bw := Lib.hid (show Below w.heap.size w w2 from B1.trans (below_of_grown g2 hs1 (fun k hk => (by injection hk with hk; omega))))
  have OG := Lib.hid (ownsRow_base og hs1)
  have OE := Lib.hid (ownsRow_base oe hs1)
  clear og oe hc1 hc2 g2 B1 b1 R0
  obtain ⟨q0, q1, f0, f1⟩ := R2.out.two
  have l4 := R2.out.lt
  go_wp2_with fail
  exact bodyPost_ret (v := .tuple #[.slice G q d, .agg #[.int .i64 N, .slice B m c]]) (by simp [results, Try.results36, go_sem, q0, q1]) rfl ⟨G, q, d, gs, N, B, m, c, ps, rfl, hl, by omega, hl2, hm, own_set2 OG.out (own_bx_ne OG.out R2.out (by decide)), own_set2 OE.out (own_bx_ne OE.out R2.out (by decide)), (bw.out.setCell (Nat.le_refl _) _).setCell (Nat.le_refl _) _⟩

/-- A store into a graph's box leaves the cursor. -/
theorem Cur.far {w : World} {g R : Nat} {N : Int} {A : Option Addr} {m c : Nat} (h : Cur w g) (hb : Bx w R 41 #[.int .i64 N, .slice A m c]) (hne : R ≠ g) (i : Nat) (u : Value) : Cur (w.setCell ⟨R, i, none⟩ u) g := by
  obtain ⟨B, n, c', j, hh, zs, h1, h2, h3, h4, h5, h6, h7⟩ := h
  refine ⟨B, n, c', j, hh, zs, h1.far (fun e => hne e.symm) _, ⟨h2.1, Rd.setCell0 h2.2 _ fun hn b off e he => ?_⟩, h3, h4, h5, h6, h7⟩
  obtain ⟨b', off', x, e', _, _, c0⟩ := h2.at_ hn
  rw [e] at e'
  injection e' with e'
  injection e' with e1 e2
  subst e1 e2
  change b = R at he
  subst he
  rw [hb.cell] at c0
  match off, c0 with
  | 0, c0 => simp at c0
  | 1, c0 => simp at c0
  | k + 2, c0 => simp at c0
/-- The result's box, the graph's box, edges, gates, the cursor, all made by the call. -/
def LSt (w : World) (R E g : Nat) (r0 : Int) (rA : Option Addr) (rm rc : Nat) (N : Int) (A : Option Addr) (m c : Nat) (ps : List (Int × Int)) (G : Option Addr) (q d : Nat) (gs : List Gt) (wr : World) : Prop :=
  Bx wr R 41 #[.int .i64 r0, .slice rA rm rc] ∧ Bx wr E 41 #[.int .i64 N, .slice A m c] ∧ wr.ownsRow w.heap.size 103 2 (.slice A m c) m (cellsP ps) ∧ wr.ownsRow w.heap.size 63 4 (.slice G q d) q (cellsG gs) ∧ Cur wr g ∧ Below w.heap.size w wr ∧ (w.heap.size ≤ R ∧ w.heap.size ≤ E ∧ w.heap.size ≤ g ∧ R ≠ g ∧ E ≠ g ∧ R ≠ E)
section
variable {w : World} {R E g : Nat} {r0 : Int} {rA : Option Addr} {rm rc : Nat} {N : Int} {A : Option Addr} {m c : Nat} {ps : List (Int × Int)} {G : Option Addr} {q d : Nat} {gs : List Gt} {wr w' : World}
theorem LSt.draw (h : LSt w R E g r0 rA rm rc N A m c ps G q d gs wr) (hc : Cur w' g) (gg : wr.grownBy w' (some g)) : LSt w R E g r0 rA rm rc N A m c ps G q d gs w' := by
  obtain ⟨h1, h2, h3, h4, h5, h6, h7, h8, h9, h10, h11, h12⟩ := h
  exact ⟨dr_bx gg h1 h10, dr_bx gg h2 h11, dr_own gg h5 h3 (by decide), dr_own gg h5 h4 (by decide), hc, h6.trans (below_of_grown gg h6.size (fun k hk => (by injection hk with hk; omega))), h7, h8, h9, h10, h11, h12⟩
theorem LSt.drew (h : LSt w R E g r0 rA rm rc N A m c ps G q d gs wr) : LSt w R E g r0 rA rm rc N A m c ps G q d gs wr.drew := by
  obtain ⟨h1, h2, h3, h4, h5, h6, h7⟩ := h
  exact ⟨h1.drew, h2.drew, ownsRow_drew h3, ownsRow_drew h4, h5.below (Below.refl _ _).drew, h6.drew, h7⟩
theorem LSt.store (h : LSt w R E g r0 rA rm rc N A m c ps G q d gs wr) (r0' : Int) (rA' : Option Addr) (rm' rc' : Nat) : LSt w R E g r0' rA' rm' rc' N A m c ps G q d gs ((wr.setCell ⟨R, 0, none⟩ (.int .i64 r0')).setCell ⟨R, 1, none⟩ (.slice rA' rm' rc')) := by
  obtain ⟨h1, h2, h3, h4, h5, h6, h7, h8, h9, h10, h11, h12⟩ := h
  exact ⟨(h1.set_ 0 _).set_ 1 _, (h2.far (fun e => h12 e.symm) _).far (fun e => h12 e.symm) _, own_set2 h3 (own_bx_ne h3 h1 (by decide)), own_set2 h4 (own_bx_ne h4 h1 (by decide)), (h5.far h1 h10 0 _).far (h1.set_ 0 _) h10 1 _, (h6.setCell h7 _).setCell h7 _, h7, h8, h9, h10, h11, h12⟩
theorem LSt.cells (h : LSt w R E g r0 rA rm rc N A m c ps G q d gs wr) : wr.cell? ⟨E, 0, none⟩ = some (.int .i64 N) ∧ wr.cell? ⟨E, 1, none⟩ = some (.slice A m c) := ⟨h.2.1.cell 0, h.2.1.cell 1⟩
theorem LSt.res (h : LSt w R E g r0 rA rm rc N A m c ps G q d gs wr) : wr.cell? ⟨R, 0, none⟩ = some (.int .i64 r0) ∧ wr.cell? ⟨R, 1, none⟩ = some (.slice rA rm rc) ∧ wr.frozen? ⟨R, 0, none⟩ = false ∧ wr.frozen? ⟨R, 1, none⟩ = false := h.1.two
end
/-- Gates, a graph and a layout, drawn. -/
def RetLC (w : World) (e : Ending) (w' : World) : Prop :=
  ∃ (G : Option Addr) (q d : Nat) (gs : List Gt) (N : Int) (A : Option Addr) (m c : Nat) (ps : List (Int × Int)) (Z : Option Addr) (nz cz : Nat) (zs : List Int), e = .returned (.tuple #[.slice G q d, .agg #[.int .i64 N, .slice A m c], .slice Z nz cz]) ∧ gs.length = q ∧ q ≤ 91 ∧ ps.length = m ∧ m ≤ 17 ∧ zs.length = nz ∧ nz ≤ 5 ∧
    w'.ownsRow w.heap.size 63 4 (.slice G q d) q (cellsG gs) ∧ w'.ownsRow w.heap.size 103 2 (.slice A m c) m (cellsP ps) ∧ w'.ownsRow w.heap.size 3 1 (.slice Z nz cz) nz (cellsI zs) ∧ Below w.heap.size w w'
/-- What the drawn region leaves: the result's box stored, a layout of the call's own. -/
def DoneL (w : World) (R E g : Nat) (N : Int) (A : Option Addr) (m c : Nat) (ps : List (Int × Int)) (G : Option Addr) (q d : Nat) (gs : List Gt) (v : Value) (wx : World) : Prop :=
  ∃ (Z : Option Addr) (nz cz : Nat) (zs : List Int), v = .slice Z nz cz ∧ zs.length = nz ∧ nz ≤ 5 ∧ wx.ownsRow w.heap.size 3 1 (.slice Z nz cz) nz (cellsI zs) ∧ LSt w R E g N A m c N A m c ps G q d gs wx
set_option maxRecDepth 100000 in
set_option maxHeartbeats 3200000 in
theorem s_DrawLC (A : Option Addr) (n cap : Nat) (zs : List Int) (w : World) (h : RdB w A n zs) (hz : ∀ z ∈ zs, 0 ≤ z ∧ z ≤ 255) (hn : n ≤ 1048576) :
    Calls Try.prog 104 #[.slice A n cap] w (RetLC w) := by
  have H := Lib.hid (show RdB (w.alloc (.cells #[.int .i64 0, .slice none 0 0] 41)) A n zs from ⟨h.1, h.2.alloc _⟩)
  have HZ := Lib.hid hz
  have R0 := Lib.hid (Bx.new w 41 #[.int .i64 0, .slice none 0 0])
  clear h hz
  go_enter Try.func104, Try.ntmps104
  go_wp2_with fail
  refine (s_l1New _ _ _ _ _ H.out HZ.out hn).mono ?_
  rintro e w1 ⟨g, rfl, hc1, hg, b1⟩
  have hg1 : w.heap.size + 1 ≤ g := by simpa using hg
  go_wp2_with fail
  refine (s_l37Args g 6 _ hc1 (by omega)).mono ?_
  rintro e w2 ⟨G, q, d, gs, N, B, m, c, ps, rfl, hl, hq, hl2, hm, og, oe, hc2, g2⟩
  have B1 := below_alloc b1
  have hs1 := B1.size
  have hgw := hc2.lt
  have hR2 := dr_bx g2 (R0.out.below b1) (show w.heap.size ≠ g by omega)
  have S2 := Lib.hid (show LSt w w.heap.size w2.heap.size g 0 none 0 0 N B m c ps G q d gs (w2.alloc (.cells #[.int .i64 N, .slice B m c] 41)) from
    ⟨hR2.alloc _, Bx.new w2 _ _, (ownsRow_base oe hs1).alloc _, (ownsRow_base og hs1).alloc _, cur_alloc hc2 _, (B1.trans (below_of_grown g2 hs1 (fun k hk => (by injection hk with hk; omega)))).alloc (by have := hR2.lt; omega) _, Nat.le_refl _, by have := hR2.lt; omega, by omega, by omega, by omega, by have := hR2.lt; omega⟩)
  have hRlt := hR2.lt
  clear og oe hc1 hc2 g2 B1 b1 R0 hR2 hgw hs1 hg
  obtain ⟨x0, x1⟩ := S2.out.cells
  obtain ⟨K, hK⟩ : ∃ K, inB N 1 4 = K := ⟨_, rfl⟩
  have HK := Lib.hid hK
  go_wp2_with fail
  refine (s_in _ _ _ _).mono ?_
  rintro e w3 ⟨rfl, rfl⟩
  rw [HK.out]
  cases K
  · go_wp2_with fail
    go_upto_region 5 with fail
    go_cut [2, 4] (fun v2 v4 wx => v2 = .slice G q d ∧ DoneL w w.heap.size w2.heap.size g N B m c ps G q d gs v4 wx)
    case first =>
      have L0 := Lib.hid (S2.out.drew)
      have L1 := Lib.hid (L0.out.store N B m c)
      have CL0 := Lib.hid L0.out.2.2.2.2.1
      have CL1 := Lib.hid L1.out.2.2.2.2.1
      obtain ⟨y0, y1, y2, y3⟩ := L0.out.res
      obtain ⟨z0, z1⟩ := L0.out.cells
      go_region_law (first
        | (go_simp; go_at_call 161; (with_reducible refine (s_l8Bent g _ CL1.out).mono ?_); rintro e w5 ⟨Z, nz, cz, zs, rfl, hz1, ⟨hz2, _⟩, oz, hc5, g5⟩; have M1 := L1.out.draw hc5 g5; have O1 := ownsRow_base oz L1.out.2.2.2.2.2.1.size)
        | (go_simp; go_at_call 161; (with_reducible refine (s_l8Bent g _ CL0.out).mono ?_); rintro e w5 ⟨Z, nz, cz, zs, rfl, hz1, ⟨hz2, _⟩, oz, hc5, g5⟩; have M0 := L0.out.draw hc5 g5; have O0 := ownsRow_base oz L0.out.2.2.2.2.2.1.size; have ⟨u0, u1, u2, u3⟩ := M0.res; have ⟨v0, v1⟩ := M0.cells)
        | fail)
      all_goals go_wp2_with fail
      all_goals go_meet
      all_goals first
        | exact ⟨rfl, Z, nz, cz, zs, rfl, hz1, by omega, O1, M1⟩
        | exact ⟨rfl, Z, nz, cz, zs, rfl, hz1, by omega, own_set2 O0 (own_bx_ne O0 M0.1 (by decide)), M0.store N B m c⟩
    case rest =>
      obtain ⟨rfl, Z, nz, cz, zs, rfl, hz1, hz5, oz, hL⟩ := hcut
      have HL5 := Lib.hid hL
      have OZ := Lib.hid oz
      clear oz hL
      obtain ⟨r0, r1, r2, r3⟩ := HL5.out.res
      go_wp2_with fail
      exact bodyPost_ret (v := .tuple #[.slice G q d, .agg #[.int .i64 N, .slice B m c], .slice Z nz cz]) (by simp [results, Try.results104, go_sem, r0, r1]) rfl ⟨G, q, d, gs, N, B, m, c, ps, Z, nz, cz, zs, rfl, hl, by omega, hl2, hm, hz1, hz5, HL5.out.2.2.2.1, HL5.out.2.2.1, OZ.out, HL5.out.2.2.2.2.2.1⟩
  · go_wp2_with fail
    refine (s_l1Once g 8 _ S2.out.2.2.2.2.1 (by omega)).mono ?_
    rintro e w4 ⟨b4, rfl, hc, gg⟩
    have S4 := Lib.hid (S2.out.draw hc gg)
    clear hc gg x0 x1
    have hNb : 1 ≤ N ∧ N ≤ 4 := by
      rcases inB_casesQ N 1 4 with ⟨_, h1⟩ | ⟨h1, _⟩
      · exact h1
      · rw [HK.out] at h1; cases h1
    clear hK HK
    obtain ⟨Nn, rfl⟩ : ∃ Nn : Nat, N = Nn := ⟨N.toNat, by omega⟩
    cases b4
    · go_wp2_with fail
      go_upto_region 4 with fail
      go_cut [2, 4] (fun v2 v4 wx => v2 = .slice G q d ∧ DoneL w w.heap.size w2.heap.size g Nn B m c ps G q d gs v4 wx)
      case first =>
        have L0 := Lib.hid (S4.out.drew)
        have L1 := Lib.hid (L0.out.store Nn B m c)
        have CL0 := Lib.hid L0.out.2.2.2.2.1
        have CL1 := Lib.hid L1.out.2.2.2.2.1
        obtain ⟨y0, y1, y2, y3⟩ := L0.out.res
        obtain ⟨z0, z1⟩ := L0.out.cells
        go_region_law (first
          | (go_simp; go_at_call 122; (with_reducible refine (s_l8Perm g Nn _ CL1.out (by omega) (by omega)).mono ?_); rintro e w5 ⟨Z, nz, cz, zs, rfl, hz1, ⟨hz2, _⟩, oz, hc5, g5⟩; have M1 := L1.out.draw hc5 g5; have O1 := ownsRow_base oz L1.out.2.2.2.2.2.1.size)
          | (go_simp; go_at_call 122; (with_reducible refine (s_l8Perm g Nn _ CL0.out (by omega) (by omega)).mono ?_); rintro e w5 ⟨Z, nz, cz, zs, rfl, hz1, ⟨hz2, _⟩, oz, hc5, g5⟩; have M0 := L0.out.draw hc5 g5; have O0 := ownsRow_base oz L0.out.2.2.2.2.2.1.size; have ⟨u0, u1, u2, u3⟩ := M0.res; have ⟨v0, v1⟩ := M0.cells)
          | fail)
        all_goals go_wp2_with fail
        all_goals go_meet
        all_goals first
          | exact ⟨rfl, Z, nz, cz, zs, rfl, hz1, by omega, O1, M1⟩
          | exact ⟨rfl, Z, nz, cz, zs, rfl, hz1, by omega, own_set2 O0 (own_bx_ne O0 M0.1 (by decide)), M0.store Nn B m c⟩
      case rest =>
        obtain ⟨rfl, Z, nz, cz, zs, rfl, hz1, hz5, oz, hL⟩ := hcut
        have HL5 := Lib.hid hL
        have OZ := Lib.hid oz
        clear oz hL
        obtain ⟨r0, r1, r2, r3⟩ := HL5.out.res
        go_wp2_with fail
        exact bodyPost_ret (v := .tuple #[.slice G q d, .agg #[.int .i64 Nn, .slice B m c], .slice Z nz cz]) (by simp [results, Try.results104, go_sem, r0, r1]) rfl ⟨G, q, d, gs, (Nn : Int), B, m, c, ps, Z, nz, cz, zs, rfl, hl, by omega, hl2, hm, hz1, hz5, HL5.out.2.2.2.1, HL5.out.2.2.1, OZ.out, HL5.out.2.2.2.2.2.1⟩
    · go_wp2_with fail
      go_upto_region 5 with fail
      go_cut [2, 4] (fun v2 v4 wx => v2 = .slice G q d ∧ DoneL w w.heap.size w2.heap.size g Nn B m c ps G q d gs v4 wx)
      case first =>
        have L0 := Lib.hid (S4.out.drew)
        have L1 := Lib.hid (L0.out.store Nn B m c)
        have CL0 := Lib.hid L0.out.2.2.2.2.1
        have CL1 := Lib.hid L1.out.2.2.2.2.1
        obtain ⟨y0, y1, y2, y3⟩ := L0.out.res
        obtain ⟨z0, z1⟩ := L0.out.cells
        go_region_law (first
          | (go_simp; go_at_call 161; (with_reducible refine (s_l8Bent g _ CL1.out).mono ?_); rintro e w5 ⟨Z, nz, cz, zs, rfl, hz1, ⟨hz2, _⟩, oz, hc5, g5⟩; have M1 := L1.out.draw hc5 g5; have O1 := ownsRow_base oz L1.out.2.2.2.2.2.1.size)
          | (go_simp; go_at_call 161; (with_reducible refine (s_l8Bent g _ CL0.out).mono ?_); rintro e w5 ⟨Z, nz, cz, zs, rfl, hz1, ⟨hz2, _⟩, oz, hc5, g5⟩; have M0 := L0.out.draw hc5 g5; have O0 := ownsRow_base oz L0.out.2.2.2.2.2.1.size; have ⟨u0, u1, u2, u3⟩ := M0.res; have ⟨v0, v1⟩ := M0.cells)
          | fail)
        all_goals go_wp2_with fail
        all_goals go_meet
        all_goals first
          | exact ⟨rfl, Z, nz, cz, zs, rfl, hz1, by omega, O1, M1⟩
          | exact ⟨rfl, Z, nz, cz, zs, rfl, hz1, by omega, own_set2 O0 (own_bx_ne O0 M0.1 (by decide)), M0.store Nn B m c⟩
      case rest =>
        obtain ⟨rfl, Z, nz, cz, zs, rfl, hz1, hz5, oz, hL⟩ := hcut
        have HL5 := Lib.hid hL
        have OZ := Lib.hid oz
        clear oz hL
        obtain ⟨r0, r1, r2, r3⟩ := HL5.out.res
        go_wp2_with fail
        exact bodyPost_ret (v := .tuple #[.slice G q d, .agg #[.int .i64 Nn, .slice B m c], .slice Z nz cz]) (by simp [results, Try.results104, go_sem, r0, r1]) rfl ⟨G, q, d, gs, (Nn : Int), B, m, c, ps, Z, nz, cz, zs, rfl, hl, by omega, hl2, hm, hz1, hz5, HL5.out.2.2.2.1, HL5.out.2.2.1, OZ.out, HL5.out.2.2.2.2.2.1⟩
set_option maxHeartbeats 1600000 in
theorem s_DrawRG (A : Option Addr) (n cap : Nat) (zs : List Int) (w : World) (h : RdB w A n zs) (hz : ∀ z ∈ zs, 0 ≤ z ∧ z ≤ 255) (hn : n ≤ 1048576) :
    Calls Try.prog 43 #[.slice A n cap] w (RetLC w) := by
  have H := Lib.hid (show RdB (w.alloc (.cells #[.int .i64 0, .slice none 0 0] 41)) A n zs from ⟨h.1, h.2.alloc _⟩)
  have HZ := Lib.hid hz
  have R0 := Lib.hid (Bx.new w 41 #[.int .i64 0, .slice none 0 0])
  clear h hz
  go_enter Try.func43, Try.ntmps43
  go_wp2_with fail
  refine (s_DrawLC _ _ _ _ _ H.out HZ.out hn).mono ?_
  rintro e w2 ⟨G, q, d, gs, N, B, m, c, ps, Z, nz, cz, ys, rfl, hl, hq, hl2, hm, hlz, hnz, og, oe, oz, b2⟩
  have B1 := below_alloc b2
  have hsw : w.heap.size ≤ (w.alloc (.cells #[.int .i64 0, .slice none 0 0] 41)).heap.size := by simp
  have R2 := Lib.hid (R0.out.below b2)
  have OG := Lib.hid (ownsRow_base og hsw)
  have OE := Lib.hid (ownsRow_base oe hsw)
  have OZ := Lib.hid (ownsRow_base oz hsw)
  have bw := Lib.hid B1
  clear og oe oz B1 b2 R0 hsw
  obtain ⟨q0, q1, f0, f1⟩ := R2.out.two
  have l4 := R2.out.lt
  go_wp2_with fail
  exact bodyPost_ret (v := .tuple #[.slice G q d, .agg #[.int .i64 N, .slice B m c], .slice Z nz cz]) (by simp [results, Try.results43, go_sem, q0, q1]) rfl ⟨G, q, d, gs, N, B, m, c, ps, Z, nz, cz, ys, rfl, hl, hq, hl2, hm, hlz, hnz, own_set2 OG.out (own_bx_ne OG.out R2.out (by decide)), own_set2 OE.out (own_bx_ne OE.out R2.out (by decide)), own_set2 OZ.out (own_bx_ne OZ.out R2.out (by decide)), (bw.out.setCell (Nat.le_refl _) _).setCell (Nat.le_refl _) _⟩
end Go.Proofs.YtgnallcfahpjmaaR
