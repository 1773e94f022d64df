/- Contract of ComputePhasePolynomial (spec). At most 2^36 gates. -/
import Derived.Test.YtgnallcfahpjmaaRPolyK
import Derived.Deep.RegionHeld3
namespace Go.Proofs.YtgnallcfahpjmaaR
open Go.RowKit

def compS : Po → List Gt → Po × Bool
  | p, [] => (p, decide (p.N > 0))
  | p, g :: r => if (applyP p g).2 = true then compS (applyP p g).1 r else (Po.zero, false)
theorem cs4 {w' : World} {g g1 i : Nat} {u a b c d : Value} (h : w'.cell? ⟨g, i, none⟩ = some u) (hg : g ≠ g1) : ((((w'.setCell ⟨g1, 0, none⟩ a).setCell ⟨g1, 1, none⟩ b).setCell ⟨g1, 2, none⟩ c).setCell ⟨g1, 3, none⟩ d).cell? ⟨g, i, none⟩ = some u := by
  have e : ((((w'.setCell ⟨g1, 0, none⟩ a).setCell ⟨g1, 1, none⟩ b).setCell ⟨g1, 2, none⟩ c).setCell ⟨g1, 3, none⟩ d).heap[g]? = w'.heap[g]? :=
    ((((Below.heap_setCell _ ⟨g1, 3, none⟩ d g hg).trans (Below.heap_setCell _ ⟨g1, 2, none⟩ c g hg)).trans (Below.heap_setCell _ ⟨g1, 1, none⟩ b g hg)).trans (Below.heap_setCell _ ⟨g1, 0, none⟩ a g hg))
  exact (World.cell?_of_block (a := ⟨g, i, none⟩) e).trans h
theorem drew_cell (w : World) (a : Addr) : w.drew.cell? a = w.cell? a := rfl
theorem cs4d {w' : World} {g g1 i : Nat} {u a b c d : Value} (h : w'.cell? ⟨g, i, none⟩ = some u) (hg : g ≠ g1) : ((((w'.setCell ⟨g1, 0, none⟩ a).setCell ⟨g1, 1, none⟩ b).setCell ⟨g1, 2, none⟩ c).setCell ⟨g1, 3, none⟩ d).drew.cell? ⟨g, i, none⟩ = some u := (drew_cell _ _).trans (cs4 h hg)
theorem compS_go {p : Po} {g : Gt} {r : List Gt} (h : (applyP p g).2 = true) : compS p (g :: r) = compS (applyP p g).1 r := by rw [compS, if_pos h]
theorem compS_no {p : Po} {g : Gt} {r : List Gt} (h : (applyP p g).2 = false) : compS p (g :: r) = (Po.zero, false) := by rw [compS, if_neg (by rw [h]; simp)]
theorem compS_L : ∀ (gs : List Gt) (p : Po), 0 < p.N → compS p gs = compL p gs
  | [], p, h => by rw [compS, compL, decide_eq_true (show p.N > 0 from h)]
  | g :: r, p, h => by
    cases h1 : (applyP p g).2
    · rw [compS_no h1, compL_no h1]
    · rw [compS_go h1, compL_go h1]
      exact compS_L r _ (by rw [(applyP_bd p g).2.2 h1]; exact h)
theorem compS_P (gs : List Gt) (N : Int) : compS (idP N) gs = compP gs N := by
  unfold compP
  cases hin : inB N 1 4
  · rw [if_neg (by simp)]
    have e : idP N = Po.zero := by unfold idP; rw [hin]; rfl
    rw [e]
    cases gs with
    | nil => rfl
    | cons g r =>
      rw [compS_no]
      have : okP Po.zero g = false := by
        unfold okP okG
        rw [show inB Po.zero.N 1 4 = false from rfl]
        rfl
      rw [applyP_no this]
  · rw [if_pos (by rfl)]
    have e : idP N = ⟨N, 0, [], idO N.toNat⟩ := by unfold idP; rw [hin]; rfl
    exact compS_L gs _ (by rw [e]; have := (inB_iff.1 hin).1; show 0 < N; omega)

set_option maxRecDepth 100000 in
set_option maxHeartbeats 3200000 in
theorem s_CompP (A : Option Addr) (n cap : Nat) (gs : List Gt) (N : Int) (w : World) (h : RdG w A n gs) (hn : n ≤ 68719476736) :
    Calls Try.prog 19 #[.slice A n cap, .int .i64 N] w (RetPB (compP gs N) w) := by
  have H := Lib.hid h
  have HL := Lib.hid h.1
  clear h
  have X0 := Lib.hid (Bx.new w 32 #[.int .i64 0, .int .i64 0, .slice none 0 0, .slice none 0 0])
  have BZ : Hid (Below w.heap.size w (w.alloc (.cells #[.int .i64 0, .int .i64 0, .slice none 0 0, .slice none 0 0] 32))) := Lib.hid ((Below.refl _ _).alloc (Nat.le_refl _) _)
  obtain ⟨R, hR⟩ : ∃ R, compP gs N = R := ⟨_, rfl⟩
  have HR := Lib.hid hR
  rw [hR]
  clear hR
  have HC : Hid (compS (idP N) gs = R) := Lib.hid (by rw [← HR.out]; exact compS_P gs N)
  have hid0 : (idP N).t.length = 0 ∧ (idP N).o.length ≤ 4 := by
    unfold idP
    split
    · exact ⟨rfl, by rw [idO_len]; have := inB_iff.1 ‹_›; omega⟩
    · exact ⟨rfl, by simp [Po.zero]⟩
  have HID := Lib.hid hid0
  clear hid0 HR
  go_enter Try.func19, Try.ntmps19
  go_wp2_with fail
  refine (s_IdP _ _).mono ?_
  rintro e w1 ⟨v, rfl, ⟨A1, c1, B1, d1, rfl, t1, o1⟩, b1⟩
  have X1 := Lib.hid ((X0.out.below b1).alloc (.cells #[.int .i64 (idP N).N, .int .i64 (idP N).H, .slice A1 (idP N).t.length c1, .slice B1 (idP N).o.length d1] 32))
  have XP := Lib.hid (Bx.new w1 32 #[.int .i64 (idP N).N, .int .i64 (idP N).H, .slice A1 (idP N).t.length c1, .slice B1 (idP N).o.length d1])
  have T1 := Lib.hid (ownsRow_base (t1.alloc (.cells #[.int .i64 (idP N).N, .int .i64 (idP N).H, .slice A1 (idP N).t.length c1, .slice B1 (idP N).o.length d1] 32)) (show w.heap.size + 1 ≤ _ by simp))
  have O1 := Lib.hid (ownsRow_base (o1.alloc (.cells #[.int .i64 (idP N).N, .int .i64 (idP N).H, .slice A1 (idP N).t.length c1, .slice B1 (idP N).o.length d1] 32)) (show w.heap.size + 1 ≤ _ by simp))
  have BB := Lib.hid ((below_trans BZ.out b1).alloc (below_trans BZ.out b1).size (.cells #[.int .i64 (idP N).N, .int .i64 (idP N).H, .slice A1 (idP N).t.length c1, .slice B1 (idP N).o.length d1] 32))
  have hs1 : w.heap.size < w1.heap.size := (X0.out.below b1).lt
  clear t1 o1 b1 X0 BZ
  generalize idP N = p0 at HC HID X1 XP T1 O1 BB ⊢
  go_wp2_with fail
  generalize hgp : w1.heap.size = gp at XP hs1 ⊢
  go_loopg [7] n (fun r i wr => ∃ (k : Nat) (p : Po) (A2 : Option Addr) (c2 : Nat) (B2 : Option Addr) (d2 : Nat), k + r = n ∧ i = .int .i64 k ∧ compS p (gs.drop k) = R ∧ p.t.length ≤ k ∧ p.o.length ≤ 4 ∧ Bx wr w.heap.size 32 #[.int .i64 0, .int .i64 0, .slice none 0 0, .slice none 0 0] ∧ Bx wr gp 32 #[.int .i64 p.N, .int .i64 p.H, .slice A2 p.t.length c2, .slice B2 p.o.length d2] ∧ wr.ownsRow (w.heap.size + 1) 36 2 (.slice A2 p.t.length c2) p.t.length (cellsP p.t) ∧ wr.ownsRow (w.heap.size + 1) 93 2 (.slice B2 p.o.length d2) p.o.length (cellsP p.o) ∧ Below w.heap.size w wr)
  case atStart => exact ⟨0, p0, A1, c1, B1, d1, by omega, rfl, HC.out, by have := HID.out.1; omega, HID.out.2, X1.out, XP.out, T1.out, O1.out, BB.out⟩
  case round =>
    clear X1 XP T1 O1 BB HC HID
    obtain ⟨k, p, A2, c2, B2, d2, hk, rfl, hq, htl, hol, hx0, hxp, ht, ho, hbw⟩ := hrel
    have HQ := Lib.hid hq
    have HX0 := Lib.hid hx0
    have HXP := Lib.hid hxp
    have HT := Lib.hid ht
    have HO := Lib.hid ho
    have HB := Lib.hid hbw
    have hbs := hbw.size
    have hcap := ownsRow_cap ht
    have hl0 := hx0.lt
    have hlp := hxp.lt
    clear hq hx0 hxp ht ho hbw
    obtain ⟨p0', p1, p2, p3, f0, f1, f2, f3⟩ := HXP.out.four
    by_cases hlt : k < n
    · obtain ⟨bb, off, g, rfl, hBb, hd, c0, c1', c2', c3⟩ := (H.out.below HB.out).at_ hlt
      have HD := Lib.hid hd
      have hkI : (k : Int) < (n : Int) := by omega
      have hk0 : (0 : Int) ≤ (k : Int) := by omega
      clear hd
      have GB := Lib.hid (Bx.new wr 63 #[.int .i64 g.k, .int .i64 g.a, .int .i64 g.b, .int .i64 g.c])
      have hcap' := hcap
      have hng : gp ≠ wr.heap.size := by omega
      have hnb : bb ≠ wr.heap.size := by omega
      go_wp2_with fail
      go_region_held3 (fun w' => w'.cell? ⟨gp, 0, none⟩ = some (.int .i64 p.N) ∧ w'.cell? ⟨gp, 1, none⟩ = some (.int .i64 p.H) ∧ w'.cell? ⟨gp, 2, none⟩ = some (.slice A2 p.t.length c2) ∧ w'.cell? ⟨gp, 3, none⟩ = some (.slice B2 p.o.length d2) ∧ w'.cell? ⟨bb, off + k * 4, none⟩ = some (.int .i64 g.k) ∧ w'.cell? ⟨bb, off + k * 4 + 1, none⟩ = some (.int .i64 g.a) ∧ w'.cell? ⟨bb, off + k * 4 + 2, none⟩ = some (.int .i64 g.b) ∧ w'.cell? ⟨bb, off + k * 4 + 3, none⟩ = some (.int .i64 g.c))
        (first | with_reducible exact ⟨s0, s1, s2, s3, y0, y1, y2, y3⟩ | with_reducible exact ⟨cs4 s0 hng, cs4 s1 hng, cs4 s2 hng, cs4 s3 hng, cs4 y0 hnb, cs4 y1 hnb, cs4 y2 hnb, cs4 y3 hnb⟩ | go_keep)
        (first
          | (go_at_call 83; (with_reducible refine (s_ApplyP p.N p.H A2 p.t.length c2 p.t B2 p.o.length d2 p.o g _ (RdP.drew (RdP.own HT.out)) (RdP.drew (RdP.own HO.out)) (by omega) (by omega) hcap').mono ?_); rintro e w5 ⟨v, rfl, ⟨A5, c5, B5, d5, rfl, t5, o5⟩, b5'⟩; have b5 := below_drew b5'; have ⟨s0, s1, s2, s3, _, _, _, _⟩ := (HXP.out.below b5).four; have y0 := (b5.cell (p := ⟨bb, off + k * 4, none⟩) hBb).trans c0; have y1 := (b5.cell (p := ⟨bb, off + k * 4 + 1, none⟩) hBb).trans c1'; have y2 := (b5.cell (p := ⟨bb, off + k * 4 + 2, none⟩) hBb).trans c2'; have y3 := (b5.cell (p := ⟨bb, off + k * 4 + 3, none⟩) hBb).trans c3; have ny0 := World.block_lt_of_cell? _ _ y0; have ns0 := World.block_lt_of_cell? _ _ s0)
          | (go_at_call 83; (with_reducible refine (s_ApplyP p.N p.H A2 p.t.length c2 p.t B2 p.o.length d2 p.o g _ (RdP.drew (RdP.own (HT.out.alloc _))) (RdP.drew (RdP.own (HO.out.alloc _))) (by omega) (by omega) hcap').mono ?_); rintro e w5 ⟨v, rfl, ⟨A5, c5, B5, d5, rfl, t5, o5⟩, b5'⟩; have b5 := below_alloc (below_drew b5'); have ⟨s0, s1, s2, s3, _, _, _, _⟩ := (HXP.out.below b5).four; have y0 := (b5.cell (p := ⟨bb, off + k * 4, none⟩) hBb).trans c0; have y1 := (b5.cell (p := ⟨bb, off + k * 4 + 1, none⟩) hBb).trans c1'; have y2 := (b5.cell (p := ⟨bb, off + k * 4 + 2, none⟩) hBb).trans c2'; have y3 := (b5.cell (p := ⟨bb, off + k * 4 + 3, none⟩) hBb).trans c3; have ny0 := World.block_lt_of_cell? _ _ y0; have ns0 := World.block_lt_of_cell? _ _ s0; have XB := (show Bx w5 wr.heap.size 32 #[.int .i64 0, .int .i64 0, .slice none 0 0, .slice none 0 0] from (Bx.new wr _ _).below (below_drew b5')); have ⟨v0, v1, v2, v3, z0, z1, z2, z3⟩ := XB.four)
          | fail)
      all_goals
        have hbd := applyP_bd p g
        obtain ⟨q, hq⟩ : ∃ q, applyP p g = q := ⟨_, rfl⟩
        rw [show applyP ⟨p.N, p.H, p.t, p.o⟩ g = q from hq] at t5 o5 ⊢
        rw [hq] at hbd
        have hb1 := hbd.1
        have hb2 := hbd.2.1
        clear hbd
        have HQQ := Lib.hid hq
        have X5 := Lib.hid (HX0.out.below b5)
        have XP5 := Lib.hid (HXP.out.below b5)
        have B5w := Lib.hid (below_trans HB.out b5)
        have hl05 := X5.out.lt
        have hlp5 := XP5.out.lt
        clear s0 s1 s2 s3 y0 y1 y2 y3
        obtain ⟨r0, r1, r2, r3, e0, e1, e2, e3⟩ := X5.out.four
        obtain ⟨s0, s1, s2, s3, g0, g1, g2, g3⟩ := XP5.out.four
        have T5 := Lib.hid (ownsRow_base t5 (show w.heap.size + 1 ≤ _ by first | (show w.heap.size + 1 ≤ wr.heap.size; omega) | (simp; omega)))
        have O5 := Lib.hid (ownsRow_base o5 (show w.heap.size + 1 ≤ _ by first | (show w.heap.size + 1 ≤ wr.heap.size; omega) | (simp; omega)))
        have hcap5 := ownsRow_cap t5
        clear t5 o5 b5 b5' hq p0' p1 p2 p3 f0 f1 f2 f3
        obtain ⟨⟨qN, qH, qt, qo⟩, qb⟩ := q
        dsimp only at *
      · cases qb
        · have HZ : Hid (R = (Po.zero, false)) := Lib.hid (by rw [← HQ.out, HD.out, compS_no (by rw [HQQ.out])])
          go_wp2_with fail
          refine bodyPost_ret (v := .tuple #[.agg #[.int .i64 0, .int .i64 0, .slice none 0 0, .slice none 0 0], .bool false]) (by simp [results, Try.results19, go_sem, r0, r1, r2, r3, hl05]) rfl ⟨_, by rw [HZ.out], by rw [HZ.out]; exact ⟨none, 0, none, 0, rfl, World.ownsRow_nil _ _ _ _, World.ownsRow_nil _ _ _ _⟩, ?_⟩
          exact below_al (below_set4 B5w.out (Nat.le_refl _))
        · go_wp2_with fail
          go_roundg (gk - 1)
          case measure => omega
          case rel =>
            exact ⟨k + 1, ⟨qN, qH, qt, qo⟩, A5, c5, B5, d5, by omega, by go_num, by rw [← HQ.out, HD.out, compS_go (by rw [HQQ.out]), HQQ.out], by show qt.length ≤ k + 1; omega, by show qo.length ≤ 4; omega, (set4K X5.out (by omega)).alloc _, ((((XP5.out.s0 _).s1 _).s2 _).s3 _).alloc _, (own_set_ne4 T5.out (own_bx_ne T5.out XP5.out (by decide))).alloc _, (own_set_ne4 O5.out (own_bx_ne O5.out XP5.out (by decide))).alloc _, below_al (below_set4 B5w.out (by omega))⟩
      · have hn1 : w.heap.size ≠ wr.heap.size := by omega
        have hn2 : wr.heap.size ≠ gp := by omega
        have hn3 : wr.heap.size ≠ w.heap.size := by omega
        have HXB := Lib.hid XB
        cases qb
        · have HZ : Hid (R = (Po.zero, false)) := Lib.hid (by rw [← HQ.out, HD.out, compS_no (by rw [HQQ.out])])
          go_wp2_with fail
          refine bodyPost_ret (v := .tuple #[.agg #[.int .i64 0, .int .i64 0, .slice none 0 0, .slice none 0 0], .bool false]) (by simp [results, Try.results19, go_sem, r0, r1, r2, r3]) rfl ⟨_, by rw [HZ.out], by rw [HZ.out]; exact ⟨none, 0, none, 0, rfl, World.ownsRow_nil _ _ _ _, World.ownsRow_nil _ _ _ _⟩, ?_⟩
          exact below_set4 (below_set4 B5w.out (by omega)) (Nat.le_refl _)
        · go_wp2_with fail
          go_roundg (gk - 1)
          case measure => omega
          case rel =>
            exact ⟨k + 1, ⟨qN, qH, qt, qo⟩, A5, c5, B5, d5, by omega, by go_num, by rw [← HQ.out, HD.out, compS_go (by rw [HQQ.out]), HQQ.out], by show qt.length ≤ k + 1; omega, by show qo.length ≤ 4; omega, set4K (set4K X5.out hn1) (by omega), (((((set4K XP5.out hng).s0 _).s1 _).s2 _).s3 _), own_set_ne4 (own_set_ne4 T5.out (own_bx_ne T5.out HXB.out (by decide))) (own_bx_ne T5.out XP5.out (by decide)), own_set_ne4 (own_set_ne4 O5.out (own_bx_ne O5.out HXB.out (by decide))) (own_bx_ne O5.out XP5.out (by decide)), below_set4 (below_set4 B5w.out (by omega)) (by omega)⟩
    · have hkn : k = n := by omega
      have HZ : Hid (R = (p, decide (p.N > 0))) := Lib.hid (by rw [← HQ.out, List.drop_eq_nil_of_le (by have := HL.out; omega)]; rfl)
      obtain ⟨r0, r1, r2, r3, e0, e1, e2, e3⟩ := HX0.out.four
      have hgn : gp ≠ w.heap.size := by omega
      by_cases hN : 0 < p.N
      · have hNd : decide (p.N > 0) = true := by simpa using hN
        have HND := Lib.hid hNd
        go_wp2_with fail
        go_region_held3 (fun w' => w'.cell? ⟨gp, 0, none⟩ = some (.int .i64 p.N) ∧ w'.cell? ⟨gp, 1, none⟩ = some (.int .i64 p.H) ∧ w'.cell? ⟨gp, 2, none⟩ = some (.slice A2 p.t.length c2) ∧ w'.cell? ⟨gp, 3, none⟩ = some (.slice B2 p.o.length d2))
          (first | with_reducible exact ⟨p0', p1, p2, p3⟩ | with_reducible exact ⟨cs4d p0' hgn, cs4d p1 hgn, cs4d p2 hgn, cs4d p3 hgn⟩ | go_keep)
          (fail)
        go_wp2_with fail
        refine bodyPost_ret (v := .tuple #[.agg #[.int .i64 p.N, .int .i64 p.H, .slice A2 p.t.length c2, .slice B2 p.o.length d2], .bool true]) (by simp [results, Try.results19, go_sem, r0, r1, r2, r3]) rfl ⟨_, by rw [HZ.out, HND.out], by rw [HZ.out]; exact ⟨A2, c2, B2, d2, rfl, ownsRow_base (ownsRow_drew (own_set4 HT.out (by omega))) (by omega), ownsRow_base (ownsRow_drew (own_set4 HO.out (by omega))) (by omega)⟩, ?_⟩
        exact Below.drew (below_set4 HB.out (Nat.le_refl _))
      · have hNd : decide (p.N > 0) = false := by simpa using hN
        have HND := Lib.hid hNd
        go_wp2_with fail
        go_region_held3 (fun w' => w'.cell? ⟨gp, 0, none⟩ = some (.int .i64 p.N) ∧ w'.cell? ⟨gp, 1, none⟩ = some (.int .i64 p.H) ∧ w'.cell? ⟨gp, 2, none⟩ = some (.slice A2 p.t.length c2) ∧ w'.cell? ⟨gp, 3, none⟩ = some (.slice B2 p.o.length d2))
          (first | with_reducible exact ⟨p0', p1, p2, p3⟩ | with_reducible exact ⟨cs4d p0' hgn, cs4d p1 hgn, cs4d p2 hgn, cs4d p3 hgn⟩ | go_keep)
          (fail)
        go_wp2_with fail
        refine bodyPost_ret (v := .tuple #[.agg #[.int .i64 p.N, .int .i64 p.H, .slice A2 p.t.length c2, .slice B2 p.o.length d2], .bool false]) (by simp [results, Try.results19, go_sem, r0, r1, r2, r3]) rfl ⟨_, by rw [HZ.out, HND.out], by rw [HZ.out]; exact ⟨A2, c2, B2, d2, rfl, ownsRow_base (ownsRow_drew (own_set4 HT.out (by omega))) (by omega), ownsRow_base (ownsRow_drew (own_set4 HO.out (by omega))) (by omega)⟩, ?_⟩
        exact Below.drew (below_set4 HB.out (Nat.le_refl _))
end Go.Proofs.YtgnallcfahpjmaaR
