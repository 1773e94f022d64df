/- Contract of ComputePhasePolynomial (spec). At most 2^36 gates. Contract of FoldPhases (impl). At most 2^20 gates. -/
import Derived.Test.YtmenmibfkojnoaaGreatQ47
import Derived.Test.YtmenmibfkojnoaaGreatQ04
import Derived.Test.YtmenmibfkojnoaaGreatQ29
import Derived.Deep.RegionHeld3
import Derived.Outline
import Derived.WideMake
set_option maxHeartbeats 16000000
namespace Go.Proofs.YtmenmibfkojnoaaGreat
open Go.RowKit
def compS : Po -> List Gt -> Po × Bool
 |p, [] => (p, decide (p.N > 0))
 |p, g :: r => if (applyP p g).2 = true then compS (applyP p g).1 r else (Po.zero, false)
theorem cs4 {w' : World} {g g1 i : Nat} {u a b c d : Value} (h : w'.cell? ⟨g, i, none⟩ = some u) (hg : g ≠ g1) : ((((w'.setCell ⟨g1, 0, none⟩ a).setCell ⟨g1, 1, none⟩ b).setCell ⟨g1, 2, none⟩ c).setCell ⟨g1, 3, none⟩ d).cell? ⟨g, i, none⟩ = some u := by
 have e : ((((w'.setCell ⟨g1, 0, none⟩ a).setCell ⟨g1, 1, none⟩ b).setCell ⟨g1, 2, none⟩ c).setCell ⟨g1, 3, none⟩ d).heap[g]? = w'.heap[g]? :=
  ((((Below.heap_setCell _ ⟨g1, 3, none⟩ d g hg).trans (Below.heap_setCell _ ⟨g1, 2, none⟩ c g hg)).trans (Below.heap_setCell _ ⟨g1, 1, none⟩ b g hg)).trans (Below.heap_setCell _ ⟨g1, 0, none⟩ a g hg))
 exact (World.cell?_of_block (a := ⟨g, i, none⟩) e).trans h
theorem drew_cell (w : World) (a : Addr) : w.drew.cell? a = w.cell? a := rfl
theorem cs4d {w' : World} {g g1 i : Nat} {u a b c d : Value} (h : w'.cell? ⟨g, i, none⟩ = some u) (hg : g ≠ g1) : ((((w'.setCell ⟨g1, 0, none⟩ a).setCell ⟨g1, 1, none⟩ b).setCell ⟨g1, 2, none⟩ c).setCell ⟨g1, 3, none⟩ d).drew.cell? ⟨g, i, none⟩ = some u := (drew_cell _ _).trans (cs4 h hg)
theorem compS_go {p : Po} {g : Gt} {r : List Gt} (h : (applyP p g).2 = true) : compS p (g :: r) = compS (applyP p g).1 r := by rw [compS, if_pos h]
theorem compS_no {p : Po} {g : Gt} {r : List Gt} (h : (applyP p g).2 = false) : compS p (g :: r) = (Po.zero, false) := by rw [compS, if_neg (by rw [h]; simp)]
theorem compS_L : ∀ (gs : List Gt) (p : Po), 0 < p.N -> compS p gs = compL p gs
 |[], p, h => by rw [compS, compL, decide_eq_true (show p.N > 0 from h)]
 |g :: r, p, h => by
  cases h1 : (applyP p g).2
  ·rw [compS_no h1, compL_no h1]
  ·rw [compS_go h1, compL_go h1]
   exact compS_L r _ (by rw [(applyP_bd p g).2.2 h1]; exact h)
theorem compS_P (gs : List Gt) (N : Int) : compS (idP N) gs = compP gs N := by
 unfold compP
 cases hin : inB N 1 4
 ·rw [if_neg (by simp)]
  have e : idP N = Po.zero := by unfold idP; rw [hin]; rfl
  rw [e]
  cases gs with
  |nil => rfl
  |cons g r =>
   rw [compS_no]
   have : okP Po.zero g = false := by
    unfold okP okG
    rw [show inB Po.zero.N 1 4 = false from rfl]
    rfl
   rw [applyP_no this]
 ·rw [if_pos (by rfl)]
  have e : idP N = ⟨N, 0, [], idO N.toNat⟩ := by unfold idP; rw [hin]; rfl
  exact compS_L gs _ (by rw [e]; have := (inB_iff.1 hin).1; show 0 < N; omega)
set_option maxRecDepth 100000 in
theorem s_CompP (A : Option Addr) (n cap : Nat) (gs : List Gt) (N : Int) (w : World) (h : RdG w A n gs) (hn : n <= 68719476736) :
  Calls Tryz.prog 99 #[.slice A n cap, .int .i64 N] w (RetPB (compP gs N) w) := by
 have H := zH h
 have HL := zH h.1
 clear h
 have X0 := zH (Bx.new w 88 #[.int .i64 0, .int .i64 0, .slice none 0 0, .slice none 0 0])
 have BZ : Hid (Below w.heap.size w (w.alloc (.cells #[.int .i64 0, .int .i64 0, .slice none 0 0, .slice none 0 0] 88))) := zH ((zW).alloc zR _)
 obtain ⟨R, hR⟩ : ∃ R, compP gs N = R := ⟨_, rfl⟩
 have HR := zH hR
 rw [hR]
 clear hR
 have HC : Hid (compS (idP N) gs = R) := zH (by rw [<- HR.out]; exact compS_P gs N)
 have hid0 : (idP N).t.length = 0 /\ (idP N).o.length <= 4 := by
  unfold idP
  split
  ·exact ⟨rfl, by rw [idO_len]; have := inB_iff.1 ‹_›; omega⟩
  ·exact ⟨rfl, by simp [Po.zero]⟩
 have HID := zH hid0
 clear hid0 HR
 go_enter Tryz.func99, Tryz.ntmps99
 go_wp2_with fail
 refine (s_IdP _ _).mono ?_
 rintro e w1 ⟨v, rfl, ⟨A1, c1, B1, d1, rfl, t1, o1⟩, b1⟩
 have X1 := zH ((X0.out.below b1).alloc (.cells #[.int .i64 (idP N).N, .int .i64 (idP N).H, .slice A1 (idP N).t.length c1, .slice B1 (idP N).o.length d1] 88))
 have XP := zH (Bx.new w1 88 #[.int .i64 (idP N).N, .int .i64 (idP N).H, .slice A1 (idP N).t.length c1, .slice B1 (idP N).o.length d1])
 have T1 := zH (ownsRow_base (t1.alloc (.cells #[.int .i64 (idP N).N, .int .i64 (idP N).H, .slice A1 (idP N).t.length c1, .slice B1 (idP N).o.length d1] 88)) (show w.heap.size + 1 <= _ by simp))
 have O1 := zH (ownsRow_base (o1.alloc (.cells #[.int .i64 (idP N).N, .int .i64 (idP N).H, .slice A1 (idP N).t.length c1, .slice B1 (idP N).o.length d1] 88)) (show w.heap.size + 1 <= _ by simp))
 have BB := zH ((below_trans BZ.out b1).alloc (below_trans BZ.out b1).size (.cells #[.int .i64 (idP N).N, .int .i64 (idP N).H, .slice A1 (idP N).t.length c1, .slice B1 (idP N).o.length d1] 88))
 have hs1 : w.heap.size < w1.heap.size := (X0.out.below b1).lt
 clear t1 o1 b1 X0 BZ
 generalize idP N = p0 at HC HID X1 XP T1 O1 BB ⊢
 go_wp2_with fail
 generalize hgp : w1.heap.size = gp at XP hs1 ⊢
 go_loopg [7] n (fun r i wr => ∃ (k : Nat) (p : Po) (A2 : Option Addr) (c2 : Nat) (B2 : Option Addr) (d2 : Nat), k + r = n /\ i = .int .i64 k /\ compS p (gs.drop k) = R /\ p.t.length <= k /\ p.o.length <= 4 /\ Bx wr w.heap.size 88 #[.int .i64 0, .int .i64 0, .slice none 0 0, .slice none 0 0] /\ Bx wr gp 88 #[.int .i64 p.N, .int .i64 p.H, .slice A2 p.t.length c2, .slice B2 p.o.length d2] /\ wr.ownsRow (w.heap.size + 1) 128 2 (.slice A2 p.t.length c2) p.t.length (cellsP p.t) /\ wr.ownsRow (w.heap.size + 1) 93 2 (.slice B2 p.o.length d2) p.o.length (cellsP p.o) /\ Below w.heap.size w wr)
 case atStart => exact ⟨0, p0, A1, c1, B1, d1, by omega, rfl, HC.out, by have := HID.out.1; omega, HID.out.2, X1.out, XP.out, T1.out, O1.out, BB.out⟩
 case round =>
  clear X1 XP T1 O1 BB HC HID
  obtain ⟨k, p, A2, c2, B2, d2, hk, rfl, hq, htl, hol, hx0, hxp, ht, ho, hbw⟩ := hrel
  have HQ := zH hq
  have HX0 := zH hx0
  have HXP := zH hxp
  have HT := zH ht
  have HO := zH ho
  have HB := zH hbw
  have hbs := hbw.size
  have hcap := ownsRow_cap ht
  have hl0 := hx0.lt
  have hlp := hxp.lt
  clear hq hx0 hxp ht ho hbw
  obtain ⟨p0', p1, p2, p3, f0, f1, f2, f3⟩ := HXP.out.four
  by_cases hlt : k < n
  ·obtain ⟨bb, off, g, rfl, hBb, hd, c0, c1', c2', c3⟩ := (H.out.below HB.out).at_ hlt
   have HD := zH hd
   have hkI : (k : Int) < (n : Int) := by omega
   have hk0 : (0 : Int) <= (k : Int) := by omega
   clear hd
   have GB := zH (Bx.new wr 39 #[.int .i64 g.k, .int .i64 g.a, .int .i64 g.b, .int .i64 g.c])
   have hcap' := hcap
   have hng : gp ≠ wr.heap.size := by omega
   have hnb : bb ≠ wr.heap.size := by omega
   go_wp2_with fail
   go_region_held3 (fun w' => w'.cell? ⟨gp, 0, none⟩ = some (.int .i64 p.N) /\ w'.cell? ⟨gp, 1, none⟩ = some (.int .i64 p.H) /\ w'.cell? ⟨gp, 2, none⟩ = some (.slice A2 p.t.length c2) /\ w'.cell? ⟨gp, 3, none⟩ = some (.slice B2 p.o.length d2) /\ w'.cell? ⟨bb, off + k * 4, none⟩ = some (.int .i64 g.k) /\ w'.cell? ⟨bb, off + k * 4 + 1, none⟩ = some (.int .i64 g.a) /\ w'.cell? ⟨bb, off + k * 4 + 2, none⟩ = some (.int .i64 g.b) /\ w'.cell? ⟨bb, off + k * 4 + 3, none⟩ = some (.int .i64 g.c))
    (first | with_reducible exact ⟨s0, s1, s2, s3, y0, y1, y2, y3⟩ | with_reducible exact ⟨cs4 s0 hng, cs4 s1 hng, cs4 s2 hng, cs4 s3 hng, cs4 y0 hnb, cs4 y1 hnb, cs4 y2 hnb, cs4 y3 hnb⟩ | go_keep)
    (first
     |(go_at_call 101; (with_reducible refine (s_ApplyP p.N p.H A2 p.t.length c2 p.t B2 p.o.length d2 p.o g _ (RdP.drew (RdP.own HT.out)) (RdP.drew (RdP.own HO.out)) (by omega) (by omega) hcap').mono ?_); rintro e w5 ⟨v, rfl, ⟨A5, c5, B5, d5, rfl, t5, o5⟩, b5'⟩; have b5 := below_drew b5'; have ⟨s0, s1, s2, s3, _, _, _, _⟩ := (HXP.out.below b5).four; have y0 := (b5.cell (p := ⟨bb, off + k * 4, none⟩) hBb).trans c0; have y1 := (b5.cell (p := ⟨bb, off + k * 4 + 1, none⟩) hBb).trans c1'; have y2 := (b5.cell (p := ⟨bb, off + k * 4 + 2, none⟩) hBb).trans c2'; have y3 := (b5.cell (p := ⟨bb, off + k * 4 + 3, none⟩) hBb).trans c3; have ny0 := World.block_lt_of_cell? _ _ y0; have ns0 := World.block_lt_of_cell? _ _ s0)
     |(go_at_call 101; (with_reducible refine (s_ApplyP p.N p.H A2 p.t.length c2 p.t B2 p.o.length d2 p.o g _ (RdP.drew (RdP.own (HT.out.alloc _))) (RdP.drew (RdP.own (HO.out.alloc _))) (by omega) (by omega) hcap').mono ?_); rintro e w5 ⟨v, rfl, ⟨A5, c5, B5, d5, rfl, t5, o5⟩, b5'⟩; have b5 := below_alloc (below_drew b5'); have ⟨s0, s1, s2, s3, _, _, _, _⟩ := (HXP.out.below b5).four; have y0 := (b5.cell (p := ⟨bb, off + k * 4, none⟩) hBb).trans c0; have y1 := (b5.cell (p := ⟨bb, off + k * 4 + 1, none⟩) hBb).trans c1'; have y2 := (b5.cell (p := ⟨bb, off + k * 4 + 2, none⟩) hBb).trans c2'; have y3 := (b5.cell (p := ⟨bb, off + k * 4 + 3, none⟩) hBb).trans c3; have ny0 := World.block_lt_of_cell? _ _ y0; have ns0 := World.block_lt_of_cell? _ _ s0; have XB := (show Bx w5 wr.heap.size 88 #[.int .i64 0, .int .i64 0, .slice none 0 0, .slice none 0 0] from (Bx.new wr _ _).below (below_drew b5')); have ⟨v0, v1, v2, v3, z0, z1, z2, z3⟩ := XB.four)
     |fail)
   all_goals
    have hbd := applyP_bd p g
    obtain ⟨q, hq⟩ : ∃ q, applyP p g = q := ⟨_, rfl⟩
    rw [show applyP ⟨p.N, p.H, p.t, p.o⟩ g = q from hq] at t5 o5 ⊢
    rw [hq] at hbd
    have hb1 := hbd.1
    have hb2 := hbd.2.1
    clear hbd
    have HQQ := zH hq
    have X5 := zH (HX0.out.below b5)
    have XP5 := zH (HXP.out.below b5)
    have B5w := zH (below_trans HB.out b5)
    have hl05 := X5.out.lt
    have hlp5 := XP5.out.lt
    clear s0 s1 s2 s3 y0 y1 y2 y3
    obtain ⟨r0, r1, r2, r3, e0, e1, e2, e3⟩ := X5.out.four
    obtain ⟨s0, s1, s2, s3, g0, g1, g2, g3⟩ := XP5.out.four
    have T5 := zH (ownsRow_base t5 (show w.heap.size + 1 <= _ by first | (show w.heap.size + 1 <= wr.heap.size; omega) | (simp; omega)))
    have O5 := zH (ownsRow_base o5 (show w.heap.size + 1 <= _ by first | (show w.heap.size + 1 <= wr.heap.size; omega) | (simp; omega)))
    have hcap5 := ownsRow_cap t5
    clear t5 o5 b5 b5' hq p0' p1 p2 p3 f0 f1 f2 f3
    obtain ⟨⟨qN, qH, qt, qo⟩, qb⟩ := q
    dsimp only at *
   ·cases qb
    ·have HZ : Hid (R = (Po.zero, false)) := zH (by rw [<- HQ.out, HD.out, compS_no (by rw [HQQ.out])])
     go_wp2_with fail
     refine bodyPost_ret (v := .tuple #[.agg #[.int .i64 0, .int .i64 0, .slice none 0 0, .slice none 0 0], .bool false]) (by simp [results, Tryz.results99, go_sem, r0, r1, r2, r3, hl05]) rfl ⟨_, by rw [HZ.out], by rw [HZ.out]; exact ⟨none, 0, none, 0, rfl, World.ownsRow_nil _ _ _ _, World.ownsRow_nil _ _ _ _⟩, ?_⟩
     exact below_al (below_set4 B5w.out zR)
    ·go_wp2_with fail
     go_roundg (gk - 1)
     case measure => omega
     case rel =>
      exact ⟨k + 1, ⟨qN, qH, qt, qo⟩, A5, c5, B5, d5, by omega, by go_num, by rw [<- HQ.out, HD.out, compS_go (by rw [HQQ.out]), HQQ.out], by show qt.length <= k + 1; omega, by show qo.length <= 4; omega, (set4K X5.out (by omega)).alloc _, ((((XP5.out.s0 _).s1 _).s2 _).s3 _).alloc _, (own_set_ne4 T5.out (own_bx_ne T5.out XP5.out (by decide))).alloc _, (own_set_ne4 O5.out (own_bx_ne O5.out XP5.out (by decide))).alloc _, below_al (below_set4 B5w.out (by omega))⟩
   ·have hn1 : w.heap.size ≠ wr.heap.size := by omega
    have hn2 : wr.heap.size ≠ gp := by omega
    have hn3 : wr.heap.size ≠ w.heap.size := by omega
    have HXB := zH XB
    cases qb
    ·have HZ : Hid (R = (Po.zero, false)) := zH (by rw [<- HQ.out, HD.out, compS_no (by rw [HQQ.out])])
     go_wp2_with fail
     refine bodyPost_ret (v := .tuple #[.agg #[.int .i64 0, .int .i64 0, .slice none 0 0, .slice none 0 0], .bool false]) (by simp [results, Tryz.results99, go_sem, r0, r1, r2, r3]) rfl ⟨_, by rw [HZ.out], by rw [HZ.out]; exact ⟨none, 0, none, 0, rfl, World.ownsRow_nil _ _ _ _, World.ownsRow_nil _ _ _ _⟩, ?_⟩
     exact below_set4 (below_set4 B5w.out (by omega)) zR
    ·go_wp2_with fail
     go_roundg (gk - 1)
     case measure => omega
     case rel =>
      exact ⟨k + 1, ⟨qN, qH, qt, qo⟩, A5, c5, B5, d5, by omega, by go_num, by rw [<- HQ.out, HD.out, compS_go (by rw [HQQ.out]), HQQ.out], by show qt.length <= k + 1; omega, by show qo.length <= 4; omega, set4K (set4K X5.out hn1) (by omega), (((((set4K XP5.out hng).s0 _).s1 _).s2 _).s3 _), own_set_ne4 (own_set_ne4 T5.out (own_bx_ne T5.out HXB.out (by decide))) (own_bx_ne T5.out XP5.out (by decide)), own_set_ne4 (own_set_ne4 O5.out (own_bx_ne O5.out HXB.out (by decide))) (own_bx_ne O5.out XP5.out (by decide)), below_set4 (below_set4 B5w.out (by omega)) (by omega)⟩
  ·have hkn : k = n := by omega
   have HZ : Hid (R = (p, decide (p.N > 0))) := zH (by rw [<- HQ.out, List.drop_eq_nil_of_le (by have := HL.out; omega)]; rfl)
   obtain ⟨r0, r1, r2, r3, e0, e1, e2, e3⟩ := HX0.out.four
   have hgn : gp ≠ w.heap.size := by omega
   by_cases hN : 0 < p.N
   ·have hNd : decide (p.N > 0) = true := by simpa using hN
    have HND := zH hNd
    go_wp2_with fail
    go_region_held3 (fun w' => w'.cell? ⟨gp, 0, none⟩ = some (.int .i64 p.N) /\ w'.cell? ⟨gp, 1, none⟩ = some (.int .i64 p.H) /\ w'.cell? ⟨gp, 2, none⟩ = some (.slice A2 p.t.length c2) /\ w'.cell? ⟨gp, 3, none⟩ = some (.slice B2 p.o.length d2))
     (first | with_reducible exact ⟨p0', p1, p2, p3⟩ | with_reducible exact ⟨cs4d p0' hgn, cs4d p1 hgn, cs4d p2 hgn, cs4d p3 hgn⟩ | go_keep)
     (fail)
    go_wp2_with fail
    refine bodyPost_ret (v := .tuple #[.agg #[.int .i64 p.N, .int .i64 p.H, .slice A2 p.t.length c2, .slice B2 p.o.length d2], .bool true]) (by simp [results, Tryz.results99, go_sem, r0, r1, r2, r3]) rfl ⟨_, by rw [HZ.out, HND.out], by rw [HZ.out]; exact ⟨A2, c2, B2, d2, rfl, ownsRow_base (ownsRow_drew (own_set4 HT.out (by omega))) (by omega), ownsRow_base (ownsRow_drew (own_set4 HO.out (by omega))) (by omega)⟩, ?_⟩
    exact Below.drew (below_set4 HB.out zR)
   ·have hNd : decide (p.N > 0) = false := by simpa using hN
    have HND := zH hNd
    go_wp2_with fail
    go_region_held3 (fun w' => w'.cell? ⟨gp, 0, none⟩ = some (.int .i64 p.N) /\ w'.cell? ⟨gp, 1, none⟩ = some (.int .i64 p.H) /\ w'.cell? ⟨gp, 2, none⟩ = some (.slice A2 p.t.length c2) /\ w'.cell? ⟨gp, 3, none⟩ = some (.slice B2 p.o.length d2))
     (first | with_reducible exact ⟨p0', p1, p2, p3⟩ | with_reducible exact ⟨cs4d p0' hgn, cs4d p1 hgn, cs4d p2 hgn, cs4d p3 hgn⟩ | go_keep)
     (fail)
    go_wp2_with fail
    refine bodyPost_ret (v := .tuple #[.agg #[.int .i64 p.N, .int .i64 p.H, .slice A2 p.t.length c2, .slice B2 p.o.length d2], .bool false]) (by simp [results, Tryz.results99, go_sem, r0, r1, r2, r3]) rfl ⟨_, by rw [HZ.out, HND.out], by rw [HZ.out]; exact ⟨A2, c2, B2, d2, rfl, ownsRow_base (ownsRow_drew (own_set4 HT.out (by omega))) (by omega), ownsRow_base (ownsRow_drew (own_set4 HO.out (by omega))) (by omega)⟩, ?_⟩
    exact Below.drew (below_set4 HB.out zR)
set_option linter.unusedVariables false
set_option maxRecDepth 100000 in
theorem i_FoldP (A : Option Addr) (n cap : Nat) (gs : List Gt) (N : Int) (w : World) (h : RdG w A n gs) (hn : n <= 1073741824) :
  Calls Tryz.prog 42 #[.slice A n cap, .int .i64 N] w (RetGI (foldP gs N) w) := by
 have H := zH h
 have HL := zH h.1
 clear h
 obtain ⟨⟨M, mb⟩, hM⟩ : ∃ R, compP gs N = R := ⟨_, rfl⟩
 have HM := zH hM
 have hbd := compP_bd gs N
 rw [hM, HL.out] at hbd
 obtain ⟨hb1, hb2⟩ : M.t.length <= n /\ M.o.length <= 4 := hbd
 cases mb
 ·have HF := zH (foldP_no (gs := gs) (n := N) (by rw [hM]))
  clear hM
  rw [HF.out]
  go_enter Tryz.func42, Tryz.ntmps42
  go_wp2_with fail
  refine (i_CompP _ _ _ gs N _ H.out (by omega)).mono ?_
  rintro e w1 ⟨v, rfl, ⟨A1, c1, B1, d1, rfl, t1, o1⟩, b1⟩
  rw [HM.out] at t1 o1 ⊢
  dsimp only at t1 o1 ⊢
  have BX := zH (b1.alloc b1.size (.cells #[.int .i64 M.N, .int .i64 M.H, .slice A1 M.t.length c1, .slice B1 M.o.length d1] 88))
  go_wp2_with fail
  refine (i_copyGates _ _ _ _ _ (H.out.below BX.out) (by omega)).mono ?_
  rintro e w2 ⟨A2, c2, rfl, o2, b2⟩
  go_wp2_with fail
  go_ret2
  have hl := HL.out
  subst hl
  exact ⟨A2, c2, rfl, ownsRow_base o2 BX.out.size, below_trans BX.out b2⟩
 ·have HF := zH (foldP_yes (gs := gs) (n := N) (by rw [hM]))
  obtain ⟨hin, hcl⟩ := compP_in hM
  obtain ⟨i1, i2⟩ := idP_len hin
  have I1 := zH i1
  clear i1
  have HC := zH hcl
  clear hM hin hcl
  rw [HF.out, HM.out]
  dsimp only
  have hOl := foldL_len M.t gs (idP N) [] []
  rw [HL.out, List.length_nil, Nat.zero_add] at hOl
  obtain ⟨OUT, hO⟩ : ∃ O, foldL M.t (idP N) [] [] gs = O := ⟨_, rfl⟩
  rw [hO] at hOl ⊢
  have HO := zH hO
  clear hO
  obtain ⟨Q, hQ⟩ : ∃ Q, compP OUT N = Q := ⟨_, rfl⟩
  rw [hQ]
  have HQ := zH hQ
  clear hQ
  go_enter Tryz.func42, Tryz.ntmps42
  go_wp2_with fail
  refine (i_CompP _ _ _ gs N _ H.out (by omega)).mono ?_
  rintro e w1 ⟨v, rfl, ⟨A1, c1, B1, d1, rfl, t1, o1⟩, b1⟩
  rw [HM.out] at t1 o1 ⊢
  dsimp only at t1 o1 ⊢
  have hs1 := b1.size
  have hmk := run_makeMap_plain (P := Tryz.prog) (w := (w1.alloc (.cells #[.int .i64 M.N, .int .i64 M.H, .slice A1 M.t.length c1, .slice B1 M.o.length d1] 88)).alloc (.cells #[] 39)) 78
  obtain ⟨w3, hw3⟩ : ∃ w3, w3 = ((w1.alloc (.cells #[.int .i64 M.N, .int .i64 M.H, .slice A1 M.t.length c1, .slice B1 M.o.length d1] 88)).alloc (.cells #[] 39)).alloc (.map #[] 0) := ⟨_, rfl⟩
  have X6 := zH (show Bx w3 w1.heap.size 88 #[.int .i64 M.N, .int .i64 M.H, .slice A1 M.t.length c1, .slice B1 M.o.length d1] from hw3 ▸ ((Bx.new w1 _ _).alloc _).alloc _)
  have T1 := zH (show w3.ownsRow w.heap.size 128 2 (.slice A1 M.t.length c1) M.t.length (cellsP M.t) from hw3 ▸ ((t1.alloc _).alloc _).alloc _)
  have B3 := zH (show Below w.heap.size w w3 from hw3 ▸ ((b1.alloc (by omega) _).alloc (by simp <;> omega) _).alloc (by simp <;> omega) _)
  have OG := zH (show w3.ownsRow w.heap.size 39 4 (.slice (some ⟨w1.heap.size + 1, 0, none⟩) 0 0) 0 (cellsG []) from hw3 ▸ (own0_bx (by omega) (Bx.new' (by simp))).alloc _)
  have MP := zH (show w3.heap[w1.heap.size + 1 + 1]? = some (.map #[] 0) from by rw [hw3]; have := heap_alloc_new ((w1.alloc (.cells #[.int .i64 M.N, .int .i64 M.H, .slice A1 M.t.length c1, .slice B1 M.o.length d1] 88)).alloc (.cells #[] 39)) (.map #[] 0); simpa using this)
  go_wp2_with fail
  rw [<- hw3]
  clear hw3 t1 o1 b1 hmk
  refine (i_IdP _ _).mono ?_
  rintro e w4 ⟨v, rfl, ⟨A4, c4, B4, d4, rfl, t4, o4⟩, b4⟩
  have hs3 := B3.out.size
  have l6 := (X6.out.below b4).lt
  have hw1 : w.heap.size <= w4.heap.size := (below_trans B3.out b4).size
  have ST := zH (show FI w1.heap.size w4.heap.size M A1 c1 B1 d1 w (idP N) A4 c4 B4 d4 (w1.heap.size + 1 + 1) #[] 0 [] (some ⟨w1.heap.size + 1, 0, none⟩) 0 [] (w4.alloc (.cells #[.int .i64 (idP N).N, .int .i64 (idP N).H, .slice A4 (idP N).t.length c4, .slice B4 (idP N).o.length d4] 88)) from ⟨(X6.out.below b4).alloc _, Bx.new _ _ _, (ownsRow_below T1.out b4).alloc _, (ownsRow_base t4 hs3).alloc _, (ownsRow_base o4 hs3).alloc _, (ownsRow_below OG.out b4).alloc _, ⟨map_allocI (map_belowI MP.out b4), by simp [EntsI], by omega⟩, (below_trans B3.out b4).alloc hw1 _, hw1, by omega⟩)
  clear t4 o4 b4 X6 T1 B3 OG MP
  go_wp2_with fail
  generalize idP N = p0 at HC HO I1 i2 ST ⊢
  generalize hg6 : w1.heap.size = g6 at ST l6 ⊢
  generalize hg10 : w4.heap.size = g10 at ST l6 hw1 ⊢
  clear hs1 hs3 hg6 hg10
  obtain ⟨w5, hw5⟩ : ∃ w5, w5 = w4.alloc (.cells #[.int .i64 p0.N, .int .i64 p0.H, .slice A4 p0.t.length c4, .slice B4 p0.o.length d4] 88) := ⟨_, rfl⟩
  rw [<- hw5] at ST ⊢
  clear hw5
  go_loopg [8, 33] n (fun r s i wr => ∃ (k : Nat) (p : Po) (A2 : Option Addr) (c2 : Nat) (B2 : Option Addr) (d2 : Nat) (es : Array MapEntry) (ck : Nat) (met : List Int) (A3 : Option Addr) (c3 : Nat) (acc : List Gt), k + r = n /\ i = .int .i64 k /\ s = .slice A3 acc.length c3 /\ foldL M.t p met acc (gs.drop k) = OUT /\ (compL p (gs.drop k)).2 = true /\ p.t.length <= k /\ p.o.length <= 4 /\ acc.length <= 2 * k /\ met.length <= k /\ FI g6 g10 M A1 c1 B1 d1 w p A2 c2 B2 d2 (g6 + 1 + 1) es ck met A3 c3 acc wr)
  case atStart => exact ⟨0, p0, A4, c4, B4, d4, #[], 0, [], _, 0, [], by omega, rfl, rfl, HO.out, by rw [List.drop_zero, HC.out], by have := I1.out; omega, i2, by simp, by simp, ST.out⟩
  case round =>
   clear ST HC HO I1 i2 l6
   obtain ⟨k, p, A2, c2, B2, d2, es, ck, met, A3, c3, acc, hk, rfl, rfl, hf, hcl, htl, hol, hal, hml, hst⟩ := hrel
   have HFL := zH hf
   have HCL := zH hcl
   have ST := zH hst
   clear hf hcl hst
   by_cases hlt : k < n
   ·have HB := zH ST.out.2.2.2.2.2.2.2.1
    have hbs := HB.out.size
    have h10 := ST.out.2.2.2.2.2.2.2.2.1
    obtain ⟨bb, off, g, rfl, hBb, hd, c0, c1', c2', c3'⟩ := (H.out.below HB.out).at_ hlt
    have HD := zH hd
    clear hd
    have hkI : (k : Int) < (n : Int) := by omega
    have hk0 : (0 : Int) <= (k : Int) := by omega
    have hfit := compL_fit (p := p) (g := g) (r := gs.drop (k + 1)) (by rw [<- HD.out]; exact HCL.out)
    have hap := (compL_ok (p := p) (g := g) (r := gs.drop (k + 1)) (by rw [<- HD.out]; exact HCL.out)).1
    obtain ⟨gk', ga', gb', gc'⟩ := g
    dsimp only at c0 c1' c2' c3' hfit
    obtain ⟨a, rfl⟩ : ∃ a : Nat, ga' = a := ⟨ga'.toNat, by omega⟩
    obtain ⟨q, hq⟩ : ∃ q, applyP p ⟨gk', a, gb', gc'⟩ = (q, true) := ⟨_, Prod.ext rfl hap⟩
    have hbd := applyP_bd p ⟨gk', a, gb', gc'⟩
    rw [hq] at hbd
    have hq1 : q.t.length <= p.t.length + 1 := hbd.1
    have hq2 : q.o.length <= p.o.length := hbd.2.1
    have HQ1 := zH hq
    have HC1 := zH (compL_next (by rw [<- HD.out]; exact HCL.out) hq)
    obtain ⟨ha0, ha1, ha2⟩ := hfit
    have haN : a < p.o.length := by omega
    have haI : (a : Int) < (p.o.length : Int) := by omega
    have ha0' : (0 : Int) <= (a : Int) := by omega
    obtain ⟨gB, hB2, hgB1, hgB2, u0, u1, _, _⟩ := own2At ST.out.2.2.2.2.1 haN
    subst hB2
    obtain ⟨⟨x, y⟩, hxy⟩ : ∃ z, p.o.getD a (0, 0) = z := ⟨_, rfl⟩
    rw [hxy] at u0 u1
    dsimp only at u0 u1
    have HXY : Hid (at2 p.o (a : Int) = (x, y)) := zH (by show p.o.getD (Int.toNat a) _ = _; rw [Int.toNat_natCast]; exact hxy)
    clear hap hq hbd hxy ha0 ha1 ha2
    have lg6 := ST.out.1.lt
    have lg10 := ST.out.2.1.lt
    obtain ⟨s0, s1, s2, s3, t0, t1, t2, t3⟩ := ST.out.2.1.four
    have hz4 : (Value.agg #[.int .i64 0, .int .i64 0, .int .i64 0, .int .i64 0]).cells.size = 4 := rfl
    cases hu : (units gk' == 0)
    rotate_left
    ·have HU := zH hu
     go_wp2_with fail
     refine (i_RotationUnits _ _).mono ?_
     rintro e w' ⟨rfl, rfl⟩
     have SA := zH (FI.alloc (FI.alloc ST.out (.cells #[.int .i64 gk', .int .i64 (a : Int), .int .i64 gb', .int .i64 gc'] 39)) (.cells #[.int .i64 gk', .int .i64 (a : Int), .int .i64 gb', .int .i64 gc'] 39))
     have GX := zH ((Bx.new wr 39 #[.int .i64 gk', .int .i64 (a : Int), .int .i64 gb', .int .i64 gc']).alloc (.cells #[.int .i64 gk', .int .i64 (a : Int), .int .i64 gb', .int .i64 gc'] 39))
     have RL := Rd.lit (wr.alloc (.cells #[.int .i64 gk', .int .i64 (a : Int), .int .i64 gb', .int .i64 gc'] 39)) 39 #[.int .i64 gk', .int .i64 (a : Int), .int .i64 gb', .int .i64 gc'] 1 4 rfl
     rw [World.size_alloc] at RL
     have RL2 := zH RL
     clear RL
     go_wp2_with (at_builtin; refine wpList_app rfl (.tmp 41) (.tmp 43) 24 rfl Tryz.underlying24 infoGate hz4 (by decide) rfl SA.out.2.2.2.2.2.1 rfl RL2.out (by simp [Value.oneCell']) (by omega) (by decide) (by simp <;> omega) ?_; intro A7 c7 w7 o7 g7; have G7 := zH (GX.out.grown g7 (own_new_ne ST.out.2.2.2.2.2.1)); have S7 := zH (FI.app SA.out (acc' := acc ++ [⟨gk', a, gb', gc'⟩]) g7 (by rw [cellsG_append]; exact o7)); have ⟨s0, s1, s2, s3, t0, t1, t2, t3⟩ := S7.out.2.1.four; have ⟨y0, y1, y2, y3, _, _, _, _⟩ := G7.out.four)
     have ST := S7
     refine (i_ApplyP p.N p.H A2 p.t.length c2 p.t _ p.o.length d2 p.o ⟨gk', a, gb', gc'⟩ _ (RdP.own ST.out.2.2.2.1) (RdP.own ST.out.2.2.2.2.1) (by omega) (by omega) (ownsRow_cap ST.out.2.2.2.1)).mono ?_
     rintro e w8 ⟨v, rfl, ⟨A8, c8, B8, d8, rfl, t8, o8⟩, b8⟩
     rw [show applyP ⟨p.N, p.H, p.t, p.o⟩ ⟨gk', a, gb', gc'⟩ = (q, true) from HQ1.out] at t8 o8 ⊢
     dsimp only at t8 o8 ⊢
     have hs8 := ST.out.2.2.2.2.2.2.2.1.size
     have S8 := zH (FI.below ST.out b8)
     obtain ⟨s0, s1, s2, s3, t0, t1, t2, t3⟩ := S8.out.2.1.four
     have l8 := S8.out.2.1.lt
     have S9 := zH (FI.poly S8.out t8 o8 hs8)
     clear t8 o8
     go_wp2_with fail
     go_roundg (gk - 1)
     case measure => omega
     case rel => exact ⟨k + 1, q, A8, c8, B8, d8, _, _, met, _, _, acc ++ [⟨gk', a, gb', gc'⟩], by omega, by go_num, (by first | rfl | (rw [HTC.out]; simp [rotG]) | simp), by rw [<- HFL.out, HD.out, foldL_0 HU.out HQ1.out], HC1.out, by omega, by omega, by have := hal; simp; omega, by omega, S9.out⟩
    ·have HU := zH hu
     have S2 := zH (FI.alloc (FI.alloc ST.out (.cells #[.int .i64 gk', .int .i64 (a : Int), .int .i64 gb', .int .i64 gc'] 39)) (.cells #[.int .i64 x, .int .i64 y] 93))
     have G2 := zH ((Bx.new wr 39 #[.int .i64 gk', .int .i64 (a : Int), .int .i64 gb', .int .i64 gc']).alloc (.cells #[.int .i64 x, .int .i64 y] 93))
     have V2 := zH (Bx.new (wr.alloc (.cells #[.int .i64 gk', .int .i64 (a : Int), .int .i64 gb', .int .i64 gc'] 39)) 93 #[.int .i64 x, .int .i64 y])
     obtain ⟨W2, hW2⟩ : ∃ W2, W2 = (wr.alloc (.cells #[.int .i64 gk', .int .i64 (a : Int), .int .i64 gb', .int .i64 gc'] 39)).alloc (.cells #[.int .i64 x, .int .i64 y] 93) := ⟨_, rfl⟩
     rw [<- hW2] at S2 G2 V2
     have HW2 := zH hW2
     clear hW2
     have hgs : (wr.alloc (.cells #[.int .i64 gk', .int .i64 (a : Int), .int .i64 gb', .int .i64 gc'] 39)).heap.size = wr.heap.size + 1 := by simp
     rw [hgs] at V2
     clear hgs
     cases hm : met.any (· == x)
     ·have HMT := zH hm
      have hl := run_lookup_i (g6 + 1 + 1) ck x es met W2 S2.out.2.2.2.2.2.2.1.1 S2.out.2.2.2.2.2.2.1.2.1
      rw [hm] at hl
      obtain ⟨W3, hW3⟩ : ∃ W3, W3 = ({ W2 with heap := W2.heap.setIfInBounds (g6 + 1 + 1) (.map (es.push { key := .int .i64 x, val := .bool true, born := ck }) (ck + 1)) } : World) := ⟨_, rfl⟩
      have hu2 := run_update_i (g6 + 1 + 1) ck x es met W2 S2.out.2.2.2.2.2.2.1.1 S2.out.2.2.2.2.2.2.1.2.1 hm
      rw [<- hW3] at hu2
      have S3 := zH (FI.upd S2.out x)
      have G3 := zH (G2.out.setObjI (r := g6 + 1 + 1) (bx_map_ne G2.out S2.out.2.2.2.2.2.2.1.1) (.map (es.push { key := .int .i64 x, val := .bool true, born := ck }) (ck + 1)))
      have V3 := zH (V2.out.setObjI (r := g6 + 1 + 1) (bx_map_ne V2.out S2.out.2.2.2.2.2.2.1.1) (.map (es.push { key := .int .i64 x, val := .bool true, born := ck }) (ck + 1)))
      rw [<- hW3] at S3 G3 V3
      clear hW3
      clear hm
      go_upto_region 12 with (go_at_call 79; refine (i_RotationUnits _ _).mono ?_; rintro e w' ⟨rfl, rfl⟩)
      go_upto_region 13 with fail
      rw [<- HW2.out]
      obtain ⟨z0, z1, _, _⟩ := V2.out.two
      obtain ⟨y0, y1, y2, y3, _, _, _, _⟩ := G2.out.four
      obtain ⟨r0, r1, r2, r3, _, _, _, _⟩ := S3.out.1.four
      obtain ⟨z0', z1', _, _⟩ := V3.out.two
      obtain ⟨y0', y1', y2', y3', _, _, _, _⟩ := G3.out.four
      obtain ⟨cv, hcv⟩ : ∃ c, coefT M.t x = c := ⟨_, rfl⟩
      have HCV := zH hcv
      have HNE := zH (own_new_ne ST.out.2.2.2.2.2.1)
      go_wp2_with fail
      refine (i_coef _ _ _ _ _ _ _ _ M.t x _ (RdP.own S3.out.2.2.1) (by omega)).mono ?_
      rintro e w4 ⟨rfl, bk⟩
      rw [hcv]
      clear hcv z0 z1 y0 y1 y2 y3 z0' z1' y0' y1' y2' y3' r0 r1 r2 r3 hl hu2
      have S4 := zH (FI.below S3.out bk)
      have G4 := zH (G3.out.below bk)
      have V4 := zH (V3.out.below bk)
      obtain ⟨z0, z1, _, _⟩ := V4.out.two
      obtain ⟨y0, y1, y2, y3, _, _, _, _⟩ := G4.out.four
      clear bk S2 G2 V2 S3 G3 V3
      cases hy1 : (y == 1)
      ·have HY1 := zH hy1
       have HTC : Hid (turnC (coefT M.t x) y = cv) := zH (by rw [HCV.out]; exact turnC_0 hy1)
       obtain ⟨cc, hcc⟩ : ∃ c, cv = c := ⟨_, rfl⟩
       subst hcc
       have hrk := rotK_len cv
       go_wp2_with fail
       refine (i_RotationGates _ _ _).mono ?_
       rintro e w5 ⟨A5, c5, rfl, o5, b5⟩
       have O5 := zH o5
       have S5 := zH (FI.below S4.out b5)
       have G5 := zH (G4.out.below b5)
       have hs5 := S5.out.2.2.2.2.2.2.2.1.size
       clear o5 b5 z0 z1 y0 y1 y2 y3 hy1
       go_wp2_with (at_builtin; refine wpList_app rfl (.tmp 69) (.tmp 73) 24 rfl Tryz.underlying24 infoGate hz4 (by decide) rfl S5.out.2.2.2.2.2.1 rfl (Rd.own O5.out) one_cellsG (by omega) (by decide) (by omega) ?_; intro A7 c7 w7 o7 g7; have G7 := zH (G5.out.grown g7 HNE.out); have S7 := zH (FI.app S5.out (acc' := acc ++ rotG (turnC (coefT M.t x) y) (a : Int)) g7 (by rw [HTC.out, cellsG_append]; exact o7)); have ⟨s0, s1, s2, s3, t0, t1, t2, t3⟩ := S7.out.2.1.four; have ⟨y0, y1, y2, y3, _, _, _, _⟩ := G7.out.four)
       have ST := S7
       refine (i_ApplyP p.N p.H A2 p.t.length c2 p.t _ p.o.length d2 p.o ⟨gk', a, gb', gc'⟩ _ (RdP.own ST.out.2.2.2.1) (RdP.own ST.out.2.2.2.2.1) (by omega) (by omega) (ownsRow_cap ST.out.2.2.2.1)).mono ?_
       rintro e w8 ⟨v, rfl, ⟨A8, c8, B8, d8, rfl, t8, o8⟩, b8⟩
       rw [show applyP ⟨p.N, p.H, p.t, p.o⟩ ⟨gk', a, gb', gc'⟩ = (q, true) from HQ1.out] at t8 o8 ⊢
       dsimp only at t8 o8 ⊢
       have hs8 := ST.out.2.2.2.2.2.2.2.1.size
       have S8 := zH (FI.below ST.out b8)
       obtain ⟨s0, s1, s2, s3, t0, t1, t2, t3⟩ := S8.out.2.1.four
       have l8 := S8.out.2.1.lt
       have S9 := zH (FI.poly S8.out t8 o8 hs8)
       clear t8 o8
       go_wp2_with fail
       go_roundg (gk - 1)
       case measure => omega
       case rel => exact ⟨k + 1, q, A8, c8, B8, d8, _, _, met ++ [x], _, _, acc ++ rotG (turnC (coefT M.t x) y) (a : Int), by omega, by go_num, (by first | rfl | (rw [HTC.out]; simp [rotG]) | simp), by rw [<- HFL.out, HD.out, foldL_new HU.out HXY.out HMT.out HQ1.out], HC1.out, by omega, by omega, by have h1 := rotG_len (turnC (coefT M.t x) y) (a : Int); have h2 := rotK_len (turnC (coefT M.t x) y); rw [List.length_append]; omega, by rw [List.length_append, List.length_singleton]; omega, S9.out⟩
      ·have HY1 := zH hy1
       have HTC : Hid (turnC (coefT M.t x) y = ((-cv) % 8)) := zH (by rw [HCV.out]; exact turnC_1 hy1)
       go_wp2_with fail
       refine (i_mod8 _ _).mono ?_
       rintro e w' ⟨rfl, rfl⟩
       rw [wrap_mod8]
       obtain ⟨cc, hcc⟩ : ∃ c, ((-cv) % 8) = c := ⟨_, rfl⟩
       rw [hcc] at HTC ⊢
       clear hcc
       have hrk := rotK_len cc
       go_wp2_with fail
       refine (i_RotationGates _ _ _).mono ?_
       rintro e w5 ⟨A5, c5, rfl, o5, b5⟩
       have O5 := zH o5
       have S5 := zH (FI.below S4.out b5)
       have G5 := zH (G4.out.below b5)
       have hs5 := S5.out.2.2.2.2.2.2.2.1.size
       clear o5 b5 z0 z1 y0 y1 y2 y3 hy1
       go_wp2_with (at_builtin; refine wpList_app rfl (.tmp 69) (.tmp 73) 24 rfl Tryz.underlying24 infoGate hz4 (by decide) rfl S5.out.2.2.2.2.2.1 rfl (Rd.own O5.out) one_cellsG (by omega) (by decide) (by omega) ?_; intro A7 c7 w7 o7 g7; have G7 := zH (G5.out.grown g7 HNE.out); have S7 := zH (FI.app S5.out (acc' := acc ++ rotG (turnC (coefT M.t x) y) (a : Int)) g7 (by rw [HTC.out, cellsG_append]; exact o7)); have ⟨s0, s1, s2, s3, t0, t1, t2, t3⟩ := S7.out.2.1.four; have ⟨y0, y1, y2, y3, _, _, _, _⟩ := G7.out.four)
       have ST := S7
       refine (i_ApplyP p.N p.H A2 p.t.length c2 p.t _ p.o.length d2 p.o ⟨gk', a, gb', gc'⟩ _ (RdP.own ST.out.2.2.2.1) (RdP.own ST.out.2.2.2.2.1) (by omega) (by omega) (ownsRow_cap ST.out.2.2.2.1)).mono ?_
       rintro e w8 ⟨v, rfl, ⟨A8, c8, B8, d8, rfl, t8, o8⟩, b8⟩
       rw [show applyP ⟨p.N, p.H, p.t, p.o⟩ ⟨gk', a, gb', gc'⟩ = (q, true) from HQ1.out] at t8 o8 ⊢
       dsimp only at t8 o8 ⊢
       have hs8 := ST.out.2.2.2.2.2.2.2.1.size
       have S8 := zH (FI.below ST.out b8)
       obtain ⟨s0, s1, s2, s3, t0, t1, t2, t3⟩ := S8.out.2.1.four
       have l8 := S8.out.2.1.lt
       have S9 := zH (FI.poly S8.out t8 o8 hs8)
       clear t8 o8
       go_wp2_with fail
       go_roundg (gk - 1)
       case measure => omega
       case rel => exact ⟨k + 1, q, A8, c8, B8, d8, _, _, met ++ [x], _, _, acc ++ rotG (turnC (coefT M.t x) y) (a : Int), by omega, by go_num, (by first | rfl | (rw [HTC.out]; simp [rotG]) | simp), by rw [<- HFL.out, HD.out, foldL_new HU.out HXY.out HMT.out HQ1.out], HC1.out, by omega, by omega, by have h1 := rotG_len (turnC (coefT M.t x) y) (a : Int); have h2 := rotK_len (turnC (coefT M.t x) y); rw [List.length_append]; omega, by rw [List.length_append, List.length_singleton]; omega, S9.out⟩
     ·have HMT := zH hm
      have hl := run_lookup_i (g6 + 1 + 1) ck x es met W2 S2.out.2.2.2.2.2.2.1.1 S2.out.2.2.2.2.2.2.1.2.1
      rw [hm] at hl
      clear hm
      go_upto_region 12 with (go_at_call 79; refine (i_RotationUnits _ _).mono ?_; rintro e w' ⟨rfl, rfl⟩)
      go_upto_region 13 with fail
      rw [<- HW2.out]
      obtain ⟨z0, z1, _, _⟩ := V2.out.two
      obtain ⟨y0, y1, y2, y3, _, _, _, _⟩ := G2.out.four
      obtain ⟨r0, r1, r2, r3, _, _, _, _⟩ := S2.out.2.1.four
      go_wp2_with fail
      have ST := S2
      refine (i_ApplyP p.N p.H A2 p.t.length c2 p.t _ p.o.length d2 p.o ⟨gk', a, gb', gc'⟩ _ (RdP.own ST.out.2.2.2.1) (RdP.own ST.out.2.2.2.2.1) (by omega) (by omega) (ownsRow_cap ST.out.2.2.2.1)).mono ?_
      rintro e w8 ⟨v, rfl, ⟨A8, c8, B8, d8, rfl, t8, o8⟩, b8⟩
      rw [show applyP ⟨p.N, p.H, p.t, p.o⟩ ⟨gk', a, gb', gc'⟩ = (q, true) from HQ1.out] at t8 o8 ⊢
      dsimp only at t8 o8 ⊢
      have hs8 := ST.out.2.2.2.2.2.2.2.1.size
      have S8 := zH (FI.below ST.out b8)
      obtain ⟨s0, s1, s2, s3, t0, t1, t2, t3⟩ := S8.out.2.1.four
      have l8 := S8.out.2.1.lt
      have S9 := zH (FI.poly S8.out t8 o8 hs8)
      clear t8 o8
      go_wp2_with fail
      go_roundg (gk - 1)
      case measure => omega
      case rel => exact ⟨k + 1, q, A8, c8, B8, d8, _, _, met, _, _, acc, by omega, by go_num, (by first | rfl | (rw [HTC.out]; simp [rotG]) | simp), by rw [<- HFL.out, HD.out, foldL_old HU.out HXY.out HMT.out HQ1.out], HC1.out, by omega, by omega, by omega, by omega, S9.out⟩
   ·have hkn : k = n := by omega
    have hE : acc = OUT := by have e := HFL.out; rw [List.drop_eq_nil_of_le (by have := HL.out; omega)] at e; exact e
    subst hE
    clear HFL HCL hkn
    have GA := zH ST.out.2.2.2.2.2.1
    go_wp2_with fail
    refine (i_CompP _ _ _ acc N _ (RdG.own GA.out) (by omega)).mono ?_
    rintro e w8 ⟨v, rfl, ⟨A8, c8, B8, d8, rfl, t8, o8⟩, b8⟩
    rw [HQ.out] at t8 o8 ⊢
    have S8 := zH (FI.below ST.out b8)
    obtain ⟨r0, r1, r2, r3, _, _, _, _⟩ := S8.out.1.four
    have l8 := S8.out.1.lt
    have hb8 := S8.out.2.2.2.2.2.2.2.1.size
    clear t8 o8 b8
    go_wp2_with fail
    refine (i_mod8 _ _).mono ?_
    rintro e w' ⟨rfl, rfl⟩
    rw [wrap_mod8]
    go_wp2_with fail
    go_ret2
    exact ⟨A3, c3, rfl, S8.out.2.2.2.2.2.1.alloc _, S8.out.2.2.2.2.2.2.2.1.alloc hb8 _⟩
end Go.Proofs.YtmenmibfkojnoaaGreat
