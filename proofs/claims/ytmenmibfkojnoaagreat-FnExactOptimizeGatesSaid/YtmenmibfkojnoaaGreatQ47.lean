/- Plain facts on ComputePhasePolynomial; its contract (impl). At most 2^36 gates. Plain: what phase folding comes to. Nothing is asked. Contracts of eqPhasePolynomial, markPhasePolynomial, heldPhasePolynomial. At most 2^39 terms and outputs. A box that holds a polynomial of the call's own: what the ways through a drawn region have in common. Contracts of coefficient (impl) and l33Coef (spec); what ... -/
import Derived.Test.YtmenmibfkojnoaaGreatQ42
import Derived.Test.YtmenmibfkojnoaaGreatQ43
import Derived.Test.YtmenmibfkojnoaaGreatQ46
import Derived.Test.YtmenmibfkojnoaaGreatQ10
import Derived.Test.YtmenmibfkojnoaaGreatQ23
import Derived.Test.YtmenmibfkojnoaaGreatQ03
set_option maxHeartbeats 16000000
namespace Go.Proofs.YtmenmibfkojnoaaGreat
open Go.RowKit
theorem applyP_bd (p : Po) (g : Gt) : (applyP p g).1.t.length <= p.t.length + 1 /\ (applyP p g).1.o.length <= p.o.length /\ ((applyP p g).2 = true -> (applyP p g).1.N = p.N) := by
 cases h : okP p g
 ·rw [applyP_no h]; exact ⟨by simp [Po.zero], by simp [Po.zero], fun h => by cases h⟩
 ·rw [applyP_yes h]
  unfold actP
  split
  ·exact ⟨by simp, by simp, fun _ => rfl⟩
  split
  ·exact ⟨by simp, by simp, fun _ => rfl⟩
  split
  ·exact ⟨by simp, by simp, fun _ => rfl⟩
  split
  ·exact ⟨by simp [Po.zero], by simp [Po.zero], fun h => by cases h⟩
  split
  ·exact ⟨addT_len _ _ _, zR, fun _ => rfl⟩
  ·exact ⟨addT_len _ _ _, zR, fun _ => rfl⟩
theorem own_set_ne4 {w' : World} {base g1 : Nat} {e : TypeId} {sz n : Nat} {v : Value} {xs : List Value} {a b c d : Value} (h : w'.ownsRow base e sz v n xs) (hg : some g1 ≠ v.ownBlock) : ((((w'.setCell ⟨g1, 0, none⟩ a).setCell ⟨g1, 1, none⟩ b).setCell ⟨g1, 2, none⟩ c).setCell ⟨g1, 3, none⟩ d).ownsRow base e sz v n xs :=
 own_set_ne (own_set_ne (own_set_ne (own_set_ne h (p := ⟨g1, 0, none⟩) hg a) (p := ⟨g1, 1, none⟩) hg b) (p := ⟨g1, 2, none⟩) hg c) (p := ⟨g1, 3, none⟩) hg d
theorem compL_go {p : Po} {g : Gt} {r : List Gt} (h : (applyP p g).2 = true) : compL p (g :: r) = compL (applyP p g).1 r := by rw [compL, if_pos h]
theorem compL_no {p : Po} {g : Gt} {r : List Gt} (h : (applyP p g).2 = false) : compL p (g :: r) = (Po.zero, false) := by rw [compL, if_neg (by rw [h]; simp)]
theorem compL_bd : ∀ (gs : List Gt) (p : Po), (compL p gs).1.t.length <= p.t.length + gs.length /\ (compL p gs).1.o.length <= p.o.length
 |[], p => ⟨by simp [compL], by simp [compL]⟩
 |g :: r, p => by
  cases h : (applyP p g).2
  ·rw [compL_no h]; exact ⟨by simp [Po.zero], by simp [Po.zero]⟩
  ·rw [compL_go h]
   have h1 := compL_bd r (applyP p g).1
   have h2 := applyP_bd p g
   rw [List.length_cons]
   exact ⟨by omega, by omega⟩
theorem compP_bd (gs : List Gt) (n : Int) : (compP gs n).1.t.length <= gs.length /\ (compP gs n).1.o.length <= 4 := by
 unfold compP
 split
 ·have h := inB_iff.1 ‹_›
  have h1 := compL_bd gs (idP n)
  have e : idP n = ⟨n, 0, [], idO n.toNat⟩ := by unfold idP; rw [if_pos ‹_›]
  rw [e] at h1 ⊢
  simp only [List.length_nil, idO_len] at h1
  exact ⟨by omega, by omega⟩
 ·exact ⟨by simp [Po.zero], by simp [Po.zero]⟩
set_option maxRecDepth 100000 in
theorem i_CompP (A : Option Addr) (n cap : Nat) (gs : List Gt) (N : Int) (w : World) (h : RdG w A n gs) (hn : n <= 68719476736) :
  Calls Tryz.prog 77 #[.slice A n cap, .int .i64 N] w (RetPB (compP gs N) w) := by
 have H := zH h
 have HL := zH h.1
 clear h
 have X0 := zH (Bx.new w 88 #[.int .i64 0, .int .i64 0, .slice none 0 0, .slice none 0 0])
 have BZ : Hid (Below w.heap.size w (w.alloc (.cells #[.int .i64 0, .int .i64 0, .slice none 0 0, .slice none 0 0] 88))) := zH ((zW).alloc zR _)
 obtain ⟨R, hR⟩ : ∃ R, compP gs N = R := ⟨_, rfl⟩
 have HR := zH hR
 rw [hR]
 clear hR
 cases hin : inB N 1 4
 ·have HI := zH hin
  have HZ : Hid (R = (Po.zero, false)) := zH (by rw [<- HR.out]; unfold compP; rw [hin]; rfl)
  rw [HZ.out]
  clear hin
  obtain ⟨r0, r1, r2, r3, _⟩ := X0.out.four
  go_enter Tryz.func77, Tryz.ntmps77
  go_wp2_with fail
  refine (i_in _ _ _ _).mono ?_
  rintro e w' ⟨rfl, rfl⟩
  rw [HI.out]
  go_wp2_with fail
  refine bodyPost_ret (v := .tuple #[.agg #[.int .i64 0, .int .i64 0, .slice none 0 0, .slice none 0 0], .bool false]) (by simp [results, Tryz.results77, go_sem]) rfl ⟨_, rfl, ⟨none, 0, none, 0, rfl, World.ownsRow_nil _ _ _ _, World.ownsRow_nil _ _ _ _⟩, ?_⟩
  exact (by repeat (first | exact zW | assumption | refine Below.drew ?_ | refine Below.alloc ?_ (by simp <;> omega) _))
 ·have HI := zH hin
  have HC : Hid (compL (idP N) gs = R) := zH (by rw [<- HR.out]; unfold compP; rw [hin]; rfl)
  obtain ⟨hN1, hN4⟩ := inB_iff.1 hin
  have hid0 : (idP N).t.length = 0 /\ (idP N).o.length <= 4 := by
   have e : idP N = ⟨N, 0, [], idO N.toNat⟩ := by unfold idP; rw [if_pos hin]
   rw [e]; exact ⟨rfl, by rw [idO_len]; omega⟩
  have HID := zH hid0
  clear hin hN1 hN4 hid0 HR
  go_enter Tryz.func77, Tryz.ntmps77
  go_wp2_with fail
  refine (i_in _ _ _ _).mono ?_
  rintro e w' ⟨rfl, rfl⟩
  rw [HI.out]
  go_wp2_with fail
  refine (i_IdP _ _).mono ?_
  rintro e w1 ⟨v, rfl, ⟨A1, c1, B1, d1, rfl, t1, o1⟩, b1⟩
  have X1 := zH ((X0.out.below b1).alloc (.cells #[.int .i64 (idP N).N, .int .i64 (idP N).H, .slice A1 (idP N).t.length c1, .slice B1 (idP N).o.length d1] 88))
  have XP := zH (Bx.new w1 88 #[.int .i64 (idP N).N, .int .i64 (idP N).H, .slice A1 (idP N).t.length c1, .slice B1 (idP N).o.length d1])
  have T1 := zH (ownsRow_base (t1.alloc (.cells #[.int .i64 (idP N).N, .int .i64 (idP N).H, .slice A1 (idP N).t.length c1, .slice B1 (idP N).o.length d1] 88)) (show w.heap.size + 1 <= _ by simp))
  have O1 := zH (ownsRow_base (o1.alloc (.cells #[.int .i64 (idP N).N, .int .i64 (idP N).H, .slice A1 (idP N).t.length c1, .slice B1 (idP N).o.length d1] 88)) (show w.heap.size + 1 <= _ by simp))
  have BB := zH ((below_trans BZ.out b1).alloc (below_trans BZ.out b1).size (.cells #[.int .i64 (idP N).N, .int .i64 (idP N).H, .slice A1 (idP N).t.length c1, .slice B1 (idP N).o.length d1] 88))
  have hs1 : w.heap.size < w1.heap.size := (X0.out.below b1).lt
  clear t1 o1 b1 X0 BZ
  generalize idP N = p0 at HC HID X1 XP T1 O1 BB ⊢
  go_wp2_with fail
  generalize hgp : w1.heap.size = gp at XP hs1 ⊢
  go_loopg [19] n (fun r i wr => ∃ (k : Nat) (p : Po) (A2 : Option Addr) (c2 : Nat) (B2 : Option Addr) (d2 : Nat), k + r = n /\ i = .int .i64 k /\ compL p (gs.drop k) = R /\ p.t.length <= k /\ p.o.length <= 4 /\ Bx wr w.heap.size 88 #[.int .i64 0, .int .i64 0, .slice none 0 0, .slice none 0 0] /\ Bx wr gp 88 #[.int .i64 p.N, .int .i64 p.H, .slice A2 p.t.length c2, .slice B2 p.o.length d2] /\ wr.ownsRow (w.heap.size + 1) 128 2 (.slice A2 p.t.length c2) p.t.length (cellsP p.t) /\ wr.ownsRow (w.heap.size + 1) 93 2 (.slice B2 p.o.length d2) p.o.length (cellsP p.o) /\ Below w.heap.size w wr)
  case atStart => exact ⟨0, p0, A1, c1, B1, d1, by omega, rfl, HC.out, by have := HID.out.1; omega, HID.out.2, X1.out, XP.out, T1.out, O1.out, BB.out⟩
  case round =>
   clear X1 XP T1 O1 BB HC HID
   obtain ⟨k, p, A2, c2, B2, d2, hk, rfl, hq, htl, hol, hx0, hxp, ht, ho, hbw⟩ := hrel
   have HQ := zH hq
   have HX0 := zH hx0
   have HXP := zH hxp
   have HT := zH ht
   have HO := zH ho
   have HB := zH hbw
   have hbs := hbw.size
   have hcap := ownsRow_cap ht
   have hl0 := hx0.lt
   have hlp := hxp.lt
   clear hq hx0 hxp ht ho hbw
   obtain ⟨p0', p1, p2, p3, f0, f1, f2, f3⟩ := HXP.out.four
   by_cases hlt : k < n
   ·obtain ⟨bb, off, g, rfl, hBb, hd, c0, c1', c2', c3⟩ := (H.out.below HB.out).at_ hlt
    have HD := zH hd
    have hkI : (k : Int) < (n : Int) := by omega
    have hk0 : (0 : Int) <= (k : Int) := by omega
    clear hd
    have GB := zH (Bx.new wr 39 #[.int .i64 g.k, .int .i64 g.a, .int .i64 g.b, .int .i64 g.c])
    go_wp2_with fail
    refine (i_ApplyP p.N p.H A2 p.t.length c2 p.t B2 p.o.length d2 p.o g _ (RdP.own (HT.out.alloc _)) (RdP.own (HO.out.alloc _)) (by omega) (by omega) hcap).mono ?_
    rintro e w5 ⟨v, rfl, ⟨A5, c5, B5, d5, rfl, t5, o5⟩, b5'⟩
    have b5 := below_alloc b5'
    have hbd := applyP_bd p g
    obtain ⟨q, hq⟩ : ∃ q, applyP p g = q := ⟨_, rfl⟩
    rw [show applyP ⟨p.N, p.H, p.t, p.o⟩ g = q from hq] at t5 o5 ⊢
    rw [hq] at hbd
    have hb1 := hbd.1
    have hb2 := hbd.2.1
    clear hbd
    have HQQ := zH hq
    have X5 := zH (HX0.out.below b5)
    have XP5 := zH (HXP.out.below b5)
    have B5w := zH (below_trans HB.out b5)
    have hl05 := X5.out.lt
    have hlp5 := XP5.out.lt
    obtain ⟨r0, r1, r2, r3, e0, e1, e2, e3⟩ := X5.out.four
    obtain ⟨s0, s1, s2, s3, g0, g1, g2, g3⟩ := XP5.out.four
    have T5 := zH (ownsRow_base t5 (show w.heap.size + 1 <= _ by simp; omega))
    have O5 := zH (ownsRow_base o5 (show w.heap.size + 1 <= _ by simp; omega))
    have hcap5 := ownsRow_cap t5
    clear t5 o5 b5 b5' hq p0' p1 p2 p3 f0 f1 f2 f3
    obtain ⟨⟨qN, qH, qt, qo⟩, qb⟩ := q
    dsimp only at *
    cases qb
    ·have HZ : Hid (R = (Po.zero, false)) := zH (by rw [<- HQ.out, HD.out, compL_no (by rw [HQQ.out])])
     go_wp2_with fail
     refine bodyPost_ret (v := .tuple #[.agg #[.int .i64 0, .int .i64 0, .slice none 0 0, .slice none 0 0], .bool false]) (by simp [results, Tryz.results77, go_sem, r0, r1, r2, r3, hl05]) rfl ⟨_, by rw [HZ.out], by rw [HZ.out]; exact ⟨none, 0, none, 0, rfl, World.ownsRow_nil _ _ _ _, World.ownsRow_nil _ _ _ _⟩, ?_⟩
     exact below_al (below_set4 B5w.out zR)
    ·go_wp2_with fail
     go_roundg (gk - 1)
     case measure => omega
     case rel =>
      exact ⟨k + 1, ⟨qN, qH, qt, qo⟩, A5, c5, B5, d5, by omega, by go_num, by rw [<- HQ.out, HD.out, compL_go (by rw [HQQ.out]), HQQ.out], by show qt.length <= k + 1; omega, by show qo.length <= 4; omega, (set4K X5.out (by omega)).alloc _, ((((XP5.out.s0 _).s1 _).s2 _).s3 _).alloc _, (own_set_ne4 T5.out (own_bx_ne T5.out XP5.out (by decide))).alloc _, (own_set_ne4 O5.out (own_bx_ne O5.out XP5.out (by decide))).alloc _, below_al (below_set4 B5w.out (by omega))⟩
   ·have hkn : k = n := by omega
    have HZ : Hid (R = (p, true)) := zH (by rw [<- HQ.out, List.drop_eq_nil_of_le (by have := HL.out; omega)]; rfl)
    obtain ⟨r0, r1, r2, r3, e0, e1, e2, e3⟩ := HX0.out.four
    go_wp2_with fail
    refine bodyPost_ret (v := .tuple #[.agg #[.int .i64 p.N, .int .i64 p.H, .slice A2 p.t.length c2, .slice B2 p.o.length d2], .bool true]) (by simp [results, Tryz.results77, go_sem, r0, r1, r2, r3]) rfl ⟨_, by rw [HZ.out], by rw [HZ.out]; exact ⟨A2, c2, B2, d2, rfl, ownsRow_base (own_set4 HT.out (by omega)) (by omega), ownsRow_base (own_set4 HO.out (by omega)) (by omega)⟩, ?_⟩
    exact below_set4 HB.out zR
def coefT : List (Int × Int) -> Int -> Int
 |[], _ => 0
 |p :: r, m => if (p.1 == m) = true then p.2 else coefT r m
def turnC (c f : Int) : Int := if (f == 1) = true then (-c) % 8 else c
def foldL (t : List (Int × Int)) : Po -> List Int -> List Gt -> List Gt -> List Gt
 |_, _, acc, [] => acc
 |p, met, acc, g :: r =>
  if (units g.k == 0) = true then foldL t (applyP p g).1 met (acc ++ [g]) r
  else if met.any (· == (at2 p.o g.a).1) = true then foldL t (applyP p g).1 met acc r
  else foldL t (applyP p g).1 (met ++ [(at2 p.o g.a).1]) (acc ++ rotG (turnC (coefT t (at2 p.o g.a).1) (at2 p.o g.a).2) g.a) r
def foldP (gs : List Gt) (n : Int) : List Gt × Int :=
 if (compP gs n).2 = true then
  (foldL (compP gs n).1.t (idP n) [] [] gs, ((compP gs n).1.H - (compP (foldL (compP gs n).1.t (idP n) [] [] gs) n).1.H) % 8)
 else (gs, 0)
theorem foldP_no {gs : List Gt} {n : Int} (h : (compP gs n).2 = false) : foldP gs n = (gs, 0) := by unfold foldP; rw [h]; rfl
theorem foldP_yes {gs : List Gt} {n : Int} (h : (compP gs n).2 = true) : foldP gs n = (foldL (compP gs n).1.t (idP n) [] [] gs, ((compP gs n).1.H - (compP (foldL (compP gs n).1.t (idP n) [] [] gs) n).1.H) % 8) := by unfold foldP; rw [if_pos h]
theorem foldL_len (t : List (Int × Int)) : ∀ (r : List Gt) (p : Po) (met : List Int) (acc : List Gt), (foldL t p met acc r).length <= acc.length + 2 * r.length
 |[], _, _, acc => by simp [foldL]
 |g :: r, p, met, acc => by
  rw [foldL]
  split
  ·have := foldL_len t r (applyP p g).1 met (acc ++ [g])
   simp at this ⊢; omega
  ·split
   ·have := foldL_len t r (applyP p g).1 met acc
    simp at this ⊢; omega
   ·have := foldL_len t r (applyP p g).1 (met ++ [(at2 p.o g.a).1]) (acc ++ rotG (turnC (coefT t (at2 p.o g.a).1) (at2 p.o g.a).2) g.a)
    have h2 := rotG_len (turnC (coefT t (at2 p.o g.a).1) (at2 p.o g.a).2) g.a
    have h3 := rotK_len (turnC (coefT t (at2 p.o g.a).1) (at2 p.o g.a).2)
    rw [List.length_append] at this
    rw [List.length_cons]
    omega
theorem foldP_len (gs : List Gt) (n : Int) : (foldP gs n).1.length <= 2 * gs.length := by
 unfold foldP
 split
 ·have := foldL_len (compP gs n).1.t gs (idP n) [] []
  simpa using this
 ·show gs.length <= _; omega
theorem compL_ok {p : Po} {g : Gt} {r : List Gt} (h : (compL p (g :: r)).2 = true) : (applyP p g).2 = true /\ (compL (applyP p g).1 r).2 = true := by
 cases h2 : (applyP p g).2
 ·rw [compL_no h2] at h; cases h
 ·rw [compL_go h2] at h; exact ⟨rfl, h⟩
theorem applyP_okP {p : Po} {g : Gt} (h : (applyP p g).2 = true) : okP p g = true := by
 cases h2 : okP p g
 ·rw [applyP_no h2] at h; cases h
 ·rfl
theorem compL_fit {p : Po} {g : Gt} {r : List Gt} (h : (compL p (g :: r)).2 = true) : 0 <= g.a /\ g.a < p.o.length /\ p.o.length <= 4 := by
 have h1 := okP_parts (applyP_okP (compL_ok h).1)
 have h2 := okG_abn h1.1
 omega
theorem foldL_0 {t : List (Int × Int)} {p q : Po} {met : List Int} {acc : List Gt} {g : Gt} {r : List Gt} (hu : (units g.k == 0) = true) (hq : applyP p g = (q, true)) : foldL t p met acc (g :: r) = foldL t q met (acc ++ [g]) r := by
 rw [foldL, if_pos hu, hq]
theorem foldL_old {t : List (Int × Int)} {p q : Po} {met : List Int} {acc : List Gt} {g : Gt} {r : List Gt} {x y : Int} (hu : (units g.k == 0) = false) (hx : at2 p.o g.a = (x, y)) (hm : met.any (· == x) = true) (hq : applyP p g = (q, true)) : foldL t p met acc (g :: r) = foldL t q met acc r := by
 rw [foldL, if_neg (by rw [hu]; simp), hx, if_pos hm, hq]
theorem foldL_new {t : List (Int × Int)} {p q : Po} {met : List Int} {acc : List Gt} {g : Gt} {r : List Gt} {x y : Int} (hu : (units g.k == 0) = false) (hx : at2 p.o g.a = (x, y)) (hm : met.any (· == x) = false) (hq : applyP p g = (q, true)) : foldL t p met acc (g :: r) = foldL t q (met ++ [x]) (acc ++ rotG (turnC (coefT t x) y) g.a) r := by
 rw [foldL, if_neg (by rw [hu]; simp), hx, if_neg (by rw [hm]; simp), hq]
theorem turnC_1 {c y : Int} (h : (y == 1) = true) : turnC c y = (-c) % 8 := by unfold turnC; rw [if_pos h]
theorem turnC_0 {c y : Int} (h : (y == 1) = false) : turnC c y = c := by unfold turnC; rw [if_neg (by rw [h]; simp)]
theorem compL_next {p q : Po} {g : Gt} {r : List Gt} (h : (compL p (g :: r)).2 = true) (hq : applyP p g = (q, true)) : (compL q r).2 = true := by
 have := (compL_ok h).2
 rw [hq] at this
 exact this
theorem compP_in {gs : List Gt} {n : Int} {M : Po} (h : compP gs n = (M, true)) : inB n 1 4 = true /\ compL (idP n) gs = (M, true) := by
 cases hin : inB n 1 4
 ·unfold compP at h; rw [hin] at h; cases h
 ·unfold compP at h; rw [hin] at h; exact ⟨rfl, h⟩
theorem idP_len {n : Int} (h : inB n 1 4 = true) : (idP n).t.length = 0 /\ (idP n).o.length <= 4 := by
 obtain ⟨h1, h4⟩ := inB_iff.1 h
 have e : idP n = ⟨n, 0, [], idO n.toNat⟩ := by unfold idP; rw [if_pos h]
 rw [e]
 exact ⟨rfl, by rw [idO_len]; omega⟩
def RetGI (r : List Gt × Int) (w : World) (e : Ending) (w' : World) : Prop := ∃ A c, e = .returned (.tuple #[.slice A r.1.length c, .int .i64 r.2]) /\ w'.ownsRow w.heap.size 39 4 (.slice A r.1.length c) r.1.length (cellsG r.1) /\ Below w.heap.size w w'
def Marked (w w' : World) (v1 v2 : Value) : Prop := ∃ o wm, (w.alloc o).grownBy wm v1.ownBlock /\ wm.grownBy w' v2.ownBlock
section
variable {w w' : World} {v1 v2 : Value}
theorem Marked.size (h : Marked w w' v1 v2) : w.heap.size <= w'.heap.size := by
 obtain ⟨o, wm, h1, h2⟩ := h
 have := h1.size
 have := h2.size
 simp at *
 omega
theorem Marked.own {base n sz : Nat} {e : TypeId} {v : Value} {xs : List Value} (h : Marked w w' v1 v2) (ho : w.ownsRow base e sz v n xs) (a1 : v.ownBlock = none ∨ v.ownBlock ≠ v1.ownBlock) (a2 : v.ownBlock = none ∨ v.ownBlock ≠ v2.ownBlock) : w'.ownsRow base e sz v n xs := by
 obtain ⟨o, wm, h1, h2⟩ := h
 exact ((ho.alloc o).kept h1 a1).kept h2 a2
theorem Marked.bx {g t : Nat} {cs : Array Value} (h : Marked w w' v1 v2) (hb : Bx w g t cs) (n1 : some g ≠ v1.ownBlock) (n2 : some g ≠ v2.ownBlock) : Bx w' g t cs := by
 obtain ⟨o, wm, h1, h2⟩ := h
 exact ((hb.alloc o).grown h1 n1).grown h2 n2
theorem Marked.below {B : Nat} {a : World} (h : Marked w w' v1 v2) (hb : Below B a w) (hs : B <= w.heap.size) (l1 : ∀ k, v1.ownBlock = some k -> B <= k) (l2 : ∀ k, v2.ownBlock = some k -> B <= k) : Below B a w' := by
 obtain ⟨o, wm, h1, h2⟩ := h
 have s1 : B <= (w.alloc o).heap.size := by simp; omega
 exact ((hb.alloc hs o).grown h1 s1 l1).grown h2 (Nat.le_trans s1 h1.size) l2
end
def PolyBox (N H : Int) (t o : List (Int × Int)) (nT nO : Nat) (wz : World) (p : Value) (wx : World) : Prop :=
 ∃ (g : Nat) (A : Option Addr) (c : Nat) (B : Option Addr) (d : Nat), p = .pointer (some ⟨g, 0, none⟩) /\ Bx wx g 88 #[.int .i64 N, .int .i64 H, .slice A nT c, .slice B nO d] ∧
  wx.ownsRow wz.heap.size 128 2 (.slice A nT c) nT (cellsP t) /\ wx.ownsRow wz.heap.size 93 2 (.slice B nO d) nO (cellsP o) /\ Below wz.heap.size wz wx
section
variable {N H : Int} {t o : List (Int × Int)} {nT nO : Nat} {wz w' : World} {b g : Nat} {A B : Option Addr} {c d : Nat}
theorem PolyBox.new (hT : w'.ownsRow b 128 2 (.slice A nT c) nT (cellsP t)) (hO : w'.ownsRow b 93 2 (.slice B nO d) nO (cellsP o)) (hB : Below wz.heap.size wz w') (hb : wz.heap.size <= b) :
  PolyBox N H t o nT nO wz (.pointer (some ⟨w'.heap.size, 0, none⟩)) (w'.alloc (.cells #[.int .i64 N, .int .i64 H, .slice A nT c, .slice B nO d] 88)) :=
 ⟨_, A, c, B, d, rfl, Bx.new _ _ _, (ownsRow_base hT hb).alloc _, (ownsRow_base hO hb).alloc _, hB.alloc hB.size _⟩
end
set_option linter.unusedVariables false
theorem coefT_hit {t r : List (Int × Int)} {k : Nat} {x y m : Int} (hd : t.drop k = (x, y) :: r) (h : (x == m) = true) : coefT (t.drop k) m = y := by rw [hd, coefT, if_pos h]
theorem coefT_miss {t r : List (Int × Int)} {k : Nat} {x y m : Int} (hd : t.drop k = (x, y) :: r) (h : (x == m) = false) : coefT (t.drop k) m = coefT r m := by rw [hd, coefT, if_neg (by rw [h]; simp)]
theorem i_coef (N H : Int) (AT AO : Option Addr) (nT cT nO cO : Nat) (t : List (Int × Int)) (m : Int) (w : World) (hT : RdP w AT nT t) (b1 : nT <= 1099511627776) :
  Calls Tryz.prog 80 #[.agg #[.int .i64 N, .int .i64 H, .slice AT nT cT, .slice AO nO cO], .int .i64 m] w fun e w' => e = .returned (.int .i64 (coefT t m)) /\ Below w.heap.size w w' := by
 have HT := zH hT
 clear hT
 have BZ := zH ((Below.refl w.heap.size w).alloc zR (.cells #[.int .i64 N, .int .i64 H, .slice AT nT cT, .slice AO nO cO] 88))
 obtain ⟨R, hR⟩ : ∃ R, coefT t m = R := ⟨_, rfl⟩
 rw [hR]
 have HR := zH hR
 clear hR
 go_enter Tryz.func80, Tryz.ntmps80
 go_wp2_with fail
 go_loopg [10] nT (fun r j wr => ∃ k : Nat, k + r = nT /\ j = .int .i64 k /\ coefT (t.drop k) m = R /\ Below w.heap.size w wr)
 case atStart => exact ⟨0, by omega, rfl, HR.out, BZ.out⟩
 case round =>
  obtain ⟨k, hk, rfl, hq, hb⟩ := hrel
  have HQ := zH hq
  have HB := zH hb
  have hbs := hb.size
  clear hq hb
  by_cases hlt : k < nT
  ·obtain ⟨g, off, x, y, rfl, hBb, hd, c0, c1⟩ := (HT.out.below HB.out).at_ hlt
   have HD := zH hd
   have hkI : (k : Int) < (nT : Int) := by omega
   clear hd
   cases hxm : x == m
   ·have H1 := zH hxm
    go_wp2_with fail
    go_roundg (gk - 1)
    case measure => omega
    case rel => exact ⟨k + 1, by omega, by go_num, by rw [<- HQ.out, coefT_miss HD.out H1.out], HB.out.alloc hbs _⟩
   ·have H1 := zH hxm
    go_wp2_with fail
    go_ret
    exact ⟨ret_int (by rw [<- HQ.out, coefT_hit HD.out H1.out]), HB.out.alloc hbs _⟩
  ·have HE : Hid (0 = R) := zH (by rw [<- HQ.out, List.drop_eq_nil_of_le (by have := HT.out.1; omega)]; rfl)
   go_wp2_with fail
   go_ret
   exact ⟨ret_int HE.out, HB.out⟩
theorem s_coef (N H : Int) (AT AO : Option Addr) (nT cT nO cO : Nat) (t : List (Int × Int)) (m : Int) (w : World) (hT : RdP w AT nT t) (b1 : nT <= 1099511627776) :
  Calls Tryz.prog 103 #[.agg #[.int .i64 N, .int .i64 H, .slice AT nT cT, .slice AO nO cO], .int .i64 m] w fun e w' => e = .returned (.int .i64 (coefT t m)) /\ Below w.heap.size w w' := by
 have BZ := zH ((Below.refl w.heap.size w).alloc zR (.cells #[.int .i64 N, .int .i64 H, .slice AT nT cT, .slice AO nO cO] 88))
 have HT := zH (hT.below BZ.out)
 clear hT
 have X0 := zH (Bx.new w 88 #[.int .i64 N, .int .i64 H, .slice AT nT cT, .slice AO nO cO])
 obtain ⟨R, hR⟩ : ∃ R, coefT t m = R := ⟨_, rfl⟩
 rw [hR]
 have HR := zH hR
 clear hR
 go_enter Tryz.func103, Tryz.ntmps103
 go_wp2_with fail
 generalize w.alloc (.cells #[.int .i64 N, .int .i64 H, .slice AT nT cT, .slice AO nO cO] 88) = wz at HT X0 BZ ⊢
 obtain ⟨p0, p1, p2, p3, _⟩ := X0.out.four
 go_loopg [5] nT (fun r j wr => ∃ k : Nat, k + r = nT /\ j = .int .i64 k /\ coefT (t.drop k) m = R /\ wr = wz)
 case atStart => exact ⟨0, by omega, rfl, HR.out, rfl⟩
 case round =>
  obtain ⟨k, hk, rfl, hq, rfl⟩ := hrel
  have HQ := zH hq
  clear hq
  by_cases hlt : k < nT
  ·obtain ⟨g, off, x, y, rfl, hBb, hd, c0, c1⟩ := HT.out.at_ hlt
   have HD := zH hd
   have hkI : (k : Int) < (nT : Int) := by omega
   clear hd
   cases hxm : x == m
   ·have H1 := zH hxm
    go_wp2_with fail
    go_roundg (gk - 1)
    case measure => omega
    case rel => exact ⟨k + 1, by omega, by go_num, by rw [<- HQ.out, coefT_miss HD.out H1.out], rfl⟩
   ·have H1 := zH hxm
    go_wp2_with fail
    go_ret
    exact ⟨ret_int (by rw [<- HQ.out, coefT_hit HD.out H1.out]), BZ.out⟩
  ·have HE : Hid (0 = R) := zH (by rw [<- HQ.out, List.drop_eq_nil_of_le (by have := HT.out.1; omega)]; rfl)
   go_wp2_with fail
   go_ret
   exact ⟨ret_int HE.out, BZ.out⟩
theorem own_new_ne {w : World} {base : Nat} {e : TypeId} {sz n : Nat} {v : Value} {xs : List Value} (h : w.ownsRow base e sz v n xs) : some w.heap.size ≠ v.ownBlock := fun he => by have := (h.lt _ he.symm).2; omega
theorem own_map_ne {w : World} {base : Nat} {e : TypeId} {sz n : Nat} {v : Value} {xs : List Value} {r : Nat} {es : Array MapEntry} {ck : Nat} (h : w.ownsRow base e sz v n xs) (hm : w.heap[r]? = some (.map es ck)) : some r ≠ v.ownBlock := by
 rcases h.2 with ⟨rfl, _⟩ | ⟨g', cap, cur, rfl, _, hh, _⟩
 ·simp [Value.ownBlock]
 ·intro he
  have : r = g' := by simpa [Value.ownBlock] using he
  subst this
  rw [hm] at hh
  cases hh
theorem bx_map_ne {w : World} {g t r : Nat} {cs : Array Value} {es : Array MapEntry} {ck : Nat} (h : Bx w g t cs) (hm : w.heap[r]? = some (.map es ck)) : g ≠ r := by
 rintro rfl
 unfold Bx at h
 rw [hm] at h
 cases h
theorem own_setObjI {w : World} {base : Nat} {e : TypeId} {sz n : Nat} {v : Value} {xs : List Value} {r : Nat} {es : Array MapEntry} {ck : Nat} (h : w.ownsRow base e sz v n xs) (hm : w.heap[r]? = some (.map es ck)) (o : Obj) : ({ w with heap := w.heap.setIfInBounds r o } : World).ownsRow base e sz v n xs := by
 have hne := own_map_ne h hm
 refine ⟨h.1, ?_⟩
 rcases h.2 with h0 | ⟨g, cap, cur, hv, h2, h3, h4⟩
 ·exact .inl h0
 ·refine .inr ⟨g, cap, cur, hv, h2, ?_, h4⟩
  show (w.heap.setIfInBounds r o)[g]? = _
  rw [Array.getElem?_setIfInBounds_ne (by intro e; subst e; exact hne (by rw [hv]; rfl))]
  exact h3
theorem map_grown {w w' : World} {r : Nat} {o : Obj} {row : Option Nat} (h : w.heap[r]? = some o) (hg : w.grownBy w' row) (hne : some r ≠ row) : w'.heap[r]? = some o := (hg.block r (Array.getElem?_eq_some_iff.1 h).1 hne).trans h
theorem map_set {w : World} {r : Nat} {o : Obj} (h : w.heap[r]? = some o) {p : Addr} (u : Value) (hne : r ≠ p.block) : (w.setCell p u).heap[r]? = some o := (Below.heap_setCell w p u r hne).trans h
def FI (g6 g10 : Nat) (M : Po) (AW : Option Addr) (cW : Nat) (BW : Option Addr) (dW : Nat) (w0 : World) (p : Po) (A2 : Option Addr) (c2 : Nat) (B2 : Option Addr) (d2 : Nat) (gm : Nat) (es : Array MapEntry) (ck : Nat) (met : List Int) (A : Option Addr) (c : Nat) (acc : List Gt) (wr : World) : Prop :=
 Bx wr g6 88 #[.int .i64 M.N, .int .i64 M.H, .slice AW M.t.length cW, .slice BW M.o.length dW] /\ Bx wr g10 88 #[.int .i64 p.N, .int .i64 p.H, .slice A2 p.t.length c2, .slice B2 p.o.length d2] ∧
  wr.ownsRow w0.heap.size 128 2 (.slice AW M.t.length cW) M.t.length (cellsP M.t) /\ wr.ownsRow w0.heap.size 128 2 (.slice A2 p.t.length c2) p.t.length (cellsP p.t) /\ wr.ownsRow w0.heap.size 93 2 (.slice B2 p.o.length d2) p.o.length (cellsP p.o) ∧
  wr.ownsRow w0.heap.size 39 4 (.slice A acc.length c) acc.length (cellsG acc) /\ (wr.heap[gm]? = some (.map es ck) /\ EntsI es.toList met /\ w0.heap.size <= gm) /\ Below w0.heap.size w0 wr /\ w0.heap.size <= g10 /\ g6 ≠ g10
def FS (g6 g10 : Nat) (M : Po) (AW : Option Addr) (cW : Nat) (BW : Option Addr) (dW : Nat) (w0 : World) (p : Po) (A2 : Option Addr) (c2 : Nat) (B2 : Option Addr) (d2 : Nat) (AM : Option Addr) (cM : Nat) (met : List Int) (A : Option Addr) (c : Nat) (acc : List Gt) (wr : World) : Prop :=
 Bx wr g6 88 #[.int .i64 M.N, .int .i64 M.H, .slice AW M.t.length cW, .slice BW M.o.length dW] /\ Bx wr g10 88 #[.int .i64 p.N, .int .i64 p.H, .slice A2 p.t.length c2, .slice B2 p.o.length d2] ∧
  wr.ownsRow w0.heap.size 128 2 (.slice AW M.t.length cW) M.t.length (cellsP M.t) /\ wr.ownsRow w0.heap.size 128 2 (.slice A2 p.t.length c2) p.t.length (cellsP p.t) /\ wr.ownsRow w0.heap.size 93 2 (.slice B2 p.o.length d2) p.o.length (cellsP p.o) ∧
  wr.ownsRow w0.heap.size 39 4 (.slice A acc.length c) acc.length (cellsG acc) /\ wr.ownsRow w0.heap.size 3 1 (.slice AM met.length cM) met.length (cellsI met) /\ Below w0.heap.size w0 wr /\ w0.heap.size <= g10 /\ g6 ≠ g10
section
variable {g6 g10 : Nat} {M : Po} {AW : Option Addr} {cW : Nat} {BW : Option Addr} {dW : Nat} {w0 : World} {p : Po} {A2 : Option Addr} {c2 : Nat} {B2 : Option Addr} {d2 : Nat} {gm : Nat} {es : Array MapEntry} {ck : Nat} {met : List Int} {A : Option Addr} {c : Nat} {acc : List Gt} {wr w' : World}
theorem FI.alloc (h : FI g6 g10 M AW cW BW dW w0 p A2 c2 B2 d2 gm es ck met A c acc wr) (o : Obj) : FI g6 g10 M AW cW BW dW w0 p A2 c2 B2 d2 gm es ck met A c acc (wr.alloc o) := by
 obtain ⟨x6, x10, tw, tp, op, ga, ⟨hm, he, hgm⟩, hb, h10, hne⟩ := h
 exact ⟨x6.alloc o, x10.alloc o, tw.alloc o, tp.alloc o, op.alloc o, ga.alloc o, ⟨map_allocI hm, he, hgm⟩, hb.alloc hb.size o, h10, hne⟩
theorem FI.below (h : FI g6 g10 M AW cW BW dW w0 p A2 c2 B2 d2 gm es ck met A c acc wr) (b : Below wr.heap.size wr w') : FI g6 g10 M AW cW BW dW w0 p A2 c2 B2 d2 gm es ck met A c acc w' := by
 obtain ⟨x6, x10, tw, tp, op, ga, ⟨hm, he, hgm⟩, hb, h10, hne⟩ := h
 exact ⟨x6.below b, x10.below b, ownsRow_below tw b, ownsRow_below tp b, ownsRow_below op b, ownsRow_below ga b, ⟨map_belowI hm b, he, hgm⟩, below_trans hb b, h10, hne⟩
theorem FI.app (h : FI g6 g10 M AW cW BW dW w0 p A2 c2 B2 d2 gm es ck met A c acc wr) {A' : Option Addr} {n' c' : Nat} {acc' : List Gt} (hg : wr.grownBy w' (Value.slice A acc.length c).ownBlock) (ho : w'.ownsRow w0.heap.size 39 4 (.slice A' n' c') n' (cellsG acc')) : FI g6 g10 M AW cW BW dW w0 p A2 c2 B2 d2 gm es ck met A' c' acc' w' := by
 obtain ⟨x6, x10, tw, tp, op, ga, ⟨hm, he, hgm⟩, hb, h10, hne⟩ := h
 have hn : n' = acc'.length := by have := ho.1; rw [length_cellsG] at this; omega
 subst hn
 exact ⟨kept_app ga hg x6 (by decide), kept_app ga hg x10 (by decide), tw.kept hg (own_types tw ga (by decide)), tp.kept hg (own_types tp ga (by decide)), op.kept hg (own_types op ga (by decide)), ho, ⟨map_grown hm hg (own_map_ne ga hm), he, hgm⟩, below_grown hb hb.size ga zR hg, h10, hne⟩
theorem FI.poly (h : FI g6 g10 M AW cW BW dW w0 p A2 c2 B2 d2 gm es ck met A c acc wr) {b : Nat} {q : Po} {A6 : Option Addr} {c6 : Nat} {B6 : Option Addr} {d6 : Nat} (ht : wr.ownsRow b 128 2 (.slice A6 q.t.length c6) q.t.length (cellsP q.t)) (ho : wr.ownsRow b 93 2 (.slice B6 q.o.length d6) q.o.length (cellsP q.o)) (hbb : w0.heap.size <= b) : FI g6 g10 M AW cW BW dW w0 q A6 c6 B6 d6 gm es ck met A c acc ((((wr.setCell ⟨g10, 0, none⟩ (.int .i64 q.N)).setCell ⟨g10, 1, none⟩ (.int .i64 q.H)).setCell ⟨g10, 2, none⟩ (.slice A6 q.t.length c6)).setCell ⟨g10, 3, none⟩ (.slice B6 q.o.length d6)) := by
 obtain ⟨x6, x10, tw, tp, op, ga, ⟨hm, he, hgm⟩, hb, h10, hne⟩ := h
 exact ⟨set4K x6 hne, (((x10.s0 _).s1 _).s2 _).s3 _, own_set_ne4 tw (own_bx_ne tw x10 (by decide)), own_set_ne4 (ownsRow_base ht hbb) (own_bx_ne ht x10 (by decide)), own_set_ne4 (ownsRow_base ho hbb) (own_bx_ne ho x10 (by decide)), own_set_ne4 ga (own_bx_ne ga x10 (by decide)), ⟨map_set (map_set (map_set (map_set hm _ (bx_map_ne x10 hm).symm) _ (bx_map_ne x10 hm).symm) _ (bx_map_ne x10 hm).symm) _ (bx_map_ne x10 hm).symm, he, hgm⟩, below_set4 hb h10, h10, hne⟩
theorem FI.upd (h : FI g6 g10 M AW cW BW dW w0 p A2 c2 B2 d2 gm es ck met A c acc wr) (x : Int) : FI g6 g10 M AW cW BW dW w0 p A2 c2 B2 d2 gm (es.push { key := .int .i64 x, val := .bool true, born := ck }) (ck + 1) (met ++ [x]) A c acc { wr with heap := wr.heap.setIfInBounds gm (.map (es.push { key := .int .i64 x, val := .bool true, born := ck }) (ck + 1)) } := by
 obtain ⟨x6, x10, tw, tp, op, ga, ⟨hm, he, hgm⟩, hb, h10, hne⟩ := h
 exact ⟨x6.setObjI (bx_map_ne x6 hm) _, x10.setObjI (bx_map_ne x10 hm) _, own_setObjI tw hm _, own_setObjI tp hm _, own_setObjI op hm _, own_setObjI ga hm _, ⟨map_setObjI hm, he.push x ck, hgm⟩, below_setObjI hb hgm _, h10, hne⟩
end
section
variable {g6 g10 : Nat} {M : Po} {AW : Option Addr} {cW : Nat} {BW : Option Addr} {dW : Nat} {w0 : World} {p : Po} {A2 : Option Addr} {c2 : Nat} {B2 : Option Addr} {d2 : Nat} {AM : Option Addr} {cM : Nat} {met : List Int} {A : Option Addr} {c : Nat} {acc : List Gt} {wr w' : World}
theorem FS.alloc (h : FS g6 g10 M AW cW BW dW w0 p A2 c2 B2 d2 AM cM met A c acc wr) (o : Obj) : FS g6 g10 M AW cW BW dW w0 p A2 c2 B2 d2 AM cM met A c acc (wr.alloc o) := by
 obtain ⟨x6, x10, tw, tp, op, ga, hm, hb, h10, hne⟩ := h
 exact ⟨x6.alloc o, x10.alloc o, tw.alloc o, tp.alloc o, op.alloc o, ga.alloc o, hm.alloc o, hb.alloc hb.size o, h10, hne⟩
theorem FS.below (h : FS g6 g10 M AW cW BW dW w0 p A2 c2 B2 d2 AM cM met A c acc wr) (b : Below wr.heap.size wr w') : FS g6 g10 M AW cW BW dW w0 p A2 c2 B2 d2 AM cM met A c acc w' := by
 obtain ⟨x6, x10, tw, tp, op, ga, hm, hb, h10, hne⟩ := h
 exact ⟨x6.below b, x10.below b, ownsRow_below tw b, ownsRow_below tp b, ownsRow_below op b, ownsRow_below ga b, ownsRow_below hm b, below_trans hb b, h10, hne⟩
theorem FS.app (h : FS g6 g10 M AW cW BW dW w0 p A2 c2 B2 d2 AM cM met A c acc wr) {A' : Option Addr} {n' c' : Nat} {acc' : List Gt} (hg : wr.grownBy w' (Value.slice A acc.length c).ownBlock) (ho : w'.ownsRow w0.heap.size 39 4 (.slice A' n' c') n' (cellsG acc')) : FS g6 g10 M AW cW BW dW w0 p A2 c2 B2 d2 AM cM met A' c' acc' w' := by
 obtain ⟨x6, x10, tw, tp, op, ga, hm, hb, h10, hne⟩ := h
 have hn : n' = acc'.length := by have := ho.1; rw [length_cellsG] at this; omega
 subst hn
 exact ⟨kept_app ga hg x6 (by decide), kept_app ga hg x10 (by decide), tw.kept hg (own_types tw ga (by decide)), tp.kept hg (own_types tp ga (by decide)), op.kept hg (own_types op ga (by decide)), ho, hm.kept hg (own_types hm ga (by decide)), below_grown hb hb.size ga zR hg, h10, hne⟩
theorem FS.poly (h : FS g6 g10 M AW cW BW dW w0 p A2 c2 B2 d2 AM cM met A c acc wr) {b : Nat} {q : Po} {A6 : Option Addr} {c6 : Nat} {B6 : Option Addr} {d6 : Nat} (ht : wr.ownsRow b 128 2 (.slice A6 q.t.length c6) q.t.length (cellsP q.t)) (ho : wr.ownsRow b 93 2 (.slice B6 q.o.length d6) q.o.length (cellsP q.o)) (hbb : w0.heap.size <= b) : FS g6 g10 M AW cW BW dW w0 q A6 c6 B6 d6 AM cM met A c acc ((((wr.setCell ⟨g10, 0, none⟩ (.int .i64 q.N)).setCell ⟨g10, 1, none⟩ (.int .i64 q.H)).setCell ⟨g10, 2, none⟩ (.slice A6 q.t.length c6)).setCell ⟨g10, 3, none⟩ (.slice B6 q.o.length d6)) := by
 obtain ⟨x6, x10, tw, tp, op, ga, hm, hb, h10, hne⟩ := h
 exact ⟨set4K x6 hne, (((x10.s0 _).s1 _).s2 _).s3 _, own_set_ne4 tw (own_bx_ne tw x10 (by decide)), own_set_ne4 (ownsRow_base ht hbb) (own_bx_ne ht x10 (by decide)), own_set_ne4 (ownsRow_base ho hbb) (own_bx_ne ho x10 (by decide)), own_set_ne4 ga (own_bx_ne ga x10 (by decide)), own_set_ne4 hm (own_bx_ne hm x10 (by decide)), below_set4 hb h10, h10, hne⟩
theorem FS.metApp (h : FS g6 g10 M AW cW BW dW w0 p A2 c2 B2 d2 AM cM met A c acc wr) {A' : Option Addr} {n' c' : Nat} {met' : List Int} (hg : wr.grownBy w' (Value.slice AM met.length cM).ownBlock) (ho : w'.ownsRow w0.heap.size 3 1 (.slice A' n' c') n' (cellsI met')) : FS g6 g10 M AW cW BW dW w0 p A2 c2 B2 d2 A' c' met' A c acc w' := by
 obtain ⟨x6, x10, tw, tp, op, ga, hm, hb, h10, hne⟩ := h
 have hn : n' = met'.length := by have := ho.1; rw [length_cellsI] at this; omega
 subst hn
 exact ⟨kept_app hm hg x6 (by decide), kept_app hm hg x10 (by decide), tw.kept hg (own_types tw hm (by decide)), tp.kept hg (own_types tp hm (by decide)), op.kept hg (own_types op hm (by decide)), ga.kept hg (own_types ga hm (by decide)), ho, below_grown hb hb.size hm zR hg, h10, hne⟩
end
end Go.Proofs.YtmenmibfkojnoaaGreat
