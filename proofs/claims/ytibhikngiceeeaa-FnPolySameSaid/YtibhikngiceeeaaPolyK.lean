/- Plain facts on ComputePhasePolynomial; its contract (impl). At most 2^36 gates. -/
import Derived.Test.YtibhikngiceeeaaPolyG
import Derived.Test.YtibhikngiceeeaaPolyH
import Derived.Test.YtibhikngiceeeaaPolyI
namespace Go.Proofs.Ytibhikngiceeeaa
open Go.RowKit

theorem applyP_bd (p : Po) (g : Gt) : (applyP p g).1.t.length ≤ p.t.length + 1 ∧ (applyP p g).1.o.length ≤ p.o.length ∧ ((applyP p g).2 = true → (applyP p g).1.N = p.N) := by
  cases h : okP p g
  · rw [applyP_no h]; exact ⟨by simp [Po.zero], by simp [Po.zero], fun h => by cases h⟩
  · rw [applyP_yes h]
    unfold actP
    split
    · exact ⟨by simp, by simp, fun _ => rfl⟩
    split
    · exact ⟨by simp, by simp, fun _ => rfl⟩
    split
    · exact ⟨by simp, by simp, fun _ => rfl⟩
    split
    · exact ⟨by simp [Po.zero], by simp [Po.zero], fun h => by cases h⟩
    split
    · exact ⟨addT_len _ _ _, Nat.le_refl _, fun _ => rfl⟩
    · exact ⟨addT_len _ _ _, Nat.le_refl _, fun _ => rfl⟩
theorem own_set_ne4 {w' : World} {base g1 : Nat} {e : TypeId} {sz n : Nat} {v : Value} {xs : List Value} {a b c d : Value} (h : w'.ownsRow base e sz v n xs) (hg : some g1 ≠ v.ownBlock) : ((((w'.setCell ⟨g1, 0, none⟩ a).setCell ⟨g1, 1, none⟩ b).setCell ⟨g1, 2, none⟩ c).setCell ⟨g1, 3, none⟩ d).ownsRow base e sz v n xs :=
  own_set_ne (own_set_ne (own_set_ne (own_set_ne h (p := ⟨g1, 0, none⟩) hg a) (p := ⟨g1, 1, none⟩) hg b) (p := ⟨g1, 2, none⟩) hg c) (p := ⟨g1, 3, none⟩) hg d
theorem compL_go {p : Po} {g : Gt} {r : List Gt} (h : (applyP p g).2 = true) : compL p (g :: r) = compL (applyP p g).1 r := by rw [compL, if_pos h]
theorem compL_no {p : Po} {g : Gt} {r : List Gt} (h : (applyP p g).2 = false) : compL p (g :: r) = (Po.zero, false) := by rw [compL, if_neg (by rw [h]; simp)]
theorem compL_bd : ∀ (gs : List Gt) (p : Po), (compL p gs).1.t.length ≤ p.t.length + gs.length ∧ (compL p gs).1.o.length ≤ p.o.length
  | [], p => ⟨by simp [compL], by simp [compL]⟩
  | g :: r, p => by
    cases h : (applyP p g).2
    · rw [compL_no h]; exact ⟨by simp [Po.zero], by simp [Po.zero]⟩
    · rw [compL_go h]
      have h1 := compL_bd r (applyP p g).1
      have h2 := applyP_bd p g
      rw [List.length_cons]
      exact ⟨by omega, by omega⟩
theorem compP_bd (gs : List Gt) (n : Int) : (compP gs n).1.t.length ≤ gs.length ∧ (compP gs n).1.o.length ≤ 4 := by
  unfold compP
  split
  · have h := inB_iff.1 ‹_›
    have h1 := compL_bd gs (idP n)
    have e : idP n = ⟨n, 0, [], idO n.toNat⟩ := by unfold idP; rw [if_pos ‹_›]
    rw [e] at h1 ⊢
    simp only [List.length_nil, idO_len] at h1
    exact ⟨by omega, by omega⟩
  · exact ⟨by simp [Po.zero], by simp [Po.zero]⟩

set_option maxRecDepth 100000 in
set_option maxHeartbeats 3200000 in
theorem i_CompP (A : Option Addr) (n cap : Nat) (gs : List Gt) (N : Int) (w : World) (h : RdG w A n gs) (hn : n ≤ 68719476736) :
    Calls Try.prog 20 #[.slice A n cap, .int .i64 N] w (RetPB (compP gs N) w) := by
  have H := Lib.hid h
  have HL := Lib.hid h.1
  clear h
  have X0 := Lib.hid (Bx.new w 32 #[.int .i64 0, .int .i64 0, .slice none 0 0, .slice none 0 0])
  have BZ : Hid (Below w.heap.size w (w.alloc (.cells #[.int .i64 0, .int .i64 0, .slice none 0 0, .slice none 0 0] 32))) := Lib.hid ((Below.refl _ _).alloc (Nat.le_refl _) _)
  obtain ⟨R, hR⟩ : ∃ R, compP gs N = R := ⟨_, rfl⟩
  have HR := Lib.hid hR
  rw [hR]
  clear hR
  cases hin : inB N 1 4
  · have HI := Lib.hid hin
    have HZ : Hid (R = (Po.zero, false)) := Lib.hid (by rw [← HR.out]; unfold compP; rw [hin]; rfl)
    rw [HZ.out]
    clear hin
    obtain ⟨r0, r1, r2, r3, _⟩ := X0.out.four
    go_enter Try.func20, Try.ntmps20
    go_wp2_with fail
    refine (i_in _ _ _ _).mono ?_
    rintro e w' ⟨rfl, rfl⟩
    rw [HI.out]
    go_wp2_with fail
    refine bodyPost_ret (v := .tuple #[.agg #[.int .i64 0, .int .i64 0, .slice none 0 0, .slice none 0 0], .bool false]) (by simp [results, Try.results20, go_sem]) rfl ⟨_, rfl, ⟨none, 0, none, 0, rfl, World.ownsRow_nil _ _ _ _, World.ownsRow_nil _ _ _ _⟩, ?_⟩
    exact (by repeat (first | exact Below.refl _ _ | assumption | refine Below.drew ?_ | refine Below.alloc ?_ (by simp <;> omega) _))
  · have HI := Lib.hid hin
    have HC : Hid (compL (idP N) gs = R) := Lib.hid (by rw [← HR.out]; unfold compP; rw [hin]; rfl)
    obtain ⟨hN1, hN4⟩ := inB_iff.1 hin
    have hid0 : (idP N).t.length = 0 ∧ (idP N).o.length ≤ 4 := by
      have e : idP N = ⟨N, 0, [], idO N.toNat⟩ := by unfold idP; rw [if_pos hin]
      rw [e]; exact ⟨rfl, by rw [idO_len]; omega⟩
    have HID := Lib.hid hid0
    clear hin hN1 hN4 hid0 HR
    go_enter Try.func20, Try.ntmps20
    go_wp2_with fail
    refine (i_in _ _ _ _).mono ?_
    rintro e w' ⟨rfl, rfl⟩
    rw [HI.out]
    go_wp2_with fail
    refine (i_IdP _ _).mono ?_
    rintro e w1 ⟨v, rfl, ⟨A1, c1, B1, d1, rfl, t1, o1⟩, b1⟩
    have X1 := Lib.hid ((X0.out.below b1).alloc (.cells #[.int .i64 (idP N).N, .int .i64 (idP N).H, .slice A1 (idP N).t.length c1, .slice B1 (idP N).o.length d1] 32))
    have XP := Lib.hid (Bx.new w1 32 #[.int .i64 (idP N).N, .int .i64 (idP N).H, .slice A1 (idP N).t.length c1, .slice B1 (idP N).o.length d1])
    have T1 := Lib.hid (ownsRow_base (t1.alloc (.cells #[.int .i64 (idP N).N, .int .i64 (idP N).H, .slice A1 (idP N).t.length c1, .slice B1 (idP N).o.length d1] 32)) (show w.heap.size + 1 ≤ _ by simp))
    have O1 := Lib.hid (ownsRow_base (o1.alloc (.cells #[.int .i64 (idP N).N, .int .i64 (idP N).H, .slice A1 (idP N).t.length c1, .slice B1 (idP N).o.length d1] 32)) (show w.heap.size + 1 ≤ _ by simp))
    have BB := Lib.hid ((below_trans BZ.out b1).alloc (below_trans BZ.out b1).size (.cells #[.int .i64 (idP N).N, .int .i64 (idP N).H, .slice A1 (idP N).t.length c1, .slice B1 (idP N).o.length d1] 32))
    have hs1 : w.heap.size < w1.heap.size := (X0.out.below b1).lt
    clear t1 o1 b1 X0 BZ
    generalize idP N = p0 at HC HID X1 XP T1 O1 BB ⊢
    go_wp2_with fail
    generalize hgp : w1.heap.size = gp at XP hs1 ⊢
    go_loopg [19] n (fun r i wr => ∃ (k : Nat) (p : Po) (A2 : Option Addr) (c2 : Nat) (B2 : Option Addr) (d2 : Nat), k + r = n ∧ i = .int .i64 k ∧ compL p (gs.drop k) = R ∧ p.t.length ≤ k ∧ p.o.length ≤ 4 ∧ Bx wr w.heap.size 32 #[.int .i64 0, .int .i64 0, .slice none 0 0, .slice none 0 0] ∧ Bx wr gp 32 #[.int .i64 p.N, .int .i64 p.H, .slice A2 p.t.length c2, .slice B2 p.o.length d2] ∧ wr.ownsRow (w.heap.size + 1) 107 2 (.slice A2 p.t.length c2) p.t.length (cellsP p.t) ∧ wr.ownsRow (w.heap.size + 1) 109 2 (.slice B2 p.o.length d2) p.o.length (cellsP p.o) ∧ Below w.heap.size w wr)
    case atStart => exact ⟨0, p0, A1, c1, B1, d1, by omega, rfl, HC.out, by have := HID.out.1; omega, HID.out.2, X1.out, XP.out, T1.out, O1.out, BB.out⟩
    case round =>
      clear X1 XP T1 O1 BB HC HID
      obtain ⟨k, p, A2, c2, B2, d2, hk, rfl, hq, htl, hol, hx0, hxp, ht, ho, hbw⟩ := hrel
      have HQ := Lib.hid hq
      have HX0 := Lib.hid hx0
      have HXP := Lib.hid hxp
      have HT := Lib.hid ht
      have HO := Lib.hid ho
      have HB := Lib.hid hbw
      have hbs := hbw.size
      have hcap := ownsRow_cap ht
      have hl0 := hx0.lt
      have hlp := hxp.lt
      clear hq hx0 hxp ht ho hbw
      obtain ⟨p0', p1, p2, p3, f0, f1, f2, f3⟩ := HXP.out.four
      by_cases hlt : k < n
      · obtain ⟨bb, off, g, rfl, hBb, hd, c0, c1', c2', c3⟩ := (H.out.below HB.out).at_ hlt
        have HD := Lib.hid hd
        have hkI : (k : Int) < (n : Int) := by omega
        have hk0 : (0 : Int) ≤ (k : Int) := by omega
        clear hd
        have GB := Lib.hid (Bx.new wr 55 #[.int .i64 g.k, .int .i64 g.a, .int .i64 g.b, .int .i64 g.c])
        go_wp2_with fail
        refine (i_ApplyP p.N p.H A2 p.t.length c2 p.t B2 p.o.length d2 p.o g _ (RdP.own (HT.out.alloc _)) (RdP.own (HO.out.alloc _)) (by omega) (by omega) hcap).mono ?_
        rintro e w5 ⟨v, rfl, ⟨A5, c5, B5, d5, rfl, t5, o5⟩, b5'⟩
        have b5 := below_alloc b5'
        have hbd := applyP_bd p g
        obtain ⟨q, hq⟩ : ∃ q, applyP p g = q := ⟨_, rfl⟩
        rw [show applyP ⟨p.N, p.H, p.t, p.o⟩ g = q from hq] at t5 o5 ⊢
        rw [hq] at hbd
        have hb1 := hbd.1
        have hb2 := hbd.2.1
        clear hbd
        have HQQ := Lib.hid hq
        have X5 := Lib.hid (HX0.out.below b5)
        have XP5 := Lib.hid (HXP.out.below b5)
        have B5w := Lib.hid (below_trans HB.out b5)
        have hl05 := X5.out.lt
        have hlp5 := XP5.out.lt
        obtain ⟨r0, r1, r2, r3, e0, e1, e2, e3⟩ := X5.out.four
        obtain ⟨s0, s1, s2, s3, g0, g1, g2, g3⟩ := XP5.out.four
        have T5 := Lib.hid (ownsRow_base t5 (show w.heap.size + 1 ≤ _ by simp; omega))
        have O5 := Lib.hid (ownsRow_base o5 (show w.heap.size + 1 ≤ _ by simp; omega))
        have hcap5 := ownsRow_cap t5
        clear t5 o5 b5 b5' hq p0' p1 p2 p3 f0 f1 f2 f3
        obtain ⟨⟨qN, qH, qt, qo⟩, qb⟩ := q
        dsimp only at *
        cases qb
        · have HZ : Hid (R = (Po.zero, false)) := Lib.hid (by rw [← HQ.out, HD.out, compL_no (by rw [HQQ.out])])
          go_wp2_with fail
          refine bodyPost_ret (v := .tuple #[.agg #[.int .i64 0, .int .i64 0, .slice none 0 0, .slice none 0 0], .bool false]) (by simp [results, Try.results20, go_sem, r0, r1, r2, r3, hl05]) rfl ⟨_, by rw [HZ.out], by rw [HZ.out]; exact ⟨none, 0, none, 0, rfl, World.ownsRow_nil _ _ _ _, World.ownsRow_nil _ _ _ _⟩, ?_⟩
          exact below_al (below_set4 B5w.out (Nat.le_refl _))
        · go_wp2_with fail
          go_roundg (gk - 1)
          case measure => omega
          case rel =>
            exact ⟨k + 1, ⟨qN, qH, qt, qo⟩, A5, c5, B5, d5, by omega, by go_num, by rw [← HQ.out, HD.out, compL_go (by rw [HQQ.out]), HQQ.out], by show qt.length ≤ k + 1; omega, by show qo.length ≤ 4; omega, (set4K X5.out (by omega)).alloc _, ((((XP5.out.s0 _).s1 _).s2 _).s3 _).alloc _, (own_set_ne4 T5.out (own_bx_ne T5.out XP5.out (by decide))).alloc _, (own_set_ne4 O5.out (own_bx_ne O5.out XP5.out (by decide))).alloc _, below_al (below_set4 B5w.out (by omega))⟩
      · have hkn : k = n := by omega
        have HZ : Hid (R = (p, true)) := Lib.hid (by rw [← HQ.out, List.drop_eq_nil_of_le (by have := HL.out; omega)]; rfl)
        obtain ⟨r0, r1, r2, r3, e0, e1, e2, e3⟩ := HX0.out.four
        go_wp2_with fail
        refine bodyPost_ret (v := .tuple #[.agg #[.int .i64 p.N, .int .i64 p.H, .slice A2 p.t.length c2, .slice B2 p.o.length d2], .bool true]) (by simp [results, Try.results20, go_sem, r0, r1, r2, r3]) rfl ⟨_, by rw [HZ.out], by rw [HZ.out]; exact ⟨A2, c2, B2, d2, rfl, ownsRow_base (own_set4 HT.out (by omega)) (by omega), ownsRow_base (own_set4 HO.out (by omega)) (by omega)⟩, ?_⟩
        exact below_set4 HB.out (Nat.le_refl _)
end Go.Proofs.Ytibhikngiceeeaa
