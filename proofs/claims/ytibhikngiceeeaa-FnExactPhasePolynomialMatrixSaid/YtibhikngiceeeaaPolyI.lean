/- Contracts of IdentityPhasePolynomial (impl and spec). Nothing is asked. -/
import Derived.Test.YtibhikngiceeeaaPolyC
import Derived.Deep.RegionLaw
namespace Go.Proofs.Ytibhikngiceeeaa
open Go.RowKit

theorem und_grown {W w' : World} {r : Option Nat} (h : W.drew.grownBy w' r) : W.grownBy w' r := ⟨h.os, h.tape, h.output, h.size, h.block⟩

set_option maxRecDepth 100000 in
set_option maxHeartbeats 3200000 in
theorem s_IdP (n : Int) (w : World) : Calls Try.prog 69 #[.int .i64 n] w (RetPoly (idP n).N (idP n).H (idP n).t (idP n).o w) := by
  cases hin : inB n 1 4
  · have HI := Lib.hid hin
    have he : idP n = Po.zero := by unfold idP; rw [hin]; rfl
    rw [he]
    clear he hin
    go_enter Try.func69, Try.ntmps69
    go_wp2_with fail
    refine (s_in _ _ _ _).mono ?_
    rintro e w' ⟨rfl, rfl⟩
    rw [HI.out]
    go_wp2_with fail
    refine bodyPost_ret (v := .agg #[.int .i64 0, .int .i64 0, .slice none 0 0, .slice none 0 0]) (by simp [results, Try.results69, go_sem]) rfl ⟨_, rfl, ⟨none, 0, none, 0, rfl, World.ownsRow_nil _ _ _ _, World.ownsRow_nil _ _ _ _⟩, ?_⟩
    exact (by repeat (first | exact Below.refl _ _ | assumption | refine Below.drew ?_ | refine Below.alloc ?_ (by simp <;> omega) _))
  · obtain ⟨h1, h4⟩ := inB_iff.1 hin
    obtain ⟨m, rfl⟩ : ∃ m : Nat, n = m := ⟨n.toNat, by omega⟩
    have HI := Lib.hid hin
    have he : idP m = ⟨m, 0, [], idO m⟩ := by unfold idP; rw [hin]; rfl
    rw [he]
    clear he hin
    have X1 := Lib.hid (show Bx ((w.alloc (.cells #[.int .i64 0, .int .i64 0, .slice none 0 0, .slice none 0 0] 32)).alloc (.cells #[.int .i64 (m : Int), .int .i64 0, .slice none 0 0, .slice none 0 0] 32)) w.heap.size 32 _ from (Bx.new w _ _).alloc _)
    have X2 := Lib.hid (show Bx ((w.alloc (.cells #[.int .i64 0, .int .i64 0, .slice none 0 0, .slice none 0 0] 32)).alloc (.cells #[.int .i64 (m : Int), .int .i64 0, .slice none 0 0, .slice none 0 0] 32)) (w.heap.size + 1) 32 _ from Bx.new' (by simp))
    have BZ : Hid (Below w.heap.size w ((w.alloc (.cells #[.int .i64 0, .int .i64 0, .slice none 0 0, .slice none 0 0] 32)).alloc (.cells #[.int .i64 (m : Int), .int .i64 0, .slice none 0 0, .slice none 0 0] 32))) := Lib.hid (((Below.refl _ _).alloc (Nat.le_refl _) _).alloc (by simp) _)
    have hz2 : (Value.agg #[.int .i64 0, .int .i64 0]).cells.size = 2 := rfl
    go_enter Try.func69, Try.ntmps69
    go_wp2_with fail
    refine (s_in _ _ _ _).mono ?_
    rintro e w' ⟨rfl, rfl⟩
    rw [HI.out]
    go_wp2_with fail
    go_loopg [4] m (fun r i wr => ∃ (k : Nat) (A0 : Option Addr) (c0 : Nat), k + r = m ∧ i = .int .i64 k ∧ Bx wr w.heap.size 32 #[.int .i64 0, .int .i64 0, .slice none 0 0, .slice none 0 0] ∧ Bx wr (w.heap.size + 1) 32 #[.int .i64 (m : Int), .int .i64 0, .slice none 0 0, .slice A0 k c0] ∧ wr.ownsRow (w.heap.size + 1 + 1) 109 2 (.slice A0 k c0) k (cellsP (idO k)) ∧ Below w.heap.size w wr ∧ w.heap.size + 1 + 1 ≤ wr.heap.size)
    case atStart => exact ⟨0, none, 0, by omega, rfl, X1.out, X2.out, World.ownsRow_nil _ _ _ _, BZ.out, X2.out.lt⟩
    case round =>
      clear X1 X2 BZ
      obtain ⟨k, A0, c0, hk, rfl, hx1, hx2, ho, hb, hsz⟩ := hrel
      have HX1 := Lib.hid hx1
      have HX2 := Lib.hid hx2
      have HO := Lib.hid ho
      have HB := Lib.hid hb
      clear hx1 hx2 ho hb
      obtain ⟨p0, p1, p2, p3, f0, f1, f2, f3⟩ := HX2.out.four
      have n0 : w.heap.size + 1 < wr.heap.size := HX2.out.lt
      by_cases hlt : k < m
      · have hcase : k = 0 ∨ k = 1 ∨ k = 2 ∨ k = 3 := by omega
        have END : ∀ (v : Int) (w5 : World) (A5 : Option Addr) (c5 : Nat), v = 2 ^ k → w5.ownsRow (w.heap.size + 1 + 1) 109 2 (.slice A5 (k + 1) c5) (k + 1) (cellsP (idO k) ++ [.int .i64 v, .int .i64 0]) → (wr.alloc (.cells #[.int .i64 v, .int .i64 0] 109)).grownBy w5 (Value.slice A0 k c0).ownBlock → Hid (Bx w5 (w.heap.size + 1) 32 #[.int .i64 (m : Int), .int .i64 0, .slice none 0 0, .slice A0 k c0]) ∧ Hid (Bx (w5.setCell ⟨w.heap.size + 1, 3, none⟩ (.slice A5 (k + 1) c5)) w.heap.size 32 #[.int .i64 0, .int .i64 0, .slice none 0 0, .slice none 0 0] ∧ Bx (w5.setCell ⟨w.heap.size + 1, 3, none⟩ (.slice A5 (k + 1) c5)) (w.heap.size + 1) 32 #[.int .i64 (m : Int), .int .i64 0, .slice none 0 0, .slice A5 (k + 1) c5] ∧ (w5.setCell ⟨w.heap.size + 1, 3, none⟩ (.slice A5 (k + 1) c5)).ownsRow (w.heap.size + 1 + 1) 109 2 (.slice A5 (k + 1) c5) (k + 1) (cellsP (idO (k + 1))) ∧ Below w.heap.size w (w5.setCell ⟨w.heap.size + 1, 3, none⟩ (.slice A5 (k + 1) c5)) ∧ w.heap.size + 1 + 1 ≤ (w5.setCell ⟨w.heap.size + 1, 3, none⟩ (.slice A5 (k + 1) c5)).heap.size) := by
          rintro v w5 A5 c5 rfl o5 g5
          have oa := HO.out.alloc (.cells #[.int .i64 (2 ^ k), .int .i64 0] 109)
          have y1 := kept_app oa g5 (HX1.out.alloc _) (by decide)
          have y2 := kept_app oa g5 (HX2.out.alloc _) (by decide)
          have hs := g5.size
          simp only [World.size_alloc] at hs
          refine ⟨Lib.hid y2, Lib.hid ⟨y1.far (by simp) _, y2.s3 _, own_set (by rw [idO_snoc, cellsP_append]; exact o5) (by show w.heap.size + 1 < _; omega) _, (below_grown (HB.out.alloc (by omega) _) (by simp; omega) oa (by omega) g5).setCell (by simp) _, by simp [World.setCell]; omega⟩⟩
        have OA : ∀ v : Int, Hid ((wr.alloc (.cells #[.int .i64 v, .int .i64 0] 109)).ownsRow (w.heap.size + 1 + 1) 109 2 (.slice A0 k c0) k (cellsP (idO k))) := fun v => Lib.hid (HO.out.alloc _)
        have EN := Lib.hid END
        clear END
        rcases hcase with rfl | rfl | rfl | rfl
        · have OV := OA 1
          clear OA
          go_wp2_with (at_builtin; refine wpList_app rfl (.tmp 17) (.tmp 22) 30 rfl Try.underlying30 infoAffineForm rfl (by decide) rfl OV.out rfl (Rd.lit _ 109 #[.int .i64 1, .int .i64 0] 1 2 rfl) (by simp [Value.oneCell']) (by omega) (by decide) (by simp <;> omega) ?_; intro A5 c5 w5 o5 g5; have ⟨Y2, YE⟩ := EN.out 1 w5 A5 c5 rfl o5 g5; have ⟨q0, q1, q2, q3, e0, e1, e2, e3⟩ := Y2.out.four)
          go_roundg (gk - 1)
          all_goals first
            | omega
            | exact ⟨1, A5, c5, by omega, by go_num, YE.out⟩
        · have OV := OA 2
          clear OA
          go_wp2_with (at_builtin; refine wpList_app rfl (.tmp 17) (.tmp 22) 30 rfl Try.underlying30 infoAffineForm rfl (by decide) rfl OV.out rfl (Rd.lit _ 109 #[.int .i64 2, .int .i64 0] 1 2 rfl) (by simp [Value.oneCell']) (by omega) (by decide) (by simp <;> omega) ?_; intro A5 c5 w5 o5 g5; have ⟨Y2, YE⟩ := EN.out 2 w5 A5 c5 rfl o5 g5; have ⟨q0, q1, q2, q3, e0, e1, e2, e3⟩ := Y2.out.four)
          go_roundg (gk - 1)
          all_goals first
            | omega
            | exact ⟨2, A5, c5, by omega, by go_num, YE.out⟩
        · have OV := OA 4
          clear OA
          go_wp2_with (at_builtin; refine wpList_app rfl (.tmp 17) (.tmp 22) 30 rfl Try.underlying30 infoAffineForm rfl (by decide) rfl OV.out rfl (Rd.lit _ 109 #[.int .i64 4, .int .i64 0] 1 2 rfl) (by simp [Value.oneCell']) (by omega) (by decide) (by simp <;> omega) ?_; intro A5 c5 w5 o5 g5; have ⟨Y2, YE⟩ := EN.out 4 w5 A5 c5 rfl o5 g5; have ⟨q0, q1, q2, q3, e0, e1, e2, e3⟩ := Y2.out.four)
          go_roundg (gk - 1)
          all_goals first
            | omega
            | exact ⟨3, A5, c5, by omega, by go_num, YE.out⟩
        · have OV := OA 8
          clear OA
          go_wp2_with (at_builtin; refine wpList_app rfl (.tmp 17) (.tmp 22) 30 rfl Try.underlying30 infoAffineForm rfl (by decide) rfl OV.out rfl (Rd.lit _ 109 #[.int .i64 8, .int .i64 0] 1 2 rfl) (by simp [Value.oneCell']) (by omega) (by decide) (by simp <;> omega) ?_; intro A5 c5 w5 o5 g5; have ⟨Y2, YE⟩ := EN.out 8 w5 A5 c5 rfl o5 g5; have ⟨q0, q1, q2, q3, e0, e1, e2, e3⟩ := Y2.out.four)
          go_roundg (gk - 1)
          all_goals first
            | omega
            | exact ⟨4, A5, c5, by omega, by go_num, YE.out⟩
      · obtain rfl : k = m := by omega
        obtain ⟨q0, q1, q2, q3, e0, e1, e2, e3⟩ := HX1.out.four
        go_wp2_with fail
        refine bodyPost_ret (v := .agg #[.int .i64 (k : Int), .int .i64 0, .slice none 0 0, .slice A0 k c0]) (by simp [results, Try.results69, go_sem, q0, q1, q2, q3]) rfl ⟨_, rfl, ⟨none, 0, A0, c0, by rw [idO_len]; rfl, World.ownsRow_nil _ _ _ _, ?_⟩, ?_⟩
        · rw [idO_len]
          exact ownsRow_base (own_set4 HO.out (by omega)) (by omega)
        · exact below_set4 HB.out (Nat.le_refl _)

set_option maxRecDepth 100000 in
set_option maxHeartbeats 3200000 in
theorem i_IdP (n : Int) (w : World) : Calls Try.prog 67 #[.int .i64 n] w (RetPoly (idP n).N (idP n).H (idP n).t (idP n).o w) := by
  cases hin : inB n 1 4
  · have HI := Lib.hid hin
    have he : idP n = Po.zero := by unfold idP; rw [hin]; rfl
    rw [he]
    clear he hin
    go_enter Try.func67, Try.ntmps67
    go_wp2_with fail
    refine (i_in _ _ _ _).mono ?_
    rintro e w' ⟨rfl, rfl⟩
    rw [HI.out]
    go_wp2_with fail
    refine bodyPost_ret (v := .agg #[.int .i64 0, .int .i64 0, .slice none 0 0, .slice none 0 0]) (by simp [results, Try.results67, go_sem]) rfl ⟨_, rfl, ⟨none, 0, none, 0, rfl, World.ownsRow_nil _ _ _ _, World.ownsRow_nil _ _ _ _⟩, ?_⟩
    exact (by repeat (first | exact Below.refl _ _ | assumption | refine Below.drew ?_ | refine Below.alloc ?_ (by simp <;> omega) _))
  · obtain ⟨h1, h4⟩ := inB_iff.1 hin
    obtain ⟨m, rfl⟩ : ∃ m : Nat, n = m := ⟨n.toNat, by omega⟩
    have HI := Lib.hid hin
    have he : idP m = ⟨m, 0, [], idO m⟩ := by unfold idP; rw [hin]; rfl
    rw [he]
    clear he hin
    have X1 := Lib.hid (show Bx ((w.alloc (.cells #[.int .i64 0, .int .i64 0, .slice none 0 0, .slice none 0 0] 32)).alloc (.cells #[.int .i64 (m : Int), .int .i64 0, .slice none 0 0, .slice none 0 0] 32)) w.heap.size 32 _ from (Bx.new w _ _).alloc _)
    have X2 := Lib.hid (show Bx ((w.alloc (.cells #[.int .i64 0, .int .i64 0, .slice none 0 0, .slice none 0 0] 32)).alloc (.cells #[.int .i64 (m : Int), .int .i64 0, .slice none 0 0, .slice none 0 0] 32)) (w.heap.size + 1) 32 _ from Bx.new' (by simp))
    have BZ : Hid (Below w.heap.size w ((w.alloc (.cells #[.int .i64 0, .int .i64 0, .slice none 0 0, .slice none 0 0] 32)).alloc (.cells #[.int .i64 (m : Int), .int .i64 0, .slice none 0 0, .slice none 0 0] 32))) := Lib.hid (((Below.refl _ _).alloc (Nat.le_refl _) _).alloc (by simp) _)
    have hz2 : (Value.agg #[.int .i64 0, .int .i64 0]).cells.size = 2 := rfl
    go_enter Try.func67, Try.ntmps67
    go_wp2_with fail
    refine (i_in _ _ _ _).mono ?_
    rintro e w' ⟨rfl, rfl⟩
    rw [HI.out]
    go_wp2_with fail
    go_loopg [4] m (fun r i wr => ∃ (k : Nat) (A0 : Option Addr) (c0 : Nat), k + r = m ∧ i = .int .i64 k ∧ Bx wr w.heap.size 32 #[.int .i64 0, .int .i64 0, .slice none 0 0, .slice none 0 0] ∧ Bx wr (w.heap.size + 1) 32 #[.int .i64 (m : Int), .int .i64 0, .slice none 0 0, .slice A0 k c0] ∧ wr.ownsRow (w.heap.size + 1 + 1) 109 2 (.slice A0 k c0) k (cellsP (idO k)) ∧ Below w.heap.size w wr ∧ w.heap.size + 1 + 1 ≤ wr.heap.size)
    case atStart => exact ⟨0, none, 0, by omega, rfl, X1.out, X2.out, World.ownsRow_nil _ _ _ _, BZ.out, X2.out.lt⟩
    case round =>
      clear X1 X2 BZ
      obtain ⟨k, A0, c0, hk, rfl, hx1, hx2, ho, hb, hsz⟩ := hrel
      have HX1 := Lib.hid hx1
      have HX2 := Lib.hid hx2
      have HO := Lib.hid ho
      have HB := Lib.hid hb
      clear hx1 hx2 ho hb
      obtain ⟨p0, p1, p2, p3, f0, f1, f2, f3⟩ := HX2.out.four
      have n0 : w.heap.size + 1 < wr.heap.size := HX2.out.lt
      by_cases hlt : k < m
      · have hcase : k = 0 ∨ k = 1 ∨ k = 2 ∨ k = 3 := by omega
        have END : ∀ (v : Int) (w5 : World) (A5 : Option Addr) (c5 : Nat), v = 2 ^ k → w5.ownsRow (w.heap.size + 1 + 1) 109 2 (.slice A5 (k + 1) c5) (k + 1) (cellsP (idO k) ++ [.int .i64 v, .int .i64 0]) → (wr.alloc (.cells #[.int .i64 v, .int .i64 0] 109)).grownBy w5 (Value.slice A0 k c0).ownBlock → Hid (Bx w5 (w.heap.size + 1) 32 #[.int .i64 (m : Int), .int .i64 0, .slice none 0 0, .slice A0 k c0]) ∧ Hid (Bx (w5.setCell ⟨w.heap.size + 1, 3, none⟩ (.slice A5 (k + 1) c5)) w.heap.size 32 #[.int .i64 0, .int .i64 0, .slice none 0 0, .slice none 0 0] ∧ Bx (w5.setCell ⟨w.heap.size + 1, 3, none⟩ (.slice A5 (k + 1) c5)) (w.heap.size + 1) 32 #[.int .i64 (m : Int), .int .i64 0, .slice none 0 0, .slice A5 (k + 1) c5] ∧ (w5.setCell ⟨w.heap.size + 1, 3, none⟩ (.slice A5 (k + 1) c5)).ownsRow (w.heap.size + 1 + 1) 109 2 (.slice A5 (k + 1) c5) (k + 1) (cellsP (idO (k + 1))) ∧ Below w.heap.size w (w5.setCell ⟨w.heap.size + 1, 3, none⟩ (.slice A5 (k + 1) c5)) ∧ w.heap.size + 1 + 1 ≤ (w5.setCell ⟨w.heap.size + 1, 3, none⟩ (.slice A5 (k + 1) c5)).heap.size) := by
          rintro v w5 A5 c5 rfl o5 g5
          have oa := HO.out.alloc (.cells #[.int .i64 (2 ^ k), .int .i64 0] 109)
          have y1 := kept_app oa g5 (HX1.out.alloc _) (by decide)
          have y2 := kept_app oa g5 (HX2.out.alloc _) (by decide)
          have hs := g5.size
          simp only [World.size_alloc] at hs
          refine ⟨Lib.hid y2, Lib.hid ⟨y1.far (by simp) _, y2.s3 _, own_set (by rw [idO_snoc, cellsP_append]; exact o5) (by show w.heap.size + 1 < _; omega) _, (below_grown (HB.out.alloc (by omega) _) (by simp; omega) oa (by omega) g5).setCell (by simp) _, by simp [World.setCell]; omega⟩⟩
        have OA : ∀ v : Int, Hid ((wr.alloc (.cells #[.int .i64 v, .int .i64 0] 109)).drew.ownsRow (w.heap.size + 1 + 1) 109 2 (.slice A0 k c0) k (cellsP (idO k))) := fun v => Lib.hid (HO.out.alloc _)
        have EN := Lib.hid END
        clear END
        rcases hcase with rfl | rfl | rfl | rfl
        · have OV := OA 1
          clear OA
          have hw : IntKind.i64.wrap 1 = 1 := by decide
          go_wp2_with fail
          go_region_law (first
            | (refine step_app (by rfl) (.tmp 17) (.tmp 21) 30 (by rfl) Try.underlying30 infoAffineForm hz2 (by decide) (by simp [Act.eval] <;> rfl) OV.out (by simp [Act.eval] <;> rfl) (Rd.drew (Rd.lit wr 109 #[.int .i64 1, .int .i64 0] 1 2 rfl)) (by simp [Value.oneCell']) (by omega) (by decide) (by simp <;> omega) ?_; intro A5 c5 w5 o5 g5; have ⟨Y2, YE⟩ := EN.out 1 w5 A5 c5 rfl o5 (und_grown g5); have ⟨q0, q1, q2, q3, e0, e1, e2, e3⟩ := Y2.out.four))
          all_goals go_wp2_with fail
          all_goals go_roundg (gk - 1)
          all_goals first
            | omega
            | exact ⟨1, A5, c5, by omega, by go_num, YE.out⟩
        · have OV := OA 2
          clear OA
          have hw : IntKind.i64.wrap 2 = 2 := by decide
          go_wp2_with fail
          go_region_law (first
            | (refine step_app (by rfl) (.tmp 17) (.tmp 21) 30 (by rfl) Try.underlying30 infoAffineForm hz2 (by decide) (by simp [Act.eval] <;> rfl) OV.out (by simp [Act.eval] <;> rfl) (Rd.drew (Rd.lit wr 109 #[.int .i64 2, .int .i64 0] 1 2 rfl)) (by simp [Value.oneCell']) (by omega) (by decide) (by simp <;> omega) ?_; intro A5 c5 w5 o5 g5; have ⟨Y2, YE⟩ := EN.out 2 w5 A5 c5 rfl o5 (und_grown g5); have ⟨q0, q1, q2, q3, e0, e1, e2, e3⟩ := Y2.out.four))
          all_goals go_wp2_with fail
          all_goals go_roundg (gk - 1)
          all_goals first
            | omega
            | exact ⟨2, A5, c5, by omega, by go_num, YE.out⟩
        · have OV := OA 4
          clear OA
          have hw : IntKind.i64.wrap 4 = 4 := by decide
          go_wp2_with fail
          go_region_law (first
            | (refine step_app (by rfl) (.tmp 17) (.tmp 21) 30 (by rfl) Try.underlying30 infoAffineForm hz2 (by decide) (by simp [Act.eval] <;> rfl) OV.out (by simp [Act.eval] <;> rfl) (Rd.drew (Rd.lit wr 109 #[.int .i64 4, .int .i64 0] 1 2 rfl)) (by simp [Value.oneCell']) (by omega) (by decide) (by simp <;> omega) ?_; intro A5 c5 w5 o5 g5; have ⟨Y2, YE⟩ := EN.out 4 w5 A5 c5 rfl o5 (und_grown g5); have ⟨q0, q1, q2, q3, e0, e1, e2, e3⟩ := Y2.out.four))
          all_goals go_wp2_with fail
          all_goals go_roundg (gk - 1)
          all_goals first
            | omega
            | exact ⟨3, A5, c5, by omega, by go_num, YE.out⟩
        · have OV := OA 8
          clear OA
          have hw : IntKind.i64.wrap 8 = 8 := by decide
          go_wp2_with fail
          go_region_law (first
            | (refine step_app (by rfl) (.tmp 17) (.tmp 21) 30 (by rfl) Try.underlying30 infoAffineForm hz2 (by decide) (by simp [Act.eval] <;> rfl) OV.out (by simp [Act.eval] <;> rfl) (Rd.drew (Rd.lit wr 109 #[.int .i64 8, .int .i64 0] 1 2 rfl)) (by simp [Value.oneCell']) (by omega) (by decide) (by simp <;> omega) ?_; intro A5 c5 w5 o5 g5; have ⟨Y2, YE⟩ := EN.out 8 w5 A5 c5 rfl o5 (und_grown g5); have ⟨q0, q1, q2, q3, e0, e1, e2, e3⟩ := Y2.out.four))
          all_goals go_wp2_with fail
          all_goals go_roundg (gk - 1)
          all_goals first
            | omega
            | exact ⟨4, A5, c5, by omega, by go_num, YE.out⟩
      · obtain rfl : k = m := by omega
        obtain ⟨q0, q1, q2, q3, e0, e1, e2, e3⟩ := HX1.out.four
        go_wp2_with fail
        refine bodyPost_ret (v := .agg #[.int .i64 (k : Int), .int .i64 0, .slice none 0 0, .slice A0 k c0]) (by simp [results, Try.results67, go_sem, q0, q1, q2, q3]) rfl ⟨_, rfl, ⟨none, 0, A0, c0, by rw [idO_len]; rfl, World.ownsRow_nil _ _ _ _, ?_⟩, ?_⟩
        · rw [idO_len]
          exact ownsRow_base (own_set4 HO.out (by omega)) (by omega)
        · exact below_set4 HB.out (Nat.le_refl _)

end Go.Proofs.Ytibhikngiceeeaa
