/- Contracts of IdentityPhasePolynomial (impl and spec). Nothing is asked. Contract of l32Add (spec): a term added to the terms. At most 2^39 terms. Plain facts on gates that fit a polynomial; what PhasePolynomialApplyGate comes to. -/
import Derived.Test.YtmenmibfkojnoaaGreatQ23
import Derived.Test.YtmenmibfkojnoaaGreatQ09
import Derived.Deep.RegionLaw
import Derived.Outline
set_option maxHeartbeats 16000000
namespace Go.Proofs.YtmenmibfkojnoaaGreat
open Go.RowKit
theorem und_grown {W w' : World} {r : Option Nat} (h : W.drew.grownBy w' r) : W.grownBy w' r := ⟨h.os, h.tape, h.output, h.size, h.block⟩
set_option maxRecDepth 100000 in
theorem s_IdP (n : Int) (w : World) : Calls Tryz.prog 100 #[.int .i64 n] w (RetPoly (idP n).N (idP n).H (idP n).t (idP n).o w) := by
 cases hin : inB n 1 4
 ·have HI := zH hin
  have he : idP n = Po.zero := by unfold idP; rw [hin]; rfl
  rw [he]
  clear he hin
  go_enter Tryz.func100, Tryz.ntmps100
  go_wp2_with fail
  refine (s_in _ _ _ _).mono ?_
  rintro e w' ⟨rfl, rfl⟩
  rw [HI.out]
  go_wp2_with fail
  refine bodyPost_ret (v := .agg #[.int .i64 0, .int .i64 0, .slice none 0 0, .slice none 0 0]) (by simp [results, Tryz.results100, go_sem]) rfl ⟨_, rfl, ⟨none, 0, none, 0, rfl, World.ownsRow_nil _ _ _ _, World.ownsRow_nil _ _ _ _⟩, ?_⟩
  exact (by repeat (first | exact zW | assumption | refine Below.drew ?_ | refine Below.alloc ?_ (by simp <;> omega) _))
 ·obtain ⟨h1, h4⟩ := inB_iff.1 hin
  obtain ⟨m, rfl⟩ : ∃ m : Nat, n = m := ⟨n.toNat, by omega⟩
  have HI := zH hin
  have he : idP m = ⟨m, 0, [], idO m⟩ := by unfold idP; rw [hin]; rfl
  rw [he]
  clear he hin
  have X1 := zH (show Bx ((w.alloc (.cells #[.int .i64 0, .int .i64 0, .slice none 0 0, .slice none 0 0] 88)).alloc (.cells #[.int .i64 (m : Int), .int .i64 0, .slice none 0 0, .slice none 0 0] 88)) w.heap.size 88 _ from (Bx.new w _ _).alloc _)
  have X2 := zH (show Bx ((w.alloc (.cells #[.int .i64 0, .int .i64 0, .slice none 0 0, .slice none 0 0] 88)).alloc (.cells #[.int .i64 (m : Int), .int .i64 0, .slice none 0 0, .slice none 0 0] 88)) (w.heap.size + 1) 88 _ from Bx.new' (by simp))
  have BZ : Hid (Below w.heap.size w ((w.alloc (.cells #[.int .i64 0, .int .i64 0, .slice none 0 0, .slice none 0 0] 88)).alloc (.cells #[.int .i64 (m : Int), .int .i64 0, .slice none 0 0, .slice none 0 0] 88))) := zH (((zW).alloc zR _).alloc (by simp) _)
  have hz2 : (Value.agg #[.int .i64 0, .int .i64 0]).cells.size = 2 := rfl
  go_enter Tryz.func100, Tryz.ntmps100
  go_wp2_with fail
  refine (s_in _ _ _ _).mono ?_
  rintro e w' ⟨rfl, rfl⟩
  rw [HI.out]
  go_wp2_with fail
  go_loopg [4] m (fun r i wr => ∃ (k : Nat) (A0 : Option Addr) (c0 : Nat), k + r = m /\ i = .int .i64 k /\ Bx wr w.heap.size 88 #[.int .i64 0, .int .i64 0, .slice none 0 0, .slice none 0 0] /\ Bx wr (w.heap.size + 1) 88 #[.int .i64 (m : Int), .int .i64 0, .slice none 0 0, .slice A0 k c0] /\ wr.ownsRow (w.heap.size + 1 + 1) 93 2 (.slice A0 k c0) k (cellsP (idO k)) /\ Below w.heap.size w wr /\ w.heap.size + 1 + 1 <= wr.heap.size)
  case atStart => exact ⟨0, none, 0, by omega, rfl, X1.out, X2.out, World.ownsRow_nil _ _ _ _, BZ.out, X2.out.lt⟩
  case round =>
   clear X1 X2 BZ
   obtain ⟨k, A0, c0, hk, rfl, hx1, hx2, ho, hb, hsz⟩ := hrel
   have HX1 := zH hx1
   have HX2 := zH hx2
   have HO := zH ho
   have HB := zH hb
   clear hx1 hx2 ho hb
   obtain ⟨p0, p1, p2, p3, f0, f1, f2, f3⟩ := HX2.out.four
   have n0 : w.heap.size + 1 < wr.heap.size := HX2.out.lt
   by_cases hlt : k < m
   ·have hcase : k = 0 ∨ k = 1 ∨ k = 2 ∨ k = 3 := by omega
    have END : ∀ (v : Int) (w5 : World) (A5 : Option Addr) (c5 : Nat), v = 2 ^ k -> w5.ownsRow (w.heap.size + 1 + 1) 93 2 (.slice A5 (k + 1) c5) (k + 1) (cellsP (idO k) ++ [.int .i64 v, .int .i64 0]) -> (wr.alloc (.cells #[.int .i64 v, .int .i64 0] 93)).grownBy w5 (Value.slice A0 k c0).ownBlock -> Hid (Bx w5 (w.heap.size + 1) 88 #[.int .i64 (m : Int), .int .i64 0, .slice none 0 0, .slice A0 k c0]) /\ Hid (Bx (w5.setCell ⟨w.heap.size + 1, 3, none⟩ (.slice A5 (k + 1) c5)) w.heap.size 88 #[.int .i64 0, .int .i64 0, .slice none 0 0, .slice none 0 0] /\ Bx (w5.setCell ⟨w.heap.size + 1, 3, none⟩ (.slice A5 (k + 1) c5)) (w.heap.size + 1) 88 #[.int .i64 (m : Int), .int .i64 0, .slice none 0 0, .slice A5 (k + 1) c5] /\ (w5.setCell ⟨w.heap.size + 1, 3, none⟩ (.slice A5 (k + 1) c5)).ownsRow (w.heap.size + 1 + 1) 93 2 (.slice A5 (k + 1) c5) (k + 1) (cellsP (idO (k + 1))) /\ Below w.heap.size w (w5.setCell ⟨w.heap.size + 1, 3, none⟩ (.slice A5 (k + 1) c5)) /\ w.heap.size + 1 + 1 <= (w5.setCell ⟨w.heap.size + 1, 3, none⟩ (.slice A5 (k + 1) c5)).heap.size) := by
     rintro v w5 A5 c5 rfl o5 g5
     have oa := HO.out.alloc (.cells #[.int .i64 (2 ^ k), .int .i64 0] 93)
     have y1 := kept_app oa g5 (HX1.out.alloc _) (by decide)
     have y2 := kept_app oa g5 (HX2.out.alloc _) (by decide)
     have hs := g5.size
     simp only [World.size_alloc] at hs
     refine ⟨zH y2, zH ⟨y1.far (by simp) _, y2.s3 _, own_set (by rw [idO_snoc, cellsP_append]; exact o5) (by show w.heap.size + 1 < _; omega) _, (below_grown (HB.out.alloc (by omega) _) (by simp; omega) oa (by omega) g5).setCell (by simp) _, by simp [World.setCell]; omega⟩⟩
    have OA : ∀ v : Int, Hid ((wr.alloc (.cells #[.int .i64 v, .int .i64 0] 93)).ownsRow (w.heap.size + 1 + 1) 93 2 (.slice A0 k c0) k (cellsP (idO k))) := fun v => zH (HO.out.alloc _)
    have EN := zH END
    clear END
    rcases hcase with rfl | rfl | rfl | rfl
    ·have OV := OA 1
     clear OA
     go_wp2_with (at_builtin; refine wpList_app rfl (.tmp 17) (.tmp 22) 86 rfl Tryz.underlying86 infoAffineForm rfl (by decide) rfl OV.out rfl (Rd.lit _ 93 #[.int .i64 1, .int .i64 0] 1 2 rfl) (by simp [Value.oneCell']) (by omega) (by decide) (by simp <;> omega) ?_; intro A5 c5 w5 o5 g5; have ⟨Y2, YE⟩ := EN.out 1 w5 A5 c5 rfl o5 g5; have ⟨q0, q1, q2, q3, e0, e1, e2, e3⟩ := Y2.out.four)
     go_roundg (gk - 1)
     all_goals first
      |omega
      |exact ⟨1, A5, c5, by omega, by go_num, YE.out⟩
    ·have OV := OA 2
     clear OA
     go_wp2_with (at_builtin; refine wpList_app rfl (.tmp 17) (.tmp 22) 86 rfl Tryz.underlying86 infoAffineForm rfl (by decide) rfl OV.out rfl (Rd.lit _ 93 #[.int .i64 2, .int .i64 0] 1 2 rfl) (by simp [Value.oneCell']) (by omega) (by decide) (by simp <;> omega) ?_; intro A5 c5 w5 o5 g5; have ⟨Y2, YE⟩ := EN.out 2 w5 A5 c5 rfl o5 g5; have ⟨q0, q1, q2, q3, e0, e1, e2, e3⟩ := Y2.out.four)
     go_roundg (gk - 1)
     all_goals first
      |omega
      |exact ⟨2, A5, c5, by omega, by go_num, YE.out⟩
    ·have OV := OA 4
     clear OA
     go_wp2_with (at_builtin; refine wpList_app rfl (.tmp 17) (.tmp 22) 86 rfl Tryz.underlying86 infoAffineForm rfl (by decide) rfl OV.out rfl (Rd.lit _ 93 #[.int .i64 4, .int .i64 0] 1 2 rfl) (by simp [Value.oneCell']) (by omega) (by decide) (by simp <;> omega) ?_; intro A5 c5 w5 o5 g5; have ⟨Y2, YE⟩ := EN.out 4 w5 A5 c5 rfl o5 g5; have ⟨q0, q1, q2, q3, e0, e1, e2, e3⟩ := Y2.out.four)
     go_roundg (gk - 1)
     all_goals first
      |omega
      |exact ⟨3, A5, c5, by omega, by go_num, YE.out⟩
    ·have OV := OA 8
     clear OA
     go_wp2_with (at_builtin; refine wpList_app rfl (.tmp 17) (.tmp 22) 86 rfl Tryz.underlying86 infoAffineForm rfl (by decide) rfl OV.out rfl (Rd.lit _ 93 #[.int .i64 8, .int .i64 0] 1 2 rfl) (by simp [Value.oneCell']) (by omega) (by decide) (by simp <;> omega) ?_; intro A5 c5 w5 o5 g5; have ⟨Y2, YE⟩ := EN.out 8 w5 A5 c5 rfl o5 g5; have ⟨q0, q1, q2, q3, e0, e1, e2, e3⟩ := Y2.out.four)
     go_roundg (gk - 1)
     all_goals first
      |omega
      |exact ⟨4, A5, c5, by omega, by go_num, YE.out⟩
   ·obtain rfl : k = m := by omega
    obtain ⟨q0, q1, q2, q3, e0, e1, e2, e3⟩ := HX1.out.four
    go_wp2_with fail
    refine bodyPost_ret (v := .agg #[.int .i64 (k : Int), .int .i64 0, .slice none 0 0, .slice A0 k c0]) (by simp [results, Tryz.results100, go_sem, q0, q1, q2, q3]) rfl ⟨_, rfl, ⟨none, 0, A0, c0, by rw [idO_len]; rfl, World.ownsRow_nil _ _ _ _, ?_⟩, ?_⟩
    ·rw [idO_len]
     exact ownsRow_base (own_set4 HO.out (by omega)) (by omega)
    ·exact below_set4 HB.out zR
set_option maxRecDepth 100000 in
theorem i_IdP (n : Int) (w : World) : Calls Tryz.prog 78 #[.int .i64 n] w (RetPoly (idP n).N (idP n).H (idP n).t (idP n).o w) := by
 cases hin : inB n 1 4
 ·have HI := zH hin
  have he : idP n = Po.zero := by unfold idP; rw [hin]; rfl
  rw [he]
  clear he hin
  go_enter Tryz.func78, Tryz.ntmps78
  go_wp2_with fail
  refine (i_in _ _ _ _).mono ?_
  rintro e w' ⟨rfl, rfl⟩
  rw [HI.out]
  go_wp2_with fail
  refine bodyPost_ret (v := .agg #[.int .i64 0, .int .i64 0, .slice none 0 0, .slice none 0 0]) (by simp [results, Tryz.results78, go_sem]) rfl ⟨_, rfl, ⟨none, 0, none, 0, rfl, World.ownsRow_nil _ _ _ _, World.ownsRow_nil _ _ _ _⟩, ?_⟩
  exact (by repeat (first | exact zW | assumption | refine Below.drew ?_ | refine Below.alloc ?_ (by simp <;> omega) _))
 ·obtain ⟨h1, h4⟩ := inB_iff.1 hin
  obtain ⟨m, rfl⟩ : ∃ m : Nat, n = m := ⟨n.toNat, by omega⟩
  have HI := zH hin
  have he : idP m = ⟨m, 0, [], idO m⟩ := by unfold idP; rw [hin]; rfl
  rw [he]
  clear he hin
  have X1 := zH (show Bx ((w.alloc (.cells #[.int .i64 0, .int .i64 0, .slice none 0 0, .slice none 0 0] 88)).alloc (.cells #[.int .i64 (m : Int), .int .i64 0, .slice none 0 0, .slice none 0 0] 88)) w.heap.size 88 _ from (Bx.new w _ _).alloc _)
  have X2 := zH (show Bx ((w.alloc (.cells #[.int .i64 0, .int .i64 0, .slice none 0 0, .slice none 0 0] 88)).alloc (.cells #[.int .i64 (m : Int), .int .i64 0, .slice none 0 0, .slice none 0 0] 88)) (w.heap.size + 1) 88 _ from Bx.new' (by simp))
  have BZ : Hid (Below w.heap.size w ((w.alloc (.cells #[.int .i64 0, .int .i64 0, .slice none 0 0, .slice none 0 0] 88)).alloc (.cells #[.int .i64 (m : Int), .int .i64 0, .slice none 0 0, .slice none 0 0] 88))) := zH (((zW).alloc zR _).alloc (by simp) _)
  have hz2 : (Value.agg #[.int .i64 0, .int .i64 0]).cells.size = 2 := rfl
  go_enter Tryz.func78, Tryz.ntmps78
  go_wp2_with fail
  refine (i_in _ _ _ _).mono ?_
  rintro e w' ⟨rfl, rfl⟩
  rw [HI.out]
  go_wp2_with fail
  go_loopg [4] m (fun r i wr => ∃ (k : Nat) (A0 : Option Addr) (c0 : Nat), k + r = m /\ i = .int .i64 k /\ Bx wr w.heap.size 88 #[.int .i64 0, .int .i64 0, .slice none 0 0, .slice none 0 0] /\ Bx wr (w.heap.size + 1) 88 #[.int .i64 (m : Int), .int .i64 0, .slice none 0 0, .slice A0 k c0] /\ wr.ownsRow (w.heap.size + 1 + 1) 93 2 (.slice A0 k c0) k (cellsP (idO k)) /\ Below w.heap.size w wr /\ w.heap.size + 1 + 1 <= wr.heap.size)
  case atStart => exact ⟨0, none, 0, by omega, rfl, X1.out, X2.out, World.ownsRow_nil _ _ _ _, BZ.out, X2.out.lt⟩
  case round =>
   clear X1 X2 BZ
   obtain ⟨k, A0, c0, hk, rfl, hx1, hx2, ho, hb, hsz⟩ := hrel
   have HX1 := zH hx1
   have HX2 := zH hx2
   have HO := zH ho
   have HB := zH hb
   clear hx1 hx2 ho hb
   obtain ⟨p0, p1, p2, p3, f0, f1, f2, f3⟩ := HX2.out.four
   have n0 : w.heap.size + 1 < wr.heap.size := HX2.out.lt
   by_cases hlt : k < m
   ·have hcase : k = 0 ∨ k = 1 ∨ k = 2 ∨ k = 3 := by omega
    have END : ∀ (v : Int) (w5 : World) (A5 : Option Addr) (c5 : Nat), v = 2 ^ k -> w5.ownsRow (w.heap.size + 1 + 1) 93 2 (.slice A5 (k + 1) c5) (k + 1) (cellsP (idO k) ++ [.int .i64 v, .int .i64 0]) -> (wr.alloc (.cells #[.int .i64 v, .int .i64 0] 93)).grownBy w5 (Value.slice A0 k c0).ownBlock -> Hid (Bx w5 (w.heap.size + 1) 88 #[.int .i64 (m : Int), .int .i64 0, .slice none 0 0, .slice A0 k c0]) /\ Hid (Bx (w5.setCell ⟨w.heap.size + 1, 3, none⟩ (.slice A5 (k + 1) c5)) w.heap.size 88 #[.int .i64 0, .int .i64 0, .slice none 0 0, .slice none 0 0] /\ Bx (w5.setCell ⟨w.heap.size + 1, 3, none⟩ (.slice A5 (k + 1) c5)) (w.heap.size + 1) 88 #[.int .i64 (m : Int), .int .i64 0, .slice none 0 0, .slice A5 (k + 1) c5] /\ (w5.setCell ⟨w.heap.size + 1, 3, none⟩ (.slice A5 (k + 1) c5)).ownsRow (w.heap.size + 1 + 1) 93 2 (.slice A5 (k + 1) c5) (k + 1) (cellsP (idO (k + 1))) /\ Below w.heap.size w (w5.setCell ⟨w.heap.size + 1, 3, none⟩ (.slice A5 (k + 1) c5)) /\ w.heap.size + 1 + 1 <= (w5.setCell ⟨w.heap.size + 1, 3, none⟩ (.slice A5 (k + 1) c5)).heap.size) := by
     rintro v w5 A5 c5 rfl o5 g5
     have oa := HO.out.alloc (.cells #[.int .i64 (2 ^ k), .int .i64 0] 93)
     have y1 := kept_app oa g5 (HX1.out.alloc _) (by decide)
     have y2 := kept_app oa g5 (HX2.out.alloc _) (by decide)
     have hs := g5.size
     simp only [World.size_alloc] at hs
     refine ⟨zH y2, zH ⟨y1.far (by simp) _, y2.s3 _, own_set (by rw [idO_snoc, cellsP_append]; exact o5) (by show w.heap.size + 1 < _; omega) _, (below_grown (HB.out.alloc (by omega) _) (by simp; omega) oa (by omega) g5).setCell (by simp) _, by simp [World.setCell]; omega⟩⟩
    have OA : ∀ v : Int, Hid ((wr.alloc (.cells #[.int .i64 v, .int .i64 0] 93)).drew.ownsRow (w.heap.size + 1 + 1) 93 2 (.slice A0 k c0) k (cellsP (idO k))) := fun v => zH (HO.out.alloc _)
    have EN := zH END
    clear END
    rcases hcase with rfl | rfl | rfl | rfl
    ·have OV := OA 1
     clear OA
     have hw : IntKind.i64.wrap 1 = 1 := by decide
     go_wp2_with fail
     go_region_law (first
      |(refine step_app (by rfl) (.tmp 17) (.tmp 21) 86 (by rfl) Tryz.underlying86 infoAffineForm hz2 (by decide) (by simp [Act.eval] <;> rfl) OV.out (by simp [Act.eval] <;> rfl) (Rd.drew (Rd.lit wr 93 #[.int .i64 1, .int .i64 0] 1 2 rfl)) (by simp [Value.oneCell']) (by omega) (by decide) (by simp <;> omega) ?_; intro A5 c5 w5 o5 g5; have ⟨Y2, YE⟩ := EN.out 1 w5 A5 c5 rfl o5 (und_grown g5); have ⟨q0, q1, q2, q3, e0, e1, e2, e3⟩ := Y2.out.four))
     all_goals go_wp2_with fail
     all_goals go_roundg (gk - 1)
     all_goals first
      |omega
      |exact ⟨1, A5, c5, by omega, by go_num, YE.out⟩
    ·have OV := OA 2
     clear OA
     have hw : IntKind.i64.wrap 2 = 2 := by decide
     go_wp2_with fail
     go_region_law (first
      |(refine step_app (by rfl) (.tmp 17) (.tmp 21) 86 (by rfl) Tryz.underlying86 infoAffineForm hz2 (by decide) (by simp [Act.eval] <;> rfl) OV.out (by simp [Act.eval] <;> rfl) (Rd.drew (Rd.lit wr 93 #[.int .i64 2, .int .i64 0] 1 2 rfl)) (by simp [Value.oneCell']) (by omega) (by decide) (by simp <;> omega) ?_; intro A5 c5 w5 o5 g5; have ⟨Y2, YE⟩ := EN.out 2 w5 A5 c5 rfl o5 (und_grown g5); have ⟨q0, q1, q2, q3, e0, e1, e2, e3⟩ := Y2.out.four))
     all_goals go_wp2_with fail
     all_goals go_roundg (gk - 1)
     all_goals first
      |omega
      |exact ⟨2, A5, c5, by omega, by go_num, YE.out⟩
    ·have OV := OA 4
     clear OA
     have hw : IntKind.i64.wrap 4 = 4 := by decide
     go_wp2_with fail
     go_region_law (first
      |(refine step_app (by rfl) (.tmp 17) (.tmp 21) 86 (by rfl) Tryz.underlying86 infoAffineForm hz2 (by decide) (by simp [Act.eval] <;> rfl) OV.out (by simp [Act.eval] <;> rfl) (Rd.drew (Rd.lit wr 93 #[.int .i64 4, .int .i64 0] 1 2 rfl)) (by simp [Value.oneCell']) (by omega) (by decide) (by simp <;> omega) ?_; intro A5 c5 w5 o5 g5; have ⟨Y2, YE⟩ := EN.out 4 w5 A5 c5 rfl o5 (und_grown g5); have ⟨q0, q1, q2, q3, e0, e1, e2, e3⟩ := Y2.out.four))
     all_goals go_wp2_with fail
     all_goals go_roundg (gk - 1)
     all_goals first
      |omega
      |exact ⟨3, A5, c5, by omega, by go_num, YE.out⟩
    ·have OV := OA 8
     clear OA
     have hw : IntKind.i64.wrap 8 = 8 := by decide
     go_wp2_with fail
     go_region_law (first
      |(refine step_app (by rfl) (.tmp 17) (.tmp 21) 86 (by rfl) Tryz.underlying86 infoAffineForm hz2 (by decide) (by simp [Act.eval] <;> rfl) OV.out (by simp [Act.eval] <;> rfl) (Rd.drew (Rd.lit wr 93 #[.int .i64 8, .int .i64 0] 1 2 rfl)) (by simp [Value.oneCell']) (by omega) (by decide) (by simp <;> omega) ?_; intro A5 c5 w5 o5 g5; have ⟨Y2, YE⟩ := EN.out 8 w5 A5 c5 rfl o5 (und_grown g5); have ⟨q0, q1, q2, q3, e0, e1, e2, e3⟩ := Y2.out.four))
     all_goals go_wp2_with fail
     all_goals go_roundg (gk - 1)
     all_goals first
      |omega
      |exact ⟨4, A5, c5, by omega, by go_num, YE.out⟩
   ·obtain rfl : k = m := by omega
    obtain ⟨q0, q1, q2, q3, e0, e1, e2, e3⟩ := HX1.out.four
    go_wp2_with fail
    refine bodyPost_ret (v := .agg #[.int .i64 (k : Int), .int .i64 0, .slice none 0 0, .slice A0 k c0]) (by simp [results, Tryz.results78, go_sem, q0, q1, q2, q3]) rfl ⟨_, rfl, ⟨none, 0, A0, c0, by rw [idO_len]; rfl, World.ownsRow_nil _ _ _ _, ?_⟩, ?_⟩
    ·rw [idO_len]
     exact ownsRow_base (own_set4 HO.out (by omega)) (by omega)
    ·exact below_set4 HB.out zR
def atI (m : Int) (k : Nat) (l : List (Int × Int)) : Int :=
 match atL m k l with
 |some j => j
 |none => -1
theorem atI_hit {m : Int} {k : Nat} {p : Int × Int} {r : List (Int × Int)} (h : (p.1 == m) = true) : atI m k (p :: r) = k := by unfold atI; rw [atL, if_pos h]
theorem atI_miss {m : Int} {k : Nat} {p : Int × Int} {r : List (Int × Int)} (h : (p.1 == m) = false) : atI m k (p :: r) = atI m (k + 1) r := by unfold atI; rw [atL, h]; rfl
theorem plL_stop {m : Int} {k : Nat} {p : Int × Int} {r : List (Int × Int)} (h : m < p.1) : plL m k (p :: r) = k := by rw [plL, if_neg (by simp; omega)]
theorem plL_go {m : Int} {k : Nat} {p : Int × Int} {r : List (Int × Int)} (h : p.1 <= m) : plL m k (p :: r) = plL m (k + 1) r := by rw [plL, if_pos (by simpa using h)]
theorem sl_lP (A : Option Addr) (n c lo : Nat) (h1 : lo <= n) (w : World) :
  (Instr.slice 85 (.slice A n c) (some (.int .i64 (lo : Int))) none none).run Tryz.prog w = .ok (.slice (if c = lo then A else A.map (·.add (lo * 2))) (n - lo) (c - lo)) w := by
 have hz : (sizeOf (Tryz.prog.elem 85)).run Tryz.prog w = .ok 2 w := by kernel_rfl
 rw [run_slice_l w 85 A n c (by kernel_rfl) .i64 lo (by omega) (by omega), hz]
 simp only [Result.andThen, sliced, Int.toNat_natCast]
theorem sl_hPo (A : Option Addr) (n c hi : Nat) (h2 : hi <= c) (w : World) :
  (Instr.slice 85 (.slice A n c) none (some (.int .i64 (hi : Int))) none).run Tryz.prog w = .ok (.slice A hi c) w := by
 have hz : (sizeOf (Tryz.prog.elem 85)).run Tryz.prog w = .ok 2 w := by kernel_rfl
 rw [run_slice_h w 85 A n c (by kernel_rfl) .i64 hi (by omega) (by omega), hz]
 simp only [Result.andThen, sliced, Int.toNat_natCast]
 cases A <;> simp [Addr.add]
theorem RdP.pre {w : World} {A : Option Addr} {n : Nat} {gs : List (Int × Int)} (h : RdP w A n gs) {k : Nat} (hk : k <= n) : RdP w A k (gs.take k) :=
 ⟨by rw [List.length_take, h.1]; omega, by rw [cellsP_take]; exact h.2.pre hk⟩
theorem RdP.cut {w : World} {A : Option Addr} {n : Nat} {gs : List (Int × Int)} (h : RdP w A n gs) {k cap : Nat} (hk : k <= n) (hc : n <= cap) : RdP w (if cap = k then A else A.map (·.add (k * 2))) (n - k) (gs.drop k) :=
 ⟨by rw [List.length_drop, h.1], by rw [cellsP_drop]; exact h.2.cut hk hc⟩
theorem own_some {w : World} {base : Nat} {e : TypeId} {sz n c : Nat} {A : Option Addr} {xs : List Value} (h : w.ownsRow base e sz (.slice A n c) n xs) (hn : 0 < n) : ∃ g, A = some ⟨g, 0, none⟩ := by
 rcases h.2 with ⟨_, h0⟩ | ⟨g, _, _, hv, _⟩
 ·omega
 ·injection hv with hv _ _; exact ⟨g, hv⟩
theorem set_bump (l : List (Int × Int)) (k : Nat) (c : Int) (x y : Int) (hd : l.drop k = (x, y) :: l.drop (k + 1)) : (cellsP l).set (k * 2 + 1) (.int .i64 ((y + c) % 8)) = cellsP (bump l k c) := by
 have hk : k < l.length := by
  rcases Nat.lt_or_ge k l.length with h | h
  ·exact h
  ·rw [List.drop_eq_nil_of_le h] at hd; cases hd
 have hx : l[k]? = some (x, y) := by have := congrArg (fun r => r[0]?) hd; simpa using this
 have hb : bump l k c = l.take k ++ (x, (y + c) % 8) :: l.drop (k + 1) := by
  unfold bump
  rw [List.getD_eq_getElem?_getD, hx, Option.getD_some, List.set_eq_take_append_cons_drop, if_pos hk]
 have hl : l = l.take k ++ (x, y) :: l.drop (k + 1) := by rw [<- hd, List.take_append_drop]
 rw [hb, cellsP_append]
 conv => lhs; rw [hl, cellsP_append]
 rw [List.set_append]
 have hlen : (cellsP (l.take k)).length = k * 2 := by rw [length_cellsP, List.length_take]; omega
 rw [if_neg (by omega), hlen]
 simp [cellsP, show k * 2 + 1 - k * 2 = 1 by omega]
theorem ins_own {w : World} {base n : Nat} {e : TypeId} {v : Value} {a b l : List (Int × Int)} {m : Int} (h : l = a ++ (m, 0) :: b) (ho : w.ownsRow base e 2 v n (cellsP a ++ [.int .i64 m, .int .i64 0] ++ cellsP b)) : w.ownsRow base e 2 v n (cellsP l) := by
 have e1 : cellsP l = cellsP a ++ [.int .i64 m, .int .i64 0] ++ cellsP b := by rw [h, cellsP_append]; simp [cellsP]
 rw [e1]; exact ho
theorem bump_prep {wx : World} {base B : Nat} {w : World} {A : Option Addr} {L cX : Nat} {b : List (Int × Int)} (k : Nat) (c : Int) (e : TypeId) (ho : wx.ownsRow base e 2 (.slice A L cX) L (cellsP b)) (hk : k < b.length) (hb : Below B w wx) (hB : B <= base) :
  ∃ (g : Nat) (x y : Int), A = some ⟨g, 0, none⟩ /\ wx.cell? ⟨g, k * 2, none⟩ = some (.int .i64 x) /\ wx.cell? ⟨g, k * 2 + 1, none⟩ = some (.int .i64 y) /\ wx.frozen? ⟨g, k * 2 + 1, none⟩ = false /\ base <= g /\ b.length = L ∧
   Hid ((wx.setCell ⟨g, k * 2 + 1, none⟩ (.int .i64 ((y + c) % 8))).ownsRow base e 2 (.slice (some ⟨g, 0, none⟩) L cX) L (cellsP (bump b k c))) /\ Hid (Below B w (wx.setCell ⟨g, k * 2 + 1, none⟩ (.int .i64 ((y + c) % 8)))) /\ wx.grownBy (wx.setCell ⟨g, k * 2 + 1, none⟩ (.int .i64 ((y + c) % 8))) (some g) := by
 have hL : b.length = L := by have := ho.1; rw [length_cellsP] at this; omega
 obtain ⟨g, rfl⟩ := own_some ho (by omega)
 obtain ⟨x, y, hd⟩ : ∃ x y, b.drop k = (x, y) :: b.drop (k + 1) := ⟨_, _, drop_cons hk⟩
 have f2 := flat2 _ _ _ _ hd
 have hg := (ho.lt g rfl).1
 have s1 := ho.stored (k * 2 + 1) (.int .i64 ((y + c) % 8))
 refine ⟨g, x, y, rfl, (ho.cellAt (k * 2) (by omega)).trans f2.1, (ho.cellAt (k * 2 + 1) (by omega)).trans f2.2, ho.frozenAt _, hg, hL, zH ?_, zH (hb.setCell (by show B <= g; omega) _), s1.2⟩
 rw [<- set_bump _ _ _ _ _ hd]
 exact s1.1
set_option maxRecDepth 100000 in
theorem s_l32Add (A : Option Addr) (n cap : Nat) (t : List (Int × Int)) (m c : Int) (w : World) (h : RdP w A n t) (hn : n <= 549755813888) (hnc : n <= cap) :
  Calls Tryz.prog 140 #[.slice A n cap, .int .i64 m, .int .i64 c] w (Ret 128 2 (cellsP (addT t m c)) (addT t m c).length w) := by
 have H := zH h
 have hl := h.1
 have HLN := zH hl
 clear h
 obtain ⟨R, hR⟩ : ∃ R, addT t m c = R := ⟨_, rfl⟩
 have HR := zH hR
 rw [hR]
 obtain ⟨pl, hpl⟩ : ∃ pl, plL m 0 t = pl := ⟨_, rfl⟩
 have hplb := plL_ge m 0 t
 rw [hpl, hl] at hplb
 have hpl2 : pl <= n := by omega
 have HPL := zH hpl
 have hslh := sl_hPo A n cap pl (by omega)
 have hsll := sl_lP A n cap pl (by omega)
 obtain ⟨AC, hAC⟩ : ∃ AC, (if cap = pl then A else A.map (·.add (pl * 2))) = AC := ⟨_, rfl⟩
 rw [hAC] at hsll
 have HC : Hid (RdP w AC (n - pl) (t.drop pl)) := zH (by rw [<- hAC]; exact H.out.cut hpl2 hnc)
 clear hR hl hpl hplb hAC
 go_enter Tryz.func140, Tryz.ntmps140
 go_wp2_with fail
 go_loopg [7, 8, 9] (n + 1) (fun r va vp i wr => ∃ (k : Nat), k + 1 = r /\ k <= n /\ i = .int .i64 ((k : Int) - 1) /\ va = .int .i64 (atI m k (t.drop k)) /\ vp = .int .i64 (plL m k (t.drop k)) /\ w = wr)
 case atStart => exact ⟨n, rfl, by omega, by simp, by rw [List.drop_eq_nil_of_le (by have := HLN.out; omega)]; rfl, by rw [List.drop_eq_nil_of_le (by have := HLN.out; omega)]; rfl, rfl⟩
 case round =>
  obtain ⟨k, hk, hkn, rfl, rfl, rfl, rfl⟩ := hrel
  rcases k with _ | j
  ·have HD0 : Hid (t.drop 0 = t) := zH rfl
   clear hk
   rw [HD0.out, HPL.out]
   obtain ⟨va, hva⟩ : ∃ va, atI m 0 t = va := ⟨_, rfl⟩
   rw [hva]
   have HW : Hid (withT t m = (if va < 0 then t.take pl ++ (m, 0) :: t.drop pl else t) /\ (atT t m : Int) = (if va < 0 then (pl : Int) else va) /\ (va = -1 ∨ 0 <= va)) := zH (by
    unfold withT atT
    unfold atI at hva
    rw [HPL.out]
    cases h : atL m 0 t with
    |none => rw [h] at hva; simp only at hva ⊢; subst hva; exact ⟨rfl, rfl, .inl rfl⟩
    |some j => rw [h] at hva; simp only at hva ⊢; subst hva; rw [if_neg (by omega), if_neg (by omega)]; exact ⟨rfl, rfl, .inr (by omega)⟩)
   clear hva
   have hz2 : (Value.agg #[.int .i64 0, .int .i64 0]).cells.size = 2 := rfl
   rcases (show va = -1 ∨ 0 <= va from HW.out.2.2) with hva | hva
   ·subst hva
    obtain ⟨hw1, hw2, _⟩ := HW.out
    rw [if_pos (by omega)] at hw1 hw2
    have HWT := zH hw1
    have HKA : Hid (atT t m = pl) := zH (by omega)
    have HKL : Hid (pl < (withT t m).length) := zH (by rw [<- HKA.out]; exact atT_lt t m)
    clear hw1 hw2 HW
    go_wp2_with (first
     |(at_builtin; refine wpList_mk0 rfl (.tmp 38) (.tmp 39) 85 rfl Tryz.underlying85 infoPhaseTerm hz2 (base := w.heap.size) rfl (Bx.new' (by simp)) zR rfl (H.out.2.alloc _) (by omega) (by decide) ?_; intro A1 c1 w1 o1 b1; have B1 := zH (below_alloc b1); have hs1 := B1.out.size; clear o1 b1)
     |(at_builtin; refine wpList_mk0 rfl (.tmp 44) (.tmp 47) 85 rfl Tryz.underlying85 infoPhaseTerm hz2 (base := w.heap.size) rfl (Bx.new' (by simp)) hs1 rfl ((((H.out.pre hpl2).2.below B1.out)).alloc _) (by omega) (by decide) ?_; intro A2 c2 w2 o2 b2; have B2 := zH (below_trans (B1.out.alloc hs1 _) b2); have O2 := zH o2; have hs2 := B2.out.size; clear o2 b2)
     |(at_builtin; refine wpList_app rfl (.tmp 48) (.tmp 51) 85 rfl Tryz.underlying85 infoPhaseTerm rfl (by decide) rfl (O2.out.alloc _) rfl (Rd.lit _ 128 #[.int .i64 m, .int .i64 0] 1 2 rfl) (by simp [Value.oneCell']) (by omega) (by decide) (by simp <;> omega) ?_; intro A3 c3 w3 o3 g3; have O3 := zH o3; have B3 := zH (below_grown (B2.out.alloc hs2 _) (by simp <;> omega) (O2.out.alloc _) zR g3); have hs3 := B3.out.size; clear o3 g3)
     |(at_builtin; refine wpList_app rfl (.tmp 53) (.tmp 56) 85 rfl Tryz.underlying85 infoPhaseTerm rfl (by decide) rfl O3.out rfl (HC.out.2.below B3.out) one_cellsP (by omega) (by decide) hs3 ?_; intro A4 c4 w4 o4 g4; have O4 := zH o4; have OW4 := ins_own HWT.out o4; obtain ⟨gx, x, y, rfl, e0, e1, z1, hgx, hL, SO, SB, _⟩ := bump_prep pl c _ OW4 HKL.out (below_grown B3.out hs3 O3.out zR g4) zR; have hplI0 : (0 : Int) <= (pl : Int) := (by omega); have hplI : (pl : Int) < ((pl + 1 + (n - pl) : Nat) : Int) := (by omega); clear o4 g4 O4 OW4))
    have HWR : Hid (wrap64 (y + c) % 8 = (y + c) % 8) := zH (wrap_mod8 _)
    refine (s_l32Rest _ _).mono ?_
    rintro e wq ⟨rfl, rfl⟩
    rw [HWR.out]
    obtain ⟨b, hb⟩ : ∃ b, bump (withT t m) pl c = b := ⟨_, rfl⟩
    rw [hb] at SO
    have HBL : Hid (b.length = (pl + 1 + (n - pl))) := zH (by rw [<- hb, bump_len, hL])
    have HRB : Hid (nz b = R) := zH (by rw [<- hb, <- HR.out]; unfold addT; rw [HKA.out])
    have SR := zH (RdP.own SO.out)
    clear hb SO
    go_wp2_with fail
    clear e0 e1 z1
    obtain ⟨wy, hwy⟩ : ∃ wy, wy = w4.setCell ⟨gx, pl * 2 + 1, none⟩ (.int .i64 ((y + c) % 8)) := ⟨_, rfl⟩
    rw [<- hwy] at SR SB ⊢
    have HSY : Hid (wy.heap.size = w4.heap.size) := zH (by rw [hwy]; simp [World.setCell])
    clear hwy
    have hwys := SB.out.size
    go_loopg [11, 12] ((pl + 1 + (n - pl))) (fun r v i wr => ∃ (k q : Nat) (A0 : Option Addr) (c0 : Nat), k + r = (pl + 1 + (n - pl)) /\ i = .int .i64 k /\ v = .slice A0 q c0 /\ q <= k /\ (nz (b.take k)).length = q /\ wr.ownsRow wy.heap.size 128 2 (.slice A0 q c0) q (cellsP (nz (b.take k))) /\ Below wy.heap.size wy wr)
    case atStart => exact ⟨0, 0, _, _, by omega, rfl, rfl, zR, by simp [nz], by rw [<- HSY.out]; simpa [nz, cellsP] using World.ownsRow_lit wy #[] 0 (size := 2) (e := 128) zR (by simp [maxLen]) rfl, (zW).alloc zR _⟩
    case round =>
     obtain ⟨k, q, A0, c0, hk, rfl, rfl, hqk, hq, ho, hbw⟩ := hrel
     have HQ := zH hq
     have HO := zH ho
     have HB := zH hbw
     have hbs := hbw.size
     clear hq ho hbw
     by_cases hlt : k < (pl + 1 + (n - pl))
     ·obtain ⟨bb, off, u, v, hA, hBb, hd, d0, d1⟩ := (SR.out.below HB.out).at_ hlt
      injection hA with hA
      injection hA with hA1 hA2 _
      subst hA1 hA2
      rw [Nat.zero_add] at d0 d1
      have HD := zH hd
      have HN : Hid (nz (b.take (k + 1)) = nz (b.take k) ++ (if (v == 0) = true then [] else [(u, v)])) := zH (by rw [take_snoc HD.out, nz_snoc])
      have hkI : (k : Int) < (((pl + 1 + (n - pl)) : Nat) : Int) := by omega
      have hk0 : (0 : Int) <= (k : Int) := by omega
      clear hd
      by_cases hv : v = 0
      ·subst hv
       go_wp2_with fail
       go_roundg (gk - 1)
       case measure => omega
       case rel => exact ⟨k + 1, q, A0, c0, by omega, by go_num, rfl, by omega, by rw [HN.out]; simpa using HQ.out, by rw [HN.out]; simpa using HO.out, HB.out⟩
      ·have hv1 : (v == 0) = false := by simpa using hv
       have HV := zH hv1
       have hv2 : (v != 0) = true := by simp [bne, hv1]
       have DA := zH (HO.out.alloc (.cells #[.int .i64 u, .int .i64 v] 128))
       go_wp2_with (at_builtin; refine wpList_app rfl (.tmp 83) (.tmp 88) 85 rfl Tryz.underlying85 infoPhaseTerm rfl (by decide) rfl DA.out rfl (Rd.lit _ 128 #[.int .i64 u, .int .i64 v] 1 2 rfl) (by simp [Value.oneCell']) (by omega) (by decide) (by simp <;> omega) ?_; intro A5 c5 w5 o5 g5)
       go_roundg (gk - 1)
       case measure => omega
       case rel =>
        refine ⟨k + 1, q + 1, A5, c5, by omega, by go_num, rfl, by omega, by rw [HN.out, HV.out]; simp [HQ.out], ?_, below_grown (HB.out.alloc hbs _) (by simp; omega) DA.out zR g5⟩
        rw [HN.out, HV.out]
        rw [show nz (b.take k) ++ (if false = true then [] else [(u, v)]) = nz (b.take k) ++ [(u, v)] from rfl, cellsP_append]
        exact o5
     ·have hkL : k = (pl + 1 + (n - pl)) := by omega
      go_wp2_with fail
      go_ret
      have e : nz (b.take k) = R := by rw [List.take_of_length_le (by have := HBL.out; omega), HRB.out]
      have HOO := HO.out
      have HQQ := HQ.out
      rw [e] at HOO HQQ
      subst HQQ
      exact ⟨A0, c0, rfl, ownsRow_base HOO hwys, SB.out.trans (HB.out.mono hwys)⟩
   ·obtain ⟨ka, rfl⟩ : ∃ ka : Nat, va = ka := ⟨va.toNat, by omega⟩
    obtain ⟨hw1, hw2, _⟩ := HW.out
    rw [if_neg (by omega)] at hw1 hw2
    have HWT := zH hw1
    have HKA : Hid (atT t m = ka) := zH (by omega)
    have HKL : Hid (ka < (withT t m).length) := zH (by rw [<- HKA.out]; exact atT_lt t m)
    have hkan : ka < n := by have := HKL.out; rw [hw1, HLN.out] at this; exact this
    have hka0 : (0 : Int) <= (ka : Int) := by omega
    have hkaI : (ka : Int) < (n : Int) := by omega
    clear hw1 hw2 HW hva
    go_wp2_with (at_builtin; refine wpList_mk0 rfl (.tmp 38) (.tmp 39) 85 rfl Tryz.underlying85 infoPhaseTerm hz2 (base := w.heap.size) rfl (Bx.new' (by simp)) zR rfl (H.out.2.alloc _) (by omega) (by decide) ?_; intro A1 c1 w1 o1 b1; have OW4 := (HWT.out.symm ▸ o1 : w1.ownsRow w.heap.size 128 2 (.slice A1 n c1) n (cellsP (withT t m))); obtain ⟨gx, x, y, rfl, e0, e1, z1, hgx, hL, SO, SB, _⟩ := bump_prep ka c _ OW4 HKL.out (below_alloc b1) zR; clear o1 b1 OW4)
    have HWR : Hid (wrap64 (y + c) % 8 = (y + c) % 8) := zH (wrap_mod8 _)
    refine (s_l32Rest _ _).mono ?_
    rintro e wq ⟨rfl, rfl⟩
    rw [HWR.out]
    obtain ⟨b, hb⟩ : ∃ b, bump (withT t m) ka c = b := ⟨_, rfl⟩
    rw [hb] at SO
    have HBL : Hid (b.length = n) := zH (by rw [<- hb, bump_len, hL])
    have HRB : Hid (nz b = R) := zH (by rw [<- hb, <- HR.out]; unfold addT; rw [HKA.out])
    have SR := zH (RdP.own SO.out)
    clear hb SO
    go_wp2_with fail
    clear e0 e1 z1
    obtain ⟨wy, hwy⟩ : ∃ wy, wy = w1.setCell ⟨gx, ka * 2 + 1, none⟩ (.int .i64 ((y + c) % 8)) := ⟨_, rfl⟩
    rw [<- hwy] at SR SB ⊢
    have HSY : Hid (wy.heap.size = w1.heap.size) := zH (by rw [hwy]; simp [World.setCell])
    clear hwy
    have hwys := SB.out.size
    go_loopg [11, 12] (n) (fun r v i wr => ∃ (k q : Nat) (A0 : Option Addr) (c0 : Nat), k + r = n /\ i = .int .i64 k /\ v = .slice A0 q c0 /\ q <= k /\ (nz (b.take k)).length = q /\ wr.ownsRow wy.heap.size 128 2 (.slice A0 q c0) q (cellsP (nz (b.take k))) /\ Below wy.heap.size wy wr)
    case atStart => exact ⟨0, 0, _, _, by omega, rfl, rfl, zR, by simp [nz], by rw [<- HSY.out]; simpa [nz, cellsP] using World.ownsRow_lit wy #[] 0 (size := 2) (e := 128) zR (by simp [maxLen]) rfl, (zW).alloc zR _⟩
    case round =>
     obtain ⟨k, q, A0, c0, hk, rfl, rfl, hqk, hq, ho, hbw⟩ := hrel
     have HQ := zH hq
     have HO := zH ho
     have HB := zH hbw
     have hbs := hbw.size
     clear hq ho hbw
     by_cases hlt : k < n
     ·obtain ⟨bb, off, u, v, hA, hBb, hd, d0, d1⟩ := (SR.out.below HB.out).at_ hlt
      injection hA with hA
      injection hA with hA1 hA2 _
      subst hA1 hA2
      rw [Nat.zero_add] at d0 d1
      have HD := zH hd
      have HN : Hid (nz (b.take (k + 1)) = nz (b.take k) ++ (if (v == 0) = true then [] else [(u, v)])) := zH (by rw [take_snoc HD.out, nz_snoc])
      have hkI : (k : Int) < ((n : Nat) : Int) := by omega
      have hk0 : (0 : Int) <= (k : Int) := by omega
      clear hd
      by_cases hv : v = 0
      ·subst hv
       go_wp2_with fail
       go_roundg (gk - 1)
       case measure => omega
       case rel => exact ⟨k + 1, q, A0, c0, by omega, by go_num, rfl, by omega, by rw [HN.out]; simpa using HQ.out, by rw [HN.out]; simpa using HO.out, HB.out⟩
      ·have hv1 : (v == 0) = false := by simpa using hv
       have HV := zH hv1
       have hv2 : (v != 0) = true := by simp [bne, hv1]
       have DA := zH (HO.out.alloc (.cells #[.int .i64 u, .int .i64 v] 128))
       go_wp2_with (at_builtin; refine wpList_app rfl (.tmp 83) (.tmp 88) 85 rfl Tryz.underlying85 infoPhaseTerm rfl (by decide) rfl DA.out rfl (Rd.lit _ 128 #[.int .i64 u, .int .i64 v] 1 2 rfl) (by simp [Value.oneCell']) (by omega) (by decide) (by simp <;> omega) ?_; intro A5 c5 w5 o5 g5)
       go_roundg (gk - 1)
       case measure => omega
       case rel =>
        refine ⟨k + 1, q + 1, A5, c5, by omega, by go_num, rfl, by omega, by rw [HN.out, HV.out]; simp [HQ.out], ?_, below_grown (HB.out.alloc hbs _) (by simp; omega) DA.out zR g5⟩
        rw [HN.out, HV.out]
        rw [show nz (b.take k) ++ (if false = true then [] else [(u, v)]) = nz (b.take k) ++ [(u, v)] from rfl, cellsP_append]
        exact o5
     ·have hkL : k = n := by omega
      go_wp2_with fail
      go_ret
      have e : nz (b.take k) = R := by rw [List.take_of_length_le (by have := HBL.out; omega), HRB.out]
      have HOO := HO.out
      have HQQ := HQ.out
      rw [e] at HOO HQQ
      subst HQQ
      exact ⟨A0, c0, rfl, ownsRow_base HOO hwys, SB.out.trans (HB.out.mono hwys)⟩
  ·have e0 : ((j + 1 : Nat) : Int) - 1 = (j : Int) := by omega
   rw [e0]
   have hjn : j < n := by omega
   obtain ⟨g, off, x, y, rfl, hB, hd, c0, c1⟩ := H.out.at_ hjn
   have HD := zH hd
   clear hd e0
   have hj0 : (0 : Int) <= (j : Int) := by omega
   have hjI : (j : Int) < (n : Int) := by omega
   obtain ⟨va, hva⟩ : ∃ va, atI m (j + 1) (t.drop (j + 1)) = va := ⟨_, rfl⟩
   obtain ⟨vp, hvp⟩ : ∃ vp, plL m (j + 1) (t.drop (j + 1)) = vp := ⟨_, rfl⟩
   rw [hva, hvp]
   have HVA := zH hva
   have HVP := zH hvp
   clear hva hvp
   rcases Int.lt_trichotomy x m with hx | hx | hx
   ·have h1 : (x == m) = false := by simp; omega
    have h2 : ¬ m < x := by omega
    go_wp2_with fail
    go_roundg (gk - 1)
    case measure => omega
    case rel => exact ⟨j, by omega, by omega, rfl, by rw [HD.out, atI_miss h1, HVA.out], by rw [HD.out, plL_go (by show x <= m; omega), HVP.out], rfl⟩
   ·subst hx
    go_wp2_with fail
    go_roundg (gk - 1)
    case measure => omega
    case rel => exact ⟨j, by omega, by omega, rfl, by rw [HD.out, atI_hit (by simp)], by rw [HD.out, plL_go (p := (x, y)) (Int.le_refl _), HVP.out], rfl⟩
   ·have h1 : (x == m) = false := by simp; omega
    go_wp2_with fail
    go_roundg (gk - 1)
    case measure => omega
    case rel => exact ⟨j, by omega, by omega, rfl, by rw [HD.out, atI_miss h1, HVA.out], by rw [HD.out, plL_stop hx], rfl⟩
def RetPB (r : Po × Bool) (w : World) (e : Ending) (w' : World) : Prop := ∃ v, e = .returned (.tuple #[v, .bool r.2]) /\ OwnPoly w' w.heap.size r.1.N r.1.H r.1.t r.1.o v /\ Below w.heap.size w w'
theorem okG_abn {k a b c n : Int} (h : okG k a b c n = true) : 1 <= n /\ n <= 4 /\ 0 <= a /\ a < n /\ 0 <= b /\ b < n := by
 unfold okG at h
 simp only [Bool.and_eq_true, decide_eq_true_eq] at h
 obtain ⟨h1, h2, h3⟩ := h
 obtain ⟨h4, h5⟩ := inB_iff.1 h1
 rcases arity_cases k with ⟨_, _, ha⟩ | ⟨_, _, ha⟩ | ⟨_, ha⟩ | ⟨_, ha⟩
 ·rw [ha] at h3
  simp [okQ, badQ, inB, hasI] at h3
  omega
 ·rw [ha] at h3
  simp [okQ, badQ, inB, hasI] at h3
  omega
 ·rw [ha] at h3
  simp [okQ, badQ, inB, hasI] at h3
  omega
 ·omega
theorem okG_ne {k a b c n : Int} (h : okG k a b c n = true) (hk : arity k = 2) : b ≠ a := by
 unfold okG at h
 simp only [Bool.and_eq_true, decide_eq_true_eq] at h
 obtain ⟨h1, h2, h3⟩ := h
 rw [hk] at h3
 simp [okQ, badQ, inB, hasI] at h3
 omega
theorem okP_parts {p : Po} {g : Gt} (h : okP p g = true) : okG g.k g.a g.b g.c p.N = true /\ (p.o.length : Int) = p.N := by
 unfold okP at h
 simpa using h
theorem okP_no {p : Po} {g : Gt} (h : okP p g = false) : okG g.k g.a g.b g.c p.N = false ∨ (okG g.k g.a g.b g.c p.N = true /\ (p.o.length : Int) ≠ p.N) := by
 unfold okP at h
 cases h1 : okG g.k g.a g.b g.c p.N
 ·exact .inl rfl
 ·right
  rw [h1] at h
  simpa using h
theorem below_al {a w : World} {o : Obj} (h : Below a.heap.size a w) : Below a.heap.size a (w.alloc o) := h.alloc h.size _
theorem own_set_ne {w : World} {base : Nat} {e : TypeId} {sz n : Nat} {v : Value} {xs : List Value} (h : w.ownsRow base e sz v n xs) {p : Addr} (hp : some p.block ≠ v.ownBlock) (u : Value) : (w.setCell p u).ownsRow base e sz v n xs := by
 have hg : w.grownBy (w.setCell p u) (some p.block) := ⟨rfl, rfl, rfl, by simp [World.setCell], fun k hk hne => Below.heap_setCell w _ _ k (fun e => hne (by rw [e]))⟩
 exact h.kept hg (.inr (fun e => hp e.symm))
theorem bx_b {w w' : World} {g t B : Nat} {cs : Array Value} (h : Bx w g t cs) (hb : Below B w w') (hg : g < B) : Bx w' g t cs := (hb.block g hg).trans h
theorem xor_comm64 (a b : Int) : bits .xor .i64 a b = bits .xor .i64 b a := by
 show IntKind.i64.wrap ((BitVec.ofInt 64 a ^^^ BitVec.ofInt 64 b).toNat : Int) = IntKind.i64.wrap ((BitVec.ofInt 64 b ^^^ BitVec.ofInt 64 a).toNat : Int)
 rw [BitVec.xor_comm]
theorem own2At {w : World} {base : Nat} {e : TypeId} {n c : Nat} {A : Option Addr} {l : List (Int × Int)} (ho : w.ownsRow base e 2 (.slice A n c) n (cellsP l)) {k : Nat} (hk : k < n) :
  ∃ (g : Nat), A = some ⟨g, 0, none⟩ /\ base <= g /\ g < w.heap.size /\ w.cell? ⟨g, k * 2, none⟩ = some (.int .i64 (l.getD k (0, 0)).1) /\ w.cell? ⟨g, k * 2 + 1, none⟩ = some (.int .i64 (l.getD k (0, 0)).2) /\ w.frozen? ⟨g, k * 2, none⟩ = false /\ w.frozen? ⟨g, k * 2 + 1, none⟩ = false := by
 have hL : l.length = n := by have := ho.1; rw [length_cellsP] at this; omega
 obtain ⟨g, rfl⟩ := own_some ho (by omega)
 have hd : l.drop k = (l.getD k (0, 0)) :: l.drop (k + 1) := by
  rw [drop_cons (by omega), List.getD_eq_getElem?_getD, List.getElem?_eq_getElem (by omega), Option.getD_some]
 have f2 := flat2 _ _ _ _ hd
 have hg := ho.lt g rfl
 exact ⟨g, rfl, hg.1, hg.2, (ho.cellAt (k * 2) (by omega)).trans f2.1, (ho.cellAt (k * 2 + 1) (by omega)).trans f2.2, ho.frozenAt _, ho.frozenAt _⟩
theorem rd2At {w : World} {n : Nat} {A : Option Addr} {l : List (Int × Int)} (h : RdP w A n l) {k : Nat} (hk : k < n) :
  ∃ (b off : Nat), A = some ⟨b, off, none⟩ /\ b < w.heap.size /\ w.cell? ⟨b, off + k * 2, none⟩ = some (.int .i64 (l.getD k (0, 0)).1) /\ w.cell? ⟨b, off + k * 2 + 1, none⟩ = some (.int .i64 (l.getD k (0, 0)).2) := by
 obtain ⟨b, off, x, y, e, hb, hd, c0, c1⟩ := h.at_ hk
 have hx : l.getD k (0, 0) = (x, y) := by
  have := congrArg (fun r => r[0]?) hd
  rw [List.getD_eq_getElem?_getD]
  simp at this
  rw [this]; rfl
 rw [hx]
 exact ⟨b, off, e, hb, c0, c1⟩
theorem set_pair (l : List (Int × Int)) (k : Nat) (x y : Int) (hk : k < l.length) : ((cellsP l).set (k * 2) (.int .i64 x)).set (k * 2 + 1) (.int .i64 y) = cellsP (l.set k (x, y)) := by
 obtain ⟨a, z, r, rfl, rfl⟩ : ∃ a z r, l = a ++ z :: r /\ a.length = k := ⟨l.take k, l[k], l.drop (k + 1), by rw [<- drop_cons hk, List.take_append_drop], by rw [List.length_take]; omega⟩
 have hlen := length_cellsP a
 rw [cellsP_append, List.set_append, if_neg (by omega), List.set_append, if_neg (by omega), hlen]
 simp [cellsP, show a.length * 2 + 1 - a.length * 2 = 1 by omega]
theorem set_two (l : List (Int × Int)) (k : Nat) (y : Int) (hk : k < l.length) : (cellsP l).set (k * 2 + 1) (.int .i64 y) = cellsP (l.set k ((l.getD k (0, 0)).1, y)) := by
 have h := set_pair l k (l.getD k (0, 0)).1 y hk
 rw [<- h]
 congr 1
 have f2 := (flat2 l k (l.getD k (0, 0)) (l.drop (k + 1)) (by rw [drop_cons hk, List.getD_eq_getElem?_getD, List.getElem?_eq_getElem hk, Option.getD_some])).1
 apply List.ext_getElem?
 intro i
 rw [List.getElem?_set]
 split
 ·subst i
  rw [f2]
  split
  ·rfl
  ·rename_i h0
   rw [List.getElem?_eq_none (by omega)] at f2
   cases f2
 ·rfl
end Go.Proofs.YtmenmibfkojnoaaGreat
