/- Contracts of PhaseFactor (impl), of PhasePolynomialMatrix (impl and spec). At most 2^39 terms and outputs. Contracts of IsValidCircuit, l11Mat, CircuitMatrix, EqualMatrix (spec). Asked: valid gates on one to four qubits; square matrices of at most 16 rows. Contract of ComputePhasePolynomial (spec). At most 2^36 gates. Contracts of the drawing of phase gates and polynomials: l32Gate, l32Gates, l32Poly. Contract of DrawComputePhasePolynomial. Nothing is asked. -/
import Derived.Test.YtibhikngiceeeaaPpmPBx
import Derived.Test.YtibhikngiceeeaaEval
import Derived.Test.YtibhikngiceeeaaStN
import Derived.Test.YtibhikngiceeeaaDomP
import Derived.Test.YtibhikngiceeeaaPolyK
import Derived.Test.YtibhikngiceeeaaDrawC
import Derived.Deep.RegionHeld3
namespace Go.Proofs.Ytibhikngiceeeaa
open Go.RowKit
set_option linter.unusedVariables false

section
variable {α : Type} {cs : List α → List Value} {sz : Nat}
theorem OwnSS.kept {base eo ei : Nat} {v : Value} {l : List (List α)} {w w' : World} {o : Option Nat} (h : OwnSS cs w base eo ei sz v l) (hg : w.grownBy w' o) (hk : ∀ (e n sz : Nat) (u : Value) (xs : List Value), (e = eo ∨ e = ei) → w.ownsRow base e sz u n xs → u.ownBlock = none ∨ u.ownBlock ≠ o) : OwnSS cs w' base eo ei sz v l := by
  obtain ⟨vs, h1, h2, h3⟩ := h
  refine ⟨vs, h1.kept hg (hk eo _ _ _ _ (.inl rfl) h1), fun j x hx => ?_, h3⟩
  obtain ⟨B, c, a1, a2⟩ := h2 j x hx
  exact ⟨B, c, a1, a2.kept hg (hk ei _ _ _ _ (.inr rfl) a2)⟩
theorem OwnSS.setObjI {base eo ei : Nat} {v : Value} {l : List (List α)} {w : World} (h : OwnSS cs w base eo ei sz v l) {r : Nat} (hr : r < base) (o : Obj) : OwnSS cs { w with heap := w.heap.setIfInBounds r o } base eo ei sz v l := by
  refine h.kept (o := some r) ⟨rfl, rfl, rfl, by simp, fun k hk hne => ?_⟩ fun e n sz u xs _ hu => ?_
  · show (w.heap.setIfInBounds r o)[k]? = _
    rw [Array.getElem?_setIfInBounds_ne (fun e => hne (by rw [e]))]
  · cases hv : u.ownBlock with
    | none => exact .inl rfl
    | some k =>
      refine .inr fun e => ?_
      injection e with e
      have := (hu.lt k hv).1
      omega
end
theorem Bx.blockB {w w' : World} {g t B : Nat} {cs : Array Value} (h : Bx w g t cs) (hb : Below B w w') (hg : g < B) : Bx w' g t cs := by
  unfold Bx at h ⊢
  rw [hb.block g hg]; exact h
theorem map_blockB {w w' : World} {r B : Nat} {o : Obj} (h : w.heap[r]? = some o) (hb : Below B w w') (hr : r < B) : w'.heap[r]? = some o := (hb.block r hr).trans h

set_option maxRecDepth 100000 in
set_option maxHeartbeats 6400000 in
theorem i_Phase (k : Nat) (w : World) (h : k < 8) : Calls Try.prog 52 #[.int .i64 k] w fun e w' => e = .returned (.agg #[.int .i64 (phD k).n.a, .int .i64 (phD k).n.b, .int .i64 (phD k).n.c, .int .i64 (phD k).n.d, .int .i64 (phD k).e]) ∧ Below w.heap.size w w' := by
  obtain rfl | rfl | rfl | rfl | rfl | rfl | rfl | rfl : k = 0 ∨ k = 1 ∨ k = 2 ∨ k = 3 ∨ k = 4 ∨ k = 5 ∨ k = 6 ∨ k = 7 := by omega
  all_goals
    have hB1 : ∀ o : Obj, Below w.heap.size w (w.alloc o) := fun o => (Below.refl _ _).alloc (Nat.le_refl _) _
    have hB2 : ∀ o o' : Obj, Below w.heap.size w ((w.alloc o).alloc o') := fun o o' => (hB1 o).alloc (hB1 o).size _
    have c0 : ∀ (a b c d e : Value) (o : Obj), ((w.alloc (.cells #[a, b, c, d, e] 83)).alloc o).cell? ⟨w.heap.size, 0, none⟩ = some a := fun a b c d e o => (bx5 ((Bx.new w 83 #[a, b, c, d, e]).alloc o)).1
    have c1 : ∀ (a b c d e : Value) (o : Obj), ((w.alloc (.cells #[a, b, c, d, e] 83)).alloc o).cell? ⟨w.heap.size, 1, none⟩ = some b := fun a b c d e o => (bx5 ((Bx.new w 83 #[a, b, c, d, e]).alloc o)).2.1
    have c2 : ∀ (a b c d e : Value) (o : Obj), ((w.alloc (.cells #[a, b, c, d, e] 83)).alloc o).cell? ⟨w.heap.size, 2, none⟩ = some c := fun a b c d e o => (bx5 ((Bx.new w 83 #[a, b, c, d, e]).alloc o)).2.2.1
    have c3 : ∀ (a b c d e : Value) (o : Obj), ((w.alloc (.cells #[a, b, c, d, e] 83)).alloc o).cell? ⟨w.heap.size, 3, none⟩ = some d := fun a b c d e o => (bx5 ((Bx.new w 83 #[a, b, c, d, e]).alloc o)).2.2.2.1
    have c4 : ∀ (a b c d e : Value) (o : Obj), ((w.alloc (.cells #[a, b, c, d, e] 83)).alloc o).cell? ⟨w.heap.size, 4, none⟩ = some e := fun a b c d e o => (bx5 ((Bx.new w 83 #[a, b, c, d, e]).alloc o)).2.2.2.2.1
    go_enter Try.func52, Try.ntmps52
    go_wp2_with fail
  · exact bodyPost_ret (v := .agg #[.int .i64 (phD 0).n.a, .int .i64 (phD 0).n.b, .int .i64 (phD 0).n.c, .int .i64 (phD 0).n.d, .int .i64 (phD 0).e]) (by simp [results, Try.results52, go_sem, phD, phZ, c0, c1, c2, c3, c4]) rfl ⟨rfl, hB2 _ _⟩
  · exact bodyPost_ret (v := .agg #[.int .i64 (phD 1).n.a, .int .i64 (phD 1).n.b, .int .i64 (phD 1).n.c, .int .i64 (phD 1).n.d, .int .i64 (phD 1).e]) (by simp [results, Try.results52, go_sem, phD, phZ, c0, c1, c2, c3, c4]) rfl ⟨rfl, hB2 _ _⟩
  · exact bodyPost_ret (v := .agg #[.int .i64 (phD 2).n.a, .int .i64 (phD 2).n.b, .int .i64 (phD 2).n.c, .int .i64 (phD 2).n.d, .int .i64 (phD 2).e]) (by simp [results, Try.results52, go_sem, phD, phZ, c0, c1, c2, c3, c4]) rfl ⟨rfl, hB2 _ _⟩
  · exact bodyPost_ret (v := .agg #[.int .i64 (phD 3).n.a, .int .i64 (phD 3).n.b, .int .i64 (phD 3).n.c, .int .i64 (phD 3).n.d, .int .i64 (phD 3).e]) (by simp [results, Try.results52, go_sem, phD, phZ, c0, c1, c2, c3, c4]) rfl ⟨rfl, hB2 _ _⟩
  · exact bodyPost_ret (v := .agg #[.int .i64 (phD 4).n.a, .int .i64 (phD 4).n.b, .int .i64 (phD 4).n.c, .int .i64 (phD 4).n.d, .int .i64 (phD 4).e]) (by simp [results, Try.results52, go_sem, phD, phZ, c0, c1, c2, c3, c4]) rfl ⟨rfl, hB2 _ _⟩
  · exact bodyPost_ret (v := .agg #[.int .i64 (phD 5).n.a, .int .i64 (phD 5).n.b, .int .i64 (phD 5).n.c, .int .i64 (phD 5).n.d, .int .i64 (phD 5).e]) (by simp [results, Try.results52, go_sem, phD, phZ, c0, c1, c2, c3, c4]) rfl ⟨rfl, hB2 _ _⟩
  · exact bodyPost_ret (v := .agg #[.int .i64 (phD 6).n.a, .int .i64 (phD 6).n.b, .int .i64 (phD 6).n.c, .int .i64 (phD 6).n.d, .int .i64 (phD 6).e]) (by simp [results, Try.results52, go_sem, phD, phZ, c0, c1, c2, c3, c4]) rfl ⟨rfl, hB2 _ _⟩
  · exact bodyPost_ret (v := .agg #[.int .i64 (phD 7).n.a, .int .i64 (phD 7).n.b, .int .i64 (phD 7).n.c, .int .i64 (phD 7).n.d, .int .i64 (phD 7).e]) (by simp [results, Try.results52, go_sem, phD, phZ, c0, c1, c2, c3, c4]) rfl ⟨rfl, hB2 _ _⟩
set_option maxRecDepth 100000 in
set_option maxHeartbeats 1600000 in
theorem i_PpmNo1 (p : Po) (AT AO : Option Addr) (nT cT nO cO : Nat) (w : World) (h : inB p.N 1 4 = false) :
    Calls Try.prog 11 #[.agg #[.int .i64 p.N, .int .i64 p.H, .slice AT nT cT, .slice AO nO cO]] w (RetSD [] w) := by
  have I1 := Lib.hid h
  have X0 := Lib.hid (Bx.new w 32 #[.int .i64 p.N, .int .i64 p.H, .slice AT nT cT, .slice AO nO cO])
  clear h
  obtain ⟨p0, p1, p2, p3, _⟩ := X0.out.four
  go_enter Try.func11, Try.ntmps11
  go_wp2_with fail
  refine (i_in _ _ _ _).mono ?_
  rintro e w1 ⟨rfl, rfl⟩
  rw [I1.out]
  go_wp2_with fail
  go_ret
  exact ⟨none, 0, rfl, OwnSS.nil _ _ _ _ _ _, (Below.refl _ _).alloc (Nat.le_refl _) _⟩
set_option maxRecDepth 100000 in
set_option maxHeartbeats 1600000 in
theorem i_PpmNo2 (p : Po) (AT AO : Option Addr) (nT cT nO cO : Nat) (w : World) (h : inB p.N 1 4 = true) (h2 : ¬ (nO : Int) = p.N) :
    Calls Try.prog 11 #[.agg #[.int .i64 p.N, .int .i64 p.H, .slice AT nT cT, .slice AO nO cO]] w (RetSD [] w) := by
  have I1 := Lib.hid h
  have X0 := Lib.hid (Bx.new w 32 #[.int .i64 p.N, .int .i64 p.H, .slice AT nT cT, .slice AO nO cO])
  have h3 : ((nO : Int) == p.N) = false := by simpa using h2
  clear h
  obtain ⟨p0, p1, p2, p3, _⟩ := X0.out.four
  go_enter Try.func11, Try.ntmps11
  go_wp2_with fail
  refine (i_in _ _ _ _).mono ?_
  rintro e w1 ⟨rfl, rfl⟩
  rw [I1.out]
  go_wp2_with fail
  go_ret
  exact ⟨none, 0, rfl, OwnSS.nil _ _ _ _ _ _, (Below.refl _ _).alloc (Nat.le_refl _) _⟩
set_option maxRecDepth 100000 in
set_option maxHeartbeats 6400000 in
theorem i_Ppm1 (H : Int) (t o : List (Int × Int)) (AT AO : Option Addr) (nT cT cO : Nat) (w : World) (hT : RdP w AT nT t) (hO : RdP w AO 1 o) (bT : nT ≤ 549755813888) :
    Calls Try.prog 11 #[.agg #[.int .i64 1, .int .i64 H, .slice AT nT cT, .slice AO 1 cO]] w (RetSD (ppmN ⟨1, H, t, o⟩ 1) w) := by
  obtain ⟨p, hp⟩ : ∃ p : Po, (⟨1, H, t, o⟩ : Po) = p := ⟨_, rfl⟩
  have e4 : p.o.length = 1 := by rw [← hp]; exact hO.1
  have HE1 := Lib.hid (show ∀ i : Nat, evO (i : Int) 0 o 0 = (toN p i : Nat) from fun i => by have := toN_int (p := p) (by omega) i; rw [← hp] at this ⊢; exact this)
  have HE2 := Lib.hid (show ∀ i : Nat, evT (i : Int) t H % 8 = (phN p i : Nat) from fun i => by have := phN_int p i; rw [← hp] at this ⊢; exact this)
  have HTO := Lib.hid (show ∀ i, toN p i < 2 from fun i => by have := toN_lt p i; rw [e4] at this; exact this)
  rw [hp]
  have HT := Lib.hid hT
  have HO := Lib.hid hO
  have X0 := Lib.hid (Bx.new w 32 #[.int .i64 1, .int .i64 H, .slice AT nT cT, .slice AO 1 cO])
  have I1 := Lib.hid (show inB 1 1 4 = true by decide)
  clear hT hO e4 hp
  obtain ⟨p0, p1, p2, p3, _⟩ := X0.out.four
  have hmk := run_makeMap_plain (P := Try.prog) (w := w.alloc (.cells #[.int .i64 1, .int .i64 H, .slice AT nT cT, .slice AO 1 cO] 32)) 88
  go_enter Try.func11, Try.ntmps11
  go_wp2_with fail
  refine (i_in _ _ _ _).mono ?_
  rintro e w1 ⟨rfl, rfl⟩
  rw [I1.out]
  go_wp2_with fail
  clear p0 p1 p2 p3 hmk
  go_loopg [4, 5] 2 (fun r v j wr => ∃ (i : Nat) (A : Option Addr) (c : Nat) (es : Array MapEntry) (clock : Nat), i + r = 2 ∧ j = .int .i64 i ∧ v = .slice A i c ∧ OwnSS cellsD wr (w.heap.size + 1 + 1) 79 83 5 (.slice A i c) (colsP p 1 i) ∧ EntsI es.toList (tosP p i) ∧ wr.heap[w.heap.size + 1]? = some (.map es clock) ∧ (∀ j, j < i → dupP p j = false) ∧ Bx wr w.heap.size 32 #[.int .i64 1, .int .i64 H, .slice AT nT cT, .slice AO 1 cO] ∧ Below w.heap.size w wr)
  case atStart =>
    refine ⟨0, _, 0, #[], 0, by omega, rfl, rfl, ?_, by simp [EntsI, tosP], ?_, by simp, ((Bx.new w _ _).alloc _).alloc _, (((Below.refl _ _).alloc (Nat.le_refl _) _).alloc (by simp) _).alloc (by simp <;> omega) _⟩
    · have := OwnSS.lit0 ((w.alloc (.cells #[.int .i64 1, .int .i64 H, .slice AT nT cT, .slice AO 1 cO] 32)).alloc (.map #[] 0)) (base := w.heap.size + 1 + 1) (by simp) 79 83 5 cellsD
      simpa [colsP] using this
    · have := heap_alloc_new (w.alloc (.cells #[.int .i64 1, .int .i64 H, .slice AT nT cT, .slice AO 1 cO] 32)) (.map #[] 0)
      refine map_allocI ?_
      simpa using this
  case round =>
    obtain ⟨i, A3, c3, es, clock, hi, rfl, rfl, ho, hen, hmap, hdup, hx, hb⟩ := hrel
    have HOS := Lib.hid ho
    have HEN := Lib.hid hen
    have HMp := Lib.hid hmap
    have HDU := Lib.hid hdup
    have HX := Lib.hid hx
    have HB := Lib.hid hb
    have hs0 := hb.size
    have hrlt : w.heap.size + 1 < wr.heap.size := (Array.getElem?_eq_some_iff.1 hmap).1
    clear ho hen hmap hdup hx hb
    obtain ⟨p0, p1, p2, p3, _⟩ := HX.out.four
    by_cases hlt : i < 2
    · have htl := HTO.out i
      obtain ⟨tt, htt⟩ : ∃ x, toN p i = x := ⟨_, rfl⟩
      obtain ⟨kk, hkk⟩ : ∃ x, phN p i = x := ⟨_, rfl⟩
      have hk8 : kk < 8 := by rw [← hkk]; exact phN_lt p i
      rw [htt] at htl
      have E1 := Lib.hid (show evO (i : Int) 0 o 0 = (tt : Nat) by rw [HE1.out, htt])
      have E2 := Lib.hid (show evT (i : Int) t H % 8 = (kk : Nat) by rw [HE2.out, hkk])
      obtain ⟨yy, hyy⟩ : ∃ y, phD kk = y := ⟨_, rfl⟩
      have HY := Lib.hid hyy
      have HC := Lib.hid (show colP p 1 i = (List.replicate 2 Dw.zero).set tt yy by unfold colP; rw [htt, hkk, hyy])
      clear hyy
      have HTT := Lib.hid htt
      clear htt hkk
      have hmk : ∀ w : World, (Instr.makeSlice 79 (.int .i64 2) (.int .i64 2)).run Try.prog w = .ok (.slice (some ⟨w.heap.size, 0, none⟩) 2 2) (w.alloc (.cells (madeCells (Value.agg #[.int .i64 0, .int .i64 0, .int .i64 0, .int .i64 0, .int .i64 0]).cells (2 * 5)) 83)) := fun w => run_makeN (P := Try.prog) Try.underlying79 infoDOmega 2 (by omega) (by omega) w
      go_wp2_with fail
      refine (i_EvalP 1 H AT AO nT cT 1 cO t o i _ (HT.out.below HB.out) (HO.out.below HB.out) bT (by omega)).mono ?_
      rintro e w1 ⟨rfl, b1⟩
      rw [E1.out, E2.out]
      have O1 := Lib.hid (HOS.out.below b1)
      have X1 := Lib.hid (HX.out.below b1)
      have B1 := Lib.hid (HB.out.trans (b1.mono hs0))
      have hs1 := b1.size
      have M1 := Lib.hid (map_belowI HMp.out b1)
      clear p0 p1 p2 p3 b1
      obtain ⟨p0, p1, p2, p3, _⟩ := X1.out.four
      have h0t : (0 : Int) ≤ (tt : Int) := by omega
      have h1t : (tt : Int) < 2 := by omega
      cases hd : dupP p i
      · have hz : (tosP p i).any (· == (tt : Int)) = false := by rw [← HTT.out]; exact hd
        have hl : (Instr.lookup 88 (.map (some (w.heap.size + 1))) (.int .i64 tt) false).run Try.prog w1 = .ok (.bool false) w1 := by
          have := run_lookup_i (w.heap.size + 1) clock tt es (tosP p i) w1 M1.out HEN.out
          rw [hz] at this
          exact this
        obtain ⟨w2, hw2⟩ : ∃ w2 : World, { w1 with heap := w1.heap.setIfInBounds (w.heap.size + 1) (.map (es.push { key := .int .i64 tt, val := .bool true, born := clock }) (clock + 1)) } = w2 := ⟨_, rfl⟩
        have hu : (Instr.mapUpdate 88 (.map (some (w.heap.size + 1))) (.int .i64 tt) (.bool true)).run Try.prog w1 = .ok () w2 := by rw [← hw2]; exact run_update_i (w.heap.size + 1) clock tt es (tosP p i) w1 M1.out HEN.out hz
        have M2 := Lib.hid (show w2.heap[w.heap.size + 1]? = some (.map (es.push { key := .int .i64 tt, val := .bool true, born := clock }) (clock + 1)) from hw2 ▸ map_setObjI M1.out)
        have O2 := Lib.hid (show OwnSS cellsD w2 (w.heap.size + 1 + 1) 79 83 5 (.slice A3 i c3) (colsP p 1 i) from hw2 ▸ O1.out.setObjI (by omega) _)
        have X2 := Lib.hid (show Bx w2 w.heap.size 32 #[.int .i64 1, .int .i64 H, .slice AT nT cT, .slice AO 1 cO] from hw2 ▸ X1.out.setObjI (by omega) _)
        have B2 := Lib.hid (show Below w.heap.size w w2 from hw2 ▸ below_setObjI B1.out (by omega) _)
        have hs2 : w.heap.size + 1 + 1 ≤ w2.heap.size := by have := (Array.getElem?_eq_some_iff.1 M2.out).1; omega
        have HE' := Lib.hid (show EntsI (es.push { key := .int .i64 tt, val := .bool true, born := clock }).toList (tosP p (i + 1)) by rw [tosP_succ, HTT.out]; exact HEN.out.push tt clock)
        clear hw2 M1 O1 X1 B1 hz p0 p1 p2 p3
        obtain ⟨p0, p1, p2, p3, _⟩ := X2.out.four
        have W2 := Lib.hid (own_made w2 (q := 1) (n := 2) (by omega) (by omega) (by decide))
        go_wp2_with fail
        refine (i_Phase kk _ hk8).mono ?_
        rintro e w3 ⟨rfl, b3⟩
        rw [HY.out]
        have O3 := Lib.hid (ownsRow_below W2.out b3)
        have B3 := Lib.hid (below_alloc b3)
        clear b3 W2 hmk p0 p1 p2 p3
        obtain ⟨⟨⟨x0, c0⟩, ⟨x1, c1⟩, ⟨x2, c2⟩, ⟨x3, c3'⟩, ⟨x4, c4'⟩⟩, f0, f1, f2, f3, f4⟩ := own5 O3.out htl
        go_upto_region 14 with fail
        obtain ⟨wS, hWS⟩ : ∃ wS, (((((w3.setCell ⟨w2.heap.size, tt * 5, none⟩ (.int .i64 yy.n.a)).setCell ⟨w2.heap.size, tt * 5 + 1, none⟩ (.int .i64 yy.n.b)).setCell ⟨w2.heap.size, tt * 5 + 2, none⟩ (.int .i64 yy.n.c)).setCell ⟨w2.heap.size, tt * 5 + 3, none⟩ (.int .i64 yy.n.d)).setCell ⟨w2.heap.size, tt * 5 + 4, none⟩ (.int .i64 yy.e)) = wS := ⟨_, rfl⟩
        rw [hWS]
        have P3 := Lib.hid (show wS.ownsRow w2.heap.size 83 5 (.slice (some ⟨w2.heap.size, 0, none⟩) 2 2) 2 (cellsD (colP p 1 i)) by rw [← hWS, HC.out]; exact own_stAt O3.out (by simpa using htl) yy)
        have B4 := Lib.hid (show Below w2.heap.size w2 wS by rw [← hWS]; exact below_stAt (o := tt * 5) B3.out (Nat.le_refl _) yy)
        clear hWS O3 B3 c0 c1 c2 c3' c4' f0 f1 f2 f3 f4
        have hs4 := B4.out.size
        have HW := Lib.hid (O2.out.below B4.out)
        obtain ⟨vs, a1, a2, a3⟩ := HW.out
        rw [colsP_len] at a1
        have A1 := Lib.hid a1
        clear a1 a2 a3
        go_wp2_with (at_builtin; refine wpList_app rfl (.tmp 50) (.tmp 52) 27 rfl Try.underlying27 infoDOmegaS rfl (by decide) rfl (A1.out.alloc _) rfl (Rd.lit wS 79 #[.slice (some ⟨w2.heap.size, 0, none⟩) 2 2] 1 1 rfl) (by simp [Value.oneCell']) (by omega) (by decide) (by simp <;> omega) ?_; intro A9 c9 w9 o9 g9)
        have BB := Lib.hid (below_grown ((B4.out.mono hs2).alloc (by omega) (.cells #[.slice (some ⟨w2.heap.size, 0, none⟩) 2 2] 79)) (by simp <;> omega) (A1.out.alloc _) (Nat.le_refl _) g9)
        go_roundg (gk - 1)
        case measure => omega
        case rel =>
          refine ⟨i + 1, A9, c9, _, _, by omega, by go_num, rfl, ?_, HE'.out, map_blockB M2.out BB.out (by omega), fun j hj => ?_, X2.out.blockB BB.out (by omega), B2.out.trans (BB.out.mono (by omega))⟩
          · rw [colsP_succ]
            exact OwnSS.app1 (by decide) O2.out (Nat.le_refl _) hs2 (B4.out.alloc hs4 _) (colP_len p 1 i) (P3.out.alloc _) (colsP_len p 1 i) (A1.out.alloc _) g9 o9
          · rcases Nat.lt_succ_iff_lt_or_eq.1 hj with h | h
            · exact HDU.out j h
            · rw [h]; exact hd
      · have hz : (tosP p i).any (· == (tt : Int)) = true := by rw [← HTT.out]; exact hd
        have hl : (Instr.lookup 88 (.map (some (w.heap.size + 1))) (.int .i64 tt) false).run Try.prog w1 = .ok (.bool true) w1 := by
          have := run_lookup_i (w.heap.size + 1) clock tt es (tosP p i) w1 M1.out HEN.out
          rw [hz] at this
          exact this
        have HDD := Lib.hid (ppmN_dup (n := 1) (show i < 2 ^ 1 from hlt) hd)
        clear hz hd
        go_wp2_with fail
        go_ret
        rw [HDD.out]
        exact ⟨none, 0, rfl, OwnSS.nil _ _ _ _ _ _, B1.out⟩
    · obtain rfl : i = 2 := by omega
      have HF := Lib.hid (ppmN_ok (p := p) (n := 1) fun j hj => HDU.out j hj)
      have HA := Lib.hid (colsP_all p 1 2)
      go_wp2_with fail
      refine (i_flipped _ 2 _ (colsP p 1 2) _ (HOS.out.rd (colsP_len p 1 2)) (by omega) HA.out).mono ?_
      rintro e w6 ⟨A6, c6, rfl, o6, b6⟩
      go_wp2_with fail
      go_ret
      rw [HF.out]
      exact ⟨A6, c6, rfl, o6.base_ hs0, HB.out.trans (b6.mono hs0)⟩
set_option maxRecDepth 100000 in
set_option maxHeartbeats 6400000 in
theorem i_Ppm2 (H : Int) (t o : List (Int × Int)) (AT AO : Option Addr) (nT cT cO : Nat) (w : World) (hT : RdP w AT nT t) (hO : RdP w AO 2 o) (bT : nT ≤ 549755813888) :
    Calls Try.prog 11 #[.agg #[.int .i64 2, .int .i64 H, .slice AT nT cT, .slice AO 2 cO]] w (RetSD (ppmN ⟨2, H, t, o⟩ 2) w) := by
  obtain ⟨p, hp⟩ : ∃ p : Po, (⟨2, H, t, o⟩ : Po) = p := ⟨_, rfl⟩
  have e4 : p.o.length = 2 := by rw [← hp]; exact hO.1
  have HE1 := Lib.hid (show ∀ i : Nat, evO (i : Int) 0 o 0 = (toN p i : Nat) from fun i => by have := toN_int (p := p) (by omega) i; rw [← hp] at this ⊢; exact this)
  have HE2 := Lib.hid (show ∀ i : Nat, evT (i : Int) t H % 8 = (phN p i : Nat) from fun i => by have := phN_int p i; rw [← hp] at this ⊢; exact this)
  have HTO := Lib.hid (show ∀ i, toN p i < 4 from fun i => by have := toN_lt p i; rw [e4] at this; exact this)
  rw [hp]
  have HT := Lib.hid hT
  have HO := Lib.hid hO
  have X0 := Lib.hid (Bx.new w 32 #[.int .i64 2, .int .i64 H, .slice AT nT cT, .slice AO 2 cO])
  have I1 := Lib.hid (show inB 2 1 4 = true by decide)
  clear hT hO e4 hp
  obtain ⟨p0, p1, p2, p3, _⟩ := X0.out.four
  have hmk := run_makeMap_plain (P := Try.prog) (w := w.alloc (.cells #[.int .i64 2, .int .i64 H, .slice AT nT cT, .slice AO 2 cO] 32)) 88
  go_enter Try.func11, Try.ntmps11
  go_wp2_with fail
  refine (i_in _ _ _ _).mono ?_
  rintro e w1 ⟨rfl, rfl⟩
  rw [I1.out]
  go_wp2_with fail
  clear p0 p1 p2 p3 hmk
  go_loopg [4, 5] 4 (fun r v j wr => ∃ (i : Nat) (A : Option Addr) (c : Nat) (es : Array MapEntry) (clock : Nat), i + r = 4 ∧ j = .int .i64 i ∧ v = .slice A i c ∧ OwnSS cellsD wr (w.heap.size + 1 + 1) 79 83 5 (.slice A i c) (colsP p 2 i) ∧ EntsI es.toList (tosP p i) ∧ wr.heap[w.heap.size + 1]? = some (.map es clock) ∧ (∀ j, j < i → dupP p j = false) ∧ Bx wr w.heap.size 32 #[.int .i64 2, .int .i64 H, .slice AT nT cT, .slice AO 2 cO] ∧ Below w.heap.size w wr)
  case atStart =>
    refine ⟨0, _, 0, #[], 0, by omega, rfl, rfl, ?_, by simp [EntsI, tosP], ?_, by simp, ((Bx.new w _ _).alloc _).alloc _, (((Below.refl _ _).alloc (Nat.le_refl _) _).alloc (by simp) _).alloc (by simp <;> omega) _⟩
    · have := OwnSS.lit0 ((w.alloc (.cells #[.int .i64 2, .int .i64 H, .slice AT nT cT, .slice AO 2 cO] 32)).alloc (.map #[] 0)) (base := w.heap.size + 1 + 1) (by simp) 79 83 5 cellsD
      simpa [colsP] using this
    · have := heap_alloc_new (w.alloc (.cells #[.int .i64 2, .int .i64 H, .slice AT nT cT, .slice AO 2 cO] 32)) (.map #[] 0)
      refine map_allocI ?_
      simpa using this
  case round =>
    obtain ⟨i, A3, c3, es, clock, hi, rfl, rfl, ho, hen, hmap, hdup, hx, hb⟩ := hrel
    have HOS := Lib.hid ho
    have HEN := Lib.hid hen
    have HMp := Lib.hid hmap
    have HDU := Lib.hid hdup
    have HX := Lib.hid hx
    have HB := Lib.hid hb
    have hs0 := hb.size
    have hrlt : w.heap.size + 1 < wr.heap.size := (Array.getElem?_eq_some_iff.1 hmap).1
    clear ho hen hmap hdup hx hb
    obtain ⟨p0, p1, p2, p3, _⟩ := HX.out.four
    by_cases hlt : i < 4
    · have htl := HTO.out i
      obtain ⟨tt, htt⟩ : ∃ x, toN p i = x := ⟨_, rfl⟩
      obtain ⟨kk, hkk⟩ : ∃ x, phN p i = x := ⟨_, rfl⟩
      have hk8 : kk < 8 := by rw [← hkk]; exact phN_lt p i
      rw [htt] at htl
      have E1 := Lib.hid (show evO (i : Int) 0 o 0 = (tt : Nat) by rw [HE1.out, htt])
      have E2 := Lib.hid (show evT (i : Int) t H % 8 = (kk : Nat) by rw [HE2.out, hkk])
      obtain ⟨yy, hyy⟩ : ∃ y, phD kk = y := ⟨_, rfl⟩
      have HY := Lib.hid hyy
      have HC := Lib.hid (show colP p 2 i = (List.replicate 4 Dw.zero).set tt yy by unfold colP; rw [htt, hkk, hyy])
      clear hyy
      have HTT := Lib.hid htt
      clear htt hkk
      have hmk : ∀ w : World, (Instr.makeSlice 79 (.int .i64 4) (.int .i64 4)).run Try.prog w = .ok (.slice (some ⟨w.heap.size, 0, none⟩) 4 4) (w.alloc (.cells (madeCells (Value.agg #[.int .i64 0, .int .i64 0, .int .i64 0, .int .i64 0, .int .i64 0]).cells (4 * 5)) 83)) := fun w => run_makeN (P := Try.prog) Try.underlying79 infoDOmega 4 (by omega) (by omega) w
      go_wp2_with fail
      refine (i_EvalP 2 H AT AO nT cT 2 cO t o i _ (HT.out.below HB.out) (HO.out.below HB.out) bT (by omega)).mono ?_
      rintro e w1 ⟨rfl, b1⟩
      rw [E1.out, E2.out]
      have O1 := Lib.hid (HOS.out.below b1)
      have X1 := Lib.hid (HX.out.below b1)
      have B1 := Lib.hid (HB.out.trans (b1.mono hs0))
      have hs1 := b1.size
      have M1 := Lib.hid (map_belowI HMp.out b1)
      clear p0 p1 p2 p3 b1
      obtain ⟨p0, p1, p2, p3, _⟩ := X1.out.four
      have h0t : (0 : Int) ≤ (tt : Int) := by omega
      have h1t : (tt : Int) < 4 := by omega
      cases hd : dupP p i
      · have hz : (tosP p i).any (· == (tt : Int)) = false := by rw [← HTT.out]; exact hd
        have hl : (Instr.lookup 88 (.map (some (w.heap.size + 1))) (.int .i64 tt) false).run Try.prog w1 = .ok (.bool false) w1 := by
          have := run_lookup_i (w.heap.size + 1) clock tt es (tosP p i) w1 M1.out HEN.out
          rw [hz] at this
          exact this
        obtain ⟨w2, hw2⟩ : ∃ w2 : World, { w1 with heap := w1.heap.setIfInBounds (w.heap.size + 1) (.map (es.push { key := .int .i64 tt, val := .bool true, born := clock }) (clock + 1)) } = w2 := ⟨_, rfl⟩
        have hu : (Instr.mapUpdate 88 (.map (some (w.heap.size + 1))) (.int .i64 tt) (.bool true)).run Try.prog w1 = .ok () w2 := by rw [← hw2]; exact run_update_i (w.heap.size + 1) clock tt es (tosP p i) w1 M1.out HEN.out hz
        have M2 := Lib.hid (show w2.heap[w.heap.size + 1]? = some (.map (es.push { key := .int .i64 tt, val := .bool true, born := clock }) (clock + 1)) from hw2 ▸ map_setObjI M1.out)
        have O2 := Lib.hid (show OwnSS cellsD w2 (w.heap.size + 1 + 1) 79 83 5 (.slice A3 i c3) (colsP p 2 i) from hw2 ▸ O1.out.setObjI (by omega) _)
        have X2 := Lib.hid (show Bx w2 w.heap.size 32 #[.int .i64 2, .int .i64 H, .slice AT nT cT, .slice AO 2 cO] from hw2 ▸ X1.out.setObjI (by omega) _)
        have B2 := Lib.hid (show Below w.heap.size w w2 from hw2 ▸ below_setObjI B1.out (by omega) _)
        have hs2 : w.heap.size + 1 + 1 ≤ w2.heap.size := by have := (Array.getElem?_eq_some_iff.1 M2.out).1; omega
        have HE' := Lib.hid (show EntsI (es.push { key := .int .i64 tt, val := .bool true, born := clock }).toList (tosP p (i + 1)) by rw [tosP_succ, HTT.out]; exact HEN.out.push tt clock)
        clear hw2 M1 O1 X1 B1 hz p0 p1 p2 p3
        obtain ⟨p0, p1, p2, p3, _⟩ := X2.out.four
        have W2 := Lib.hid (own_made w2 (q := 2) (n := 4) (by omega) (by omega) (by decide))
        go_wp2_with fail
        refine (i_Phase kk _ hk8).mono ?_
        rintro e w3 ⟨rfl, b3⟩
        rw [HY.out]
        have O3 := Lib.hid (ownsRow_below W2.out b3)
        have B3 := Lib.hid (below_alloc b3)
        clear b3 W2 hmk p0 p1 p2 p3
        obtain ⟨⟨⟨x0, c0⟩, ⟨x1, c1⟩, ⟨x2, c2⟩, ⟨x3, c3'⟩, ⟨x4, c4'⟩⟩, f0, f1, f2, f3, f4⟩ := own5 O3.out htl
        go_upto_region 14 with fail
        obtain ⟨wS, hWS⟩ : ∃ wS, (((((w3.setCell ⟨w2.heap.size, tt * 5, none⟩ (.int .i64 yy.n.a)).setCell ⟨w2.heap.size, tt * 5 + 1, none⟩ (.int .i64 yy.n.b)).setCell ⟨w2.heap.size, tt * 5 + 2, none⟩ (.int .i64 yy.n.c)).setCell ⟨w2.heap.size, tt * 5 + 3, none⟩ (.int .i64 yy.n.d)).setCell ⟨w2.heap.size, tt * 5 + 4, none⟩ (.int .i64 yy.e)) = wS := ⟨_, rfl⟩
        rw [hWS]
        have P3 := Lib.hid (show wS.ownsRow w2.heap.size 83 5 (.slice (some ⟨w2.heap.size, 0, none⟩) 4 4) 4 (cellsD (colP p 2 i)) by rw [← hWS, HC.out]; exact own_stAt O3.out (by simpa using htl) yy)
        have B4 := Lib.hid (show Below w2.heap.size w2 wS by rw [← hWS]; exact below_stAt (o := tt * 5) B3.out (Nat.le_refl _) yy)
        clear hWS O3 B3 c0 c1 c2 c3' c4' f0 f1 f2 f3 f4
        have hs4 := B4.out.size
        have HW := Lib.hid (O2.out.below B4.out)
        obtain ⟨vs, a1, a2, a3⟩ := HW.out
        rw [colsP_len] at a1
        have A1 := Lib.hid a1
        clear a1 a2 a3
        go_wp2_with (at_builtin; refine wpList_app rfl (.tmp 50) (.tmp 52) 27 rfl Try.underlying27 infoDOmegaS rfl (by decide) rfl (A1.out.alloc _) rfl (Rd.lit wS 79 #[.slice (some ⟨w2.heap.size, 0, none⟩) 4 4] 1 1 rfl) (by simp [Value.oneCell']) (by omega) (by decide) (by simp <;> omega) ?_; intro A9 c9 w9 o9 g9)
        have BB := Lib.hid (below_grown ((B4.out.mono hs2).alloc (by omega) (.cells #[.slice (some ⟨w2.heap.size, 0, none⟩) 4 4] 79)) (by simp <;> omega) (A1.out.alloc _) (Nat.le_refl _) g9)
        go_roundg (gk - 1)
        case measure => omega
        case rel =>
          refine ⟨i + 1, A9, c9, _, _, by omega, by go_num, rfl, ?_, HE'.out, map_blockB M2.out BB.out (by omega), fun j hj => ?_, X2.out.blockB BB.out (by omega), B2.out.trans (BB.out.mono (by omega))⟩
          · rw [colsP_succ]
            exact OwnSS.app1 (by decide) O2.out (Nat.le_refl _) hs2 (B4.out.alloc hs4 _) (colP_len p 2 i) (P3.out.alloc _) (colsP_len p 2 i) (A1.out.alloc _) g9 o9
          · rcases Nat.lt_succ_iff_lt_or_eq.1 hj with h | h
            · exact HDU.out j h
            · rw [h]; exact hd
      · have hz : (tosP p i).any (· == (tt : Int)) = true := by rw [← HTT.out]; exact hd
        have hl : (Instr.lookup 88 (.map (some (w.heap.size + 1))) (.int .i64 tt) false).run Try.prog w1 = .ok (.bool true) w1 := by
          have := run_lookup_i (w.heap.size + 1) clock tt es (tosP p i) w1 M1.out HEN.out
          rw [hz] at this
          exact this
        have HDD := Lib.hid (ppmN_dup (n := 2) (show i < 2 ^ 2 from hlt) hd)
        clear hz hd
        go_wp2_with fail
        go_ret
        rw [HDD.out]
        exact ⟨none, 0, rfl, OwnSS.nil _ _ _ _ _ _, B1.out⟩
    · obtain rfl : i = 4 := by omega
      have HF := Lib.hid (ppmN_ok (p := p) (n := 2) fun j hj => HDU.out j hj)
      have HA := Lib.hid (colsP_all p 2 4)
      go_wp2_with fail
      refine (i_flipped _ 4 _ (colsP p 2 4) _ (HOS.out.rd (colsP_len p 2 4)) (by omega) HA.out).mono ?_
      rintro e w6 ⟨A6, c6, rfl, o6, b6⟩
      go_wp2_with fail
      go_ret
      rw [HF.out]
      exact ⟨A6, c6, rfl, o6.base_ hs0, HB.out.trans (b6.mono hs0)⟩
set_option maxRecDepth 100000 in
set_option maxHeartbeats 6400000 in
theorem i_Ppm3 (H : Int) (t o : List (Int × Int)) (AT AO : Option Addr) (nT cT cO : Nat) (w : World) (hT : RdP w AT nT t) (hO : RdP w AO 3 o) (bT : nT ≤ 549755813888) :
    Calls Try.prog 11 #[.agg #[.int .i64 3, .int .i64 H, .slice AT nT cT, .slice AO 3 cO]] w (RetSD (ppmN ⟨3, H, t, o⟩ 3) w) := by
  obtain ⟨p, hp⟩ : ∃ p : Po, (⟨3, H, t, o⟩ : Po) = p := ⟨_, rfl⟩
  have e4 : p.o.length = 3 := by rw [← hp]; exact hO.1
  have HE1 := Lib.hid (show ∀ i : Nat, evO (i : Int) 0 o 0 = (toN p i : Nat) from fun i => by have := toN_int (p := p) (by omega) i; rw [← hp] at this ⊢; exact this)
  have HE2 := Lib.hid (show ∀ i : Nat, evT (i : Int) t H % 8 = (phN p i : Nat) from fun i => by have := phN_int p i; rw [← hp] at this ⊢; exact this)
  have HTO := Lib.hid (show ∀ i, toN p i < 8 from fun i => by have := toN_lt p i; rw [e4] at this; exact this)
  rw [hp]
  have HT := Lib.hid hT
  have HO := Lib.hid hO
  have X0 := Lib.hid (Bx.new w 32 #[.int .i64 3, .int .i64 H, .slice AT nT cT, .slice AO 3 cO])
  have I1 := Lib.hid (show inB 3 1 4 = true by decide)
  clear hT hO e4 hp
  obtain ⟨p0, p1, p2, p3, _⟩ := X0.out.four
  have hmk := run_makeMap_plain (P := Try.prog) (w := w.alloc (.cells #[.int .i64 3, .int .i64 H, .slice AT nT cT, .slice AO 3 cO] 32)) 88
  go_enter Try.func11, Try.ntmps11
  go_wp2_with fail
  refine (i_in _ _ _ _).mono ?_
  rintro e w1 ⟨rfl, rfl⟩
  rw [I1.out]
  go_wp2_with fail
  clear p0 p1 p2 p3 hmk
  go_loopg [4, 5] 8 (fun r v j wr => ∃ (i : Nat) (A : Option Addr) (c : Nat) (es : Array MapEntry) (clock : Nat), i + r = 8 ∧ j = .int .i64 i ∧ v = .slice A i c ∧ OwnSS cellsD wr (w.heap.size + 1 + 1) 79 83 5 (.slice A i c) (colsP p 3 i) ∧ EntsI es.toList (tosP p i) ∧ wr.heap[w.heap.size + 1]? = some (.map es clock) ∧ (∀ j, j < i → dupP p j = false) ∧ Bx wr w.heap.size 32 #[.int .i64 3, .int .i64 H, .slice AT nT cT, .slice AO 3 cO] ∧ Below w.heap.size w wr)
  case atStart =>
    refine ⟨0, _, 0, #[], 0, by omega, rfl, rfl, ?_, by simp [EntsI, tosP], ?_, by simp, ((Bx.new w _ _).alloc _).alloc _, (((Below.refl _ _).alloc (Nat.le_refl _) _).alloc (by simp) _).alloc (by simp <;> omega) _⟩
    · have := OwnSS.lit0 ((w.alloc (.cells #[.int .i64 3, .int .i64 H, .slice AT nT cT, .slice AO 3 cO] 32)).alloc (.map #[] 0)) (base := w.heap.size + 1 + 1) (by simp) 79 83 5 cellsD
      simpa [colsP] using this
    · have := heap_alloc_new (w.alloc (.cells #[.int .i64 3, .int .i64 H, .slice AT nT cT, .slice AO 3 cO] 32)) (.map #[] 0)
      refine map_allocI ?_
      simpa using this
  case round =>
    obtain ⟨i, A3, c3, es, clock, hi, rfl, rfl, ho, hen, hmap, hdup, hx, hb⟩ := hrel
    have HOS := Lib.hid ho
    have HEN := Lib.hid hen
    have HMp := Lib.hid hmap
    have HDU := Lib.hid hdup
    have HX := Lib.hid hx
    have HB := Lib.hid hb
    have hs0 := hb.size
    have hrlt : w.heap.size + 1 < wr.heap.size := (Array.getElem?_eq_some_iff.1 hmap).1
    clear ho hen hmap hdup hx hb
    obtain ⟨p0, p1, p2, p3, _⟩ := HX.out.four
    by_cases hlt : i < 8
    · have htl := HTO.out i
      obtain ⟨tt, htt⟩ : ∃ x, toN p i = x := ⟨_, rfl⟩
      obtain ⟨kk, hkk⟩ : ∃ x, phN p i = x := ⟨_, rfl⟩
      have hk8 : kk < 8 := by rw [← hkk]; exact phN_lt p i
      rw [htt] at htl
      have E1 := Lib.hid (show evO (i : Int) 0 o 0 = (tt : Nat) by rw [HE1.out, htt])
      have E2 := Lib.hid (show evT (i : Int) t H % 8 = (kk : Nat) by rw [HE2.out, hkk])
      obtain ⟨yy, hyy⟩ : ∃ y, phD kk = y := ⟨_, rfl⟩
      have HY := Lib.hid hyy
      have HC := Lib.hid (show colP p 3 i = (List.replicate 8 Dw.zero).set tt yy by unfold colP; rw [htt, hkk, hyy])
      clear hyy
      have HTT := Lib.hid htt
      clear htt hkk
      have hmk : ∀ w : World, (Instr.makeSlice 79 (.int .i64 8) (.int .i64 8)).run Try.prog w = .ok (.slice (some ⟨w.heap.size, 0, none⟩) 8 8) (w.alloc (.cells (madeCells (Value.agg #[.int .i64 0, .int .i64 0, .int .i64 0, .int .i64 0, .int .i64 0]).cells (8 * 5)) 83)) := fun w => run_makeN (P := Try.prog) Try.underlying79 infoDOmega 8 (by omega) (by omega) w
      go_wp2_with fail
      refine (i_EvalP 3 H AT AO nT cT 3 cO t o i _ (HT.out.below HB.out) (HO.out.below HB.out) bT (by omega)).mono ?_
      rintro e w1 ⟨rfl, b1⟩
      rw [E1.out, E2.out]
      have O1 := Lib.hid (HOS.out.below b1)
      have X1 := Lib.hid (HX.out.below b1)
      have B1 := Lib.hid (HB.out.trans (b1.mono hs0))
      have hs1 := b1.size
      have M1 := Lib.hid (map_belowI HMp.out b1)
      clear p0 p1 p2 p3 b1
      obtain ⟨p0, p1, p2, p3, _⟩ := X1.out.four
      have h0t : (0 : Int) ≤ (tt : Int) := by omega
      have h1t : (tt : Int) < 8 := by omega
      cases hd : dupP p i
      · have hz : (tosP p i).any (· == (tt : Int)) = false := by rw [← HTT.out]; exact hd
        have hl : (Instr.lookup 88 (.map (some (w.heap.size + 1))) (.int .i64 tt) false).run Try.prog w1 = .ok (.bool false) w1 := by
          have := run_lookup_i (w.heap.size + 1) clock tt es (tosP p i) w1 M1.out HEN.out
          rw [hz] at this
          exact this
        obtain ⟨w2, hw2⟩ : ∃ w2 : World, { w1 with heap := w1.heap.setIfInBounds (w.heap.size + 1) (.map (es.push { key := .int .i64 tt, val := .bool true, born := clock }) (clock + 1)) } = w2 := ⟨_, rfl⟩
        have hu : (Instr.mapUpdate 88 (.map (some (w.heap.size + 1))) (.int .i64 tt) (.bool true)).run Try.prog w1 = .ok () w2 := by rw [← hw2]; exact run_update_i (w.heap.size + 1) clock tt es (tosP p i) w1 M1.out HEN.out hz
        have M2 := Lib.hid (show w2.heap[w.heap.size + 1]? = some (.map (es.push { key := .int .i64 tt, val := .bool true, born := clock }) (clock + 1)) from hw2 ▸ map_setObjI M1.out)
        have O2 := Lib.hid (show OwnSS cellsD w2 (w.heap.size + 1 + 1) 79 83 5 (.slice A3 i c3) (colsP p 3 i) from hw2 ▸ O1.out.setObjI (by omega) _)
        have X2 := Lib.hid (show Bx w2 w.heap.size 32 #[.int .i64 3, .int .i64 H, .slice AT nT cT, .slice AO 3 cO] from hw2 ▸ X1.out.setObjI (by omega) _)
        have B2 := Lib.hid (show Below w.heap.size w w2 from hw2 ▸ below_setObjI B1.out (by omega) _)
        have hs2 : w.heap.size + 1 + 1 ≤ w2.heap.size := by have := (Array.getElem?_eq_some_iff.1 M2.out).1; omega
        have HE' := Lib.hid (show EntsI (es.push { key := .int .i64 tt, val := .bool true, born := clock }).toList (tosP p (i + 1)) by rw [tosP_succ, HTT.out]; exact HEN.out.push tt clock)
        clear hw2 M1 O1 X1 B1 hz p0 p1 p2 p3
        obtain ⟨p0, p1, p2, p3, _⟩ := X2.out.four
        have W2 := Lib.hid (own_made w2 (q := 3) (n := 8) (by omega) (by omega) (by decide))
        go_wp2_with fail
        refine (i_Phase kk _ hk8).mono ?_
        rintro e w3 ⟨rfl, b3⟩
        rw [HY.out]
        have O3 := Lib.hid (ownsRow_below W2.out b3)
        have B3 := Lib.hid (below_alloc b3)
        clear b3 W2 hmk p0 p1 p2 p3
        obtain ⟨⟨⟨x0, c0⟩, ⟨x1, c1⟩, ⟨x2, c2⟩, ⟨x3, c3'⟩, ⟨x4, c4'⟩⟩, f0, f1, f2, f3, f4⟩ := own5 O3.out htl
        go_upto_region 14 with fail
        obtain ⟨wS, hWS⟩ : ∃ wS, (((((w3.setCell ⟨w2.heap.size, tt * 5, none⟩ (.int .i64 yy.n.a)).setCell ⟨w2.heap.size, tt * 5 + 1, none⟩ (.int .i64 yy.n.b)).setCell ⟨w2.heap.size, tt * 5 + 2, none⟩ (.int .i64 yy.n.c)).setCell ⟨w2.heap.size, tt * 5 + 3, none⟩ (.int .i64 yy.n.d)).setCell ⟨w2.heap.size, tt * 5 + 4, none⟩ (.int .i64 yy.e)) = wS := ⟨_, rfl⟩
        rw [hWS]
        have P3 := Lib.hid (show wS.ownsRow w2.heap.size 83 5 (.slice (some ⟨w2.heap.size, 0, none⟩) 8 8) 8 (cellsD (colP p 3 i)) by rw [← hWS, HC.out]; exact own_stAt O3.out (by simpa using htl) yy)
        have B4 := Lib.hid (show Below w2.heap.size w2 wS by rw [← hWS]; exact below_stAt (o := tt * 5) B3.out (Nat.le_refl _) yy)
        clear hWS O3 B3 c0 c1 c2 c3' c4' f0 f1 f2 f3 f4
        have hs4 := B4.out.size
        have HW := Lib.hid (O2.out.below B4.out)
        obtain ⟨vs, a1, a2, a3⟩ := HW.out
        rw [colsP_len] at a1
        have A1 := Lib.hid a1
        clear a1 a2 a3
        go_wp2_with (at_builtin; refine wpList_app rfl (.tmp 50) (.tmp 52) 27 rfl Try.underlying27 infoDOmegaS rfl (by decide) rfl (A1.out.alloc _) rfl (Rd.lit wS 79 #[.slice (some ⟨w2.heap.size, 0, none⟩) 8 8] 1 1 rfl) (by simp [Value.oneCell']) (by omega) (by decide) (by simp <;> omega) ?_; intro A9 c9 w9 o9 g9)
        have BB := Lib.hid (below_grown ((B4.out.mono hs2).alloc (by omega) (.cells #[.slice (some ⟨w2.heap.size, 0, none⟩) 8 8] 79)) (by simp <;> omega) (A1.out.alloc _) (Nat.le_refl _) g9)
        go_roundg (gk - 1)
        case measure => omega
        case rel =>
          refine ⟨i + 1, A9, c9, _, _, by omega, by go_num, rfl, ?_, HE'.out, map_blockB M2.out BB.out (by omega), fun j hj => ?_, X2.out.blockB BB.out (by omega), B2.out.trans (BB.out.mono (by omega))⟩
          · rw [colsP_succ]
            exact OwnSS.app1 (by decide) O2.out (Nat.le_refl _) hs2 (B4.out.alloc hs4 _) (colP_len p 3 i) (P3.out.alloc _) (colsP_len p 3 i) (A1.out.alloc _) g9 o9
          · rcases Nat.lt_succ_iff_lt_or_eq.1 hj with h | h
            · exact HDU.out j h
            · rw [h]; exact hd
      · have hz : (tosP p i).any (· == (tt : Int)) = true := by rw [← HTT.out]; exact hd
        have hl : (Instr.lookup 88 (.map (some (w.heap.size + 1))) (.int .i64 tt) false).run Try.prog w1 = .ok (.bool true) w1 := by
          have := run_lookup_i (w.heap.size + 1) clock tt es (tosP p i) w1 M1.out HEN.out
          rw [hz] at this
          exact this
        have HDD := Lib.hid (ppmN_dup (n := 3) (show i < 2 ^ 3 from hlt) hd)
        clear hz hd
        go_wp2_with fail
        go_ret
        rw [HDD.out]
        exact ⟨none, 0, rfl, OwnSS.nil _ _ _ _ _ _, B1.out⟩
    · obtain rfl : i = 8 := by omega
      have HF := Lib.hid (ppmN_ok (p := p) (n := 3) fun j hj => HDU.out j hj)
      have HA := Lib.hid (colsP_all p 3 8)
      go_wp2_with fail
      refine (i_flipped _ 8 _ (colsP p 3 8) _ (HOS.out.rd (colsP_len p 3 8)) (by omega) HA.out).mono ?_
      rintro e w6 ⟨A6, c6, rfl, o6, b6⟩
      go_wp2_with fail
      go_ret
      rw [HF.out]
      exact ⟨A6, c6, rfl, o6.base_ hs0, HB.out.trans (b6.mono hs0)⟩
set_option maxRecDepth 100000 in
set_option maxHeartbeats 6400000 in
theorem i_Ppm4 (H : Int) (t o : List (Int × Int)) (AT AO : Option Addr) (nT cT cO : Nat) (w : World) (hT : RdP w AT nT t) (hO : RdP w AO 4 o) (bT : nT ≤ 549755813888) :
    Calls Try.prog 11 #[.agg #[.int .i64 4, .int .i64 H, .slice AT nT cT, .slice AO 4 cO]] w (RetSD (ppmN ⟨4, H, t, o⟩ 4) w) := by
  obtain ⟨p, hp⟩ : ∃ p : Po, (⟨4, H, t, o⟩ : Po) = p := ⟨_, rfl⟩
  have e4 : p.o.length = 4 := by rw [← hp]; exact hO.1
  have HE1 := Lib.hid (show ∀ i : Nat, evO (i : Int) 0 o 0 = (toN p i : Nat) from fun i => by have := toN_int (p := p) (by omega) i; rw [← hp] at this ⊢; exact this)
  have HE2 := Lib.hid (show ∀ i : Nat, evT (i : Int) t H % 8 = (phN p i : Nat) from fun i => by have := phN_int p i; rw [← hp] at this ⊢; exact this)
  have HTO := Lib.hid (show ∀ i, toN p i < 16 from fun i => by have := toN_lt p i; rw [e4] at this; exact this)
  rw [hp]
  have HT := Lib.hid hT
  have HO := Lib.hid hO
  have X0 := Lib.hid (Bx.new w 32 #[.int .i64 4, .int .i64 H, .slice AT nT cT, .slice AO 4 cO])
  have I1 := Lib.hid (show inB 4 1 4 = true by decide)
  clear hT hO e4 hp
  obtain ⟨p0, p1, p2, p3, _⟩ := X0.out.four
  have hmk := run_makeMap_plain (P := Try.prog) (w := w.alloc (.cells #[.int .i64 4, .int .i64 H, .slice AT nT cT, .slice AO 4 cO] 32)) 88
  go_enter Try.func11, Try.ntmps11
  go_wp2_with fail
  refine (i_in _ _ _ _).mono ?_
  rintro e w1 ⟨rfl, rfl⟩
  rw [I1.out]
  go_wp2_with fail
  clear p0 p1 p2 p3 hmk
  go_loopg [4, 5] 16 (fun r v j wr => ∃ (i : Nat) (A : Option Addr) (c : Nat) (es : Array MapEntry) (clock : Nat), i + r = 16 ∧ j = .int .i64 i ∧ v = .slice A i c ∧ OwnSS cellsD wr (w.heap.size + 1 + 1) 79 83 5 (.slice A i c) (colsP p 4 i) ∧ EntsI es.toList (tosP p i) ∧ wr.heap[w.heap.size + 1]? = some (.map es clock) ∧ (∀ j, j < i → dupP p j = false) ∧ Bx wr w.heap.size 32 #[.int .i64 4, .int .i64 H, .slice AT nT cT, .slice AO 4 cO] ∧ Below w.heap.size w wr)
  case atStart =>
    refine ⟨0, _, 0, #[], 0, by omega, rfl, rfl, ?_, by simp [EntsI, tosP], ?_, by simp, ((Bx.new w _ _).alloc _).alloc _, (((Below.refl _ _).alloc (Nat.le_refl _) _).alloc (by simp) _).alloc (by simp <;> omega) _⟩
    · have := OwnSS.lit0 ((w.alloc (.cells #[.int .i64 4, .int .i64 H, .slice AT nT cT, .slice AO 4 cO] 32)).alloc (.map #[] 0)) (base := w.heap.size + 1 + 1) (by simp) 79 83 5 cellsD
      simpa [colsP] using this
    · have := heap_alloc_new (w.alloc (.cells #[.int .i64 4, .int .i64 H, .slice AT nT cT, .slice AO 4 cO] 32)) (.map #[] 0)
      refine map_allocI ?_
      simpa using this
  case round =>
    obtain ⟨i, A3, c3, es, clock, hi, rfl, rfl, ho, hen, hmap, hdup, hx, hb⟩ := hrel
    have HOS := Lib.hid ho
    have HEN := Lib.hid hen
    have HMp := Lib.hid hmap
    have HDU := Lib.hid hdup
    have HX := Lib.hid hx
    have HB := Lib.hid hb
    have hs0 := hb.size
    have hrlt : w.heap.size + 1 < wr.heap.size := (Array.getElem?_eq_some_iff.1 hmap).1
    clear ho hen hmap hdup hx hb
    obtain ⟨p0, p1, p2, p3, _⟩ := HX.out.four
    by_cases hlt : i < 16
    · have htl := HTO.out i
      obtain ⟨tt, htt⟩ : ∃ x, toN p i = x := ⟨_, rfl⟩
      obtain ⟨kk, hkk⟩ : ∃ x, phN p i = x := ⟨_, rfl⟩
      have hk8 : kk < 8 := by rw [← hkk]; exact phN_lt p i
      rw [htt] at htl
      have E1 := Lib.hid (show evO (i : Int) 0 o 0 = (tt : Nat) by rw [HE1.out, htt])
      have E2 := Lib.hid (show evT (i : Int) t H % 8 = (kk : Nat) by rw [HE2.out, hkk])
      obtain ⟨yy, hyy⟩ : ∃ y, phD kk = y := ⟨_, rfl⟩
      have HY := Lib.hid hyy
      have HC := Lib.hid (show colP p 4 i = (List.replicate 16 Dw.zero).set tt yy by unfold colP; rw [htt, hkk, hyy])
      clear hyy
      have HTT := Lib.hid htt
      clear htt hkk
      have hmk : ∀ w : World, (Instr.makeSlice 79 (.int .i64 16) (.int .i64 16)).run Try.prog w = .ok (.slice (some ⟨w.heap.size, 0, none⟩) 16 16) (w.alloc (.cells (madeCells (Value.agg #[.int .i64 0, .int .i64 0, .int .i64 0, .int .i64 0, .int .i64 0]).cells (16 * 5)) 83)) := fun w => run_makeN (P := Try.prog) Try.underlying79 infoDOmega 16 (by omega) (by omega) w
      go_wp2_with fail
      refine (i_EvalP 4 H AT AO nT cT 4 cO t o i _ (HT.out.below HB.out) (HO.out.below HB.out) bT (by omega)).mono ?_
      rintro e w1 ⟨rfl, b1⟩
      rw [E1.out, E2.out]
      have O1 := Lib.hid (HOS.out.below b1)
      have X1 := Lib.hid (HX.out.below b1)
      have B1 := Lib.hid (HB.out.trans (b1.mono hs0))
      have hs1 := b1.size
      have M1 := Lib.hid (map_belowI HMp.out b1)
      clear p0 p1 p2 p3 b1
      obtain ⟨p0, p1, p2, p3, _⟩ := X1.out.four
      have h0t : (0 : Int) ≤ (tt : Int) := by omega
      have h1t : (tt : Int) < 16 := by omega
      cases hd : dupP p i
      · have hz : (tosP p i).any (· == (tt : Int)) = false := by rw [← HTT.out]; exact hd
        have hl : (Instr.lookup 88 (.map (some (w.heap.size + 1))) (.int .i64 tt) false).run Try.prog w1 = .ok (.bool false) w1 := by
          have := run_lookup_i (w.heap.size + 1) clock tt es (tosP p i) w1 M1.out HEN.out
          rw [hz] at this
          exact this
        obtain ⟨w2, hw2⟩ : ∃ w2 : World, { w1 with heap := w1.heap.setIfInBounds (w.heap.size + 1) (.map (es.push { key := .int .i64 tt, val := .bool true, born := clock }) (clock + 1)) } = w2 := ⟨_, rfl⟩
        have hu : (Instr.mapUpdate 88 (.map (some (w.heap.size + 1))) (.int .i64 tt) (.bool true)).run Try.prog w1 = .ok () w2 := by rw [← hw2]; exact run_update_i (w.heap.size + 1) clock tt es (tosP p i) w1 M1.out HEN.out hz
        have M2 := Lib.hid (show w2.heap[w.heap.size + 1]? = some (.map (es.push { key := .int .i64 tt, val := .bool true, born := clock }) (clock + 1)) from hw2 ▸ map_setObjI M1.out)
        have O2 := Lib.hid (show OwnSS cellsD w2 (w.heap.size + 1 + 1) 79 83 5 (.slice A3 i c3) (colsP p 4 i) from hw2 ▸ O1.out.setObjI (by omega) _)
        have X2 := Lib.hid (show Bx w2 w.heap.size 32 #[.int .i64 4, .int .i64 H, .slice AT nT cT, .slice AO 4 cO] from hw2 ▸ X1.out.setObjI (by omega) _)
        have B2 := Lib.hid (show Below w.heap.size w w2 from hw2 ▸ below_setObjI B1.out (by omega) _)
        have hs2 : w.heap.size + 1 + 1 ≤ w2.heap.size := by have := (Array.getElem?_eq_some_iff.1 M2.out).1; omega
        have HE' := Lib.hid (show EntsI (es.push { key := .int .i64 tt, val := .bool true, born := clock }).toList (tosP p (i + 1)) by rw [tosP_succ, HTT.out]; exact HEN.out.push tt clock)
        clear hw2 M1 O1 X1 B1 hz p0 p1 p2 p3
        obtain ⟨p0, p1, p2, p3, _⟩ := X2.out.four
        have W2 := Lib.hid (own_made w2 (q := 4) (n := 16) (by omega) (by omega) (by decide))
        go_wp2_with fail
        refine (i_Phase kk _ hk8).mono ?_
        rintro e w3 ⟨rfl, b3⟩
        rw [HY.out]
        have O3 := Lib.hid (ownsRow_below W2.out b3)
        have B3 := Lib.hid (below_alloc b3)
        clear b3 W2 hmk p0 p1 p2 p3
        obtain ⟨⟨⟨x0, c0⟩, ⟨x1, c1⟩, ⟨x2, c2⟩, ⟨x3, c3'⟩, ⟨x4, c4'⟩⟩, f0, f1, f2, f3, f4⟩ := own5 O3.out htl
        go_upto_region 14 with fail
        obtain ⟨wS, hWS⟩ : ∃ wS, (((((w3.setCell ⟨w2.heap.size, tt * 5, none⟩ (.int .i64 yy.n.a)).setCell ⟨w2.heap.size, tt * 5 + 1, none⟩ (.int .i64 yy.n.b)).setCell ⟨w2.heap.size, tt * 5 + 2, none⟩ (.int .i64 yy.n.c)).setCell ⟨w2.heap.size, tt * 5 + 3, none⟩ (.int .i64 yy.n.d)).setCell ⟨w2.heap.size, tt * 5 + 4, none⟩ (.int .i64 yy.e)) = wS := ⟨_, rfl⟩
        rw [hWS]
        have P3 := Lib.hid (show wS.ownsRow w2.heap.size 83 5 (.slice (some ⟨w2.heap.size, 0, none⟩) 16 16) 16 (cellsD (colP p 4 i)) by rw [← hWS, HC.out]; exact own_stAt O3.out (by simpa using htl) yy)
        have B4 := Lib.hid (show Below w2.heap.size w2 wS by rw [← hWS]; exact below_stAt (o := tt * 5) B3.out (Nat.le_refl _) yy)
        clear hWS O3 B3 c0 c1 c2 c3' c4' f0 f1 f2 f3 f4
        have hs4 := B4.out.size
        have HW := Lib.hid (O2.out.below B4.out)
        obtain ⟨vs, a1, a2, a3⟩ := HW.out
        rw [colsP_len] at a1
        have A1 := Lib.hid a1
        clear a1 a2 a3
        go_wp2_with (at_builtin; refine wpList_app rfl (.tmp 50) (.tmp 52) 27 rfl Try.underlying27 infoDOmegaS rfl (by decide) rfl (A1.out.alloc _) rfl (Rd.lit wS 79 #[.slice (some ⟨w2.heap.size, 0, none⟩) 16 16] 1 1 rfl) (by simp [Value.oneCell']) (by omega) (by decide) (by simp <;> omega) ?_; intro A9 c9 w9 o9 g9)
        have BB := Lib.hid (below_grown ((B4.out.mono hs2).alloc (by omega) (.cells #[.slice (some ⟨w2.heap.size, 0, none⟩) 16 16] 79)) (by simp <;> omega) (A1.out.alloc _) (Nat.le_refl _) g9)
        go_roundg (gk - 1)
        case measure => omega
        case rel =>
          refine ⟨i + 1, A9, c9, _, _, by omega, by go_num, rfl, ?_, HE'.out, map_blockB M2.out BB.out (by omega), fun j hj => ?_, X2.out.blockB BB.out (by omega), B2.out.trans (BB.out.mono (by omega))⟩
          · rw [colsP_succ]
            exact OwnSS.app1 (by decide) O2.out (Nat.le_refl _) hs2 (B4.out.alloc hs4 _) (colP_len p 4 i) (P3.out.alloc _) (colsP_len p 4 i) (A1.out.alloc _) g9 o9
          · rcases Nat.lt_succ_iff_lt_or_eq.1 hj with h | h
            · exact HDU.out j h
            · rw [h]; exact hd
      · have hz : (tosP p i).any (· == (tt : Int)) = true := by rw [← HTT.out]; exact hd
        have hl : (Instr.lookup 88 (.map (some (w.heap.size + 1))) (.int .i64 tt) false).run Try.prog w1 = .ok (.bool true) w1 := by
          have := run_lookup_i (w.heap.size + 1) clock tt es (tosP p i) w1 M1.out HEN.out
          rw [hz] at this
          exact this
        have HDD := Lib.hid (ppmN_dup (n := 4) (show i < 2 ^ 4 from hlt) hd)
        clear hz hd
        go_wp2_with fail
        go_ret
        rw [HDD.out]
        exact ⟨none, 0, rfl, OwnSS.nil _ _ _ _ _ _, B1.out⟩
    · obtain rfl : i = 16 := by omega
      have HF := Lib.hid (ppmN_ok (p := p) (n := 4) fun j hj => HDU.out j hj)
      have HA := Lib.hid (colsP_all p 4 16)
      go_wp2_with fail
      refine (i_flipped _ 16 _ (colsP p 4 16) _ (HOS.out.rd (colsP_len p 4 16)) (by omega) HA.out).mono ?_
      rintro e w6 ⟨A6, c6, rfl, o6, b6⟩
      go_wp2_with fail
      go_ret
      rw [HF.out]
      exact ⟨A6, c6, rfl, o6.base_ hs0, HB.out.trans (b6.mono hs0)⟩
theorem i_Ppm (p : Po) (AT AO : Option Addr) (nT cT nO cO : Nat) (w : World) (hT : RdP w AT nT p.t) (hO : RdP w AO nO p.o) (bT : nT ≤ 549755813888) :
    Calls Try.prog 11 #[.agg #[.int .i64 p.N, .int .i64 p.H, .slice AT nT cT, .slice AO nO cO]] w (RetSD (ppm p) w) := by
  cases hin : inB p.N 1 4
  · rw [ppm_no (by rw [hin]; simp)]
    exact i_PpmNo1 p AT AO nT cT nO cO w hin
  · by_cases hN : (nO : Int) = p.N
    · have hl := hO.1
      have hb := inB_iff.1 hin
      obtain ⟨N, H, t, o⟩ := p
      simp only at hN hl hb hT hO hin ⊢
      subst hN
      rw [ppm_n (p := ⟨nO, H, t, o⟩) (n := nO) (by omega) rfl hl]
      obtain rfl | rfl | rfl | rfl : nO = 1 ∨ nO = 2 ∨ nO = 3 ∨ nO = 4 := by omega
      · exact i_Ppm1 H t o AT AO nT cT cO w hT hO bT
      · exact i_Ppm2 H t o AT AO nT cT cO w hT hO bT
      · exact i_Ppm3 H t o AT AO nT cT cO w hT hO bT
      · exact i_Ppm4 H t o AT AO nT cT cO w hT hO bT
    · rw [ppm_no (by rw [hO.1]; exact fun h => hN h.2)]
      exact i_PpmNo2 p AT AO nT cT nO cO w hin hN
set_option maxRecDepth 100000 in
set_option maxHeartbeats 1600000 in
theorem s_PpmNo1 (p : Po) (AT AO : Option Addr) (nT cT nO cO : Nat) (w : World) (h : inB p.N 1 4 = false) :
    Calls Try.prog 9 #[.agg #[.int .i64 p.N, .int .i64 p.H, .slice AT nT cT, .slice AO nO cO]] w (RetSD [] w) := by
  have I1 := Lib.hid h
  have X0 := Lib.hid (Bx.new w 32 #[.int .i64 p.N, .int .i64 p.H, .slice AT nT cT, .slice AO nO cO])
  clear h
  obtain ⟨p0, p1, p2, p3, _⟩ := X0.out.four
  go_enter Try.func9, Try.ntmps9
  go_wp2_with fail
  refine (s_in _ _ _ _).mono ?_
  rintro e w1 ⟨rfl, rfl⟩
  rw [I1.out]
  go_wp2_with fail
  go_ret
  exact ⟨_, 0, rfl, (by simpa using OwnSS.lit0 (w.alloc (.cells #[.int .i64 p.N, .int .i64 p.H, .slice AT nT cT, .slice AO nO cO] 32)) (base := w.heap.size) (by simp) 79 83 5 cellsD), ((Below.refl _ _).alloc (Nat.le_refl _) _).alloc (by simp) _⟩
set_option maxRecDepth 100000 in
set_option maxHeartbeats 1600000 in
theorem s_PpmNo2 (p : Po) (AT AO : Option Addr) (nT cT nO cO : Nat) (w : World) (h : inB p.N 1 4 = true) (h2 : ¬ (nO : Int) = p.N) :
    Calls Try.prog 9 #[.agg #[.int .i64 p.N, .int .i64 p.H, .slice AT nT cT, .slice AO nO cO]] w (RetSD [] w) := by
  have I1 := Lib.hid h
  have X0 := Lib.hid (Bx.new w 32 #[.int .i64 p.N, .int .i64 p.H, .slice AT nT cT, .slice AO nO cO])
  have h3 : ((nO : Int) == p.N) = false := by simpa using h2
  clear h
  obtain ⟨p0, p1, p2, p3, _⟩ := X0.out.four
  go_enter Try.func9, Try.ntmps9
  go_wp2_with fail
  refine (s_in _ _ _ _).mono ?_
  rintro e w1 ⟨rfl, rfl⟩
  rw [I1.out]
  go_wp2_with fail
  go_ret
  exact ⟨_, 0, rfl, (by simpa using OwnSS.lit0 (w.alloc (.cells #[.int .i64 p.N, .int .i64 p.H, .slice AT nT cT, .slice AO nO cO] 32)) (base := w.heap.size) (by simp) 79 83 5 cellsD), ((Below.refl _ _).alloc (Nat.le_refl _) _).alloc (by simp) _⟩
set_option maxRecDepth 100000 in
set_option maxHeartbeats 6400000 in
theorem s_Ppm1 (H : Int) (t o : List (Int × Int)) (AT AO : Option Addr) (nT cT cO : Nat) (w : World) (hT : RdP w AT nT t) (hO : RdP w AO 1 o) (bT : nT ≤ 549755813888) :
    Calls Try.prog 9 #[.agg #[.int .i64 1, .int .i64 H, .slice AT nT cT, .slice AO 1 cO]] w (RetSD (ppmN ⟨1, H, t, o⟩ 1) w) := by
  obtain ⟨p, hp⟩ : ∃ p : Po, (⟨1, H, t, o⟩ : Po) = p := ⟨_, rfl⟩
  have e4 : p.o.length = 1 := by rw [← hp]; exact hO.1
  have HE1 := Lib.hid (show ∀ i : Nat, evO (i : Int) 0 o 0 = (toN p i : Nat) from fun i => by have := toN_int (p := p) (by omega) i; rw [← hp] at this ⊢; exact this)
  have HE2 := Lib.hid (show ∀ i : Nat, evT (i : Int) t H % 8 = (phN p i : Nat) from fun i => by have := phN_int p i; rw [← hp] at this ⊢; exact this)
  have HTO := Lib.hid (show ∀ i, toN p i < 2 from fun i => by have := toN_lt p i; rw [e4] at this; exact this)
  rw [hp]
  have HT := Lib.hid hT
  have HO := Lib.hid hO
  have X0 := Lib.hid (Bx.new w 32 #[.int .i64 1, .int .i64 H, .slice AT nT cT, .slice AO 1 cO])
  have I1 := Lib.hid (show inB 1 1 4 = true by decide)
  clear hT hO e4 hp
  obtain ⟨p0, p1, p2, p3, _⟩ := X0.out.four
  go_enter Try.func9, Try.ntmps9
  go_wp2_with fail
  refine (s_in _ _ _ _).mono ?_
  rintro e w1 ⟨rfl, rfl⟩
  rw [I1.out]
  go_wp2_with fail
  clear p0 p1 p2 p3
  go_loopg [3, 4, 5] 2 (fun r v s j wr => ∃ (i : Nat) (A : Option Addr) (c : Nat) (S : Option Addr) (d : Nat), i + r = 2 ∧ j = .int .i64 i ∧ v = .slice A i c ∧ s = .slice S i d ∧ OwnSS cellsD wr (w.heap.size + 1) 79 83 5 (.slice A i c) (colsP p 1 i) ∧ wr.ownsRow (w.heap.size + 1) 3 1 (.slice S i d) i (cellsI (tosP p i)) ∧ (∀ j, j < i → dupP p j = false) ∧ Bx wr w.heap.size 32 #[.int .i64 1, .int .i64 H, .slice AT nT cT, .slice AO 1 cO] ∧ Below w.heap.size w wr)
  case atStart =>
    refine ⟨0, _, 0, _, 0, by omega, rfl, rfl, rfl, ?_, ?_, by simp, ((Bx.new w _ _).alloc _).alloc _, (((Below.refl _ _).alloc (Nat.le_refl _) _).alloc (by simp) _).alloc (by simp <;> omega) _⟩
    · have := (OwnSS.lit0 (w.alloc (.cells #[.int .i64 1, .int .i64 H, .slice AT nT cT, .slice AO 1 cO] 32)) (base := w.heap.size + 1) (by simp) 79 83 5 cellsD).alloc (.cells #[] 3)
      simpa [colsP] using this
    · exact ownsRow_lit' _ #[] 0 (by simp) (by simp) (by simp [maxLen]) rfl rfl
  case round =>
    obtain ⟨i, A3, c3, S3, d3, hi, rfl, rfl, rfl, ho, hse, hdup, hx, hb⟩ := hrel
    have HOS := Lib.hid ho
    have HSE := Lib.hid hse
    have HDU := Lib.hid hdup
    have HX := Lib.hid hx
    have HB := Lib.hid hb
    have hs0 := hb.size
    have hrlt : w.heap.size < wr.heap.size := hx.lt
    clear ho hse hdup hx hb
    obtain ⟨p0, p1, p2, p3, _⟩ := HX.out.four
    by_cases hlt : i < 2
    · have htl := HTO.out i
      obtain ⟨tt, htt⟩ : ∃ x, toN p i = x := ⟨_, rfl⟩
      obtain ⟨kk, hkk⟩ : ∃ x, phN p i = x := ⟨_, rfl⟩
      have hk8 : kk < 8 := by rw [← hkk]; exact phN_lt p i
      rw [htt] at htl
      have E1 := Lib.hid (show evO (i : Int) 0 o 0 = (tt : Nat) by rw [HE1.out, htt])
      have E2 := Lib.hid (show evT (i : Int) t H % 8 = (kk : Nat) by rw [HE2.out, hkk])
      obtain ⟨yy, hyy⟩ : ∃ y, phD kk = y := ⟨_, rfl⟩
      have HY := Lib.hid hyy
      have HC := Lib.hid (show colP p 1 i = (List.replicate 2 Dw.zero).set tt yy by unfold colP; rw [htt, hkk, hyy])
      clear hyy
      have HTT := Lib.hid htt
      clear htt hkk
      have hmk : ∀ w : World, (Instr.makeSlice 79 (.int .i64 2) (.int .i64 2)).run Try.prog w = .ok (.slice (some ⟨w.heap.size, 0, none⟩) 2 2) (w.alloc (.cells (madeCells (Value.agg #[.int .i64 0, .int .i64 0, .int .i64 0, .int .i64 0, .int .i64 0]).cells (2 * 5)) 83)) := fun w => run_makeN (P := Try.prog) Try.underlying79 infoDOmega 2 (by omega) (by omega) w
      go_wp2_with fail
      refine (s_EvalP 1 H AT AO nT cT 1 cO t o i _ (HT.out.below HB.out) (HO.out.below HB.out) bT (by omega)).mono ?_
      rintro e w1 ⟨rfl, b1⟩
      rw [E1.out, E2.out]
      have O1 := Lib.hid (HOS.out.below b1)
      have X1 := Lib.hid (HX.out.below b1)
      have B1 := Lib.hid (HB.out.trans (b1.mono hs0))
      have hs1 := b1.size
      have S1 := Lib.hid (ownsRow_below HSE.out b1)
      clear p0 p1 p2 p3 b1
      obtain ⟨p0, p1, p2, p3, _⟩ := X1.out.four
      have h0t : (0 : Int) ≤ (tt : Int) := by omega
      have h1t : (tt : Int) < 2 := by omega
      cases hd : dupP p i
      · have hz : hasI (tosP p i) tt = false := by rw [← HTT.out]; exact hd
        have HZ := Lib.hid hz
        clear hz
        go_wp2_with fail
        refine (s_hasI S3 i d3 (tosP p i) tt _ ⟨tosP_len p i, Rd.own S1.out⟩ (by omega)).mono ?_
        rintro e w' ⟨rfl, rfl⟩
        rw [HZ.out]
        go_wp2_with (at_builtin; refine wpList_app rfl (.tmp 42) (.tmp 44) 62 rfl Try.underlying62 infoInt rfl (by decide) rfl (S1.out.alloc _) rfl (Rd.lit w1 3 #[.int .i64 tt] 1 1 rfl) (by simp [Value.oneCell']) (by omega) (by decide) (by simp <;> omega) ?_; intro A4 c4 w2 o4 g4; have hbb := below_grown (B := w.heap.size + 1) ((Below.refl _ _).alloc (by omega) _) (by simp <;> omega) (S1.out.alloc (.cells #[.int .i64 tt] 3)) (Nat.le_refl _) g4; have hs2 : w.heap.size + 1 ≤ w2.heap.size := Nat.le_trans (by omega) hbb.size; have S2 := Lib.hid (show w2.ownsRow (w.heap.size + 1) 3 1 (.slice A4 (i + 1) c4) (i + 1) (cellsI (tosP p (i + 1))) by rw [tosP_succ, HTT.out, cellsI_append]; exact o4); have O2 := Lib.hid ((O1.out.alloc (.cells #[.int .i64 tt] 3)).kept g4 (fun e n sz u xs he hu => own_own_ne' hu (S1.out.alloc _) (by rcases he with rfl | rfl <;> decide))); have X2 := Lib.hid (X1.out.blockB hbb (by omega)); have B2 := Lib.hid (B1.out.trans (hbb.mono (by omega))); clear o4 g4 hbb p0 p1 p2 p3; obtain ⟨p0, p1, p2, p3, _⟩ := X2.out.four)
        have W2 := Lib.hid (own_made w2 (q := 1) (n := 2) (by omega) (by omega) (by decide))
        go_wp2_with fail
        refine (s_Phase kk _ hk8).mono ?_
        rintro e w3 ⟨rfl, b3⟩
        rw [HY.out]
        have O3 := Lib.hid (ownsRow_below W2.out b3)
        have B3 := Lib.hid (below_alloc b3)
        clear b3 W2 hmk p0 p1 p2 p3
        obtain ⟨⟨⟨x0, c0⟩, ⟨x1, c1⟩, ⟨x2, c2⟩, ⟨x3, c3'⟩, ⟨x4, c4'⟩⟩, f0, f1, f2, f3, f4⟩ := own5 O3.out htl
        go_upto_region 14 with fail
        obtain ⟨wS, hWS⟩ : ∃ wS, (((((w3.setCell ⟨w2.heap.size, tt * 5, none⟩ (.int .i64 yy.n.a)).setCell ⟨w2.heap.size, tt * 5 + 1, none⟩ (.int .i64 yy.n.b)).setCell ⟨w2.heap.size, tt * 5 + 2, none⟩ (.int .i64 yy.n.c)).setCell ⟨w2.heap.size, tt * 5 + 3, none⟩ (.int .i64 yy.n.d)).setCell ⟨w2.heap.size, tt * 5 + 4, none⟩ (.int .i64 yy.e)) = wS := ⟨_, rfl⟩
        rw [hWS]
        have P3 := Lib.hid (show wS.ownsRow w2.heap.size 83 5 (.slice (some ⟨w2.heap.size, 0, none⟩) 2 2) 2 (cellsD (colP p 1 i)) by rw [← hWS, HC.out]; exact own_stAt O3.out (by simpa using htl) yy)
        have B4 := Lib.hid (show Below w2.heap.size w2 wS by rw [← hWS]; exact below_stAt (o := tt * 5) B3.out (Nat.le_refl _) yy)
        clear hWS O3 B3 c0 c1 c2 c3' c4' f0 f1 f2 f3 f4
        have hs4 := B4.out.size
        have HW := Lib.hid (O2.out.below B4.out)
        obtain ⟨vs, a1, a2, a3⟩ := HW.out
        rw [colsP_len] at a1
        have A1 := Lib.hid a1
        clear a1 a2 a3
        go_wp2_with (at_builtin; refine wpList_app rfl (.tmp 56) (.tmp 58) 27 rfl Try.underlying27 infoDOmegaS rfl (by decide) rfl (A1.out.alloc _) rfl (Rd.lit wS 79 #[.slice (some ⟨w2.heap.size, 0, none⟩) 2 2] 1 1 rfl) (by simp [Value.oneCell']) (by omega) (by decide) (by simp <;> omega) ?_; intro A9 c9 w9 o9 g9)
        have BB := Lib.hid (below_grown ((B4.out.mono hs2).alloc (by omega) (.cells #[.slice (some ⟨w2.heap.size, 0, none⟩) 2 2] 79)) (by simp <;> omega) (A1.out.alloc _) (Nat.le_refl _) g9)
        go_roundg (gk - 1)
        case measure => omega
        case rel =>
          refine ⟨i + 1, A9, c9, A4, c4, by omega, by go_num, rfl, rfl, ?_, ?_, fun j hj => ?_, X2.out.blockB BB.out (by omega), B2.out.trans (BB.out.mono (by omega))⟩
          · rw [colsP_succ]
            exact OwnSS.app1 (by decide) O2.out (Nat.le_refl _) hs2 (B4.out.alloc hs4 _) (colP_len p 1 i) (P3.out.alloc _) (colsP_len p 1 i) (A1.out.alloc _) g9 o9
          · exact ((ownsRow_below S2.out B4.out).alloc (.cells #[.slice (some ⟨w2.heap.size, 0, none⟩) 2 2] 79)).kept g9 (own_own_ne' ((ownsRow_below S2.out B4.out).alloc (.cells #[.slice (some ⟨w2.heap.size, 0, none⟩) 2 2] 79)) (A1.out.alloc (.cells #[.slice (some ⟨w2.heap.size, 0, none⟩) 2 2] 79)) (by decide))
          · rcases Nat.lt_succ_iff_lt_or_eq.1 hj with h | h
            · exact HDU.out j h
            · rw [h]; exact hd
      · have hz : hasI (tosP p i) tt = true := by rw [← HTT.out]; exact hd
        have HZ := Lib.hid hz
        have HDD := Lib.hid (ppmN_dup (n := 1) (show i < 2 ^ 1 from hlt) hd)
        clear hz hd
        go_wp2_with fail
        refine (s_hasI S3 i d3 (tosP p i) tt _ ⟨tosP_len p i, Rd.own S1.out⟩ (by omega)).mono ?_
        rintro e w' ⟨rfl, rfl⟩
        rw [HZ.out]
        go_wp2_with fail
        go_ret
        rw [HDD.out]
        exact ⟨_, 0, rfl, OwnSS.lit0 w1 B1.out.size _ _ _ _, B1.out.alloc B1.out.size _⟩
    · obtain rfl : i = 2 := by omega
      have HF := Lib.hid (ppmN_ok (p := p) (n := 1) fun j hj => HDU.out j hj)
      have HA := Lib.hid (colsP_all p 1 2)
      go_wp2_with fail
      refine (s_l7Cols _ 2 _ (colsP p 1 2) _ (HOS.out.rd (colsP_len p 1 2)) (by omega) HA.out).mono ?_
      rintro e w6 ⟨A6, c6, rfl, o6, b6⟩
      go_wp2_with fail
      go_ret
      rw [HF.out]
      exact ⟨A6, c6, rfl, o6.base_ hs0, HB.out.trans (b6.mono hs0)⟩
set_option maxRecDepth 100000 in
set_option maxHeartbeats 6400000 in
theorem s_Ppm2 (H : Int) (t o : List (Int × Int)) (AT AO : Option Addr) (nT cT cO : Nat) (w : World) (hT : RdP w AT nT t) (hO : RdP w AO 2 o) (bT : nT ≤ 549755813888) :
    Calls Try.prog 9 #[.agg #[.int .i64 2, .int .i64 H, .slice AT nT cT, .slice AO 2 cO]] w (RetSD (ppmN ⟨2, H, t, o⟩ 2) w) := by
  obtain ⟨p, hp⟩ : ∃ p : Po, (⟨2, H, t, o⟩ : Po) = p := ⟨_, rfl⟩
  have e4 : p.o.length = 2 := by rw [← hp]; exact hO.1
  have HE1 := Lib.hid (show ∀ i : Nat, evO (i : Int) 0 o 0 = (toN p i : Nat) from fun i => by have := toN_int (p := p) (by omega) i; rw [← hp] at this ⊢; exact this)
  have HE2 := Lib.hid (show ∀ i : Nat, evT (i : Int) t H % 8 = (phN p i : Nat) from fun i => by have := phN_int p i; rw [← hp] at this ⊢; exact this)
  have HTO := Lib.hid (show ∀ i, toN p i < 4 from fun i => by have := toN_lt p i; rw [e4] at this; exact this)
  rw [hp]
  have HT := Lib.hid hT
  have HO := Lib.hid hO
  have X0 := Lib.hid (Bx.new w 32 #[.int .i64 2, .int .i64 H, .slice AT nT cT, .slice AO 2 cO])
  have I1 := Lib.hid (show inB 2 1 4 = true by decide)
  clear hT hO e4 hp
  obtain ⟨p0, p1, p2, p3, _⟩ := X0.out.four
  go_enter Try.func9, Try.ntmps9
  go_wp2_with fail
  refine (s_in _ _ _ _).mono ?_
  rintro e w1 ⟨rfl, rfl⟩
  rw [I1.out]
  go_wp2_with fail
  clear p0 p1 p2 p3
  go_loopg [3, 4, 5] 4 (fun r v s j wr => ∃ (i : Nat) (A : Option Addr) (c : Nat) (S : Option Addr) (d : Nat), i + r = 4 ∧ j = .int .i64 i ∧ v = .slice A i c ∧ s = .slice S i d ∧ OwnSS cellsD wr (w.heap.size + 1) 79 83 5 (.slice A i c) (colsP p 2 i) ∧ wr.ownsRow (w.heap.size + 1) 3 1 (.slice S i d) i (cellsI (tosP p i)) ∧ (∀ j, j < i → dupP p j = false) ∧ Bx wr w.heap.size 32 #[.int .i64 2, .int .i64 H, .slice AT nT cT, .slice AO 2 cO] ∧ Below w.heap.size w wr)
  case atStart =>
    refine ⟨0, _, 0, _, 0, by omega, rfl, rfl, rfl, ?_, ?_, by simp, ((Bx.new w _ _).alloc _).alloc _, (((Below.refl _ _).alloc (Nat.le_refl _) _).alloc (by simp) _).alloc (by simp <;> omega) _⟩
    · have := (OwnSS.lit0 (w.alloc (.cells #[.int .i64 2, .int .i64 H, .slice AT nT cT, .slice AO 2 cO] 32)) (base := w.heap.size + 1) (by simp) 79 83 5 cellsD).alloc (.cells #[] 3)
      simpa [colsP] using this
    · exact ownsRow_lit' _ #[] 0 (by simp) (by simp) (by simp [maxLen]) rfl rfl
  case round =>
    obtain ⟨i, A3, c3, S3, d3, hi, rfl, rfl, rfl, ho, hse, hdup, hx, hb⟩ := hrel
    have HOS := Lib.hid ho
    have HSE := Lib.hid hse
    have HDU := Lib.hid hdup
    have HX := Lib.hid hx
    have HB := Lib.hid hb
    have hs0 := hb.size
    have hrlt : w.heap.size < wr.heap.size := hx.lt
    clear ho hse hdup hx hb
    obtain ⟨p0, p1, p2, p3, _⟩ := HX.out.four
    by_cases hlt : i < 4
    · have htl := HTO.out i
      obtain ⟨tt, htt⟩ : ∃ x, toN p i = x := ⟨_, rfl⟩
      obtain ⟨kk, hkk⟩ : ∃ x, phN p i = x := ⟨_, rfl⟩
      have hk8 : kk < 8 := by rw [← hkk]; exact phN_lt p i
      rw [htt] at htl
      have E1 := Lib.hid (show evO (i : Int) 0 o 0 = (tt : Nat) by rw [HE1.out, htt])
      have E2 := Lib.hid (show evT (i : Int) t H % 8 = (kk : Nat) by rw [HE2.out, hkk])
      obtain ⟨yy, hyy⟩ : ∃ y, phD kk = y := ⟨_, rfl⟩
      have HY := Lib.hid hyy
      have HC := Lib.hid (show colP p 2 i = (List.replicate 4 Dw.zero).set tt yy by unfold colP; rw [htt, hkk, hyy])
      clear hyy
      have HTT := Lib.hid htt
      clear htt hkk
      have hmk : ∀ w : World, (Instr.makeSlice 79 (.int .i64 4) (.int .i64 4)).run Try.prog w = .ok (.slice (some ⟨w.heap.size, 0, none⟩) 4 4) (w.alloc (.cells (madeCells (Value.agg #[.int .i64 0, .int .i64 0, .int .i64 0, .int .i64 0, .int .i64 0]).cells (4 * 5)) 83)) := fun w => run_makeN (P := Try.prog) Try.underlying79 infoDOmega 4 (by omega) (by omega) w
      go_wp2_with fail
      refine (s_EvalP 2 H AT AO nT cT 2 cO t o i _ (HT.out.below HB.out) (HO.out.below HB.out) bT (by omega)).mono ?_
      rintro e w1 ⟨rfl, b1⟩
      rw [E1.out, E2.out]
      have O1 := Lib.hid (HOS.out.below b1)
      have X1 := Lib.hid (HX.out.below b1)
      have B1 := Lib.hid (HB.out.trans (b1.mono hs0))
      have hs1 := b1.size
      have S1 := Lib.hid (ownsRow_below HSE.out b1)
      clear p0 p1 p2 p3 b1
      obtain ⟨p0, p1, p2, p3, _⟩ := X1.out.four
      have h0t : (0 : Int) ≤ (tt : Int) := by omega
      have h1t : (tt : Int) < 4 := by omega
      cases hd : dupP p i
      · have hz : hasI (tosP p i) tt = false := by rw [← HTT.out]; exact hd
        have HZ := Lib.hid hz
        clear hz
        go_wp2_with fail
        refine (s_hasI S3 i d3 (tosP p i) tt _ ⟨tosP_len p i, Rd.own S1.out⟩ (by omega)).mono ?_
        rintro e w' ⟨rfl, rfl⟩
        rw [HZ.out]
        go_wp2_with (at_builtin; refine wpList_app rfl (.tmp 42) (.tmp 44) 62 rfl Try.underlying62 infoInt rfl (by decide) rfl (S1.out.alloc _) rfl (Rd.lit w1 3 #[.int .i64 tt] 1 1 rfl) (by simp [Value.oneCell']) (by omega) (by decide) (by simp <;> omega) ?_; intro A4 c4 w2 o4 g4; have hbb := below_grown (B := w.heap.size + 1) ((Below.refl _ _).alloc (by omega) _) (by simp <;> omega) (S1.out.alloc (.cells #[.int .i64 tt] 3)) (Nat.le_refl _) g4; have hs2 : w.heap.size + 1 ≤ w2.heap.size := Nat.le_trans (by omega) hbb.size; have S2 := Lib.hid (show w2.ownsRow (w.heap.size + 1) 3 1 (.slice A4 (i + 1) c4) (i + 1) (cellsI (tosP p (i + 1))) by rw [tosP_succ, HTT.out, cellsI_append]; exact o4); have O2 := Lib.hid ((O1.out.alloc (.cells #[.int .i64 tt] 3)).kept g4 (fun e n sz u xs he hu => own_own_ne' hu (S1.out.alloc _) (by rcases he with rfl | rfl <;> decide))); have X2 := Lib.hid (X1.out.blockB hbb (by omega)); have B2 := Lib.hid (B1.out.trans (hbb.mono (by omega))); clear o4 g4 hbb p0 p1 p2 p3; obtain ⟨p0, p1, p2, p3, _⟩ := X2.out.four)
        have W2 := Lib.hid (own_made w2 (q := 2) (n := 4) (by omega) (by omega) (by decide))
        go_wp2_with fail
        refine (s_Phase kk _ hk8).mono ?_
        rintro e w3 ⟨rfl, b3⟩
        rw [HY.out]
        have O3 := Lib.hid (ownsRow_below W2.out b3)
        have B3 := Lib.hid (below_alloc b3)
        clear b3 W2 hmk p0 p1 p2 p3
        obtain ⟨⟨⟨x0, c0⟩, ⟨x1, c1⟩, ⟨x2, c2⟩, ⟨x3, c3'⟩, ⟨x4, c4'⟩⟩, f0, f1, f2, f3, f4⟩ := own5 O3.out htl
        go_upto_region 14 with fail
        obtain ⟨wS, hWS⟩ : ∃ wS, (((((w3.setCell ⟨w2.heap.size, tt * 5, none⟩ (.int .i64 yy.n.a)).setCell ⟨w2.heap.size, tt * 5 + 1, none⟩ (.int .i64 yy.n.b)).setCell ⟨w2.heap.size, tt * 5 + 2, none⟩ (.int .i64 yy.n.c)).setCell ⟨w2.heap.size, tt * 5 + 3, none⟩ (.int .i64 yy.n.d)).setCell ⟨w2.heap.size, tt * 5 + 4, none⟩ (.int .i64 yy.e)) = wS := ⟨_, rfl⟩
        rw [hWS]
        have P3 := Lib.hid (show wS.ownsRow w2.heap.size 83 5 (.slice (some ⟨w2.heap.size, 0, none⟩) 4 4) 4 (cellsD (colP p 2 i)) by rw [← hWS, HC.out]; exact own_stAt O3.out (by simpa using htl) yy)
        have B4 := Lib.hid (show Below w2.heap.size w2 wS by rw [← hWS]; exact below_stAt (o := tt * 5) B3.out (Nat.le_refl _) yy)
        clear hWS O3 B3 c0 c1 c2 c3' c4' f0 f1 f2 f3 f4
        have hs4 := B4.out.size
        have HW := Lib.hid (O2.out.below B4.out)
        obtain ⟨vs, a1, a2, a3⟩ := HW.out
        rw [colsP_len] at a1
        have A1 := Lib.hid a1
        clear a1 a2 a3
        go_wp2_with (at_builtin; refine wpList_app rfl (.tmp 56) (.tmp 58) 27 rfl Try.underlying27 infoDOmegaS rfl (by decide) rfl (A1.out.alloc _) rfl (Rd.lit wS 79 #[.slice (some ⟨w2.heap.size, 0, none⟩) 4 4] 1 1 rfl) (by simp [Value.oneCell']) (by omega) (by decide) (by simp <;> omega) ?_; intro A9 c9 w9 o9 g9)
        have BB := Lib.hid (below_grown ((B4.out.mono hs2).alloc (by omega) (.cells #[.slice (some ⟨w2.heap.size, 0, none⟩) 4 4] 79)) (by simp <;> omega) (A1.out.alloc _) (Nat.le_refl _) g9)
        go_roundg (gk - 1)
        case measure => omega
        case rel =>
          refine ⟨i + 1, A9, c9, A4, c4, by omega, by go_num, rfl, rfl, ?_, ?_, fun j hj => ?_, X2.out.blockB BB.out (by omega), B2.out.trans (BB.out.mono (by omega))⟩
          · rw [colsP_succ]
            exact OwnSS.app1 (by decide) O2.out (Nat.le_refl _) hs2 (B4.out.alloc hs4 _) (colP_len p 2 i) (P3.out.alloc _) (colsP_len p 2 i) (A1.out.alloc _) g9 o9
          · exact ((ownsRow_below S2.out B4.out).alloc (.cells #[.slice (some ⟨w2.heap.size, 0, none⟩) 4 4] 79)).kept g9 (own_own_ne' ((ownsRow_below S2.out B4.out).alloc (.cells #[.slice (some ⟨w2.heap.size, 0, none⟩) 4 4] 79)) (A1.out.alloc (.cells #[.slice (some ⟨w2.heap.size, 0, none⟩) 4 4] 79)) (by decide))
          · rcases Nat.lt_succ_iff_lt_or_eq.1 hj with h | h
            · exact HDU.out j h
            · rw [h]; exact hd
      · have hz : hasI (tosP p i) tt = true := by rw [← HTT.out]; exact hd
        have HZ := Lib.hid hz
        have HDD := Lib.hid (ppmN_dup (n := 2) (show i < 2 ^ 2 from hlt) hd)
        clear hz hd
        go_wp2_with fail
        refine (s_hasI S3 i d3 (tosP p i) tt _ ⟨tosP_len p i, Rd.own S1.out⟩ (by omega)).mono ?_
        rintro e w' ⟨rfl, rfl⟩
        rw [HZ.out]
        go_wp2_with fail
        go_ret
        rw [HDD.out]
        exact ⟨_, 0, rfl, OwnSS.lit0 w1 B1.out.size _ _ _ _, B1.out.alloc B1.out.size _⟩
    · obtain rfl : i = 4 := by omega
      have HF := Lib.hid (ppmN_ok (p := p) (n := 2) fun j hj => HDU.out j hj)
      have HA := Lib.hid (colsP_all p 2 4)
      go_wp2_with fail
      refine (s_l7Cols _ 4 _ (colsP p 2 4) _ (HOS.out.rd (colsP_len p 2 4)) (by omega) HA.out).mono ?_
      rintro e w6 ⟨A6, c6, rfl, o6, b6⟩
      go_wp2_with fail
      go_ret
      rw [HF.out]
      exact ⟨A6, c6, rfl, o6.base_ hs0, HB.out.trans (b6.mono hs0)⟩
set_option maxRecDepth 100000 in
set_option maxHeartbeats 6400000 in
theorem s_Ppm3 (H : Int) (t o : List (Int × Int)) (AT AO : Option Addr) (nT cT cO : Nat) (w : World) (hT : RdP w AT nT t) (hO : RdP w AO 3 o) (bT : nT ≤ 549755813888) :
    Calls Try.prog 9 #[.agg #[.int .i64 3, .int .i64 H, .slice AT nT cT, .slice AO 3 cO]] w (RetSD (ppmN ⟨3, H, t, o⟩ 3) w) := by
  obtain ⟨p, hp⟩ : ∃ p : Po, (⟨3, H, t, o⟩ : Po) = p := ⟨_, rfl⟩
  have e4 : p.o.length = 3 := by rw [← hp]; exact hO.1
  have HE1 := Lib.hid (show ∀ i : Nat, evO (i : Int) 0 o 0 = (toN p i : Nat) from fun i => by have := toN_int (p := p) (by omega) i; rw [← hp] at this ⊢; exact this)
  have HE2 := Lib.hid (show ∀ i : Nat, evT (i : Int) t H % 8 = (phN p i : Nat) from fun i => by have := phN_int p i; rw [← hp] at this ⊢; exact this)
  have HTO := Lib.hid (show ∀ i, toN p i < 8 from fun i => by have := toN_lt p i; rw [e4] at this; exact this)
  rw [hp]
  have HT := Lib.hid hT
  have HO := Lib.hid hO
  have X0 := Lib.hid (Bx.new w 32 #[.int .i64 3, .int .i64 H, .slice AT nT cT, .slice AO 3 cO])
  have I1 := Lib.hid (show inB 3 1 4 = true by decide)
  clear hT hO e4 hp
  obtain ⟨p0, p1, p2, p3, _⟩ := X0.out.four
  go_enter Try.func9, Try.ntmps9
  go_wp2_with fail
  refine (s_in _ _ _ _).mono ?_
  rintro e w1 ⟨rfl, rfl⟩
  rw [I1.out]
  go_wp2_with fail
  clear p0 p1 p2 p3
  go_loopg [3, 4, 5] 8 (fun r v s j wr => ∃ (i : Nat) (A : Option Addr) (c : Nat) (S : Option Addr) (d : Nat), i + r = 8 ∧ j = .int .i64 i ∧ v = .slice A i c ∧ s = .slice S i d ∧ OwnSS cellsD wr (w.heap.size + 1) 79 83 5 (.slice A i c) (colsP p 3 i) ∧ wr.ownsRow (w.heap.size + 1) 3 1 (.slice S i d) i (cellsI (tosP p i)) ∧ (∀ j, j < i → dupP p j = false) ∧ Bx wr w.heap.size 32 #[.int .i64 3, .int .i64 H, .slice AT nT cT, .slice AO 3 cO] ∧ Below w.heap.size w wr)
  case atStart =>
    refine ⟨0, _, 0, _, 0, by omega, rfl, rfl, rfl, ?_, ?_, by simp, ((Bx.new w _ _).alloc _).alloc _, (((Below.refl _ _).alloc (Nat.le_refl _) _).alloc (by simp) _).alloc (by simp <;> omega) _⟩
    · have := (OwnSS.lit0 (w.alloc (.cells #[.int .i64 3, .int .i64 H, .slice AT nT cT, .slice AO 3 cO] 32)) (base := w.heap.size + 1) (by simp) 79 83 5 cellsD).alloc (.cells #[] 3)
      simpa [colsP] using this
    · exact ownsRow_lit' _ #[] 0 (by simp) (by simp) (by simp [maxLen]) rfl rfl
  case round =>
    obtain ⟨i, A3, c3, S3, d3, hi, rfl, rfl, rfl, ho, hse, hdup, hx, hb⟩ := hrel
    have HOS := Lib.hid ho
    have HSE := Lib.hid hse
    have HDU := Lib.hid hdup
    have HX := Lib.hid hx
    have HB := Lib.hid hb
    have hs0 := hb.size
    have hrlt : w.heap.size < wr.heap.size := hx.lt
    clear ho hse hdup hx hb
    obtain ⟨p0, p1, p2, p3, _⟩ := HX.out.four
    by_cases hlt : i < 8
    · have htl := HTO.out i
      obtain ⟨tt, htt⟩ : ∃ x, toN p i = x := ⟨_, rfl⟩
      obtain ⟨kk, hkk⟩ : ∃ x, phN p i = x := ⟨_, rfl⟩
      have hk8 : kk < 8 := by rw [← hkk]; exact phN_lt p i
      rw [htt] at htl
      have E1 := Lib.hid (show evO (i : Int) 0 o 0 = (tt : Nat) by rw [HE1.out, htt])
      have E2 := Lib.hid (show evT (i : Int) t H % 8 = (kk : Nat) by rw [HE2.out, hkk])
      obtain ⟨yy, hyy⟩ : ∃ y, phD kk = y := ⟨_, rfl⟩
      have HY := Lib.hid hyy
      have HC := Lib.hid (show colP p 3 i = (List.replicate 8 Dw.zero).set tt yy by unfold colP; rw [htt, hkk, hyy])
      clear hyy
      have HTT := Lib.hid htt
      clear htt hkk
      have hmk : ∀ w : World, (Instr.makeSlice 79 (.int .i64 8) (.int .i64 8)).run Try.prog w = .ok (.slice (some ⟨w.heap.size, 0, none⟩) 8 8) (w.alloc (.cells (madeCells (Value.agg #[.int .i64 0, .int .i64 0, .int .i64 0, .int .i64 0, .int .i64 0]).cells (8 * 5)) 83)) := fun w => run_makeN (P := Try.prog) Try.underlying79 infoDOmega 8 (by omega) (by omega) w
      go_wp2_with fail
      refine (s_EvalP 3 H AT AO nT cT 3 cO t o i _ (HT.out.below HB.out) (HO.out.below HB.out) bT (by omega)).mono ?_
      rintro e w1 ⟨rfl, b1⟩
      rw [E1.out, E2.out]
      have O1 := Lib.hid (HOS.out.below b1)
      have X1 := Lib.hid (HX.out.below b1)
      have B1 := Lib.hid (HB.out.trans (b1.mono hs0))
      have hs1 := b1.size
      have S1 := Lib.hid (ownsRow_below HSE.out b1)
      clear p0 p1 p2 p3 b1
      obtain ⟨p0, p1, p2, p3, _⟩ := X1.out.four
      have h0t : (0 : Int) ≤ (tt : Int) := by omega
      have h1t : (tt : Int) < 8 := by omega
      cases hd : dupP p i
      · have hz : hasI (tosP p i) tt = false := by rw [← HTT.out]; exact hd
        have HZ := Lib.hid hz
        clear hz
        go_wp2_with fail
        refine (s_hasI S3 i d3 (tosP p i) tt _ ⟨tosP_len p i, Rd.own S1.out⟩ (by omega)).mono ?_
        rintro e w' ⟨rfl, rfl⟩
        rw [HZ.out]
        go_wp2_with (at_builtin; refine wpList_app rfl (.tmp 42) (.tmp 44) 62 rfl Try.underlying62 infoInt rfl (by decide) rfl (S1.out.alloc _) rfl (Rd.lit w1 3 #[.int .i64 tt] 1 1 rfl) (by simp [Value.oneCell']) (by omega) (by decide) (by simp <;> omega) ?_; intro A4 c4 w2 o4 g4; have hbb := below_grown (B := w.heap.size + 1) ((Below.refl _ _).alloc (by omega) _) (by simp <;> omega) (S1.out.alloc (.cells #[.int .i64 tt] 3)) (Nat.le_refl _) g4; have hs2 : w.heap.size + 1 ≤ w2.heap.size := Nat.le_trans (by omega) hbb.size; have S2 := Lib.hid (show w2.ownsRow (w.heap.size + 1) 3 1 (.slice A4 (i + 1) c4) (i + 1) (cellsI (tosP p (i + 1))) by rw [tosP_succ, HTT.out, cellsI_append]; exact o4); have O2 := Lib.hid ((O1.out.alloc (.cells #[.int .i64 tt] 3)).kept g4 (fun e n sz u xs he hu => own_own_ne' hu (S1.out.alloc _) (by rcases he with rfl | rfl <;> decide))); have X2 := Lib.hid (X1.out.blockB hbb (by omega)); have B2 := Lib.hid (B1.out.trans (hbb.mono (by omega))); clear o4 g4 hbb p0 p1 p2 p3; obtain ⟨p0, p1, p2, p3, _⟩ := X2.out.four)
        have W2 := Lib.hid (own_made w2 (q := 3) (n := 8) (by omega) (by omega) (by decide))
        go_wp2_with fail
        refine (s_Phase kk _ hk8).mono ?_
        rintro e w3 ⟨rfl, b3⟩
        rw [HY.out]
        have O3 := Lib.hid (ownsRow_below W2.out b3)
        have B3 := Lib.hid (below_alloc b3)
        clear b3 W2 hmk p0 p1 p2 p3
        obtain ⟨⟨⟨x0, c0⟩, ⟨x1, c1⟩, ⟨x2, c2⟩, ⟨x3, c3'⟩, ⟨x4, c4'⟩⟩, f0, f1, f2, f3, f4⟩ := own5 O3.out htl
        go_upto_region 14 with fail
        obtain ⟨wS, hWS⟩ : ∃ wS, (((((w3.setCell ⟨w2.heap.size, tt * 5, none⟩ (.int .i64 yy.n.a)).setCell ⟨w2.heap.size, tt * 5 + 1, none⟩ (.int .i64 yy.n.b)).setCell ⟨w2.heap.size, tt * 5 + 2, none⟩ (.int .i64 yy.n.c)).setCell ⟨w2.heap.size, tt * 5 + 3, none⟩ (.int .i64 yy.n.d)).setCell ⟨w2.heap.size, tt * 5 + 4, none⟩ (.int .i64 yy.e)) = wS := ⟨_, rfl⟩
        rw [hWS]
        have P3 := Lib.hid (show wS.ownsRow w2.heap.size 83 5 (.slice (some ⟨w2.heap.size, 0, none⟩) 8 8) 8 (cellsD (colP p 3 i)) by rw [← hWS, HC.out]; exact own_stAt O3.out (by simpa using htl) yy)
        have B4 := Lib.hid (show Below w2.heap.size w2 wS by rw [← hWS]; exact below_stAt (o := tt * 5) B3.out (Nat.le_refl _) yy)
        clear hWS O3 B3 c0 c1 c2 c3' c4' f0 f1 f2 f3 f4
        have hs4 := B4.out.size
        have HW := Lib.hid (O2.out.below B4.out)
        obtain ⟨vs, a1, a2, a3⟩ := HW.out
        rw [colsP_len] at a1
        have A1 := Lib.hid a1
        clear a1 a2 a3
        go_wp2_with (at_builtin; refine wpList_app rfl (.tmp 56) (.tmp 58) 27 rfl Try.underlying27 infoDOmegaS rfl (by decide) rfl (A1.out.alloc _) rfl (Rd.lit wS 79 #[.slice (some ⟨w2.heap.size, 0, none⟩) 8 8] 1 1 rfl) (by simp [Value.oneCell']) (by omega) (by decide) (by simp <;> omega) ?_; intro A9 c9 w9 o9 g9)
        have BB := Lib.hid (below_grown ((B4.out.mono hs2).alloc (by omega) (.cells #[.slice (some ⟨w2.heap.size, 0, none⟩) 8 8] 79)) (by simp <;> omega) (A1.out.alloc _) (Nat.le_refl _) g9)
        go_roundg (gk - 1)
        case measure => omega
        case rel =>
          refine ⟨i + 1, A9, c9, A4, c4, by omega, by go_num, rfl, rfl, ?_, ?_, fun j hj => ?_, X2.out.blockB BB.out (by omega), B2.out.trans (BB.out.mono (by omega))⟩
          · rw [colsP_succ]
            exact OwnSS.app1 (by decide) O2.out (Nat.le_refl _) hs2 (B4.out.alloc hs4 _) (colP_len p 3 i) (P3.out.alloc _) (colsP_len p 3 i) (A1.out.alloc _) g9 o9
          · exact ((ownsRow_below S2.out B4.out).alloc (.cells #[.slice (some ⟨w2.heap.size, 0, none⟩) 8 8] 79)).kept g9 (own_own_ne' ((ownsRow_below S2.out B4.out).alloc (.cells #[.slice (some ⟨w2.heap.size, 0, none⟩) 8 8] 79)) (A1.out.alloc (.cells #[.slice (some ⟨w2.heap.size, 0, none⟩) 8 8] 79)) (by decide))
          · rcases Nat.lt_succ_iff_lt_or_eq.1 hj with h | h
            · exact HDU.out j h
            · rw [h]; exact hd
      · have hz : hasI (tosP p i) tt = true := by rw [← HTT.out]; exact hd
        have HZ := Lib.hid hz
        have HDD := Lib.hid (ppmN_dup (n := 3) (show i < 2 ^ 3 from hlt) hd)
        clear hz hd
        go_wp2_with fail
        refine (s_hasI S3 i d3 (tosP p i) tt _ ⟨tosP_len p i, Rd.own S1.out⟩ (by omega)).mono ?_
        rintro e w' ⟨rfl, rfl⟩
        rw [HZ.out]
        go_wp2_with fail
        go_ret
        rw [HDD.out]
        exact ⟨_, 0, rfl, OwnSS.lit0 w1 B1.out.size _ _ _ _, B1.out.alloc B1.out.size _⟩
    · obtain rfl : i = 8 := by omega
      have HF := Lib.hid (ppmN_ok (p := p) (n := 3) fun j hj => HDU.out j hj)
      have HA := Lib.hid (colsP_all p 3 8)
      go_wp2_with fail
      refine (s_l7Cols _ 8 _ (colsP p 3 8) _ (HOS.out.rd (colsP_len p 3 8)) (by omega) HA.out).mono ?_
      rintro e w6 ⟨A6, c6, rfl, o6, b6⟩
      go_wp2_with fail
      go_ret
      rw [HF.out]
      exact ⟨A6, c6, rfl, o6.base_ hs0, HB.out.trans (b6.mono hs0)⟩
set_option maxRecDepth 100000 in
set_option maxHeartbeats 6400000 in
theorem s_Ppm4 (H : Int) (t o : List (Int × Int)) (AT AO : Option Addr) (nT cT cO : Nat) (w : World) (hT : RdP w AT nT t) (hO : RdP w AO 4 o) (bT : nT ≤ 549755813888) :
    Calls Try.prog 9 #[.agg #[.int .i64 4, .int .i64 H, .slice AT nT cT, .slice AO 4 cO]] w (RetSD (ppmN ⟨4, H, t, o⟩ 4) w) := by
  obtain ⟨p, hp⟩ : ∃ p : Po, (⟨4, H, t, o⟩ : Po) = p := ⟨_, rfl⟩
  have e4 : p.o.length = 4 := by rw [← hp]; exact hO.1
  have HE1 := Lib.hid (show ∀ i : Nat, evO (i : Int) 0 o 0 = (toN p i : Nat) from fun i => by have := toN_int (p := p) (by omega) i; rw [← hp] at this ⊢; exact this)
  have HE2 := Lib.hid (show ∀ i : Nat, evT (i : Int) t H % 8 = (phN p i : Nat) from fun i => by have := phN_int p i; rw [← hp] at this ⊢; exact this)
  have HTO := Lib.hid (show ∀ i, toN p i < 16 from fun i => by have := toN_lt p i; rw [e4] at this; exact this)
  rw [hp]
  have HT := Lib.hid hT
  have HO := Lib.hid hO
  have X0 := Lib.hid (Bx.new w 32 #[.int .i64 4, .int .i64 H, .slice AT nT cT, .slice AO 4 cO])
  have I1 := Lib.hid (show inB 4 1 4 = true by decide)
  clear hT hO e4 hp
  obtain ⟨p0, p1, p2, p3, _⟩ := X0.out.four
  go_enter Try.func9, Try.ntmps9
  go_wp2_with fail
  refine (s_in _ _ _ _).mono ?_
  rintro e w1 ⟨rfl, rfl⟩
  rw [I1.out]
  go_wp2_with fail
  clear p0 p1 p2 p3
  go_loopg [3, 4, 5] 16 (fun r v s j wr => ∃ (i : Nat) (A : Option Addr) (c : Nat) (S : Option Addr) (d : Nat), i + r = 16 ∧ j = .int .i64 i ∧ v = .slice A i c ∧ s = .slice S i d ∧ OwnSS cellsD wr (w.heap.size + 1) 79 83 5 (.slice A i c) (colsP p 4 i) ∧ wr.ownsRow (w.heap.size + 1) 3 1 (.slice S i d) i (cellsI (tosP p i)) ∧ (∀ j, j < i → dupP p j = false) ∧ Bx wr w.heap.size 32 #[.int .i64 4, .int .i64 H, .slice AT nT cT, .slice AO 4 cO] ∧ Below w.heap.size w wr)
  case atStart =>
    refine ⟨0, _, 0, _, 0, by omega, rfl, rfl, rfl, ?_, ?_, by simp, ((Bx.new w _ _).alloc _).alloc _, (((Below.refl _ _).alloc (Nat.le_refl _) _).alloc (by simp) _).alloc (by simp <;> omega) _⟩
    · have := (OwnSS.lit0 (w.alloc (.cells #[.int .i64 4, .int .i64 H, .slice AT nT cT, .slice AO 4 cO] 32)) (base := w.heap.size + 1) (by simp) 79 83 5 cellsD).alloc (.cells #[] 3)
      simpa [colsP] using this
    · exact ownsRow_lit' _ #[] 0 (by simp) (by simp) (by simp [maxLen]) rfl rfl
  case round =>
    obtain ⟨i, A3, c3, S3, d3, hi, rfl, rfl, rfl, ho, hse, hdup, hx, hb⟩ := hrel
    have HOS := Lib.hid ho
    have HSE := Lib.hid hse
    have HDU := Lib.hid hdup
    have HX := Lib.hid hx
    have HB := Lib.hid hb
    have hs0 := hb.size
    have hrlt : w.heap.size < wr.heap.size := hx.lt
    clear ho hse hdup hx hb
    obtain ⟨p0, p1, p2, p3, _⟩ := HX.out.four
    by_cases hlt : i < 16
    · have htl := HTO.out i
      obtain ⟨tt, htt⟩ : ∃ x, toN p i = x := ⟨_, rfl⟩
      obtain ⟨kk, hkk⟩ : ∃ x, phN p i = x := ⟨_, rfl⟩
      have hk8 : kk < 8 := by rw [← hkk]; exact phN_lt p i
      rw [htt] at htl
      have E1 := Lib.hid (show evO (i : Int) 0 o 0 = (tt : Nat) by rw [HE1.out, htt])
      have E2 := Lib.hid (show evT (i : Int) t H % 8 = (kk : Nat) by rw [HE2.out, hkk])
      obtain ⟨yy, hyy⟩ : ∃ y, phD kk = y := ⟨_, rfl⟩
      have HY := Lib.hid hyy
      have HC := Lib.hid (show colP p 4 i = (List.replicate 16 Dw.zero).set tt yy by unfold colP; rw [htt, hkk, hyy])
      clear hyy
      have HTT := Lib.hid htt
      clear htt hkk
      have hmk : ∀ w : World, (Instr.makeSlice 79 (.int .i64 16) (.int .i64 16)).run Try.prog w = .ok (.slice (some ⟨w.heap.size, 0, none⟩) 16 16) (w.alloc (.cells (madeCells (Value.agg #[.int .i64 0, .int .i64 0, .int .i64 0, .int .i64 0, .int .i64 0]).cells (16 * 5)) 83)) := fun w => run_makeN (P := Try.prog) Try.underlying79 infoDOmega 16 (by omega) (by omega) w
      go_wp2_with fail
      refine (s_EvalP 4 H AT AO nT cT 4 cO t o i _ (HT.out.below HB.out) (HO.out.below HB.out) bT (by omega)).mono ?_
      rintro e w1 ⟨rfl, b1⟩
      rw [E1.out, E2.out]
      have O1 := Lib.hid (HOS.out.below b1)
      have X1 := Lib.hid (HX.out.below b1)
      have B1 := Lib.hid (HB.out.trans (b1.mono hs0))
      have hs1 := b1.size
      have S1 := Lib.hid (ownsRow_below HSE.out b1)
      clear p0 p1 p2 p3 b1
      obtain ⟨p0, p1, p2, p3, _⟩ := X1.out.four
      have h0t : (0 : Int) ≤ (tt : Int) := by omega
      have h1t : (tt : Int) < 16 := by omega
      cases hd : dupP p i
      · have hz : hasI (tosP p i) tt = false := by rw [← HTT.out]; exact hd
        have HZ := Lib.hid hz
        clear hz
        go_wp2_with fail
        refine (s_hasI S3 i d3 (tosP p i) tt _ ⟨tosP_len p i, Rd.own S1.out⟩ (by omega)).mono ?_
        rintro e w' ⟨rfl, rfl⟩
        rw [HZ.out]
        go_wp2_with (at_builtin; refine wpList_app rfl (.tmp 42) (.tmp 44) 62 rfl Try.underlying62 infoInt rfl (by decide) rfl (S1.out.alloc _) rfl (Rd.lit w1 3 #[.int .i64 tt] 1 1 rfl) (by simp [Value.oneCell']) (by omega) (by decide) (by simp <;> omega) ?_; intro A4 c4 w2 o4 g4; have hbb := below_grown (B := w.heap.size + 1) ((Below.refl _ _).alloc (by omega) _) (by simp <;> omega) (S1.out.alloc (.cells #[.int .i64 tt] 3)) (Nat.le_refl _) g4; have hs2 : w.heap.size + 1 ≤ w2.heap.size := Nat.le_trans (by omega) hbb.size; have S2 := Lib.hid (show w2.ownsRow (w.heap.size + 1) 3 1 (.slice A4 (i + 1) c4) (i + 1) (cellsI (tosP p (i + 1))) by rw [tosP_succ, HTT.out, cellsI_append]; exact o4); have O2 := Lib.hid ((O1.out.alloc (.cells #[.int .i64 tt] 3)).kept g4 (fun e n sz u xs he hu => own_own_ne' hu (S1.out.alloc _) (by rcases he with rfl | rfl <;> decide))); have X2 := Lib.hid (X1.out.blockB hbb (by omega)); have B2 := Lib.hid (B1.out.trans (hbb.mono (by omega))); clear o4 g4 hbb p0 p1 p2 p3; obtain ⟨p0, p1, p2, p3, _⟩ := X2.out.four)
        have W2 := Lib.hid (own_made w2 (q := 4) (n := 16) (by omega) (by omega) (by decide))
        go_wp2_with fail
        refine (s_Phase kk _ hk8).mono ?_
        rintro e w3 ⟨rfl, b3⟩
        rw [HY.out]
        have O3 := Lib.hid (ownsRow_below W2.out b3)
        have B3 := Lib.hid (below_alloc b3)
        clear b3 W2 hmk p0 p1 p2 p3
        obtain ⟨⟨⟨x0, c0⟩, ⟨x1, c1⟩, ⟨x2, c2⟩, ⟨x3, c3'⟩, ⟨x4, c4'⟩⟩, f0, f1, f2, f3, f4⟩ := own5 O3.out htl
        go_upto_region 14 with fail
        obtain ⟨wS, hWS⟩ : ∃ wS, (((((w3.setCell ⟨w2.heap.size, tt * 5, none⟩ (.int .i64 yy.n.a)).setCell ⟨w2.heap.size, tt * 5 + 1, none⟩ (.int .i64 yy.n.b)).setCell ⟨w2.heap.size, tt * 5 + 2, none⟩ (.int .i64 yy.n.c)).setCell ⟨w2.heap.size, tt * 5 + 3, none⟩ (.int .i64 yy.n.d)).setCell ⟨w2.heap.size, tt * 5 + 4, none⟩ (.int .i64 yy.e)) = wS := ⟨_, rfl⟩
        rw [hWS]
        have P3 := Lib.hid (show wS.ownsRow w2.heap.size 83 5 (.slice (some ⟨w2.heap.size, 0, none⟩) 16 16) 16 (cellsD (colP p 4 i)) by rw [← hWS, HC.out]; exact own_stAt O3.out (by simpa using htl) yy)
        have B4 := Lib.hid (show Below w2.heap.size w2 wS by rw [← hWS]; exact below_stAt (o := tt * 5) B3.out (Nat.le_refl _) yy)
        clear hWS O3 B3 c0 c1 c2 c3' c4' f0 f1 f2 f3 f4
        have hs4 := B4.out.size
        have HW := Lib.hid (O2.out.below B4.out)
        obtain ⟨vs, a1, a2, a3⟩ := HW.out
        rw [colsP_len] at a1
        have A1 := Lib.hid a1
        clear a1 a2 a3
        go_wp2_with (at_builtin; refine wpList_app rfl (.tmp 56) (.tmp 58) 27 rfl Try.underlying27 infoDOmegaS rfl (by decide) rfl (A1.out.alloc _) rfl (Rd.lit wS 79 #[.slice (some ⟨w2.heap.size, 0, none⟩) 16 16] 1 1 rfl) (by simp [Value.oneCell']) (by omega) (by decide) (by simp <;> omega) ?_; intro A9 c9 w9 o9 g9)
        have BB := Lib.hid (below_grown ((B4.out.mono hs2).alloc (by omega) (.cells #[.slice (some ⟨w2.heap.size, 0, none⟩) 16 16] 79)) (by simp <;> omega) (A1.out.alloc _) (Nat.le_refl _) g9)
        go_roundg (gk - 1)
        case measure => omega
        case rel =>
          refine ⟨i + 1, A9, c9, A4, c4, by omega, by go_num, rfl, rfl, ?_, ?_, fun j hj => ?_, X2.out.blockB BB.out (by omega), B2.out.trans (BB.out.mono (by omega))⟩
          · rw [colsP_succ]
            exact OwnSS.app1 (by decide) O2.out (Nat.le_refl _) hs2 (B4.out.alloc hs4 _) (colP_len p 4 i) (P3.out.alloc _) (colsP_len p 4 i) (A1.out.alloc _) g9 o9
          · exact ((ownsRow_below S2.out B4.out).alloc (.cells #[.slice (some ⟨w2.heap.size, 0, none⟩) 16 16] 79)).kept g9 (own_own_ne' ((ownsRow_below S2.out B4.out).alloc (.cells #[.slice (some ⟨w2.heap.size, 0, none⟩) 16 16] 79)) (A1.out.alloc (.cells #[.slice (some ⟨w2.heap.size, 0, none⟩) 16 16] 79)) (by decide))
          · rcases Nat.lt_succ_iff_lt_or_eq.1 hj with h | h
            · exact HDU.out j h
            · rw [h]; exact hd
      · have hz : hasI (tosP p i) tt = true := by rw [← HTT.out]; exact hd
        have HZ := Lib.hid hz
        have HDD := Lib.hid (ppmN_dup (n := 4) (show i < 2 ^ 4 from hlt) hd)
        clear hz hd
        go_wp2_with fail
        refine (s_hasI S3 i d3 (tosP p i) tt _ ⟨tosP_len p i, Rd.own S1.out⟩ (by omega)).mono ?_
        rintro e w' ⟨rfl, rfl⟩
        rw [HZ.out]
        go_wp2_with fail
        go_ret
        rw [HDD.out]
        exact ⟨_, 0, rfl, OwnSS.lit0 w1 B1.out.size _ _ _ _, B1.out.alloc B1.out.size _⟩
    · obtain rfl : i = 16 := by omega
      have HF := Lib.hid (ppmN_ok (p := p) (n := 4) fun j hj => HDU.out j hj)
      have HA := Lib.hid (colsP_all p 4 16)
      go_wp2_with fail
      refine (s_l7Cols _ 16 _ (colsP p 4 16) _ (HOS.out.rd (colsP_len p 4 16)) (by omega) HA.out).mono ?_
      rintro e w6 ⟨A6, c6, rfl, o6, b6⟩
      go_wp2_with fail
      go_ret
      rw [HF.out]
      exact ⟨A6, c6, rfl, o6.base_ hs0, HB.out.trans (b6.mono hs0)⟩
theorem s_Ppm (p : Po) (AT AO : Option Addr) (nT cT nO cO : Nat) (w : World) (hT : RdP w AT nT p.t) (hO : RdP w AO nO p.o) (bT : nT ≤ 549755813888) :
    Calls Try.prog 9 #[.agg #[.int .i64 p.N, .int .i64 p.H, .slice AT nT cT, .slice AO nO cO]] w (RetSD (ppm p) w) := by
  cases hin : inB p.N 1 4
  · rw [ppm_no (by rw [hin]; simp)]
    exact s_PpmNo1 p AT AO nT cT nO cO w hin
  · by_cases hN : (nO : Int) = p.N
    · have hl := hO.1
      have hb := inB_iff.1 hin
      obtain ⟨N, H, t, o⟩ := p
      simp only at hN hl hb hT hO hin ⊢
      subst hN
      rw [ppm_n (p := ⟨nO, H, t, o⟩) (n := nO) (by omega) rfl hl]
      obtain rfl | rfl | rfl | rfl : nO = 1 ∨ nO = 2 ∨ nO = 3 ∨ nO = 4 := by omega
      · exact s_Ppm1 H t o AT AO nT cT cO w hT hO bT
      · exact s_Ppm2 H t o AT AO nT cT cO w hT hO bT
      · exact s_Ppm3 H t o AT AO nT cT cO w hT hO bT
      · exact s_Ppm4 H t o AT AO nT cT cO w hT hO bT
    · rw [ppm_no (by rw [hO.1]; exact fun h => hN h.2)]
      exact s_PpmNo2 p AT AO nT cT nO cO w hin hN
end Go.Proofs.Ytibhikngiceeeaa
namespace Go.Proofs.Ytibhikngiceeeaa
open Go.RowKit
set_option linter.unusedVariables false

set_option maxRecDepth 100000 in
set_option maxHeartbeats 1600000 in
theorem s_IsCirc (A : Option Addr) (n cap q : Nat) (gs : List Gt) (w : World) (h : RdG w A n gs) (h1 : 1 ≤ q) (h4 : q ≤ 4) (hg : ∀ g ∈ gs, okN q g = true) (hn : n ≤ 1048576) :
    Calls Try.prog 71 #[.agg #[.int .i64 q, .slice A n cap]] w fun e w' => e = .returned (.bool (decide (n ≤ 60))) ∧ Below w.heap.size w w' := by
  have H := Lib.hid h
  have HG := Lib.hid hg
  have I1 := Lib.hid (show inB (q : Int) 1 4 = true from inB_t (by omega) (by omega))
  clear h hg
  go_enter Try.func71, Try.ntmps71
  go_wp2_with fail
  go_loopg [3] n (fun r i wr => ∃ k : Nat, k + r = n ∧ i = .int .i64 k ∧ Bx wr w.heap.size 50 #[.int .i64 q, .slice A n cap] ∧ Below w.heap.size w wr)
  case atStart => exact ⟨0, by omega, rfl, Bx.new w _ _, (Below.refl _ _).alloc (Nat.le_refl _) _⟩
  case round =>
    obtain ⟨k, hk, rfl, hx, hb⟩ := hrel
    have HX := Lib.hid hx
    have hs0 := hb.size
    have hsl : w.heap.size < wr.heap.size := hx.lt
    clear hx
    obtain ⟨p0, p1, _, _⟩ := HX.out.two
    by_cases hlt : k < n
    · obtain ⟨b, off, g, rfl, hB, hd, c0, c1, c2, c3⟩ := (H.out.below hb).at_ hlt
      have HV := Lib.hid (show okG g.k g.a g.b g.c (q : Int) = true from HG.out g (List.mem_of_mem_drop (i := k) (by rw [hd]; simp)))
      clear hd
      have hi0 : (0 : Int) ≤ (k : Int) := by omega
      have hi1 : (k : Int) < (n : Int) := by omega
      go_upto_region 4 with fail
      go_region_held3 (fun w' => w'.cell? ⟨w.heap.size, 0, none⟩ = some (.int .i64 (q : Nat)) ∧ w'.cell? ⟨w.heap.size, 1, none⟩ = some (.slice (some ⟨b, off, none⟩) n cap) ∧ w'.cell? ⟨b, off + k * 4, none⟩ = some (.int .i64 g.k) ∧ w'.cell? ⟨b, off + k * 4 + 1, none⟩ = some (.int .i64 g.a) ∧ w'.cell? ⟨b, off + k * 4 + 2, none⟩ = some (.int .i64 g.b) ∧ w'.cell? ⟨b, off + k * 4 + 3, none⟩ = some (.int .i64 g.c))
        (first | with_reducible exact ⟨s0, s1, s2, s3, s4, s5⟩ | go_keep)
        (first
          | (go_at_call 30; refine (s_IsValidGate g.k g.a g.b g.c q _).mono ?_; rintro e w1 ⟨rfl, b1⟩; have s0 := (b1.cell (p := ⟨w.heap.size, 0, none⟩) hsl).trans p0; have s1 := (b1.cell (p := ⟨w.heap.size, 1, none⟩) hsl).trans p1; have s2 := (b1.cell (p := ⟨b, off + k * 4, none⟩) hB).trans c0; have s3 := (b1.cell (p := ⟨b, off + k * 4 + 1, none⟩) hB).trans c1; have s4 := (b1.cell (p := ⟨b, off + k * 4 + 2, none⟩) hB).trans c2; have s5 := (b1.cell (p := ⟨b, off + k * 4 + 3, none⟩) hB).trans c3; rw [HV.out]))
      all_goals go_wp2_with fail
      all_goals go_roundg (gk - 1)
      all_goals first
        | omega
        | exact ⟨k + 1, by omega, by go_num, (HX.out.drew.below b1), hb.trans ((below_drew b1).mono (by simpa using hs0))⟩
    · go_wp2_with fail
      refine (s_in _ _ _ _).mono ?_
      rintro e w1 ⟨rfl, rfl⟩
      rw [I1.out]
      go_wp2_with fail
      go_ret
      exact ⟨ret_bool (by simp <;> omega), hb⟩
def RetSDB (n : Nat) (l : List (List Dw)) (w : World) (e : Ending) (w' : World) : Prop :=
  ∃ A c, e = .returned (.tuple #[.slice A n c, .bool true]) ∧ OwnSS cellsD w' w.heap.size 79 83 5 (.slice A n c) l ∧ Below w.heap.size w w'
/-- The columns that a row of gates makes. -/
def colsU (U : Nat → List Dw) (k : Nat) : List (List Dw) := (List.range k).map U
theorem colsU_len (U : Nat → List Dw) (k : Nat) : (colsU U k).length = k := by unfold colsU; rw [List.length_map, List.length_range]
theorem colsU_succ (U : Nat → List Dw) (k : Nat) : colsU U (k + 1) = colsU U k ++ [U k] := by unfold colsU; rw [List.range_succ, List.map_append]; rfl
theorem colsU_all {U : Nat → List Dw} {n k : Nat} (h : ∀ i, i < k → (U i).length = n) : ∀ x ∈ colsU U k, x.length = n := by
  intro x hx
  obtain ⟨j, hj, rfl⟩ := List.mem_map.1 hx
  exact h j (List.mem_range.1 hj)

set_option maxRecDepth 100000 in
set_option maxHeartbeats 3200000 in
theorem s_l11Mat1 (U : Nat → List Dw) (A : Option Addr) (n cap : Nat) (gs : List Gt) (w : World) (h : RdG w A n gs) (hn : n ≤ 1048576) (hU : ∀ i, i < 2 → appGs gs (basis 1 i) = some (U i) ∧ (U i).length = 2) :
    Calls Try.prog 72 #[.slice A n cap, .int .i64 1] w (RetSDB 2 (flipL (colsU U 2)) w) := by
  have H := Lib.hid h
  have HU := Lib.hid hU
  clear h hU
  go_enter Try.func72, Try.ntmps72
  go_wp2_with fail
  go_loopg [6, 7] 2 (fun r v j wr => ∃ (i : Nat) (A : Option Addr) (c : Nat), i + r = 2 ∧ j = .int .i64 i ∧ v = .slice A i c ∧ OwnSS cellsD wr w.heap.size 79 83 5 (.slice A i c) (colsU U i) ∧ Below w.heap.size w wr)
  case atStart => exact ⟨0, _, 0, by omega, rfl, rfl, OwnSS.lit0 w (Nat.le_refl _) _ _ _ _, (Below.refl _ _).alloc (Nat.le_refl _) _⟩
  case round =>
    obtain ⟨i, A3, c3, hi, rfl, rfl, ho, hb⟩ := hrel
    have HO := Lib.hid ho
    have HB := Lib.hid hb
    have hs0 := hb.size
    clear ho hb
    by_cases hlt : i < 2
    · obtain ⟨u1, u2⟩ := HU.out i hlt
      obtain ⟨u, hu⟩ : ∃ u, U i = u := ⟨_, rfl⟩
      rw [hu] at u1 u2
      have U1 := Lib.hid u1
      have HUU := Lib.hid hu
      clear u1 hu
      go_wp2_with fail
      refine (s_Basis 1 i _ (by omega) (by omega) hlt).mono ?_
      rintro e w3 ⟨A4, c4, rfl, o4, b4⟩
      have R4 := Lib.hid (show RdD w3 A4 2 (basis 1 i) from RdD.own o4)
      clear o4
      go_wp2_with fail
      refine (s_ApplyGs _ n _ gs _ 2 _ 1 _ u _ ((H.out.below HB.out).below b4) hn R4.out (by omega) (by omega) (by decide) U1.out).mono ?_
      rintro e w5 ⟨A5, c5, rfl, o5, b5⟩
      have B5 := Lib.hid (below_trans b4 b5)
      have HR := Lib.hid (ownsRow_base o5 b4.size)
      have hs5 := B5.out.size
      clear o5 b4 b5 R4
      have HW := Lib.hid (HO.out.below B5.out)
      obtain ⟨vs, a1, a2, a3⟩ := HW.out
      rw [colsU_len] at a1
      have A1 := Lib.hid a1
      clear a1 a2 a3
      go_wp2_with (at_builtin; refine wpList_app rfl (.tmp 29) (.tmp 31) 27 rfl Try.underlying27 infoDOmegaS rfl (by decide) rfl (A1.out.alloc _) rfl (Rd.lit w5 79 #[.slice A5 2 c5] 1 1 rfl) (by simp [Value.oneCell']) (by omega) (by decide) (by simp <;> omega) ?_; intro A9 c9 w9 o9 g9)
      go_roundg (gk - 1)
      case measure => omega
      case rel =>
        refine ⟨i + 1, A9, c9, by omega, by go_num, rfl, ?_, below_grown ((HB.out.trans (B5.out.mono hs0)).alloc (by omega) _) (by simp <;> omega) (A1.out.alloc _) (Nat.le_refl _) g9⟩
        rw [colsU_succ, HUU.out]
        exact OwnSS.app1 (by decide) HO.out (Nat.le_refl _) hs0 (B5.out.alloc hs5 _) u2 (HR.out.alloc _) (colsU_len U i) (A1.out.alloc _) g9 o9
    · obtain rfl : i = 2 := by omega
      have HA := Lib.hid (colsU_all (U := U) (k := 2) (n := 2) fun i hi => (HU.out i hi).2)
      go_wp2_with fail
      refine (s_l7Cols _ 2 _ (colsU U 2) _ (HO.out.rd (colsU_len U _)) (by omega) HA.out).mono ?_
      rintro e w6 ⟨A6, c6, rfl, o6, b6⟩
      have hfl : (flipL (colsU U 2)).length = 2 := by rw [flipL_len, colsU_len]
      rw [hfl] at o6 ⊢
      go_wp2_with fail
      exact bodyPost_ret (v := .tuple #[.slice A6 2 c6, .bool true]) (by simp [results, Try.results72, go_sem]) rfl ⟨_, _, rfl, o6.base_ hs0, HB.out.trans (b6.mono hs0)⟩
set_option maxRecDepth 100000 in
set_option maxHeartbeats 3200000 in
theorem s_l11Mat2 (U : Nat → List Dw) (A : Option Addr) (n cap : Nat) (gs : List Gt) (w : World) (h : RdG w A n gs) (hn : n ≤ 1048576) (hU : ∀ i, i < 4 → appGs gs (basis 2 i) = some (U i) ∧ (U i).length = 4) :
    Calls Try.prog 72 #[.slice A n cap, .int .i64 2] w (RetSDB 4 (flipL (colsU U 4)) w) := by
  have H := Lib.hid h
  have HU := Lib.hid hU
  clear h hU
  go_enter Try.func72, Try.ntmps72
  go_wp2_with fail
  go_loopg [6, 7] 4 (fun r v j wr => ∃ (i : Nat) (A : Option Addr) (c : Nat), i + r = 4 ∧ j = .int .i64 i ∧ v = .slice A i c ∧ OwnSS cellsD wr w.heap.size 79 83 5 (.slice A i c) (colsU U i) ∧ Below w.heap.size w wr)
  case atStart => exact ⟨0, _, 0, by omega, rfl, rfl, OwnSS.lit0 w (Nat.le_refl _) _ _ _ _, (Below.refl _ _).alloc (Nat.le_refl _) _⟩
  case round =>
    obtain ⟨i, A3, c3, hi, rfl, rfl, ho, hb⟩ := hrel
    have HO := Lib.hid ho
    have HB := Lib.hid hb
    have hs0 := hb.size
    clear ho hb
    by_cases hlt : i < 4
    · obtain ⟨u1, u2⟩ := HU.out i hlt
      obtain ⟨u, hu⟩ : ∃ u, U i = u := ⟨_, rfl⟩
      rw [hu] at u1 u2
      have U1 := Lib.hid u1
      have HUU := Lib.hid hu
      clear u1 hu
      go_wp2_with fail
      refine (s_Basis 2 i _ (by omega) (by omega) hlt).mono ?_
      rintro e w3 ⟨A4, c4, rfl, o4, b4⟩
      have R4 := Lib.hid (show RdD w3 A4 4 (basis 2 i) from RdD.own o4)
      clear o4
      go_wp2_with fail
      refine (s_ApplyGs _ n _ gs _ 4 _ 2 _ u _ ((H.out.below HB.out).below b4) hn R4.out (by omega) (by omega) (by decide) U1.out).mono ?_
      rintro e w5 ⟨A5, c5, rfl, o5, b5⟩
      have B5 := Lib.hid (below_trans b4 b5)
      have HR := Lib.hid (ownsRow_base o5 b4.size)
      have hs5 := B5.out.size
      clear o5 b4 b5 R4
      have HW := Lib.hid (HO.out.below B5.out)
      obtain ⟨vs, a1, a2, a3⟩ := HW.out
      rw [colsU_len] at a1
      have A1 := Lib.hid a1
      clear a1 a2 a3
      go_wp2_with (at_builtin; refine wpList_app rfl (.tmp 29) (.tmp 31) 27 rfl Try.underlying27 infoDOmegaS rfl (by decide) rfl (A1.out.alloc _) rfl (Rd.lit w5 79 #[.slice A5 4 c5] 1 1 rfl) (by simp [Value.oneCell']) (by omega) (by decide) (by simp <;> omega) ?_; intro A9 c9 w9 o9 g9)
      go_roundg (gk - 1)
      case measure => omega
      case rel =>
        refine ⟨i + 1, A9, c9, by omega, by go_num, rfl, ?_, below_grown ((HB.out.trans (B5.out.mono hs0)).alloc (by omega) _) (by simp <;> omega) (A1.out.alloc _) (Nat.le_refl _) g9⟩
        rw [colsU_succ, HUU.out]
        exact OwnSS.app1 (by decide) HO.out (Nat.le_refl _) hs0 (B5.out.alloc hs5 _) u2 (HR.out.alloc _) (colsU_len U i) (A1.out.alloc _) g9 o9
    · obtain rfl : i = 4 := by omega
      have HA := Lib.hid (colsU_all (U := U) (k := 4) (n := 4) fun i hi => (HU.out i hi).2)
      go_wp2_with fail
      refine (s_l7Cols _ 4 _ (colsU U 4) _ (HO.out.rd (colsU_len U _)) (by omega) HA.out).mono ?_
      rintro e w6 ⟨A6, c6, rfl, o6, b6⟩
      have hfl : (flipL (colsU U 4)).length = 4 := by rw [flipL_len, colsU_len]
      rw [hfl] at o6 ⊢
      go_wp2_with fail
      exact bodyPost_ret (v := .tuple #[.slice A6 4 c6, .bool true]) (by simp [results, Try.results72, go_sem]) rfl ⟨_, _, rfl, o6.base_ hs0, HB.out.trans (b6.mono hs0)⟩
set_option maxRecDepth 100000 in
set_option maxHeartbeats 3200000 in
theorem s_l11Mat3 (U : Nat → List Dw) (A : Option Addr) (n cap : Nat) (gs : List Gt) (w : World) (h : RdG w A n gs) (hn : n ≤ 1048576) (hU : ∀ i, i < 8 → appGs gs (basis 3 i) = some (U i) ∧ (U i).length = 8) :
    Calls Try.prog 72 #[.slice A n cap, .int .i64 3] w (RetSDB 8 (flipL (colsU U 8)) w) := by
  have H := Lib.hid h
  have HU := Lib.hid hU
  clear h hU
  go_enter Try.func72, Try.ntmps72
  go_wp2_with fail
  go_loopg [6, 7] 8 (fun r v j wr => ∃ (i : Nat) (A : Option Addr) (c : Nat), i + r = 8 ∧ j = .int .i64 i ∧ v = .slice A i c ∧ OwnSS cellsD wr w.heap.size 79 83 5 (.slice A i c) (colsU U i) ∧ Below w.heap.size w wr)
  case atStart => exact ⟨0, _, 0, by omega, rfl, rfl, OwnSS.lit0 w (Nat.le_refl _) _ _ _ _, (Below.refl _ _).alloc (Nat.le_refl _) _⟩
  case round =>
    obtain ⟨i, A3, c3, hi, rfl, rfl, ho, hb⟩ := hrel
    have HO := Lib.hid ho
    have HB := Lib.hid hb
    have hs0 := hb.size
    clear ho hb
    by_cases hlt : i < 8
    · obtain ⟨u1, u2⟩ := HU.out i hlt
      obtain ⟨u, hu⟩ : ∃ u, U i = u := ⟨_, rfl⟩
      rw [hu] at u1 u2
      have U1 := Lib.hid u1
      have HUU := Lib.hid hu
      clear u1 hu
      go_wp2_with fail
      refine (s_Basis 3 i _ (by omega) (by omega) hlt).mono ?_
      rintro e w3 ⟨A4, c4, rfl, o4, b4⟩
      have R4 := Lib.hid (show RdD w3 A4 8 (basis 3 i) from RdD.own o4)
      clear o4
      go_wp2_with fail
      refine (s_ApplyGs _ n _ gs _ 8 _ 3 _ u _ ((H.out.below HB.out).below b4) hn R4.out (by omega) (by omega) (by decide) U1.out).mono ?_
      rintro e w5 ⟨A5, c5, rfl, o5, b5⟩
      have B5 := Lib.hid (below_trans b4 b5)
      have HR := Lib.hid (ownsRow_base o5 b4.size)
      have hs5 := B5.out.size
      clear o5 b4 b5 R4
      have HW := Lib.hid (HO.out.below B5.out)
      obtain ⟨vs, a1, a2, a3⟩ := HW.out
      rw [colsU_len] at a1
      have A1 := Lib.hid a1
      clear a1 a2 a3
      go_wp2_with (at_builtin; refine wpList_app rfl (.tmp 29) (.tmp 31) 27 rfl Try.underlying27 infoDOmegaS rfl (by decide) rfl (A1.out.alloc _) rfl (Rd.lit w5 79 #[.slice A5 8 c5] 1 1 rfl) (by simp [Value.oneCell']) (by omega) (by decide) (by simp <;> omega) ?_; intro A9 c9 w9 o9 g9)
      go_roundg (gk - 1)
      case measure => omega
      case rel =>
        refine ⟨i + 1, A9, c9, by omega, by go_num, rfl, ?_, below_grown ((HB.out.trans (B5.out.mono hs0)).alloc (by omega) _) (by simp <;> omega) (A1.out.alloc _) (Nat.le_refl _) g9⟩
        rw [colsU_succ, HUU.out]
        exact OwnSS.app1 (by decide) HO.out (Nat.le_refl _) hs0 (B5.out.alloc hs5 _) u2 (HR.out.alloc _) (colsU_len U i) (A1.out.alloc _) g9 o9
    · obtain rfl : i = 8 := by omega
      have HA := Lib.hid (colsU_all (U := U) (k := 8) (n := 8) fun i hi => (HU.out i hi).2)
      go_wp2_with fail
      refine (s_l7Cols _ 8 _ (colsU U 8) _ (HO.out.rd (colsU_len U _)) (by omega) HA.out).mono ?_
      rintro e w6 ⟨A6, c6, rfl, o6, b6⟩
      have hfl : (flipL (colsU U 8)).length = 8 := by rw [flipL_len, colsU_len]
      rw [hfl] at o6 ⊢
      go_wp2_with fail
      exact bodyPost_ret (v := .tuple #[.slice A6 8 c6, .bool true]) (by simp [results, Try.results72, go_sem]) rfl ⟨_, _, rfl, o6.base_ hs0, HB.out.trans (b6.mono hs0)⟩
set_option maxRecDepth 100000 in
set_option maxHeartbeats 3200000 in
theorem s_l11Mat4 (U : Nat → List Dw) (A : Option Addr) (n cap : Nat) (gs : List Gt) (w : World) (h : RdG w A n gs) (hn : n ≤ 1048576) (hU : ∀ i, i < 16 → appGs gs (basis 4 i) = some (U i) ∧ (U i).length = 16) :
    Calls Try.prog 72 #[.slice A n cap, .int .i64 4] w (RetSDB 16 (flipL (colsU U 16)) w) := by
  have H := Lib.hid h
  have HU := Lib.hid hU
  clear h hU
  go_enter Try.func72, Try.ntmps72
  go_wp2_with fail
  go_loopg [6, 7] 16 (fun r v j wr => ∃ (i : Nat) (A : Option Addr) (c : Nat), i + r = 16 ∧ j = .int .i64 i ∧ v = .slice A i c ∧ OwnSS cellsD wr w.heap.size 79 83 5 (.slice A i c) (colsU U i) ∧ Below w.heap.size w wr)
  case atStart => exact ⟨0, _, 0, by omega, rfl, rfl, OwnSS.lit0 w (Nat.le_refl _) _ _ _ _, (Below.refl _ _).alloc (Nat.le_refl _) _⟩
  case round =>
    obtain ⟨i, A3, c3, hi, rfl, rfl, ho, hb⟩ := hrel
    have HO := Lib.hid ho
    have HB := Lib.hid hb
    have hs0 := hb.size
    clear ho hb
    by_cases hlt : i < 16
    · obtain ⟨u1, u2⟩ := HU.out i hlt
      obtain ⟨u, hu⟩ : ∃ u, U i = u := ⟨_, rfl⟩
      rw [hu] at u1 u2
      have U1 := Lib.hid u1
      have HUU := Lib.hid hu
      clear u1 hu
      go_wp2_with fail
      refine (s_Basis 4 i _ (by omega) (by omega) hlt).mono ?_
      rintro e w3 ⟨A4, c4, rfl, o4, b4⟩
      have R4 := Lib.hid (show RdD w3 A4 16 (basis 4 i) from RdD.own o4)
      clear o4
      go_wp2_with fail
      refine (s_ApplyGs _ n _ gs _ 16 _ 4 _ u _ ((H.out.below HB.out).below b4) hn R4.out (by omega) (by omega) (by decide) U1.out).mono ?_
      rintro e w5 ⟨A5, c5, rfl, o5, b5⟩
      have B5 := Lib.hid (below_trans b4 b5)
      have HR := Lib.hid (ownsRow_base o5 b4.size)
      have hs5 := B5.out.size
      clear o5 b4 b5 R4
      have HW := Lib.hid (HO.out.below B5.out)
      obtain ⟨vs, a1, a2, a3⟩ := HW.out
      rw [colsU_len] at a1
      have A1 := Lib.hid a1
      clear a1 a2 a3
      go_wp2_with (at_builtin; refine wpList_app rfl (.tmp 29) (.tmp 31) 27 rfl Try.underlying27 infoDOmegaS rfl (by decide) rfl (A1.out.alloc _) rfl (Rd.lit w5 79 #[.slice A5 16 c5] 1 1 rfl) (by simp [Value.oneCell']) (by omega) (by decide) (by simp <;> omega) ?_; intro A9 c9 w9 o9 g9)
      go_roundg (gk - 1)
      case measure => omega
      case rel =>
        refine ⟨i + 1, A9, c9, by omega, by go_num, rfl, ?_, below_grown ((HB.out.trans (B5.out.mono hs0)).alloc (by omega) _) (by simp <;> omega) (A1.out.alloc _) (Nat.le_refl _) g9⟩
        rw [colsU_succ, HUU.out]
        exact OwnSS.app1 (by decide) HO.out (Nat.le_refl _) hs0 (B5.out.alloc hs5 _) u2 (HR.out.alloc _) (colsU_len U i) (A1.out.alloc _) g9 o9
    · obtain rfl : i = 16 := by omega
      have HA := Lib.hid (colsU_all (U := U) (k := 16) (n := 16) fun i hi => (HU.out i hi).2)
      go_wp2_with fail
      refine (s_l7Cols _ 16 _ (colsU U 16) _ (HO.out.rd (colsU_len U _)) (by omega) HA.out).mono ?_
      rintro e w6 ⟨A6, c6, rfl, o6, b6⟩
      have hfl : (flipL (colsU U 16)).length = 16 := by rw [flipL_len, colsU_len]
      rw [hfl] at o6 ⊢
      go_wp2_with fail
      exact bodyPost_ret (v := .tuple #[.slice A6 16 c6, .bool true]) (by simp [results, Try.results72, go_sem]) rfl ⟨_, _, rfl, o6.base_ hs0, HB.out.trans (b6.mono hs0)⟩
theorem s_l11Mat (q : Nat) (U : Nat → List Dw) (A : Option Addr) (n cap : Nat) (gs : List Gt) (w : World) (h1 : 1 ≤ q) (h4 : q ≤ 4) (h : RdG w A n gs) (hn : n ≤ 1048576) (hU : ∀ i, i < 2 ^ q → appGs gs (basis q i) = some (U i) ∧ (U i).length = 2 ^ q) :
    Calls Try.prog 72 #[.slice A n cap, .int .i64 q] w (RetSDB (2 ^ q) (flipL (colsU U (2 ^ q))) w) := by
  obtain rfl | rfl | rfl | rfl : q = 1 ∨ q = 2 ∨ q = 3 ∨ q = 4 := by omega
  · exact s_l11Mat1 U A n cap gs w h hn hU
  · exact s_l11Mat2 U A n cap gs w h hn hU
  · exact s_l11Mat3 U A n cap gs w h hn hU
  · exact s_l11Mat4 U A n cap gs w h hn hU
set_option maxRecDepth 100000 in
set_option maxHeartbeats 1600000 in
/-- A circuit of at most 60 valid gates. -/
theorem s_CirMat (q : Nat) (U : Nat → List Dw) (A : Option Addr) (n cap : Nat) (gs : List Gt) (w : World) (h1 : 1 ≤ q) (h4 : q ≤ 4) (h : RdG w A n gs) (hn : n ≤ 60) (hg : ∀ g ∈ gs, okN q g = true) (hU : ∀ i, i < 2 ^ q → appGs gs (basis q i) = some (U i) ∧ (U i).length = 2 ^ q) :
    Calls Try.prog 22 #[.agg #[.int .i64 q, .slice A n cap]] w (RetSDB (2 ^ q) (flipL (colsU U (2 ^ q))) w) := by
  have H := Lib.hid h
  have HG := Lib.hid hg
  have HU := Lib.hid hU
  have X0 := Lib.hid (Bx.new w 50 #[.int .i64 q, .slice A n cap])
  have BZ := Lib.hid ((Below.refl w.heap.size w).alloc (Nat.le_refl _) (.cells #[.int .i64 q, .slice A n cap] 50))
  clear h hg hU
  obtain ⟨p0, p1, _, _⟩ := X0.out.two
  go_enter Try.func22, Try.ntmps22
  go_wp2_with fail
  refine (s_IsCirc _ n _ q gs _ (H.out.below BZ.out) h1 h4 HG.out (by omega)).mono ?_
  rintro e w1 ⟨rfl, b1⟩
  rw [decide_eq_true hn]
  have B1 := Lib.hid (below_trans BZ.out b1)
  have X1 := Lib.hid (X0.out.below b1)
  clear b1 p0 p1
  obtain ⟨p0, p1, _, _⟩ := X1.out.two
  go_wp2_with fail
  refine (s_l11Mat q U _ n _ gs _ h1 h4 (H.out.below B1.out) (by omega) HU.out).mono ?_
  rintro e w6 ⟨A6, c6, rfl, o6, b6⟩
  go_wp2_with fail
  exact bodyPost_ret (v := .tuple #[.slice A6 ((2 ^ q : Nat)) c6, .bool true]) (by simp [results, Try.results22, go_sem]) rfl ⟨_, _, rfl, o6.base_ B1.out.size, below_trans B1.out b6⟩
set_option maxRecDepth 100000 in
set_option maxHeartbeats 1600000 in
/-- A circuit of more gates. -/
theorem s_CirMatNo (q : Nat) (A : Option Addr) (n cap : Nat) (gs : List Gt) (w : World) (h1 : 1 ≤ q) (h4 : q ≤ 4) (h : RdG w A n gs) (hn : 60 < n) (hn2 : n ≤ 1048576) (hg : ∀ g ∈ gs, okN q g = true) :
    Calls Try.prog 22 #[.agg #[.int .i64 q, .slice A n cap]] w fun e w' => ∃ A c, e = .returned (.tuple #[.slice A 0 c, .bool false]) ∧ Below w.heap.size w w' := by
  have H := Lib.hid h
  have HG := Lib.hid hg
  have X0 := Lib.hid (Bx.new w 50 #[.int .i64 q, .slice A n cap])
  have BZ := Lib.hid ((Below.refl w.heap.size w).alloc (Nat.le_refl _) (.cells #[.int .i64 q, .slice A n cap] 50))
  clear h hg
  obtain ⟨p0, p1, _, _⟩ := X0.out.two
  go_enter Try.func22, Try.ntmps22
  go_wp2_with fail
  refine (s_IsCirc _ n _ q gs _ (H.out.below BZ.out) h1 h4 HG.out hn2).mono ?_
  rintro e w1 ⟨rfl, b1⟩
  rw [decide_eq_false (by omega)]
  have B1 := Lib.hid (below_trans BZ.out b1)
  clear b1 p0 p1
  go_wp2_with fail
  exact bodyPost_ret (v := .tuple #[.slice (some ⟨w1.heap.size, 0, none⟩) 0 0, .bool false]) (by simp [results, Try.results22, go_sem]) rfl ⟨_, _, rfl, B1.out.alloc B1.out.size _⟩
set_option maxRecDepth 100000 in
set_option maxHeartbeats 3200000 in
theorem s_EqMat (A : Option Addr) (n cap : Nat) (B : Option Addr) (c : Nat) (l l' : List (List Dw)) (w : World) (h : RdSS cellsD w 5 A n l) (h' : RdSS cellsD w 5 B n l') (hn : n ≤ 16) (hl : ∀ x ∈ l, x.length = n) (hl' : ∀ x ∈ l', x.length = n) :
    Calls Try.prog 23 #[.slice A n cap, .slice B n c] w fun e w' => e = .returned (.bool (decide (l = l'))) ∧ Below w.heap.size w w' := by
  have H := Lib.hid h
  have H' := Lib.hid h'
  have HL := Lib.hid hl
  have HL' := Lib.hid hl'
  clear h h' hl hl'
  go_enter Try.func23, Try.ntmps23
  go_wp2_with fail
  go_loopg [5] n (fun r i wr => ∃ k : Nat, k + r = n ∧ i = .int .i64 k ∧ l.take k = l'.take k ∧ Below w.heap.size w wr)
  case atStart => exact ⟨0, by omega, rfl, by simp, Below.refl _ _⟩
  case round =>
    obtain ⟨k, hk, rfl, htk, hb⟩ := hrel
    have HTK := Lib.hid htk
    have hs0 := hb.size
    clear htk
    by_cases hlt : k < n
    · obtain ⟨b, off, x, B1, c1, rfl, hB, hd, k0, hxc, hxr⟩ := (H.out.below hb).at_ hlt
      obtain ⟨b', off', x', B2, c2, rfl, hB', hd', k1, hxc', hxr'⟩ := (H'.out.below hb).at_ hlt
      have hxl := HL.out x (List.mem_of_mem_drop (i := k) (by rw [hd]; simp))
      have hxl' := HL'.out x' (List.mem_of_mem_drop (i := k) (by rw [hd']; simp))
      rw [hxl] at k0 hxc hxr
      rw [hxl'] at k1 hxc' hxr'
      have RX := Lib.hid (show RdD wr B1 n x from ⟨hxl, hxr⟩)
      have RX' := Lib.hid (show RdD wr B2 n x' from ⟨hxl', hxr'⟩)
      have HD := Lib.hid hd
      have HD' := Lib.hid hd'
      clear hd hd' hxl hxl' hxr hxr'
      have hi0 : (0 : Int) ≤ (k : Int) := by omega
      have hi1 : (k : Int) < (n : Int) := by omega
      obtain ⟨v, hv⟩ : ∃ v, decide (x = x') = v := ⟨_, rfl⟩
      have HV := Lib.hid hv
      clear hv
      go_upto_region 6 with fail
      go_region_held3 (fun w' => w'.cell? ⟨b, off + k, none⟩ = some (.slice B1 n c1) ∧ w'.cell? ⟨b', off' + k, none⟩ = some (.slice B2 n c2))
        (first | with_reducible exact ⟨s0, s1⟩ | go_keep)
        (first | (go_at_call 73; refine (s_EqG B1 n _ B2 _ x x' _ (RX.out.below (below_drewN (Below.refl _ _) _)) (RX'.out.below (below_drewN (Below.refl _ _) _)) (by omega)).mono ?_; rintro e w1 ⟨rfl, b1⟩; have s0 := (b1.cell (p := ⟨b, off + k, none⟩) hB).trans k0; have s1 := (b1.cell (p := ⟨b', off' + k, none⟩) hB').trans k1; rw [HV.out]))
      all_goals cases v
      all_goals go_wp2_with fail
      all_goals first
        | (go_ret; refine ⟨ret_bool ?_, hb.trans ((below_drew b1).mono (by simpa using hs0))⟩; have hne : ¬ l = l' := (by intro e; rw [e] at HD; have := HD.out; rw [HD'.out] at this; injection this with this _; exact absurd this.symm (of_decide_eq_false HV.out)); simp [hne])
        | go_roundg (gk - 1)
      all_goals first
        | omega
        | exact ⟨k + 1, by omega, by go_num, by rw [take_snoc HD.out, take_snoc HD'.out, HTK.out, of_decide_eq_true HV.out], hb.trans ((below_drew b1).mono (by simpa using hs0))⟩
    · have he : l = l' := by
        have := HTK.out
        rwa [List.take_of_length_le (by have := H.out.1; omega), List.take_of_length_le (by have := H'.out.1; omega)] at this
      go_wp2_with fail
      go_ret
      exact ⟨ret_bool (by simp [he]), hb⟩
end Go.Proofs.Ytibhikngiceeeaa
namespace Go.Proofs.Ytibhikngiceeeaa
open Go.RowKit

def compS : Po → List Gt → Po × Bool
  | p, [] => (p, decide (p.N > 0))
  | p, g :: r => if (applyP p g).2 = true then compS (applyP p g).1 r else (Po.zero, false)
theorem cs4 {w' : World} {g g1 i : Nat} {u a b c d : Value} (h : w'.cell? ⟨g, i, none⟩ = some u) (hg : g ≠ g1) : ((((w'.setCell ⟨g1, 0, none⟩ a).setCell ⟨g1, 1, none⟩ b).setCell ⟨g1, 2, none⟩ c).setCell ⟨g1, 3, none⟩ d).cell? ⟨g, i, none⟩ = some u := by
  have e : ((((w'.setCell ⟨g1, 0, none⟩ a).setCell ⟨g1, 1, none⟩ b).setCell ⟨g1, 2, none⟩ c).setCell ⟨g1, 3, none⟩ d).heap[g]? = w'.heap[g]? :=
    ((((Below.heap_setCell _ ⟨g1, 3, none⟩ d g hg).trans (Below.heap_setCell _ ⟨g1, 2, none⟩ c g hg)).trans (Below.heap_setCell _ ⟨g1, 1, none⟩ b g hg)).trans (Below.heap_setCell _ ⟨g1, 0, none⟩ a g hg))
  exact (World.cell?_of_block (a := ⟨g, i, none⟩) e).trans h
theorem drew_cell (w : World) (a : Addr) : w.drew.cell? a = w.cell? a := rfl
theorem cs4d {w' : World} {g g1 i : Nat} {u a b c d : Value} (h : w'.cell? ⟨g, i, none⟩ = some u) (hg : g ≠ g1) : ((((w'.setCell ⟨g1, 0, none⟩ a).setCell ⟨g1, 1, none⟩ b).setCell ⟨g1, 2, none⟩ c).setCell ⟨g1, 3, none⟩ d).drew.cell? ⟨g, i, none⟩ = some u := (drew_cell _ _).trans (cs4 h hg)
theorem compS_go {p : Po} {g : Gt} {r : List Gt} (h : (applyP p g).2 = true) : compS p (g :: r) = compS (applyP p g).1 r := by rw [compS, if_pos h]
theorem compS_no {p : Po} {g : Gt} {r : List Gt} (h : (applyP p g).2 = false) : compS p (g :: r) = (Po.zero, false) := by rw [compS, if_neg (by rw [h]; simp)]
theorem compS_L : ∀ (gs : List Gt) (p : Po), 0 < p.N → compS p gs = compL p gs
  | [], p, h => by rw [compS, compL, decide_eq_true (show p.N > 0 from h)]
  | g :: r, p, h => by
    cases h1 : (applyP p g).2
    · rw [compS_no h1, compL_no h1]
    · rw [compS_go h1, compL_go h1]
      exact compS_L r _ (by rw [(applyP_bd p g).2.2 h1]; exact h)
theorem compS_P (gs : List Gt) (N : Int) : compS (idP N) gs = compP gs N := by
  unfold compP
  cases hin : inB N 1 4
  · rw [if_neg (by simp)]
    have e : idP N = Po.zero := by unfold idP; rw [hin]; rfl
    rw [e]
    cases gs with
    | nil => rfl
    | cons g r =>
      rw [compS_no]
      have : okP Po.zero g = false := by
        unfold okP okG
        rw [show inB Po.zero.N 1 4 = false from rfl]
        rfl
      rw [applyP_no this]
  · rw [if_pos (by rfl)]
    have e : idP N = ⟨N, 0, [], idO N.toNat⟩ := by unfold idP; rw [hin]; rfl
    exact compS_L gs _ (by rw [e]; have := (inB_iff.1 hin).1; show 0 < N; omega)

set_option maxRecDepth 100000 in
set_option maxHeartbeats 3200000 in
theorem s_CompP (A : Option Addr) (n cap : Nat) (gs : List Gt) (N : Int) (w : World) (h : RdG w A n gs) (hn : n ≤ 68719476736) :
    Calls Try.prog 21 #[.slice A n cap, .int .i64 N] w (RetPB (compP gs N) w) := by
  have H := Lib.hid h
  have HL := Lib.hid h.1
  clear h
  have X0 := Lib.hid (Bx.new w 32 #[.int .i64 0, .int .i64 0, .slice none 0 0, .slice none 0 0])
  have BZ : Hid (Below w.heap.size w (w.alloc (.cells #[.int .i64 0, .int .i64 0, .slice none 0 0, .slice none 0 0] 32))) := Lib.hid ((Below.refl _ _).alloc (Nat.le_refl _) _)
  obtain ⟨R, hR⟩ : ∃ R, compP gs N = R := ⟨_, rfl⟩
  have HR := Lib.hid hR
  rw [hR]
  clear hR
  have HC : Hid (compS (idP N) gs = R) := Lib.hid (by rw [← HR.out]; exact compS_P gs N)
  have hid0 : (idP N).t.length = 0 ∧ (idP N).o.length ≤ 4 := by
    unfold idP
    split
    · exact ⟨rfl, by rw [idO_len]; have := inB_iff.1 ‹_›; omega⟩
    · exact ⟨rfl, by simp [Po.zero]⟩
  have HID := Lib.hid hid0
  clear hid0 HR
  go_enter Try.func21, Try.ntmps21
  go_wp2_with fail
  refine (s_IdP _ _).mono ?_
  rintro e w1 ⟨v, rfl, ⟨A1, c1, B1, d1, rfl, t1, o1⟩, b1⟩
  have X1 := Lib.hid ((X0.out.below b1).alloc (.cells #[.int .i64 (idP N).N, .int .i64 (idP N).H, .slice A1 (idP N).t.length c1, .slice B1 (idP N).o.length d1] 32))
  have XP := Lib.hid (Bx.new w1 32 #[.int .i64 (idP N).N, .int .i64 (idP N).H, .slice A1 (idP N).t.length c1, .slice B1 (idP N).o.length d1])
  have T1 := Lib.hid (ownsRow_base (t1.alloc (.cells #[.int .i64 (idP N).N, .int .i64 (idP N).H, .slice A1 (idP N).t.length c1, .slice B1 (idP N).o.length d1] 32)) (show w.heap.size + 1 ≤ _ by simp))
  have O1 := Lib.hid (ownsRow_base (o1.alloc (.cells #[.int .i64 (idP N).N, .int .i64 (idP N).H, .slice A1 (idP N).t.length c1, .slice B1 (idP N).o.length d1] 32)) (show w.heap.size + 1 ≤ _ by simp))
  have BB := Lib.hid ((below_trans BZ.out b1).alloc (below_trans BZ.out b1).size (.cells #[.int .i64 (idP N).N, .int .i64 (idP N).H, .slice A1 (idP N).t.length c1, .slice B1 (idP N).o.length d1] 32))
  have hs1 : w.heap.size < w1.heap.size := (X0.out.below b1).lt
  clear t1 o1 b1 X0 BZ
  generalize idP N = p0 at HC HID X1 XP T1 O1 BB ⊢
  go_wp2_with fail
  generalize hgp : w1.heap.size = gp at XP hs1 ⊢
  go_loopg [7] n (fun r i wr => ∃ (k : Nat) (p : Po) (A2 : Option Addr) (c2 : Nat) (B2 : Option Addr) (d2 : Nat), k + r = n ∧ i = .int .i64 k ∧ compS p (gs.drop k) = R ∧ p.t.length ≤ k ∧ p.o.length ≤ 4 ∧ Bx wr w.heap.size 32 #[.int .i64 0, .int .i64 0, .slice none 0 0, .slice none 0 0] ∧ Bx wr gp 32 #[.int .i64 p.N, .int .i64 p.H, .slice A2 p.t.length c2, .slice B2 p.o.length d2] ∧ wr.ownsRow (w.heap.size + 1) 107 2 (.slice A2 p.t.length c2) p.t.length (cellsP p.t) ∧ wr.ownsRow (w.heap.size + 1) 109 2 (.slice B2 p.o.length d2) p.o.length (cellsP p.o) ∧ Below w.heap.size w wr)
  case atStart => exact ⟨0, p0, A1, c1, B1, d1, by omega, rfl, HC.out, by have := HID.out.1; omega, HID.out.2, X1.out, XP.out, T1.out, O1.out, BB.out⟩
  case round =>
    clear X1 XP T1 O1 BB HC HID
    obtain ⟨k, p, A2, c2, B2, d2, hk, rfl, hq, htl, hol, hx0, hxp, ht, ho, hbw⟩ := hrel
    have HQ := Lib.hid hq
    have HX0 := Lib.hid hx0
    have HXP := Lib.hid hxp
    have HT := Lib.hid ht
    have HO := Lib.hid ho
    have HB := Lib.hid hbw
    have hbs := hbw.size
    have hcap := ownsRow_cap ht
    have hl0 := hx0.lt
    have hlp := hxp.lt
    clear hq hx0 hxp ht ho hbw
    obtain ⟨p0', p1, p2, p3, f0, f1, f2, f3⟩ := HXP.out.four
    by_cases hlt : k < n
    · obtain ⟨bb, off, g, rfl, hBb, hd, c0, c1', c2', c3⟩ := (H.out.below HB.out).at_ hlt
      have HD := Lib.hid hd
      have hkI : (k : Int) < (n : Int) := by omega
      have hk0 : (0 : Int) ≤ (k : Int) := by omega
      clear hd
      have GB := Lib.hid (Bx.new wr 55 #[.int .i64 g.k, .int .i64 g.a, .int .i64 g.b, .int .i64 g.c])
      have hcap' := hcap
      have hng : gp ≠ wr.heap.size := by omega
      have hnb : bb ≠ wr.heap.size := by omega
      go_wp2_with fail
      go_region_held3 (fun w' => w'.cell? ⟨gp, 0, none⟩ = some (.int .i64 p.N) ∧ w'.cell? ⟨gp, 1, none⟩ = some (.int .i64 p.H) ∧ w'.cell? ⟨gp, 2, none⟩ = some (.slice A2 p.t.length c2) ∧ w'.cell? ⟨gp, 3, none⟩ = some (.slice B2 p.o.length d2) ∧ w'.cell? ⟨bb, off + k * 4, none⟩ = some (.int .i64 g.k) ∧ w'.cell? ⟨bb, off + k * 4 + 1, none⟩ = some (.int .i64 g.a) ∧ w'.cell? ⟨bb, off + k * 4 + 2, none⟩ = some (.int .i64 g.b) ∧ w'.cell? ⟨bb, off + k * 4 + 3, none⟩ = some (.int .i64 g.c))
        (first | with_reducible exact ⟨s0, s1, s2, s3, y0, y1, y2, y3⟩ | with_reducible exact ⟨cs4 s0 hng, cs4 s1 hng, cs4 s2 hng, cs4 s3 hng, cs4 y0 hnb, cs4 y1 hnb, cs4 y2 hnb, cs4 y3 hnb⟩ | go_keep)
        (first
          | (go_at_call 70; (with_reducible refine (s_ApplyP p.N p.H A2 p.t.length c2 p.t B2 p.o.length d2 p.o g _ (RdP.drew (RdP.own HT.out)) (RdP.drew (RdP.own HO.out)) (by omega) (by omega) hcap').mono ?_); rintro e w5 ⟨v, rfl, ⟨A5, c5, B5, d5, rfl, t5, o5⟩, b5'⟩; have b5 := below_drew b5'; have ⟨s0, s1, s2, s3, _, _, _, _⟩ := (HXP.out.below b5).four; have y0 := (b5.cell (p := ⟨bb, off + k * 4, none⟩) hBb).trans c0; have y1 := (b5.cell (p := ⟨bb, off + k * 4 + 1, none⟩) hBb).trans c1'; have y2 := (b5.cell (p := ⟨bb, off + k * 4 + 2, none⟩) hBb).trans c2'; have y3 := (b5.cell (p := ⟨bb, off + k * 4 + 3, none⟩) hBb).trans c3; have ny0 := World.block_lt_of_cell? _ _ y0; have ns0 := World.block_lt_of_cell? _ _ s0)
          | (go_at_call 70; (with_reducible refine (s_ApplyP p.N p.H A2 p.t.length c2 p.t B2 p.o.length d2 p.o g _ (RdP.drew (RdP.own (HT.out.alloc _))) (RdP.drew (RdP.own (HO.out.alloc _))) (by omega) (by omega) hcap').mono ?_); rintro e w5 ⟨v, rfl, ⟨A5, c5, B5, d5, rfl, t5, o5⟩, b5'⟩; have b5 := below_alloc (below_drew b5'); have ⟨s0, s1, s2, s3, _, _, _, _⟩ := (HXP.out.below b5).four; have y0 := (b5.cell (p := ⟨bb, off + k * 4, none⟩) hBb).trans c0; have y1 := (b5.cell (p := ⟨bb, off + k * 4 + 1, none⟩) hBb).trans c1'; have y2 := (b5.cell (p := ⟨bb, off + k * 4 + 2, none⟩) hBb).trans c2'; have y3 := (b5.cell (p := ⟨bb, off + k * 4 + 3, none⟩) hBb).trans c3; have ny0 := World.block_lt_of_cell? _ _ y0; have ns0 := World.block_lt_of_cell? _ _ s0; have XB := (show Bx w5 wr.heap.size 32 #[.int .i64 0, .int .i64 0, .slice none 0 0, .slice none 0 0] from (Bx.new wr _ _).below (below_drew b5')); have ⟨v0, v1, v2, v3, z0, z1, z2, z3⟩ := XB.four)
          | fail)
      all_goals
        have hbd := applyP_bd p g
        obtain ⟨q, hq⟩ : ∃ q, applyP p g = q := ⟨_, rfl⟩
        rw [show applyP ⟨p.N, p.H, p.t, p.o⟩ g = q from hq] at t5 o5 ⊢
        rw [hq] at hbd
        have hb1 := hbd.1
        have hb2 := hbd.2.1
        clear hbd
        have HQQ := Lib.hid hq
        have X5 := Lib.hid (HX0.out.below b5)
        have XP5 := Lib.hid (HXP.out.below b5)
        have B5w := Lib.hid (below_trans HB.out b5)
        have hl05 := X5.out.lt
        have hlp5 := XP5.out.lt
        clear s0 s1 s2 s3 y0 y1 y2 y3
        obtain ⟨r0, r1, r2, r3, e0, e1, e2, e3⟩ := X5.out.four
        obtain ⟨s0, s1, s2, s3, g0, g1, g2, g3⟩ := XP5.out.four
        have T5 := Lib.hid (ownsRow_base t5 (show w.heap.size + 1 ≤ _ by first | (show w.heap.size + 1 ≤ wr.heap.size; omega) | (simp; omega)))
        have O5 := Lib.hid (ownsRow_base o5 (show w.heap.size + 1 ≤ _ by first | (show w.heap.size + 1 ≤ wr.heap.size; omega) | (simp; omega)))
        have hcap5 := ownsRow_cap t5
        clear t5 o5 b5 b5' hq p0' p1 p2 p3 f0 f1 f2 f3
        obtain ⟨⟨qN, qH, qt, qo⟩, qb⟩ := q
        dsimp only at *
      · cases qb
        · have HZ : Hid (R = (Po.zero, false)) := Lib.hid (by rw [← HQ.out, HD.out, compS_no (by rw [HQQ.out])])
          go_wp2_with fail
          refine bodyPost_ret (v := .tuple #[.agg #[.int .i64 0, .int .i64 0, .slice none 0 0, .slice none 0 0], .bool false]) (by simp [results, Try.results21, go_sem, r0, r1, r2, r3, hl05]) rfl ⟨_, by rw [HZ.out], by rw [HZ.out]; exact ⟨none, 0, none, 0, rfl, World.ownsRow_nil _ _ _ _, World.ownsRow_nil _ _ _ _⟩, ?_⟩
          exact below_al (below_set4 B5w.out (Nat.le_refl _))
        · go_wp2_with fail
          go_roundg (gk - 1)
          case measure => omega
          case rel =>
            exact ⟨k + 1, ⟨qN, qH, qt, qo⟩, A5, c5, B5, d5, by omega, by go_num, by rw [← HQ.out, HD.out, compS_go (by rw [HQQ.out]), HQQ.out], by show qt.length ≤ k + 1; omega, by show qo.length ≤ 4; omega, (set4K X5.out (by omega)).alloc _, ((((XP5.out.s0 _).s1 _).s2 _).s3 _).alloc _, (own_set_ne4 T5.out (own_bx_ne T5.out XP5.out (by decide))).alloc _, (own_set_ne4 O5.out (own_bx_ne O5.out XP5.out (by decide))).alloc _, below_al (below_set4 B5w.out (by omega))⟩
      · have hn1 : w.heap.size ≠ wr.heap.size := by omega
        have hn2 : wr.heap.size ≠ gp := by omega
        have hn3 : wr.heap.size ≠ w.heap.size := by omega
        have HXB := Lib.hid XB
        cases qb
        · have HZ : Hid (R = (Po.zero, false)) := Lib.hid (by rw [← HQ.out, HD.out, compS_no (by rw [HQQ.out])])
          go_wp2_with fail
          refine bodyPost_ret (v := .tuple #[.agg #[.int .i64 0, .int .i64 0, .slice none 0 0, .slice none 0 0], .bool false]) (by simp [results, Try.results21, go_sem, r0, r1, r2, r3]) rfl ⟨_, by rw [HZ.out], by rw [HZ.out]; exact ⟨none, 0, none, 0, rfl, World.ownsRow_nil _ _ _ _, World.ownsRow_nil _ _ _ _⟩, ?_⟩
          exact below_set4 (below_set4 B5w.out (by omega)) (Nat.le_refl _)
        · go_wp2_with fail
          go_roundg (gk - 1)
          case measure => omega
          case rel =>
            exact ⟨k + 1, ⟨qN, qH, qt, qo⟩, A5, c5, B5, d5, by omega, by go_num, by rw [← HQ.out, HD.out, compS_go (by rw [HQQ.out]), HQQ.out], by show qt.length ≤ k + 1; omega, by show qo.length ≤ 4; omega, set4K (set4K X5.out hn1) (by omega), (((((set4K XP5.out hng).s0 _).s1 _).s2 _).s3 _), own_set_ne4 (own_set_ne4 T5.out (own_bx_ne T5.out HXB.out (by decide))) (own_bx_ne T5.out XP5.out (by decide)), own_set_ne4 (own_set_ne4 O5.out (own_bx_ne O5.out HXB.out (by decide))) (own_bx_ne O5.out XP5.out (by decide)), below_set4 (below_set4 B5w.out (by omega)) (by omega)⟩
    · have hkn : k = n := by omega
      have HZ : Hid (R = (p, decide (p.N > 0))) := Lib.hid (by rw [← HQ.out, List.drop_eq_nil_of_le (by have := HL.out; omega)]; rfl)
      obtain ⟨r0, r1, r2, r3, e0, e1, e2, e3⟩ := HX0.out.four
      have hgn : gp ≠ w.heap.size := by omega
      by_cases hN : 0 < p.N
      · have hNd : decide (p.N > 0) = true := by simpa using hN
        have HND := Lib.hid hNd
        go_wp2_with fail
        go_region_held3 (fun w' => w'.cell? ⟨gp, 0, none⟩ = some (.int .i64 p.N) ∧ w'.cell? ⟨gp, 1, none⟩ = some (.int .i64 p.H) ∧ w'.cell? ⟨gp, 2, none⟩ = some (.slice A2 p.t.length c2) ∧ w'.cell? ⟨gp, 3, none⟩ = some (.slice B2 p.o.length d2))
          (first | with_reducible exact ⟨p0', p1, p2, p3⟩ | with_reducible exact ⟨cs4d p0' hgn, cs4d p1 hgn, cs4d p2 hgn, cs4d p3 hgn⟩ | go_keep)
          (fail)
        go_wp2_with fail
        refine bodyPost_ret (v := .tuple #[.agg #[.int .i64 p.N, .int .i64 p.H, .slice A2 p.t.length c2, .slice B2 p.o.length d2], .bool true]) (by simp [results, Try.results21, go_sem, r0, r1, r2, r3]) rfl ⟨_, by rw [HZ.out, HND.out], by rw [HZ.out]; exact ⟨A2, c2, B2, d2, rfl, ownsRow_base (ownsRow_drew (own_set4 HT.out (by omega))) (by omega), ownsRow_base (ownsRow_drew (own_set4 HO.out (by omega))) (by omega)⟩, ?_⟩
        exact Below.drew (below_set4 HB.out (Nat.le_refl _))
      · have hNd : decide (p.N > 0) = false := by simpa using hN
        have HND := Lib.hid hNd
        go_wp2_with fail
        go_region_held3 (fun w' => w'.cell? ⟨gp, 0, none⟩ = some (.int .i64 p.N) ∧ w'.cell? ⟨gp, 1, none⟩ = some (.int .i64 p.H) ∧ w'.cell? ⟨gp, 2, none⟩ = some (.slice A2 p.t.length c2) ∧ w'.cell? ⟨gp, 3, none⟩ = some (.slice B2 p.o.length d2))
          (first | with_reducible exact ⟨p0', p1, p2, p3⟩ | with_reducible exact ⟨cs4d p0' hgn, cs4d p1 hgn, cs4d p2 hgn, cs4d p3 hgn⟩ | go_keep)
          (fail)
        go_wp2_with fail
        refine bodyPost_ret (v := .tuple #[.agg #[.int .i64 p.N, .int .i64 p.H, .slice A2 p.t.length c2, .slice B2 p.o.length d2], .bool false]) (by simp [results, Try.results21, go_sem, r0, r1, r2, r3]) rfl ⟨_, by rw [HZ.out, HND.out], by rw [HZ.out]; exact ⟨A2, c2, B2, d2, rfl, ownsRow_base (ownsRow_drew (own_set4 HT.out (by omega))) (by omega), ownsRow_base (ownsRow_drew (own_set4 HO.out (by omega))) (by omega)⟩, ?_⟩
        exact Below.drew (below_set4 HB.out (Nat.le_refl _))
end Go.Proofs.Ytibhikngiceeeaa
namespace Go.Proofs.Ytibhikngiceeeaa
open Go.RowKit
set_option linter.unusedVariables false

def phL (k : Int) : Bool := k == 1 || (k == 9 || (k == 11 || (units k != 0)))
def okPh (n : Nat) (g : Gt) : Bool := okG g.k g.a g.b g.c n && phL g.k
theorem actP_ph {p : Po} {g : Gt} (h : phL g.k = true) : (actP p g).2 = true ∧ (actP p g).1.N = p.N ∧ (actP p g).1.o.length = p.o.length := by
  unfold actP
  unfold phL at h
  by_cases h1 : (g.k == 1) = true
  · rw [if_pos h1]; simp
  · rw [if_neg h1]
    by_cases h2 : (g.k == 9) = true
    · rw [if_pos h2]; simp
    · rw [if_neg h2]
      by_cases h3 : (g.k == 11) = true
      · rw [if_pos h3]; simp
      · rw [if_neg h3]
        by_cases h4 : (units g.k == 0) = true
        · simp [h1, h2, h3] at h
          simp at h4
          exact absurd h4 h
        · rw [if_neg h4]
          by_cases h5 : ((at2 p.o g.a).2 == 0) = true
          · rw [if_pos h5]; simp
          · rw [if_neg h5]; simp
theorem applyP_ph {p : Po} {g : Gt} {n : Nat} (h : okPh n g = true) (hN : p.N = n) (ho : p.o.length = n) : (applyP p g).2 = true ∧ (applyP p g).1.N = n ∧ (applyP p g).1.o.length = n := by
  unfold okPh at h
  rw [Bool.and_eq_true] at h
  have hk : okP p g = true := by unfold okP; rw [hN, h.1]; simp; omega
  rw [applyP_yes hk]
  have := actP_ph (p := p) h.2
  exact ⟨this.1, by rw [this.2.1, hN], by rw [this.2.2, ho]⟩
theorem compL_ph {n : Nat} : ∀ (gs : List Gt) (p : Po), (∀ g ∈ gs, okPh n g = true) → p.N = n → p.o.length = n → (compL p gs).2 = true ∧ (compL p gs).1.N = n ∧ (compL p gs).1.o.length = n
  | [], p, _, hN, ho => ⟨rfl, hN, ho⟩
  | g :: r, p, h, hN, ho => by
    obtain ⟨h1, h2, h3⟩ := applyP_ph (h g (by simp)) hN ho
    rw [compL_go h1]
    exact compL_ph r _ (fun x hx => h x (by simp [hx])) h2 h3
theorem compP_ph {n : Nat} {gs : List Gt} (h1 : 1 ≤ n) (h4 : n ≤ 4) (h : ∀ g ∈ gs, okPh n g = true) : (compP gs n).2 = true ∧ (compP gs n).1.N = n ∧ (compP gs n).1.o.length = n := by
  have hin : inB (n : Int) 1 4 = true := inB_t (by omega) (by omega)
  unfold compP
  rw [if_pos hin]
  have e : idP (n : Int) = ⟨n, 0, [], idO n⟩ := by unfold idP; rw [if_pos hin]; rfl
  refine compL_ph gs _ h ?_ ?_
  · rw [e]
  · rw [e]; exact idO_len n
theorem ph_pick {y : Int} (h : y ∈ [(1 : Int), 3, 5, 6, 7, 8, 7, 9, 9, 9, 11]) : phL y = true ∧ 1 ≤ arity y := by
  have h2 : y = 1 ∨ y = 3 ∨ y = 5 ∨ y = 6 ∨ y = 7 ∨ y = 8 ∨ y = 9 ∨ y = 11 := by simp at h; omega
  rcases h2 with h | h | h | h | h | h | h | h <;> subst h <;> exact ⟨by decide, by decide⟩

set_option maxRecDepth 100000 in
set_option maxHeartbeats 3200000 in
theorem s_l32Gate (g n : Nat) (w : World) (h : Cur w g) (h1 : 1 ≤ n) (h4 : n ≤ 4) :
    Calls Try.prog 111 #[.pointer (some ⟨g, 0, none⟩), .int .i64 n] w (DrawnG (fun x => okPh n x = true) g w) := by
  have hg := h.lt
  obtain ⟨W1, hW1⟩ : ∃ W1, W1 = (w.alloc (.cells #[.int .i64 0, .int .i64 0, .int .i64 0, .int .i64 0] 55)).alloc (.cells #[.int .i64 1, .int .i64 3, .int .i64 5, .int .i64 6, .int .i64 7, .int .i64 8, .int .i64 7, .int .i64 9, .int .i64 9, .int .i64 9, .int .i64 11] 3) := ⟨_, rfl⟩
  have C1 := Lib.hid (show Cur W1 g from hW1 ▸ cur_alloc (cur_alloc h _) _)
  have X1 := Lib.hid (show Bx W1 w.heap.size 55 #[.int .i64 0, .int .i64 0, .int .i64 0, .int .i64 0] from hW1 ▸ (Bx.new w _ _).alloc _)
  have G1 := Lib.hid (show w.grownBy W1 (some g) from hW1 ▸ dr_alloc (dr_alloc (dr_refl w g) _) _)
  have OL := Lib.hid (show W1.ownsRow (g + 1) 3 1 (.slice (some ⟨w.heap.size + 1, 0, none⟩) 11 11) 11 (cellsI [1, 3, 5, 6, 7, 8, 7, 9, 9, 9, 11]) from by
    have : ((w.alloc (.cells #[.int .i64 0, .int .i64 0, .int .i64 0, .int .i64 0] 55)).alloc (.cells #[.int .i64 1, .int .i64 3, .int .i64 5, .int .i64 6, .int .i64 7, .int .i64 8, .int .i64 7, .int .i64 9, .int .i64 9, .int .i64 9, .int .i64 11] 3)).ownsRow (g + 1) 3 1 (.slice (some ⟨(w.alloc (.cells #[.int .i64 0, .int .i64 0, .int .i64 0, .int .i64 0] 55)).heap.size, 0, none⟩) 11 11) 11 (cellsI [1, 3, 5, 6, 7, 8, 7, 9, 9, 9, 11]) := World.ownsRow_lit (w.alloc (.cells #[.int .i64 0, .int .i64 0, .int .i64 0, .int .i64 0] 55)) #[.int .i64 1, .int .i64 3, .int .i64 5, .int .i64 6, .int .i64 7, .int .i64 8, .int .i64 7, .int .i64 9, .int .i64 9, .int .i64 9, .int .i64 11] 11 (by simp; omega) (by simp [maxLen]) rfl
    rw [World.size_alloc] at this
    rw [hW1]; exact this)
  have HW := Lib.hid hW1
  clear h hW1
  go_enter Try.func111, Try.ntmps111
  go_wp2_with fail
  rw [← HW.out]
  refine (s_l1PickInt g _ 11 11 [1, 3, 5, 6, 7, 8, 7, 9, 9, 9, 11] _ C1.out OL.out (by omega) (by omega)).mono ?_
  rintro e w5 ⟨y, rfl, hy, hc5, g5⟩
  obtain ⟨hp, hk1⟩ := ph_pick hy
  have HP := Lib.hid hp
  have C5 := Lib.hid hc5
  have X5 := Lib.hid (dr_bx g5 X1.out (show w.heap.size ≠ g by omega))
  have G5 := Lib.hid (dr_trans G1.out g5)
  clear hy hc5 g5 hp X1 C1 G1 OL HW
  obtain ⟨ar, har⟩ : ∃ a, arity y = a := ⟨_, rfl⟩
  rw [har] at hk1
  have HAR := Lib.hid har
  have HA7 := Lib.hid (show arity 7 = 1 by decide)
  have HP7 := Lib.hid (show phL 7 = true by decide)
  clear har
  by_cases ht : (n : Int) < ar
  · go_wp2_with fail
    refine (s_Arity _ _).mono ?_
    rintro e w' ⟨rfl, rfl⟩
    rw [HAR.out]
    go_wp2_with fail
    refine (s_l9On g n 7 _ C5.out h1 h4 (by rw [HA7.out]; omega) (by rw [HA7.out]; omega)).mono ?_
    rintro e w9 ⟨k, a, b, c, rfl, ⟨hk', hok⟩, hc9, g9⟩
    have HOK := Lib.hid (show okPh n ⟨k, a, b, c⟩ = true from by have hk'' : k = 7 := hk'; unfold okPh; rw [hok, hk'', HP7.out]; rfl)
    have C9 := Lib.hid hc9
    have X9 := Lib.hid (dr_bx g9 X5.out (show w.heap.size ≠ g by omega))
    have G9 := Lib.hid (dr_trans G5.out g9)
    obtain ⟨q0, q1, q2, q3, f0, f1, f2, f3⟩ := X9.out.four
    have l9 := X9.out.lt
    clear hk' hok hc9 g9 ht hk1
    go_wp2_with fail
    exact bodyPost_ret (v := .agg #[.int .i64 k, .int .i64 a, .int .i64 b, .int .i64 c]) (by simp [results, Try.results111, go_sem, q0, q1, q2, q3]) rfl ⟨k, a, b, c, rfl, HOK.out, cur4 C9.out hg, dr4 G9.out (Nat.le_refl _)⟩
  · go_wp2_with fail
    refine (s_Arity _ _).mono ?_
    rintro e w' ⟨rfl, rfl⟩
    rw [HAR.out]
    go_wp2_with fail
    refine (s_l9On g n y _ C5.out h1 h4 (by rw [HAR.out]; omega) (by rw [HAR.out]; omega)).mono ?_
    rintro e w9 ⟨k, a, b, c, rfl, ⟨hk', hok⟩, hc9, g9⟩
    have HOK := Lib.hid (show okPh n ⟨k, a, b, c⟩ = true from by have hk'' : k = y := hk'; unfold okPh; rw [hok, hk'', HP.out]; rfl)
    have C9 := Lib.hid hc9
    have X9 := Lib.hid (dr_bx g9 X5.out (show w.heap.size ≠ g by omega))
    have G9 := Lib.hid (dr_trans G5.out g9)
    obtain ⟨q0, q1, q2, q3, f0, f1, f2, f3⟩ := X9.out.four
    have l9 := X9.out.lt
    clear hk' hok hc9 g9 ht hk1
    go_wp2_with fail
    exact bodyPost_ret (v := .agg #[.int .i64 k, .int .i64 a, .int .i64 b, .int .i64 c]) (by simp [results, Try.results111, go_sem, q0, q1, q2, q3]) rfl ⟨k, a, b, c, rfl, HOK.out, cur4 C9.out hg, dr4 G9.out (Nat.le_refl _)⟩

def DrawnL (P : Gt → Prop) (B : Nat) (g : Nat) (w : World) (e : Ending) (w' : World) : Prop :=
  ∃ (A : Option Addr) (n c : Nat) (gs : List Gt), e = .returned (.slice A n c) ∧ gs.length = n ∧ n ≤ B ∧ (∀ x ∈ gs, P x) ∧ w'.ownsRow w.heap.size 55 4 (.slice A n c) n (cellsG gs) ∧ Cur w' g ∧ w.grownBy w' (some g)
set_option maxRecDepth 100000 in
set_option maxHeartbeats 1600000 in
theorem s_l32Gates (g n most : Nat) (w : World) (h : Cur w g) (h1 : 1 ≤ n) (h4 : n ≤ 4) (hm : most ≤ 60) :
    Calls Try.prog 63 #[.pointer (some ⟨g, 0, none⟩), .int .i64 n, .int .i64 most] w (DrawnL (fun x => okPh n x = true) most g w) := by
  have hg := h.lt
  have hz4 : (Value.agg #[.int .i64 0, .int .i64 0, .int .i64 0, .int .i64 0]).cells.size = 4 := rfl
  have C1 := Lib.hid (cur_alloc h (.cells #[] 55))
  have G1 := Lib.hid (dr_alloc (dr_refl w g) (.cells #[] 55))
  have O1 := Lib.hid (show (w.alloc (.cells #[] 55)).ownsRow w.heap.size 55 4 (.slice (some ⟨w.heap.size, 0, none⟩) 0 0) 0 (cellsG []) from own0_bx (Nat.le_refl _) (Bx.new w _ _))
  clear h
  go_enter Try.func63, Try.ntmps63
  go_wp2_with fail
  refine (s_l1Below g _ _ C1.out (by omega)).mono ?_
  rintro e w2 ⟨y, rfl, ⟨hy, _⟩, hc, gg⟩
  obtain ⟨hy0, hy1⟩ := hy (by omega)
  obtain ⟨m, rfl⟩ : ∃ m : Nat, y = m := ⟨y.toNat, by omega⟩
  have O2 := Lib.hid (dr_own gg C1.out O1.out (by decide))
  have C2 := Lib.hid hc
  have G2 := Lib.hid (dr_trans G1.out gg)
  clear hy hc gg C1 G1 O1
  go_wp2_with fail
  go_loopg [7, 9] m (fun r s i wr => ∃ (k : Nat) (A : Option Addr) (c : Nat) (gs : List Gt), k + r = m ∧ i = .int .i64 k ∧ s = .slice A k c ∧ gs.length = k ∧ (∀ x ∈ gs, okPh n x = true) ∧ wr.ownsRow w.heap.size 55 4 (.slice A k c) k (cellsG gs) ∧ Cur wr g ∧ w.grownBy wr (some g))
  case atStart => exact ⟨0, _, 0, [], by omega, rfl, rfl, rfl, by simp, O2.out, C2.out, G2.out⟩
  case round =>
    clear C2 O2 G2
    obtain ⟨k, A, c, gs, hk, rfl, rfl, hl, hP, ho, hc, hgr⟩ := hrel
    have HL := Lib.hid hl
    have HP := Lib.hid hP
    have HO := Lib.hid ho
    have HC := Lib.hid hc
    have HG := Lib.hid hgr
    clear hl hP ho hc hgr
    by_cases hlt : k < m
    · go_wp2_with fail
      refine (s_l32Gate g n _ HC.out h1 h4).mono ?_
      rintro e w5 ⟨k5, a5, b5, c5, rfl, hok5, hc5, g5⟩
      have OK5 := Lib.hid hok5
      have O5 := Lib.hid ((dr_own g5 HC.out HO.out (by decide)).alloc (.cells #[.int .i64 k5, .int .i64 a5, .int .i64 b5, .int .i64 c5] 55))
      have C5 := Lib.hid (cur_alloc hc5 (.cells #[.int .i64 k5, .int .i64 a5, .int .i64 b5, .int .i64 c5] 55))
      have G5 := Lib.hid (dr_alloc (dr_trans HG.out g5) (.cells #[.int .i64 k5, .int .i64 a5, .int .i64 b5, .int .i64 c5] 55))
      have hs5 := (dr_trans HG.out g5).size
      clear hok5 hc5 g5
      go_wp2_with (at_builtin; refine wpList_app rfl (.tmp 20) (.tmp 24) 41 rfl Try.underlying41 infoGate hz4 (by decide) rfl O5.out rfl (Rd.lit w5 55 #[.int .i64 k5, .int .i64 a5, .int .i64 b5, .int .i64 c5] 1 4 rfl) (by simp [Value.oneCell']) (by omega) (by decide) (by simp <;> omega) ?_; intro A7 c7 w7 o7 g7; have C7 := Lib.hid (C5.out.row g7 (fun q hq => (by have := (O5.out.lt q hq).1; omega))); have G7 := Lib.hid (dr_row G5.out g7 (fun q hq => (O5.out.lt q hq).1)); have O7 := Lib.hid o7; clear o7 g7)
      go_roundg (gk - 1)
      case measure => omega
      case rel =>
        refine ⟨k + 1, A7, c7, gs ++ [⟨k5, a5, b5, c5⟩], by omega, by go_num, rfl, by simp [HL.out], ?_, by rw [cellsG_append]; exact O7.out, C7.out, G7.out⟩
        intro x hx
        rcases List.mem_append.1 hx with hx | hx
        · exact HP.out x hx
        · rw [List.mem_singleton] at hx; rw [hx]; exact OK5.out
    · obtain rfl : k = m := by omega
      go_wp2_with fail
      go_ret
      exact ⟨A, k, c, gs, rfl, HL.out, by omega, HP.out, HO.out, HC.out, HG.out⟩
def DrawnP (Q : Int → List (Int × Int) → Prop) (g : Nat) (w : World) (e : Ending) (w' : World) : Prop :=
  ∃ (N H : Int) (A : Option Addr) (nT c : Nat) (t : List (Int × Int)) (B : Option Addr) (nO d : Nat) (o : List (Int × Int)), e = .returned (.agg #[.int .i64 N, .int .i64 H, .slice A nT c, .slice B nO d]) ∧ nT ≤ 12 ∧ nO ≤ 4 ∧ Q N o ∧
    w'.ownsRow w.heap.size 107 2 (.slice A nT c) nT (cellsP t) ∧ w'.ownsRow w.heap.size 109 2 (.slice B nO d) nO (cellsP o) ∧ Cur w' g ∧ w.grownBy w' (some g)
end Go.Proofs.Ytibhikngiceeeaa
namespace Go.Proofs.Ytibhikngiceeeaa
open Go.RowKit
set_option linter.unusedVariables false

def RetDCP (w : World) (e : Ending) (w' : World) : Prop := ∃ (A : Option Addr) (n c : Nat) (gs : List Gt) (N : Int), e = .returned (.tuple #[.slice A n c, .int .i64 N]) ∧ gs.length = n ∧ n ≤ 13 ∧ w'.ownsRow w.heap.size 55 4 (.slice A n c) n (cellsG gs) ∧ Below w.heap.size w w'
set_option maxRecDepth 100000 in
set_option maxHeartbeats 3200000 in
theorem s_DrawComp (A : Option Addr) (n cap : Nat) (zs : List Int) (w : World) (h : RdB w A n zs) (hz : ∀ z ∈ zs, 0 ≤ z ∧ z ≤ 255) (hn : n ≤ 1048576) :
    Calls Try.prog 18 #[.slice A n cap] w (RetDCP w) := by
  have hz4 : (Value.agg #[.int .i64 0, .int .i64 0, .int .i64 0, .int .i64 0]).cells.size = 4 := rfl
  have H := Lib.hid h
  have HZ := Lib.hid hz
  clear h hz
  go_enter Try.func18, Try.ntmps18
  go_wp2_with fail
  refine (s_l1New _ _ _ _ _ H.out HZ.out hn).mono ?_
  rintro e w1 ⟨g, rfl, hc1, hg, b1⟩
  have B1 := Lib.hid b1
  have hs1 := b1.size
  have hgl := hc1.lt
  clear b1
  go_wp2_with fail
  refine (s_l1Below g 4 _ hc1 (by omega)).mono ?_
  rintro e w2 ⟨y, rfl, ⟨hy, _⟩, hc2, g2⟩
  obtain ⟨hy0, hy1⟩ := hy (by omega)
  obtain ⟨q, hq⟩ : ∃ q : Nat, 1 + y = q := ⟨(1 + y).toNat, by omega⟩
  have hq1 : 1 ≤ q := by omega
  have hq4 : q ≤ 4 := by omega
  clear hy
  go_wp2_with fail
  clear hq hy0 hy1
  refine (s_l32Gates g q 12 _ hc2 hq1 hq4 (by omega)).mono ?_
  rintro e w3 ⟨A3, n3, c3, gs, rfl, hl, hn3, _, o3, hc3, g3⟩
  have HL := Lib.hid hl
  have hs2 := g2.size
  have O3 := Lib.hid (ownsRow_base o3 (show w1.heap.size ≤ w2.heap.size from hs2))
  have G3 := Lib.hid (dr_trans g2 g3)
  clear hl o3 g2 g3 hc1 hc2
  go_wp2_with fail
  refine (s_l1Once g 8 _ hc3 (by omega)).mono ?_
  rintro e w4 ⟨b1, rfl, hc4, g4⟩
  have O4 := Lib.hid (dr_own g4 hc3 O3.out (by decide))
  have G4 := Lib.hid (dr_trans G3.out g4)
  clear O3 G3 g4 hc3
  cases b1
  · skip
    go_wp2_with fail
    refine (s_l1Once g 16 _ hc4 (by omega)).mono ?_
    rintro e w7 ⟨b2, rfl, hc7, g7⟩
    have O7 := Lib.hid (dr_own g7 hc4 O4.out (by decide))
    have G7 := Lib.hid (dr_trans G4.out g7)
    have hgs : g + 1 ≤ w7.heap.size := hc7.lt
    clear g7
    cases b2
    · go_wp2_with fail
      go_ret2
      exact ⟨A3, n3, c3, gs, (q : Int), rfl, by first | exact HL.out | simp [HL.out], by omega, ownsRow_base O7.out hs1, B1.out.trans (below_of_grown G7.out hs1 (fun k hk => (by injection hk with hk; omega)))⟩
    · have OL := Lib.hid (show (w7.alloc (.cells #[.int .i64 0, .int .i64 5] 3)).ownsRow (g + 1) 3 1 (.slice (some ⟨w7.heap.size, 0, none⟩) 2 2) 2 (cellsI [0, 5]) from World.ownsRow_lit w7 #[.int .i64 0, .int .i64 5] 2 hgs (by simp [maxLen]) rfl)
      have C8 := Lib.hid (cur_alloc hc7 (.cells #[.int .i64 0, .int .i64 5] 3))
      have O8 := Lib.hid (O7.out.alloc (.cells #[.int .i64 0, .int .i64 5] 3))
      have G8 := Lib.hid (dr_alloc G7.out (.cells #[.int .i64 0, .int .i64 5] 3))
      go_wp2_with fail
      refine (s_l1PickInt g _ 2 2 [0, 5] _ C8.out OL.out (by omega) (by omega)).mono ?_
      rintro e w9 ⟨x, rfl, _, hc9, g9⟩
      have O9 := Lib.hid (dr_own g9 C8.out O8.out (by decide))
      have G9 := Lib.hid (dr_trans G8.out g9)
      clear g9
      go_wp2_with fail
      go_ret2
      exact ⟨A3, n3, c3, gs, x, rfl, by first | exact HL.out | simp [HL.out], by omega, ownsRow_base O9.out hs1, B1.out.trans (below_of_grown G9.out hs1 (fun k hk => (by injection hk with hk; omega)))⟩
  · go_wp2_with fail
    refine (s_l9Bent g q _ hc4 hq1 hq4).mono ?_
    rintro e w5 ⟨k5, a5, b5, c5, rfl, _, hc5, g5⟩
    have O5 := Lib.hid ((dr_own g5 hc4 O4.out (by decide)).alloc (.cells #[.int .i64 k5, .int .i64 a5, .int .i64 b5, .int .i64 c5] 55))
    have C5 := Lib.hid (cur_alloc hc5 (.cells #[.int .i64 k5, .int .i64 a5, .int .i64 b5, .int .i64 c5] 55))
    have G5 := Lib.hid (dr_alloc (dr_trans G4.out g5) (.cells #[.int .i64 k5, .int .i64 a5, .int .i64 b5, .int .i64 c5] 55))
    have hs5 := (dr_trans G4.out g5).size
    clear g5
    go_wp2_with (at_builtin; refine wpList_app rfl (.tmp 17) (.tmp 21) 41 rfl Try.underlying41 infoGate hz4 (by decide) rfl O5.out rfl (Rd.lit w5 55 #[.int .i64 k5, .int .i64 a5, .int .i64 b5, .int .i64 c5] 1 4 rfl) (by simp [Value.oneCell']) (by omega) (by decide) (by simp <;> omega) ?_; intro A6 c6 w6 o6 g6; have C6 := C5.out.row g6 (fun q hq => (by have := (O5.out.lt q hq).1; omega)); have G6 := Lib.hid (dr_row G5.out g6 (fun q hq => (O5.out.lt q hq).1)); have O6 := Lib.hid (show w6.ownsRow w1.heap.size 55 4 (.slice A6 (n3 + 1) c6) (n3 + 1) (cellsG (gs ++ [⟨k5, a5, b5, c5⟩])) from (by rw [cellsG_append]; exact o6)); clear o6 g6)
    go_wp2_with fail
    refine (s_l1Once g 16 _ C6 (by omega)).mono ?_
    rintro e w7 ⟨b2, rfl, hc7, g7⟩
    have O7 := Lib.hid (dr_own g7 C6 O6.out (by decide))
    have G7 := Lib.hid (dr_trans G6.out g7)
    have hgs : g + 1 ≤ w7.heap.size := hc7.lt
    clear g7
    cases b2
    · go_wp2_with fail
      go_ret2
      exact ⟨A6, n3 + 1, c6, gs ++ [⟨k5, a5, b5, c5⟩], (q : Int), rfl, by first | exact HL.out | simp [HL.out], by omega, ownsRow_base O7.out hs1, B1.out.trans (below_of_grown G7.out hs1 (fun k hk => (by injection hk with hk; omega)))⟩
    · have OL := Lib.hid (show (w7.alloc (.cells #[.int .i64 0, .int .i64 5] 3)).ownsRow (g + 1) 3 1 (.slice (some ⟨w7.heap.size, 0, none⟩) 2 2) 2 (cellsI [0, 5]) from World.ownsRow_lit w7 #[.int .i64 0, .int .i64 5] 2 hgs (by simp [maxLen]) rfl)
      have C8 := Lib.hid (cur_alloc hc7 (.cells #[.int .i64 0, .int .i64 5] 3))
      have O8 := Lib.hid (O7.out.alloc (.cells #[.int .i64 0, .int .i64 5] 3))
      have G8 := Lib.hid (dr_alloc G7.out (.cells #[.int .i64 0, .int .i64 5] 3))
      go_wp2_with fail
      refine (s_l1PickInt g _ 2 2 [0, 5] _ C8.out OL.out (by omega) (by omega)).mono ?_
      rintro e w9 ⟨x, rfl, _, hc9, g9⟩
      have O9 := Lib.hid (dr_own g9 C8.out O8.out (by decide))
      have G9 := Lib.hid (dr_trans G8.out g9)
      clear g9
      go_wp2_with fail
      go_ret2
      exact ⟨A6, n3 + 1, c6, gs ++ [⟨k5, a5, b5, c5⟩], x, rfl, by first | exact HL.out | simp [HL.out], by omega, ownsRow_base O9.out hs1, B1.out.trans (below_of_grown G9.out hs1 (fun k hk => (by injection hk with hk; omega)))⟩
end Go.Proofs.Ytibhikngiceeeaa
