/- Contracts of PhaseFactor (impl), of PhasePolynomialMatrix (impl and spec). At most 2^39 terms and outputs. Contracts of the laws' helpers on rows of numbers of D[omega]: eqZOmega, eqDOmega, eqDOmegaS, markDOmegaS, heldDOmegaS. The rows have at most 2^40 numbers. Contracts of the laws' helpers on slices of slices (DOmega): eqDOmegaSS, markDOmegaSS, heldDOmegaSS. At most 2^20 rows, of 2^20 elements in all. -/
import Derived.Test.YtibhikngiceeeaaPpmPBx
import Derived.Test.YtibhikngiceeeaaEval
import Derived.Test.YtibhikngiceeeaaStA
import Derived.Test.YtibhikngiceeeaaProg
import Derived.Test.YtibhikngiceeeaaSS
import Derived.StillTailTactics
import Derived.Outline
namespace Go.Proofs.Ytibhikngiceeeaa
open Go.RowKit
set_option linter.unusedVariables false

section
variable {α : Type} {cs : List α → List Value} {sz : Nat}
theorem OwnSS.kept {base eo ei : Nat} {v : Value} {l : List (List α)} {w w' : World} {o : Option Nat} (h : OwnSS cs w base eo ei sz v l) (hg : w.grownBy w' o) (hk : ∀ (e n sz : Nat) (u : Value) (xs : List Value), (e = eo ∨ e = ei) → w.ownsRow base e sz u n xs → u.ownBlock = none ∨ u.ownBlock ≠ o) : OwnSS cs w' base eo ei sz v l := by
  obtain ⟨vs, h1, h2, h3⟩ := h
  refine ⟨vs, h1.kept hg (hk eo _ _ _ _ (.inl rfl) h1), fun j x hx => ?_, h3⟩
  obtain ⟨B, c, a1, a2⟩ := h2 j x hx
  exact ⟨B, c, a1, a2.kept hg (hk ei _ _ _ _ (.inr rfl) a2)⟩
theorem OwnSS.setObjI {base eo ei : Nat} {v : Value} {l : List (List α)} {w : World} (h : OwnSS cs w base eo ei sz v l) {r : Nat} (hr : r < base) (o : Obj) : OwnSS cs { w with heap := w.heap.setIfInBounds r o } base eo ei sz v l := by
  refine h.kept (o := some r) ⟨rfl, rfl, rfl, by simp, fun k hk hne => ?_⟩ fun e n sz u xs _ hu => ?_
  · show (w.heap.setIfInBounds r o)[k]? = _
    rw [Array.getElem?_setIfInBounds_ne (fun e => hne (by rw [e]))]
  · cases hv : u.ownBlock with
    | none => exact .inl rfl
    | some k =>
      refine .inr fun e => ?_
      injection e with e
      have := (hu.lt k hv).1
      omega
end
theorem Bx.blockB {w w' : World} {g t B : Nat} {cs : Array Value} (h : Bx w g t cs) (hb : Below B w w') (hg : g < B) : Bx w' g t cs := by
  unfold Bx at h ⊢
  rw [hb.block g hg]; exact h
theorem map_blockB {w w' : World} {r B : Nat} {o : Obj} (h : w.heap[r]? = some o) (hb : Below B w w') (hr : r < B) : w'.heap[r]? = some o := (hb.block r hr).trans h

set_option maxRecDepth 100000 in
set_option maxHeartbeats 6400000 in
theorem i_Phase (k : Nat) (w : World) (h : k < 8) : Calls Try.prog 52 #[.int .i64 k] w fun e w' => e = .returned (.agg #[.int .i64 (phD k).n.a, .int .i64 (phD k).n.b, .int .i64 (phD k).n.c, .int .i64 (phD k).n.d, .int .i64 (phD k).e]) ∧ Below w.heap.size w w' := by
  obtain rfl | rfl | rfl | rfl | rfl | rfl | rfl | rfl : k = 0 ∨ k = 1 ∨ k = 2 ∨ k = 3 ∨ k = 4 ∨ k = 5 ∨ k = 6 ∨ k = 7 := by omega
  all_goals
    have hB1 : ∀ o : Obj, Below w.heap.size w (w.alloc o) := fun o => (Below.refl _ _).alloc (Nat.le_refl _) _
    have hB2 : ∀ o o' : Obj, Below w.heap.size w ((w.alloc o).alloc o') := fun o o' => (hB1 o).alloc (hB1 o).size _
    have c0 : ∀ (a b c d e : Value) (o : Obj), ((w.alloc (.cells #[a, b, c, d, e] 83)).alloc o).cell? ⟨w.heap.size, 0, none⟩ = some a := fun a b c d e o => (bx5 ((Bx.new w 83 #[a, b, c, d, e]).alloc o)).1
    have c1 : ∀ (a b c d e : Value) (o : Obj), ((w.alloc (.cells #[a, b, c, d, e] 83)).alloc o).cell? ⟨w.heap.size, 1, none⟩ = some b := fun a b c d e o => (bx5 ((Bx.new w 83 #[a, b, c, d, e]).alloc o)).2.1
    have c2 : ∀ (a b c d e : Value) (o : Obj), ((w.alloc (.cells #[a, b, c, d, e] 83)).alloc o).cell? ⟨w.heap.size, 2, none⟩ = some c := fun a b c d e o => (bx5 ((Bx.new w 83 #[a, b, c, d, e]).alloc o)).2.2.1
    have c3 : ∀ (a b c d e : Value) (o : Obj), ((w.alloc (.cells #[a, b, c, d, e] 83)).alloc o).cell? ⟨w.heap.size, 3, none⟩ = some d := fun a b c d e o => (bx5 ((Bx.new w 83 #[a, b, c, d, e]).alloc o)).2.2.2.1
    have c4 : ∀ (a b c d e : Value) (o : Obj), ((w.alloc (.cells #[a, b, c, d, e] 83)).alloc o).cell? ⟨w.heap.size, 4, none⟩ = some e := fun a b c d e o => (bx5 ((Bx.new w 83 #[a, b, c, d, e]).alloc o)).2.2.2.2.1
    go_enter Try.func52, Try.ntmps52
    go_wp2_with fail
  · exact bodyPost_ret (v := .agg #[.int .i64 (phD 0).n.a, .int .i64 (phD 0).n.b, .int .i64 (phD 0).n.c, .int .i64 (phD 0).n.d, .int .i64 (phD 0).e]) (by simp [results, Try.results52, go_sem, phD, phZ, c0, c1, c2, c3, c4]) rfl ⟨rfl, hB2 _ _⟩
  · exact bodyPost_ret (v := .agg #[.int .i64 (phD 1).n.a, .int .i64 (phD 1).n.b, .int .i64 (phD 1).n.c, .int .i64 (phD 1).n.d, .int .i64 (phD 1).e]) (by simp [results, Try.results52, go_sem, phD, phZ, c0, c1, c2, c3, c4]) rfl ⟨rfl, hB2 _ _⟩
  · exact bodyPost_ret (v := .agg #[.int .i64 (phD 2).n.a, .int .i64 (phD 2).n.b, .int .i64 (phD 2).n.c, .int .i64 (phD 2).n.d, .int .i64 (phD 2).e]) (by simp [results, Try.results52, go_sem, phD, phZ, c0, c1, c2, c3, c4]) rfl ⟨rfl, hB2 _ _⟩
  · exact bodyPost_ret (v := .agg #[.int .i64 (phD 3).n.a, .int .i64 (phD 3).n.b, .int .i64 (phD 3).n.c, .int .i64 (phD 3).n.d, .int .i64 (phD 3).e]) (by simp [results, Try.results52, go_sem, phD, phZ, c0, c1, c2, c3, c4]) rfl ⟨rfl, hB2 _ _⟩
  · exact bodyPost_ret (v := .agg #[.int .i64 (phD 4).n.a, .int .i64 (phD 4).n.b, .int .i64 (phD 4).n.c, .int .i64 (phD 4).n.d, .int .i64 (phD 4).e]) (by simp [results, Try.results52, go_sem, phD, phZ, c0, c1, c2, c3, c4]) rfl ⟨rfl, hB2 _ _⟩
  · exact bodyPost_ret (v := .agg #[.int .i64 (phD 5).n.a, .int .i64 (phD 5).n.b, .int .i64 (phD 5).n.c, .int .i64 (phD 5).n.d, .int .i64 (phD 5).e]) (by simp [results, Try.results52, go_sem, phD, phZ, c0, c1, c2, c3, c4]) rfl ⟨rfl, hB2 _ _⟩
  · exact bodyPost_ret (v := .agg #[.int .i64 (phD 6).n.a, .int .i64 (phD 6).n.b, .int .i64 (phD 6).n.c, .int .i64 (phD 6).n.d, .int .i64 (phD 6).e]) (by simp [results, Try.results52, go_sem, phD, phZ, c0, c1, c2, c3, c4]) rfl ⟨rfl, hB2 _ _⟩
  · exact bodyPost_ret (v := .agg #[.int .i64 (phD 7).n.a, .int .i64 (phD 7).n.b, .int .i64 (phD 7).n.c, .int .i64 (phD 7).n.d, .int .i64 (phD 7).e]) (by simp [results, Try.results52, go_sem, phD, phZ, c0, c1, c2, c3, c4]) rfl ⟨rfl, hB2 _ _⟩
set_option maxRecDepth 100000 in
set_option maxHeartbeats 1600000 in
theorem i_PpmNo1 (p : Po) (AT AO : Option Addr) (nT cT nO cO : Nat) (w : World) (h : inB p.N 1 4 = false) :
    Calls Try.prog 11 #[.agg #[.int .i64 p.N, .int .i64 p.H, .slice AT nT cT, .slice AO nO cO]] w (RetSD [] w) := by
  have I1 := Lib.hid h
  have X0 := Lib.hid (Bx.new w 32 #[.int .i64 p.N, .int .i64 p.H, .slice AT nT cT, .slice AO nO cO])
  clear h
  obtain ⟨p0, p1, p2, p3, _⟩ := X0.out.four
  go_enter Try.func11, Try.ntmps11
  go_wp2_with fail
  refine (i_in _ _ _ _).mono ?_
  rintro e w1 ⟨rfl, rfl⟩
  rw [I1.out]
  go_wp2_with fail
  go_ret
  exact ⟨none, 0, rfl, OwnSS.nil _ _ _ _ _ _, (Below.refl _ _).alloc (Nat.le_refl _) _⟩
set_option maxRecDepth 100000 in
set_option maxHeartbeats 1600000 in
theorem i_PpmNo2 (p : Po) (AT AO : Option Addr) (nT cT nO cO : Nat) (w : World) (h : inB p.N 1 4 = true) (h2 : ¬ (nO : Int) = p.N) :
    Calls Try.prog 11 #[.agg #[.int .i64 p.N, .int .i64 p.H, .slice AT nT cT, .slice AO nO cO]] w (RetSD [] w) := by
  have I1 := Lib.hid h
  have X0 := Lib.hid (Bx.new w 32 #[.int .i64 p.N, .int .i64 p.H, .slice AT nT cT, .slice AO nO cO])
  have h3 : ((nO : Int) == p.N) = false := by simpa using h2
  clear h
  obtain ⟨p0, p1, p2, p3, _⟩ := X0.out.four
  go_enter Try.func11, Try.ntmps11
  go_wp2_with fail
  refine (i_in _ _ _ _).mono ?_
  rintro e w1 ⟨rfl, rfl⟩
  rw [I1.out]
  go_wp2_with fail
  go_ret
  exact ⟨none, 0, rfl, OwnSS.nil _ _ _ _ _ _, (Below.refl _ _).alloc (Nat.le_refl _) _⟩
set_option maxRecDepth 100000 in
set_option maxHeartbeats 6400000 in
theorem i_Ppm1 (H : Int) (t o : List (Int × Int)) (AT AO : Option Addr) (nT cT cO : Nat) (w : World) (hT : RdP w AT nT t) (hO : RdP w AO 1 o) (bT : nT ≤ 549755813888) :
    Calls Try.prog 11 #[.agg #[.int .i64 1, .int .i64 H, .slice AT nT cT, .slice AO 1 cO]] w (RetSD (ppmN ⟨1, H, t, o⟩ 1) w) := by
  obtain ⟨p, hp⟩ : ∃ p : Po, (⟨1, H, t, o⟩ : Po) = p := ⟨_, rfl⟩
  have e4 : p.o.length = 1 := by rw [← hp]; exact hO.1
  have HE1 := Lib.hid (show ∀ i : Nat, evO (i : Int) 0 o 0 = (toN p i : Nat) from fun i => by have := toN_int (p := p) (by omega) i; rw [← hp] at this ⊢; exact this)
  have HE2 := Lib.hid (show ∀ i : Nat, evT (i : Int) t H % 8 = (phN p i : Nat) from fun i => by have := phN_int p i; rw [← hp] at this ⊢; exact this)
  have HTO := Lib.hid (show ∀ i, toN p i < 2 from fun i => by have := toN_lt p i; rw [e4] at this; exact this)
  rw [hp]
  have HT := Lib.hid hT
  have HO := Lib.hid hO
  have X0 := Lib.hid (Bx.new w 32 #[.int .i64 1, .int .i64 H, .slice AT nT cT, .slice AO 1 cO])
  have I1 := Lib.hid (show inB 1 1 4 = true by decide)
  clear hT hO e4 hp
  obtain ⟨p0, p1, p2, p3, _⟩ := X0.out.four
  have hmk := run_makeMap_plain (P := Try.prog) (w := w.alloc (.cells #[.int .i64 1, .int .i64 H, .slice AT nT cT, .slice AO 1 cO] 32)) 88
  go_enter Try.func11, Try.ntmps11
  go_wp2_with fail
  refine (i_in _ _ _ _).mono ?_
  rintro e w1 ⟨rfl, rfl⟩
  rw [I1.out]
  go_wp2_with fail
  clear p0 p1 p2 p3 hmk
  go_loopg [4, 5] 2 (fun r v j wr => ∃ (i : Nat) (A : Option Addr) (c : Nat) (es : Array MapEntry) (clock : Nat), i + r = 2 ∧ j = .int .i64 i ∧ v = .slice A i c ∧ OwnSS cellsD wr (w.heap.size + 1 + 1) 79 83 5 (.slice A i c) (colsP p 1 i) ∧ EntsI es.toList (tosP p i) ∧ wr.heap[w.heap.size + 1]? = some (.map es clock) ∧ (∀ j, j < i → dupP p j = false) ∧ Bx wr w.heap.size 32 #[.int .i64 1, .int .i64 H, .slice AT nT cT, .slice AO 1 cO] ∧ Below w.heap.size w wr)
  case atStart =>
    refine ⟨0, _, 0, #[], 0, by omega, rfl, rfl, ?_, by simp [EntsI, tosP], ?_, by simp, ((Bx.new w _ _).alloc _).alloc _, (((Below.refl _ _).alloc (Nat.le_refl _) _).alloc (by simp) _).alloc (by simp <;> omega) _⟩
    · have := OwnSS.lit0 ((w.alloc (.cells #[.int .i64 1, .int .i64 H, .slice AT nT cT, .slice AO 1 cO] 32)).alloc (.map #[] 0)) (base := w.heap.size + 1 + 1) (by simp) 79 83 5 cellsD
      simpa [colsP] using this
    · have := heap_alloc_new (w.alloc (.cells #[.int .i64 1, .int .i64 H, .slice AT nT cT, .slice AO 1 cO] 32)) (.map #[] 0)
      refine map_allocI ?_
      simpa using this
  case round =>
    obtain ⟨i, A3, c3, es, clock, hi, rfl, rfl, ho, hen, hmap, hdup, hx, hb⟩ := hrel
    have HOS := Lib.hid ho
    have HEN := Lib.hid hen
    have HMp := Lib.hid hmap
    have HDU := Lib.hid hdup
    have HX := Lib.hid hx
    have HB := Lib.hid hb
    have hs0 := hb.size
    have hrlt : w.heap.size + 1 < wr.heap.size := (Array.getElem?_eq_some_iff.1 hmap).1
    clear ho hen hmap hdup hx hb
    obtain ⟨p0, p1, p2, p3, _⟩ := HX.out.four
    by_cases hlt : i < 2
    · have htl := HTO.out i
      obtain ⟨tt, htt⟩ : ∃ x, toN p i = x := ⟨_, rfl⟩
      obtain ⟨kk, hkk⟩ : ∃ x, phN p i = x := ⟨_, rfl⟩
      have hk8 : kk < 8 := by rw [← hkk]; exact phN_lt p i
      rw [htt] at htl
      have E1 := Lib.hid (show evO (i : Int) 0 o 0 = (tt : Nat) by rw [HE1.out, htt])
      have E2 := Lib.hid (show evT (i : Int) t H % 8 = (kk : Nat) by rw [HE2.out, hkk])
      obtain ⟨yy, hyy⟩ : ∃ y, phD kk = y := ⟨_, rfl⟩
      have HY := Lib.hid hyy
      have HC := Lib.hid (show colP p 1 i = (List.replicate 2 Dw.zero).set tt yy by unfold colP; rw [htt, hkk, hyy])
      clear hyy
      have HTT := Lib.hid htt
      clear htt hkk
      have hmk : ∀ w : World, (Instr.makeSlice 79 (.int .i64 2) (.int .i64 2)).run Try.prog w = .ok (.slice (some ⟨w.heap.size, 0, none⟩) 2 2) (w.alloc (.cells (madeCells (Value.agg #[.int .i64 0, .int .i64 0, .int .i64 0, .int .i64 0, .int .i64 0]).cells (2 * 5)) 83)) := fun w => run_makeN (P := Try.prog) Try.underlying79 infoDOmega 2 (by omega) (by omega) w
      go_wp2_with fail
      refine (i_EvalP 1 H AT AO nT cT 1 cO t o i _ (HT.out.below HB.out) (HO.out.below HB.out) bT (by omega)).mono ?_
      rintro e w1 ⟨rfl, b1⟩
      rw [E1.out, E2.out]
      have O1 := Lib.hid (HOS.out.below b1)
      have X1 := Lib.hid (HX.out.below b1)
      have B1 := Lib.hid (HB.out.trans (b1.mono hs0))
      have hs1 := b1.size
      have M1 := Lib.hid (map_belowI HMp.out b1)
      clear p0 p1 p2 p3 b1
      obtain ⟨p0, p1, p2, p3, _⟩ := X1.out.four
      have h0t : (0 : Int) ≤ (tt : Int) := by omega
      have h1t : (tt : Int) < 2 := by omega
      cases hd : dupP p i
      · have hz : (tosP p i).any (· == (tt : Int)) = false := by rw [← HTT.out]; exact hd
        have hl : (Instr.lookup 88 (.map (some (w.heap.size + 1))) (.int .i64 tt) false).run Try.prog w1 = .ok (.bool false) w1 := by
          have := run_lookup_i (w.heap.size + 1) clock tt es (tosP p i) w1 M1.out HEN.out
          rw [hz] at this
          exact this
        obtain ⟨w2, hw2⟩ : ∃ w2 : World, { w1 with heap := w1.heap.setIfInBounds (w.heap.size + 1) (.map (es.push { key := .int .i64 tt, val := .bool true, born := clock }) (clock + 1)) } = w2 := ⟨_, rfl⟩
        have hu : (Instr.mapUpdate 88 (.map (some (w.heap.size + 1))) (.int .i64 tt) (.bool true)).run Try.prog w1 = .ok () w2 := by rw [← hw2]; exact run_update_i (w.heap.size + 1) clock tt es (tosP p i) w1 M1.out HEN.out hz
        have M2 := Lib.hid (show w2.heap[w.heap.size + 1]? = some (.map (es.push { key := .int .i64 tt, val := .bool true, born := clock }) (clock + 1)) from hw2 ▸ map_setObjI M1.out)
        have O2 := Lib.hid (show OwnSS cellsD w2 (w.heap.size + 1 + 1) 79 83 5 (.slice A3 i c3) (colsP p 1 i) from hw2 ▸ O1.out.setObjI (by omega) _)
        have X2 := Lib.hid (show Bx w2 w.heap.size 32 #[.int .i64 1, .int .i64 H, .slice AT nT cT, .slice AO 1 cO] from hw2 ▸ X1.out.setObjI (by omega) _)
        have B2 := Lib.hid (show Below w.heap.size w w2 from hw2 ▸ below_setObjI B1.out (by omega) _)
        have hs2 : w.heap.size + 1 + 1 ≤ w2.heap.size := by have := (Array.getElem?_eq_some_iff.1 M2.out).1; omega
        have HE' := Lib.hid (show EntsI (es.push { key := .int .i64 tt, val := .bool true, born := clock }).toList (tosP p (i + 1)) by rw [tosP_succ, HTT.out]; exact HEN.out.push tt clock)
        clear hw2 M1 O1 X1 B1 hz p0 p1 p2 p3
        obtain ⟨p0, p1, p2, p3, _⟩ := X2.out.four
        have W2 := Lib.hid (own_made w2 (q := 1) (n := 2) (by omega) (by omega) (by decide))
        go_wp2_with fail
        refine (i_Phase kk _ hk8).mono ?_
        rintro e w3 ⟨rfl, b3⟩
        rw [HY.out]
        have O3 := Lib.hid (ownsRow_below W2.out b3)
        have B3 := Lib.hid (below_alloc b3)
        clear b3 W2 hmk p0 p1 p2 p3
        obtain ⟨⟨⟨x0, c0⟩, ⟨x1, c1⟩, ⟨x2, c2⟩, ⟨x3, c3'⟩, ⟨x4, c4'⟩⟩, f0, f1, f2, f3, f4⟩ := own5 O3.out htl
        go_upto_region 14 with fail
        obtain ⟨wS, hWS⟩ : ∃ wS, (((((w3.setCell ⟨w2.heap.size, tt * 5, none⟩ (.int .i64 yy.n.a)).setCell ⟨w2.heap.size, tt * 5 + 1, none⟩ (.int .i64 yy.n.b)).setCell ⟨w2.heap.size, tt * 5 + 2, none⟩ (.int .i64 yy.n.c)).setCell ⟨w2.heap.size, tt * 5 + 3, none⟩ (.int .i64 yy.n.d)).setCell ⟨w2.heap.size, tt * 5 + 4, none⟩ (.int .i64 yy.e)) = wS := ⟨_, rfl⟩
        rw [hWS]
        have P3 := Lib.hid (show wS.ownsRow w2.heap.size 83 5 (.slice (some ⟨w2.heap.size, 0, none⟩) 2 2) 2 (cellsD (colP p 1 i)) by rw [← hWS, HC.out]; exact own_stAt O3.out (by simpa using htl) yy)
        have B4 := Lib.hid (show Below w2.heap.size w2 wS by rw [← hWS]; exact below_stAt (o := tt * 5) B3.out (Nat.le_refl _) yy)
        clear hWS O3 B3 c0 c1 c2 c3' c4' f0 f1 f2 f3 f4
        have hs4 := B4.out.size
        have HW := Lib.hid (O2.out.below B4.out)
        obtain ⟨vs, a1, a2, a3⟩ := HW.out
        rw [colsP_len] at a1
        have A1 := Lib.hid a1
        clear a1 a2 a3
        go_wp2_with (at_builtin; refine wpList_app rfl (.tmp 50) (.tmp 52) 27 rfl Try.underlying27 infoDOmegaS rfl (by decide) rfl (A1.out.alloc _) rfl (Rd.lit wS 79 #[.slice (some ⟨w2.heap.size, 0, none⟩) 2 2] 1 1 rfl) (by simp [Value.oneCell']) (by omega) (by decide) (by simp <;> omega) ?_; intro A9 c9 w9 o9 g9)
        have BB := Lib.hid (below_grown ((B4.out.mono hs2).alloc (by omega) (.cells #[.slice (some ⟨w2.heap.size, 0, none⟩) 2 2] 79)) (by simp <;> omega) (A1.out.alloc _) (Nat.le_refl _) g9)
        go_roundg (gk - 1)
        case measure => omega
        case rel =>
          refine ⟨i + 1, A9, c9, _, _, by omega, by go_num, rfl, ?_, HE'.out, map_blockB M2.out BB.out (by omega), fun j hj => ?_, X2.out.blockB BB.out (by omega), B2.out.trans (BB.out.mono (by omega))⟩
          · rw [colsP_succ]
            exact OwnSS.app1 (by decide) O2.out (Nat.le_refl _) hs2 (B4.out.alloc hs4 _) (colP_len p 1 i) (P3.out.alloc _) (colsP_len p 1 i) (A1.out.alloc _) g9 o9
          · rcases Nat.lt_succ_iff_lt_or_eq.1 hj with h | h
            · exact HDU.out j h
            · rw [h]; exact hd
      · have hz : (tosP p i).any (· == (tt : Int)) = true := by rw [← HTT.out]; exact hd
        have hl : (Instr.lookup 88 (.map (some (w.heap.size + 1))) (.int .i64 tt) false).run Try.prog w1 = .ok (.bool true) w1 := by
          have := run_lookup_i (w.heap.size + 1) clock tt es (tosP p i) w1 M1.out HEN.out
          rw [hz] at this
          exact this
        have HDD := Lib.hid (ppmN_dup (n := 1) (show i < 2 ^ 1 from hlt) hd)
        clear hz hd
        go_wp2_with fail
        go_ret
        rw [HDD.out]
        exact ⟨none, 0, rfl, OwnSS.nil _ _ _ _ _ _, B1.out⟩
    · obtain rfl : i = 2 := by omega
      have HF := Lib.hid (ppmN_ok (p := p) (n := 1) fun j hj => HDU.out j hj)
      have HA := Lib.hid (colsP_all p 1 2)
      go_wp2_with fail
      refine (i_flipped _ 2 _ (colsP p 1 2) _ (HOS.out.rd (colsP_len p 1 2)) (by omega) HA.out).mono ?_
      rintro e w6 ⟨A6, c6, rfl, o6, b6⟩
      go_wp2_with fail
      go_ret
      rw [HF.out]
      exact ⟨A6, c6, rfl, o6.base_ hs0, HB.out.trans (b6.mono hs0)⟩
set_option maxRecDepth 100000 in
set_option maxHeartbeats 6400000 in
theorem i_Ppm2 (H : Int) (t o : List (Int × Int)) (AT AO : Option Addr) (nT cT cO : Nat) (w : World) (hT : RdP w AT nT t) (hO : RdP w AO 2 o) (bT : nT ≤ 549755813888) :
    Calls Try.prog 11 #[.agg #[.int .i64 2, .int .i64 H, .slice AT nT cT, .slice AO 2 cO]] w (RetSD (ppmN ⟨2, H, t, o⟩ 2) w) := by
  obtain ⟨p, hp⟩ : ∃ p : Po, (⟨2, H, t, o⟩ : Po) = p := ⟨_, rfl⟩
  have e4 : p.o.length = 2 := by rw [← hp]; exact hO.1
  have HE1 := Lib.hid (show ∀ i : Nat, evO (i : Int) 0 o 0 = (toN p i : Nat) from fun i => by have := toN_int (p := p) (by omega) i; rw [← hp] at this ⊢; exact this)
  have HE2 := Lib.hid (show ∀ i : Nat, evT (i : Int) t H % 8 = (phN p i : Nat) from fun i => by have := phN_int p i; rw [← hp] at this ⊢; exact this)
  have HTO := Lib.hid (show ∀ i, toN p i < 4 from fun i => by have := toN_lt p i; rw [e4] at this; exact this)
  rw [hp]
  have HT := Lib.hid hT
  have HO := Lib.hid hO
  have X0 := Lib.hid (Bx.new w 32 #[.int .i64 2, .int .i64 H, .slice AT nT cT, .slice AO 2 cO])
  have I1 := Lib.hid (show inB 2 1 4 = true by decide)
  clear hT hO e4 hp
  obtain ⟨p0, p1, p2, p3, _⟩ := X0.out.four
  have hmk := run_makeMap_plain (P := Try.prog) (w := w.alloc (.cells #[.int .i64 2, .int .i64 H, .slice AT nT cT, .slice AO 2 cO] 32)) 88
  go_enter Try.func11, Try.ntmps11
  go_wp2_with fail
  refine (i_in _ _ _ _).mono ?_
  rintro e w1 ⟨rfl, rfl⟩
  rw [I1.out]
  go_wp2_with fail
  clear p0 p1 p2 p3 hmk
  go_loopg [4, 5] 4 (fun r v j wr => ∃ (i : Nat) (A : Option Addr) (c : Nat) (es : Array MapEntry) (clock : Nat), i + r = 4 ∧ j = .int .i64 i ∧ v = .slice A i c ∧ OwnSS cellsD wr (w.heap.size + 1 + 1) 79 83 5 (.slice A i c) (colsP p 2 i) ∧ EntsI es.toList (tosP p i) ∧ wr.heap[w.heap.size + 1]? = some (.map es clock) ∧ (∀ j, j < i → dupP p j = false) ∧ Bx wr w.heap.size 32 #[.int .i64 2, .int .i64 H, .slice AT nT cT, .slice AO 2 cO] ∧ Below w.heap.size w wr)
  case atStart =>
    refine ⟨0, _, 0, #[], 0, by omega, rfl, rfl, ?_, by simp [EntsI, tosP], ?_, by simp, ((Bx.new w _ _).alloc _).alloc _, (((Below.refl _ _).alloc (Nat.le_refl _) _).alloc (by simp) _).alloc (by simp <;> omega) _⟩
    · have := OwnSS.lit0 ((w.alloc (.cells #[.int .i64 2, .int .i64 H, .slice AT nT cT, .slice AO 2 cO] 32)).alloc (.map #[] 0)) (base := w.heap.size + 1 + 1) (by simp) 79 83 5 cellsD
      simpa [colsP] using this
    · have := heap_alloc_new (w.alloc (.cells #[.int .i64 2, .int .i64 H, .slice AT nT cT, .slice AO 2 cO] 32)) (.map #[] 0)
      refine map_allocI ?_
      simpa using this
  case round =>
    obtain ⟨i, A3, c3, es, clock, hi, rfl, rfl, ho, hen, hmap, hdup, hx, hb⟩ := hrel
    have HOS := Lib.hid ho
    have HEN := Lib.hid hen
    have HMp := Lib.hid hmap
    have HDU := Lib.hid hdup
    have HX := Lib.hid hx
    have HB := Lib.hid hb
    have hs0 := hb.size
    have hrlt : w.heap.size + 1 < wr.heap.size := (Array.getElem?_eq_some_iff.1 hmap).1
    clear ho hen hmap hdup hx hb
    obtain ⟨p0, p1, p2, p3, _⟩ := HX.out.four
    by_cases hlt : i < 4
    · have htl := HTO.out i
      obtain ⟨tt, htt⟩ : ∃ x, toN p i = x := ⟨_, rfl⟩
      obtain ⟨kk, hkk⟩ : ∃ x, phN p i = x := ⟨_, rfl⟩
      have hk8 : kk < 8 := by rw [← hkk]; exact phN_lt p i
      rw [htt] at htl
      have E1 := Lib.hid (show evO (i : Int) 0 o 0 = (tt : Nat) by rw [HE1.out, htt])
      have E2 := Lib.hid (show evT (i : Int) t H % 8 = (kk : Nat) by rw [HE2.out, hkk])
      obtain ⟨yy, hyy⟩ : ∃ y, phD kk = y := ⟨_, rfl⟩
      have HY := Lib.hid hyy
      have HC := Lib.hid (show colP p 2 i = (List.replicate 4 Dw.zero).set tt yy by unfold colP; rw [htt, hkk, hyy])
      clear hyy
      have HTT := Lib.hid htt
      clear htt hkk
      have hmk : ∀ w : World, (Instr.makeSlice 79 (.int .i64 4) (.int .i64 4)).run Try.prog w = .ok (.slice (some ⟨w.heap.size, 0, none⟩) 4 4) (w.alloc (.cells (madeCells (Value.agg #[.int .i64 0, .int .i64 0, .int .i64 0, .int .i64 0, .int .i64 0]).cells (4 * 5)) 83)) := fun w => run_makeN (P := Try.prog) Try.underlying79 infoDOmega 4 (by omega) (by omega) w
      go_wp2_with fail
      refine (i_EvalP 2 H AT AO nT cT 2 cO t o i _ (HT.out.below HB.out) (HO.out.below HB.out) bT (by omega)).mono ?_
      rintro e w1 ⟨rfl, b1⟩
      rw [E1.out, E2.out]
      have O1 := Lib.hid (HOS.out.below b1)
      have X1 := Lib.hid (HX.out.below b1)
      have B1 := Lib.hid (HB.out.trans (b1.mono hs0))
      have hs1 := b1.size
      have M1 := Lib.hid (map_belowI HMp.out b1)
      clear p0 p1 p2 p3 b1
      obtain ⟨p0, p1, p2, p3, _⟩ := X1.out.four
      have h0t : (0 : Int) ≤ (tt : Int) := by omega
      have h1t : (tt : Int) < 4 := by omega
      cases hd : dupP p i
      · have hz : (tosP p i).any (· == (tt : Int)) = false := by rw [← HTT.out]; exact hd
        have hl : (Instr.lookup 88 (.map (some (w.heap.size + 1))) (.int .i64 tt) false).run Try.prog w1 = .ok (.bool false) w1 := by
          have := run_lookup_i (w.heap.size + 1) clock tt es (tosP p i) w1 M1.out HEN.out
          rw [hz] at this
          exact this
        obtain ⟨w2, hw2⟩ : ∃ w2 : World, { w1 with heap := w1.heap.setIfInBounds (w.heap.size + 1) (.map (es.push { key := .int .i64 tt, val := .bool true, born := clock }) (clock + 1)) } = w2 := ⟨_, rfl⟩
        have hu : (Instr.mapUpdate 88 (.map (some (w.heap.size + 1))) (.int .i64 tt) (.bool true)).run Try.prog w1 = .ok () w2 := by rw [← hw2]; exact run_update_i (w.heap.size + 1) clock tt es (tosP p i) w1 M1.out HEN.out hz
        have M2 := Lib.hid (show w2.heap[w.heap.size + 1]? = some (.map (es.push { key := .int .i64 tt, val := .bool true, born := clock }) (clock + 1)) from hw2 ▸ map_setObjI M1.out)
        have O2 := Lib.hid (show OwnSS cellsD w2 (w.heap.size + 1 + 1) 79 83 5 (.slice A3 i c3) (colsP p 2 i) from hw2 ▸ O1.out.setObjI (by omega) _)
        have X2 := Lib.hid (show Bx w2 w.heap.size 32 #[.int .i64 2, .int .i64 H, .slice AT nT cT, .slice AO 2 cO] from hw2 ▸ X1.out.setObjI (by omega) _)
        have B2 := Lib.hid (show Below w.heap.size w w2 from hw2 ▸ below_setObjI B1.out (by omega) _)
        have hs2 : w.heap.size + 1 + 1 ≤ w2.heap.size := by have := (Array.getElem?_eq_some_iff.1 M2.out).1; omega
        have HE' := Lib.hid (show EntsI (es.push { key := .int .i64 tt, val := .bool true, born := clock }).toList (tosP p (i + 1)) by rw [tosP_succ, HTT.out]; exact HEN.out.push tt clock)
        clear hw2 M1 O1 X1 B1 hz p0 p1 p2 p3
        obtain ⟨p0, p1, p2, p3, _⟩ := X2.out.four
        have W2 := Lib.hid (own_made w2 (q := 2) (n := 4) (by omega) (by omega) (by decide))
        go_wp2_with fail
        refine (i_Phase kk _ hk8).mono ?_
        rintro e w3 ⟨rfl, b3⟩
        rw [HY.out]
        have O3 := Lib.hid (ownsRow_below W2.out b3)
        have B3 := Lib.hid (below_alloc b3)
        clear b3 W2 hmk p0 p1 p2 p3
        obtain ⟨⟨⟨x0, c0⟩, ⟨x1, c1⟩, ⟨x2, c2⟩, ⟨x3, c3'⟩, ⟨x4, c4'⟩⟩, f0, f1, f2, f3, f4⟩ := own5 O3.out htl
        go_upto_region 14 with fail
        obtain ⟨wS, hWS⟩ : ∃ wS, (((((w3.setCell ⟨w2.heap.size, tt * 5, none⟩ (.int .i64 yy.n.a)).setCell ⟨w2.heap.size, tt * 5 + 1, none⟩ (.int .i64 yy.n.b)).setCell ⟨w2.heap.size, tt * 5 + 2, none⟩ (.int .i64 yy.n.c)).setCell ⟨w2.heap.size, tt * 5 + 3, none⟩ (.int .i64 yy.n.d)).setCell ⟨w2.heap.size, tt * 5 + 4, none⟩ (.int .i64 yy.e)) = wS := ⟨_, rfl⟩
        rw [hWS]
        have P3 := Lib.hid (show wS.ownsRow w2.heap.size 83 5 (.slice (some ⟨w2.heap.size, 0, none⟩) 4 4) 4 (cellsD (colP p 2 i)) by rw [← hWS, HC.out]; exact own_stAt O3.out (by simpa using htl) yy)
        have B4 := Lib.hid (show Below w2.heap.size w2 wS by rw [← hWS]; exact below_stAt (o := tt * 5) B3.out (Nat.le_refl _) yy)
        clear hWS O3 B3 c0 c1 c2 c3' c4' f0 f1 f2 f3 f4
        have hs4 := B4.out.size
        have HW := Lib.hid (O2.out.below B4.out)
        obtain ⟨vs, a1, a2, a3⟩ := HW.out
        rw [colsP_len] at a1
        have A1 := Lib.hid a1
        clear a1 a2 a3
        go_wp2_with (at_builtin; refine wpList_app rfl (.tmp 50) (.tmp 52) 27 rfl Try.underlying27 infoDOmegaS rfl (by decide) rfl (A1.out.alloc _) rfl (Rd.lit wS 79 #[.slice (some ⟨w2.heap.size, 0, none⟩) 4 4] 1 1 rfl) (by simp [Value.oneCell']) (by omega) (by decide) (by simp <;> omega) ?_; intro A9 c9 w9 o9 g9)
        have BB := Lib.hid (below_grown ((B4.out.mono hs2).alloc (by omega) (.cells #[.slice (some ⟨w2.heap.size, 0, none⟩) 4 4] 79)) (by simp <;> omega) (A1.out.alloc _) (Nat.le_refl _) g9)
        go_roundg (gk - 1)
        case measure => omega
        case rel =>
          refine ⟨i + 1, A9, c9, _, _, by omega, by go_num, rfl, ?_, HE'.out, map_blockB M2.out BB.out (by omega), fun j hj => ?_, X2.out.blockB BB.out (by omega), B2.out.trans (BB.out.mono (by omega))⟩
          · rw [colsP_succ]
            exact OwnSS.app1 (by decide) O2.out (Nat.le_refl _) hs2 (B4.out.alloc hs4 _) (colP_len p 2 i) (P3.out.alloc _) (colsP_len p 2 i) (A1.out.alloc _) g9 o9
          · rcases Nat.lt_succ_iff_lt_or_eq.1 hj with h | h
            · exact HDU.out j h
            · rw [h]; exact hd
      · have hz : (tosP p i).any (· == (tt : Int)) = true := by rw [← HTT.out]; exact hd
        have hl : (Instr.lookup 88 (.map (some (w.heap.size + 1))) (.int .i64 tt) false).run Try.prog w1 = .ok (.bool true) w1 := by
          have := run_lookup_i (w.heap.size + 1) clock tt es (tosP p i) w1 M1.out HEN.out
          rw [hz] at this
          exact this
        have HDD := Lib.hid (ppmN_dup (n := 2) (show i < 2 ^ 2 from hlt) hd)
        clear hz hd
        go_wp2_with fail
        go_ret
        rw [HDD.out]
        exact ⟨none, 0, rfl, OwnSS.nil _ _ _ _ _ _, B1.out⟩
    · obtain rfl : i = 4 := by omega
      have HF := Lib.hid (ppmN_ok (p := p) (n := 2) fun j hj => HDU.out j hj)
      have HA := Lib.hid (colsP_all p 2 4)
      go_wp2_with fail
      refine (i_flipped _ 4 _ (colsP p 2 4) _ (HOS.out.rd (colsP_len p 2 4)) (by omega) HA.out).mono ?_
      rintro e w6 ⟨A6, c6, rfl, o6, b6⟩
      go_wp2_with fail
      go_ret
      rw [HF.out]
      exact ⟨A6, c6, rfl, o6.base_ hs0, HB.out.trans (b6.mono hs0)⟩
set_option maxRecDepth 100000 in
set_option maxHeartbeats 6400000 in
theorem i_Ppm3 (H : Int) (t o : List (Int × Int)) (AT AO : Option Addr) (nT cT cO : Nat) (w : World) (hT : RdP w AT nT t) (hO : RdP w AO 3 o) (bT : nT ≤ 549755813888) :
    Calls Try.prog 11 #[.agg #[.int .i64 3, .int .i64 H, .slice AT nT cT, .slice AO 3 cO]] w (RetSD (ppmN ⟨3, H, t, o⟩ 3) w) := by
  obtain ⟨p, hp⟩ : ∃ p : Po, (⟨3, H, t, o⟩ : Po) = p := ⟨_, rfl⟩
  have e4 : p.o.length = 3 := by rw [← hp]; exact hO.1
  have HE1 := Lib.hid (show ∀ i : Nat, evO (i : Int) 0 o 0 = (toN p i : Nat) from fun i => by have := toN_int (p := p) (by omega) i; rw [← hp] at this ⊢; exact this)
  have HE2 := Lib.hid (show ∀ i : Nat, evT (i : Int) t H % 8 = (phN p i : Nat) from fun i => by have := phN_int p i; rw [← hp] at this ⊢; exact this)
  have HTO := Lib.hid (show ∀ i, toN p i < 8 from fun i => by have := toN_lt p i; rw [e4] at this; exact this)
  rw [hp]
  have HT := Lib.hid hT
  have HO := Lib.hid hO
  have X0 := Lib.hid (Bx.new w 32 #[.int .i64 3, .int .i64 H, .slice AT nT cT, .slice AO 3 cO])
  have I1 := Lib.hid (show inB 3 1 4 = true by decide)
  clear hT hO e4 hp
  obtain ⟨p0, p1, p2, p3, _⟩ := X0.out.four
  have hmk := run_makeMap_plain (P := Try.prog) (w := w.alloc (.cells #[.int .i64 3, .int .i64 H, .slice AT nT cT, .slice AO 3 cO] 32)) 88
  go_enter Try.func11, Try.ntmps11
  go_wp2_with fail
  refine (i_in _ _ _ _).mono ?_
  rintro e w1 ⟨rfl, rfl⟩
  rw [I1.out]
  go_wp2_with fail
  clear p0 p1 p2 p3 hmk
  go_loopg [4, 5] 8 (fun r v j wr => ∃ (i : Nat) (A : Option Addr) (c : Nat) (es : Array MapEntry) (clock : Nat), i + r = 8 ∧ j = .int .i64 i ∧ v = .slice A i c ∧ OwnSS cellsD wr (w.heap.size + 1 + 1) 79 83 5 (.slice A i c) (colsP p 3 i) ∧ EntsI es.toList (tosP p i) ∧ wr.heap[w.heap.size + 1]? = some (.map es clock) ∧ (∀ j, j < i → dupP p j = false) ∧ Bx wr w.heap.size 32 #[.int .i64 3, .int .i64 H, .slice AT nT cT, .slice AO 3 cO] ∧ Below w.heap.size w wr)
  case atStart =>
    refine ⟨0, _, 0, #[], 0, by omega, rfl, rfl, ?_, by simp [EntsI, tosP], ?_, by simp, ((Bx.new w _ _).alloc _).alloc _, (((Below.refl _ _).alloc (Nat.le_refl _) _).alloc (by simp) _).alloc (by simp <;> omega) _⟩
    · have := OwnSS.lit0 ((w.alloc (.cells #[.int .i64 3, .int .i64 H, .slice AT nT cT, .slice AO 3 cO] 32)).alloc (.map #[] 0)) (base := w.heap.size + 1 + 1) (by simp) 79 83 5 cellsD
      simpa [colsP] using this
    · have := heap_alloc_new (w.alloc (.cells #[.int .i64 3, .int .i64 H, .slice AT nT cT, .slice AO 3 cO] 32)) (.map #[] 0)
      refine map_allocI ?_
      simpa using this
  case round =>
    obtain ⟨i, A3, c3, es, clock, hi, rfl, rfl, ho, hen, hmap, hdup, hx, hb⟩ := hrel
    have HOS := Lib.hid ho
    have HEN := Lib.hid hen
    have HMp := Lib.hid hmap
    have HDU := Lib.hid hdup
    have HX := Lib.hid hx
    have HB := Lib.hid hb
    have hs0 := hb.size
    have hrlt : w.heap.size + 1 < wr.heap.size := (Array.getElem?_eq_some_iff.1 hmap).1
    clear ho hen hmap hdup hx hb
    obtain ⟨p0, p1, p2, p3, _⟩ := HX.out.four
    by_cases hlt : i < 8
    · have htl := HTO.out i
      obtain ⟨tt, htt⟩ : ∃ x, toN p i = x := ⟨_, rfl⟩
      obtain ⟨kk, hkk⟩ : ∃ x, phN p i = x := ⟨_, rfl⟩
      have hk8 : kk < 8 := by rw [← hkk]; exact phN_lt p i
      rw [htt] at htl
      have E1 := Lib.hid (show evO (i : Int) 0 o 0 = (tt : Nat) by rw [HE1.out, htt])
      have E2 := Lib.hid (show evT (i : Int) t H % 8 = (kk : Nat) by rw [HE2.out, hkk])
      obtain ⟨yy, hyy⟩ : ∃ y, phD kk = y := ⟨_, rfl⟩
      have HY := Lib.hid hyy
      have HC := Lib.hid (show colP p 3 i = (List.replicate 8 Dw.zero).set tt yy by unfold colP; rw [htt, hkk, hyy])
      clear hyy
      have HTT := Lib.hid htt
      clear htt hkk
      have hmk : ∀ w : World, (Instr.makeSlice 79 (.int .i64 8) (.int .i64 8)).run Try.prog w = .ok (.slice (some ⟨w.heap.size, 0, none⟩) 8 8) (w.alloc (.cells (madeCells (Value.agg #[.int .i64 0, .int .i64 0, .int .i64 0, .int .i64 0, .int .i64 0]).cells (8 * 5)) 83)) := fun w => run_makeN (P := Try.prog) Try.underlying79 infoDOmega 8 (by omega) (by omega) w
      go_wp2_with fail
      refine (i_EvalP 3 H AT AO nT cT 3 cO t o i _ (HT.out.below HB.out) (HO.out.below HB.out) bT (by omega)).mono ?_
      rintro e w1 ⟨rfl, b1⟩
      rw [E1.out, E2.out]
      have O1 := Lib.hid (HOS.out.below b1)
      have X1 := Lib.hid (HX.out.below b1)
      have B1 := Lib.hid (HB.out.trans (b1.mono hs0))
      have hs1 := b1.size
      have M1 := Lib.hid (map_belowI HMp.out b1)
      clear p0 p1 p2 p3 b1
      obtain ⟨p0, p1, p2, p3, _⟩ := X1.out.four
      have h0t : (0 : Int) ≤ (tt : Int) := by omega
      have h1t : (tt : Int) < 8 := by omega
      cases hd : dupP p i
      · have hz : (tosP p i).any (· == (tt : Int)) = false := by rw [← HTT.out]; exact hd
        have hl : (Instr.lookup 88 (.map (some (w.heap.size + 1))) (.int .i64 tt) false).run Try.prog w1 = .ok (.bool false) w1 := by
          have := run_lookup_i (w.heap.size + 1) clock tt es (tosP p i) w1 M1.out HEN.out
          rw [hz] at this
          exact this
        obtain ⟨w2, hw2⟩ : ∃ w2 : World, { w1 with heap := w1.heap.setIfInBounds (w.heap.size + 1) (.map (es.push { key := .int .i64 tt, val := .bool true, born := clock }) (clock + 1)) } = w2 := ⟨_, rfl⟩
        have hu : (Instr.mapUpdate 88 (.map (some (w.heap.size + 1))) (.int .i64 tt) (.bool true)).run Try.prog w1 = .ok () w2 := by rw [← hw2]; exact run_update_i (w.heap.size + 1) clock tt es (tosP p i) w1 M1.out HEN.out hz
        have M2 := Lib.hid (show w2.heap[w.heap.size + 1]? = some (.map (es.push { key := .int .i64 tt, val := .bool true, born := clock }) (clock + 1)) from hw2 ▸ map_setObjI M1.out)
        have O2 := Lib.hid (show OwnSS cellsD w2 (w.heap.size + 1 + 1) 79 83 5 (.slice A3 i c3) (colsP p 3 i) from hw2 ▸ O1.out.setObjI (by omega) _)
        have X2 := Lib.hid (show Bx w2 w.heap.size 32 #[.int .i64 3, .int .i64 H, .slice AT nT cT, .slice AO 3 cO] from hw2 ▸ X1.out.setObjI (by omega) _)
        have B2 := Lib.hid (show Below w.heap.size w w2 from hw2 ▸ below_setObjI B1.out (by omega) _)
        have hs2 : w.heap.size + 1 + 1 ≤ w2.heap.size := by have := (Array.getElem?_eq_some_iff.1 M2.out).1; omega
        have HE' := Lib.hid (show EntsI (es.push { key := .int .i64 tt, val := .bool true, born := clock }).toList (tosP p (i + 1)) by rw [tosP_succ, HTT.out]; exact HEN.out.push tt clock)
        clear hw2 M1 O1 X1 B1 hz p0 p1 p2 p3
        obtain ⟨p0, p1, p2, p3, _⟩ := X2.out.four
        have W2 := Lib.hid (own_made w2 (q := 3) (n := 8) (by omega) (by omega) (by decide))
        go_wp2_with fail
        refine (i_Phase kk _ hk8).mono ?_
        rintro e w3 ⟨rfl, b3⟩
        rw [HY.out]
        have O3 := Lib.hid (ownsRow_below W2.out b3)
        have B3 := Lib.hid (below_alloc b3)
        clear b3 W2 hmk p0 p1 p2 p3
        obtain ⟨⟨⟨x0, c0⟩, ⟨x1, c1⟩, ⟨x2, c2⟩, ⟨x3, c3'⟩, ⟨x4, c4'⟩⟩, f0, f1, f2, f3, f4⟩ := own5 O3.out htl
        go_upto_region 14 with fail
        obtain ⟨wS, hWS⟩ : ∃ wS, (((((w3.setCell ⟨w2.heap.size, tt * 5, none⟩ (.int .i64 yy.n.a)).setCell ⟨w2.heap.size, tt * 5 + 1, none⟩ (.int .i64 yy.n.b)).setCell ⟨w2.heap.size, tt * 5 + 2, none⟩ (.int .i64 yy.n.c)).setCell ⟨w2.heap.size, tt * 5 + 3, none⟩ (.int .i64 yy.n.d)).setCell ⟨w2.heap.size, tt * 5 + 4, none⟩ (.int .i64 yy.e)) = wS := ⟨_, rfl⟩
        rw [hWS]
        have P3 := Lib.hid (show wS.ownsRow w2.heap.size 83 5 (.slice (some ⟨w2.heap.size, 0, none⟩) 8 8) 8 (cellsD (colP p 3 i)) by rw [← hWS, HC.out]; exact own_stAt O3.out (by simpa using htl) yy)
        have B4 := Lib.hid (show Below w2.heap.size w2 wS by rw [← hWS]; exact below_stAt (o := tt * 5) B3.out (Nat.le_refl _) yy)
        clear hWS O3 B3 c0 c1 c2 c3' c4' f0 f1 f2 f3 f4
        have hs4 := B4.out.size
        have HW := Lib.hid (O2.out.below B4.out)
        obtain ⟨vs, a1, a2, a3⟩ := HW.out
        rw [colsP_len] at a1
        have A1 := Lib.hid a1
        clear a1 a2 a3
        go_wp2_with (at_builtin; refine wpList_app rfl (.tmp 50) (.tmp 52) 27 rfl Try.underlying27 infoDOmegaS rfl (by decide) rfl (A1.out.alloc _) rfl (Rd.lit wS 79 #[.slice (some ⟨w2.heap.size, 0, none⟩) 8 8] 1 1 rfl) (by simp [Value.oneCell']) (by omega) (by decide) (by simp <;> omega) ?_; intro A9 c9 w9 o9 g9)
        have BB := Lib.hid (below_grown ((B4.out.mono hs2).alloc (by omega) (.cells #[.slice (some ⟨w2.heap.size, 0, none⟩) 8 8] 79)) (by simp <;> omega) (A1.out.alloc _) (Nat.le_refl _) g9)
        go_roundg (gk - 1)
        case measure => omega
        case rel =>
          refine ⟨i + 1, A9, c9, _, _, by omega, by go_num, rfl, ?_, HE'.out, map_blockB M2.out BB.out (by omega), fun j hj => ?_, X2.out.blockB BB.out (by omega), B2.out.trans (BB.out.mono (by omega))⟩
          · rw [colsP_succ]
            exact OwnSS.app1 (by decide) O2.out (Nat.le_refl _) hs2 (B4.out.alloc hs4 _) (colP_len p 3 i) (P3.out.alloc _) (colsP_len p 3 i) (A1.out.alloc _) g9 o9
          · rcases Nat.lt_succ_iff_lt_or_eq.1 hj with h | h
            · exact HDU.out j h
            · rw [h]; exact hd
      · have hz : (tosP p i).any (· == (tt : Int)) = true := by rw [← HTT.out]; exact hd
        have hl : (Instr.lookup 88 (.map (some (w.heap.size + 1))) (.int .i64 tt) false).run Try.prog w1 = .ok (.bool true) w1 := by
          have := run_lookup_i (w.heap.size + 1) clock tt es (tosP p i) w1 M1.out HEN.out
          rw [hz] at this
          exact this
        have HDD := Lib.hid (ppmN_dup (n := 3) (show i < 2 ^ 3 from hlt) hd)
        clear hz hd
        go_wp2_with fail
        go_ret
        rw [HDD.out]
        exact ⟨none, 0, rfl, OwnSS.nil _ _ _ _ _ _, B1.out⟩
    · obtain rfl : i = 8 := by omega
      have HF := Lib.hid (ppmN_ok (p := p) (n := 3) fun j hj => HDU.out j hj)
      have HA := Lib.hid (colsP_all p 3 8)
      go_wp2_with fail
      refine (i_flipped _ 8 _ (colsP p 3 8) _ (HOS.out.rd (colsP_len p 3 8)) (by omega) HA.out).mono ?_
      rintro e w6 ⟨A6, c6, rfl, o6, b6⟩
      go_wp2_with fail
      go_ret
      rw [HF.out]
      exact ⟨A6, c6, rfl, o6.base_ hs0, HB.out.trans (b6.mono hs0)⟩
set_option maxRecDepth 100000 in
set_option maxHeartbeats 6400000 in
theorem i_Ppm4 (H : Int) (t o : List (Int × Int)) (AT AO : Option Addr) (nT cT cO : Nat) (w : World) (hT : RdP w AT nT t) (hO : RdP w AO 4 o) (bT : nT ≤ 549755813888) :
    Calls Try.prog 11 #[.agg #[.int .i64 4, .int .i64 H, .slice AT nT cT, .slice AO 4 cO]] w (RetSD (ppmN ⟨4, H, t, o⟩ 4) w) := by
  obtain ⟨p, hp⟩ : ∃ p : Po, (⟨4, H, t, o⟩ : Po) = p := ⟨_, rfl⟩
  have e4 : p.o.length = 4 := by rw [← hp]; exact hO.1
  have HE1 := Lib.hid (show ∀ i : Nat, evO (i : Int) 0 o 0 = (toN p i : Nat) from fun i => by have := toN_int (p := p) (by omega) i; rw [← hp] at this ⊢; exact this)
  have HE2 := Lib.hid (show ∀ i : Nat, evT (i : Int) t H % 8 = (phN p i : Nat) from fun i => by have := phN_int p i; rw [← hp] at this ⊢; exact this)
  have HTO := Lib.hid (show ∀ i, toN p i < 16 from fun i => by have := toN_lt p i; rw [e4] at this; exact this)
  rw [hp]
  have HT := Lib.hid hT
  have HO := Lib.hid hO
  have X0 := Lib.hid (Bx.new w 32 #[.int .i64 4, .int .i64 H, .slice AT nT cT, .slice AO 4 cO])
  have I1 := Lib.hid (show inB 4 1 4 = true by decide)
  clear hT hO e4 hp
  obtain ⟨p0, p1, p2, p3, _⟩ := X0.out.four
  have hmk := run_makeMap_plain (P := Try.prog) (w := w.alloc (.cells #[.int .i64 4, .int .i64 H, .slice AT nT cT, .slice AO 4 cO] 32)) 88
  go_enter Try.func11, Try.ntmps11
  go_wp2_with fail
  refine (i_in _ _ _ _).mono ?_
  rintro e w1 ⟨rfl, rfl⟩
  rw [I1.out]
  go_wp2_with fail
  clear p0 p1 p2 p3 hmk
  go_loopg [4, 5] 16 (fun r v j wr => ∃ (i : Nat) (A : Option Addr) (c : Nat) (es : Array MapEntry) (clock : Nat), i + r = 16 ∧ j = .int .i64 i ∧ v = .slice A i c ∧ OwnSS cellsD wr (w.heap.size + 1 + 1) 79 83 5 (.slice A i c) (colsP p 4 i) ∧ EntsI es.toList (tosP p i) ∧ wr.heap[w.heap.size + 1]? = some (.map es clock) ∧ (∀ j, j < i → dupP p j = false) ∧ Bx wr w.heap.size 32 #[.int .i64 4, .int .i64 H, .slice AT nT cT, .slice AO 4 cO] ∧ Below w.heap.size w wr)
  case atStart =>
    refine ⟨0, _, 0, #[], 0, by omega, rfl, rfl, ?_, by simp [EntsI, tosP], ?_, by simp, ((Bx.new w _ _).alloc _).alloc _, (((Below.refl _ _).alloc (Nat.le_refl _) _).alloc (by simp) _).alloc (by simp <;> omega) _⟩
    · have := OwnSS.lit0 ((w.alloc (.cells #[.int .i64 4, .int .i64 H, .slice AT nT cT, .slice AO 4 cO] 32)).alloc (.map #[] 0)) (base := w.heap.size + 1 + 1) (by simp) 79 83 5 cellsD
      simpa [colsP] using this
    · have := heap_alloc_new (w.alloc (.cells #[.int .i64 4, .int .i64 H, .slice AT nT cT, .slice AO 4 cO] 32)) (.map #[] 0)
      refine map_allocI ?_
      simpa using this
  case round =>
    obtain ⟨i, A3, c3, es, clock, hi, rfl, rfl, ho, hen, hmap, hdup, hx, hb⟩ := hrel
    have HOS := Lib.hid ho
    have HEN := Lib.hid hen
    have HMp := Lib.hid hmap
    have HDU := Lib.hid hdup
    have HX := Lib.hid hx
    have HB := Lib.hid hb
    have hs0 := hb.size
    have hrlt : w.heap.size + 1 < wr.heap.size := (Array.getElem?_eq_some_iff.1 hmap).1
    clear ho hen hmap hdup hx hb
    obtain ⟨p0, p1, p2, p3, _⟩ := HX.out.four
    by_cases hlt : i < 16
    · have htl := HTO.out i
      obtain ⟨tt, htt⟩ : ∃ x, toN p i = x := ⟨_, rfl⟩
      obtain ⟨kk, hkk⟩ : ∃ x, phN p i = x := ⟨_, rfl⟩
      have hk8 : kk < 8 := by rw [← hkk]; exact phN_lt p i
      rw [htt] at htl
      have E1 := Lib.hid (show evO (i : Int) 0 o 0 = (tt : Nat) by rw [HE1.out, htt])
      have E2 := Lib.hid (show evT (i : Int) t H % 8 = (kk : Nat) by rw [HE2.out, hkk])
      obtain ⟨yy, hyy⟩ : ∃ y, phD kk = y := ⟨_, rfl⟩
      have HY := Lib.hid hyy
      have HC := Lib.hid (show colP p 4 i = (List.replicate 16 Dw.zero).set tt yy by unfold colP; rw [htt, hkk, hyy])
      clear hyy
      have HTT := Lib.hid htt
      clear htt hkk
      have hmk : ∀ w : World, (Instr.makeSlice 79 (.int .i64 16) (.int .i64 16)).run Try.prog w = .ok (.slice (some ⟨w.heap.size, 0, none⟩) 16 16) (w.alloc (.cells (madeCells (Value.agg #[.int .i64 0, .int .i64 0, .int .i64 0, .int .i64 0, .int .i64 0]).cells (16 * 5)) 83)) := fun w => run_makeN (P := Try.prog) Try.underlying79 infoDOmega 16 (by omega) (by omega) w
      go_wp2_with fail
      refine (i_EvalP 4 H AT AO nT cT 4 cO t o i _ (HT.out.below HB.out) (HO.out.below HB.out) bT (by omega)).mono ?_
      rintro e w1 ⟨rfl, b1⟩
      rw [E1.out, E2.out]
      have O1 := Lib.hid (HOS.out.below b1)
      have X1 := Lib.hid (HX.out.below b1)
      have B1 := Lib.hid (HB.out.trans (b1.mono hs0))
      have hs1 := b1.size
      have M1 := Lib.hid (map_belowI HMp.out b1)
      clear p0 p1 p2 p3 b1
      obtain ⟨p0, p1, p2, p3, _⟩ := X1.out.four
      have h0t : (0 : Int) ≤ (tt : Int) := by omega
      have h1t : (tt : Int) < 16 := by omega
      cases hd : dupP p i
      · have hz : (tosP p i).any (· == (tt : Int)) = false := by rw [← HTT.out]; exact hd
        have hl : (Instr.lookup 88 (.map (some (w.heap.size + 1))) (.int .i64 tt) false).run Try.prog w1 = .ok (.bool false) w1 := by
          have := run_lookup_i (w.heap.size + 1) clock tt es (tosP p i) w1 M1.out HEN.out
          rw [hz] at this
          exact this
        obtain ⟨w2, hw2⟩ : ∃ w2 : World, { w1 with heap := w1.heap.setIfInBounds (w.heap.size + 1) (.map (es.push { key := .int .i64 tt, val := .bool true, born := clock }) (clock + 1)) } = w2 := ⟨_, rfl⟩
        have hu : (Instr.mapUpdate 88 (.map (some (w.heap.size + 1))) (.int .i64 tt) (.bool true)).run Try.prog w1 = .ok () w2 := by rw [← hw2]; exact run_update_i (w.heap.size + 1) clock tt es (tosP p i) w1 M1.out HEN.out hz
        have M2 := Lib.hid (show w2.heap[w.heap.size + 1]? = some (.map (es.push { key := .int .i64 tt, val := .bool true, born := clock }) (clock + 1)) from hw2 ▸ map_setObjI M1.out)
        have O2 := Lib.hid (show OwnSS cellsD w2 (w.heap.size + 1 + 1) 79 83 5 (.slice A3 i c3) (colsP p 4 i) from hw2 ▸ O1.out.setObjI (by omega) _)
        have X2 := Lib.hid (show Bx w2 w.heap.size 32 #[.int .i64 4, .int .i64 H, .slice AT nT cT, .slice AO 4 cO] from hw2 ▸ X1.out.setObjI (by omega) _)
        have B2 := Lib.hid (show Below w.heap.size w w2 from hw2 ▸ below_setObjI B1.out (by omega) _)
        have hs2 : w.heap.size + 1 + 1 ≤ w2.heap.size := by have := (Array.getElem?_eq_some_iff.1 M2.out).1; omega
        have HE' := Lib.hid (show EntsI (es.push { key := .int .i64 tt, val := .bool true, born := clock }).toList (tosP p (i + 1)) by rw [tosP_succ, HTT.out]; exact HEN.out.push tt clock)
        clear hw2 M1 O1 X1 B1 hz p0 p1 p2 p3
        obtain ⟨p0, p1, p2, p3, _⟩ := X2.out.four
        have W2 := Lib.hid (own_made w2 (q := 4) (n := 16) (by omega) (by omega) (by decide))
        go_wp2_with fail
        refine (i_Phase kk _ hk8).mono ?_
        rintro e w3 ⟨rfl, b3⟩
        rw [HY.out]
        have O3 := Lib.hid (ownsRow_below W2.out b3)
        have B3 := Lib.hid (below_alloc b3)
        clear b3 W2 hmk p0 p1 p2 p3
        obtain ⟨⟨⟨x0, c0⟩, ⟨x1, c1⟩, ⟨x2, c2⟩, ⟨x3, c3'⟩, ⟨x4, c4'⟩⟩, f0, f1, f2, f3, f4⟩ := own5 O3.out htl
        go_upto_region 14 with fail
        obtain ⟨wS, hWS⟩ : ∃ wS, (((((w3.setCell ⟨w2.heap.size, tt * 5, none⟩ (.int .i64 yy.n.a)).setCell ⟨w2.heap.size, tt * 5 + 1, none⟩ (.int .i64 yy.n.b)).setCell ⟨w2.heap.size, tt * 5 + 2, none⟩ (.int .i64 yy.n.c)).setCell ⟨w2.heap.size, tt * 5 + 3, none⟩ (.int .i64 yy.n.d)).setCell ⟨w2.heap.size, tt * 5 + 4, none⟩ (.int .i64 yy.e)) = wS := ⟨_, rfl⟩
        rw [hWS]
        have P3 := Lib.hid (show wS.ownsRow w2.heap.size 83 5 (.slice (some ⟨w2.heap.size, 0, none⟩) 16 16) 16 (cellsD (colP p 4 i)) by rw [← hWS, HC.out]; exact own_stAt O3.out (by simpa using htl) yy)
        have B4 := Lib.hid (show Below w2.heap.size w2 wS by rw [← hWS]; exact below_stAt (o := tt * 5) B3.out (Nat.le_refl _) yy)
        clear hWS O3 B3 c0 c1 c2 c3' c4' f0 f1 f2 f3 f4
        have hs4 := B4.out.size
        have HW := Lib.hid (O2.out.below B4.out)
        obtain ⟨vs, a1, a2, a3⟩ := HW.out
        rw [colsP_len] at a1
        have A1 := Lib.hid a1
        clear a1 a2 a3
        go_wp2_with (at_builtin; refine wpList_app rfl (.tmp 50) (.tmp 52) 27 rfl Try.underlying27 infoDOmegaS rfl (by decide) rfl (A1.out.alloc _) rfl (Rd.lit wS 79 #[.slice (some ⟨w2.heap.size, 0, none⟩) 16 16] 1 1 rfl) (by simp [Value.oneCell']) (by omega) (by decide) (by simp <;> omega) ?_; intro A9 c9 w9 o9 g9)
        have BB := Lib.hid (below_grown ((B4.out.mono hs2).alloc (by omega) (.cells #[.slice (some ⟨w2.heap.size, 0, none⟩) 16 16] 79)) (by simp <;> omega) (A1.out.alloc _) (Nat.le_refl _) g9)
        go_roundg (gk - 1)
        case measure => omega
        case rel =>
          refine ⟨i + 1, A9, c9, _, _, by omega, by go_num, rfl, ?_, HE'.out, map_blockB M2.out BB.out (by omega), fun j hj => ?_, X2.out.blockB BB.out (by omega), B2.out.trans (BB.out.mono (by omega))⟩
          · rw [colsP_succ]
            exact OwnSS.app1 (by decide) O2.out (Nat.le_refl _) hs2 (B4.out.alloc hs4 _) (colP_len p 4 i) (P3.out.alloc _) (colsP_len p 4 i) (A1.out.alloc _) g9 o9
          · rcases Nat.lt_succ_iff_lt_or_eq.1 hj with h | h
            · exact HDU.out j h
            · rw [h]; exact hd
      · have hz : (tosP p i).any (· == (tt : Int)) = true := by rw [← HTT.out]; exact hd
        have hl : (Instr.lookup 88 (.map (some (w.heap.size + 1))) (.int .i64 tt) false).run Try.prog w1 = .ok (.bool true) w1 := by
          have := run_lookup_i (w.heap.size + 1) clock tt es (tosP p i) w1 M1.out HEN.out
          rw [hz] at this
          exact this
        have HDD := Lib.hid (ppmN_dup (n := 4) (show i < 2 ^ 4 from hlt) hd)
        clear hz hd
        go_wp2_with fail
        go_ret
        rw [HDD.out]
        exact ⟨none, 0, rfl, OwnSS.nil _ _ _ _ _ _, B1.out⟩
    · obtain rfl : i = 16 := by omega
      have HF := Lib.hid (ppmN_ok (p := p) (n := 4) fun j hj => HDU.out j hj)
      have HA := Lib.hid (colsP_all p 4 16)
      go_wp2_with fail
      refine (i_flipped _ 16 _ (colsP p 4 16) _ (HOS.out.rd (colsP_len p 4 16)) (by omega) HA.out).mono ?_
      rintro e w6 ⟨A6, c6, rfl, o6, b6⟩
      go_wp2_with fail
      go_ret
      rw [HF.out]
      exact ⟨A6, c6, rfl, o6.base_ hs0, HB.out.trans (b6.mono hs0)⟩
theorem i_Ppm (p : Po) (AT AO : Option Addr) (nT cT nO cO : Nat) (w : World) (hT : RdP w AT nT p.t) (hO : RdP w AO nO p.o) (bT : nT ≤ 549755813888) :
    Calls Try.prog 11 #[.agg #[.int .i64 p.N, .int .i64 p.H, .slice AT nT cT, .slice AO nO cO]] w (RetSD (ppm p) w) := by
  cases hin : inB p.N 1 4
  · rw [ppm_no (by rw [hin]; simp)]
    exact i_PpmNo1 p AT AO nT cT nO cO w hin
  · by_cases hN : (nO : Int) = p.N
    · have hl := hO.1
      have hb := inB_iff.1 hin
      obtain ⟨N, H, t, o⟩ := p
      simp only at hN hl hb hT hO hin ⊢
      subst hN
      rw [ppm_n (p := ⟨nO, H, t, o⟩) (n := nO) (by omega) rfl hl]
      obtain rfl | rfl | rfl | rfl : nO = 1 ∨ nO = 2 ∨ nO = 3 ∨ nO = 4 := by omega
      · exact i_Ppm1 H t o AT AO nT cT cO w hT hO bT
      · exact i_Ppm2 H t o AT AO nT cT cO w hT hO bT
      · exact i_Ppm3 H t o AT AO nT cT cO w hT hO bT
      · exact i_Ppm4 H t o AT AO nT cT cO w hT hO bT
    · rw [ppm_no (by rw [hO.1]; exact fun h => hN h.2)]
      exact i_PpmNo2 p AT AO nT cT nO cO w hin hN
set_option maxRecDepth 100000 in
set_option maxHeartbeats 1600000 in
theorem s_PpmNo1 (p : Po) (AT AO : Option Addr) (nT cT nO cO : Nat) (w : World) (h : inB p.N 1 4 = false) :
    Calls Try.prog 9 #[.agg #[.int .i64 p.N, .int .i64 p.H, .slice AT nT cT, .slice AO nO cO]] w (RetSD [] w) := by
  have I1 := Lib.hid h
  have X0 := Lib.hid (Bx.new w 32 #[.int .i64 p.N, .int .i64 p.H, .slice AT nT cT, .slice AO nO cO])
  clear h
  obtain ⟨p0, p1, p2, p3, _⟩ := X0.out.four
  go_enter Try.func9, Try.ntmps9
  go_wp2_with fail
  refine (s_in _ _ _ _).mono ?_
  rintro e w1 ⟨rfl, rfl⟩
  rw [I1.out]
  go_wp2_with fail
  go_ret
  exact ⟨_, 0, rfl, (by simpa using OwnSS.lit0 (w.alloc (.cells #[.int .i64 p.N, .int .i64 p.H, .slice AT nT cT, .slice AO nO cO] 32)) (base := w.heap.size) (by simp) 79 83 5 cellsD), ((Below.refl _ _).alloc (Nat.le_refl _) _).alloc (by simp) _⟩
set_option maxRecDepth 100000 in
set_option maxHeartbeats 1600000 in
theorem s_PpmNo2 (p : Po) (AT AO : Option Addr) (nT cT nO cO : Nat) (w : World) (h : inB p.N 1 4 = true) (h2 : ¬ (nO : Int) = p.N) :
    Calls Try.prog 9 #[.agg #[.int .i64 p.N, .int .i64 p.H, .slice AT nT cT, .slice AO nO cO]] w (RetSD [] w) := by
  have I1 := Lib.hid h
  have X0 := Lib.hid (Bx.new w 32 #[.int .i64 p.N, .int .i64 p.H, .slice AT nT cT, .slice AO nO cO])
  have h3 : ((nO : Int) == p.N) = false := by simpa using h2
  clear h
  obtain ⟨p0, p1, p2, p3, _⟩ := X0.out.four
  go_enter Try.func9, Try.ntmps9
  go_wp2_with fail
  refine (s_in _ _ _ _).mono ?_
  rintro e w1 ⟨rfl, rfl⟩
  rw [I1.out]
  go_wp2_with fail
  go_ret
  exact ⟨_, 0, rfl, (by simpa using OwnSS.lit0 (w.alloc (.cells #[.int .i64 p.N, .int .i64 p.H, .slice AT nT cT, .slice AO nO cO] 32)) (base := w.heap.size) (by simp) 79 83 5 cellsD), ((Below.refl _ _).alloc (Nat.le_refl _) _).alloc (by simp) _⟩
set_option maxRecDepth 100000 in
set_option maxHeartbeats 6400000 in
theorem s_Ppm1 (H : Int) (t o : List (Int × Int)) (AT AO : Option Addr) (nT cT cO : Nat) (w : World) (hT : RdP w AT nT t) (hO : RdP w AO 1 o) (bT : nT ≤ 549755813888) :
    Calls Try.prog 9 #[.agg #[.int .i64 1, .int .i64 H, .slice AT nT cT, .slice AO 1 cO]] w (RetSD (ppmN ⟨1, H, t, o⟩ 1) w) := by
  obtain ⟨p, hp⟩ : ∃ p : Po, (⟨1, H, t, o⟩ : Po) = p := ⟨_, rfl⟩
  have e4 : p.o.length = 1 := by rw [← hp]; exact hO.1
  have HE1 := Lib.hid (show ∀ i : Nat, evO (i : Int) 0 o 0 = (toN p i : Nat) from fun i => by have := toN_int (p := p) (by omega) i; rw [← hp] at this ⊢; exact this)
  have HE2 := Lib.hid (show ∀ i : Nat, evT (i : Int) t H % 8 = (phN p i : Nat) from fun i => by have := phN_int p i; rw [← hp] at this ⊢; exact this)
  have HTO := Lib.hid (show ∀ i, toN p i < 2 from fun i => by have := toN_lt p i; rw [e4] at this; exact this)
  rw [hp]
  have HT := Lib.hid hT
  have HO := Lib.hid hO
  have X0 := Lib.hid (Bx.new w 32 #[.int .i64 1, .int .i64 H, .slice AT nT cT, .slice AO 1 cO])
  have I1 := Lib.hid (show inB 1 1 4 = true by decide)
  clear hT hO e4 hp
  obtain ⟨p0, p1, p2, p3, _⟩ := X0.out.four
  go_enter Try.func9, Try.ntmps9
  go_wp2_with fail
  refine (s_in _ _ _ _).mono ?_
  rintro e w1 ⟨rfl, rfl⟩
  rw [I1.out]
  go_wp2_with fail
  clear p0 p1 p2 p3
  go_loopg [3, 4, 5] 2 (fun r v s j wr => ∃ (i : Nat) (A : Option Addr) (c : Nat) (S : Option Addr) (d : Nat), i + r = 2 ∧ j = .int .i64 i ∧ v = .slice A i c ∧ s = .slice S i d ∧ OwnSS cellsD wr (w.heap.size + 1) 79 83 5 (.slice A i c) (colsP p 1 i) ∧ wr.ownsRow (w.heap.size + 1) 3 1 (.slice S i d) i (cellsI (tosP p i)) ∧ (∀ j, j < i → dupP p j = false) ∧ Bx wr w.heap.size 32 #[.int .i64 1, .int .i64 H, .slice AT nT cT, .slice AO 1 cO] ∧ Below w.heap.size w wr)
  case atStart =>
    refine ⟨0, _, 0, _, 0, by omega, rfl, rfl, rfl, ?_, ?_, by simp, ((Bx.new w _ _).alloc _).alloc _, (((Below.refl _ _).alloc (Nat.le_refl _) _).alloc (by simp) _).alloc (by simp <;> omega) _⟩
    · have := (OwnSS.lit0 (w.alloc (.cells #[.int .i64 1, .int .i64 H, .slice AT nT cT, .slice AO 1 cO] 32)) (base := w.heap.size + 1) (by simp) 79 83 5 cellsD).alloc (.cells #[] 3)
      simpa [colsP] using this
    · exact ownsRow_lit' _ #[] 0 (by simp) (by simp) (by simp [maxLen]) rfl rfl
  case round =>
    obtain ⟨i, A3, c3, S3, d3, hi, rfl, rfl, rfl, ho, hse, hdup, hx, hb⟩ := hrel
    have HOS := Lib.hid ho
    have HSE := Lib.hid hse
    have HDU := Lib.hid hdup
    have HX := Lib.hid hx
    have HB := Lib.hid hb
    have hs0 := hb.size
    have hrlt : w.heap.size < wr.heap.size := hx.lt
    clear ho hse hdup hx hb
    obtain ⟨p0, p1, p2, p3, _⟩ := HX.out.four
    by_cases hlt : i < 2
    · have htl := HTO.out i
      obtain ⟨tt, htt⟩ : ∃ x, toN p i = x := ⟨_, rfl⟩
      obtain ⟨kk, hkk⟩ : ∃ x, phN p i = x := ⟨_, rfl⟩
      have hk8 : kk < 8 := by rw [← hkk]; exact phN_lt p i
      rw [htt] at htl
      have E1 := Lib.hid (show evO (i : Int) 0 o 0 = (tt : Nat) by rw [HE1.out, htt])
      have E2 := Lib.hid (show evT (i : Int) t H % 8 = (kk : Nat) by rw [HE2.out, hkk])
      obtain ⟨yy, hyy⟩ : ∃ y, phD kk = y := ⟨_, rfl⟩
      have HY := Lib.hid hyy
      have HC := Lib.hid (show colP p 1 i = (List.replicate 2 Dw.zero).set tt yy by unfold colP; rw [htt, hkk, hyy])
      clear hyy
      have HTT := Lib.hid htt
      clear htt hkk
      have hmk : ∀ w : World, (Instr.makeSlice 79 (.int .i64 2) (.int .i64 2)).run Try.prog w = .ok (.slice (some ⟨w.heap.size, 0, none⟩) 2 2) (w.alloc (.cells (madeCells (Value.agg #[.int .i64 0, .int .i64 0, .int .i64 0, .int .i64 0, .int .i64 0]).cells (2 * 5)) 83)) := fun w => run_makeN (P := Try.prog) Try.underlying79 infoDOmega 2 (by omega) (by omega) w
      go_wp2_with fail
      refine (s_EvalP 1 H AT AO nT cT 1 cO t o i _ (HT.out.below HB.out) (HO.out.below HB.out) bT (by omega)).mono ?_
      rintro e w1 ⟨rfl, b1⟩
      rw [E1.out, E2.out]
      have O1 := Lib.hid (HOS.out.below b1)
      have X1 := Lib.hid (HX.out.below b1)
      have B1 := Lib.hid (HB.out.trans (b1.mono hs0))
      have hs1 := b1.size
      have S1 := Lib.hid (ownsRow_below HSE.out b1)
      clear p0 p1 p2 p3 b1
      obtain ⟨p0, p1, p2, p3, _⟩ := X1.out.four
      have h0t : (0 : Int) ≤ (tt : Int) := by omega
      have h1t : (tt : Int) < 2 := by omega
      cases hd : dupP p i
      · have hz : hasI (tosP p i) tt = false := by rw [← HTT.out]; exact hd
        have HZ := Lib.hid hz
        clear hz
        go_wp2_with fail
        refine (s_hasI S3 i d3 (tosP p i) tt _ ⟨tosP_len p i, Rd.own S1.out⟩ (by omega)).mono ?_
        rintro e w' ⟨rfl, rfl⟩
        rw [HZ.out]
        go_wp2_with (at_builtin; refine wpList_app rfl (.tmp 42) (.tmp 44) 62 rfl Try.underlying62 infoInt rfl (by decide) rfl (S1.out.alloc _) rfl (Rd.lit w1 3 #[.int .i64 tt] 1 1 rfl) (by simp [Value.oneCell']) (by omega) (by decide) (by simp <;> omega) ?_; intro A4 c4 w2 o4 g4; have hbb := below_grown (B := w.heap.size + 1) ((Below.refl _ _).alloc (by omega) _) (by simp <;> omega) (S1.out.alloc (.cells #[.int .i64 tt] 3)) (Nat.le_refl _) g4; have hs2 : w.heap.size + 1 ≤ w2.heap.size := Nat.le_trans (by omega) hbb.size; have S2 := Lib.hid (show w2.ownsRow (w.heap.size + 1) 3 1 (.slice A4 (i + 1) c4) (i + 1) (cellsI (tosP p (i + 1))) by rw [tosP_succ, HTT.out, cellsI_append]; exact o4); have O2 := Lib.hid ((O1.out.alloc (.cells #[.int .i64 tt] 3)).kept g4 (fun e n sz u xs he hu => own_own_ne' hu (S1.out.alloc _) (by rcases he with rfl | rfl <;> decide))); have X2 := Lib.hid (X1.out.blockB hbb (by omega)); have B2 := Lib.hid (B1.out.trans (hbb.mono (by omega))); clear o4 g4 hbb p0 p1 p2 p3; obtain ⟨p0, p1, p2, p3, _⟩ := X2.out.four)
        have W2 := Lib.hid (own_made w2 (q := 1) (n := 2) (by omega) (by omega) (by decide))
        go_wp2_with fail
        refine (s_Phase kk _ hk8).mono ?_
        rintro e w3 ⟨rfl, b3⟩
        rw [HY.out]
        have O3 := Lib.hid (ownsRow_below W2.out b3)
        have B3 := Lib.hid (below_alloc b3)
        clear b3 W2 hmk p0 p1 p2 p3
        obtain ⟨⟨⟨x0, c0⟩, ⟨x1, c1⟩, ⟨x2, c2⟩, ⟨x3, c3'⟩, ⟨x4, c4'⟩⟩, f0, f1, f2, f3, f4⟩ := own5 O3.out htl
        go_upto_region 14 with fail
        obtain ⟨wS, hWS⟩ : ∃ wS, (((((w3.setCell ⟨w2.heap.size, tt * 5, none⟩ (.int .i64 yy.n.a)).setCell ⟨w2.heap.size, tt * 5 + 1, none⟩ (.int .i64 yy.n.b)).setCell ⟨w2.heap.size, tt * 5 + 2, none⟩ (.int .i64 yy.n.c)).setCell ⟨w2.heap.size, tt * 5 + 3, none⟩ (.int .i64 yy.n.d)).setCell ⟨w2.heap.size, tt * 5 + 4, none⟩ (.int .i64 yy.e)) = wS := ⟨_, rfl⟩
        rw [hWS]
        have P3 := Lib.hid (show wS.ownsRow w2.heap.size 83 5 (.slice (some ⟨w2.heap.size, 0, none⟩) 2 2) 2 (cellsD (colP p 1 i)) by rw [← hWS, HC.out]; exact own_stAt O3.out (by simpa using htl) yy)
        have B4 := Lib.hid (show Below w2.heap.size w2 wS by rw [← hWS]; exact below_stAt (o := tt * 5) B3.out (Nat.le_refl _) yy)
        clear hWS O3 B3 c0 c1 c2 c3' c4' f0 f1 f2 f3 f4
        have hs4 := B4.out.size
        have HW := Lib.hid (O2.out.below B4.out)
        obtain ⟨vs, a1, a2, a3⟩ := HW.out
        rw [colsP_len] at a1
        have A1 := Lib.hid a1
        clear a1 a2 a3
        go_wp2_with (at_builtin; refine wpList_app rfl (.tmp 56) (.tmp 58) 27 rfl Try.underlying27 infoDOmegaS rfl (by decide) rfl (A1.out.alloc _) rfl (Rd.lit wS 79 #[.slice (some ⟨w2.heap.size, 0, none⟩) 2 2] 1 1 rfl) (by simp [Value.oneCell']) (by omega) (by decide) (by simp <;> omega) ?_; intro A9 c9 w9 o9 g9)
        have BB := Lib.hid (below_grown ((B4.out.mono hs2).alloc (by omega) (.cells #[.slice (some ⟨w2.heap.size, 0, none⟩) 2 2] 79)) (by simp <;> omega) (A1.out.alloc _) (Nat.le_refl _) g9)
        go_roundg (gk - 1)
        case measure => omega
        case rel =>
          refine ⟨i + 1, A9, c9, A4, c4, by omega, by go_num, rfl, rfl, ?_, ?_, fun j hj => ?_, X2.out.blockB BB.out (by omega), B2.out.trans (BB.out.mono (by omega))⟩
          · rw [colsP_succ]
            exact OwnSS.app1 (by decide) O2.out (Nat.le_refl _) hs2 (B4.out.alloc hs4 _) (colP_len p 1 i) (P3.out.alloc _) (colsP_len p 1 i) (A1.out.alloc _) g9 o9
          · exact ((ownsRow_below S2.out B4.out).alloc (.cells #[.slice (some ⟨w2.heap.size, 0, none⟩) 2 2] 79)).kept g9 (own_own_ne' ((ownsRow_below S2.out B4.out).alloc (.cells #[.slice (some ⟨w2.heap.size, 0, none⟩) 2 2] 79)) (A1.out.alloc (.cells #[.slice (some ⟨w2.heap.size, 0, none⟩) 2 2] 79)) (by decide))
          · rcases Nat.lt_succ_iff_lt_or_eq.1 hj with h | h
            · exact HDU.out j h
            · rw [h]; exact hd
      · have hz : hasI (tosP p i) tt = true := by rw [← HTT.out]; exact hd
        have HZ := Lib.hid hz
        have HDD := Lib.hid (ppmN_dup (n := 1) (show i < 2 ^ 1 from hlt) hd)
        clear hz hd
        go_wp2_with fail
        refine (s_hasI S3 i d3 (tosP p i) tt _ ⟨tosP_len p i, Rd.own S1.out⟩ (by omega)).mono ?_
        rintro e w' ⟨rfl, rfl⟩
        rw [HZ.out]
        go_wp2_with fail
        go_ret
        rw [HDD.out]
        exact ⟨_, 0, rfl, OwnSS.lit0 w1 B1.out.size _ _ _ _, B1.out.alloc B1.out.size _⟩
    · obtain rfl : i = 2 := by omega
      have HF := Lib.hid (ppmN_ok (p := p) (n := 1) fun j hj => HDU.out j hj)
      have HA := Lib.hid (colsP_all p 1 2)
      go_wp2_with fail
      refine (s_l7Cols _ 2 _ (colsP p 1 2) _ (HOS.out.rd (colsP_len p 1 2)) (by omega) HA.out).mono ?_
      rintro e w6 ⟨A6, c6, rfl, o6, b6⟩
      go_wp2_with fail
      go_ret
      rw [HF.out]
      exact ⟨A6, c6, rfl, o6.base_ hs0, HB.out.trans (b6.mono hs0)⟩
set_option maxRecDepth 100000 in
set_option maxHeartbeats 6400000 in
theorem s_Ppm2 (H : Int) (t o : List (Int × Int)) (AT AO : Option Addr) (nT cT cO : Nat) (w : World) (hT : RdP w AT nT t) (hO : RdP w AO 2 o) (bT : nT ≤ 549755813888) :
    Calls Try.prog 9 #[.agg #[.int .i64 2, .int .i64 H, .slice AT nT cT, .slice AO 2 cO]] w (RetSD (ppmN ⟨2, H, t, o⟩ 2) w) := by
  obtain ⟨p, hp⟩ : ∃ p : Po, (⟨2, H, t, o⟩ : Po) = p := ⟨_, rfl⟩
  have e4 : p.o.length = 2 := by rw [← hp]; exact hO.1
  have HE1 := Lib.hid (show ∀ i : Nat, evO (i : Int) 0 o 0 = (toN p i : Nat) from fun i => by have := toN_int (p := p) (by omega) i; rw [← hp] at this ⊢; exact this)
  have HE2 := Lib.hid (show ∀ i : Nat, evT (i : Int) t H % 8 = (phN p i : Nat) from fun i => by have := phN_int p i; rw [← hp] at this ⊢; exact this)
  have HTO := Lib.hid (show ∀ i, toN p i < 4 from fun i => by have := toN_lt p i; rw [e4] at this; exact this)
  rw [hp]
  have HT := Lib.hid hT
  have HO := Lib.hid hO
  have X0 := Lib.hid (Bx.new w 32 #[.int .i64 2, .int .i64 H, .slice AT nT cT, .slice AO 2 cO])
  have I1 := Lib.hid (show inB 2 1 4 = true by decide)
  clear hT hO e4 hp
  obtain ⟨p0, p1, p2, p3, _⟩ := X0.out.four
  go_enter Try.func9, Try.ntmps9
  go_wp2_with fail
  refine (s_in _ _ _ _).mono ?_
  rintro e w1 ⟨rfl, rfl⟩
  rw [I1.out]
  go_wp2_with fail
  clear p0 p1 p2 p3
  go_loopg [3, 4, 5] 4 (fun r v s j wr => ∃ (i : Nat) (A : Option Addr) (c : Nat) (S : Option Addr) (d : Nat), i + r = 4 ∧ j = .int .i64 i ∧ v = .slice A i c ∧ s = .slice S i d ∧ OwnSS cellsD wr (w.heap.size + 1) 79 83 5 (.slice A i c) (colsP p 2 i) ∧ wr.ownsRow (w.heap.size + 1) 3 1 (.slice S i d) i (cellsI (tosP p i)) ∧ (∀ j, j < i → dupP p j = false) ∧ Bx wr w.heap.size 32 #[.int .i64 2, .int .i64 H, .slice AT nT cT, .slice AO 2 cO] ∧ Below w.heap.size w wr)
  case atStart =>
    refine ⟨0, _, 0, _, 0, by omega, rfl, rfl, rfl, ?_, ?_, by simp, ((Bx.new w _ _).alloc _).alloc _, (((Below.refl _ _).alloc (Nat.le_refl _) _).alloc (by simp) _).alloc (by simp <;> omega) _⟩
    · have := (OwnSS.lit0 (w.alloc (.cells #[.int .i64 2, .int .i64 H, .slice AT nT cT, .slice AO 2 cO] 32)) (base := w.heap.size + 1) (by simp) 79 83 5 cellsD).alloc (.cells #[] 3)
      simpa [colsP] using this
    · exact ownsRow_lit' _ #[] 0 (by simp) (by simp) (by simp [maxLen]) rfl rfl
  case round =>
    obtain ⟨i, A3, c3, S3, d3, hi, rfl, rfl, rfl, ho, hse, hdup, hx, hb⟩ := hrel
    have HOS := Lib.hid ho
    have HSE := Lib.hid hse
    have HDU := Lib.hid hdup
    have HX := Lib.hid hx
    have HB := Lib.hid hb
    have hs0 := hb.size
    have hrlt : w.heap.size < wr.heap.size := hx.lt
    clear ho hse hdup hx hb
    obtain ⟨p0, p1, p2, p3, _⟩ := HX.out.four
    by_cases hlt : i < 4
    · have htl := HTO.out i
      obtain ⟨tt, htt⟩ : ∃ x, toN p i = x := ⟨_, rfl⟩
      obtain ⟨kk, hkk⟩ : ∃ x, phN p i = x := ⟨_, rfl⟩
      have hk8 : kk < 8 := by rw [← hkk]; exact phN_lt p i
      rw [htt] at htl
      have E1 := Lib.hid (show evO (i : Int) 0 o 0 = (tt : Nat) by rw [HE1.out, htt])
      have E2 := Lib.hid (show evT (i : Int) t H % 8 = (kk : Nat) by rw [HE2.out, hkk])
      obtain ⟨yy, hyy⟩ : ∃ y, phD kk = y := ⟨_, rfl⟩
      have HY := Lib.hid hyy
      have HC := Lib.hid (show colP p 2 i = (List.replicate 4 Dw.zero).set tt yy by unfold colP; rw [htt, hkk, hyy])
      clear hyy
      have HTT := Lib.hid htt
      clear htt hkk
      have hmk : ∀ w : World, (Instr.makeSlice 79 (.int .i64 4) (.int .i64 4)).run Try.prog w = .ok (.slice (some ⟨w.heap.size, 0, none⟩) 4 4) (w.alloc (.cells (madeCells (Value.agg #[.int .i64 0, .int .i64 0, .int .i64 0, .int .i64 0, .int .i64 0]).cells (4 * 5)) 83)) := fun w => run_makeN (P := Try.prog) Try.underlying79 infoDOmega 4 (by omega) (by omega) w
      go_wp2_with fail
      refine (s_EvalP 2 H AT AO nT cT 2 cO t o i _ (HT.out.below HB.out) (HO.out.below HB.out) bT (by omega)).mono ?_
      rintro e w1 ⟨rfl, b1⟩
      rw [E1.out, E2.out]
      have O1 := Lib.hid (HOS.out.below b1)
      have X1 := Lib.hid (HX.out.below b1)
      have B1 := Lib.hid (HB.out.trans (b1.mono hs0))
      have hs1 := b1.size
      have S1 := Lib.hid (ownsRow_below HSE.out b1)
      clear p0 p1 p2 p3 b1
      obtain ⟨p0, p1, p2, p3, _⟩ := X1.out.four
      have h0t : (0 : Int) ≤ (tt : Int) := by omega
      have h1t : (tt : Int) < 4 := by omega
      cases hd : dupP p i
      · have hz : hasI (tosP p i) tt = false := by rw [← HTT.out]; exact hd
        have HZ := Lib.hid hz
        clear hz
        go_wp2_with fail
        refine (s_hasI S3 i d3 (tosP p i) tt _ ⟨tosP_len p i, Rd.own S1.out⟩ (by omega)).mono ?_
        rintro e w' ⟨rfl, rfl⟩
        rw [HZ.out]
        go_wp2_with (at_builtin; refine wpList_app rfl (.tmp 42) (.tmp 44) 62 rfl Try.underlying62 infoInt rfl (by decide) rfl (S1.out.alloc _) rfl (Rd.lit w1 3 #[.int .i64 tt] 1 1 rfl) (by simp [Value.oneCell']) (by omega) (by decide) (by simp <;> omega) ?_; intro A4 c4 w2 o4 g4; have hbb := below_grown (B := w.heap.size + 1) ((Below.refl _ _).alloc (by omega) _) (by simp <;> omega) (S1.out.alloc (.cells #[.int .i64 tt] 3)) (Nat.le_refl _) g4; have hs2 : w.heap.size + 1 ≤ w2.heap.size := Nat.le_trans (by omega) hbb.size; have S2 := Lib.hid (show w2.ownsRow (w.heap.size + 1) 3 1 (.slice A4 (i + 1) c4) (i + 1) (cellsI (tosP p (i + 1))) by rw [tosP_succ, HTT.out, cellsI_append]; exact o4); have O2 := Lib.hid ((O1.out.alloc (.cells #[.int .i64 tt] 3)).kept g4 (fun e n sz u xs he hu => own_own_ne' hu (S1.out.alloc _) (by rcases he with rfl | rfl <;> decide))); have X2 := Lib.hid (X1.out.blockB hbb (by omega)); have B2 := Lib.hid (B1.out.trans (hbb.mono (by omega))); clear o4 g4 hbb p0 p1 p2 p3; obtain ⟨p0, p1, p2, p3, _⟩ := X2.out.four)
        have W2 := Lib.hid (own_made w2 (q := 2) (n := 4) (by omega) (by omega) (by decide))
        go_wp2_with fail
        refine (s_Phase kk _ hk8).mono ?_
        rintro e w3 ⟨rfl, b3⟩
        rw [HY.out]
        have O3 := Lib.hid (ownsRow_below W2.out b3)
        have B3 := Lib.hid (below_alloc b3)
        clear b3 W2 hmk p0 p1 p2 p3
        obtain ⟨⟨⟨x0, c0⟩, ⟨x1, c1⟩, ⟨x2, c2⟩, ⟨x3, c3'⟩, ⟨x4, c4'⟩⟩, f0, f1, f2, f3, f4⟩ := own5 O3.out htl
        go_upto_region 14 with fail
        obtain ⟨wS, hWS⟩ : ∃ wS, (((((w3.setCell ⟨w2.heap.size, tt * 5, none⟩ (.int .i64 yy.n.a)).setCell ⟨w2.heap.size, tt * 5 + 1, none⟩ (.int .i64 yy.n.b)).setCell ⟨w2.heap.size, tt * 5 + 2, none⟩ (.int .i64 yy.n.c)).setCell ⟨w2.heap.size, tt * 5 + 3, none⟩ (.int .i64 yy.n.d)).setCell ⟨w2.heap.size, tt * 5 + 4, none⟩ (.int .i64 yy.e)) = wS := ⟨_, rfl⟩
        rw [hWS]
        have P3 := Lib.hid (show wS.ownsRow w2.heap.size 83 5 (.slice (some ⟨w2.heap.size, 0, none⟩) 4 4) 4 (cellsD (colP p 2 i)) by rw [← hWS, HC.out]; exact own_stAt O3.out (by simpa using htl) yy)
        have B4 := Lib.hid (show Below w2.heap.size w2 wS by rw [← hWS]; exact below_stAt (o := tt * 5) B3.out (Nat.le_refl _) yy)
        clear hWS O3 B3 c0 c1 c2 c3' c4' f0 f1 f2 f3 f4
        have hs4 := B4.out.size
        have HW := Lib.hid (O2.out.below B4.out)
        obtain ⟨vs, a1, a2, a3⟩ := HW.out
        rw [colsP_len] at a1
        have A1 := Lib.hid a1
        clear a1 a2 a3
        go_wp2_with (at_builtin; refine wpList_app rfl (.tmp 56) (.tmp 58) 27 rfl Try.underlying27 infoDOmegaS rfl (by decide) rfl (A1.out.alloc _) rfl (Rd.lit wS 79 #[.slice (some ⟨w2.heap.size, 0, none⟩) 4 4] 1 1 rfl) (by simp [Value.oneCell']) (by omega) (by decide) (by simp <;> omega) ?_; intro A9 c9 w9 o9 g9)
        have BB := Lib.hid (below_grown ((B4.out.mono hs2).alloc (by omega) (.cells #[.slice (some ⟨w2.heap.size, 0, none⟩) 4 4] 79)) (by simp <;> omega) (A1.out.alloc _) (Nat.le_refl _) g9)
        go_roundg (gk - 1)
        case measure => omega
        case rel =>
          refine ⟨i + 1, A9, c9, A4, c4, by omega, by go_num, rfl, rfl, ?_, ?_, fun j hj => ?_, X2.out.blockB BB.out (by omega), B2.out.trans (BB.out.mono (by omega))⟩
          · rw [colsP_succ]
            exact OwnSS.app1 (by decide) O2.out (Nat.le_refl _) hs2 (B4.out.alloc hs4 _) (colP_len p 2 i) (P3.out.alloc _) (colsP_len p 2 i) (A1.out.alloc _) g9 o9
          · exact ((ownsRow_below S2.out B4.out).alloc (.cells #[.slice (some ⟨w2.heap.size, 0, none⟩) 4 4] 79)).kept g9 (own_own_ne' ((ownsRow_below S2.out B4.out).alloc (.cells #[.slice (some ⟨w2.heap.size, 0, none⟩) 4 4] 79)) (A1.out.alloc (.cells #[.slice (some ⟨w2.heap.size, 0, none⟩) 4 4] 79)) (by decide))
          · rcases Nat.lt_succ_iff_lt_or_eq.1 hj with h | h
            · exact HDU.out j h
            · rw [h]; exact hd
      · have hz : hasI (tosP p i) tt = true := by rw [← HTT.out]; exact hd
        have HZ := Lib.hid hz
        have HDD := Lib.hid (ppmN_dup (n := 2) (show i < 2 ^ 2 from hlt) hd)
        clear hz hd
        go_wp2_with fail
        refine (s_hasI S3 i d3 (tosP p i) tt _ ⟨tosP_len p i, Rd.own S1.out⟩ (by omega)).mono ?_
        rintro e w' ⟨rfl, rfl⟩
        rw [HZ.out]
        go_wp2_with fail
        go_ret
        rw [HDD.out]
        exact ⟨_, 0, rfl, OwnSS.lit0 w1 B1.out.size _ _ _ _, B1.out.alloc B1.out.size _⟩
    · obtain rfl : i = 4 := by omega
      have HF := Lib.hid (ppmN_ok (p := p) (n := 2) fun j hj => HDU.out j hj)
      have HA := Lib.hid (colsP_all p 2 4)
      go_wp2_with fail
      refine (s_l7Cols _ 4 _ (colsP p 2 4) _ (HOS.out.rd (colsP_len p 2 4)) (by omega) HA.out).mono ?_
      rintro e w6 ⟨A6, c6, rfl, o6, b6⟩
      go_wp2_with fail
      go_ret
      rw [HF.out]
      exact ⟨A6, c6, rfl, o6.base_ hs0, HB.out.trans (b6.mono hs0)⟩
set_option maxRecDepth 100000 in
set_option maxHeartbeats 6400000 in
theorem s_Ppm3 (H : Int) (t o : List (Int × Int)) (AT AO : Option Addr) (nT cT cO : Nat) (w : World) (hT : RdP w AT nT t) (hO : RdP w AO 3 o) (bT : nT ≤ 549755813888) :
    Calls Try.prog 9 #[.agg #[.int .i64 3, .int .i64 H, .slice AT nT cT, .slice AO 3 cO]] w (RetSD (ppmN ⟨3, H, t, o⟩ 3) w) := by
  obtain ⟨p, hp⟩ : ∃ p : Po, (⟨3, H, t, o⟩ : Po) = p := ⟨_, rfl⟩
  have e4 : p.o.length = 3 := by rw [← hp]; exact hO.1
  have HE1 := Lib.hid (show ∀ i : Nat, evO (i : Int) 0 o 0 = (toN p i : Nat) from fun i => by have := toN_int (p := p) (by omega) i; rw [← hp] at this ⊢; exact this)
  have HE2 := Lib.hid (show ∀ i : Nat, evT (i : Int) t H % 8 = (phN p i : Nat) from fun i => by have := phN_int p i; rw [← hp] at this ⊢; exact this)
  have HTO := Lib.hid (show ∀ i, toN p i < 8 from fun i => by have := toN_lt p i; rw [e4] at this; exact this)
  rw [hp]
  have HT := Lib.hid hT
  have HO := Lib.hid hO
  have X0 := Lib.hid (Bx.new w 32 #[.int .i64 3, .int .i64 H, .slice AT nT cT, .slice AO 3 cO])
  have I1 := Lib.hid (show inB 3 1 4 = true by decide)
  clear hT hO e4 hp
  obtain ⟨p0, p1, p2, p3, _⟩ := X0.out.four
  go_enter Try.func9, Try.ntmps9
  go_wp2_with fail
  refine (s_in _ _ _ _).mono ?_
  rintro e w1 ⟨rfl, rfl⟩
  rw [I1.out]
  go_wp2_with fail
  clear p0 p1 p2 p3
  go_loopg [3, 4, 5] 8 (fun r v s j wr => ∃ (i : Nat) (A : Option Addr) (c : Nat) (S : Option Addr) (d : Nat), i + r = 8 ∧ j = .int .i64 i ∧ v = .slice A i c ∧ s = .slice S i d ∧ OwnSS cellsD wr (w.heap.size + 1) 79 83 5 (.slice A i c) (colsP p 3 i) ∧ wr.ownsRow (w.heap.size + 1) 3 1 (.slice S i d) i (cellsI (tosP p i)) ∧ (∀ j, j < i → dupP p j = false) ∧ Bx wr w.heap.size 32 #[.int .i64 3, .int .i64 H, .slice AT nT cT, .slice AO 3 cO] ∧ Below w.heap.size w wr)
  case atStart =>
    refine ⟨0, _, 0, _, 0, by omega, rfl, rfl, rfl, ?_, ?_, by simp, ((Bx.new w _ _).alloc _).alloc _, (((Below.refl _ _).alloc (Nat.le_refl _) _).alloc (by simp) _).alloc (by simp <;> omega) _⟩
    · have := (OwnSS.lit0 (w.alloc (.cells #[.int .i64 3, .int .i64 H, .slice AT nT cT, .slice AO 3 cO] 32)) (base := w.heap.size + 1) (by simp) 79 83 5 cellsD).alloc (.cells #[] 3)
      simpa [colsP] using this
    · exact ownsRow_lit' _ #[] 0 (by simp) (by simp) (by simp [maxLen]) rfl rfl
  case round =>
    obtain ⟨i, A3, c3, S3, d3, hi, rfl, rfl, rfl, ho, hse, hdup, hx, hb⟩ := hrel
    have HOS := Lib.hid ho
    have HSE := Lib.hid hse
    have HDU := Lib.hid hdup
    have HX := Lib.hid hx
    have HB := Lib.hid hb
    have hs0 := hb.size
    have hrlt : w.heap.size < wr.heap.size := hx.lt
    clear ho hse hdup hx hb
    obtain ⟨p0, p1, p2, p3, _⟩ := HX.out.four
    by_cases hlt : i < 8
    · have htl := HTO.out i
      obtain ⟨tt, htt⟩ : ∃ x, toN p i = x := ⟨_, rfl⟩
      obtain ⟨kk, hkk⟩ : ∃ x, phN p i = x := ⟨_, rfl⟩
      have hk8 : kk < 8 := by rw [← hkk]; exact phN_lt p i
      rw [htt] at htl
      have E1 := Lib.hid (show evO (i : Int) 0 o 0 = (tt : Nat) by rw [HE1.out, htt])
      have E2 := Lib.hid (show evT (i : Int) t H % 8 = (kk : Nat) by rw [HE2.out, hkk])
      obtain ⟨yy, hyy⟩ : ∃ y, phD kk = y := ⟨_, rfl⟩
      have HY := Lib.hid hyy
      have HC := Lib.hid (show colP p 3 i = (List.replicate 8 Dw.zero).set tt yy by unfold colP; rw [htt, hkk, hyy])
      clear hyy
      have HTT := Lib.hid htt
      clear htt hkk
      have hmk : ∀ w : World, (Instr.makeSlice 79 (.int .i64 8) (.int .i64 8)).run Try.prog w = .ok (.slice (some ⟨w.heap.size, 0, none⟩) 8 8) (w.alloc (.cells (madeCells (Value.agg #[.int .i64 0, .int .i64 0, .int .i64 0, .int .i64 0, .int .i64 0]).cells (8 * 5)) 83)) := fun w => run_makeN (P := Try.prog) Try.underlying79 infoDOmega 8 (by omega) (by omega) w
      go_wp2_with fail
      refine (s_EvalP 3 H AT AO nT cT 3 cO t o i _ (HT.out.below HB.out) (HO.out.below HB.out) bT (by omega)).mono ?_
      rintro e w1 ⟨rfl, b1⟩
      rw [E1.out, E2.out]
      have O1 := Lib.hid (HOS.out.below b1)
      have X1 := Lib.hid (HX.out.below b1)
      have B1 := Lib.hid (HB.out.trans (b1.mono hs0))
      have hs1 := b1.size
      have S1 := Lib.hid (ownsRow_below HSE.out b1)
      clear p0 p1 p2 p3 b1
      obtain ⟨p0, p1, p2, p3, _⟩ := X1.out.four
      have h0t : (0 : Int) ≤ (tt : Int) := by omega
      have h1t : (tt : Int) < 8 := by omega
      cases hd : dupP p i
      · have hz : hasI (tosP p i) tt = false := by rw [← HTT.out]; exact hd
        have HZ := Lib.hid hz
        clear hz
        go_wp2_with fail
        refine (s_hasI S3 i d3 (tosP p i) tt _ ⟨tosP_len p i, Rd.own S1.out⟩ (by omega)).mono ?_
        rintro e w' ⟨rfl, rfl⟩
        rw [HZ.out]
        go_wp2_with (at_builtin; refine wpList_app rfl (.tmp 42) (.tmp 44) 62 rfl Try.underlying62 infoInt rfl (by decide) rfl (S1.out.alloc _) rfl (Rd.lit w1 3 #[.int .i64 tt] 1 1 rfl) (by simp [Value.oneCell']) (by omega) (by decide) (by simp <;> omega) ?_; intro A4 c4 w2 o4 g4; have hbb := below_grown (B := w.heap.size + 1) ((Below.refl _ _).alloc (by omega) _) (by simp <;> omega) (S1.out.alloc (.cells #[.int .i64 tt] 3)) (Nat.le_refl _) g4; have hs2 : w.heap.size + 1 ≤ w2.heap.size := Nat.le_trans (by omega) hbb.size; have S2 := Lib.hid (show w2.ownsRow (w.heap.size + 1) 3 1 (.slice A4 (i + 1) c4) (i + 1) (cellsI (tosP p (i + 1))) by rw [tosP_succ, HTT.out, cellsI_append]; exact o4); have O2 := Lib.hid ((O1.out.alloc (.cells #[.int .i64 tt] 3)).kept g4 (fun e n sz u xs he hu => own_own_ne' hu (S1.out.alloc _) (by rcases he with rfl | rfl <;> decide))); have X2 := Lib.hid (X1.out.blockB hbb (by omega)); have B2 := Lib.hid (B1.out.trans (hbb.mono (by omega))); clear o4 g4 hbb p0 p1 p2 p3; obtain ⟨p0, p1, p2, p3, _⟩ := X2.out.four)
        have W2 := Lib.hid (own_made w2 (q := 3) (n := 8) (by omega) (by omega) (by decide))
        go_wp2_with fail
        refine (s_Phase kk _ hk8).mono ?_
        rintro e w3 ⟨rfl, b3⟩
        rw [HY.out]
        have O3 := Lib.hid (ownsRow_below W2.out b3)
        have B3 := Lib.hid (below_alloc b3)
        clear b3 W2 hmk p0 p1 p2 p3
        obtain ⟨⟨⟨x0, c0⟩, ⟨x1, c1⟩, ⟨x2, c2⟩, ⟨x3, c3'⟩, ⟨x4, c4'⟩⟩, f0, f1, f2, f3, f4⟩ := own5 O3.out htl
        go_upto_region 14 with fail
        obtain ⟨wS, hWS⟩ : ∃ wS, (((((w3.setCell ⟨w2.heap.size, tt * 5, none⟩ (.int .i64 yy.n.a)).setCell ⟨w2.heap.size, tt * 5 + 1, none⟩ (.int .i64 yy.n.b)).setCell ⟨w2.heap.size, tt * 5 + 2, none⟩ (.int .i64 yy.n.c)).setCell ⟨w2.heap.size, tt * 5 + 3, none⟩ (.int .i64 yy.n.d)).setCell ⟨w2.heap.size, tt * 5 + 4, none⟩ (.int .i64 yy.e)) = wS := ⟨_, rfl⟩
        rw [hWS]
        have P3 := Lib.hid (show wS.ownsRow w2.heap.size 83 5 (.slice (some ⟨w2.heap.size, 0, none⟩) 8 8) 8 (cellsD (colP p 3 i)) by rw [← hWS, HC.out]; exact own_stAt O3.out (by simpa using htl) yy)
        have B4 := Lib.hid (show Below w2.heap.size w2 wS by rw [← hWS]; exact below_stAt (o := tt * 5) B3.out (Nat.le_refl _) yy)
        clear hWS O3 B3 c0 c1 c2 c3' c4' f0 f1 f2 f3 f4
        have hs4 := B4.out.size
        have HW := Lib.hid (O2.out.below B4.out)
        obtain ⟨vs, a1, a2, a3⟩ := HW.out
        rw [colsP_len] at a1
        have A1 := Lib.hid a1
        clear a1 a2 a3
        go_wp2_with (at_builtin; refine wpList_app rfl (.tmp 56) (.tmp 58) 27 rfl Try.underlying27 infoDOmegaS rfl (by decide) rfl (A1.out.alloc _) rfl (Rd.lit wS 79 #[.slice (some ⟨w2.heap.size, 0, none⟩) 8 8] 1 1 rfl) (by simp [Value.oneCell']) (by omega) (by decide) (by simp <;> omega) ?_; intro A9 c9 w9 o9 g9)
        have BB := Lib.hid (below_grown ((B4.out.mono hs2).alloc (by omega) (.cells #[.slice (some ⟨w2.heap.size, 0, none⟩) 8 8] 79)) (by simp <;> omega) (A1.out.alloc _) (Nat.le_refl _) g9)
        go_roundg (gk - 1)
        case measure => omega
        case rel =>
          refine ⟨i + 1, A9, c9, A4, c4, by omega, by go_num, rfl, rfl, ?_, ?_, fun j hj => ?_, X2.out.blockB BB.out (by omega), B2.out.trans (BB.out.mono (by omega))⟩
          · rw [colsP_succ]
            exact OwnSS.app1 (by decide) O2.out (Nat.le_refl _) hs2 (B4.out.alloc hs4 _) (colP_len p 3 i) (P3.out.alloc _) (colsP_len p 3 i) (A1.out.alloc _) g9 o9
          · exact ((ownsRow_below S2.out B4.out).alloc (.cells #[.slice (some ⟨w2.heap.size, 0, none⟩) 8 8] 79)).kept g9 (own_own_ne' ((ownsRow_below S2.out B4.out).alloc (.cells #[.slice (some ⟨w2.heap.size, 0, none⟩) 8 8] 79)) (A1.out.alloc (.cells #[.slice (some ⟨w2.heap.size, 0, none⟩) 8 8] 79)) (by decide))
          · rcases Nat.lt_succ_iff_lt_or_eq.1 hj with h | h
            · exact HDU.out j h
            · rw [h]; exact hd
      · have hz : hasI (tosP p i) tt = true := by rw [← HTT.out]; exact hd
        have HZ := Lib.hid hz
        have HDD := Lib.hid (ppmN_dup (n := 3) (show i < 2 ^ 3 from hlt) hd)
        clear hz hd
        go_wp2_with fail
        refine (s_hasI S3 i d3 (tosP p i) tt _ ⟨tosP_len p i, Rd.own S1.out⟩ (by omega)).mono ?_
        rintro e w' ⟨rfl, rfl⟩
        rw [HZ.out]
        go_wp2_with fail
        go_ret
        rw [HDD.out]
        exact ⟨_, 0, rfl, OwnSS.lit0 w1 B1.out.size _ _ _ _, B1.out.alloc B1.out.size _⟩
    · obtain rfl : i = 8 := by omega
      have HF := Lib.hid (ppmN_ok (p := p) (n := 3) fun j hj => HDU.out j hj)
      have HA := Lib.hid (colsP_all p 3 8)
      go_wp2_with fail
      refine (s_l7Cols _ 8 _ (colsP p 3 8) _ (HOS.out.rd (colsP_len p 3 8)) (by omega) HA.out).mono ?_
      rintro e w6 ⟨A6, c6, rfl, o6, b6⟩
      go_wp2_with fail
      go_ret
      rw [HF.out]
      exact ⟨A6, c6, rfl, o6.base_ hs0, HB.out.trans (b6.mono hs0)⟩
set_option maxRecDepth 100000 in
set_option maxHeartbeats 6400000 in
theorem s_Ppm4 (H : Int) (t o : List (Int × Int)) (AT AO : Option Addr) (nT cT cO : Nat) (w : World) (hT : RdP w AT nT t) (hO : RdP w AO 4 o) (bT : nT ≤ 549755813888) :
    Calls Try.prog 9 #[.agg #[.int .i64 4, .int .i64 H, .slice AT nT cT, .slice AO 4 cO]] w (RetSD (ppmN ⟨4, H, t, o⟩ 4) w) := by
  obtain ⟨p, hp⟩ : ∃ p : Po, (⟨4, H, t, o⟩ : Po) = p := ⟨_, rfl⟩
  have e4 : p.o.length = 4 := by rw [← hp]; exact hO.1
  have HE1 := Lib.hid (show ∀ i : Nat, evO (i : Int) 0 o 0 = (toN p i : Nat) from fun i => by have := toN_int (p := p) (by omega) i; rw [← hp] at this ⊢; exact this)
  have HE2 := Lib.hid (show ∀ i : Nat, evT (i : Int) t H % 8 = (phN p i : Nat) from fun i => by have := phN_int p i; rw [← hp] at this ⊢; exact this)
  have HTO := Lib.hid (show ∀ i, toN p i < 16 from fun i => by have := toN_lt p i; rw [e4] at this; exact this)
  rw [hp]
  have HT := Lib.hid hT
  have HO := Lib.hid hO
  have X0 := Lib.hid (Bx.new w 32 #[.int .i64 4, .int .i64 H, .slice AT nT cT, .slice AO 4 cO])
  have I1 := Lib.hid (show inB 4 1 4 = true by decide)
  clear hT hO e4 hp
  obtain ⟨p0, p1, p2, p3, _⟩ := X0.out.four
  go_enter Try.func9, Try.ntmps9
  go_wp2_with fail
  refine (s_in _ _ _ _).mono ?_
  rintro e w1 ⟨rfl, rfl⟩
  rw [I1.out]
  go_wp2_with fail
  clear p0 p1 p2 p3
  go_loopg [3, 4, 5] 16 (fun r v s j wr => ∃ (i : Nat) (A : Option Addr) (c : Nat) (S : Option Addr) (d : Nat), i + r = 16 ∧ j = .int .i64 i ∧ v = .slice A i c ∧ s = .slice S i d ∧ OwnSS cellsD wr (w.heap.size + 1) 79 83 5 (.slice A i c) (colsP p 4 i) ∧ wr.ownsRow (w.heap.size + 1) 3 1 (.slice S i d) i (cellsI (tosP p i)) ∧ (∀ j, j < i → dupP p j = false) ∧ Bx wr w.heap.size 32 #[.int .i64 4, .int .i64 H, .slice AT nT cT, .slice AO 4 cO] ∧ Below w.heap.size w wr)
  case atStart =>
    refine ⟨0, _, 0, _, 0, by omega, rfl, rfl, rfl, ?_, ?_, by simp, ((Bx.new w _ _).alloc _).alloc _, (((Below.refl _ _).alloc (Nat.le_refl _) _).alloc (by simp) _).alloc (by simp <;> omega) _⟩
    · have := (OwnSS.lit0 (w.alloc (.cells #[.int .i64 4, .int .i64 H, .slice AT nT cT, .slice AO 4 cO] 32)) (base := w.heap.size + 1) (by simp) 79 83 5 cellsD).alloc (.cells #[] 3)
      simpa [colsP] using this
    · exact ownsRow_lit' _ #[] 0 (by simp) (by simp) (by simp [maxLen]) rfl rfl
  case round =>
    obtain ⟨i, A3, c3, S3, d3, hi, rfl, rfl, rfl, ho, hse, hdup, hx, hb⟩ := hrel
    have HOS := Lib.hid ho
    have HSE := Lib.hid hse
    have HDU := Lib.hid hdup
    have HX := Lib.hid hx
    have HB := Lib.hid hb
    have hs0 := hb.size
    have hrlt : w.heap.size < wr.heap.size := hx.lt
    clear ho hse hdup hx hb
    obtain ⟨p0, p1, p2, p3, _⟩ := HX.out.four
    by_cases hlt : i < 16
    · have htl := HTO.out i
      obtain ⟨tt, htt⟩ : ∃ x, toN p i = x := ⟨_, rfl⟩
      obtain ⟨kk, hkk⟩ : ∃ x, phN p i = x := ⟨_, rfl⟩
      have hk8 : kk < 8 := by rw [← hkk]; exact phN_lt p i
      rw [htt] at htl
      have E1 := Lib.hid (show evO (i : Int) 0 o 0 = (tt : Nat) by rw [HE1.out, htt])
      have E2 := Lib.hid (show evT (i : Int) t H % 8 = (kk : Nat) by rw [HE2.out, hkk])
      obtain ⟨yy, hyy⟩ : ∃ y, phD kk = y := ⟨_, rfl⟩
      have HY := Lib.hid hyy
      have HC := Lib.hid (show colP p 4 i = (List.replicate 16 Dw.zero).set tt yy by unfold colP; rw [htt, hkk, hyy])
      clear hyy
      have HTT := Lib.hid htt
      clear htt hkk
      have hmk : ∀ w : World, (Instr.makeSlice 79 (.int .i64 16) (.int .i64 16)).run Try.prog w = .ok (.slice (some ⟨w.heap.size, 0, none⟩) 16 16) (w.alloc (.cells (madeCells (Value.agg #[.int .i64 0, .int .i64 0, .int .i64 0, .int .i64 0, .int .i64 0]).cells (16 * 5)) 83)) := fun w => run_makeN (P := Try.prog) Try.underlying79 infoDOmega 16 (by omega) (by omega) w
      go_wp2_with fail
      refine (s_EvalP 4 H AT AO nT cT 4 cO t o i _ (HT.out.below HB.out) (HO.out.below HB.out) bT (by omega)).mono ?_
      rintro e w1 ⟨rfl, b1⟩
      rw [E1.out, E2.out]
      have O1 := Lib.hid (HOS.out.below b1)
      have X1 := Lib.hid (HX.out.below b1)
      have B1 := Lib.hid (HB.out.trans (b1.mono hs0))
      have hs1 := b1.size
      have S1 := Lib.hid (ownsRow_below HSE.out b1)
      clear p0 p1 p2 p3 b1
      obtain ⟨p0, p1, p2, p3, _⟩ := X1.out.four
      have h0t : (0 : Int) ≤ (tt : Int) := by omega
      have h1t : (tt : Int) < 16 := by omega
      cases hd : dupP p i
      · have hz : hasI (tosP p i) tt = false := by rw [← HTT.out]; exact hd
        have HZ := Lib.hid hz
        clear hz
        go_wp2_with fail
        refine (s_hasI S3 i d3 (tosP p i) tt _ ⟨tosP_len p i, Rd.own S1.out⟩ (by omega)).mono ?_
        rintro e w' ⟨rfl, rfl⟩
        rw [HZ.out]
        go_wp2_with (at_builtin; refine wpList_app rfl (.tmp 42) (.tmp 44) 62 rfl Try.underlying62 infoInt rfl (by decide) rfl (S1.out.alloc _) rfl (Rd.lit w1 3 #[.int .i64 tt] 1 1 rfl) (by simp [Value.oneCell']) (by omega) (by decide) (by simp <;> omega) ?_; intro A4 c4 w2 o4 g4; have hbb := below_grown (B := w.heap.size + 1) ((Below.refl _ _).alloc (by omega) _) (by simp <;> omega) (S1.out.alloc (.cells #[.int .i64 tt] 3)) (Nat.le_refl _) g4; have hs2 : w.heap.size + 1 ≤ w2.heap.size := Nat.le_trans (by omega) hbb.size; have S2 := Lib.hid (show w2.ownsRow (w.heap.size + 1) 3 1 (.slice A4 (i + 1) c4) (i + 1) (cellsI (tosP p (i + 1))) by rw [tosP_succ, HTT.out, cellsI_append]; exact o4); have O2 := Lib.hid ((O1.out.alloc (.cells #[.int .i64 tt] 3)).kept g4 (fun e n sz u xs he hu => own_own_ne' hu (S1.out.alloc _) (by rcases he with rfl | rfl <;> decide))); have X2 := Lib.hid (X1.out.blockB hbb (by omega)); have B2 := Lib.hid (B1.out.trans (hbb.mono (by omega))); clear o4 g4 hbb p0 p1 p2 p3; obtain ⟨p0, p1, p2, p3, _⟩ := X2.out.four)
        have W2 := Lib.hid (own_made w2 (q := 4) (n := 16) (by omega) (by omega) (by decide))
        go_wp2_with fail
        refine (s_Phase kk _ hk8).mono ?_
        rintro e w3 ⟨rfl, b3⟩
        rw [HY.out]
        have O3 := Lib.hid (ownsRow_below W2.out b3)
        have B3 := Lib.hid (below_alloc b3)
        clear b3 W2 hmk p0 p1 p2 p3
        obtain ⟨⟨⟨x0, c0⟩, ⟨x1, c1⟩, ⟨x2, c2⟩, ⟨x3, c3'⟩, ⟨x4, c4'⟩⟩, f0, f1, f2, f3, f4⟩ := own5 O3.out htl
        go_upto_region 14 with fail
        obtain ⟨wS, hWS⟩ : ∃ wS, (((((w3.setCell ⟨w2.heap.size, tt * 5, none⟩ (.int .i64 yy.n.a)).setCell ⟨w2.heap.size, tt * 5 + 1, none⟩ (.int .i64 yy.n.b)).setCell ⟨w2.heap.size, tt * 5 + 2, none⟩ (.int .i64 yy.n.c)).setCell ⟨w2.heap.size, tt * 5 + 3, none⟩ (.int .i64 yy.n.d)).setCell ⟨w2.heap.size, tt * 5 + 4, none⟩ (.int .i64 yy.e)) = wS := ⟨_, rfl⟩
        rw [hWS]
        have P3 := Lib.hid (show wS.ownsRow w2.heap.size 83 5 (.slice (some ⟨w2.heap.size, 0, none⟩) 16 16) 16 (cellsD (colP p 4 i)) by rw [← hWS, HC.out]; exact own_stAt O3.out (by simpa using htl) yy)
        have B4 := Lib.hid (show Below w2.heap.size w2 wS by rw [← hWS]; exact below_stAt (o := tt * 5) B3.out (Nat.le_refl _) yy)
        clear hWS O3 B3 c0 c1 c2 c3' c4' f0 f1 f2 f3 f4
        have hs4 := B4.out.size
        have HW := Lib.hid (O2.out.below B4.out)
        obtain ⟨vs, a1, a2, a3⟩ := HW.out
        rw [colsP_len] at a1
        have A1 := Lib.hid a1
        clear a1 a2 a3
        go_wp2_with (at_builtin; refine wpList_app rfl (.tmp 56) (.tmp 58) 27 rfl Try.underlying27 infoDOmegaS rfl (by decide) rfl (A1.out.alloc _) rfl (Rd.lit wS 79 #[.slice (some ⟨w2.heap.size, 0, none⟩) 16 16] 1 1 rfl) (by simp [Value.oneCell']) (by omega) (by decide) (by simp <;> omega) ?_; intro A9 c9 w9 o9 g9)
        have BB := Lib.hid (below_grown ((B4.out.mono hs2).alloc (by omega) (.cells #[.slice (some ⟨w2.heap.size, 0, none⟩) 16 16] 79)) (by simp <;> omega) (A1.out.alloc _) (Nat.le_refl _) g9)
        go_roundg (gk - 1)
        case measure => omega
        case rel =>
          refine ⟨i + 1, A9, c9, A4, c4, by omega, by go_num, rfl, rfl, ?_, ?_, fun j hj => ?_, X2.out.blockB BB.out (by omega), B2.out.trans (BB.out.mono (by omega))⟩
          · rw [colsP_succ]
            exact OwnSS.app1 (by decide) O2.out (Nat.le_refl _) hs2 (B4.out.alloc hs4 _) (colP_len p 4 i) (P3.out.alloc _) (colsP_len p 4 i) (A1.out.alloc _) g9 o9
          · exact ((ownsRow_below S2.out B4.out).alloc (.cells #[.slice (some ⟨w2.heap.size, 0, none⟩) 16 16] 79)).kept g9 (own_own_ne' ((ownsRow_below S2.out B4.out).alloc (.cells #[.slice (some ⟨w2.heap.size, 0, none⟩) 16 16] 79)) (A1.out.alloc (.cells #[.slice (some ⟨w2.heap.size, 0, none⟩) 16 16] 79)) (by decide))
          · rcases Nat.lt_succ_iff_lt_or_eq.1 hj with h | h
            · exact HDU.out j h
            · rw [h]; exact hd
      · have hz : hasI (tosP p i) tt = true := by rw [← HTT.out]; exact hd
        have HZ := Lib.hid hz
        have HDD := Lib.hid (ppmN_dup (n := 4) (show i < 2 ^ 4 from hlt) hd)
        clear hz hd
        go_wp2_with fail
        refine (s_hasI S3 i d3 (tosP p i) tt _ ⟨tosP_len p i, Rd.own S1.out⟩ (by omega)).mono ?_
        rintro e w' ⟨rfl, rfl⟩
        rw [HZ.out]
        go_wp2_with fail
        go_ret
        rw [HDD.out]
        exact ⟨_, 0, rfl, OwnSS.lit0 w1 B1.out.size _ _ _ _, B1.out.alloc B1.out.size _⟩
    · obtain rfl : i = 16 := by omega
      have HF := Lib.hid (ppmN_ok (p := p) (n := 4) fun j hj => HDU.out j hj)
      have HA := Lib.hid (colsP_all p 4 16)
      go_wp2_with fail
      refine (s_l7Cols _ 16 _ (colsP p 4 16) _ (HOS.out.rd (colsP_len p 4 16)) (by omega) HA.out).mono ?_
      rintro e w6 ⟨A6, c6, rfl, o6, b6⟩
      go_wp2_with fail
      go_ret
      rw [HF.out]
      exact ⟨A6, c6, rfl, o6.base_ hs0, HB.out.trans (b6.mono hs0)⟩
theorem s_Ppm (p : Po) (AT AO : Option Addr) (nT cT nO cO : Nat) (w : World) (hT : RdP w AT nT p.t) (hO : RdP w AO nO p.o) (bT : nT ≤ 549755813888) :
    Calls Try.prog 9 #[.agg #[.int .i64 p.N, .int .i64 p.H, .slice AT nT cT, .slice AO nO cO]] w (RetSD (ppm p) w) := by
  cases hin : inB p.N 1 4
  · rw [ppm_no (by rw [hin]; simp)]
    exact s_PpmNo1 p AT AO nT cT nO cO w hin
  · by_cases hN : (nO : Int) = p.N
    · have hl := hO.1
      have hb := inB_iff.1 hin
      obtain ⟨N, H, t, o⟩ := p
      simp only at hN hl hb hT hO hin ⊢
      subst hN
      rw [ppm_n (p := ⟨nO, H, t, o⟩) (n := nO) (by omega) rfl hl]
      obtain rfl | rfl | rfl | rfl : nO = 1 ∨ nO = 2 ∨ nO = 3 ∨ nO = 4 := by omega
      · exact s_Ppm1 H t o AT AO nT cT cO w hT hO bT
      · exact s_Ppm2 H t o AT AO nT cT cO w hT hO bT
      · exact s_Ppm3 H t o AT AO nT cT cO w hT hO bT
      · exact s_Ppm4 H t o AT AO nT cT cO w hT hO bT
    · rw [ppm_no (by rw [hO.1]; exact fun h => hN h.2)]
      exact s_PpmNo2 p AT AO nT cT nO cO w hin hN
end Go.Proofs.Ytibhikngiceeeaa
namespace Go.Proofs.Ytibhikngiceeeaa
open Go.RowKit
set_option linter.unusedVariables false

set_option maxHeartbeats 800000 in
theorem l_eqZ_same (x : Zw) (w : World) : Calls Try.prog 155 #[.agg #[.int .i64 x.a, .int .i64 x.b, .int .i64 x.c, .int .i64 x.d], .agg #[.int .i64 x.a, .int .i64 x.b, .int .i64 x.c, .int .i64 x.d]] w fun e w' => e = .returned (.bool true) ∧ Below w.heap.size w w' := by
  go_enter Try.func155, Try.ntmps155
  go_wp2
  go_ret
  exact ⟨rfl, (by repeat (first | exact Below.refl _ _ | assumption | refine Below.drew ?_ | refine Below.alloc ?_ (by simp <;> omega) _))⟩
set_option maxRecDepth 100000 in
set_option maxHeartbeats 1600000 in
theorem l_eqD_same (x : Dw) (w : World) : Calls Try.prog 107 #[.agg #[.int .i64 x.n.a, .int .i64 x.n.b, .int .i64 x.n.c, .int .i64 x.n.d, .int .i64 x.e], .agg #[.int .i64 x.n.a, .int .i64 x.n.b, .int .i64 x.n.c, .int .i64 x.n.d, .int .i64 x.e]] w fun e w' => e = .returned (.bool true) ∧ Below w.heap.size w w' := by
  have D0 := Lib.hid (show DB w w.heap.size x.n x.e ((w.alloc (.cells #[.int .i64 x.n.a, .int .i64 x.n.b, .int .i64 x.n.c, .int .i64 x.n.d, .int .i64 x.e] 83)).alloc (.cells #[.int .i64 x.n.a, .int .i64 x.n.b, .int .i64 x.n.c, .int .i64 x.n.d, .int .i64 x.e] 83)) from ⟨(Bx.new w _ _).alloc _, ((Below.refl _ _).alloc (Nat.le_refl _) _).alloc (by simp) _, Nat.le_refl _⟩)
  have D1 := Lib.hid (show DB w (w.heap.size + 1) x.n x.e ((w.alloc (.cells #[.int .i64 x.n.a, .int .i64 x.n.b, .int .i64 x.n.c, .int .i64 x.n.d, .int .i64 x.e] 83)).alloc (.cells #[.int .i64 x.n.a, .int .i64 x.n.b, .int .i64 x.n.c, .int .i64 x.n.d, .int .i64 x.e] 83)) from ⟨Bx.new' (by simp), ((Below.refl _ _).alloc (Nat.le_refl _) _).alloc (by simp) _, by omega⟩)
  obtain ⟨p0, p1, p2, p3, p4⟩ := D0.out.cells
  obtain ⟨q0, q1, q2, q3, q4⟩ := D1.out.cells
  go_enter Try.func107, Try.ntmps107
  go_wp2_with fail
  refine (l_eqZ_same x.n _).mono ?_
  rintro e w1 ⟨rfl, b1⟩
  have E0 := Lib.hid (D0.out.below b1)
  have E1 := Lib.hid (D1.out.below b1)
  clear p0 p1 p2 p3 p4 q0 q1 q2 q3 q4 b1
  obtain ⟨p0, p1, p2, p3, p4⟩ := E0.out.cells
  obtain ⟨q0, q1, q2, q3, q4⟩ := E1.out.cells
  go_wp2_with fail
  go_ret
  exact ⟨rfl, E0.out.2.1⟩
set_option maxRecDepth 100000 in
set_option maxHeartbeats 800000 in
theorem l_eqDOmegaS_same (A A' : Option Addr) (n c c' : Nat) (gs : List Dw) (w : World) (h : RdD w A n gs) (h' : RdD w A' n gs) (hn : n ≤ 1099511627776) :
    Calls Try.prog 54 #[.slice A n c, .slice A' n c'] w fun e w' => e = .returned (.bool true) ∧ Below w.heap.size w w' := by
  have H := Lib.hid h
  have H' := Lib.hid h'
  clear h h'
  go_enter Try.func54, Try.ntmps54
  go_wp2
  go_loopg [5] n (fun m i wr => ∃ k : Nat, k + m = n ∧ i = .int .i64 k ∧ Below w.heap.size w wr)
  case atStart => exact ⟨0, by omega, rfl, Below.refl _ _⟩
  case round =>
    obtain ⟨k, hk, rfl, hb⟩ := hrel
    by_cases hlt : k < n
    · obtain ⟨b, off, g, rfl, hB, hd, c0, c1, c2, c3, c4⟩ := (H.out.below hb).at_ hlt
      obtain ⟨b', off', g', rfl, hB', hd', c0', c1', c2', c3', c4'⟩ := (H'.out.below hb).at_ hlt
      obtain rfl : g = g' := by rw [hd] at hd'; injection hd'
      clear hd hd'
      go_wp2_with fail
      go_still_tail 8, (by kernel_rfl)
      go_wp2_with (go_at_call 107; refine (l_eqD_same g _).mono ?_; rintro e w1 ⟨rfl, hb1⟩)
      go_roundg (gk - 1)
      case measure => omega
      case rel => exact ⟨k + 1, by omega, by go_num, hb.drew.trans (Below.mono hb1 hb.size)⟩
    · go_wp2
      go_ret
      exact ⟨rfl, hb⟩

def markD (n : Nat) (j : Int) : List Dw := (List.range n).map fun (i : Nat) => ⟨⟨j + 5 * i, j + 5 * i + 1, j + 5 * i + 2, j + 5 * i + 3⟩, j + 5 * i + 4⟩
theorem markD_take (n k : Nat) (j : Int) (h : k ≤ n) : (markD n j).take k = markD k j := by
  simp [markD, ← List.map_take, List.take_range, Nat.min_eq_left h]
theorem markD_drop (n k : Nat) (j : Int) (h : k < n) : (markD n j).drop k = ⟨⟨j + 5 * k, j + 5 * k + 1, j + 5 * k + 2, j + 5 * k + 3⟩, j + 5 * k + 4⟩ :: (markD n j).drop (k + 1) := by
  rw [drop_cons (by simpa [markD] using h)]
  simp [markD]
theorem markD_succ (k : Nat) (j : Int) : markD (k + 1) j = markD k j ++ [⟨⟨j + 5 * k, j + 5 * k + 1, j + 5 * k + 2, j + 5 * k + 3⟩, j + 5 * k + 4⟩] := by
  unfold markD
  rw [List.range_succ, List.map_append]
  rfl
theorem own_stAtE {w : World} {base e g n c : Nat} {vs : List Dw} (h : w.ownsRow base e 5 (.slice (some ⟨g, 0, none⟩) n c) n (cellsD vs)) {k : Nat} (hk : k < vs.length) (y : Dw) : (stAt w g (k * 5) y).ownsRow base e 5 (.slice (some ⟨g, 0, none⟩) n c) n (cellsD (vs.set k y)) ∧ w.grownBy (stAt w g (k * 5) y) (some g) := by
  have s1 := h.stored (k * 5) (.int .i64 y.n.a)
  have s2 := s1.1.stored (k * 5 + 1) (.int .i64 y.n.b)
  have s3 := s2.1.stored (k * 5 + 2) (.int .i64 y.n.c)
  have s4 := s3.1.stored (k * 5 + 3) (.int .i64 y.n.d)
  have s5 := s4.1.stored (k * 5 + 4) (.int .i64 y.e)
  rw [← setD hk y]
  exact ⟨s5.1, (((s1.2.trans s2.2).trans s3.2).trans s4.2).trans s5.2⟩

set_option maxRecDepth 100000 in
set_option maxHeartbeats 800000 in
theorem l_markDOmegaS_some (base e g n c : Nat) (j0 : Int) (xs : List Dw) (w : World) (h : w.ownsRow base e 5 (.slice (some ⟨g, 0, none⟩) n c) n (cellsD xs)) (hn : n ≤ 1099511627776) (hj : 0 ≤ j0) (hj2 : j0 ≤ 1125899906842624) :
    Calls Try.prog 59 #[.slice (some ⟨g, 0, none⟩) n c, .int .i64 j0] w fun e' w' => e' = .returned (.int .i64 (j0 + 5 * n)) ∧ w'.ownsRow base e 5 (.slice (some ⟨g, 0, none⟩) n c) n (cellsD (markD n j0)) ∧ w.grownBy w' (some g) := by
  have hxl : xs.length = n := by have := h.1; rw [length_cellsD] at this; omega
  have H := Lib.hid h
  clear h
  go_enter Try.func59, Try.ntmps59
  go_wp2
  go_loopg [1, 5] n (fun m j i wr => ∃ k : Nat, k + m = n ∧ i = .int .i64 k ∧ j = .int .i64 (j0 + 5 * k) ∧ w.grownBy wr (some g) ∧ ∃ ys : List Dw, ys.length = n ∧ wr.ownsRow base e 5 (.slice (some ⟨g, 0, none⟩) n c) n (cellsD ys) ∧ ys.take k = markD k j0)
  case atStart => exact ⟨0, by omega, rfl, by simp, World.grownBy.refl _ _, _, hxl, H.out, by simp [markD]⟩
  case round =>
    obtain ⟨k, hk, rfl, rfl, hg, ys, hyl, hown, ht⟩ := hrel
    have HT := Lib.hid ht
    clear ht
    by_cases hlt : k < n
    · obtain ⟨⟨⟨x0, q0⟩, ⟨x1, q1⟩, ⟨x2, q2⟩, ⟨x3, q3⟩, ⟨x4, q4⟩⟩, z0, z1, z2, z3, z4⟩ := own5 hown hlt
      go_wp2
      go_roundg (gk - 1)
      case measure => omega
      case rel =>
        have s := own_stAtE hown (k := k) (by omega) ⟨⟨j0 + 5 * k, j0 + 5 * k + 1, j0 + 5 * k + 1 + 1, j0 + 5 * k + 1 + 1 + 1⟩, j0 + 5 * k + 1 + 1 + 1 + 1⟩
        refine ⟨k + 1, by omega, by go_num, by go_num, hg.trans s.2, _, by rw [List.length_set, hyl], s.1, ?_⟩
        rw [List.take_succ_eq_append_getElem (by rw [List.length_set]; omega), List.getElem_set_self, List.take_set_of_le (Nat.le_refl _), HT.out, markD_succ]
        congr 3
        all_goals (first | rfl | omega | (congr 1 <;> omega))
    · go_wp2
      go_ret
      obtain rfl : k = n := by omega
      have e1 : ys = markD k j0 := by
        have h1 := HT.out
        rwa [List.take_of_length_le (by omega)] at h1
      exact ⟨rfl, e1 ▸ hown, hg⟩
theorem l_markDOmegaS (base e n c : Nat) (A : Option Addr) (j0 : Int) (xs : List Dw) (w : World) (h : w.ownsRow base e 5 (.slice A n c) n (cellsD xs)) (hn : n ≤ 1099511627776) (hj : 0 ≤ j0) (hj2 : j0 ≤ 1125899906842624) :
    Calls Try.prog 59 #[.slice A n c, .int .i64 j0] w fun e' w' => e' = .returned (.int .i64 (j0 + 5 * n)) ∧ w'.ownsRow base e 5 (.slice A n c) n (cellsD (markD n j0)) ∧ w.grownBy w' (Value.slice A n c).ownBlock := by
  rcases h.2 with ⟨h0, h1⟩ | ⟨g, cap, cur, hv, _⟩
  · injection h0 with hA _ hc
    subst hA hc h1
    clear h
    go_enter Try.func59, Try.ntmps59
    go_wp2
    refine wp_loop_rounds 1 ?_
    rw [rounds_succ]
    go_wp2
    go_ret
    exact ⟨ret_int (by simp), World.ownsRow_nil _ _ _ _, World.grownBy.refl _ _⟩
  · injection hv with hA _ hc
    subst hA hc
    exact l_markDOmegaS_some base e g n c j0 xs w h hn hj hj2
set_option maxRecDepth 100000 in
set_option maxHeartbeats 800000 in
theorem l_heldDOmegaS (A : Option Addr) (n c : Nat) (j0 : Int) (w : World) (h : RdD w A n (markD n j0)) (hn : n ≤ 1099511627776) (hj : 0 ≤ j0) (hj2 : j0 ≤ 1125899906842624) :
    Calls Try.prog 60 #[.slice A n c, .int .i64 j0] w fun e' w' => e' = .returned (.int .i64 (j0 + 5 * n)) ∧ w = w' := by
  have H := Lib.hid h
  clear h
  go_enter Try.func60, Try.ntmps60
  go_wp2
  go_loop [1, 5] (fun j i => ∃ k : Nat, k ≤ n ∧ i = .int .i64 k ∧ j = .int .i64 (j0 + 5 * k)) (fun _ i => n - (intOf i).toNat)
  case atStart => exact ⟨0, by omega, rfl, by simp⟩
  case round =>
    obtain ⟨k, hk, rfl, rfl⟩ := hrel
    by_cases hlt : k < n
    · obtain ⟨b, off, g, rfl, hB, hd, c0, c1, c2, c3, c4⟩ := H.out.at_ hlt
      rw [markD_drop n k j0 hlt] at hd
      injection hd with hd _
      subst hd
      have e2 : (j0 + 5 * (k : Int) + 2 != j0 + 5 * (k : Int) + 1 + 1) = false := by simp; omega
      have e3 : (j0 + 5 * (k : Int) + 3 != j0 + 5 * (k : Int) + 1 + 1 + 1) = false := by simp; omega
      have e4 : (j0 + 5 * (k : Int) + 4 != j0 + 5 * (k : Int) + 1 + 1 + 1 + 1) = false := by simp; omega
      go_wp2
      go_round
      case rel => exact ⟨k + 1, by omega, by go_num, by go_num⟩
      case measure => simp [intOf]; omega
    · go_wp2
      go_ret
      obtain rfl : k = n := by omega
      exact ⟨rfl, rfl⟩
end Go.Proofs.Ytibhikngiceeeaa
namespace Go.Proofs.Ytibhikngiceeeaa
open Go.RowKit

set_option maxRecDepth 100000 in
set_option maxHeartbeats 800000 in
theorem l_eqDOmegaSS_same (A A' : Option Addr) (n c c' : Nat) (l : List (List Dw)) (w : World) (h : RdSS cellsD w 5 A n l) (h' : RdSS cellsD w 5 A' n l) (hn : n ≤ 1099511627776) (hl : ∀ x ∈ l, x.length ≤ 1099511627776) :
    Calls Try.prog 12 #[.slice A n c, .slice A' n c'] w fun e w' => e = .returned (.bool true) ∧ Below w.heap.size w w' := by
  have H := Lib.hid h
  have H' := Lib.hid h'
  have HL := Lib.hid hl
  clear h h' hl
  go_enter Try.func12, Try.ntmps12
  go_wp2
  go_loopg [5] n (fun m i wr => ∃ k : Nat, k + m = n ∧ i = .int .i64 k ∧ Below w.heap.size w wr)
  case atStart => exact ⟨0, by omega, rfl, Below.refl _ _⟩
  case round =>
    obtain ⟨k, hk, rfl, hb⟩ := hrel
    by_cases hlt : k < n
    · obtain ⟨b, off, x, B, d, rfl, hB, hd, c0, hxc, hx⟩ := (H.out.below hb).at_ hlt
      obtain ⟨b', off', x', B', d', rfl, hB', hd', c0', hxc', hx'⟩ := (H'.out.below hb).at_ hlt
      obtain rfl : x = x' := by rw [hd] at hd'; injection hd'
      have hxl := HL.out x (by have := List.mem_of_mem_drop (l := l) (i := k) (a := x) (by rw [hd]; simp); exact this)
      have HX := Lib.hid hx
      have HX' := Lib.hid hx'
      clear hd hd' hx hx'
      have hi0 : (0 : Int) ≤ (k : Int) := by omega
      have hi1 : (k : Int) < (n : Int) := by omega
      obtain ⟨nx, hnx⟩ : ∃ nx, nx = x.length := ⟨_, rfl⟩
      rw [← hnx] at c0 c0' hxc hxc' hxl
      have HN := Lib.hid hnx
      clear hnx
      go_wp2_with fail
      go_still_tail 8, (by kernel_rfl)
      go_wp2_with (go_at_call 54; refine (l_eqDOmegaS_same _ _ _ _ _ x _ ⟨HN.out.symm, by rw [HN.out]; exact HX.out⟩ ⟨HN.out.symm, by rw [HN.out]; exact HX'.out⟩ hxl).mono ?_; rintro e w1 ⟨rfl, hb1⟩)
      go_roundg (gk - 1)
      case measure => omega
      case rel => exact ⟨k + 1, by omega, by go_num, hb.drew.trans (Below.mono hb1 hb.size)⟩
    · go_wp2
      go_ret
      exact ⟨rfl, hb⟩

def lensDOmega (l : List (List Dw)) : List Nat := l.map List.length

set_option maxRecDepth 100000 in
set_option maxHeartbeats 1600000 in
theorem l_markDOmegaSS (base eo ei n c : Nat) (A : Option Addr) (j0 : Int) (l : List (List Dw)) (w : World) (hne : eo ≠ ei) (hbase : base ≤ w.heap.size) (h : OwnSS cellsD w base eo ei 5 (.slice A n c) l) (hln : l.length = n) (hn : n ≤ 1099511627776) (ht : tot (lensDOmega l) ≤ 1099511627776) (hj : 0 ≤ j0) (hj2 : j0 ≤ 1099511627776) :
    Calls Try.prog 15 #[.slice A n c, .int .i64 j0] w fun e' w' => e' = .returned (.int .i64 (j0 + 5 * tot (lensDOmega l))) ∧ OwnSS cellsD w' base eo ei 5 (.slice A n c) (marksL markD 5 (lensDOmega l) j0) ∧ Below base w w' := by
  have H := Lib.hid h
  have HT := Lib.hid ht
  clear h
  obtain ⟨L, hL⟩ : ∃ L, L = lensDOmega l := ⟨_, rfl⟩
  rw [← hL]
  have HLn := Lib.hid hln
  have HLL := Lib.hid hL
  clear hL hln
  have hLl : L.length = n := by rw [HLL.out, lensDOmega, List.length_map, HLn.out]
  have HLl := Lib.hid hLl
  clear hLl ht
  go_enter Try.func15, Try.ntmps15
  go_wp2
  go_loopg [1, 5] n (fun m j i wr => ∃ (k : Nat) (jj : Int), k + m = n ∧ i = .int .i64 k ∧ j = .int .i64 jj ∧ jj = j0 + 5 * (tot (L.take k) : Nat) ∧ OwnSS cellsD wr base eo ei 5 (.slice A n c) ((marksL markD 5 L j0).take k ++ l.drop k) ∧ Below base w wr)
  case atStart => exact ⟨0, j0, by omega, rfl, rfl, by simp [tot], by simpa using H.out, Below.refl _ _⟩
  case round =>
    obtain ⟨k, jj, hk, rfl, rfl, hjj, ho, hb⟩ := hrel
    by_cases hlt : k < n
    · have hll : ((marksL markD 5 L j0).take k ++ l.drop k).length = n := by rw [List.length_append, List.length_take, List.length_drop, marksL_len, HLl.out, HLn.out]; omega
      obtain ⟨g, cap, x, D, d, hv, hd, c0, f0, ox, ht⟩ := OwnSS.at_ hne ho (k := k) (by omega)
      have hmk : ((marksL markD 5 L j0).take k).length = k := by rw [List.length_take, marksL_len, HLl.out]; omega
      have hlx : l.drop k = x :: l.drop (k + 1) := by
        rw [List.drop_append_of_le_length (by omega), List.drop_of_length_le (by omega), List.nil_append] at hd
        have h1 := drop_cons (l := l) (k := k) (by have := HLn.out; omega)
        rw [h1] at hd ⊢
        injection hd with h2 _
        rw [h2]
      have hLx : L.drop k = x.length :: L.drop (k + 1) := by
        rw [HLL.out, lensDOmega, ← List.map_drop, hlx, List.map_cons, List.map_drop]
      have hxt : tot (L.take (k + 1)) = tot (L.take k) + x.length := tot_take hLx
      have hle := tot_take_le L (k + 1)
      have hle2 : tot L ≤ 1099511627776 := by rw [HLL.out]; exact HT.out
      rw [hll] at hv
      have hA : A = some ⟨g, 0, none⟩ := by injection hv
      have HLX := Lib.hid hlx
      have HLLX := Lib.hid hLx
      have HTK := Lib.hid ht
      have OX := Lib.hid ox
      have HMK := Lib.hid hmk
      obtain ⟨t0, h0⟩ : ∃ t0, tot (L.take k) = t0 := ⟨_, rfl⟩
      obtain ⟨nx, h1⟩ : ∃ nx, x.length = nx := ⟨_, rfl⟩
      rw [h0] at hxt
      rw [h1] at hxt c0
      rw [h0] at hjj
      have HH0 := Lib.hid h0
      have HH1 := Lib.hid h1
      have HXT := Lib.hid hxt
      have hbd : t0 + nx ≤ 1099511627776 := by omega
      have hj1 : 0 ≤ jj := by omega
      have hj3 : jj ≤ 10995116277760 := by omega
      have hj4 : jj + 5 * nx ≤ 21990232555520 := by omega
      have HJ := Lib.hid hjj
      clear hlx hLx ht ox hmk hxt hle hle2 h0 h1 hll hd ho hv hjj
      subst hA
      have hi0 : (0 : Int) ≤ (k : Int) := by omega
      have hi1 : (k : Int) < (n : Int) := by omega
      go_wp2_with fail
      refine (l_markDOmegaS base ei nx d D _ _ _ (by have := OX.out; rw [HH1.out] at this; exact this) (by omega) (by omega) (by omega)).mono ?_
      rintro e w1 ⟨rfl, om, gm⟩
      have O1 := Lib.hid (HTK.out w1 (markD nx jj) (by rw [HH1.out]; simp [markD]) (by rw [HH1.out]; exact gm) (by rw [HH1.out]; exact om))
      have hbm : Below base w w1 := by
        refine hb.trans ⟨gm.os, gm.tape, gm.output, gm.size, fun j hj => gm.block j ?_ ?_⟩
        · have := hb.size; omega
        · intro he
          have := (OX.out.lt j (by rw [HH1.out]; exact he.symm)).1
          omega
      clear om gm
      go_wp2_with fail
      go_roundg (gk - 1)
      case measure => omega
      case rel =>
        refine ⟨k + 1, jj + 5 * nx, by omega, by go_num, by first | rfl | (simp only [Int.one_mul]), ?_, ?_, hbm⟩
        · rw [HXT.out, HJ.out, Int.natCast_add]; omega
        · have h2 := O1.out
          have h3 := marksL_drop markD 5 L k x.length j0 HLLX.out
          rw [HH0.out, HH1.out, show (j0 + ((5 : Nat) : Int) * (t0 : Int)) = jj from by rw [HJ.out]; rfl] at h3
          have h4 : (marksL markD 5 L j0).take (k + 1) = (marksL markD 5 L j0).take k ++ [markD nx jj] := by
            have h5 := List.getElem?_eq_some_iff.1 h3
            obtain ⟨h6, h7⟩ := h5
            rw [List.take_succ_eq_append_getElem h6, h7]
          rw [h4, List.append_assoc]
          rw [HLX.out, List.set_append_right _ _ (by rw [HMK.out]; omega)] at h2
          simpa [HMK.out] using h2
    · have HJ := Lib.hid hjj
      clear hjj
      go_wp2
      go_ret
      obtain rfl : k = n := by omega
      have hjj := HJ.out
      have h1 : (marksL markD 5 L j0).take k ++ l.drop k = marksL markD 5 L j0 := by
        rw [List.take_of_length_le (by rw [marksL_len, HLl.out]; omega), List.drop_of_length_le (by rw [HLn.out]; omega), List.append_nil]
      rw [h1] at ho
      rw [List.take_of_length_le (by rw [HLl.out]; omega)] at hjj
      exact ⟨ret_int (by omega), ho, hb⟩

set_option maxRecDepth 100000 in
set_option maxHeartbeats 800000 in
theorem l_heldDOmegaSS (A : Option Addr) (n c : Nat) (j0 : Int) (L : List Nat) (w : World) (h : RdSS cellsD w 5 A n (marksL markD 5 L j0)) (hln : L.length = n) (hn : n ≤ 1099511627776) (ht : tot L ≤ 1099511627776) (hj : 0 ≤ j0) (hj2 : j0 ≤ 1099511627776) :
    Calls Try.prog 16 #[.slice A n c, .int .i64 j0] w fun e' w' => e' = .returned (.int .i64 (j0 + 5 * tot L)) ∧ w = w' := by
  have H := Lib.hid h
  have HT := Lib.hid ht
  have HLn := Lib.hid hln
  clear h ht hln
  go_enter Try.func16, Try.ntmps16
  go_wp2
  go_loop [1, 5] (fun j i => ∃ (k : Nat) (jj : Int), k ≤ n ∧ i = .int .i64 k ∧ j = .int .i64 jj ∧ jj = j0 + 5 * (tot (L.take k) : Nat)) (fun _ i => n - (intOf i).toNat)
  case atStart => exact ⟨0, j0, by omega, rfl, rfl, by simp [tot]⟩
  case round =>
    obtain ⟨k, jj, hk, rfl, rfl, hjj⟩ := hrel
    by_cases hlt : k < n
    · obtain ⟨b, off, x, B, d, rfl, hB, hd, c0, hxc, hx⟩ := H.out.at_ hlt
      have hLx := drop_cons (l := L) (k := k) (by have := HLn.out; omega)
      have h3 := marksL_drop markD 5 L k _ j0 hLx
      have h4 : (marksL markD 5 L j0)[k]? = some x := by
        have := congrArg (fun r => r[0]?) hd
        simpa using this
      rw [h4] at h3
      injection h3 with h3
      have hxt := tot_take hLx
      have hle := tot_take_le L (k + 1)
      have hle2 := HT.out
      obtain ⟨t0, h0⟩ : ∃ t0, tot (L.take k) = t0 := ⟨_, rfl⟩
      obtain ⟨nx, h1⟩ : ∃ nx, L[k]'(by have := HLn.out; omega) = nx := ⟨_, rfl⟩
      rw [h0, h1] at hxt h3
      rw [h0] at hjj
      rw [show (j0 + ((5 : Nat) : Int) * (t0 : Int)) = jj from by rw [hjj]; rfl] at h3
      have h5 : x.length = nx := by rw [h3]; simp [markD]
      rw [h5] at c0 hxc hx
      have hbd : t0 + nx ≤ 1099511627776 := by omega
      have HX := Lib.hid hx
      have H3 := Lib.hid h3
      have H5 := Lib.hid h5
      have HXT := Lib.hid hxt
      have hj1 : 0 ≤ jj := by omega
      have hj3 : jj ≤ 10995116277760 := by omega
      have hj4 : jj + 5 * nx ≤ 21990232555520 := by omega
      have HJ := Lib.hid hjj
      clear hx h3 h5 hxt hd hLx h4 hle hle2 h0 h1 hjj
      go_wp2_with fail
      refine (l_heldDOmegaS _ nx _ _ _ ⟨by simp [markD], by rw [← H3.out]; exact HX.out⟩ (by omega) (by omega) (by omega)).mono ?_
      rintro e w1 ⟨rfl, rfl⟩
      go_wp2_with fail
      go_round
      case rel => exact ⟨k + 1, jj + 5 * nx, by omega, by go_num, by first | rfl | (simp only [Int.one_mul]), by rw [HXT.out, HJ.out, Int.natCast_add]; omega⟩
      case measure => simp [intOf]; omega
    · have HJ := Lib.hid hjj
      clear hjj
      go_wp2
      go_ret
      obtain rfl : k = n := by omega
      have hjj := HJ.out
      rw [List.take_of_length_le (by rw [HLn.out]; omega)] at hjj
      exact ⟨ret_int (by omega), rfl⟩
end Go.Proofs.Ytibhikngiceeeaa
